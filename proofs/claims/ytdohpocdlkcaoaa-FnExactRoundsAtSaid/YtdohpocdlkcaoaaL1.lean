/- What functions of this program compute, over plain data. No condition. -/
import Derived.Test.YtdohpocdlkcaoaaAbsLaws
set_option linter.all false
namespace Abs.Y
open Go Go.Proofs Abs
open Nat renaming reduceEqDiff -> Qa, reduceLT -> Qb, reduceAdd -> Qc, reduceMul -> Qd, reduceSub -> Qe, reduceLeDiff -> Qf, reduceSubDiff -> Qg, reduceBEq -> Qh
open Bool renaming not_eq_true' -> Ba, not_eq_false' -> Bb, and_eq_true -> Bc, or_eq_true -> Bd, or_eq_false_iff -> Be
open Int renaming ofNat_lt -> Ia, ofNat_le -> Ib, not_lt -> Ic, not_le -> Ie
open Decidable renaming not_not -> Da
set_option maxRecDepth 100000

theorem szIntS_ok (a : List Int) (left : Int) (hl : a.length<=9223372036854775807) (h1 : 0<=left∧left<=1048576) : Ctr Try.prog 161 [.ints a,.int .i64 left] false (.d (.int .i64 (szI a left))) []:=by
 refine Ctr.of (n:=12) (rs:=[.tmp 4]) Try.func161 rfl rfl Try.ntmps161 rfl rfl (by kernel_rfl) Try.checked.mixed ?_
 simp (disch:=first | omega | decide +kernel) only [D.ints,go_sem,Qa,Qb,Qc,Qd,Qe,↓reduceIte,reduceCtorEq,Qf,Qg,Qh]
 (repeat' (first | ((first | (refine gsel_split (fun q' => ?_) (fun q' => ?_)<;>(have h':=q')<;>(try simp only [za1,za2,Ba,Bb,za3,ne_eq,za4,za5,za6,Ia,Ib,Ic,Ie,Da,Bc,Bd,Be,za7,za8] at h')) | (have q':=trivial; first | refine hE _ _ ret_ne ?_ | refine hE _ _ exit_ne ?_))<;>(try simp (disch:=first | omega | decide +kernel) only [q',go_sem,Qa,Qb,Qc,Qd,Qe,↓reduceIte,reduceCtorEq,Qf,Qg,Qh])<;>clear q') | refine hN _ ?_ ?_ Wk.kk | with_reducible refine And.intro ?_ ?_ | with_reducible omega | exact ok_ints | exact cells_ints | exact no_mem | with_reducible exact plain_ints | (refine le_maxLen ?_; omega) | (refine za9 ⟨?_,?_⟩) | (simp only [go_sem,Qc,Qb,zb1,zb2,forall_eq]; done)))
 . simp [szI,h',D.plain]
 . simp [szI,show ¬ (left - a.length < 0) by omega]
theorem toIntS_ok (a : List Int) (hl : a.length<=4294967296) : Ctr Try.prog 165 [.ints a] false (.sl 0) [(0,.arr 3 1 (a.map (.int .i64)))]:=by
 refine Ctr.of (n:=22) (rs:=[.tmp 2]) Try.func165 rfl rfl Try.ntmps165 rfl rfl (by kernel_rfl) Try.checked.mixed ?_
 simp (disch:=first | omega | decide +kernel) only [D.ints,go_sem,Qa,Qb,Qc,Qd,Qe,↓reduceIte,reduceCtorEq,Qf,Qg,Qh]
 refine ⟨by omega,?_⟩
 rw [show List.replicate a.length (D.int .i64 0)=(List.replicate a.length (0 : Int)).map (D.int .i64) by simp]
 refine Ok.loopN [20,19,18,17,16,15,14,13,12,11,10,9,8,7,6,5,4,1] (fun i _ => [(4,.d (.int .i64 (i : Nat)))]) (fun _ (cur : List Int) => [(7,.arr 3 1 (List.map (D.int .i64) cur))]) a.length
  (fun i cur => cur.length=a.length∧∀ j,j < i->cur.getD j 0=a.getD j 0) (List.replicate a.length 0) ⟨by simp,by simp⟩ (Wk.kk) ?_
 rintro R i cur hN hE hi ⟨hcl,hcur⟩
 simp (disch:=first | omega | decide +kernel) only [go_sem,Qa,Qb,Qc,Qd,Qe,↓reduceIte,reduceCtorEq,Qf,Qg,Qh]
 (repeat' (first | ((first | (refine gsel_split (fun q' => ?_) (fun q' => ?_)<;>(have h':=q')<;>(try simp only [za1,za2,Ba,Bb,za3,ne_eq,za4,za5,za6,Ia,Ib,Ic,Ie,Da,Bc,Bd,Be,za7,za8] at h')) | (have q':=trivial; first | refine hE _ _ ret_ne ?_ | refine hE _ _ exit_ne ?_))<;>(try simp (disch:=first | omega | decide +kernel) only [q',go_sem,Qa,Qb,Qc,Qd,Qe,↓reduceIte,reduceCtorEq,Qf,Qg,Qh])<;>clear q') | refine hN _ ?_ ?_ Wk.kk | with_reducible refine And.intro ?_ ?_ | with_reducible omega | exact ok_ints | exact cells_ints | exact no_mem | with_reducible exact plain_ints | (refine le_maxLen ?_; omega) | (refine za9 ⟨?_,?_⟩) | (simp only [go_sem,Qc,Qb,zb1,zb2,forall_eq]; done)))
 . refine hN (cur.set i (a.getD i 0)) _ h' ⟨by simp [hcl],fun j hj => ?_⟩ (Wk.kk)
   rw [set_getDz 0 _ _ _ _ (by omega)]
   by_cases e : j=i
   . subst e; simp
   . rw [if_neg e]; exact hcur j (by omega)
 . obtain rfl : cur=a:=ext_getDz 0 hcl fun j hj => hcur j (by omega)
   exact ret_sl 7 rfl rfl plain_ints
theorem eqIntS_ok (a b : List Int) (hl : a.length<=4294967296) : Ctr Try.prog 174 [.ints a,.ints b] false (.d (.bool (decide (a=b)))) []:=by
 refine Ctr.of (n:=26) (rs:=[.tmp 4]) Try.func174 rfl rfl Try.ntmps174 rfl rfl (by kernel_rfl) Try.checked.mixed ?_
 simp (disch:=first | omega | decide +kernel) only [D.ints,go_sem,Qa,Qb,Qc,Qd,Qe,↓reduceIte,reduceCtorEq,Qf,Qg,Qh]
 (repeat' (first | ((first | (refine gsel_split (fun q' => ?_) (fun q' => ?_)<;>(have h':=q')<;>(try simp only [za1,za2,Ba,Bb,za3,ne_eq,za4,za5,za6,Ia,Ib,Ic,Ie,Da,Bc,Bd,Be,za7,za8] at h')) | (have q':=trivial; first | refine hE _ _ ret_ne ?_ | refine hE _ _ exit_ne ?_))<;>(try simp (disch:=first | omega | decide +kernel) only [q',go_sem,Qa,Qb,Qc,Qd,Qe,↓reduceIte,reduceCtorEq,Qf,Qg,Qh])<;>clear q') | refine hN _ ?_ ?_ Wk.kk | with_reducible refine And.intro ?_ ?_ | with_reducible omega | exact ok_ints | exact cells_ints | exact no_mem | with_reducible exact plain_ints | (refine le_maxLen ?_; omega) | (refine za9 ⟨?_,?_⟩) | (simp only [go_sem,Qc,Qb,zb1,zb2,forall_eq]; done)))
 . have : ¬ a=b:=by rintro rfl; simp at h'
   simp [this,D.plain]
 refine Ok.loopC [25,24,23,22,21,20,19,18,17,16,15,14,13,12,11,10,9,8,7,6,5,4,3,2] (fun i => [(5,.d (.int .i64 (i : Nat)))]) a.length (fun i => ∀ j,j < i->a.getD j 0=b.getD j 0) (by simp) (Wk.kk) ?_
 intro R i hN hE hi hI
 simp (disch:=first | omega | decide +kernel) only [go_sem,Qa,Qb,Qc,Qd,Qe,↓reduceIte,reduceCtorEq,Qf,Qg,Qh]
 (repeat' (first | ((first | (refine gsel_split (fun q' => ?_) (fun q' => ?_)<;>(have h':=q')<;>(try simp only [za1,za2,Ba,Bb,za3,ne_eq,za4,za5,za6,Ia,Ib,Ic,Ie,Da,Bc,Bd,Be,za7,za8] at h')) | (have q':=trivial; first | refine hE _ _ ret_ne ?_ | refine hE _ _ exit_ne ?_))<;>(try simp (disch:=first | omega | decide +kernel) only [q',go_sem,Qa,Qb,Qc,Qd,Qe,↓reduceIte,reduceCtorEq,Qf,Qg,Qh])<;>clear q') | refine hN _ ?_ ?_ Wk.kk | with_reducible refine And.intro ?_ ?_ | with_reducible omega | exact ok_ints | exact cells_ints | exact no_mem | with_reducible exact plain_ints | (refine le_maxLen ?_; omega) | (refine za9 ⟨?_,?_⟩) | (simp only [go_sem,Qc,Qb,zb1,zb2,forall_eq]; done)))
 . rename_i h1 h2
   have : ¬ a=b:=by rintro rfl; exact h' rfl
   simp [this,D.plain]
 . exact all_succ hI h'
 . rename_i h1
   have : a=b:=ext_getDz 0 (by omega) fun j hj => hI j (by omega)
   simp [this,D.plain]

theorem szIntSS_ok (a : List (List Int)) (left : Int) (hl : a.length<=9223372036854775807) (hx : ∀ x ∈ a,x.length<=9223372036854775807) (h1 : 0<=left∧left<=1048576) : Ctr Try.prog 73 [.slice (a.map D.ints),.int .i64 left] false (.d (.int .i64 (szS szI a left))) []:=by
 refine Ctr.of (n:=27) (rs:=[.tmp 4]) Try.func73 rfl rfl Try.ntmps73 rfl rfl (by kernel_rfl) Try.checked.mixed ?_
 simp (disch:=first | omega | decide +kernel) only [go_sem,Qa,Qb,Qc,Qd,Qe,↓reduceIte,reduceCtorEq,Qf,Qg,Qh]
 (repeat' (first | ((first | (refine gsel_split (fun q' => ?_) (fun q' => ?_)<;>(have h':=q')<;>(try simp only [za1,za2,Ba,Bb,za3,ne_eq,za4,za5,za6,Ia,Ib,Ic,Ie,Da,Bc,Bd,Be,za7,za8] at h')) | (have q':=trivial; first | refine hE _ _ ret_ne ?_ | refine hE _ _ exit_ne ?_))<;>(try simp (disch:=first | omega | decide +kernel) only [q',go_sem,Qa,Qb,Qc,Qd,Qe,↓reduceIte,reduceCtorEq,Qf,Qg,Qh])<;>clear q') | refine hN _ ?_ ?_ Wk.kk | with_reducible refine And.intro ?_ ?_ | with_reducible omega | exact ok_ints | exact cells_ints | exact no_mem | with_reducible exact plain_ints | (refine le_maxLen ?_; omega) | (refine za9 ⟨?_,?_⟩) | (simp only [go_sem,Qc,Qb,zb1,zb2,forall_eq]; done)))
 . simp [szS,h',D.plain]
 rw [szS,if_neg (by omega)]
 refine Ok.loopN [25,24,23,22,21,20,19,18,17,16,15,14,13,12,11,10,9,8,7,6,5,4,3,2,1] (fun i l => [(5,.d (.int .i64 (i : Nat))),(1,.d (.int .i64 l))]) (fun _ _ => []) a.length
  (fun i (l : Int) => 0<=l∧l<=1048576∧szL szI a (left - a.length)=szL szI (a.drop i) l) (left - a.length) ⟨by omega,by omega,by simp⟩ (Wk.kk) ?_
 rintro R i l hN hE hi ⟨h3,h4,h5⟩
 simp (disch:=first | omega | decide +kernel) only [go_sem,Qa,Qb,Qc,Qd,Qe,↓reduceIte,reduceCtorEq,Qf,Qg,Qh]
 by_cases hlt : i < a.length
 . have he:=hx _ (getD_mem (z:=([] : List Int)) hlt)
   have hf:=szI_szF (a.getD i ([] : List Int)) l h3
   rw [drop_cons ([] : List Int) a i hlt,szL] at h5
   have hc:=szIntS_ok (a.getD i []) l he ⟨h3,h4⟩
   (repeat' (first | ((first | (refine gsel_split (fun q' => ?_) (fun q' => ?_)<;>(have h':=q')<;>(try simp only [za1,za2,Ba,Bb,za3,ne_eq,za4,za5,za6,Ia,Ib,Ic,Ie,Da,Bc,Bd,Be,za7,za8] at h')) | (have q':=trivial; first | refine callX_new (hc) rfl (by decide) ?_ | refine callY_new (hc) rfl ?_ | refine hE _ _ ret_ne ?_ | refine hE _ _ exit_ne ?_))<;>(try simp (disch:=first | omega | decide +kernel) only [q',go_sem,Qa,Qb,Qc,Qd,Qe,↓reduceIte,reduceCtorEq,Qf,Qg,Qh])<;>clear q') | refine hN _ ?_ ?_ Wk.kk | with_reducible refine And.intro ?_ ?_ | with_reducible omega | exact ok_ints | exact cells_ints | exact no_mem | with_reducible exact plain_ints | (refine le_maxLen ?_; omega) | (refine za9 ⟨?_,?_⟩) | (simp only [go_sem,Qc,Qb,zb1,zb2,forall_eq]; done)))
   . rw [h5,if_pos h']
   . rw [if_neg (by omega)] at h5
     exact hN _ _ hlt ⟨by omega,by omega,h5⟩ (Wk.kk)
 . rw [List.drop_eq_nil_of_le (by omega),szL] at h5
   (repeat' (first | ((first | (refine gsel_split (fun q' => ?_) (fun q' => ?_)<;>(have h':=q')<;>(try simp only [za1,za2,Ba,Bb,za3,ne_eq,za4,za5,za6,Ia,Ib,Ic,Ie,Da,Bc,Bd,Be,za7,za8] at h')) | (have q':=trivial; first | refine hE _ _ ret_ne ?_ | refine hE _ _ exit_ne ?_))<;>(try simp (disch:=first | omega | decide +kernel) only [q',go_sem,Qa,Qb,Qc,Qd,Qe,↓reduceIte,reduceCtorEq,Qf,Qg,Qh])<;>clear q') | refine hN _ ?_ ?_ Wk.kk | with_reducible refine And.intro ?_ ?_ | with_reducible omega | exact ok_ints | exact cells_ints | exact no_mem | with_reducible exact plain_ints | (refine le_maxLen ?_; omega) | (refine za9 ⟨?_,?_⟩) | (simp only [go_sem,Qc,Qb,zb1,zb2,forall_eq]; done)))
   . rw [h5]
theorem toIntSS_ok (a : List (List Int)) (hl : a.length<=4294967296) (hx : ∀ x ∈ a,x.length<=4294967296) : Ctr Try.prog 78 [.slice (a.map D.ints)] true (.sl 0) [(0,.arr 38 1 (a.map D.ints))]:=by
 refine Ctr.of (n:=23) (rs:=[.tmp 2]) Try.func78 rfl rfl Try.ntmps78 rfl rfl (by kernel_rfl) Try.checked.mixed ?_
 simp (disch:=first | omega | decide +kernel) only [go_sem,Qa,Qb,Qc,Qd,Qe,↓reduceIte,reduceCtorEq,Qf,Qg,Qh]
 refine ⟨by omega,?_⟩
 rw [show List.replicate a.length (D.slice [])=(List.replicate a.length (([] : List Int) : (List Int))).map D.ints by simp [D.ints]]
 refine Ok.loopN [21,20,19,18,17,16,15,14,13,12,11,10,9,8,7,6,5,4,1] (fun i _ => [(4,.d (.int .i64 (i : Nat)))]) (fun _ (cur : List (List Int)) => [(7,.arr 38 1 (List.map D.ints cur))]) a.length
  (fun i cur => cur.length=a.length∧∀ j,j < i->cur.getD j ([] : List Int)=a.getD j ([] : List Int)) (List.replicate a.length ([] : List Int)) ⟨by simp,by simp⟩ (Wk.kk) ?_
 rintro R i cur hN hE hi ⟨hcl,hcur⟩
 simp (disch:=first | omega | decide +kernel) only [go_sem,Qa,Qb,Qc,Qd,Qe,↓reduceIte,reduceCtorEq,Qf,Qg,Qh]
 by_cases hlt : i < a.length
 . have he:=hx _ (getD_mem (z:=([] : List Int)) hlt)
   have hlc : i < cur.length:=by omega
   have hc:=toIntS_ok (a.getD i []) he
   (repeat' (first | ((first | (refine gsel_split (fun q' => ?_) (fun q' => ?_)<;>(have h':=q')<;>(try simp only [za1,za2,Ba,Bb,za3,ne_eq,za4,za5,za6,Ia,Ib,Ic,Ie,Da,Bc,Bd,Be,za7,za8] at h')) | (have q':=trivial; first | refine callX_new (hc) rfl (by decide) ?_ | refine callY_new (hc) rfl ?_ | refine callX_shared (hc) rfl (by decide) ?_ | refine callY_shared (hc) rfl ?_ | refine hE _ _ ret_ne ?_ | refine hE _ _ exit_ne ?_))<;>(try simp (disch:=first | omega | decide +kernel) only [q',go_sem,Qa,Qb,Qc,Qd,Qe,↓reduceIte,reduceCtorEq,Qf,Qg,Qh])<;>clear q') | refine hN _ ?_ ?_ Wk.kk | with_reducible refine And.intro ?_ ?_ | with_reducible omega | exact ok_ints | exact cells_ints | exact no_mem | with_reducible exact plain_ints | (refine le_maxLen ?_; omega) | (refine za9 ⟨?_,?_⟩) | (simp only [go_sem,Qc,Qb,zb1,zb2,forall_eq]; done)))
   all_goals (first | (simp [D.ints,D.step,D.cells,D.ok,D.atom,D.isAgg]; done) | skip)
   . refine hN (cur.set i (a.getD i ([] : List Int))) _ hlt ⟨by simp [hcl],fun j hj => ?_⟩ (by refine Wk.auto ?_ ?_<;>simp [extraK,lk,killL,St.kill,wipeO,wipeS,AV.has,AV.hasL,AO.wipe,List.map_set,updSt,insL,dropS,ins,D.ints])
     rw [set_getDz ([] : List Int) _ _ _ _ hlc]
     by_cases e : j=i
     . subst e; simp
     . rw [if_neg e]; exact hcur j (by omega)
 . (repeat' (first | ((first | (refine gsel_split (fun q' => ?_) (fun q' => ?_)<;>(have h':=q')<;>(try simp only [za1,za2,Ba,Bb,za3,ne_eq,za4,za5,za6,Ia,Ib,Ic,Ie,Da,Bc,Bd,Be,za7,za8] at h')) | (have q':=trivial; first | refine hE _ _ ret_ne ?_ | refine hE _ _ exit_ne ?_))<;>(try simp (disch:=first | omega | decide +kernel) only [q',go_sem,Qa,Qb,Qc,Qd,Qe,↓reduceIte,reduceCtorEq,Qf,Qg,Qh])<;>clear q') | refine hN _ ?_ ?_ Wk.kk | with_reducible refine And.intro ?_ ?_ | with_reducible omega | exact ok_ints | exact cells_ints | exact no_mem | with_reducible exact plain_ints | (refine le_maxLen ?_; omega) | (refine za9 ⟨?_,?_⟩) | (simp only [go_sem,Qc,Qb,zb1,zb2,forall_eq]; done)))
   . obtain rfl : cur=a:=ext_getDz ([] : List Int) hcl fun j hj => hcur j (by omega)
     exact ret_sls 7 rfl rfl
theorem eqIntSS_ok (a b : List (List Int)) (hl : a.length<=4294967296) (hx : ∀ x ∈ a,x.length<=4294967296) : Ctr Try.prog 82 [.slice (a.map D.ints),.slice (b.map D.ints)] false (.d (.bool (decide (a=b)))) []:=by
 refine Ctr.of (n:=27) (rs:=[.tmp 4]) Try.func82 rfl rfl Try.ntmps82 rfl rfl (by kernel_rfl) Try.checked.mixed ?_
 simp (disch:=first | omega | decide +kernel) only [go_sem,Qa,Qb,Qc,Qd,Qe,↓reduceIte,reduceCtorEq,Qf,Qg,Qh]
 (repeat' (first | ((first | (refine gsel_split (fun q' => ?_) (fun q' => ?_)<;>(have h':=q')<;>(try simp only [za1,za2,Ba,Bb,za3,ne_eq,za4,za5,za6,Ia,Ib,Ic,Ie,Da,Bc,Bd,Be,za7,za8] at h')) | (have q':=trivial; first | refine hE _ _ ret_ne ?_ | refine hE _ _ exit_ne ?_))<;>(try simp (disch:=first | omega | decide +kernel) only [q',go_sem,Qa,Qb,Qc,Qd,Qe,↓reduceIte,reduceCtorEq,Qf,Qg,Qh])<;>clear q') | refine hN _ ?_ ?_ Wk.kk | with_reducible refine And.intro ?_ ?_ | with_reducible omega | exact ok_ints | exact cells_ints | exact no_mem | with_reducible exact plain_ints | (refine le_maxLen ?_; omega) | (refine za9 ⟨?_,?_⟩) | (simp only [go_sem,Qc,Qb,zb1,zb2,forall_eq]; done)))
 . have : ¬ a=b:=by rintro rfl; simp at h'
   simp [this,D.plain]
 refine Ok.loopC [26,25,24,23,22,21,20,19,18,17,16,15,14,13,12,11,10,9,8,7,6,5,4,3,2] (fun i => [(5,.d (.int .i64 (i : Nat)))]) a.length (fun i => ∀ j,j < i->a.getD j ([] : List Int)=b.getD j ([] : List Int)) (by simp) (Wk.kk) ?_
 intro R i hN hE hi hI
 simp (disch:=first | omega | decide +kernel) only [go_sem,Qa,Qb,Qc,Qd,Qe,↓reduceIte,reduceCtorEq,Qf,Qg,Qh]
 by_cases hlt : i < a.length
 . have he:=hx _ (getD_mem (z:=([] : List Int)) hlt)
   have hc:=eqIntS_ok (a.getD i []) (b.getD i []) he
   (repeat' (first | ((first | (refine gsel_split (fun q' => ?_) (fun q' => ?_)<;>(have h':=q')<;>(try simp only [za1,za2,Ba,Bb,za3,ne_eq,za4,za5,za6,Ia,Ib,Ic,Ie,Da,Bc,Bd,Be,za7,za8] at h')) | (have q':=trivial; first | refine callX_new (hc) rfl (by decide) ?_ | refine callY_new (hc) rfl ?_ | refine hE _ _ ret_ne ?_ | refine hE _ _ exit_ne ?_))<;>(try simp (disch:=first | omega | decide +kernel) only [q',go_sem,Qa,Qb,Qc,Qd,Qe,↓reduceIte,reduceCtorEq,Qf,Qg,Qh])<;>clear q') | refine hN _ ?_ ?_ Wk.kk | with_reducible refine And.intro ?_ ?_ | with_reducible omega | exact ok_ints | exact cells_ints | exact no_mem | with_reducible exact plain_ints | (refine le_maxLen ?_; omega) | (refine za9 ⟨?_,?_⟩) | (simp only [go_sem,Qc,Qb,zb1,zb2,forall_eq]; done)))
   . have : ¬ a=b:=by rintro rfl; exact h' rfl
     simp [this,D.plain]
   . exact all_succ hI h'
 . (repeat' (first | ((first | (refine gsel_split (fun q' => ?_) (fun q' => ?_)<;>(have h':=q')<;>(try simp only [za1,za2,Ba,Bb,za3,ne_eq,za4,za5,za6,Ia,Ib,Ic,Ie,Da,Bc,Bd,Be,za7,za8] at h')) | (have q':=trivial; first | refine hE _ _ ret_ne ?_ | refine hE _ _ exit_ne ?_))<;>(try simp (disch:=first | omega | decide +kernel) only [q',go_sem,Qa,Qb,Qc,Qd,Qe,↓reduceIte,reduceCtorEq,Qf,Qg,Qh])<;>clear q') | refine hN _ ?_ ?_ Wk.kk | with_reducible refine And.intro ?_ ?_ | with_reducible omega | exact ok_ints | exact cells_ints | exact no_mem | with_reducible exact plain_ints | (refine le_maxLen ?_; omega) | (refine za9 ⟨?_,?_⟩) | (simp only [go_sem,Qc,Qb,zb1,zb2,forall_eq]; done)))
   . have : a=b:=ext_getDz ([] : List Int) (by omega) fun j hj => hI j (by omega)
     simp [this,D.plain]
end Abs.Y
