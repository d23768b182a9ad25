/- What functions of this program compute, over plain data. No condition. -/
import Derived.Test.YtdohpocdlkcaoaaE0
import Derived.Test.YtdohpocdlkcaoaaG3
set_option linter.all false
namespace Abs.Y
open Go Go.Proofs Abs
open Nat renaming reduceEqDiff -> Qa, reduceLT -> Qb, reduceAdd -> Qc, reduceMul -> Qd, reduceSub -> Qe, reduceLeDiff -> Qf, reduceSubDiff -> Qg, reduceBEq -> Qh
open Bool renaming not_eq_true' -> Ba, not_eq_false' -> Bb, and_eq_true -> Bc, or_eq_true -> Bd, or_eq_false_iff -> Be
open Int renaming ofNat_lt -> Ia, ofNat_le -> Ib, not_lt -> Ic, not_le -> Ie
open Decidable renaming not_not -> Da
set_option maxRecDepth 100000

theorem toIntSd_ok (a : List Int) (hl : a.length<=4294967296) : Ctr Try.prog 165 [.ints a] false (.sl 0) [(0,.dp (some (3,1)) (a.map (.int .i64)) none)] :=
 (toIntS_ok a hl).deep (by simp only [bare_ints])
theorem markIntS_ok (τ : Option (TypeId × Nat)) (a : List Int) (k : Int) (h0 : 0<=k) (h1 : k + a.length<=9000000000000000000) :
 CtrM Try.prog 175 [.sl 0,.d (.int .i64 k)] [(0,.dp τ (a.map (.int .i64)) none)] [0] false (.d (.int .i64 (k + a.length))) [(0,.dp τ ((cntI k a.length).map (.int .i64)) none)]:=by
 refine CtrM.of (n:=19) (rs:=[.tmp 4]) Try.func175 rfl rfl Try.ntmps175 rfl rfl (by kernel_rfl) Try.checked.mixed ?_; intro u
 simp (disch:=first | omega | decide +kernel) only [go_sem,Qa,Qb,Qc,Qd,Qe,↓reduceIte,reduceCtorEq,Qf,Qg,Qh]
 refine Ok.loopN [17,16,15,14,13,12,11,10,9,8,7,6,5,3,2,1] (fun i _ => [(5,.d (.int .i64 (i : Nat))),(1,.d (.int .i64 (k + (i : Nat))))]) (fun _ (cur : List Int) => [(0,.dp τ (List.map (D.int .i64) cur) none)]) a.length
  (fun i cur => cur.length=a.length∧∀ j,j < i->cur.getD j 0=k + j) a ⟨rfl,by simp⟩ (Wk.kk) ?_
 rintro R i cur hN hE hi ⟨hcl,hcur⟩
 simp (disch:=first | omega | decide +kernel) only [go_sem,Qa,Qb,Qc,Qd,Qe,↓reduceIte,reduceCtorEq,Qf,Qg,Qh]
 by_cases hlt : i < a.length
 . have hlc : i < cur.length:=by omega
   (repeat' (first | ((first | (refine gsel_split (fun q' => ?_) (fun q' => ?_)<;>(have h':=q')<;>(try simp only [za1,za2,Ba,Bb,za3,ne_eq,za4,za5,za6,Ia,Ib,Ic,Ie,Da,Bc,Bd,Be,za7,za8] at h')) | (have q':=trivial; first | refine hE _ _ ret_ne ?_ | refine hE _ _ exit_ne ?_))<;>(try simp (disch:=first | omega | decide +kernel) only [q',go_sem,Qa,Qb,Qc,Qd,Qe,↓reduceIte,reduceCtorEq,Qf,Qg,Qh])<;>clear q') | refine hN _ ?_ ?_ Wk.kk | with_reducible refine And.intro ?_ ?_ | with_reducible omega | exact ok_ints | exact cells_ints | exact no_mem | with_reducible exact plain_ints | (refine le_maxLen ?_; omega) | (refine za9 ⟨?_,?_⟩) | (simp only [go_sem,Qc,Qb,zb1,zb2,forall_eq]; done)))

   . refine hN (cur.set i (k + i)) _ hlt ⟨by simp [hcl],fun j hj => ?_⟩ (by refine Wk.auto ?_ ?_<;>simp [extraK,lk,killL,St.kill,wipeO,wipeS,AV.has,AV.hasL,AO.wipe,List.map_set,updSt,insL,dropS,ins,Int.add_assoc])
     rw [set_getDz 0 _ _ _ _ hlc]
     by_cases e : j=i
     . subst e; simp
     . rw [if_neg e]; exact hcur j (by omega)
 . (repeat' (first | ((first | (refine gsel_split (fun q' => ?_) (fun q' => ?_)<;>(have h':=q')<;>(try simp only [za1,za2,Ba,Bb,za3,ne_eq,za4,za5,za6,Ia,Ib,Ic,Ie,Da,Bc,Bd,Be,za7,za8] at h')) | (have q':=trivial; first | refine hE _ _ ret_ne ?_ | refine hE _ _ exit_ne ?_))<;>(try simp (disch:=first | omega | decide +kernel) only [q',go_sem,Qa,Qb,Qc,Qd,Qe,↓reduceIte,reduceCtorEq,Qf,Qg,Qh])<;>clear q') | refine hN _ ?_ ?_ Wk.kk | with_reducible refine And.intro ?_ ?_ | with_reducible omega | exact ok_ints | exact cells_ints | exact no_mem | with_reducible exact plain_ints | (refine le_maxLen ?_; omega) | (refine za9 ⟨?_,?_⟩) | (simp only [go_sem,Qc,Qb,zb1,zb2,forall_eq]; done)))
   . obtain rfl : cur=cntI k a.length:=ext_getDz 0 (by rw [cntI_len]; exact hcl) fun j hj => by rw [hcur j (by omega),cntI_getD _ _ _ (by omega)]
     obtain rfl : i=a.length:=by omega
     exact retM_d rfl rfl rfl rfl trivial rfl
theorem heldIntS_ok (n : Nat) (k : Int) (h0 : 0<=k) (h1 : k + n<=9000000000000000000) :
 Ctr Try.prog 176 [.slice ((cntI k n).map (.int .i64)),.int .i64 k] false (.d (.int .i64 (k + n))) []:=by
 have hlen:=cntI_len n k
 refine Ctr.of (n:=21) (rs:=[.tmp 4]) Try.func176 rfl rfl Try.ntmps176 rfl rfl (by kernel_rfl) Try.checked.mixed ?_
 simp (disch:=first | omega | decide +kernel) only [cntI_len,go_sem,Qa,Qb,Qc,Qd,Qe,↓reduceIte,reduceCtorEq,Qf,Qg,Qh]
 refine Ok.loopN [19,18,17,16,15,14,13,12,11,10,9,8,7,6,5,4,3,2,1] (fun i _ => [(5,.d (.int .i64 (i : Nat))),(1,.d (.int .i64 (k + (i : Nat))))]) (fun _ (_ : Unit) => []) n (fun i _ => True) () trivial (Wk.kk) ?_
 rintro R i _ hN hE hi _
 simp (disch:=first | omega | decide +kernel) only [cntI_len,go_sem,Qa,Qb,Qc,Qd,Qe,↓reduceIte,reduceCtorEq,Qf,Qg,Qh]
 by_cases hlt : i < n
 . have hg:=cntI_getD n k i hlt
   (repeat' (first | ((first | (refine gsel_split (fun q' => ?_) (fun q' => ?_)<;>(have h':=q')<;>(try simp only [za1,za2,Ba,Bb,za3,ne_eq,za4,za5,za6,Ia,Ib,Ic,Ie,Da,Bc,Bd,Be,za7,za8] at h')) | (have q':=trivial; first | refine hE _ _ ret_ne ?_ | refine hE _ _ exit_ne ?_))<;>(try simp (disch:=first | omega | decide +kernel) only [q',cntI_len,hg,go_sem,Qa,Qb,Qc,Qd,Qe,↓reduceIte,reduceCtorEq,Qf,Qg,Qh])<;>clear q') | refine hN _ ?_ ?_ Wk.kk | with_reducible refine And.intro ?_ ?_ | with_reducible omega | exact ok_ints | exact cells_ints | exact no_mem | with_reducible exact plain_ints | (refine le_maxLen ?_; omega) | (refine za9 ⟨?_,?_⟩) | (simp only [go_sem,Qc,Qb,zb1,zb2,forall_eq]; done)))
   all_goals (first | omega | skip)
   all_goals (first | exact absurd trivial h' | (refine hN () _ hlt trivial (by refine Wk.auto ?_ ?_<;>simp [extraK,lk,killL,St.kill,wipeO,wipeS,AV.has,AV.hasL,AO.wipe,List.map_set,updSt,insL,dropS,ins,Int.add_assoc]); done))
 . obtain rfl : i=n:=by omega
   (repeat' (first | ((first | (refine gsel_split (fun q' => ?_) (fun q' => ?_)<;>(have h':=q')<;>(try simp only [za1,za2,Ba,Bb,za3,ne_eq,za4,za5,za6,Ia,Ib,Ic,Ie,Da,Bc,Bd,Be,za7,za8] at h')) | (have q':=trivial; first | refine hE _ _ ret_ne ?_ | refine hE _ _ exit_ne ?_))<;>(try simp (disch:=first | omega | decide +kernel) only [q',cntI_len,go_sem,Qa,Qb,Qc,Qd,Qe,↓reduceIte,reduceCtorEq,Qf,Qg,Qh])<;>clear q') | refine hN _ ?_ ?_ Wk.kk | with_reducible refine And.intro ?_ ?_ | with_reducible omega | exact ok_ints | exact cells_ints | exact no_mem | with_reducible exact plain_ints | (refine le_maxLen ?_; omega) | (refine za9 ⟨?_,?_⟩) | (simp only [go_sem,Qc,Qb,zb1,zb2,forall_eq]; done)))
   all_goals (first | omega)
theorem markIntSS_ok (τ : Option (TypeId × Nat)) (a : List (List Int)) (k : Int) (h0 : 0<=k) (h1 : k + lenSS a<=9000000000000000000) (hl : a.length<=4294967296) :
 CtrM Try.prog 83 [.sl 0,.d (.int .i64 k)] [(0,.dp τ (a.map D.ints) none)] [0] false (.d (.int .i64 (k + lenSS a))) [(0,.dp τ ((cntSS a k).map D.ints) none)]:=by
 refine CtrM.of (n:=19) (rs:=[.tmp 4]) Try.func83 rfl rfl Try.ntmps83 rfl rfl (by kernel_rfl) Try.checked.mixed ?_; intro u
 simp (disch:=first | omega | decide +kernel) only [go_sem,Qa,Qb,Qc,Qd,Qe,↓reduceIte,reduceCtorEq,Qf,Qg,Qh]
 refine Ok.loopN [17,16,15,14,13,12,11,10,9,8,7,6,5,3,2,1] (fun i _ => [(5,.d (.int .i64 (i : Nat))),(1,.d (.int .i64 (offSS a k i)))]) (fun _ (cur : List (List Int)) => [(0,.dp τ (List.map D.ints cur) none)]) a.length
  (fun i cur => cur.length=a.length∧(∀ j,j < i->cur.getD j ([] : List Int)=(cntSS a k).getD j ([] : List Int))∧∀ j,i<=j->cur.getD j ([] : List Int)=a.getD j ([] : List Int)) a ⟨rfl,by simp,by simp⟩ (by rw [offSS_zero]; exact (Wk.kk)) ?_
 rintro R i cur hN hE hi ⟨hcl,hcur,hcur2⟩
 simp (disch:=first | omega | decide +kernel) only [go_sem,Qa,Qb,Qc,Qd,Qe,↓reduceIte,reduceCtorEq,Qf,Qg,Qh]
 by_cases hlt : i < a.length
 . have hlc : i < cur.length:=by omega
   have hg:=hcur2 i (Nat.le_refl _)
   have hs:=offSS_succ a k i hlt
   have hle:=offSS_le a k (i + 1)
   have hnn:=offSS_nonneg a i h0
   have hc:=markIntS_ok none (a.getD i ([] : List Int)) (offSS a k i) hnn (by omega)
   (repeat' (first | ((first | (refine gsel_split (fun q' => ?_) (fun q' => ?_)<;>(have h':=q')<;>(try simp only [za1,za2,Ba,Bb,za3,ne_eq,za4,za5,za6,Ia,Ib,Ic,Ie,Da,Bc,Bd,Be,za7,za8] at h')) | (have q':=trivial; first | refine hE _ _ ret_ne ?_ | refine hE _ _ exit_ne ?_))<;>(try simp (disch:=first | omega | decide +kernel) only [q',hg,go_sem,Qa,Qb,Qc,Qd,Qe,↓reduceIte,reduceCtorEq,Qf,Qg,Qh])<;>clear q') | refine hN _ ?_ ?_ Wk.kk | with_reducible refine And.intro ?_ ?_ | with_reducible omega | exact ok_ints | exact cells_ints | exact no_mem | with_reducible exact plain_ints | (refine le_maxLen ?_; omega) | (refine za9 ⟨?_,?_⟩) | (simp only [go_sem,Qc,Qb,zb1,zb2,forall_eq]; done)))
   refine callX_keep _ hc ⟨.inl rfl,.inl rfl,trivial⟩ rfl (by simp [dstB]) ?_
   simp (disch:=first | omega | decide +kernel) only [go_sem,Qa,Qb,Qc,Qd,Qe,↓reduceIte,reduceCtorEq,Qf,Qg,Qh]
   (repeat' (first | ((first | (refine gsel_split (fun q' => ?_) (fun q' => ?_)<;>(have h':=q')<;>(try simp only [za1,za2,Ba,Bb,za3,ne_eq,za4,za5,za6,Ia,Ib,Ic,Ie,Da,Bc,Bd,Be,za7,za8] at h')) | (have q':=trivial; first | refine hE _ _ ret_ne ?_ | refine hE _ _ exit_ne ?_))<;>(try simp (disch:=first | omega | decide +kernel) only [q',go_sem,Qa,Qb,Qc,Qd,Qe,↓reduceIte,reduceCtorEq,Qf,Qg,Qh])<;>clear q') | refine hN _ ?_ ?_ Wk.kk | with_reducible refine And.intro ?_ ?_ | with_reducible omega | exact ok_ints | exact cells_ints | exact no_mem | with_reducible exact plain_ints | (refine le_maxLen ?_; omega) | (refine za9 ⟨?_,?_⟩) | (simp only [go_sem,Qc,Qb,zb1,zb2,forall_eq]; done)))
   refine hN (cur.set i (cntI (offSS a k i) (a.getD i []).length)) _ hlt ⟨by simp [hcl],fun j hj => ?_,fun j hj => ?_⟩ ((Wk.fold 0 (by simp (disch:=first | omega | decide +kernel) only [go_sem,Qa,Qb,Qc,Qd,Qe,↓reduceIte,reduceCtorEq,Qf,Qg,Qh]; rfl)).trans (by refine Wk.auto ?_ ?_<;>simp [extraK,lk,killL,St.kill,wipeO,wipeS,AV.has,AV.hasL,AO.wipe,List.map_set,updSt,insL,dropS,ins,D.ints,hs]))
   . rw [set_getDz ([] : List Int) _ _ _ _ hlc]
     by_cases e : j=i
     . subst e; rw [if_pos rfl,cntSS_getD _ _ _ hlt]
     . rw [if_neg e]; exact hcur j (by omega)
   . rw [set_getDz ([] : List Int) _ _ _ _ hlc,if_neg (by omega)]; exact hcur2 j (by omega)
 . (repeat' (first | ((first | (refine gsel_split (fun q' => ?_) (fun q' => ?_)<;>(have h':=q')<;>(try simp only [za1,za2,Ba,Bb,za3,ne_eq,za4,za5,za6,Ia,Ib,Ic,Ie,Da,Bc,Bd,Be,za7,za8] at h')) | (have q':=trivial; first | refine hE _ _ ret_ne ?_ | refine hE _ _ exit_ne ?_))<;>(try simp (disch:=first | omega | decide +kernel) only [q',go_sem,Qa,Qb,Qc,Qd,Qe,↓reduceIte,reduceCtorEq,Qf,Qg,Qh])<;>clear q') | refine hN _ ?_ ?_ Wk.kk | with_reducible refine And.intro ?_ ?_ | with_reducible omega | exact ok_ints | exact cells_ints | exact no_mem | with_reducible exact plain_ints | (refine le_maxLen ?_; omega) | (refine za9 ⟨?_,?_⟩) | (simp only [go_sem,Qc,Qb,zb1,zb2,forall_eq]; done)))
   . obtain rfl : cur=cntSS a k:=ext_getDz ([] : List Int) (by rw [cntSS_len]; exact hcl) fun j hj => hcur j (by omega)
     obtain rfl : i=a.length:=by omega
     rw [offSS_len]
     exact retM_d rfl rfl rfl rfl trivial rfl
theorem heldIntSS_ok (a : List (List Int)) (k : Int) (h0 : 0<=k) (h1 : k + lenSS a<=9000000000000000000) (hl : a.length<=4294967296) :
 Ctr Try.prog 84 [.slice ((cntSS a k).map D.ints),.int .i64 k] false (.d (.int .i64 (k + lenSS a))) []:=by
 have hcl:=cntSS_len a k
 refine Ctr.of (n:=21) (rs:=[.tmp 4]) Try.func84 rfl rfl Try.ntmps84 rfl rfl (by kernel_rfl) Try.checked.mixed ?_
 simp (disch:=first | omega | decide +kernel) only [go_sem,Qa,Qb,Qc,Qd,Qe,↓reduceIte,reduceCtorEq,Qf,Qg,Qh]
 refine Ok.loopN [19,18,17,16,15,14,13,12,11,10,9,8,7,6,5,4,3,2,1] (fun i _ => [(5,.d (.int .i64 (i : Nat))),(1,.d (.int .i64 (offSS a k i)))]) (fun _ (_ : Unit) => []) a.length (fun i _ => True) () trivial (by rw [offSS_zero]; exact (Wk.kk)) ?_
 rintro R i _ hN hE hi _
 by_cases hlt : i < a.length
 . have hg:=cntSS_getD a k i hlt
   have hs:=offSS_succ a k i hlt
   have hle:=offSS_le a k (i + 1)
   have hnn:=offSS_nonneg a i h0
   have hc:=heldIntS_ok (a.getD i ([] : List Int)).length (offSS a k i) hnn (by omega)
   simp (disch:=first | omega | decide +kernel) only [hg,go_sem,Qa,Qb,Qc,Qd,Qe,↓reduceIte,reduceCtorEq,Qf,Qg,Qh]
   (repeat' (first | ((first | (refine gsel_split (fun q' => ?_) (fun q' => ?_)<;>(have h':=q')<;>(try simp only [za1,za2,Ba,Bb,za3,ne_eq,za4,za5,za6,Ia,Ib,Ic,Ie,Da,Bc,Bd,Be,za7,za8] at h')) | (have q':=trivial; first | refine callX_new (hc) rfl (by decide) ?_ | refine callY_new (hc) rfl ?_ | refine hE _ _ ret_ne ?_ | refine hE _ _ exit_ne ?_))<;>(try simp (disch:=first | omega | decide +kernel) only [q',hg,go_sem,Qa,Qb,Qc,Qd,Qe,↓reduceIte,reduceCtorEq,Qf,Qg,Qh])<;>clear q') | refine hN _ ?_ ?_ Wk.kk | with_reducible refine And.intro ?_ ?_ | with_reducible omega | exact ok_ints | exact cells_ints | exact no_mem | with_reducible exact plain_ints | (refine le_maxLen ?_; omega) | (refine za9 ⟨?_,?_⟩) | (simp only [go_sem,Qc,Qb,zb1,zb2,forall_eq]; done)))
   all_goals (first | omega | exact of_eq_true (bare_ints _) | skip)
   refine hN () _ hlt trivial (by refine Wk.auto ?_ ?_<;>simp [extraK,lk,killL,St.kill,wipeO,wipeS,AV.has,AV.hasL,AO.wipe,List.map_set,updSt,insL,dropS,ins,hs])
 . obtain rfl : i=a.length:=by omega
   simp (disch:=first | omega | decide +kernel) only [go_sem,Qa,Qb,Qc,Qd,Qe,↓reduceIte,reduceCtorEq,Qf,Qg,Qh]
   (repeat' (first | ((first | (refine gsel_split (fun q' => ?_) (fun q' => ?_)<;>(have h':=q')<;>(try simp only [za1,za2,Ba,Bb,za3,ne_eq,za4,za5,za6,Ia,Ib,Ic,Ie,Da,Bc,Bd,Be,za7,za8] at h')) | (have q':=trivial; first | refine hE _ _ ret_ne ?_ | refine hE _ _ exit_ne ?_))<;>(try simp (disch:=first | omega | decide +kernel) only [q',go_sem,Qa,Qb,Qc,Qd,Qe,↓reduceIte,reduceCtorEq,Qf,Qg,Qh])<;>clear q') | refine hN _ ?_ ?_ Wk.kk | with_reducible refine And.intro ?_ ?_ | with_reducible omega | exact ok_ints | exact cells_ints | exact no_mem | with_reducible exact plain_ints | (refine le_maxLen ?_; omega) | (refine za9 ⟨?_,?_⟩) | (simp only [go_sem,Qc,Qb,zb1,zb2,forall_eq]; done)))
   all_goals (first | omega | exact of_eq_true (bare_ints _) | skip)
   all_goals (rw [offSS_len])
end Abs.Y

namespace Abs.Y
open Go Go.Proofs Abs
open Nat renaming reduceEqDiff -> Qa, reduceLT -> Qb, reduceAdd -> Qc, reduceMul -> Qd, reduceSub -> Qe, reduceLeDiff -> Qf, reduceSubDiff -> Qg, reduceBEq -> Qh
open Bool renaming not_eq_true' -> Ba, not_eq_false' -> Bb, and_eq_true -> Bc, or_eq_true -> Bd, or_eq_false_iff -> Be
open Int renaming ofNat_lt -> Ia, ofNat_le -> Ib, not_lt -> Ic, not_le -> Ie
open Decidable renaming not_not -> Da
set_option maxRecDepth 100000

theorem toIntSSd_ok (a : List (List Int)) (hl : a.length<=4294967296) (hx : ∀ x ∈ a,x.length<=4294967296) : Ctr Try.prog 78 [.slice (a.map D.ints)] false (.sl 0) [(0,.dp (some (38,1)) (a.map D.ints) none)]:=by
 refine Ctr.of (n:=23) (rs:=[.tmp 2]) Try.func78 rfl rfl Try.ntmps78 rfl rfl (by kernel_rfl) Try.checked.mixed ?_
 simp (disch:=first | omega | decide +kernel) only [go_sem,Qa,Qb,Qc,Qd,Qe,↓reduceIte,reduceCtorEq,Qf,Qg,Qh]
 refine ⟨by omega,?_⟩
 rw [show List.replicate a.length (D.slice [])=(List.replicate a.length (([] : List Int) : (List Int))).map D.ints by simp [D.ints]]
 refine Ok.loopN [21,20,19,18,17,16,15,14,13,12,11,10,9,8,7,6,5,4,1] (fun i _ => [(4,.d (.int .i64 (i : Nat)))]) (fun _ (cur : List (List Int)) => [(7,.dp (some (38,1)) (List.map D.ints cur) none)]) a.length
  (fun i cur => cur.length=a.length∧∀ j,j < i->cur.getD j ([] : List Int)=a.getD j ([] : List Int)) (List.replicate a.length ([] : List Int)) ⟨by simp,by simp⟩ ((Wk.deep 7 rfl bare_nils).trans (Wk.kk)) ?_
 rintro R i cur hN hE hi ⟨hcl,hcur⟩
 simp (disch:=first | omega | decide +kernel) only [go_sem,Qa,Qb,Qc,Qd,Qe,↓reduceIte,reduceCtorEq,Qf,Qg,Qh]
 by_cases hlt : i < a.length
 . have he:=hx _ (getD_mem (z:=([] : List Int)) hlt)
   have hlc : i < cur.length:=by omega
   have hc:=toIntSd_ok (a.getD i []) he
   (repeat' (first | ((first | (refine gsel_split (fun q' => ?_) (fun q' => ?_)<;>(have h':=q')<;>(try simp only [za1,za2,Ba,Bb,za3,ne_eq,za4,za5,za6,Ia,Ib,Ic,Ie,Da,Bc,Bd,Be,za7,za8] at h')) | (have q':=trivial; first | refine callX_new (hc) rfl (by decide) ?_ | refine callY_new (hc) rfl ?_ | refine hE _ _ ret_ne ?_ | refine hE _ _ exit_ne ?_))<;>(try simp (disch:=first | omega | decide +kernel) only [q',go_sem,Qa,Qb,Qc,Qd,Qe,↓reduceIte,reduceCtorEq,Qf,Qg,Qh])<;>clear q') | refine hN _ ?_ ?_ Wk.kk | with_reducible refine And.intro ?_ ?_ | with_reducible omega | exact ok_ints | exact cells_ints | exact no_mem | with_reducible exact plain_ints | (refine le_maxLen ?_; omega) | (refine za9 ⟨?_,?_⟩) | (simp only [go_sem,Qc,Qb,zb1,zb2,forall_eq]; done)))
   . refine hN (cur.set i (a.getD i ([] : List Int))) _ hlt ⟨by simp [hcl],fun j hj => ?_⟩ (by refine Wk.auto ?_ ?_<;>simp [extraK,lk,killL,St.kill,wipeO,wipeS,AV.has,AV.hasL,AO.wipe,List.map_set,updSt,insL,dropS,ins,D.ints])
     rw [set_getDz ([] : List Int) _ _ _ _ hlc]
     by_cases e : j=i
     . subst e; simp
     . rw [if_neg e]; exact hcur j (by omega)
 . (repeat' (first | ((first | (refine gsel_split (fun q' => ?_) (fun q' => ?_)<;>(have h':=q')<;>(try simp only [za1,za2,Ba,Bb,za3,ne_eq,za4,za5,za6,Ia,Ib,Ic,Ie,Da,Bc,Bd,Be,za7,za8] at h')) | (have q':=trivial; first | refine hE _ _ ret_ne ?_ | refine hE _ _ exit_ne ?_))<;>(try simp (disch:=first | omega | decide +kernel) only [q',go_sem,Qa,Qb,Qc,Qd,Qe,↓reduceIte,reduceCtorEq,Qf,Qg,Qh])<;>clear q') | refine hN _ ?_ ?_ Wk.kk | with_reducible refine And.intro ?_ ?_ | with_reducible omega | exact ok_ints | exact cells_ints | exact no_mem | with_reducible exact plain_ints | (refine le_maxLen ?_; omega) | (refine za9 ⟨?_,?_⟩) | (simp only [go_sem,Qc,Qb,zb1,zb2,forall_eq]; done)))
   . obtain rfl : cur=a:=ext_getDz ([] : List Int) hcl fun j hj => hcur j (by omega)
     exact ret_dp 7 rfl rfl
theorem toCnfd_ok (v : Int) (a : List (List Int)) (hl : a.length<=4294967296) (hx : ∀ x ∈ a,x.length<=4294967296) : Ctr Try.prog 10 [.agg [.int .i64 v,.slice (a.map D.ints)]] false (.st [.d (.int .i64 v),.sl 0]) [(0,.dp (some (38,1)) (a.map D.ints) none)]:=by
 have hc:=toIntSSd_ok a hl hx
 refine Ctr.of (n:=12) (rs:=[.cell 2 29]) Try.func10 rfl rfl Try.ntmps10 rfl rfl (by kernel_rfl) Try.checked.mixed ?_
 simp (disch:=first | omega | decide +kernel) only [go_sem,Qa,Qb,Qc,Qd,Qe,↓reduceIte,reduceCtorEq,Qf,Qg,Qh]
 (repeat' (first | ((first | (refine gsel_split (fun q' => ?_) (fun q' => ?_)<;>(have h':=q')<;>(try simp only [za1,za2,Ba,Bb,za3,ne_eq,za4,za5,za6,Ia,Ib,Ic,Ie,Da,Bc,Bd,Be,za7,za8] at h')) | (have q':=trivial; first | refine callX_new (hc) rfl (by decide) ?_ | refine callY_new (hc) rfl ?_ | refine hE _ _ ret_ne ?_ | refine hE _ _ exit_ne ?_))<;>(try simp (disch:=first | omega | decide +kernel) only [q',go_sem,Qa,Qb,Qc,Qd,Qe,↓reduceIte,reduceCtorEq,Qf,Qg,Qh])<;>clear q') | refine hN _ ?_ ?_ Wk.kk | with_reducible refine And.intro ?_ ?_ | with_reducible omega | exact ok_ints | exact cells_ints | exact no_mem | with_reducible exact plain_ints | (refine le_maxLen ?_; omega) | (refine za9 ⟨?_,?_⟩) | (simp only [go_sem,Qc,Qb,zb1,zb2,forall_eq]; done)))
 exact ret_cst rfl rfl (by simp only [go_sem]) (by simp only [go_sem,List.length_cons,List.length_nil]) rfl (by simp only [go_sem]) rfl rfl ⟨rfl,trivial,trivial⟩ trivial rfl
theorem markCnf_ok (τ : Option (TypeId × Nat)) (v : Int) (a : List (List Int)) (k : Int) (h0 : 0<=k) (h1 : k + lenSS a<=9000000000000000000) (hl : a.length<=4294967296) :
 CtrM Try.prog 14 [.st [.d (.int .i64 v),.sl 0],.d (.int .i64 k)] [(0,.dp τ (a.map D.ints) none)] [0] false (.d (.int .i64 (k + lenSS a))) [(0,.dp τ ((cntSS a k).map D.ints) none)]:=by
 have hc:=markIntSS_ok τ a k h0 h1 hl
 refine CtrM.of (n:=10) (rs:=[.tmp 4]) Try.func14 rfl rfl Try.ntmps14 rfl rfl (by kernel_rfl) Try.checked.mixed ?_; intro u
 simp (disch:=first | omega | decide +kernel) only [go_sem,Qa,Qb,Qc,Qd,Qe,↓reduceIte,reduceCtorEq,Qf,Qg,Qh]
 (repeat' (first | ((first | (refine gsel_split (fun q' => ?_) (fun q' => ?_)<;>(have h':=q')<;>(try simp only [za1,za2,Ba,Bb,za3,ne_eq,za4,za5,za6,Ia,Ib,Ic,Ie,Da,Bc,Bd,Be,za7,za8] at h')) | (have q':=trivial; first | refine hE _ _ ret_ne ?_ | refine hE _ _ exit_ne ?_))<;>(try simp (disch:=first | omega | decide +kernel) only [q',go_sem,Qa,Qb,Qc,Qd,Qe,↓reduceIte,reduceCtorEq,Qf,Qg,Qh])<;>clear q') | refine hN _ ?_ ?_ Wk.kk | with_reducible refine And.intro ?_ ?_ | with_reducible omega | exact ok_ints | exact cells_ints | exact no_mem | with_reducible exact plain_ints | (refine le_maxLen ?_; omega) | (refine za9 ⟨?_,?_⟩) | (simp only [go_sem,Qc,Qb,zb1,zb2,forall_eq]; done)))
 refine callX_keep _ hc ⟨.inl rfl,.inl rfl,trivial⟩ rfl (by simp [dstB]) ?_
 simp (disch:=first | omega | decide +kernel) only [go_sem,Qa,Qb,Qc,Qd,Qe,↓reduceIte,reduceCtorEq,Qf,Qg,Qh]
 (repeat' (first | ((first | (refine gsel_split (fun q' => ?_) (fun q' => ?_)<;>(have h':=q')<;>(try simp only [za1,za2,Ba,Bb,za3,ne_eq,za4,za5,za6,Ia,Ib,Ic,Ie,Da,Bc,Bd,Be,za7,za8] at h')) | (have q':=trivial; first | refine hE _ _ ret_ne ?_ | refine hE _ _ exit_ne ?_))<;>(try simp (disch:=first | omega | decide +kernel) only [q',go_sem,Qa,Qb,Qc,Qd,Qe,↓reduceIte,reduceCtorEq,Qf,Qg,Qh])<;>clear q') | refine hN _ ?_ ?_ Wk.kk | with_reducible refine And.intro ?_ ?_ | with_reducible omega | exact ok_ints | exact cells_ints | exact no_mem | with_reducible exact plain_ints | (refine le_maxLen ?_; omega) | (refine za9 ⟨?_,?_⟩) | (simp only [go_sem,Qc,Qb,zb1,zb2,forall_eq]; done)))
 exact retM_d rfl rfl rfl rfl trivial rfl
end Abs.Y
