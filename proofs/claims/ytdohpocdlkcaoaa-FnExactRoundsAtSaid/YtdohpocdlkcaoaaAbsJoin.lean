/- What functions of this program compute, over plain data. No condition. -/
import Derived.Test.YtdohpocdlkcaoaaV10c
import Derived.Test.YtdohpocdlkcaoaaM1
import Derived.Test.YtdohpocdlkcaoaaU6
set_option linter.all false
namespace Abs.Y
open Go Go.Proofs Abs
open Nat renaming reduceEqDiff -> Qa, reduceLT -> Qb, reduceAdd -> Qc, reduceMul -> Qd, reduceSub -> Qe, reduceLeDiff -> Qf, reduceSubDiff -> Qg, reduceBEq -> Qh
open Bool renaming not_eq_true' -> Ba, not_eq_false' -> Bb, and_eq_true -> Bc, or_eq_true -> Bd, or_eq_false_iff -> Be
open Int renaming ofNat_lt -> Ia, ofNat_le -> Ib, not_lt -> Ic, not_le -> Ie
open Decidable renaming not_not -> Da
set_option maxRecDepth 100000

def cnt3 : List (List (List Int))->Int->List (List (List Int))
 | [],_ => []
 | x :: r,k => cntSS x k :: cnt3 r (k + lenSS x)
def len3 : List (List (List Int))->Nat
 | [] => 0
 | x :: r => lenSS x + len3 r
theorem cnt3_len : ∀ (a : List (List (List Int))) (k : Int),(cnt3 a k).length=a.length
 | [],_ => rfl
 | x :: r,k => by simp [cnt3,cnt3_len r]
def off3 (a : List (List (List Int))) (k : Int) (i : Nat) : Int:=k + (len3 (a.take i) : Nat)
theorem cnt3_getD : ∀ (a : List (List (List Int))) (k : Int) (i : Nat),i < a.length->(cnt3 a k).getD i []=cntSS (a.getD i []) (off3 a k i)
 | x :: r,k,0,_ => by simp [cnt3,off3,len3]
 | x :: r, k, i + 1, h => by
   have:=cnt3_getD r (k + lenSS x) i (by simpa using h)
   rw [cnt3,List.getD_cons_succ,this,List.getD_cons_succ]
   unfold off3
   rw [List.take_succ_cons,len3]
   congr 1; omega
theorem off3_succ (a : List (List (List Int))) (k : Int) (i : Nat) (h : i < a.length) : off3 a k (i + 1)=off3 a k i + lenSS (a.getD i []):=by
 have : ∀ (a : List (List (List Int))) (i : Nat),i < a.length->len3 (a.take (i + 1))=len3 (a.take i) + lenSS (a.getD i []):=by
  intro a
  induction a with
  | nil => intro i h; simp at h
  | cons x r ih =>
    intro i h
    cases i with
    | zero => simp [len3]
    | succ i =>
      have:=ih i (by simpa using h)
      rw [List.take_succ_cons,len3,this,List.take_succ_cons,len3,List.getD_cons_succ]; omega
 unfold off3
 rw [this a i h]; omega
theorem off3_zero (a : List (List (List Int))) (k : Int) : off3 a k 0=k:=by simp [off3,len3]
theorem off3_len (a : List (List (List Int))) (k : Int) : off3 a k a.length=k + len3 a:=by simp [off3]
theorem len3_take_le : ∀ (a : List (List (List Int))) (i : Nat),len3 (a.take i)<=len3 a
 | [],i => by simp [len3]
 | x :: r,0 => by simp [len3]
 | x :: r,i + 1 => by have:=len3_take_le r i; simp [len3]; exact this
theorem off3_le (a : List (List (List Int))) (k : Int) (i : Nat) : off3 a k i<=k + len3 a:=by
 have:=len3_take_le a i; unfold off3; omega
theorem off3_nonneg (a : List (List (List Int))) {k : Int} (i : Nat) (h : 0<=k) : 0<=off3 a k i:=by unfold off3; omega
theorem len3_bound {a : List (List (List Int))} {B : Nat} (h : ∀ x ∈ a,lenSS x<=B) : len3 a<=a.length * B:=by
 induction a with
 | nil => simp [len3]
 | cons x r ih =>
   have h1:=h x (by simp)
   have h2:=ih fun y hy => h y (by simp [hy])
   rw [len3,List.length_cons,Nat.add_mul,Nat.one_mul]
   omega
theorem eqIntSSS_ok (a b : List (List (List Int))) (hl : a.length<=4294967296) (hx : ∀ x ∈ a,x.length<=4294967296∧∀ y ∈ x,y.length<=4294967296) : Ctr Try.prog 12 [.slice (a.map D.rows),.slice (b.map D.rows)] false (.d (.bool (decide (a=b)))) []:=by
 by_cases hab : a.length=b.length
 . refine Ctr.of (n:=27) (rs:=[.tmp 4]) Try.func12 rfl rfl Try.ntmps12 rfl rfl (by kernel_rfl) Try.checked.mixed ?_
   simp (disch:=first | omega | decide +kernel) only [List.length_map,hab,go_sem,Qa,Qb,Qc,Qd,Qe,↓reduceIte,reduceCtorEq,Qf,Qg,Qh]
   (repeat' (first | ((first | (refine gsel_split (fun q' => ?_) (fun q' => ?_)<;>(have h':=q')<;>(try simp only [za1,za2,Ba,Bb,za3,ne_eq,za4,za5,za6,Ia,Ib,Ic,Ie,Da,Bc,Bd,Be,za7,za8] at h')<;>try (exfalso; omega)) | (have q':=trivial; first | refine hE _ _ ret_ne ?_ | refine hE _ _ exit_ne ?_))<;>(try simp (disch:=first | omega | decide +kernel) only [q',List.length_map,hab,go_sem,Qa,Qb,Qc,Qd,Qe,↓reduceIte,reduceCtorEq,Qf,Qg,Qh])<;>clear q') | refine hN _ ?_ ?_ Wk.kk | with_reducible refine And.intro ?_ ?_ | with_reducible omega | exact ok_ints | exact cells_ints | exact no_mem | with_reducible exact plain_ints | (refine le_maxLen ?_; omega) | (refine za9 ⟨?_,?_⟩) | (simp only [go_sem,Qc,Qb,zb1,zb2,forall_eq]; done)))
   all_goals (first | exact absurd trivial h' | skip)
   refine Ok.loopC [26,25,24,23,22,21,20,19,18,17,16,15,14,13,12,11,10,9,8,7,6,5,4,3,2] (fun i => [(5,.d (.int .i64 (i : Nat)))]) b.length (fun i => ∀ j,j < i->a.getD j ([] : List (List Int))=b.getD j ([] : List (List Int))) (by simp) (Wk.kk) ?_
   intro R i hN hE hi hI
   by_cases hlt : i < b.length
   . have he:=hx _ (getD_mem (z:=([] : List (List Int))) (show i < a.length by omega))
     have hc:=eqIntSS_ok (a.getD i []) (b.getD i []) he.1 he.2
     have el1 : el (a.map D.rows) i=D.rows (a.getD i []):=el_map (f:=D.rows) [] (by omega)
     have el2 : el (b.map D.rows) i=D.rows (b.getD i []):=el_map (f:=D.rows) [] hlt
     by_cases heq : a.getD i []=b.getD i []
     . rw [decide_eq_true heq] at hc
       simp (disch:=first | omega | decide +kernel) only [el1,el2,List.length_map,hab,go_sem,Qa,Qb,Qc,Qd,Qe,↓reduceIte,reduceCtorEq,Qf,Qg,Qh]
       (repeat' (first | ((first | (refine gsel_split (fun q' => ?_) (fun q' => ?_)<;>(have h':=q')<;>(try simp only [za1,za2,Ba,Bb,za3,ne_eq,za4,za5,za6,Ia,Ib,Ic,Ie,Da,Bc,Bd,Be,za7,za8] at h')<;>try (exfalso; omega)) | (have q':=trivial; first | refine callX_new (hc) rfl (by decide) ?_ | refine callY_new (hc) rfl ?_ | refine hE _ _ ret_ne ?_ | refine hE _ _ exit_ne ?_))<;>(try simp (disch:=first | omega | decide +kernel) only [q',el1,el2,List.length_map,hab,go_sem,Qa,Qb,Qc,Qd,Qe,↓reduceIte,reduceCtorEq,Qf,Qg,Qh])<;>clear q') | refine hN _ ?_ ?_ Wk.kk | with_reducible refine And.intro ?_ ?_ | with_reducible omega | exact ok_ints | exact cells_ints | exact no_mem | with_reducible exact plain_ints | (refine le_maxLen ?_; omega) | (refine za9 ⟨?_,?_⟩) | (simp only [go_sem,Qc,Qb,zb1,zb2,forall_eq]; done)))
       exact all_succ hI heq
     . rw [decide_eq_false heq] at hc
       have hne : ¬ a=b:=fun h => heq (by rw [h])
       simp (disch:=first | omega | decide +kernel) only [el1,el2,List.length_map,hab,go_sem,Qa,Qb,Qc,Qd,Qe,↓reduceIte,reduceCtorEq,Qf,Qg,Qh]
       (repeat' (first | ((first | (refine gsel_split (fun q' => ?_) (fun q' => ?_)<;>(have h':=q')<;>(try simp only [za1,za2,Ba,Bb,za3,ne_eq,za4,za5,za6,Ia,Ib,Ic,Ie,Da,Bc,Bd,Be,za7,za8] at h')<;>try (exfalso; omega)) | (have q':=trivial; first | refine callX_new (hc) rfl (by decide) ?_ | refine callY_new (hc) rfl ?_ | refine hE _ _ ret_ne ?_ | refine hE _ _ exit_ne ?_))<;>(try simp (disch:=first | omega | decide +kernel) only [q',el1,el2,List.length_map,hab,go_sem,Qa,Qb,Qc,Qd,Qe,↓reduceIte,reduceCtorEq,Qf,Qg,Qh])<;>clear q') | refine hN _ ?_ ?_ Wk.kk | with_reducible refine And.intro ?_ ?_ | with_reducible omega | exact ok_ints | exact cells_ints | exact no_mem | with_reducible exact plain_ints | (refine le_maxLen ?_; omega) | (refine za9 ⟨?_,?_⟩) | (simp only [go_sem,Qc,Qb,zb1,zb2,forall_eq]; done)))
       all_goals simp [hne,D.plain]
   . obtain rfl : i=b.length:=by omega
     have : a=b:=ext_getDz ([] : List (List Int)) hab fun j hj => hI j (by omega)
     simp (disch:=first | omega | decide +kernel) only [List.length_map,hab,go_sem,Qa,Qb,Qc,Qd,Qe,↓reduceIte,reduceCtorEq,Qf,Qg,Qh]
     (repeat' (first | ((first | (refine gsel_split (fun q' => ?_) (fun q' => ?_)<;>(have h':=q')<;>(try simp only [za1,za2,Ba,Bb,za3,ne_eq,za4,za5,za6,Ia,Ib,Ic,Ie,Da,Bc,Bd,Be,za7,za8] at h')<;>try (exfalso; omega)) | (have q':=trivial; first | refine hE _ _ ret_ne ?_ | refine hE _ _ exit_ne ?_))<;>(try simp (disch:=first | omega | decide +kernel) only [q',List.length_map,hab,go_sem,Qa,Qb,Qc,Qd,Qe,↓reduceIte,reduceCtorEq,Qf,Qg,Qh])<;>clear q') | refine hN _ ?_ ?_ Wk.kk | with_reducible refine And.intro ?_ ?_ | with_reducible omega | exact ok_ints | exact cells_ints | exact no_mem | with_reducible exact plain_ints | (refine le_maxLen ?_; omega) | (refine za9 ⟨?_,?_⟩) | (simp only [go_sem,Qc,Qb,zb1,zb2,forall_eq]; done)))
     all_goals simp [this,D.plain]
 . rw [decide_eq_false fun h => hab (by rw [h])]
   have hab2 : ¬ (a.length : Int)=b.length:=by omega
   refine Ctr.of (n:=27) (rs:=[.tmp 4]) Try.func12 rfl rfl Try.ntmps12 rfl rfl (by kernel_rfl) Try.checked.mixed ?_
   simp (disch:=first | omega | decide +kernel) only [List.length_map,go_sem,Qa,Qb,Qc,Qd,Qe,↓reduceIte,reduceCtorEq,Qf,Qg,Qh]
   (repeat' (first | ((first | (refine gsel_split (fun q' => ?_) (fun q' => ?_)<;>(have h':=q')<;>(try simp only [za1,za2,Ba,Bb,za3,ne_eq,za4,za5,za6,Ia,Ib,Ic,Ie,Da,Bc,Bd,Be,za7,za8] at h')<;>try (exfalso; omega)) | (have q':=trivial; first | refine hE _ _ ret_ne ?_ | refine hE _ _ exit_ne ?_))<;>(try simp (disch:=first | omega | decide +kernel) only [q',List.length_map,go_sem,Qa,Qb,Qc,Qd,Qe,↓reduceIte,reduceCtorEq,Qf,Qg,Qh])<;>clear q') | refine hN _ ?_ ?_ Wk.kk | with_reducible refine And.intro ?_ ?_ | with_reducible omega | exact ok_ints | exact cells_ints | exact no_mem | with_reducible exact plain_ints | (refine le_maxLen ?_; omega) | (refine za9 ⟨?_,?_⟩) | (simp only [go_sem,Qc,Qb,zb1,zb2,forall_eq]; done)))
set_option maxHeartbeats 4000000 in
theorem markIntSSS_ok (τ : Option (TypeId × Nat)) (a : List (List (List Int))) (k : Int) (h0 : 0<=k) (h1 : k + len3 a<=9000000000000000000) (hl : a.length<=4294967296) (hx : ∀ x ∈ a,x.length<=4294967296) :
 CtrM Try.prog 15 [.sl 0,.d (.int .i64 k)] [(0,.dp τ (a.map D.rows) none)] [0] false (.d (.int .i64 (k + len3 a))) [(0,.dp τ ((cnt3 a k).map D.rows) none)]:=by
 refine CtrM.of (n:=19) (rs:=[.tmp 4]) Try.func15 rfl rfl Try.ntmps15 rfl rfl (by kernel_rfl) Try.checked.mixed ?_; intro u
 simp (disch:=first | omega | decide +kernel) only [go_sem,Qa,Qb,Qc,Qd,Qe,↓reduceIte,reduceCtorEq,Qf,Qg,Qh]
 refine Ok.loopN [17,16,15,14,13,12,11,10,9,8,7,6,5,3,2,1] (fun i _ => [(5,.d (.int .i64 (i : Nat))),(1,.d (.int .i64 (off3 a k i)))]) (fun _ (cur : List (List (List Int))) => [(0,.dp τ (List.map D.rows cur) none)]) a.length
  (fun i cur => cur.length=a.length∧(∀ j,j < i->cur.getD j ([] : List (List Int))=(cnt3 a k).getD j ([] : List (List Int)))∧∀ j,i<=j->cur.getD j ([] : List (List Int))=a.getD j ([] : List (List Int))) a ⟨rfl,by simp,by simp⟩ (by rw [off3_zero]; exact (Wk.kk)) ?_
 rintro R i cur hN hE hi ⟨hcl,hcur,hcur2⟩
 simp (disch:=first | omega | decide +kernel) only [go_sem,Qa,Qb,Qc,Qd,Qe,↓reduceIte,reduceCtorEq,Qf,Qg,Qh]
 by_cases hlt : i < a.length
 . have hlc : i < cur.length:=by omega
   have hg:=hcur2 i (Nat.le_refl _)
   have hs:=off3_succ a k i hlt
   have hle:=off3_le a k (i + 1)
   have hnn:=off3_nonneg a i h0
   have hxi:=hx _ (getD_mem (z:=([] : List (List Int))) hlt)
   have hc:=markIntSS_ok none (a.getD i ([] : List (List Int))) (off3 a k i) hnn (by omega) hxi
   have el1 : el (cur.map D.rows) i=D.rows (a.getD i []):=by rw [el_map (f:=D.rows) [] hlc,hg]
   have ea : (el (cur.map D.rows) i).isAgg=false:=by rw [el1]; rfl
   (repeat' (first | ((first | (refine gsel_split (fun q' => ?_) (fun q' => ?_)<;>(have h':=q')<;>(try simp only [za1,za2,Ba,Bb,za3,ne_eq,za4,za5,za6,Ia,Ib,Ic,Ie,Da,Bc,Bd,Be,za7,za8] at h')) | (have q':=trivial; first | refine hE _ _ ret_ne ?_ | refine hE _ _ exit_ne ?_))<;>(try simp (disch:=first | omega | decide +kernel) only [q',el1,go_sem,Qa,Qb,Qc,Qd,Qe,↓reduceIte,reduceCtorEq,Qf,Qg,Qh])<;>clear q') | refine hN _ ?_ ?_ Wk.kk | with_reducible refine And.intro ?_ ?_ | with_reducible omega | exact ok_ints | exact cells_ints | exact no_mem | with_reducible exact plain_ints | (refine le_maxLen ?_; omega) | (refine za9 ⟨?_,?_⟩) | (simp only [go_sem,Qc,Qb,zb1,zb2,forall_eq]; done)))
   refine callX_keep _ hc ⟨.inl rfl,.inl rfl,trivial⟩ rfl (by simp [dstB]) ?_
   simp (disch:=first | omega | decide +kernel) only [go_sem,Qa,Qb,Qc,Qd,Qe,↓reduceIte,reduceCtorEq,Qf,Qg,Qh]
   (repeat' (first | ((first | (refine gsel_split (fun q' => ?_) (fun q' => ?_)<;>(have h':=q')<;>(try simp only [za1,za2,Ba,Bb,za3,ne_eq,za4,za5,za6,Ia,Ib,Ic,Ie,Da,Bc,Bd,Be,za7,za8] at h')) | (have q':=trivial; first | refine hE _ _ ret_ne ?_ | refine hE _ _ exit_ne ?_))<;>(try simp (disch:=first | omega | decide +kernel) only [q',go_sem,Qa,Qb,Qc,Qd,Qe,↓reduceIte,reduceCtorEq,Qf,Qg,Qh])<;>clear q') | refine hN _ ?_ ?_ Wk.kk | with_reducible refine And.intro ?_ ?_ | with_reducible omega | exact ok_ints | exact cells_ints | exact no_mem | with_reducible exact plain_ints | (refine le_maxLen ?_; omega) | (refine za9 ⟨?_,?_⟩) | (simp only [go_sem,Qc,Qb,zb1,zb2,forall_eq]; done)))
   refine hN (cur.set i (cntSS (a.getD i []) (off3 a k i))) _ hlt ⟨by simp [hcl],fun j hj => ?_,fun j hj => ?_⟩ ((Wk.fold 0 (by simp (disch:=first | omega | decide +kernel) only [go_sem,Qa,Qb,Qc,Qd,Qe,↓reduceIte,reduceCtorEq,Qf,Qg,Qh]; rfl)).trans (by refine Wk.auto ?_ ?_<;>simp [extraK,lk,killL,St.kill,wipeO,wipeS,AV.has,AV.hasL,AO.wipe,List.map_set,updSt,insL,dropS,ins,D.rows,hs,ea]))
   . rw [set_getDz ([] : List (List Int)) _ _ _ _ hlc]
     by_cases e : j=i
     . subst e; rw [if_pos rfl,cnt3_getD _ _ _ hlt]
     . rw [if_neg e]; exact hcur j (by omega)
   . rw [set_getDz ([] : List (List Int)) _ _ _ _ hlc,if_neg (by omega)]; exact hcur2 j (by omega)
 . (repeat' (first | ((first | (refine gsel_split (fun q' => ?_) (fun q' => ?_)<;>(have h':=q')<;>(try simp only [za1,za2,Ba,Bb,za3,ne_eq,za4,za5,za6,Ia,Ib,Ic,Ie,Da,Bc,Bd,Be,za7,za8] at h')) | (have q':=trivial; first | refine hE _ _ ret_ne ?_ | refine hE _ _ exit_ne ?_))<;>(try simp (disch:=first | omega | decide +kernel) only [q',go_sem,Qa,Qb,Qc,Qd,Qe,↓reduceIte,reduceCtorEq,Qf,Qg,Qh])<;>clear q') | refine hN _ ?_ ?_ Wk.kk | with_reducible refine And.intro ?_ ?_ | with_reducible omega | exact ok_ints | exact cells_ints | exact no_mem | with_reducible exact plain_ints | (refine le_maxLen ?_; omega) | (refine za9 ⟨?_,?_⟩) | (simp only [go_sem,Qc,Qb,zb1,zb2,forall_eq]; done)))
   . obtain rfl : cur=cnt3 a k:=ext_getDz ([] : List (List Int)) (by rw [cnt3_len]; exact hcl) fun j hj => hcur j (by omega)
     obtain rfl : i=a.length:=by omega
     rw [off3_len]
     exact retM_d rfl rfl rfl rfl trivial rfl
theorem heldIntSSS_ok (a : List (List (List Int))) (k : Int) (h0 : 0<=k) (h1 : k + len3 a<=9000000000000000000) (hl : a.length<=4294967296) (hx : ∀ x ∈ a,x.length<=4294967296) :
 Ctr Try.prog 16 [.slice ((cnt3 a k).map D.rows),.int .i64 k] false (.d (.int .i64 (k + len3 a))) []:=by
 have hcl:=cnt3_len a k
 refine Ctr.of (n:=21) (rs:=[.tmp 4]) Try.func16 rfl rfl Try.ntmps16 rfl rfl (by kernel_rfl) Try.checked.mixed ?_
 simp (disch:=first | omega | decide +kernel) only [go_sem,Qa,Qb,Qc,Qd,Qe,↓reduceIte,reduceCtorEq,Qf,Qg,Qh]
 refine Ok.loopN [19,18,17,16,15,14,13,12,11,10,9,8,7,6,5,4,3,2,1] (fun i _ => [(5,.d (.int .i64 (i : Nat))),(1,.d (.int .i64 (off3 a k i)))]) (fun _ (_ : Unit) => []) a.length (fun i _ => True) () trivial (by rw [off3_zero]; exact (Wk.kk)) ?_
 rintro R i _ hN hE hi _
 by_cases hlt : i < a.length
 . have hg:=cnt3_getD a k i hlt
   have hs:=off3_succ a k i hlt
   have hle:=off3_le a k (i + 1)
   have hnn:=off3_nonneg a i h0
   have hxi:=hx _ (getD_mem (z:=([] : List (List Int))) hlt)
   have hc:=heldIntSS_ok (a.getD i ([] : List (List Int))) (off3 a k i) hnn (by omega) hxi
   have el1 : el ((cnt3 a k).map D.rows) i=D.rows (cntSS (a.getD i []) (off3 a k i)):=by rw [el_map (f:=D.rows) [] (by omega),hg]
   simp (disch:=first | omega | decide +kernel) only [el1,List.length_map,hcl,go_sem,Qa,Qb,Qc,Qd,Qe,↓reduceIte,reduceCtorEq,Qf,Qg,Qh]
   (repeat' (first | ((first | (refine gsel_split (fun q' => ?_) (fun q' => ?_)<;>(have h':=q')<;>(try simp only [za1,za2,Ba,Bb,za3,ne_eq,za4,za5,za6,Ia,Ib,Ic,Ie,Da,Bc,Bd,Be,za7,za8] at h')) | (have q':=trivial; first | refine callX_new (hc) rfl (by decide) ?_ | refine callY_new (hc) rfl ?_ | refine hE _ _ ret_ne ?_ | refine hE _ _ exit_ne ?_))<;>(try simp (disch:=first | omega | decide +kernel) only [q',el1,List.length_map,hcl,go_sem,Qa,Qb,Qc,Qd,Qe,↓reduceIte,reduceCtorEq,Qf,Qg,Qh])<;>clear q') | refine hN _ ?_ ?_ Wk.kk | with_reducible refine And.intro ?_ ?_ | with_reducible omega | exact ok_ints | exact cells_ints | exact no_mem | with_reducible exact plain_ints | (refine le_maxLen ?_; omega) | (refine za9 ⟨?_,?_⟩) | (simp only [go_sem,Qc,Qb,zb1,zb2,forall_eq]; done)))
   all_goals (first | omega | exact of_eq_true (bare_ints _) | skip)
   refine hN () _ hlt trivial (by refine Wk.auto ?_ ?_<;>simp [extraK,lk,killL,St.kill,wipeO,wipeS,AV.has,AV.hasL,AO.wipe,List.map_set,updSt,insL,dropS,ins,hs])
 . obtain rfl : i=a.length:=by omega
   simp (disch:=first | omega | decide +kernel) only [List.length_map,hcl,go_sem,Qa,Qb,Qc,Qd,Qe,↓reduceIte,reduceCtorEq,Qf,Qg,Qh]
   (repeat' (first | ((first | (refine gsel_split (fun q' => ?_) (fun q' => ?_)<;>(have h':=q')<;>(try simp only [za1,za2,Ba,Bb,za3,ne_eq,za4,za5,za6,Ia,Ib,Ic,Ie,Da,Bc,Bd,Be,za7,za8] at h')) | (have q':=trivial; first | refine hE _ _ ret_ne ?_ | refine hE _ _ exit_ne ?_))<;>(try simp (disch:=first | omega | decide +kernel) only [q',List.length_map,hcl,go_sem,Qa,Qb,Qc,Qd,Qe,↓reduceIte,reduceCtorEq,Qf,Qg,Qh])<;>clear q') | refine hN _ ?_ ?_ Wk.kk | with_reducible refine And.intro ?_ ?_ | with_reducible omega | exact ok_ints | exact cells_ints | exact no_mem | with_reducible exact plain_ints | (refine le_maxLen ?_; omega) | (refine za9 ⟨?_,?_⟩) | (simp only [go_sem,Qc,Qb,zb1,zb2,forall_eq]; done)))
   all_goals (first | omega | exact of_eq_true (bare_ints _) | skip)
   all_goals (rw [off3_len])
end Abs.Y

namespace Abs
open Go Go.RowKit
theorem Ok.seqJ {P : Program} {N : Nat} {x y : Code} {Q : Exit->St->Prop} {st : St} (Sc : St) (h1 : Ok P N y Q Sc) (h2 : Ok P N x (fun e s => (e=.normal∧Wk N s Sc)∨(e ≠ .normal∧Q e s)) st) : Ok P N (.seq x y) Q st :=
 Ok.seq (h2.mono fun e s h => by
  cases e with
  | normal =>
    rcases h with ⟨_,h⟩ | ⟨h,_⟩
    . exact Ok.weak h h1
    . exact absurd rfl h
  | _ =>
    rcases h with ⟨h,_⟩ | ⟨_,h⟩
    . cases h
    . exact h)
end Abs
