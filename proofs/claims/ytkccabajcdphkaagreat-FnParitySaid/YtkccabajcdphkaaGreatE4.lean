/- What functions of this program compute, over plain data. No condition. -/
import Derived.Test.YtkccabajcdphkaaGreatAbsLoopO
import Derived.Test.YtkccabajcdphkaaGreatK8
import Derived.Test.YtkccabajcdphkaaGreatPM5
set_option linter.all false
namespace Abs.Y
open Go Go.Proofs Abs
open Nat renaming reduceEqDiff -> Qa, reduceLT -> Qb, reduceAdd -> Qc, reduceMul -> Qd, reduceSub -> Qe, reduceLeDiff -> Qf, reduceSubDiff -> Qg, reduceBEq -> Qh
open Bool renaming not_eq_true' -> Ba, not_eq_false' -> Bb, and_eq_true -> Bc, or_eq_true -> Bh, or_eq_false_iff -> Be
open Int renaming ofNat_lt -> Ia, ofNat_le -> Ib, not_lt -> Ic, not_le -> Ie
open Decidable renaming not_not -> Da
set_option maxRecDepth 100000

theorem indexFuncM_ok (xs : List Int) (g : FuncId) (c : D) (p : Int->Bool) (hl : xs.length<=4294967296) (hp : ∀ i,i < xs.length->Ctr Tryz.prog g [.int .i64 (xs.getD i 0),c] false (.d (.bool (p (xs.getD i 0)))) []) :
 Ctr Tryz.prog 141 [.ints xs,.fn (.func g) [] [c]] false (.d (.int .i64 (idxI p xs))) []:=by
 refine Ctr.of (n:=19) (rs:=[.tmp 4]) Tryz.func141 rfl rfl Tryz.ntmps141 rfl rfl (by kernel_rfl) Tryz.checked.mixed ?_
 simp (disch:=first | omega | decide +kernel) only [D.ints,go_sem,Qa,Qb,Qc,Qd,Qe,↓reduceIte,reduceCtorEq,Qf,Qg,Qh]
 refine Ok.loopC [18,17,16,15,14,13,12,11,10,9,8,6,5,4,3,2] (fun i => [(8,.d (.int .i64 (i : Nat)))]) xs.length (fun i => ∀ j,j < i->p (xs.getD j 0)=false) (by simp) (Wk.kk) ?_
 intro R i hN hE hi hI
 by_cases hlt : i < xs.length
 . have c1:=hp i hlt
   simp (disch:=first | omega | decide +kernel) only [go_sem,Qa,Qb,Qc,Qd,Qe,↓reduceIte,reduceCtorEq,Qf,Qg,Qh]
   (repeat' (first | ((first | (refine xa0 ?_ ?_<;>intro q'<;>(have h':=q')<;>(try simp only [zz] at h')) | (have q':=trivial; first | refine xa3 (c1) rfl (by decide) ?_ | refine xa4 (c1) rfl ?_ | refine hE _ _ xa5 ?_ | refine hE _ _ xa2 ?_))<;>(try simp (disch:=first | omega | decide +kernel) only [q',go_sem,Qa,Qb,Qc,Qd,Qe,↓reduceIte,reduceCtorEq,Qf,Qg,Qh])<;>clear q') | refine hN _ ?_ ?_ Wk.kk | (with_reducible first | refine And.intro ?_ ?_ | omega) | exact xb8 | exact xa8 | exact xa6 | with_reducible exact xa7 | (refine xa1 ?_; omega) | (refine za9 ⟨?_,?_⟩) | (simp only [go_sem,Qc,Qb,zb1,zb2,forall_eq]; done)))
   . rw [zd9 hlt h' hI]
   . exact xi8 hI h'
 . simp (disch:=first | omega | decide +kernel) only [go_sem,Qa,Qb,Qc,Qd,Qe,↓reduceIte,reduceCtorEq,Qf,Qg,Qh]
   (repeat' (first | ((first | (refine xa0 ?_ ?_<;>intro q'<;>(have h':=q')<;>(try simp only [zz] at h')) | (have q':=trivial; first | refine hE _ _ xa5 ?_ | refine hE _ _ xa2 ?_))<;>(try simp (disch:=first | omega | decide +kernel) only [q',go_sem,Qa,Qb,Qc,Qd,Qe,↓reduceIte,reduceCtorEq,Qf,Qg,Qh])<;>clear q') | refine hN _ ?_ ?_ Wk.kk | (with_reducible first | refine And.intro ?_ ?_ | omega) | exact xb8 | exact xa8 | exact xa6 | with_reducible exact xa7 | (refine xa1 ?_; omega) | (refine za9 ⟨?_,?_⟩) | (simp only [go_sem,Qc,Qb,zb1,zb2,forall_eq]; done)))
   rw [ze0 fun j hj => hI j (by omega)]
theorem containsFuncM_ok (xs : List Int) (g : FuncId) (c : D) (p : Int->Bool) (hl : xs.length<=4294967296) (hp : ∀ i,i < xs.length->Ctr Tryz.prog g [.int .i64 (xs.getD i 0),c] false (.d (.bool (p (xs.getD i 0)))) []) :
 Ctr Tryz.prog 127 [.ints xs,.fn (.func g) [] [c]] false (.d (.bool (xs.any p))) []:=by
 have c1:=indexFuncM_ok xs g c p hl hp
 refine Ctr.of (n:=9) (rs:=[.tmp 4]) Tryz.func127 rfl rfl Tryz.ntmps127 rfl rfl (by kernel_rfl) Tryz.checked.mixed ?_
 simp (disch:=first | omega | decide +kernel) only [D.ints,go_sem,Qa,Qb,Qc,Qd,Qe,↓reduceIte,reduceCtorEq,Qf,Qg,Qh]
 (repeat' (first | ((first | (refine xa0 ?_ ?_<;>intro q'<;>(have h':=q')<;>(try simp only [zz] at h')<;>try (exfalso; omega)) | (have q':=trivial; first | refine xa3 (c1) rfl (by decide) ?_ | refine xa4 (c1) rfl ?_ | refine hE _ _ xa5 ?_ | refine hE _ _ xa2 ?_))<;>(try simp (disch:=first | omega | decide +kernel) only [q',go_sem,Qa,Qb,Qc,Qd,Qe,↓reduceIte,reduceCtorEq,Qf,Qg,Qh])<;>clear q') | (with_reducible first | refine And.intro ?_ ?_ | omega) | (refine xa1 ?_; omega)))
 rw [← zh8]
def idxC (p : List Int->Bool) (l : List (List Int)) : Int:=match l.findIdx? p with | some i => (i : Nat) | none => -1
theorem idxC_some {p : List Int->Bool} {l : List (List Int)} {i : Nat} (h : i < l.length) (hp : p (l.getD i [])=true) (hn : ∀ j,j < i->p (l.getD j [])=false) : idxC p l=i:=by
 have : l.findIdx? p=some i:=by
  rw [List.findIdx?_eq_some_iff_getElem]
  refine ⟨h,by simpa [List.getD_eq_getElem?_getD,h] using hp,fun j hj => ?_⟩
  have h2 : j < l.length:=by omega
  simpa [List.getD_eq_getElem?_getD,h2] using hn j hj
 simp [idxC,this]
theorem idxC_none {p : List Int->Bool} {l : List (List Int)} (hn : ∀ j,j < l.length->p (l.getD j [])=false) : idxC p l=-1:=by
 have : l.findIdx? p=none:=by
  rw [List.findIdx?_eq_none_iff]
  intro x hx
  obtain ⟨j,hj,rfl⟩:=List.getElem_of_mem hx
  simpa [List.getD_eq_getElem?_getD,hj] using hn j hj
 simp [idxC,this]
theorem idxC_ge {p : List Int->Bool} {l : List (List Int)} : decide (idxC p l ≥ 0)=l.any p:=by
 unfold idxC
 cases h : l.findIdx? p with
 | none =>
   rw [List.findIdx?_eq_none_iff] at h
   have : l.any p=false:=List.any_eq_false.2 fun x hx => by simpa using h x hx
   rw [this]; decide
 | some i =>
   rw [List.findIdx?_eq_some_iff_getElem] at h
   obtain ⟨h1,h2,_⟩:=h
   have : l.any p=true:=List.any_eq_true.2 ⟨_,List.getElem_mem h1,h2⟩
   rw [this]
   exact decide_eq_true (Int.natCast_nonneg i)
theorem indexFuncC_ok (cs : List (List Int)) (g : FuncId) (c : D) (p : List Int->Bool) (hl : cs.length<=4294967296) (hp : ∀ i,i < cs.length->Ctr Tryz.prog g [.ints (cs.getD i []),c] false (.d (.bool (p (cs.getD i [])))) []) :
 Ctr Tryz.prog 126 [.slice (cs.map D.ints),.fn (.func g) [] [c]] false (.d (.int .i64 (idxC p cs))) []:=by
 refine Ctr.of (n:=19) (rs:=[.tmp 4]) Tryz.func126 rfl rfl Tryz.ntmps126 rfl rfl (by kernel_rfl) Tryz.checked.mixed ?_
 simp (disch:=first | omega | decide +kernel) only [go_sem,Qa,Qb,Qc,Qd,Qe,↓reduceIte,reduceCtorEq,Qf,Qg,Qh]
 refine Ok.loopC [18,17,16,15,14,13,12,11,10,9,8,6,5,4,3,2] (fun i => [(8,.d (.int .i64 (i : Nat)))]) cs.length (fun i => ∀ j,j < i->p (cs.getD j [])=false) (by simp) (Wk.kk) ?_
 intro R i hN hE hi hI
 by_cases hlt : i < cs.length
 . have el1 : el (cs.map D.ints) i=D.ints (cs.getD i []):=xv3 (f:=D.ints) [] hlt
   have c1:=hp i hlt
   cases hpi : p (cs.getD i []) with
   | true =>
     rw [hpi] at c1
     simp (disch:=first | omega | decide +kernel) only [el1,D.ints,List.length_map,go_sem,Qa,Qb,Qc,Qd,Qe,↓reduceIte,reduceCtorEq,Qf,Qg,Qh]
     (repeat' (first | ((first | (refine xa0 ?_ ?_<;>intro q'<;>(have h':=q')<;>(try simp only [zz] at h')<;>try (exfalso; omega)) | (have q':=trivial; first | refine xa3 (c1) rfl (by decide) ?_ | refine xa4 (c1) rfl ?_ | refine hE _ _ xa5 ?_ | refine hE _ _ xa2 ?_))<;>(try simp (disch:=first | omega | decide +kernel) only [q',el1,D.ints,List.length_map,go_sem,Qa,Qb,Qc,Qd,Qe,↓reduceIte,reduceCtorEq,Qf,Qg,Qh])<;>clear q') | refine hN _ ?_ ?_ Wk.kk | (with_reducible first | refine And.intro ?_ ?_ | omega) | (refine xa1 ?_; omega) | (refine za9 ⟨?_,?_⟩)))
     rw [idxC_some hlt hpi hI]
   | false =>
     rw [hpi] at c1
     simp (disch:=first | omega | decide +kernel) only [el1,D.ints,List.length_map,go_sem,Qa,Qb,Qc,Qd,Qe,↓reduceIte,reduceCtorEq,Qf,Qg,Qh]
     (repeat' (first | ((first | (refine xa0 ?_ ?_<;>intro q'<;>(have h':=q')<;>(try simp only [zz] at h')<;>try (exfalso; omega)) | (have q':=trivial; first | refine xa3 (c1) rfl (by decide) ?_ | refine xa4 (c1) rfl ?_ | refine hE _ _ xa5 ?_ | refine hE _ _ xa2 ?_))<;>(try simp (disch:=first | omega | decide +kernel) only [q',el1,D.ints,List.length_map,go_sem,Qa,Qb,Qc,Qd,Qe,↓reduceIte,reduceCtorEq,Qf,Qg,Qh])<;>clear q') | refine hN _ ?_ ?_ Wk.kk | (with_reducible first | refine And.intro ?_ ?_ | omega) | (refine xa1 ?_; omega) | (refine za9 ⟨?_,?_⟩)))
     exact xi8 (P:=fun j => p (cs.getD j [])=false) hI hpi
 . obtain rfl : i=cs.length:=by omega
   simp (disch:=first | omega | decide +kernel) only [List.length_map,go_sem,Qa,Qb,Qc,Qd,Qe,↓reduceIte,reduceCtorEq,Qf,Qg,Qh]
   (repeat' (first | ((first | (refine xa0 ?_ ?_<;>intro q'<;>(have h':=q')<;>(try simp only [zz] at h')<;>try (exfalso; omega)) | (have q':=trivial; first | refine hE _ _ xa5 ?_ | refine hE _ _ xa2 ?_))<;>(try simp (disch:=first | omega | decide +kernel) only [q',List.length_map,go_sem,Qa,Qb,Qc,Qd,Qe,↓reduceIte,reduceCtorEq,Qf,Qg,Qh])<;>clear q') | refine hN _ ?_ ?_ Wk.kk | (with_reducible first | refine And.intro ?_ ?_ | omega) | (refine xa1 ?_; omega) | (refine za9 ⟨?_,?_⟩)))
   rw [idxC_none hI]
theorem containsFuncC_ok (cs : List (List Int)) (g : FuncId) (c : D) (p : List Int->Bool) (hl : cs.length<=4294967296) (hp : ∀ i,i < cs.length->Ctr Tryz.prog g [.ints (cs.getD i []),c] false (.d (.bool (p (cs.getD i [])))) []) :
 Ctr Tryz.prog 93 [.slice (cs.map D.ints),.fn (.func g) [] [c]] false (.d (.bool (cs.any p))) []:=by
 have c1:=indexFuncC_ok cs g c p hl hp
 refine Ctr.of (n:=9) (rs:=[.tmp 4]) Tryz.func93 rfl rfl Tryz.ntmps93 rfl rfl (by kernel_rfl) Tryz.checked.mixed ?_
 simp (disch:=first | omega | decide +kernel) only [go_sem,Qa,Qb,Qc,Qd,Qe,↓reduceIte,reduceCtorEq,Qf,Qg,Qh]
 (repeat' (first | ((first | (refine xa0 ?_ ?_<;>intro q'<;>(have h':=q')<;>(try simp only [zz] at h')<;>try (exfalso; omega)) | (have q':=trivial; first | refine xa3 (c1) rfl (by decide) ?_ | refine xa4 (c1) rfl ?_ | refine hE _ _ xa5 ?_ | refine hE _ _ xa2 ?_))<;>(try simp (disch:=first | omega | decide +kernel) only [q',go_sem,Qa,Qb,Qc,Qd,Qe,↓reduceIte,reduceCtorEq,Qf,Qg,Qh])<;>clear q') | (with_reducible first | refine And.intro ?_ ?_ | omega) | (refine xa1 ?_; omega)))
 rw [← idxC_ge]
def yz7 (l : Int) : Prop:=l ≠ 0∧l.natAbs<=62
theorem absI_lit {l : Int} (h : yz7 l) : absI l=((l.natAbs - 1 : Nat) : Int) + 1:=by
 unfold yz7 at h
 rw [yr8 (by omega)]; omega
theorem bitI_one (x k : Nat) : (bitI x k == 1)=x.testBit k:=by
 unfold bitI; cases x.testBit k<;>rfl
theorem holds1_ok (l : Int) (x : Nat) (h : yz7 l) (hx : x < 2 ^ 62) : Ctr Tryz.prog 128 [.int .i64 l,.ptr (.int .i64 (x : Nat))] false (.d (.bool (tlit x l))) []:=by
 have c1:=zu1 l
 rw [absI_lit h] at c1
 have hk : l.natAbs - 1<=62:=by unfold yz7 at h; omega
 have hbt:=zo1 (b:=x) hk (by omega)
 rw [show IntKind.bits .i64=64 from rfl] at hbt
 have hbb:=bitI_one x (l.natAbs - 1)
 have hlit : tlit x l=(x.testBit (l.natAbs - 1) == decide (0 < l)):=rfl
 rw [hlit,← hbb]
 generalize l.natAbs - 1=k at *
 have he : (k : Int) + 1 - 1=k:=by omega
 refine Ctr.of (n:=14) (rs:=[.tmp 3]) Tryz.func128 rfl rfl Tryz.ntmps128 rfl rfl (by kernel_rfl) Tryz.checked.mixed ?_
 simp (disch:=first | omega | decide +kernel) only [he,Int.toNat_natCast,go_sem,Qa,Qb,Qc,Qd,Qe,↓reduceIte,reduceCtorEq,Qf,Qg,Qh]
 (repeat' (first | ((first | (refine xa0 ?_ ?_<;>intro q'<;>(have h':=q')<;>(try simp only [zz] at h')<;>try (exfalso; omega)) | (have q':=trivial; first | refine xa3 (c1) rfl (by decide) ?_ | refine xa4 (c1) rfl ?_ | refine hE _ _ xa5 ?_ | refine hE _ _ xa2 ?_))<;>(try simp (disch:=first | omega | decide +kernel) only [q',he,Int.toNat_natCast,hbt,go_sem,Qa,Qb,Qc,Qd,Qe,↓reduceIte,reduceCtorEq,Qf,Qg,Qh])<;>clear q') | (with_reducible first | refine And.intro ?_ ?_ | omega) | (refine xa1 ?_; omega)))
 all_goals (first | omega | rfl)
theorem holds_ok (c : List Int) (x : Nat) (hl : c.length<=4294967296) (h : ∀ l ∈ c,yz7 l) (hx : x < 2 ^ 62) : Ctr Tryz.prog 95 [.ints c,.int .i64 (x : Nat)] false (.d (.bool (tcl x c))) []:=by
 have c1:=containsFuncM_ok c 128 (.ptr (.int .i64 (x : Nat))) (tlit x) hl fun i hi => holds1_ok _ x (h _ (xc0 hi)) hx
 refine Ctr.of (n:=8) (rs:=[.tmp 4]) Tryz.func95 rfl rfl Tryz.ntmps95 rfl rfl (by kernel_rfl) Tryz.checked.mixed ?_
 simp (disch:=first | omega | decide +kernel) only [D.ints,go_sem,Qa,Qb,Qc,Qd,Qe,↓reduceIte,reduceCtorEq,Qf,Qg,Qh]
 (repeat' (first | ((first | (refine xa0 ?_ ?_<;>intro q'<;>(have h':=q')<;>(try simp only [zz] at h')<;>try (exfalso; omega)) | (have q':=trivial; first | refine xa3 (c1) rfl (by decide) ?_ | refine xa4 (c1) rfl ?_ | refine hE _ _ xa5 ?_ | refine hE _ _ xa2 ?_))<;>(try simp (disch:=first | omega | decide +kernel) only [q',D.ints,go_sem,Qa,Qb,Qc,Qd,Qe,↓reduceIte,reduceCtorEq,Qf,Qg,Qh])<;>clear q') | (with_reducible first | refine And.intro ?_ ?_ | omega) | (refine xa1 ?_; omega)))
 all_goals (first | rfl)
theorem isModel1_ok (c : List Int) (x : Nat) (hl : c.length<=4294967296) (h : ∀ l ∈ c,yz7 l) (hx : x < 2 ^ 62) : Ctr Tryz.prog 94 [.ints c,.ptr (.int .i64 (x : Nat))] false (.d (.bool (!(tcl x c)))) []:=by
 have c1:=holds_ok c x hl h hx
 refine Ctr.of (n:=8) (rs:=[.tmp 3]) Tryz.func94 rfl rfl Tryz.ntmps94 rfl rfl (by kernel_rfl) Tryz.checked.mixed ?_
 simp (disch:=first | omega | decide +kernel) only [D.ints,go_sem,Qa,Qb,Qc,Qd,Qe,↓reduceIte,reduceCtorEq,Qf,Qg,Qh]
 (repeat' (first | ((first | (refine xa0 ?_ ?_<;>intro q'<;>(have h':=q')<;>(try simp only [zz] at h')<;>try (exfalso; omega)) | (have q':=trivial; first | refine xa3 (c1) rfl (by decide) ?_ | refine xa4 (c1) rfl ?_ | refine hE _ _ xa5 ?_ | refine hE _ _ xa2 ?_))<;>(try simp (disch:=first | omega | decide +kernel) only [q',D.ints,go_sem,Qa,Qb,Qc,Qd,Qe,↓reduceIte,reduceCtorEq,Qf,Qg,Qh])<;>clear q') | (with_reducible first | refine And.intro ?_ ?_ | omega) | (refine xa1 ?_; omega)))
structure Cls (cs : List (List Int)) : Prop where
 len : cs.length<=1048576
 lens : ∀ c ∈ cs,c.length<=1048576
 lit : ∀ c ∈ cs,∀ l ∈ c,yz7 l
theorem yu7 (cs : List (List Int)) (x : Nat) (hc : Cls cs) (hx : x < 2 ^ 62) : Ctr Tryz.prog 54 [.slice (cs.map D.ints),.int .i64 (x : Nat)] false (.d (.bool (tmod cs x))) []:=by
 have c1:=containsFuncC_ok cs 94 (.ptr (.int .i64 (x : Nat))) (fun c => !(tcl x c)) (by have:=hc.len; omega) fun i hi =>
  isModel1_ok _ x (by have:=hc.lens _ (xc0 (z:=([] : List Int)) hi); omega) (hc.lit _ (xc0 (z:=([] : List Int)) hi)) hx
 refine Ctr.of (n:=9) (rs:=[.tmp 4]) Tryz.func54 rfl rfl Tryz.ntmps54 rfl rfl (by kernel_rfl) Tryz.checked.mixed ?_
 simp (disch:=first | omega | decide +kernel) only [D.ints,go_sem,Qa,Qb,Qc,Qd,Qe,↓reduceIte,reduceCtorEq,Qf,Qg,Qh]
 (repeat' (first | ((first | (refine xa0 ?_ ?_<;>intro q'<;>(have h':=q')<;>(try simp only [zz] at h')<;>try (exfalso; omega)) | (have q':=trivial; first | refine xa3 (c1) rfl (by decide) ?_ | refine xa4 (c1) rfl ?_ | refine hE _ _ xa5 ?_ | refine hE _ _ xa2 ?_))<;>(try simp (disch:=first | omega | decide +kernel) only [q',D.ints,go_sem,Qa,Qb,Qc,Qd,Qe,↓reduceIte,reduceCtorEq,Qf,Qg,Qh])<;>clear q') | (with_reducible first | refine And.intro ?_ ?_ | omega) | (refine xa1 ?_; omega)))
 all_goals (first | rfl)
theorem satisfiable1_ok (x : Nat) (b : Bool) : CtrM Tryz.prog 92 [.d (.int .i64 (x : Nat)),.p 0 0] [(0,.box 4 [.d (.bool b)])] [0] false (.d (.bool false)) [(0,.box 4 [.d (.bool true)])]:=by
 refine CtrM.of (n:=4) (rs:=[.tmp 3]) Tryz.func92 rfl rfl Tryz.ntmps92 rfl rfl (by kernel_rfl) Tryz.checked.mixed ?_; intro u
 simp (disch:=first | omega | decide +kernel) only [setL,go_sem,Qa,Qb,Qc,Qd,Qe,↓reduceIte,reduceCtorEq,Qf,Qg,Qh]
 (repeat' (first | ((first | (refine xa0 ?_ ?_<;>intro q'<;>(have h':=q')<;>(try simp only [zz] at h')<;>try (exfalso; omega)) | (have q':=trivial; first | refine hE _ _ xa5 ?_ | refine hE _ _ xa2 ?_))<;>(try simp (disch:=first | omega | decide +kernel) only [q',setL,go_sem,Qa,Qb,Qc,Qd,Qe,↓reduceIte,reduceCtorEq,Qf,Qg,Qh])<;>clear q') | (with_reducible first | refine And.intro ?_ ?_ | omega) | exact xa6 | (refine xa1 ?_; omega) | (refine za9 ⟨?_,?_⟩) | (simp only [go_sem,Qc,Qb,zb1,zb2,forall_eq]; done)))
 all_goals (first | exact retM_d rfl rfl rfl rfl ⟨rfl,trivial⟩ rfl)
theorem zb3 {n : Nat} {cs : List (List Int)} {i : Nat} (hi : i < n) (h : tmod cs i=true) : (List.range n).any (tmod cs)=true:=List.any_eq_true.2 ⟨i,List.mem_range.2 hi,h⟩
theorem zb4 {n : Nat} {cs : List (List Int)} (h : ∀ j,j < n->tmod cs j=false) : (List.range n).any (tmod cs)=false:=by
 rw [List.any_eq_false]
 intro x hx
 rw [h x (List.mem_range.1 hx)]; decide
theorem modelsSat_ok (u : Nat) (hu : u<=60) (cs : List (List Int)) (hc : Cls cs) :
 CtrM Tryz.prog 91 [.d (.agg [.int .i64 (u : Nat),.slice (cs.map D.ints)]),.fn (.func 92) [.p 0 0]] [(0,.box 4 [.d (.bool false)])] [0] false (.tup []) [(0,.box 4 [.d (.bool (tsat u cs))])]:=by
 have e : IntKind.wrap .i64 (1 * 2 ^ min u 64)=((2 ^ u : Nat) : Int):=xu1 (by omega)
 have h60 : 2 ^ u<=2 ^ 60:=Nat.pow_le_pow_right (by decide) hu
 unfold tsat
 generalize 2 ^ u=n at *
 refine CtrM.of (n:=22) (rs:=[]) Tryz.func91 rfl rfl Tryz.ntmps91 rfl rfl (by kernel_rfl) Tryz.checked.mixed ?_; intro u
 simp (disch:=first | omega | decide +kernel) only [e,go_sem,Qa,Qb,Qc,Qd,Qe,↓reduceIte,reduceCtorEq,Qf,Qg,Qh]
 (repeat' (first | ((first | (refine xa0 ?_ ?_<;>intro q'<;>(have h':=q')<;>(try simp only [zz] at h')<;>try (exfalso; omega)) | (have q':=trivial; first | refine hE _ _ xa5 ?_ | refine hE _ _ xa2 ?_))<;>(try simp (disch:=first | omega | decide +kernel) only [q',e,go_sem,Qa,Qb,Qc,Qd,Qe,↓reduceIte,reduceCtorEq,Qf,Qg,Qh])<;>clear q') | refine hN _ ?_ ?_ Wk.kk | (with_reducible first | refine And.intro ?_ ?_ | omega) | exact xb8 | exact xa8 | exact xa6 | with_reducible exact xa7 | (refine xa1 ?_; omega) | (refine za9 ⟨?_,?_⟩) | (simp only [go_sem,Qc,Qb,zb1,zb2,forall_eq]; done)))
 refine Ok.loopC [21,20,19,18,17,16,15,14,13,12,11,10,9,8,6,5,4,3,0] (fun i => [(8,.d (.int .i64 (i : Nat)))]) n (fun i => ∀ j,j < i->tmod cs j=false) (by simp) (Wk.kk) ?_
 intro R i hN hE hi hI
 by_cases hlt : i < n
 . have c1:=yu7 cs i hc (by omega)
   have c2:=satisfiable1_ok i false
   cases hm : tmod cs i with
   | true =>
     rw [hm] at c1
     simp (disch:=first | omega | decide +kernel) only [go_sem,Qa,Qb,Qc,Qd,Qe,↓reduceIte,reduceCtorEq,Qf,Qg,Qh]
     (repeat' (first | ((first | (refine xa0 ?_ ?_<;>intro q'<;>(have h':=q')<;>(try simp only [zz] at h')<;>try (exfalso; omega)) | (have q':=trivial; first | refine xa3 (c1) rfl (by decide) ?_ | refine xa4 (c1) rfl ?_ | refine xy0 [0] [0] [] (c2) ⟨.inl rfl,.inl rfl,trivial⟩ ⟨rfl,trivial⟩ rfl (by simp [dstB]) ?_ | refine hE _ _ xa5 ?_ | refine hE _ _ xa2 ?_))<;>(try simp (disch:=first | omega | decide +kernel) only [q',go_sem,Qa,Qb,Qc,Qd,Qe,↓reduceIte,reduceCtorEq,Qf,Qg,Qh])<;>clear q') | refine hN _ ?_ ?_ Wk.kk | (with_reducible first | refine And.intro ?_ ?_ | omega) | exact xb8 | exact xa8 | exact xa6 | with_reducible exact xa7 | (refine xa1 ?_; omega) | (refine za9 ⟨?_,?_⟩) | (simp only [go_sem,Qc,Qb,zb1,zb2,forall_eq]; done)))
     rw [zb3 hlt hm]
     exact zv8 rfl rfl rfl (.inr ⟨rfl,trivial⟩)
   | false =>
     rw [hm] at c1
     simp (disch:=first | omega | decide +kernel) only [go_sem,Qa,Qb,Qc,Qd,Qe,↓reduceIte,reduceCtorEq,Qf,Qg,Qh]
     (repeat' (first | ((first | (refine xa0 ?_ ?_<;>intro q'<;>(have h':=q')<;>(try simp only [zz] at h')<;>try (exfalso; omega)) | (have q':=trivial; first | refine xa3 (c1) rfl (by decide) ?_ | refine xa4 (c1) rfl ?_ | refine xy0 [0] [0] [] (c2) ⟨.inl rfl,.inl rfl,trivial⟩ ⟨rfl,trivial⟩ rfl (by simp [dstB]) ?_ | refine hE _ _ xa5 ?_ | refine hE _ _ xa2 ?_))<;>(try simp (disch:=first | omega | decide +kernel) only [q',go_sem,Qa,Qb,Qc,Qd,Qe,↓reduceIte,reduceCtorEq,Qf,Qg,Qh])<;>clear q') | refine hN _ ?_ ?_ Wk.kk | (with_reducible first | refine And.intro ?_ ?_ | omega) | exact xb8 | exact xa8 | exact xa6 | with_reducible exact xa7 | (refine xa1 ?_; omega) | (refine za9 ⟨?_,?_⟩) | (simp only [go_sem,Qc,Qb,zb1,zb2,forall_eq]; done)))
     exact xi8 (P:=fun j => tmod cs j=false) hI hm
 . obtain rfl : i=n:=by omega
   simp (disch:=first | omega | decide +kernel) only [go_sem,Qa,Qb,Qc,Qd,Qe,↓reduceIte,reduceCtorEq,Qf,Qg,Qh]
   (repeat' (first | ((first | (refine xa0 ?_ ?_<;>intro q'<;>(have h':=q')<;>(try simp only [zz] at h')<;>try (exfalso; omega)) | (have q':=trivial; first | refine hE _ _ xa5 ?_ | refine hE _ _ xa2 ?_))<;>(try simp (disch:=first | omega | decide +kernel) only [q',go_sem,Qa,Qb,Qc,Qd,Qe,↓reduceIte,reduceCtorEq,Qf,Qg,Qh])<;>clear q') | refine hN _ ?_ ?_ Wk.kk | (with_reducible first | refine And.intro ?_ ?_ | omega) | exact xb8 | exact xa8 | exact xa6 | with_reducible exact xa7 | (refine xa1 ?_; omega) | (refine za9 ⟨?_,?_⟩) | (simp only [go_sem,Qc,Qb,zb1,zb2,forall_eq]; done)))
   rw [zb4 hI]
   exact retM_n rfl rfl rfl (.inr ⟨rfl,trivial⟩)
theorem satisfiable_ok (u : Nat) (hu : u<=60) (cs : List (List Int)) (hc : Cls cs) : Ctr Tryz.prog 53 [.int .i64 (u : Nat),.slice (cs.map D.ints)] false (.d (.bool (tsat u cs))) []:=by
 have c1:=modelsSat_ok u hu cs hc
 refine Ctr.of (n:=12) (rs:=[.tmp 4]) Tryz.func53 rfl rfl Tryz.ntmps53 rfl rfl (by kernel_rfl) Tryz.checked.mixed ?_
 simp (disch:=first | omega | decide +kernel) only [go_sem,Qa,Qb,Qc,Qd,Qe,↓reduceIte,reduceCtorEq,Qf,Qg,Qh]
 (repeat' (first | ((first | (refine xa0 ?_ ?_<;>intro q'<;>(have h':=q')<;>(try simp only [zz] at h')<;>try (exfalso; omega)) | (have q':=trivial; first | refine xy0 [5] [5] [] (c1) ⟨.inl rfl,.inl rfl,trivial⟩ ⟨rfl,trivial⟩ rfl (by simp [dstB]) ?_ | refine hE _ _ xa5 ?_ | refine hE _ _ xa2 ?_))<;>(try simp (disch:=first | omega | decide +kernel) only [q',go_sem,Qa,Qb,Qc,Qd,Qe,↓reduceIte,reduceCtorEq,Qf,Qg,Qh])<;>clear q') | (with_reducible first | refine And.intro ?_ ?_ | omega) | exact xa6 | (refine xa1 ?_; omega) | (refine za9 ⟨?_,?_⟩) | (simp only [go_sem,Qc,Qb,zb1,zb2,forall_eq]; done)))
def icB (u : Int) (cs : List (List Int)) (c : List Int) : Bool:=xz5 u cs && xe6 u c
theorem yn4 {u : Int} {cs : List (List Int)} (h : xz5 u cs=true) : xk1 u=true∧cs.length<=60∧∀ c ∈ cs,xe6 u c=true:=by
 simp only [xz5,Bc,decide_eq_true_eq,List.all_eq_true] at h
 exact ⟨h.1.1,h.1.2,h.2⟩
theorem lit62_ok {u : Int} {c : List Int} (h : xe6 u c=true) : ∀ l ∈ c,yz7 l:=fun l hl => by
 have:=(good_of_ok h).2 l hl
 unfold yz7; omega
theorem zx1 {u : Int} {cs : List (List Int)} (h : xz5 u cs=true) (hc : ∀ c ∈ cs,c.length<=1048576) : Cls cs:=by
 obtain ⟨h1,h2,h3⟩:=yn4 h
 exact ⟨by omega,hc,fun c hm => lit62_ok (h3 c hm)⟩
end Abs.Y

namespace Abs.Y
open Go Go.Proofs Abs
open Nat renaming reduceEqDiff -> Qa, reduceLT -> Qb, reduceAdd -> Qc, reduceMul -> Qd, reduceSub -> Qe, reduceLeDiff -> Qf, reduceSubDiff -> Qg, reduceBEq -> Qh
open Bool renaming not_eq_true' -> Ba, not_eq_false' -> Bb, and_eq_true -> Bc, or_eq_true -> Bh, or_eq_false_iff -> Be
open Int renaming ofNat_lt -> Ia, ofNat_le -> Ib, not_lt -> Ic, not_le -> Ie
open Decidable renaming not_not -> Da
set_option maxRecDepth 100000

def sgS (out : List (List Int)) (v : Int) : List (List Int):=out.flatMap fun c => [c++[v],c++[-v]]
def sgI (l : List Int) : List (List Int):=l.foldl sgS [[]]
def ngI (c : List Int) : Int:=((c.filter fun l => decide (l < 0)).length : Nat)
def xpB (odd : Bool) (c : List Int) : Bool:=decide (Int.tmod (ngI c) 2=0) == odd
def xorI (l : List Int) (odd : Bool) : List (List Int):=(sgI l).filter (xpB odd)
theorem xw0 (l : List Int) (v : Int) : sgI (l++[v])=sgS (sgI l) v:=by unfold sgI; rw [List.foldl_append]; rfl
theorem zh2 {out : List (List Int)} {v : Int} {c : List Int} : c ∈ sgS out v↔∃ d ∈ out,c=d++[v]∨c=d++[-v]:=by
 unfold sgS
 rw [List.mem_flatMap]
 simp only [List.mem_cons,List.not_mem_nil,or_false]
theorem xu0 {α : Type} {P : List α->Prop} (h0 : P []) (h1 : ∀ l a,P l->P (l++[a])) (l : List α) : P l:=by
 have : ∀ r : List α,P r.reverse:=fun r => by
  induction r with
  | nil => exact h0
  | cons a r ih => rw [List.reverse_cons]; exact h1 _ _ ih
 rw [← List.reverse_reverse l]; exact this _
theorem ym1 (l : List Int) : ∀ c ∈ sgI l,c.map Int.natAbs=l.map Int.natAbs:=by
 refine xu0 (P:=fun l => ∀ c ∈ sgI l,c.map Int.natAbs=l.map Int.natAbs) ?_ ?_ l
 . intro c hc
   obtain rfl:=List.mem_singleton.1 hc
   rfl
 . intro l a ih c hc
   rw [xw0,zh2] at hc
   obtain ⟨d,hd,rfl | rfl⟩:=hc
   . rw [List.map_append,List.map_append,ih d hd]
   . rw [List.map_append,List.map_append,ih d hd]; simp
def fzI (x : Nat) (l : List Int) : List Int:=l.map fun v => if x.testBit (v.natAbs - 1) then -v else v
theorem zb7 (x : Nat) (l : List Int) : (∀ v ∈ l,0 < v)->∀ c,(c ∈ sgI l∧tcl x c=false)↔c=fzI x l:=by
 refine xu0 (P:=fun l => (∀ v ∈ l,0 < v)->∀ c,(c ∈ sgI l∧tcl x c=false)↔c=fzI x l) ?_ ?_ l
 . intro _ c
   show (c ∈ [[]]∧_)↔c=[]
   rw [List.mem_singleton]
   exact ⟨fun h => h.1,fun h => ⟨h,by subst h; rfl⟩⟩
 . intro l a ih hl c
   have ha:=hl a (List.mem_append.2 (.inr (List.mem_singleton.2 rfl)))
   have ih:=ih fun v hv => hl v (List.mem_append.2 (.inl hv))
   have hsp : ∀ (d : List Int) (y : Int),tcl x (d++[y])=(tcl x d || tlit x y):=fun d y => by unfold tcl; rw [List.any_append]; simp
   have hpo : tlit x a=x.testBit (a.natAbs - 1):=by unfold tlit; rw [decide_eq_true ha]; cases x.testBit (a.natAbs - 1)<;>rfl
   have hne : tlit x (-a)=!(x.testBit (a.natAbs - 1)):=by rw [tlit_neg (by omega),hpo]
   have hf : fzI x (l++[a])=fzI x l++[if x.testBit (a.natAbs - 1) then -a else a]:=by unfold fzI; rw [List.map_append]; rfl
   rw [xw0,zh2,hf]
   constructor
   . rintro ⟨⟨d,hd,rfl | rfl⟩,h⟩
     . rw [hsp,Be,hpo] at h
       rw [(ih d).1 ⟨hd,h.1⟩,h.2]; rfl
     . rw [hsp,Be,hne,Bb] at h
       rw [(ih d).1 ⟨hd,h.1⟩,h.2,if_pos rfl]
   . rintro rfl
     obtain ⟨h1,h2⟩:=(ih (fzI x l)).2 rfl
     cases hb : x.testBit (a.natAbs - 1) with
     | true =>
       rw [if_pos rfl]
       exact ⟨⟨_,h1,.inr rfl⟩,by rw [hsp,h2,hne,hb]; rfl⟩
     | false =>
       rw [if_neg (by decide)]
       exact ⟨⟨_,h1,.inl rfl⟩,by rw [hsp,h2,hpo,hb]; rfl⟩
theorem yn8 (c : List Int) (v : Int) : ngI (c++[v])=ngI c + if v < 0 then 1 else 0:=by
 unfold ngI
 rw [List.filter_append,List.length_append]
 by_cases h : v < 0
 . rw [if_pos h]; simp [h]
 . rw [if_neg h]; simp [h]
theorem yu0 (c : List Int) : 0<=ngI c:=by unfold ngI; omega
theorem zr2 (c : List Int) : ngI c<=c.length:=by
 unfold ngI
 have:=List.length_filter_le (fun l : Int => decide (l < 0)) c
 omega
def sbI (x : Nat) (l : List Int) : Int:=(l.map fun v => bitI x (v.natAbs - 1)).sum
theorem ng_fz (x : Nat) (l : List Int) : (∀ v ∈ l,0 < v)->ngI (fzI x l)=sbI x l:=by
 refine xu0 (P:=fun l => (∀ v ∈ l,0 < v)->ngI (fzI x l)=sbI x l) (fun _ => rfl) ?_ l
 intro l a ih hl
 have ha:=hl a (List.mem_append.2 (.inr (List.mem_singleton.2 rfl)))
 have ih:=ih fun v hv => hl v (List.mem_append.2 (.inl hv))
 have hf : fzI x (l++[a])=fzI x l++[if x.testBit (a.natAbs - 1) then -a else a]:=by unfold fzI; rw [List.map_append]; rfl
 have hs : sbI x (l++[a])=sbI x l + bitI x (a.natAbs - 1):=by unfold sbI; rw [List.map_append,List.sum_append]; simp
 rw [hf,hs,yn8,ih]
 congr 1
 unfold bitI
 cases x.testBit (a.natAbs - 1) with
 | true => simp only [if_true]; rw [if_pos (by omega)]
 | false => simp only [Bool.false_eq_true,if_false]; rw [if_neg (by omega)]
theorem tmod_xor {x : Nat} {l : List Int} (hl : ∀ v ∈ l,0 < v) {ch : Int} (hc : 0<=ch∧ch<=1) : tmod (xorI l (decide (ch=1))) x=decide ((ch + sbI x l) % 2=0):=by
 have hn:=ng_fz x l hl
 have h0:=yu0 (fzI x l)
 have ht : Int.tmod (ngI (fzI x l)) 2=ngI (fzI x l) % 2:=Int.tmod_eq_emod_of_nonneg h0
 have key : tmod (xorI l (decide (ch=1))) x=!(xpB (decide (ch=1)) (fzI x l)):=by
  rw [Bool.eq_iff_iff,tmod_iff,Ba]
  constructor
  . intro h
    cases hx : xpB (decide (ch=1)) (fzI x l) with
    | false => rfl
    | true =>
      obtain ⟨h1,h2⟩:=(zb7 x l hl _).2 rfl
      rw [h _ (List.mem_filter.2 ⟨h1,hx⟩)] at h2
      cases h2
  . intro h c hcm
    obtain ⟨h1,h2⟩:=List.mem_filter.1 hcm
    cases ht : tcl x c with
    | true => rfl
    | false =>
      rw [(zb7 x l hl c).1 ⟨h1,ht⟩,h] at h2
      cases h2
 rw [key]
 unfold xpB
 rw [ht,hn]
 rcases (by omega : ch=0∨ch=1) with rfl | rfl
 . rw [decide_eq_false (show ¬ (0 : Int)=1 by decide)]
   by_cases h : sbI x l % 2=0
   . rw [decide_eq_true h,decide_eq_true (by omega)]; rfl
   . rw [decide_eq_false h,decide_eq_false (by omega)]; rfl
 . rw [decide_eq_true (show (1 : Int)=1 from rfl)]
   by_cases h : sbI x l % 2=0
   . rw [decide_eq_true h,decide_eq_false (by omega)]; rfl
   . rw [decide_eq_false h,decide_eq_true (by omega)]; rfl
theorem xp_flip (odd : Bool) (d : List Int) {v : Int} (hv : 0 < v) : xpB odd (d++[-v])=!(xpB odd (d++[v])):=by
 unfold xpB
 have h0:=yu0 d
 rw [yn8,yn8,if_pos (by omega),if_neg (by omega),Int.tmod_eq_emod_of_nonneg (by omega),Int.tmod_eq_emod_of_nonneg (by omega),Int.add_zero]
 by_cases h : ngI d % 2=0
 . rw [decide_eq_true h,decide_eq_false (by omega)]; cases odd<;>rfl
 . rw [decide_eq_false h,decide_eq_true (by omega)]; cases odd<;>rfl
theorem zp6 (out : List (List Int)) (v : Int) : (sgS out v).length=2 * out.length:=by
 induction out with
 | nil => rfl
 | cons d r ih =>
   have : sgS (d :: r) v=(d++[v]) :: (d++[-v]) :: sgS r v:=rfl
   rw [this,List.length_cons,List.length_cons,ih,List.length_cons]; omega
theorem zj2 (odd : Bool) {v : Int} (hv : 0 < v) (out : List (List Int)) : ((sgS out v).filter (xpB odd)).length=out.length:=by
 induction out with
 | nil => rfl
 | cons d r ih =>
   have : sgS (d :: r) v=(d++[v]) :: (d++[-v]) :: sgS r v:=rfl
   rw [this,List.filter_cons,List.filter_cons,xp_flip odd d hv]
   cases xpB odd (d++[v]) with
   | true => rw [if_pos rfl,if_neg (by decide),List.length_cons,ih,List.length_cons]
   | false => rw [if_neg (by decide),if_pos (by rfl),List.length_cons,ih,List.length_cons]
theorem yw8 (l : List Int) : (sgI l).length=2 ^ l.length:=by
 refine xu0 (P:=fun l => (sgI l).length=2 ^ l.length) rfl ?_ l
 intro l a ih
 rw [xw0,zp6,ih,List.length_append,List.length_singleton,Nat.pow_succ]; omega
theorem xorI_len {l : List Int} (hl : ∀ v ∈ l,0 < v) (h4 : l.length<=4) (odd : Bool) : (xorI l odd).length<=2 * l.length + 1:=by
 rcases List.eq_nil_or_concat l with rfl | ⟨d,a,rfl⟩
 . have:=List.length_filter_le (xpB odd) (sgI [])
   unfold xorI
   have h1 : (sgI []).length=1:=rfl
   omega
 . rw [List.concat_eq_append] at *
   have ha:=hl a (List.mem_append.2 (.inr (List.mem_singleton.2 rfl)))
   unfold xorI
   rw [xw0,zj2 odd ha,yw8]
   rw [List.length_append,List.length_singleton] at h4 ⊢
   have h3 : d.length<=3:=by omega
   generalize d.length=n at *
   rcases (by omega : n=0∨n=1∨n=2∨n=3) with rfl | rfl | rfl | rfl<;>decide
def vsI (g : Chg) (v : Nat) : List Int:=(xb0 g v).map (· + 1)
def parT (g : Chg) (m : Nat) : List (List Int):=(List.range m).flatMap fun v => xorI (vsI g v) (decide (g.ch.getD v 0=1))
def parI (g : Chg) : List (List Int):=parT g g.ch.length
theorem xw6 (g : Chg) (m : Nat) : parT g (m + 1)=parT g m++xorI (vsI g m) (decide (g.ch.getD m 0=1)):=by
 unfold parT; rw [List.range_succ,List.flatMap_append]; simp
theorem ys9 {g : Chg} {v : Nat} : ∀ l ∈ vsI g v,0 < l∧l<=g.ed.length:=by
 intro l hl
 obtain ⟨k,hk,rfl⟩:=List.mem_map.1 hl
 have:=xk2 hk
 omega
theorem vs_sum (g : Chg) (x v : Nat) : sbI x (vsI g v)=eb g x v:=by
 unfold sbI vsI xb0 xg5 eb
 rw [List.map_map]
 refine (yc0 (atB g v) (fun k : Int => bitI x ((k + 1).natAbs - 1)) g.ed.length).trans ?_
 refine xm3 _ fun k _ => ?_
 have e : ((k : Int) + 1).natAbs - 1=k:=by omega
 rw [e]
theorem tmod_app (a b : List (List Int)) (x : Nat) : tmod (a++b) x=(tmod a x && tmod b x):=by
 unfold tmod; rw [List.any_append,Bool.not_or]
theorem yx2 {g : Chg} (hg : GoodP g) (x : Nat) : tmod (parI g) x=satG g x:=by
 have hc:=hg.c
 have key : ∀ m,m<=g.ch.length->tmod (parT g m) x=(List.range m).all (satV g x):=by
  intro m
  induction m with
  | zero => intro _; rfl
  | succ m ih =>
    intro h
    rw [xw6,tmod_app,ih (by omega),List.range_succ,List.all_append,tmod_xor (fun v hv => (ys9 v hv).1) (hg.q m (by omega)),vs_sum]
    congr 1
    simp [satV]
 unfold parI satG
 rw [key _ (Nat.le_refl _),show g.n.toNat=g.ch.length by omega]
theorem zx6 {f h : Nat->Int} : ∀ n,(∀ i,i < n->f i<=h i)->rs n f<=rs n h
 | 0,_ => Int.le_refl _
 | n + 1, hh => by
   rw [xf1,xf1]
   have:=zx6 n fun i hi => hh i (by omega)
   have:=hh n (by omega)
   omega
theorem zq1 (a : Int) : ∀ n,rs n (fun v : Nat => if (v : Int)=a then 1 else 0)<=1∧((n : Int)<=a->rs n (fun v : Nat => if (v : Int)=a then 1 else 0)=0)
 | 0 => ⟨by rw [yx0]; decide,fun _ => rfl⟩
 | n + 1 => by
   obtain ⟨h1,h2⟩:=zq1 a n
   rw [xf1]
   constructor
   . by_cases h : (n : Int)=a
     . rw [if_pos h,h2 (by omega)]; decide
     . rw [if_neg h]; omega
   . intro h
     rw [if_neg (by omega),h2 (by omega)]; rfl
theorem deg_sum (g : Chg) (v : Nat) : ((xb0 g v).length : Int)=rs g.ed.length fun k => if atB g v k then 1 else 0:=by
 unfold xb0 xg5
 rw [← yc0 (atB g v) (fun _ => 1)]
 generalize (List.filter (atB g v) (List.range g.ed.length)).map (fun w : Nat => (w : Int))=l
 induction l with
 | nil => rfl
 | cons a r ih => rw [List.length_cons,List.map_cons,List.sum_cons,← ih]; omega
theorem zs7 (g : Chg) (n : Nat) : rs n (fun v => ((xb0 g v).length : Int))<=2 * g.ed.length:=by
 have h1 : rs n (fun v => ((xb0 g v).length : Int))=rs n fun v => rs g.ed.length fun k => if atB g v k then 1 else 0:=xm3 _ fun v _ => deg_sum g v
 rw [h1,zg5]
 have h2 : ∀ m,rs m (fun _ => 2)=2 * (m : Int):=fun m => by
  induction m with
  | zero => rfl
  | succ m ih => rw [xf1,ih]; omega
 rw [← h2]
 refine zx6 _ fun k _ => ?_
 have h3 : rs n (fun v : Nat => if atB g v k then (1 : Int) else 0)<=rs n fun v : Nat => (if (v : Int)=(g.ed.getD k (0,0)).1 then 1 else 0) + if (v : Int)=(g.ed.getD k (0,0)).2 then 1 else 0:=by
  refine zx6 _ fun v _ => ?_
  by_cases h : atB g v k=true
  . rw [if_pos h]
    rcases zi7.1 h with h | h
    . rw [if_pos h]; split<;>omega
    . rw [if_pos h]; split<;>omega
  . rw [if_neg h]; split<;>split<;>omega
 rw [zj9] at h3
 have h4:=(zq1 (g.ed.getD k (0,0)).1 n).1
 have h5:=(zq1 (g.ed.getD k (0,0)).2 n).1
 omega
theorem yh8 (g : Chg) (v : Nat) : (vsI g v).length=(xb0 g v).length:=by unfold vsI; rw [List.length_map]
theorem zl1 {g : Chg} (hg : GoodP g) : ∀ m,m<=g.ch.length->((parT g m).length : Int)<=2 * rs m (fun v => ((xb0 g v).length : Int)) + m
 | 0,_ => by rw [yx0]; exact Int.le_refl _
 | m + 1, h => by
   have ih:=zl1 hg m (by omega)
   have h1:=xorI_len (l:=vsI g m) (fun v hv => (ys9 v hv).1) (by rw [yh8]; exact hg.d m (by omega)) (decide (g.ch.getD m 0=1))
   rw [yh8] at h1
   rw [xw6,List.length_append,xf1]
   omega
theorem yf8 {g : Chg} (hg : GoodP g) {m : Nat} (h : m<=g.ch.length) : (parT g m).length<=56:=by
 have h1:=zl1 hg m h
 have h2:=zs7 g m
 have h3:=hg.m
 have h4:=hg.c
 have h5:=hg.n1
 omega
theorem edgesAt_sorted (g : Chg) (v : Int) : (xb0 g v).Pairwise (· < ·):=by
 unfold xb0 xg5
 refine List.pairwise_map.2 ((List.pairwise_lt_range.filter _).imp fun {a b} h => by omega)
theorem xor_good {g : Chg} (hg : GoodP g) {v : Nat} {odd : Bool} : ∀ c ∈ xorI (vsI g v) odd,Good c∧∀ l ∈ c,(l.natAbs : Int)<=g.ed.length:=by
 intro c hc
 have ha:=ym1 (vsI g v) c (List.mem_filter.1 hc).1
 have hm:=hg.m
 have hb : ∀ l ∈ c,l ≠ 0∧l.natAbs<=12∧(l.natAbs : Int)<=g.ed.length:=fun l hl => by
  have h1 : l.natAbs ∈ c.map Int.natAbs:=List.mem_map.2 ⟨l,hl,rfl⟩
  rw [ha] at h1
  obtain ⟨k,hk,e⟩:=List.mem_map.1 h1
  have:=ys9 k hk
  omega
 refine ⟨⟨?_,fun l hl => ⟨(hb l hl).1,(hb l hl).2.1⟩⟩,fun l hl => (hb l hl).2.2⟩
 have h2 : (c.map Int.natAbs).Pairwise (· < ·):=by
  rw [ha]
  unfold vsI
  rw [List.map_map]
  refine List.pairwise_map.2 ((edgesAt_sorted g v).imp_of_mem fun {a b} h1 h2 h => ?_)
  have:=(xk2 h1).1
  show (a + 1).natAbs < (b + 1).natAbs
  omega
 exact List.pairwise_map.1 h2
theorem zl0 {g : Chg} (hg : GoodP g) : xz5 g.ed.length (parI g)=true:=by
 have hu : xk1 (g.ed.length : Nat)=true:=xs8.2 (by have:=hg.m; omega)
 unfold xz5
 rw [hu,decide_eq_true (by have:=yf8 hg (Nat.le_refl _); unfold parI; omega),Bool.true_and,Bool.true_and,List.all_eq_true]
 intro c hc
 unfold parI parT at hc
 obtain ⟨v,_,h⟩:=List.mem_flatMap.1 hc
 obtain ⟨h1,h2⟩:=xor_good hg c h
 exact ok_of_good hu h1 h2
def cmI (u : Nat) (cs : List (List Int)) : Nat:=((List.range (2 ^ u)).filter (tmod cs)).length
end Abs.Y

namespace Abs.Y
open Go Go.Proofs Abs
open Nat renaming reduceEqDiff -> Qa, reduceLT -> Qb, reduceAdd -> Qc, reduceMul -> Qd, reduceSub -> Qe, reduceLeDiff -> Qf, reduceSubDiff -> Qg, reduceBEq -> Qh
open Bool renaming not_eq_true' -> Ba, not_eq_false' -> Bb, and_eq_true -> Bc, or_eq_true -> Bh, or_eq_false_iff -> Be
open Int renaming ofNat_lt -> Ia, ofNat_le -> Ib, not_lt -> Ic, not_le -> Ie
open Decidable renaming not_not -> Da
set_option maxRecDepth 100000

def plI (list : List (List Int)) (c : List Int) : Nat:=(list.takeWhile fun x => befI x c).length
def insI (list : List (List Int)) (c : List Int) : List (List Int):=if plI list c < list.length∧list.getD (plI list c) []=c then list else list.take (plI list c)++c :: list.drop (plI list c)
theorem yw3 (p : List Int->Bool) : ∀ (l : List (List Int)),l.take (l.takeWhile p).length=l.takeWhile p∧l.drop (l.takeWhile p).length=l.dropWhile p
 | [] => by simp
 | x :: r => by
   have:=yw3 p r
   by_cases h : p x=true
   . simp [h,this.1,this.2]
   . simp [h]
theorem xt9 {p : List Int->Bool} : ∀ {l : List (List Int)} {x},x ∈ l.takeWhile p->p x=true
 | y :: r, x, h => by
   by_cases hp : p y=true
   . rw [List.takeWhile_cons_of_pos hp] at h
     rcases List.mem_cons.1 h with rfl | h
     . exact hp
     . exact xt9 h
   . rw [List.takeWhile_cons_of_neg hp] at h
     cases h
 | [],x,h => by cases h
theorem xs5 {p : List Int->Bool} : ∀ {l : List (List Int)} {x r},l.dropWhile p=x :: r->p x=false
 | y :: l, x, r, h => by
   by_cases hp : p y=true
   . rw [List.dropWhile_cons_of_pos hp] at h
     exact xs5 h
   . rw [List.dropWhile_cons_of_neg hp] at h
     cases h
     simpa using hp
 | [],x,r,h => by cases h
theorem zo5 {list : List (List Int)} {c : List Int} (hs : Srt list) (sc : Sm c) : ∀ x ∈ list.dropWhile (fun x => befI x c),befI x c=false:=by
 intro x hx
 have hsub : (list.dropWhile fun x => befI x c).Sublist list:=List.dropWhile_sublist _
 have hp : (list.dropWhile fun x => befI x c).Pairwise (fun a b => befI a b=true):=hs.1.sublist hsub
 match hd : list.dropWhile (fun x => befI x c),hx with
 | y :: r, hx =>
   have hy:=xs5 hd
   rw [hd] at hp hsub
   rcases List.mem_cons.1 hx with rfl | hx
   . exact hy
   . have h1:=(List.pairwise_cons.1 hp).1 x hx
     have sy : Sm y:=hs.2 y (hsub.subset (by simp))
     have sx : Sm x:=hs.2 x (hsub.subset (by simp [hx]))
     cases h2 : befI x c with
     | false => rfl
     | true =>
       have:=zg0 sy sx sc h1 h2
       rw [hy] at this
       cases this
theorem zv9 {list : List (List Int)} {c : List Int} (hs : Srt list) (sc : Sm c) : At list c (plI list c):=by
 have hle : plI list c<=list.length:=(List.takeWhile_sublist _).length_le
 obtain ⟨h1,h2⟩:=yw3 (fun x => befI x c) list
 refine ⟨hle,fun j hj => ?_,fun j hj hl => ?_⟩
 . have hm : list.getD j [] ∈ list.takeWhile (fun x => befI x c):=by
    rw [← h1,List.mem_take_iff_getElem]
    exact ⟨j,by unfold plI at hj hle; omega,by simp [List.getD_eq_getElem?_getD,show j < list.length by omega]⟩
   exact xt9 (p:=fun x => befI x c) hm
 . have hm : list.getD j [] ∈ list.dropWhile (fun x => befI x c):=by
    rw [← h2,List.mem_drop_iff_getElem]
    exact ⟨j - plI list c,by unfold plI at hj ⊢; omega,by
     have : (list.takeWhile fun x => befI x c).length + (j - plI list c)=j:=by unfold plI at hj ⊢; omega
     simp [List.getD_eq_getElem?_getD,hl,this]⟩
   exact zo5 hs sc _ hm
theorem insI_srt {list : List (List Int)} {c : List Int} (hs : Srt list) (sc : Sm c) : Srt (insI list c)∧∀ x,x ∈ insI list c↔x=c∨x ∈ list:=by
 unfold insI
 obtain ⟨h1,h2⟩:=yw3 (fun x => befI x c) list
 split
 . rename_i h
   refine ⟨hs,fun x => ⟨.inr,?_⟩⟩
   rintro (rfl | hx)
   . rw [← h.2]; exact xc0 h.1
   . exact hx
 . rename_i h
   have hat:=zv9 hs sc
   unfold plI at *
   rw [h1,h2]
   have happ : list.takeWhile (fun x => befI x c)++list.dropWhile (fun x => befI x c)=list:=List.takeWhile_append_dropWhile
   have hmem : ∀ x,x ∈ list↔x ∈ list.takeWhile (fun x => befI x c)∨x ∈ list.dropWhile (fun x => befI x c):=fun x => by rw [← List.mem_append,happ]
   have hp:=hs.1
   rw [← happ,List.pairwise_append] at hp
   have hlt : ∀ x ∈ list.dropWhile (fun x => befI x c),befI c x=true:=by
    intro x hx
    have sx:=hs.2 x ((hmem x).2 (.inr hx))
    rcases bef_total sc sx with h' | h' | h'
    . exact h'
    . rw [zo5 hs sc x hx] at h'; cases h'
    . subst h'
      -- c itself stands behind the place: it is the first there
      exfalso
      match hd : list.dropWhile (fun x => befI x c),hx with
      | y :: r, hx =>
        rcases List.mem_cons.1 hx with e | hx'
        . apply h
          have hlen : (list.takeWhile fun x => befI x c).length < list.length:=by
           have:=congrArg List.length happ
           rw [hd] at this
           simp only [List.length_append,List.length_cons] at this
           omega
          refine ⟨hlen,?_⟩
          have h3 : list.drop (list.takeWhile fun x => befI x c).length=y :: r:=h2.trans hd
          have h4:=zf5 ([] : List Int) list _ hlen
          rw [h3] at h4
          exact (List.cons.inj h4).1.symm.trans e.symm
        . have hy:=xs5 hd
          have hpd:=hp.2.1
          rw [hd] at hpd
          have:=(List.pairwise_cons.1 hpd).1 c hx'
          rw [hy] at this; cases this
   refine ⟨⟨?_,fun x hx => ?_⟩,fun x => ?_⟩
   . rw [List.pairwise_append,List.pairwise_cons]
     refine ⟨hp.1,⟨hlt,hp.2.1⟩,fun x hx y hy => ?_⟩
     rcases List.mem_cons.1 hy with rfl | hy
     . exact xt9 (p:=fun z => befI z _) hx
     . exact hp.2.2 x hx y hy
   . rcases List.mem_append.1 hx with hx | hx
     . exact hs.2 x ((hmem x).2 (.inl hx))
     . rcases List.mem_cons.1 hx with rfl | hx
       . exact sc
       . exact hs.2 x ((hmem x).2 (.inr hx))
   . rw [List.mem_append,List.mem_cons,hmem]
     constructor
     . rintro (h | h | h)
       . exact .inr (.inl h)
       . exact .inl h
       . exact .inr (.inr h)
     . rintro (h | h | h)
       . exact .inr (.inl h)
       . exact .inl h
       . exact .inr (.inr h)
end Abs.Y
