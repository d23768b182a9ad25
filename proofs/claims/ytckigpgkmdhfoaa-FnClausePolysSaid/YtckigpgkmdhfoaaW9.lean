/- What functions of this program compute, over plain data. No condition. -/
import Derived.Test.YtckigpgkmdhfoaaG8
import Derived.Test.YtckigpgkmdhfoaaK0
import Derived.Test.YtckigpgkmdhfoaaG3
import Derived.Test.YtckigpgkmdhfoaaV2
import Derived.Test.YtckigpgkmdhfoaaST2
import Derived.Test.YtckigpgkmdhfoaaChecked
import Derived.Shelf.SlSortCmp.Whole1
import Derived.Shelf.Lay
import Derived.Ground.SlsfProg
set_option linter.all false
namespace Abs.Y
open Go Go.Proofs Abs
open Nat renaming reduceEqDiff -> Qa, reduceLT -> Qb, reduceAdd -> Qc, reduceMul -> Qd, reduceSub -> Qe, reduceLeDiff -> Qf, reduceSubDiff -> Qg, reduceBEq -> Qh
open Bool renaming not_eq_true' -> Ba, not_eq_false' -> Bb, and_eq_true -> Bc, or_eq_true -> Bh, or_eq_false_iff -> Be
open Int renaming ofNat_lt -> Ia, ofNat_le -> Ib, not_lt -> Ic, not_le -> Ie
open Decidable renaming not_not -> Da
set_option maxRecDepth 100000

def stepF (s : Step) (left : Int) : Int:=szI s.c left
end Abs.Y

namespace Abs.Y
open Go Go.Proofs Abs
open Nat renaming reduceEqDiff -> Qa, reduceLT -> Qb, reduceAdd -> Qc, reduceMul -> Qd, reduceSub -> Qe, reduceLeDiff -> Qf, reduceSubDiff -> Qg, reduceBEq -> Qh
open Bool renaming not_eq_true' -> Ba, not_eq_false' -> Bb, and_eq_true -> Bc, or_eq_true -> Bh, or_eq_false_iff -> Be
open Int renaming ofNat_lt -> Ia, ofNat_le -> Ib, not_lt -> Ic, not_le -> Ie
open Decidable renaming not_not -> Da
set_option maxRecDepth 100000

def cmpI (x y : Int) : Int:=if x < y then -1 else if y < x then 1 else 0
def orI (x y : Int) : Int:=if x ≠ 0 then x else y
end Abs.Y

namespace Abs.Y
open Go Go.Proofs Abs
open Nat renaming reduceEqDiff -> Qa, reduceLT -> Qb, reduceAdd -> Qc, reduceMul -> Qd, reduceSub -> Qe, reduceLeDiff -> Qf, reduceSubDiff -> Qg, reduceBEq -> Qh
open Bool renaming not_eq_true' -> Ba, not_eq_false' -> Bb, and_eq_true -> Bc, or_eq_true -> Bh, or_eq_false_iff -> Be
open Int renaming ofNat_lt -> Ia, ofNat_le -> Ib, not_lt -> Ic, not_le -> Ie
open Decidable renaming not_not -> Da
set_option maxRecDepth 100000

def cmpLI (a b : Int) : Int:=orI (cmpI (absI a) (absI b)) (cmpI b a)
def lexI : List Int->List Int->Int
 | [],[] => 0
 | [],_ :: _ => -1
 | _ :: _,[] => 1
 | x :: r,y :: s => if cmpLI x y ≠ 0 then cmpLI x y else lexI r s
def cmpCI (a b : List Int) : Int:=orI (cmpI a.length b.length) (lexI a b)
def Sm (c : List Int) : Prop:=∀ x ∈ c,-4611686018427387900<=x∧x<=4611686018427387900
def befI (a b : List Int) : Bool:=decide (cmpCI a b < 0)
end Abs.Y

namespace Abs.Y
open Go Go.Proofs Abs
open Nat renaming reduceEqDiff -> Qa, reduceLT -> Qb, reduceAdd -> Qc, reduceMul -> Qd, reduceSub -> Qe, reduceLeDiff -> Qf, reduceSubDiff -> Qg, reduceBEq -> Qh
open Bool renaming not_eq_true' -> Ba, not_eq_false' -> Bb, and_eq_true -> Bc, or_eq_true -> Bh, or_eq_false_iff -> Be
open Int renaming ofNat_lt -> Ia, ofNat_le -> Ib, not_lt -> Ic, not_le -> Ie
open Decidable renaming not_not -> Da
set_option maxRecDepth 100000

structure At (list : List (List Int)) (c : List Int) (k : Nat) : Prop where
 le : k<=list.length
 lo : ∀ j,j < k->befI (list.getD j []) c=true
 hi : ∀ j,k<=j->j < list.length->befI (list.getD j []) c=false
end Abs.Y

namespace Abs.Y
open Go Go.Proofs Abs
open Nat renaming reduceEqDiff -> Qa, reduceLT -> Qb, reduceAdd -> Qc, reduceMul -> Qd, reduceSub -> Qe, reduceLeDiff -> Qf, reduceSubDiff -> Qg, reduceBEq -> Qh
open Bool renaming not_eq_true' -> Ba, not_eq_false' -> Bb, and_eq_true -> Bc, or_eq_true -> Bh, or_eq_false_iff -> Be
open Int renaming ofNat_lt -> Ia, ofNat_le -> Ib, not_lt -> Ic, not_le -> Ie
open Decidable renaming not_not -> Da
set_option maxRecDepth 100000

def keyI (x : Int) : Int:=if x < 0 then -2 * x + 1 else 2 * x
def lexB : List Int->List Int->Bool
 | x :: r,y :: s => decide (keyI x < keyI y) || (decide (x=y) && lexB r s)
 | _,_ => false
def Srt (l : List (List Int)) : Prop:=l.Pairwise (fun a b => befI a b=true)∧∀ x ∈ l,Sm x
end Abs.Y

namespace Abs.Y
open Go Go.Proofs Abs
open Nat renaming reduceEqDiff -> Qa, reduceLT -> Qb, reduceAdd -> Qc, reduceMul -> Qd, reduceSub -> Qe, reduceLeDiff -> Qf, reduceSubDiff -> Qg, reduceBEq -> Qh
open Bool renaming not_eq_true' -> Ba, not_eq_false' -> Bb, and_eq_true -> Bc, or_eq_true -> Bh, or_eq_false_iff -> Be
open Int renaming ofNat_lt -> Ia, ofNat_le -> Ib, not_lt -> Ic, not_le -> Ie
open Decidable renaming not_not -> Da
set_option maxRecDepth 100000

def tlit (x : Nat) (l : Int) : Bool:=x.testBit (l.natAbs - 1) == decide (0 < l)
def tcl (x : Nat) (c : List Int) : Bool:=c.any (tlit x)
def tmod (cs : List (List Int)) (x : Nat) : Bool:=!(cs.any fun c => !(tcl x c))
def tsat (u : Nat) (cs : List (List Int)) : Bool:=(List.range (2 ^ u)).any (tmod cs)
def timp (u : Nat) (cs : List (List Int)) (c : List Int) : Bool:=!(tsat u (cs++c.map fun l => [-l]))
theorem tmod_iff {x : Nat} {cs : List (List Int)} : tmod cs x=true↔∀ c ∈ cs,tcl x c=true:=by
 simp only [tmod,Ba,List.any_eq_false,Ba,Bool.not_eq_false]
theorem bd_of_ok {u : Int} {c : List Int} (h : okClause u c=true) : ∀ l ∈ c,(l.natAbs : Int)<=u:=by
 intro l hl
 simp only [okClause,Bc,decide_eq_true_eq] at h
 obtain ⟨j,hj,rfl⟩:=mem_getD 0 hl
 have:=(h.2 j hj).1
 omega
theorem vars_of_ok {u : Int} {c : List Int} (h : okClause u c=true) : okVars u=true:=by
 simp only [okClause,Bc] at h; exact h.1
def ofI (l : List Int) : Option (List Int):=l.foldl (fun o x => o.bind fun a => joinI a [x]) (some [])
end Abs.Y

namespace Abs.Y
open Go Go.Proofs Abs
open Nat renaming reduceEqDiff -> Qa, reduceLT -> Qb, reduceAdd -> Qc, reduceMul -> Qd, reduceSub -> Qe, reduceLeDiff -> Qf, reduceSubDiff -> Qg, reduceBEq -> Qh
open Bool renaming not_eq_true' -> Ba, not_eq_false' -> Bb, and_eq_true -> Bc, or_eq_true -> Bh, or_eq_false_iff -> Be
open Int renaming ofNat_lt -> Ia, ofNat_le -> Ib, not_lt -> Ic, not_le -> Ie
open Decidable renaming not_not -> Da
set_option maxRecDepth 100000

def resOK (u : Int) (a b : List Int) (v : Int) : Bool:=okClause u a && (okClause u b && (decide (1<=v) && decide (v<=u)))
def resI (u : Int) (a b : List Int) (v : Int) : List Int:=if resOK u a b v then optL (resolveI a b v) else []
def resB (u : Int) (a b : List Int) (v : Int) : Bool:=resOK u a b v && (resolveI a b v).isSome
end Abs.Y

namespace Abs.Y
open Go Go.Proofs Abs
open Nat renaming reduceEqDiff -> Qa, reduceLT -> Qb, reduceAdd -> Qc, reduceMul -> Qd, reduceSub -> Qe, reduceLeDiff -> Qf, reduceSubDiff -> Qg, reduceBEq -> Qh
open Bool renaming not_eq_true' -> Ba, not_eq_false' -> Bb, and_eq_true -> Bc, or_eq_true -> Bh, or_eq_false_iff -> Be
open Int renaming ofNat_lt -> Ia, ofNat_le -> Ib, not_lt -> Ic, not_le -> Ie
open Decidable renaming not_not -> Da
set_option maxRecDepth 100000

theorem indexFuncM_ok (xs : List Int) (g : FuncId) (c : D) (p : Int->Bool) (hl : xs.length<=4294967296) (hp : ∀ i,i < xs.length->Ctr Try.prog g [.int .i64 (xs.getD i 0),c] false (.d (.bool (p (xs.getD i 0)))) []) :
 Ctr Try.prog 158 [.ints xs,.fn (.func g) [] [c]] false (.d (.int .i64 (idxI p xs))) []:=by
 refine Ctr.of (n:=19) (rs:=[.tmp 4]) Try.func158 rfl rfl Try.ntmps158 rfl rfl (by kernel_rfl) Try.checked.mixed ?_
 simp (disch:=first | omega | decide +kernel) only [D.ints,go_sem,Qa,Qb,Qc,Qd,Qe,↓reduceIte,reduceCtorEq,Qf,Qg,Qh]
 refine Ok.loopC [18,17,16,15,14,13,12,11,10,9,8,6,5,4,3,2] (fun i => [(8,.d (.int .i64 (i : Nat)))]) xs.length (fun i => ∀ j,j < i->p (xs.getD j 0)=false) (by simp) (Wk.kk) ?_
 intro R i hN hE hi hI
 by_cases hlt : i < xs.length
 . have c1:=hp i hlt
   simp (disch:=first | omega | decide +kernel) only [go_sem,Qa,Qb,Qc,Qd,Qe,↓reduceIte,reduceCtorEq,Qf,Qg,Qh]
   (repeat' (first | ((first | (refine gsel_split (fun q' => ?_) (fun q' => ?_)<;>(have h':=q')<;>(try simp only [za1,za2,Ba,Bb,za3,ne_eq,za4,za5,za6,Ia,Ib,Ic,Ie,Da,Bc,Bh,Be,za7,za8] at h')) | (have q':=trivial; first | refine callX_new (c1) rfl (by decide) ?_ | refine callY_new (c1) rfl ?_ | refine hE _ _ ret_ne ?_ | refine hE _ _ exit_ne ?_))<;>(try simp (disch:=first | omega | decide +kernel) only [q',go_sem,Qa,Qb,Qc,Qd,Qe,↓reduceIte,reduceCtorEq,Qf,Qg,Qh])<;>clear q') | refine hN _ ?_ ?_ Wk.kk | with_reducible refine And.intro ?_ ?_ | with_reducible omega | exact ok_ints | exact cells_ints | exact no_mem | with_reducible exact plain_ints | (refine le_maxLen ?_; omega) | (refine za9 ⟨?_,?_⟩) | (simp only [go_sem,Qc,Qb,zb1,zb2,forall_eq]; done)))
   . rw [idxI_some hlt h' hI]
   . exact all_succ hI h'
 . simp (disch:=first | omega | decide +kernel) only [go_sem,Qa,Qb,Qc,Qd,Qe,↓reduceIte,reduceCtorEq,Qf,Qg,Qh]
   (repeat' (first | ((first | (refine gsel_split (fun q' => ?_) (fun q' => ?_)<;>(have h':=q')<;>(try simp only [za1,za2,Ba,Bb,za3,ne_eq,za4,za5,za6,Ia,Ib,Ic,Ie,Da,Bc,Bh,Be,za7,za8] at h')) | (have q':=trivial; first | refine hE _ _ ret_ne ?_ | refine hE _ _ exit_ne ?_))<;>(try simp (disch:=first | omega | decide +kernel) only [q',go_sem,Qa,Qb,Qc,Qd,Qe,↓reduceIte,reduceCtorEq,Qf,Qg,Qh])<;>clear q') | refine hN _ ?_ ?_ Wk.kk | with_reducible refine And.intro ?_ ?_ | with_reducible omega | exact ok_ints | exact cells_ints | exact no_mem | with_reducible exact plain_ints | (refine le_maxLen ?_; omega) | (refine za9 ⟨?_,?_⟩) | (simp only [go_sem,Qc,Qb,zb1,zb2,forall_eq]; done)))
   rw [idxI_none fun j hj => hI j (by omega)]
theorem containsFuncM_ok (xs : List Int) (g : FuncId) (c : D) (p : Int->Bool) (hl : xs.length<=4294967296) (hp : ∀ i,i < xs.length->Ctr Try.prog g [.int .i64 (xs.getD i 0),c] false (.d (.bool (p (xs.getD i 0)))) []) :
 Ctr Try.prog 141 [.ints xs,.fn (.func g) [] [c]] false (.d (.bool (xs.any p))) []:=by
 have c1:=indexFuncM_ok xs g c p hl hp
 refine Ctr.of (n:=9) (rs:=[.tmp 4]) Try.func141 rfl rfl Try.ntmps141 rfl rfl (by kernel_rfl) Try.checked.mixed ?_
 simp (disch:=first | omega | decide +kernel) only [D.ints,go_sem,Qa,Qb,Qc,Qd,Qe,↓reduceIte,reduceCtorEq,Qf,Qg,Qh]
 (repeat' (first | ((first | (refine gsel_split (fun q' => ?_) (fun q' => ?_)<;>(have h':=q')<;>(try simp only [za1,za2,Ba,Bb,za3,ne_eq,za4,za5,za6,Ia,Ib,Ic,Ie,Da,Bc,Bh,Be,za7,za8] at h')) | (have q':=trivial; first | refine callX_new (c1) rfl (by decide) ?_ | refine callY_new (c1) rfl ?_ | refine hE _ _ ret_ne ?_ | refine hE _ _ exit_ne ?_))<;>(try simp (disch:=first | omega | decide +kernel) only [q',go_sem,Qa,Qb,Qc,Qd,Qe,↓reduceIte,reduceCtorEq,Qf,Qg,Qh])<;>clear q') | refine hN _ ?_ ?_ Wk.kk | with_reducible refine And.intro ?_ ?_ | with_reducible omega | exact ok_ints | exact cells_ints | exact no_mem | with_reducible exact plain_ints | (refine le_maxLen ?_; omega) | (refine za9 ⟨?_,?_⟩) | (simp only [go_sem,Qc,Qb,zb1,zb2,forall_eq]; done)))
 rw [← idxI_ge]
def idxC (p : List Int->Bool) (l : List (List Int)) : Int:=match l.findIdx? p with | some i => (i : Nat) | none => -1
theorem idxC_some {p : List Int->Bool} {l : List (List Int)} {i : Nat} (h : i < l.length) (hp : p (l.getD i [])=true) (hn : ∀ j,j < i->p (l.getD j [])=false) : idxC p l=i:=by
 have : l.findIdx? p=some i:=by
  rw [List.findIdx?_eq_some_iff_getElem]
  refine ⟨h,by simpa [List.getD_eq_getElem?_getD,h] using hp,fun j hj => ?_⟩
  have h2 : j < l.length:=by omega
  simpa [List.getD_eq_getElem?_getD,h2] using hn j hj
 simp [idxC,this]
theorem idxC_none {p : List Int->Bool} {l : List (List Int)} (hn : ∀ j,j < l.length->p (l.getD j [])=false) : idxC p l=-1:=by
 have : l.findIdx? p=none:=by
  rw [List.findIdx?_eq_none_iff]
  intro x hx
  obtain ⟨j,hj,rfl⟩:=List.getElem_of_mem hx
  simpa [List.getD_eq_getElem?_getD,hj] using hn j hj
 simp [idxC,this]
theorem idxC_ge {p : List Int->Bool} {l : List (List Int)} : decide (idxC p l ≥ 0)=l.any p:=by
 unfold idxC
 cases h : l.findIdx? p with
 | none =>
   rw [List.findIdx?_eq_none_iff] at h
   have : l.any p=false:=List.any_eq_false.2 fun x hx => by simpa using h x hx
   rw [this]; decide
 | some i =>
   rw [List.findIdx?_eq_some_iff_getElem] at h
   obtain ⟨h1,h2,_⟩:=h
   have : l.any p=true:=List.any_eq_true.2 ⟨_,List.getElem_mem h1,h2⟩
   rw [this]
   exact decide_eq_true (Int.natCast_nonneg i)
theorem indexFuncC_ok (cs : List (List Int)) (g : FuncId) (c : D) (p : List Int->Bool) (hl : cs.length<=4294967296) (hp : ∀ i,i < cs.length->Ctr Try.prog g [.ints (cs.getD i []),c] false (.d (.bool (p (cs.getD i [])))) []) :
 Ctr Try.prog 140 [.slice (cs.map D.ints),.fn (.func g) [] [c]] false (.d (.int .i64 (idxC p cs))) []:=by
 refine Ctr.of (n:=19) (rs:=[.tmp 4]) Try.func140 rfl rfl Try.ntmps140 rfl rfl (by kernel_rfl) Try.checked.mixed ?_
 simp (disch:=first | omega | decide +kernel) only [go_sem,Qa,Qb,Qc,Qd,Qe,↓reduceIte,reduceCtorEq,Qf,Qg,Qh]
 refine Ok.loopC [18,17,16,15,14,13,12,11,10,9,8,6,5,4,3,2] (fun i => [(8,.d (.int .i64 (i : Nat)))]) cs.length (fun i => ∀ j,j < i->p (cs.getD j [])=false) (by simp) (Wk.kk) ?_
 intro R i hN hE hi hI
 by_cases hlt : i < cs.length
 . have el1 : el (cs.map D.ints) i=D.ints (cs.getD i []):=el_map (f:=D.ints) [] hlt
   have c1:=hp i hlt
   cases hpi : p (cs.getD i []) with
   | true =>
     rw [hpi] at c1
     simp (disch:=first | omega | decide +kernel) only [el1,D.ints,List.length_map,go_sem,Qa,Qb,Qc,Qd,Qe,↓reduceIte,reduceCtorEq,Qf,Qg,Qh]
     (repeat' (first | ((first | (refine gsel_split (fun q' => ?_) (fun q' => ?_)<;>(have h':=q')<;>(try simp only [za1,za2,Ba,Bb,za3,ne_eq,za4,za5,za6,Ia,Ib,Ic,Ie,Da,Bc,Bh,Be,za7,za8] at h')<;>try (exfalso; omega)) | (have q':=trivial; first | refine callX_new (c1) rfl (by decide) ?_ | refine callY_new (c1) rfl ?_ | refine hE _ _ ret_ne ?_ | refine hE _ _ exit_ne ?_))<;>(try simp (disch:=first | omega | decide +kernel) only [q',el1,D.ints,List.length_map,go_sem,Qa,Qb,Qc,Qd,Qe,↓reduceIte,reduceCtorEq,Qf,Qg,Qh])<;>clear q') | refine hN _ ?_ ?_ Wk.kk | with_reducible refine And.intro ?_ ?_ | with_reducible omega | (refine le_maxLen ?_; omega) | (refine za9 ⟨?_,?_⟩)))
     rw [idxC_some hlt hpi hI]
   | false =>
     rw [hpi] at c1
     simp (disch:=first | omega | decide +kernel) only [el1,D.ints,List.length_map,go_sem,Qa,Qb,Qc,Qd,Qe,↓reduceIte,reduceCtorEq,Qf,Qg,Qh]
     (repeat' (first | ((first | (refine gsel_split (fun q' => ?_) (fun q' => ?_)<;>(have h':=q')<;>(try simp only [za1,za2,Ba,Bb,za3,ne_eq,za4,za5,za6,Ia,Ib,Ic,Ie,Da,Bc,Bh,Be,za7,za8] at h')<;>try (exfalso; omega)) | (have q':=trivial; first | refine callX_new (c1) rfl (by decide) ?_ | refine callY_new (c1) rfl ?_ | refine hE _ _ ret_ne ?_ | refine hE _ _ exit_ne ?_))<;>(try simp (disch:=first | omega | decide +kernel) only [q',el1,D.ints,List.length_map,go_sem,Qa,Qb,Qc,Qd,Qe,↓reduceIte,reduceCtorEq,Qf,Qg,Qh])<;>clear q') | refine hN _ ?_ ?_ Wk.kk | with_reducible refine And.intro ?_ ?_ | with_reducible omega | (refine le_maxLen ?_; omega) | (refine za9 ⟨?_,?_⟩)))
     exact all_succ (P:=fun j => p (cs.getD j [])=false) hI hpi
 . obtain rfl : i=cs.length:=by omega
   simp (disch:=first | omega | decide +kernel) only [List.length_map,go_sem,Qa,Qb,Qc,Qd,Qe,↓reduceIte,reduceCtorEq,Qf,Qg,Qh]
   (repeat' (first | ((first | (refine gsel_split (fun q' => ?_) (fun q' => ?_)<;>(have h':=q')<;>(try simp only [za1,za2,Ba,Bb,za3,ne_eq,za4,za5,za6,Ia,Ib,Ic,Ie,Da,Bc,Bh,Be,za7,za8] at h')<;>try (exfalso; omega)) | (have q':=trivial; first | refine hE _ _ ret_ne ?_ | refine hE _ _ exit_ne ?_))<;>(try simp (disch:=first | omega | decide +kernel) only [q',List.length_map,go_sem,Qa,Qb,Qc,Qd,Qe,↓reduceIte,reduceCtorEq,Qf,Qg,Qh])<;>clear q') | refine hN _ ?_ ?_ Wk.kk | with_reducible refine And.intro ?_ ?_ | with_reducible omega | (refine le_maxLen ?_; omega) | (refine za9 ⟨?_,?_⟩)))
   rw [idxC_none hI]
theorem containsFuncC_ok (cs : List (List Int)) (g : FuncId) (c : D) (p : List Int->Bool) (hl : cs.length<=4294967296) (hp : ∀ i,i < cs.length->Ctr Try.prog g [.ints (cs.getD i []),c] false (.d (.bool (p (cs.getD i [])))) []) :
 Ctr Try.prog 105 [.slice (cs.map D.ints),.fn (.func g) [] [c]] false (.d (.bool (cs.any p))) []:=by
 have c1:=indexFuncC_ok cs g c p hl hp
 refine Ctr.of (n:=9) (rs:=[.tmp 4]) Try.func105 rfl rfl Try.ntmps105 rfl rfl (by kernel_rfl) Try.checked.mixed ?_
 simp (disch:=first | omega | decide +kernel) only [go_sem,Qa,Qb,Qc,Qd,Qe,↓reduceIte,reduceCtorEq,Qf,Qg,Qh]
 (repeat' (first | ((first | (refine gsel_split (fun q' => ?_) (fun q' => ?_)<;>(have h':=q')<;>(try simp only [za1,za2,Ba,Bb,za3,ne_eq,za4,za5,za6,Ia,Ib,Ic,Ie,Da,Bc,Bh,Be,za7,za8] at h')) | (have q':=trivial; first | refine callX_new (c1) rfl (by decide) ?_ | refine callY_new (c1) rfl ?_ | refine hE _ _ ret_ne ?_ | refine hE _ _ exit_ne ?_))<;>(try simp (disch:=first | omega | decide +kernel) only [q',go_sem,Qa,Qb,Qc,Qd,Qe,↓reduceIte,reduceCtorEq,Qf,Qg,Qh])<;>clear q') | refine hN _ ?_ ?_ Wk.kk | with_reducible refine And.intro ?_ ?_ | with_reducible omega | exact ok_ints | exact cells_ints | exact no_mem | with_reducible exact plain_ints | (refine le_maxLen ?_; omega) | (refine za9 ⟨?_,?_⟩) | (simp only [go_sem,Qc,Qb,zb1,zb2,forall_eq]; done)))
 rw [← idxC_ge]
def Lit62 (l : Int) : Prop:=l ≠ 0∧l.natAbs<=62
theorem absI_lit {l : Int} (h : Lit62 l) : absI l=((l.natAbs - 1 : Nat) : Int) + 1:=by
 unfold Lit62 at h
 rw [absI_eq (by omega)]; omega
theorem bitI_one (x k : Nat) : (bitI x k == 1)=x.testBit k:=by
 unfold bitI; cases x.testBit k<;>rfl
theorem holds1_ok (l : Int) (x : Nat) (h : Lit62 l) (hx : x < 2 ^ 62) : Ctr Try.prog 142 [.int .i64 l,.ptr (.int .i64 (x : Nat))] false (.d (.bool (tlit x l))) []:=by
 have c1:=abs_ok l
 rw [absI_lit h] at c1
 have hk : l.natAbs - 1<=62:=by unfold Lit62 at h; omega
 have hbt:=bit_of (b:=x) hk (by omega)
 rw [show IntKind.bits .i64=64 from rfl] at hbt
 have hbb:=bitI_one x (l.natAbs - 1)
 have hlit : tlit x l=(x.testBit (l.natAbs - 1) == decide (0 < l)):=rfl
 rw [hlit,← hbb]
 generalize l.natAbs - 1=k at *
 have he : (k : Int) + 1 - 1=k:=by omega
 refine Ctr.of (n:=14) (rs:=[.tmp 3]) Try.func142 rfl rfl Try.ntmps142 rfl rfl (by kernel_rfl) Try.checked.mixed ?_
 simp (disch:=first | omega | decide +kernel) only [he,Int.toNat_natCast,go_sem,Qa,Qb,Qc,Qd,Qe,↓reduceIte,reduceCtorEq,Qf,Qg,Qh]
 (repeat' (first | ((first | (refine gsel_split (fun q' => ?_) (fun q' => ?_)<;>(have h':=q')<;>(try simp only [za1,za2,Ba,Bb,za3,ne_eq,za4,za5,za6,Ia,Ib,Ic,Ie,Da,Bc,Bh,Be,za7,za8] at h')<;>try (exfalso; omega)) | (have q':=trivial; first | refine callX_new (c1) rfl (by decide) ?_ | refine callY_new (c1) rfl ?_ | refine hE _ _ ret_ne ?_ | refine hE _ _ exit_ne ?_))<;>(try simp (disch:=first | omega | decide +kernel) only [q',he,Int.toNat_natCast,hbt,go_sem,Qa,Qb,Qc,Qd,Qe,↓reduceIte,reduceCtorEq,Qf,Qg,Qh])<;>clear q') | refine hN _ ?_ ?_ Wk.kk | with_reducible refine And.intro ?_ ?_ | with_reducible omega | exact ok_ints | exact cells_ints | exact no_mem | with_reducible exact plain_ints | (refine le_maxLen ?_; omega) | (refine za9 ⟨?_,?_⟩) | (simp only [go_sem,Qc,Qb,zb1,zb2,forall_eq]; done)))
 all_goals (first | omega | rfl)
theorem holds_ok (c : List Int) (x : Nat) (hl : c.length<=4294967296) (h : ∀ l ∈ c,Lit62 l) (hx : x < 2 ^ 62) : Ctr Try.prog 107 [.ints c,.int .i64 (x : Nat)] false (.d (.bool (tcl x c))) []:=by
 have c1:=containsFuncM_ok c 142 (.ptr (.int .i64 (x : Nat))) (tlit x) hl fun i hi => holds1_ok _ x (h _ (getD_mem hi)) hx
 refine Ctr.of (n:=8) (rs:=[.tmp 4]) Try.func107 rfl rfl Try.ntmps107 rfl rfl (by kernel_rfl) Try.checked.mixed ?_
 simp (disch:=first | omega | decide +kernel) only [D.ints,go_sem,Qa,Qb,Qc,Qd,Qe,↓reduceIte,reduceCtorEq,Qf,Qg,Qh]
 (repeat' (first | ((first | (refine gsel_split (fun q' => ?_) (fun q' => ?_)<;>(have h':=q')<;>(try simp only [za1,za2,Ba,Bb,za3,ne_eq,za4,za5,za6,Ia,Ib,Ic,Ie,Da,Bc,Bh,Be,za7,za8] at h')) | (have q':=trivial; first | refine callX_new (c1) rfl (by decide) ?_ | refine callY_new (c1) rfl ?_ | refine hE _ _ ret_ne ?_ | refine hE _ _ exit_ne ?_))<;>(try simp (disch:=first | omega | decide +kernel) only [q',D.ints,go_sem,Qa,Qb,Qc,Qd,Qe,↓reduceIte,reduceCtorEq,Qf,Qg,Qh])<;>clear q') | refine hN _ ?_ ?_ Wk.kk | with_reducible refine And.intro ?_ ?_ | with_reducible omega | exact ok_ints | exact cells_ints | exact no_mem | with_reducible exact plain_ints | (refine le_maxLen ?_; omega) | (refine za9 ⟨?_,?_⟩) | (simp only [go_sem,Qc,Qb,zb1,zb2,forall_eq]; done)))
 all_goals (first | rfl)
theorem isModel1_ok (c : List Int) (x : Nat) (hl : c.length<=4294967296) (h : ∀ l ∈ c,Lit62 l) (hx : x < 2 ^ 62) : Ctr Try.prog 106 [.ints c,.ptr (.int .i64 (x : Nat))] false (.d (.bool (!(tcl x c)))) []:=by
 have c1:=holds_ok c x hl h hx
 refine Ctr.of (n:=8) (rs:=[.tmp 3]) Try.func106 rfl rfl Try.ntmps106 rfl rfl (by kernel_rfl) Try.checked.mixed ?_
 simp (disch:=first | omega | decide +kernel) only [D.ints,go_sem,Qa,Qb,Qc,Qd,Qe,↓reduceIte,reduceCtorEq,Qf,Qg,Qh]
 (repeat' (first | ((first | (refine gsel_split (fun q' => ?_) (fun q' => ?_)<;>(have h':=q')<;>(try simp only [za1,za2,Ba,Bb,za3,ne_eq,za4,za5,za6,Ia,Ib,Ic,Ie,Da,Bc,Bh,Be,za7,za8] at h')) | (have q':=trivial; first | refine callX_new (c1) rfl (by decide) ?_ | refine callY_new (c1) rfl ?_ | refine hE _ _ ret_ne ?_ | refine hE _ _ exit_ne ?_))<;>(try simp (disch:=first | omega | decide +kernel) only [q',D.ints,go_sem,Qa,Qb,Qc,Qd,Qe,↓reduceIte,reduceCtorEq,Qf,Qg,Qh])<;>clear q') | refine hN _ ?_ ?_ Wk.kk | with_reducible refine And.intro ?_ ?_ | with_reducible omega | exact ok_ints | exact cells_ints | exact no_mem | with_reducible exact plain_ints | (refine le_maxLen ?_; omega) | (refine za9 ⟨?_,?_⟩) | (simp only [go_sem,Qc,Qb,zb1,zb2,forall_eq]; done)))
structure Cls (cs : List (List Int)) : Prop where
 len : cs.length<=1048576
 lens : ∀ c ∈ cs,c.length<=1048576
 lit : ∀ c ∈ cs,∀ l ∈ c,Lit62 l
theorem isModel_ok (cs : List (List Int)) (x : Nat) (hc : Cls cs) (hx : x < 2 ^ 62) : Ctr Try.prog 49 [.slice (cs.map D.ints),.int .i64 (x : Nat)] false (.d (.bool (tmod cs x))) []:=by
 have c1:=containsFuncC_ok cs 106 (.ptr (.int .i64 (x : Nat))) (fun c => !(tcl x c)) (by have:=hc.len; omega) fun i hi =>
  isModel1_ok _ x (by have:=hc.lens _ (getD_mem (z:=([] : List Int)) hi); omega) (hc.lit _ (getD_mem (z:=([] : List Int)) hi)) hx
 refine Ctr.of (n:=9) (rs:=[.tmp 4]) Try.func49 rfl rfl Try.ntmps49 rfl rfl (by kernel_rfl) Try.checked.mixed ?_
 simp (disch:=first | omega | decide +kernel) only [D.ints,go_sem,Qa,Qb,Qc,Qd,Qe,↓reduceIte,reduceCtorEq,Qf,Qg,Qh]
 (repeat' (first | ((first | (refine gsel_split (fun q' => ?_) (fun q' => ?_)<;>(have h':=q')<;>(try simp only [za1,za2,Ba,Bb,za3,ne_eq,za4,za5,za6,Ia,Ib,Ic,Ie,Da,Bc,Bh,Be,za7,za8] at h')) | (have q':=trivial; first | refine callX_new (c1) rfl (by decide) ?_ | refine callY_new (c1) rfl ?_ | refine hE _ _ ret_ne ?_ | refine hE _ _ exit_ne ?_))<;>(try simp (disch:=first | omega | decide +kernel) only [q',D.ints,go_sem,Qa,Qb,Qc,Qd,Qe,↓reduceIte,reduceCtorEq,Qf,Qg,Qh])<;>clear q') | refine hN _ ?_ ?_ Wk.kk | with_reducible refine And.intro ?_ ?_ | with_reducible omega | exact ok_ints | exact cells_ints | exact no_mem | with_reducible exact plain_ints | (refine le_maxLen ?_; omega) | (refine za9 ⟨?_,?_⟩) | (simp only [go_sem,Qc,Qb,zb1,zb2,forall_eq]; done)))
 all_goals (first | rfl)
def icB (u : Int) (cs : List (List Int)) (c : List Int) : Bool:=okCnf u cs && okClause u c
theorem okCnf_all {u : Int} {cs : List (List Int)} (h : okCnf u cs=true) : okVars u=true∧cs.length<=60∧∀ c ∈ cs,okClause u c=true:=by
 simp only [okCnf,Bc,decide_eq_true_eq,List.all_eq_true] at h
 exact ⟨h.1.1,h.1.2,h.2⟩
theorem lit62_ok {u : Int} {c : List Int} (h : okClause u c=true) : ∀ l ∈ c,Lit62 l:=fun l hl => by
 have:=(good_of_ok h).2 l hl
 unfold Lit62; omega
theorem cls_of {u : Int} {cs : List (List Int)} (h : okCnf u cs=true) (hc : ∀ c ∈ cs,c.length<=1048576) : Cls cs:=by
 obtain ⟨h1,h2,h3⟩:=okCnf_all h
 exact ⟨by omega,hc,fun c hm => lit62_ok (h3 c hm)⟩
end Abs.Y

namespace Abs.Y
open Go Go.Proofs Abs
open Nat renaming reduceEqDiff -> Qa, reduceLT -> Qb, reduceAdd -> Qc, reduceMul -> Qd, reduceSub -> Qe, reduceLeDiff -> Qf, reduceSubDiff -> Qg, reduceBEq -> Qh
open Bool renaming not_eq_true' -> Ba, not_eq_false' -> Bb, and_eq_true -> Bc, or_eq_true -> Bh, or_eq_false_iff -> Be
open Int renaming ofNat_lt -> Ia, ofNat_le -> Ib, not_lt -> Ic, not_le -> Ie
open Decidable renaming not_not -> Da
set_option maxRecDepth 100000

def plI (list : List (List Int)) (c : List Int) : Nat:=(list.takeWhile fun x => befI x c).length
def insI (list : List (List Int)) (c : List Int) : List (List Int):=if plI list c < list.length∧list.getD (plI list c) []=c then list else list.take (plI list c)++c :: list.drop (plI list c)
end Abs.Y

namespace Abs.Y
open Go Go.Proofs Abs
open Nat renaming reduceEqDiff -> Qa, reduceLT -> Qb, reduceAdd -> Qc, reduceMul -> Qd, reduceSub -> Qe, reduceLeDiff -> Qf, reduceSubDiff -> Qg, reduceBEq -> Qh
open Bool renaming not_eq_true' -> Ba, not_eq_false' -> Bb, and_eq_true -> Bc, or_eq_true -> Bh, or_eq_false_iff -> Be
open Int renaming ofNat_lt -> Ia, ofNat_le -> Ib, not_lt -> Ic, not_le -> Ie
open Decidable renaming not_not -> Da
set_option maxRecDepth 100000

def leC (x y : List Int) : Bool:=!(befI y x)
end Abs.Y

namespace Abs.Y
open Go Go.Proofs Abs
open Nat renaming reduceEqDiff -> Qa, reduceLT -> Qb, reduceAdd -> Qc, reduceMul -> Qd, reduceSub -> Qe, reduceLeDiff -> Qf, reduceSubDiff -> Qg, reduceBEq -> Qh
open Bool renaming not_eq_true' -> Ba, not_eq_false' -> Bb, and_eq_true -> Bc, or_eq_true -> Bh, or_eq_false_iff -> Be
open Int renaming ofNat_lt -> Ia, ofNat_le -> Ib, not_lt -> Ic, not_le -> Ie
open Decidable renaming not_not -> Da
set_option maxRecDepth 100000

def atI (list : List (List Int)) (c : List Int) : Int:=if plI list c < list.length∧list.getD (plI list c) []=c then (plI list c : Nat) else -1
end Abs.Y

namespace Go.Proofs
open Go.Shelf Go.RowKit Go.Lib Go.Sort
end Go.Proofs
