/- What functions of this program compute, over plain data. No condition. -/
import Derived.Test.YtndjinajjejmlaaM3a
import Derived.Test.YtndjinajjejmlaaG5c
import Derived.Test.YtndjinajjejmlaaAbsLoopO
set_option linter.all false
namespace Abs.Y
open Go Go.Proofs Abs
open Nat renaming reduceEqDiff -> Qa, reduceLT -> Qb, reduceAdd -> Qc, reduceMul -> Qd, reduceSub -> Qe, reduceLeDiff -> Qf, reduceSubDiff -> Qg, reduceBEq -> Qh
open Bool renaming not_eq_true' -> Ba, not_eq_false' -> Bb, and_eq_true -> Bc, or_eq_true -> Bh, or_eq_false_iff -> Be
open Int renaming ofNat_lt -> Ia, ofNat_le -> Ib, not_lt -> Ic, not_le -> Ie
open Decidable renaming not_not -> Da
set_option maxRecDepth 100000

theorem indexFuncM_ok (xs : List Int) (g : FuncId) (c : D) (p : Int->Bool) (hl : xs.length<=4294967296) (hp : ∀ i,i < xs.length->Ctr Try.prog g [.int .i64 (xs.getD i 0),c] false (.d (.bool (p (xs.getD i 0)))) []) :
 Ctr Try.prog 70 [.ints xs,.fn (.func g) [] [c]] false (.d (.int .i64 (idxI p xs))) []:=by
 refine Ctr.of (n:=19) (rs:=[.tmp 4]) Try.func70 rfl rfl Try.ntmps70 rfl rfl (by kernel_rfl) Try.checked.mixed ?_
 simp (disch:=first | omega | decide +kernel) only [D.ints,go_sem,Qa,Qb,Qc,Qd,Qe,↓reduceIte,reduceCtorEq,Qf,Qg,Qh]
 refine Ok.loopC [18,17,16,15,14,13,12,11,10,9,8,6,5,4,3,2] (fun i => [(8,.d (.int .i64 (i : Nat)))]) xs.length (fun i => ∀ j,j < i->p (xs.getD j 0)=false) (by simp) (Wk.kk) ?_
 intro R i hN hE hi hI
 by_cases hlt : i < xs.length
 . have c1:=hp i hlt
   simp (disch:=first | omega | decide +kernel) only [go_sem,Qa,Qb,Qc,Qd,Qe,↓reduceIte,reduceCtorEq,Qf,Qg,Qh]
   (repeat' (first | ((first | (refine gsel_split (fun q' => ?_) (fun q' => ?_)<;>(have h':=q')<;>(try simp only [za1,za2,Ba,Bb,za3,ne_eq,za4,za5,za6,Ia,Ib,Ic,Ie,Da,Bc,Bh,Be,za7,za8] at h')) | (have q':=trivial; first | refine callX_new (c1) rfl (by decide) ?_ | refine callY_new (c1) rfl ?_ | refine hE _ _ ret_ne ?_ | refine hE _ _ exit_ne ?_))<;>(try simp (disch:=first | omega | decide +kernel) only [q',go_sem,Qa,Qb,Qc,Qd,Qe,↓reduceIte,reduceCtorEq,Qf,Qg,Qh])<;>clear q') | refine hN _ ?_ ?_ Wk.kk | with_reducible refine And.intro ?_ ?_ | with_reducible omega | exact ok_ints | exact cells_ints | exact no_mem | with_reducible exact plain_ints | (refine le_maxLen ?_; omega) | (refine za9 ⟨?_,?_⟩) | (simp only [go_sem,Qc,Qb,zb1,zb2,forall_eq]; done)))
   . rw [idxI_some hlt h' hI]
   . exact all_succ hI h'
 . simp (disch:=first | omega | decide +kernel) only [go_sem,Qa,Qb,Qc,Qd,Qe,↓reduceIte,reduceCtorEq,Qf,Qg,Qh]
   (repeat' (first | ((first | (refine gsel_split (fun q' => ?_) (fun q' => ?_)<;>(have h':=q')<;>(try simp only [za1,za2,Ba,Bb,za3,ne_eq,za4,za5,za6,Ia,Ib,Ic,Ie,Da,Bc,Bh,Be,za7,za8] at h')) | (have q':=trivial; first | refine hE _ _ ret_ne ?_ | refine hE _ _ exit_ne ?_))<;>(try simp (disch:=first | omega | decide +kernel) only [q',go_sem,Qa,Qb,Qc,Qd,Qe,↓reduceIte,reduceCtorEq,Qf,Qg,Qh])<;>clear q') | refine hN _ ?_ ?_ Wk.kk | with_reducible refine And.intro ?_ ?_ | with_reducible omega | exact ok_ints | exact cells_ints | exact no_mem | with_reducible exact plain_ints | (refine le_maxLen ?_; omega) | (refine za9 ⟨?_,?_⟩) | (simp only [go_sem,Qc,Qb,zb1,zb2,forall_eq]; done)))
   rw [idxI_none fun j hj => hI j (by omega)]
theorem containsFuncM_ok (xs : List Int) (g : FuncId) (c : D) (p : Int->Bool) (hl : xs.length<=4294967296) (hp : ∀ i,i < xs.length->Ctr Try.prog g [.int .i64 (xs.getD i 0),c] false (.d (.bool (p (xs.getD i 0)))) []) :
 Ctr Try.prog 65 [.ints xs,.fn (.func g) [] [c]] false (.d (.bool (xs.any p))) []:=by
 have c1:=indexFuncM_ok xs g c p hl hp
 refine Ctr.of (n:=9) (rs:=[.tmp 4]) Try.func65 rfl rfl Try.ntmps65 rfl rfl (by kernel_rfl) Try.checked.mixed ?_
 simp (disch:=first | omega | decide +kernel) only [D.ints,go_sem,Qa,Qb,Qc,Qd,Qe,↓reduceIte,reduceCtorEq,Qf,Qg,Qh]
 (repeat' (first | ((first | (refine gsel_split (fun q' => ?_) (fun q' => ?_)<;>(have h':=q')<;>(try simp only [za1,za2,Ba,Bb,za3,ne_eq,za4,za5,za6,Ia,Ib,Ic,Ie,Da,Bc,Bh,Be,za7,za8] at h')) | (have q':=trivial; first | refine callX_new (c1) rfl (by decide) ?_ | refine callY_new (c1) rfl ?_ | refine hE _ _ ret_ne ?_ | refine hE _ _ exit_ne ?_))<;>(try simp (disch:=first | omega | decide +kernel) only [q',go_sem,Qa,Qb,Qc,Qd,Qe,↓reduceIte,reduceCtorEq,Qf,Qg,Qh])<;>clear q') | refine hN _ ?_ ?_ Wk.kk | with_reducible refine And.intro ?_ ?_ | with_reducible omega | exact ok_ints | exact cells_ints | exact no_mem | with_reducible exact plain_ints | (refine le_maxLen ?_; omega) | (refine za9 ⟨?_,?_⟩) | (simp only [go_sem,Qc,Qb,zb1,zb2,forall_eq]; done)))
 rw [← idxI_ge]
def idxC (p : List Int->Bool) (l : List (List Int)) : Int:=match l.findIdx? p with | some i => (i : Nat) | none => -1
theorem idxC_some {p : List Int->Bool} {l : List (List Int)} {i : Nat} (h : i < l.length) (hp : p (l.getD i [])=true) (hn : ∀ j,j < i->p (l.getD j [])=false) : idxC p l=i:=by
 have : l.findIdx? p=some i:=by
  rw [List.findIdx?_eq_some_iff_getElem]
  refine ⟨h,by simpa [List.getD_eq_getElem?_getD,h] using hp,fun j hj => ?_⟩
  have h2 : j < l.length:=by omega
  simpa [List.getD_eq_getElem?_getD,h2] using hn j hj
 simp [idxC,this]
theorem idxC_none {p : List Int->Bool} {l : List (List Int)} (hn : ∀ j,j < l.length->p (l.getD j [])=false) : idxC p l=-1:=by
 have : l.findIdx? p=none:=by
  rw [List.findIdx?_eq_none_iff]
  intro x hx
  obtain ⟨j,hj,rfl⟩:=List.getElem_of_mem hx
  simpa [List.getD_eq_getElem?_getD,hj] using hn j hj
 simp [idxC,this]
theorem idxC_ge {p : List Int->Bool} {l : List (List Int)} : decide (idxC p l ≥ 0)=l.any p:=by
 unfold idxC
 cases h : l.findIdx? p with
 | none =>
   rw [List.findIdx?_eq_none_iff] at h
   have : l.any p=false:=List.any_eq_false.2 fun x hx => by simpa using h x hx
   rw [this]; decide
 | some i =>
   rw [List.findIdx?_eq_some_iff_getElem] at h
   obtain ⟨h1,h2,_⟩:=h
   have : l.any p=true:=List.any_eq_true.2 ⟨_,List.getElem_mem h1,h2⟩
   rw [this]
   exact decide_eq_true (Int.natCast_nonneg i)
theorem indexFuncC_ok (cs : List (List Int)) (g : FuncId) (c : D) (p : List Int->Bool) (hl : cs.length<=4294967296) (hp : ∀ i,i < cs.length->Ctr Try.prog g [.ints (cs.getD i []),c] false (.d (.bool (p (cs.getD i [])))) []) :
 Ctr Try.prog 64 [.slice (cs.map D.ints),.fn (.func g) [] [c]] false (.d (.int .i64 (idxC p cs))) []:=by
 refine Ctr.of (n:=19) (rs:=[.tmp 4]) Try.func64 rfl rfl Try.ntmps64 rfl rfl (by kernel_rfl) Try.checked.mixed ?_
 simp (disch:=first | omega | decide +kernel) only [go_sem,Qa,Qb,Qc,Qd,Qe,↓reduceIte,reduceCtorEq,Qf,Qg,Qh]
 refine Ok.loopC [18,17,16,15,14,13,12,11,10,9,8,6,5,4,3,2] (fun i => [(8,.d (.int .i64 (i : Nat)))]) cs.length (fun i => ∀ j,j < i->p (cs.getD j [])=false) (by simp) (Wk.kk) ?_
 intro R i hN hE hi hI
 by_cases hlt : i < cs.length
 . have el1 : el (cs.map D.ints) i=D.ints (cs.getD i []):=el_map (f:=D.ints) [] hlt
   have c1:=hp i hlt
   cases hpi : p (cs.getD i []) with
   | true =>
     rw [hpi] at c1
     simp (disch:=first | omega | decide +kernel) only [el1,D.ints,List.length_map,go_sem,Qa,Qb,Qc,Qd,Qe,↓reduceIte,reduceCtorEq,Qf,Qg,Qh]
     (repeat' (first | ((first | (refine gsel_split (fun q' => ?_) (fun q' => ?_)<;>(have h':=q')<;>(try simp only [za1,za2,Ba,Bb,za3,ne_eq,za4,za5,za6,Ia,Ib,Ic,Ie,Da,Bc,Bh,Be,za7,za8] at h')<;>try (exfalso; omega)) | (have q':=trivial; first | refine callX_new (c1) rfl (by decide) ?_ | refine callY_new (c1) rfl ?_ | refine hE _ _ ret_ne ?_ | refine hE _ _ exit_ne ?_))<;>(try simp (disch:=first | omega | decide +kernel) only [q',el1,D.ints,List.length_map,go_sem,Qa,Qb,Qc,Qd,Qe,↓reduceIte,reduceCtorEq,Qf,Qg,Qh])<;>clear q') | refine hN _ ?_ ?_ Wk.kk | with_reducible refine And.intro ?_ ?_ | with_reducible omega | (refine le_maxLen ?_; omega) | (refine za9 ⟨?_,?_⟩)))
     rw [idxC_some hlt hpi hI]
   | false =>
     rw [hpi] at c1
     simp (disch:=first | omega | decide +kernel) only [el1,D.ints,List.length_map,go_sem,Qa,Qb,Qc,Qd,Qe,↓reduceIte,reduceCtorEq,Qf,Qg,Qh]
     (repeat' (first | ((first | (refine gsel_split (fun q' => ?_) (fun q' => ?_)<;>(have h':=q')<;>(try simp only [za1,za2,Ba,Bb,za3,ne_eq,za4,za5,za6,Ia,Ib,Ic,Ie,Da,Bc,Bh,Be,za7,za8] at h')<;>try (exfalso; omega)) | (have q':=trivial; first | refine callX_new (c1) rfl (by decide) ?_ | refine callY_new (c1) rfl ?_ | refine hE _ _ ret_ne ?_ | refine hE _ _ exit_ne ?_))<;>(try simp (disch:=first | omega | decide +kernel) only [q',el1,D.ints,List.length_map,go_sem,Qa,Qb,Qc,Qd,Qe,↓reduceIte,reduceCtorEq,Qf,Qg,Qh])<;>clear q') | refine hN _ ?_ ?_ Wk.kk | with_reducible refine And.intro ?_ ?_ | with_reducible omega | (refine le_maxLen ?_; omega) | (refine za9 ⟨?_,?_⟩)))
     exact all_succ (P:=fun j => p (cs.getD j [])=false) hI hpi
 . obtain rfl : i=cs.length:=by omega
   simp (disch:=first | omega | decide +kernel) only [List.length_map,go_sem,Qa,Qb,Qc,Qd,Qe,↓reduceIte,reduceCtorEq,Qf,Qg,Qh]
   (repeat' (first | ((first | (refine gsel_split (fun q' => ?_) (fun q' => ?_)<;>(have h':=q')<;>(try simp only [za1,za2,Ba,Bb,za3,ne_eq,za4,za5,za6,Ia,Ib,Ic,Ie,Da,Bc,Bh,Be,za7,za8] at h')<;>try (exfalso; omega)) | (have q':=trivial; first | refine hE _ _ ret_ne ?_ | refine hE _ _ exit_ne ?_))<;>(try simp (disch:=first | omega | decide +kernel) only [q',List.length_map,go_sem,Qa,Qb,Qc,Qd,Qe,↓reduceIte,reduceCtorEq,Qf,Qg,Qh])<;>clear q') | refine hN _ ?_ ?_ Wk.kk | with_reducible refine And.intro ?_ ?_ | with_reducible omega | (refine le_maxLen ?_; omega) | (refine za9 ⟨?_,?_⟩)))
   rw [idxC_none hI]
theorem containsFuncC_ok (cs : List (List Int)) (g : FuncId) (c : D) (p : List Int->Bool) (hl : cs.length<=4294967296) (hp : ∀ i,i < cs.length->Ctr Try.prog g [.ints (cs.getD i []),c] false (.d (.bool (p (cs.getD i [])))) []) :
 Ctr Try.prog 59 [.slice (cs.map D.ints),.fn (.func g) [] [c]] false (.d (.bool (cs.any p))) []:=by
 have c1:=indexFuncC_ok cs g c p hl hp
 refine Ctr.of (n:=9) (rs:=[.tmp 4]) Try.func59 rfl rfl Try.ntmps59 rfl rfl (by kernel_rfl) Try.checked.mixed ?_
 simp (disch:=first | omega | decide +kernel) only [go_sem,Qa,Qb,Qc,Qd,Qe,↓reduceIte,reduceCtorEq,Qf,Qg,Qh]
 (repeat' (first | ((first | (refine gsel_split (fun q' => ?_) (fun q' => ?_)<;>(have h':=q')<;>(try simp only [za1,za2,Ba,Bb,za3,ne_eq,za4,za5,za6,Ia,Ib,Ic,Ie,Da,Bc,Bh,Be,za7,za8] at h')) | (have q':=trivial; first | refine callX_new (c1) rfl (by decide) ?_ | refine callY_new (c1) rfl ?_ | refine hE _ _ ret_ne ?_ | refine hE _ _ exit_ne ?_))<;>(try simp (disch:=first | omega | decide +kernel) only [q',go_sem,Qa,Qb,Qc,Qd,Qe,↓reduceIte,reduceCtorEq,Qf,Qg,Qh])<;>clear q') | refine hN _ ?_ ?_ Wk.kk | with_reducible refine And.intro ?_ ?_ | with_reducible omega | exact ok_ints | exact cells_ints | exact no_mem | with_reducible exact plain_ints | (refine le_maxLen ?_; omega) | (refine za9 ⟨?_,?_⟩) | (simp only [go_sem,Qc,Qb,zb1,zb2,forall_eq]; done)))
 rw [← idxC_ge]
def Lit62 (l : Int) : Prop:=l ≠ 0∧l.natAbs<=62
theorem absI_lit {l : Int} (h : Lit62 l) : absI l=((l.natAbs - 1 : Nat) : Int) + 1:=by
 unfold Lit62 at h
 rw [absI_eq (by omega)]; omega
theorem bitI_one (x k : Nat) : (bitI x k == 1)=x.testBit k:=by
 unfold bitI; cases x.testBit k<;>rfl
theorem holds1_ok (l : Int) (x : Nat) (h : Lit62 l) (hx : x < 2 ^ 62) : Ctr Try.prog 66 [.int .i64 l,.ptr (.int .i64 (x : Nat))] false (.d (.bool (tlit x l))) []:=by
 have c1:=abs_ok l
 rw [absI_lit h] at c1
 have hk : l.natAbs - 1<=62:=by unfold Lit62 at h; omega
 have hbt:=bit_of (b:=x) hk (by omega)
 rw [show IntKind.bits .i64=64 from rfl] at hbt
 have hbb:=bitI_one x (l.natAbs - 1)
 have hlit : tlit x l=(x.testBit (l.natAbs - 1) == decide (0 < l)):=rfl
 rw [hlit,← hbb]
 generalize l.natAbs - 1=k at *
 have he : (k : Int) + 1 - 1=k:=by omega
 refine Ctr.of (n:=14) (rs:=[.tmp 3]) Try.func66 rfl rfl Try.ntmps66 rfl rfl (by kernel_rfl) Try.checked.mixed ?_
 simp (disch:=first | omega | decide +kernel) only [he,Int.toNat_natCast,go_sem,Qa,Qb,Qc,Qd,Qe,↓reduceIte,reduceCtorEq,Qf,Qg,Qh]
 (repeat' (first | ((first | (refine gsel_split (fun q' => ?_) (fun q' => ?_)<;>(have h':=q')<;>(try simp only [za1,za2,Ba,Bb,za3,ne_eq,za4,za5,za6,Ia,Ib,Ic,Ie,Da,Bc,Bh,Be,za7,za8] at h')<;>try (exfalso; omega)) | (have q':=trivial; first | refine callX_new (c1) rfl (by decide) ?_ | refine callY_new (c1) rfl ?_ | refine hE _ _ ret_ne ?_ | refine hE _ _ exit_ne ?_))<;>(try simp (disch:=first | omega | decide +kernel) only [q',he,Int.toNat_natCast,hbt,go_sem,Qa,Qb,Qc,Qd,Qe,↓reduceIte,reduceCtorEq,Qf,Qg,Qh])<;>clear q') | refine hN _ ?_ ?_ Wk.kk | with_reducible refine And.intro ?_ ?_ | with_reducible omega | exact ok_ints | exact cells_ints | exact no_mem | with_reducible exact plain_ints | (refine le_maxLen ?_; omega) | (refine za9 ⟨?_,?_⟩) | (simp only [go_sem,Qc,Qb,zb1,zb2,forall_eq]; done)))
 all_goals (first | omega | rfl)
theorem holds_ok (c : List Int) (x : Nat) (hl : c.length<=4294967296) (h : ∀ l ∈ c,Lit62 l) (hx : x < 2 ^ 62) : Ctr Try.prog 61 [.ints c,.int .i64 (x : Nat)] false (.d (.bool (tcl x c))) []:=by
 have c1:=containsFuncM_ok c 66 (.ptr (.int .i64 (x : Nat))) (tlit x) hl fun i hi => holds1_ok _ x (h _ (getD_mem hi)) hx
 refine Ctr.of (n:=8) (rs:=[.tmp 4]) Try.func61 rfl rfl Try.ntmps61 rfl rfl (by kernel_rfl) Try.checked.mixed ?_
 simp (disch:=first | omega | decide +kernel) only [D.ints,go_sem,Qa,Qb,Qc,Qd,Qe,↓reduceIte,reduceCtorEq,Qf,Qg,Qh]
 (repeat' (first | ((first | (refine gsel_split (fun q' => ?_) (fun q' => ?_)<;>(have h':=q')<;>(try simp only [za1,za2,Ba,Bb,za3,ne_eq,za4,za5,za6,Ia,Ib,Ic,Ie,Da,Bc,Bh,Be,za7,za8] at h')) | (have q':=trivial; first | refine callX_new (c1) rfl (by decide) ?_ | refine callY_new (c1) rfl ?_ | refine hE _ _ ret_ne ?_ | refine hE _ _ exit_ne ?_))<;>(try simp (disch:=first | omega | decide +kernel) only [q',D.ints,go_sem,Qa,Qb,Qc,Qd,Qe,↓reduceIte,reduceCtorEq,Qf,Qg,Qh])<;>clear q') | refine hN _ ?_ ?_ Wk.kk | with_reducible refine And.intro ?_ ?_ | with_reducible omega | exact ok_ints | exact cells_ints | exact no_mem | with_reducible exact plain_ints | (refine le_maxLen ?_; omega) | (refine za9 ⟨?_,?_⟩) | (simp only [go_sem,Qc,Qb,zb1,zb2,forall_eq]; done)))
 all_goals (first | rfl)
theorem isModel1_ok (c : List Int) (x : Nat) (hl : c.length<=4294967296) (h : ∀ l ∈ c,Lit62 l) (hx : x < 2 ^ 62) : Ctr Try.prog 60 [.ints c,.ptr (.int .i64 (x : Nat))] false (.d (.bool (!(tcl x c)))) []:=by
 have c1:=holds_ok c x hl h hx
 refine Ctr.of (n:=8) (rs:=[.tmp 3]) Try.func60 rfl rfl Try.ntmps60 rfl rfl (by kernel_rfl) Try.checked.mixed ?_
 simp (disch:=first | omega | decide +kernel) only [D.ints,go_sem,Qa,Qb,Qc,Qd,Qe,↓reduceIte,reduceCtorEq,Qf,Qg,Qh]
 (repeat' (first | ((first | (refine gsel_split (fun q' => ?_) (fun q' => ?_)<;>(have h':=q')<;>(try simp only [za1,za2,Ba,Bb,za3,ne_eq,za4,za5,za6,Ia,Ib,Ic,Ie,Da,Bc,Bh,Be,za7,za8] at h')) | (have q':=trivial; first | refine callX_new (c1) rfl (by decide) ?_ | refine callY_new (c1) rfl ?_ | refine hE _ _ ret_ne ?_ | refine hE _ _ exit_ne ?_))<;>(try simp (disch:=first | omega | decide +kernel) only [q',D.ints,go_sem,Qa,Qb,Qc,Qd,Qe,↓reduceIte,reduceCtorEq,Qf,Qg,Qh])<;>clear q') | refine hN _ ?_ ?_ Wk.kk | with_reducible refine And.intro ?_ ?_ | with_reducible omega | exact ok_ints | exact cells_ints | exact no_mem | with_reducible exact plain_ints | (refine le_maxLen ?_; omega) | (refine za9 ⟨?_,?_⟩) | (simp only [go_sem,Qc,Qb,zb1,zb2,forall_eq]; done)))
structure Cls (cs : List (List Int)) : Prop where
 len : cs.length<=1048576
 lens : ∀ c ∈ cs,c.length<=1048576
 lit : ∀ c ∈ cs,∀ l ∈ c,Lit62 l
theorem isModel_ok (cs : List (List Int)) (x : Nat) (hc : Cls cs) (hx : x < 2 ^ 62) : Ctr Try.prog 52 [.slice (cs.map D.ints),.int .i64 (x : Nat)] false (.d (.bool (tmod cs x))) []:=by
 have c1:=containsFuncC_ok cs 60 (.ptr (.int .i64 (x : Nat))) (fun c => !(tcl x c)) (by have:=hc.len; omega) fun i hi =>
  isModel1_ok _ x (by have:=hc.lens _ (getD_mem (z:=([] : List Int)) hi); omega) (hc.lit _ (getD_mem (z:=([] : List Int)) hi)) hx
 refine Ctr.of (n:=9) (rs:=[.tmp 4]) Try.func52 rfl rfl Try.ntmps52 rfl rfl (by kernel_rfl) Try.checked.mixed ?_
 simp (disch:=first | omega | decide +kernel) only [D.ints,go_sem,Qa,Qb,Qc,Qd,Qe,↓reduceIte,reduceCtorEq,Qf,Qg,Qh]
 (repeat' (first | ((first | (refine gsel_split (fun q' => ?_) (fun q' => ?_)<;>(have h':=q')<;>(try simp only [za1,za2,Ba,Bb,za3,ne_eq,za4,za5,za6,Ia,Ib,Ic,Ie,Da,Bc,Bh,Be,za7,za8] at h')) | (have q':=trivial; first | refine callX_new (c1) rfl (by decide) ?_ | refine callY_new (c1) rfl ?_ | refine hE _ _ ret_ne ?_ | refine hE _ _ exit_ne ?_))<;>(try simp (disch:=first | omega | decide +kernel) only [q',D.ints,go_sem,Qa,Qb,Qc,Qd,Qe,↓reduceIte,reduceCtorEq,Qf,Qg,Qh])<;>clear q') | refine hN _ ?_ ?_ Wk.kk | with_reducible refine And.intro ?_ ?_ | with_reducible omega | exact ok_ints | exact cells_ints | exact no_mem | with_reducible exact plain_ints | (refine le_maxLen ?_; omega) | (refine za9 ⟨?_,?_⟩) | (simp only [go_sem,Qc,Qb,zb1,zb2,forall_eq]; done)))
 all_goals (first | rfl)
def icB (u : Int) (cs : List (List Int)) (c : List Int) : Bool:=okCnf u cs && okClause u c
theorem okCnf_all {u : Int} {cs : List (List Int)} (h : okCnf u cs=true) : okVars u=true∧cs.length<=60∧∀ c ∈ cs,okClause u c=true:=by
 simp only [okCnf,Bc,decide_eq_true_eq,List.all_eq_true] at h
 exact ⟨h.1.1,h.1.2,h.2⟩
theorem lit62_ok {u : Int} {c : List Int} (h : okClause u c=true) : ∀ l ∈ c,Lit62 l:=fun l hl => by
 have:=(good_of_ok h).2 l hl
 unfold Lit62; omega
theorem cls_of {u : Int} {cs : List (List Int)} (h : okCnf u cs=true) (hc : ∀ c ∈ cs,c.length<=1048576) : Cls cs:=by
 obtain ⟨h1,h2,h3⟩:=okCnf_all h
 exact ⟨by omega,hc,fun c hm => lit62_ok (h3 c hm)⟩
end Abs.Y

namespace Abs.Y
open Go Go.Proofs Abs
open Nat renaming reduceEqDiff -> Qa, reduceLT -> Qb, reduceAdd -> Qc, reduceMul -> Qd, reduceSub -> Qe, reduceLeDiff -> Qf, reduceSubDiff -> Qg, reduceBEq -> Qh
open Bool renaming not_eq_true' -> Ba, not_eq_false' -> Bb, and_eq_true -> Bc, or_eq_true -> Bh, or_eq_false_iff -> Be
open Int renaming ofNat_lt -> Ia, ofNat_le -> Ib, not_lt -> Ic, not_le -> Ie
open Decidable renaming not_not -> Da
set_option maxRecDepth 100000

def sgS (out : List (List Int)) (v : Int) : List (List Int):=out.flatMap fun c => [c++[v],c++[-v]]
def sgI (l : List Int) : List (List Int):=l.foldl sgS [[]]
def ngI (c : List Int) : Int:=((c.filter fun l => decide (l < 0)).length : Nat)
def xpB (odd : Bool) (c : List Int) : Bool:=decide (Int.tmod (ngI c) 2=0) == odd
def xorI (l : List Int) (odd : Bool) : List (List Int):=(sgI l).filter (xpB odd)
theorem sgI_app (l : List Int) (v : Int) : sgI (l++[v])=sgS (sgI l) v:=by unfold sgI; rw [List.foldl_append]; rfl
theorem mem_sgS {out : List (List Int)} {v : Int} {c : List Int} : c ∈ sgS out v↔∃ d ∈ out,c=d++[v]∨c=d++[-v]:=by
 unfold sgS
 rw [List.mem_flatMap]
 simp only [List.mem_cons,List.not_mem_nil,or_false]
theorem snoc_ind {α : Type} {P : List α->Prop} (h0 : P []) (h1 : ∀ l a,P l->P (l++[a])) (l : List α) : P l:=by
 have : ∀ r : List α,P r.reverse:=fun r => by
  induction r with
  | nil => exact h0
  | cons a r ih => rw [List.reverse_cons]; exact h1 _ _ ih
 rw [← List.reverse_reverse l]; exact this _
theorem sgI_abs (l : List Int) : ∀ c ∈ sgI l,c.map Int.natAbs=l.map Int.natAbs:=by
 refine snoc_ind (P:=fun l => ∀ c ∈ sgI l,c.map Int.natAbs=l.map Int.natAbs) ?_ ?_ l
 . intro c hc
   obtain rfl:=List.mem_singleton.1 hc
   rfl
 . intro l a ih c hc
   rw [sgI_app,mem_sgS] at hc
   obtain ⟨d,hd,rfl | rfl⟩:=hc
   . rw [List.map_append,List.map_append,ih d hd]
   . rw [List.map_append,List.map_append,ih d hd]; simp
def fzI (x : Nat) (l : List Int) : List Int:=l.map fun v => if x.testBit (v.natAbs - 1) then -v else v
theorem sgI_false (x : Nat) (l : List Int) : (∀ v ∈ l,0 < v)->∀ c,(c ∈ sgI l∧tcl x c=false)↔c=fzI x l:=by
 refine snoc_ind (P:=fun l => (∀ v ∈ l,0 < v)->∀ c,(c ∈ sgI l∧tcl x c=false)↔c=fzI x l) ?_ ?_ l
 . intro _ c
   show (c ∈ [[]]∧_)↔c=[]
   rw [List.mem_singleton]
   exact ⟨fun h => h.1,fun h => ⟨h,by subst h; rfl⟩⟩
 . intro l a ih hl c
   have ha:=hl a (List.mem_append.2 (.inr (List.mem_singleton.2 rfl)))
   have ih:=ih fun v hv => hl v (List.mem_append.2 (.inl hv))
   have hsp : ∀ (d : List Int) (y : Int),tcl x (d++[y])=(tcl x d || tlit x y):=fun d y => by unfold tcl; rw [List.any_append]; simp
   have hpo : tlit x a=x.testBit (a.natAbs - 1):=by unfold tlit; rw [decide_eq_true ha]; cases x.testBit (a.natAbs - 1)<;>rfl
   have hne : tlit x (-a)=!(x.testBit (a.natAbs - 1)):=by rw [tlit_neg (by omega),hpo]
   have hf : fzI x (l++[a])=fzI x l++[if x.testBit (a.natAbs - 1) then -a else a]:=by unfold fzI; rw [List.map_append]; rfl
   rw [sgI_app,mem_sgS,hf]
   constructor
   . rintro ⟨⟨d,hd,rfl | rfl⟩,h⟩
     . rw [hsp,Be,hpo] at h
       rw [(ih d).1 ⟨hd,h.1⟩,h.2]; rfl
     . rw [hsp,Be,hne,Bb] at h
       rw [(ih d).1 ⟨hd,h.1⟩,h.2,if_pos rfl]
   . rintro rfl
     obtain ⟨h1,h2⟩:=(ih (fzI x l)).2 rfl
     cases hb : x.testBit (a.natAbs - 1) with
     | true =>
       rw [if_pos rfl]
       exact ⟨⟨_,h1,.inr rfl⟩,by rw [hsp,h2,hne,hb]; rfl⟩
     | false =>
       rw [if_neg (by decide)]
       exact ⟨⟨_,h1,.inl rfl⟩,by rw [hsp,h2,hpo,hb]; rfl⟩
theorem ngI_app (c : List Int) (v : Int) : ngI (c++[v])=ngI c + if v < 0 then 1 else 0:=by
 unfold ngI
 rw [List.filter_append,List.length_append]
 by_cases h : v < 0
 . rw [if_pos h]; simp [h]
 . rw [if_neg h]; simp [h]
theorem ngI_nn (c : List Int) : 0<=ngI c:=by unfold ngI; omega
theorem ngI_le (c : List Int) : ngI c<=c.length:=by
 unfold ngI
 have:=List.length_filter_le (fun l : Int => decide (l < 0)) c
 omega
def sbI (x : Nat) (l : List Int) : Int:=(l.map fun v => bitI x (v.natAbs - 1)).sum
theorem ng_fz (x : Nat) (l : List Int) : (∀ v ∈ l,0 < v)->ngI (fzI x l)=sbI x l:=by
 refine snoc_ind (P:=fun l => (∀ v ∈ l,0 < v)->ngI (fzI x l)=sbI x l) (fun _ => rfl) ?_ l
 intro l a ih hl
 have ha:=hl a (List.mem_append.2 (.inr (List.mem_singleton.2 rfl)))
 have ih:=ih fun v hv => hl v (List.mem_append.2 (.inl hv))
 have hf : fzI x (l++[a])=fzI x l++[if x.testBit (a.natAbs - 1) then -a else a]:=by unfold fzI; rw [List.map_append]; rfl
 have hs : sbI x (l++[a])=sbI x l + bitI x (a.natAbs - 1):=by unfold sbI; rw [List.map_append,List.sum_append]; simp
 rw [hf,hs,ngI_app,ih]
 congr 1
 unfold bitI
 cases x.testBit (a.natAbs - 1) with
 | true => simp only [if_true]; rw [if_pos (by omega)]
 | false => simp only [Bool.false_eq_true,if_false]; rw [if_neg (by omega)]
theorem tmod_xor {x : Nat} {l : List Int} (hl : ∀ v ∈ l,0 < v) {ch : Int} (hc : 0<=ch∧ch<=1) : tmod (xorI l (decide (ch=1))) x=decide ((ch + sbI x l) % 2=0):=by
 have hn:=ng_fz x l hl
 have h0:=ngI_nn (fzI x l)
 have ht : Int.tmod (ngI (fzI x l)) 2=ngI (fzI x l) % 2:=Int.tmod_eq_emod_of_nonneg h0
 have key : tmod (xorI l (decide (ch=1))) x=!(xpB (decide (ch=1)) (fzI x l)):=by
  rw [Bool.eq_iff_iff,tmod_iff,Ba]
  constructor
  . intro h
    cases hx : xpB (decide (ch=1)) (fzI x l) with
    | false => rfl
    | true =>
      obtain ⟨h1,h2⟩:=(sgI_false x l hl _).2 rfl
      rw [h _ (List.mem_filter.2 ⟨h1,hx⟩)] at h2
      cases h2
  . intro h c hcm
    obtain ⟨h1,h2⟩:=List.mem_filter.1 hcm
    cases ht : tcl x c with
    | true => rfl
    | false =>
      rw [(sgI_false x l hl c).1 ⟨h1,ht⟩,h] at h2
      cases h2
 rw [key]
 unfold xpB
 rw [ht,hn]
 rcases (by omega : ch=0∨ch=1) with rfl | rfl
 . rw [decide_eq_false (show ¬ (0 : Int)=1 by decide)]
   by_cases h : sbI x l % 2=0
   . rw [decide_eq_true h,decide_eq_true (by omega)]; rfl
   . rw [decide_eq_false h,decide_eq_false (by omega)]; rfl
 . rw [decide_eq_true (show (1 : Int)=1 from rfl)]
   by_cases h : sbI x l % 2=0
   . rw [decide_eq_true h,decide_eq_false (by omega)]; rfl
   . rw [decide_eq_false h,decide_eq_true (by omega)]; rfl
theorem xp_flip (odd : Bool) (d : List Int) {v : Int} (hv : 0 < v) : xpB odd (d++[-v])=!(xpB odd (d++[v])):=by
 unfold xpB
 have h0:=ngI_nn d
 rw [ngI_app,ngI_app,if_pos (by omega),if_neg (by omega),Int.tmod_eq_emod_of_nonneg (by omega),Int.tmod_eq_emod_of_nonneg (by omega),Int.add_zero]
 by_cases h : ngI d % 2=0
 . rw [decide_eq_true h,decide_eq_false (by omega)]; cases odd<;>rfl
 . rw [decide_eq_false h,decide_eq_true (by omega)]; cases odd<;>rfl
theorem sgS_len (out : List (List Int)) (v : Int) : (sgS out v).length=2 * out.length:=by
 induction out with
 | nil => rfl
 | cons d r ih =>
   have : sgS (d :: r) v=(d++[v]) :: (d++[-v]) :: sgS r v:=rfl
   rw [this,List.length_cons,List.length_cons,ih,List.length_cons]; omega
theorem xor_half (odd : Bool) {v : Int} (hv : 0 < v) (out : List (List Int)) : ((sgS out v).filter (xpB odd)).length=out.length:=by
 induction out with
 | nil => rfl
 | cons d r ih =>
   have : sgS (d :: r) v=(d++[v]) :: (d++[-v]) :: sgS r v:=rfl
   rw [this,List.filter_cons,List.filter_cons,xp_flip odd d hv]
   cases xpB odd (d++[v]) with
   | true => rw [if_pos rfl,if_neg (by decide),List.length_cons,ih,List.length_cons]
   | false => rw [if_neg (by decide),if_pos (by rfl),List.length_cons,ih,List.length_cons]
theorem sgI_len (l : List Int) : (sgI l).length=2 ^ l.length:=by
 refine snoc_ind (P:=fun l => (sgI l).length=2 ^ l.length) rfl ?_ l
 intro l a ih
 rw [sgI_app,sgS_len,ih,List.length_append,List.length_singleton,Nat.pow_succ]; omega
theorem xorI_len {l : List Int} (hl : ∀ v ∈ l,0 < v) (h4 : l.length<=4) (odd : Bool) : (xorI l odd).length<=2 * l.length + 1:=by
 rcases List.eq_nil_or_concat l with rfl | ⟨d,a,rfl⟩
 . have:=List.length_filter_le (xpB odd) (sgI [])
   unfold xorI
   have h1 : (sgI []).length=1:=rfl
   omega
 . rw [List.concat_eq_append] at *
   have ha:=hl a (List.mem_append.2 (.inr (List.mem_singleton.2 rfl)))
   unfold xorI
   rw [sgI_app,xor_half odd ha,sgI_len]
   rw [List.length_append,List.length_singleton] at h4 ⊢
   have h3 : d.length<=3:=by omega
   generalize d.length=n at *
   rcases (by omega : n=0∨n=1∨n=2∨n=3) with rfl | rfl | rfl | rfl<;>decide
def vsI (g : Chg) (v : Nat) : List Int:=(edgesAt g v).map (· + 1)
def parT (g : Chg) (m : Nat) : List (List Int):=(List.range m).flatMap fun v => xorI (vsI g v) (decide (g.ch.getD v 0=1))
def parI (g : Chg) : List (List Int):=parT g g.ch.length
theorem parT_succ (g : Chg) (m : Nat) : parT g (m + 1)=parT g m++xorI (vsI g m) (decide (g.ch.getD m 0=1)):=by
 unfold parT; rw [List.range_succ,List.flatMap_append]; simp
theorem vs_pos {g : Chg} {v : Nat} : ∀ l ∈ vsI g v,0 < l∧l<=g.ed.length:=by
 intro l hl
 obtain ⟨k,hk,rfl⟩:=List.mem_map.1 hl
 have:=mem_edges hk
 omega
theorem vs_sum (g : Chg) (x v : Nat) : sbI x (vsI g v)=eb g x v:=by
 unfold sbI vsI edgesAt edgesTo eb
 rw [List.map_map]
 refine (sum_filt (atB g v) (fun k : Int => bitI x ((k + 1).natAbs - 1)) g.ed.length).trans ?_
 refine rs_congr _ fun k _ => ?_
 have e : ((k : Int) + 1).natAbs - 1=k:=by omega
 rw [e]
theorem tmod_app (a b : List (List Int)) (x : Nat) : tmod (a++b) x=(tmod a x && tmod b x):=by
 unfold tmod; rw [List.any_append,Bool.not_or]
theorem par_sat {g : Chg} (hg : GoodP g) (x : Nat) : tmod (parI g) x=satG g x:=by
 have hc:=hg.c
 have key : ∀ m,m<=g.ch.length->tmod (parT g m) x=(List.range m).all (satV g x):=by
  intro m
  induction m with
  | zero => intro _; rfl
  | succ m ih =>
    intro h
    rw [parT_succ,tmod_app,ih (by omega),List.range_succ,List.all_append,tmod_xor (fun v hv => (vs_pos v hv).1) (hg.q m (by omega)),vs_sum]
    congr 1
    simp [satV]
 unfold parI satG
 rw [key _ (Nat.le_refl _),show g.n.toNat=g.ch.length by omega]
theorem rs_le {f h : Nat->Int} : ∀ n,(∀ i,i < n->f i<=h i)->rs n f<=rs n h
 | 0,_ => Int.le_refl _
 | n + 1, hh => by
   rw [rs_succ,rs_succ]
   have:=rs_le n fun i hi => hh i (by omega)
   have:=hh n (by omega)
   omega
theorem rs_ind (a : Int) : ∀ n,rs n (fun v : Nat => if (v : Int)=a then 1 else 0)<=1∧((n : Int)<=a->rs n (fun v : Nat => if (v : Int)=a then 1 else 0)=0)
 | 0 => ⟨by rw [rs_zero]; decide,fun _ => rfl⟩
 | n + 1 => by
   obtain ⟨h1,h2⟩:=rs_ind a n
   rw [rs_succ]
   constructor
   . by_cases h : (n : Int)=a
     . rw [if_pos h,h2 (by omega)]; decide
     . rw [if_neg h]; omega
   . intro h
     rw [if_neg (by omega),h2 (by omega)]; rfl
theorem deg_sum (g : Chg) (v : Nat) : ((edgesAt g v).length : Int)=rs g.ed.length fun k => if atB g v k then 1 else 0:=by
 unfold edgesAt edgesTo
 rw [← sum_filt (atB g v) (fun _ => 1)]
 generalize (List.filter (atB g v) (List.range g.ed.length)).map (fun w : Nat => (w : Int))=l
 induction l with
 | nil => rfl
 | cons a r ih => rw [List.length_cons,List.map_cons,List.sum_cons,← ih]; omega
theorem deg_all (g : Chg) (n : Nat) : rs n (fun v => ((edgesAt g v).length : Int))<=2 * g.ed.length:=by
 have h1 : rs n (fun v => ((edgesAt g v).length : Int))=rs n fun v => rs g.ed.length fun k => if atB g v k then 1 else 0:=rs_congr _ fun v _ => deg_sum g v
 rw [h1,rs_swap]
 have h2 : ∀ m,rs m (fun _ => 2)=2 * (m : Int):=fun m => by
  induction m with
  | zero => rfl
  | succ m ih => rw [rs_succ,ih]; omega
 rw [← h2]
 refine rs_le _ fun k _ => ?_
 have h3 : rs n (fun v : Nat => if atB g v k then (1 : Int) else 0)<=rs n fun v : Nat => (if (v : Int)=(g.ed.getD k (0,0)).1 then 1 else 0) + if (v : Int)=(g.ed.getD k (0,0)).2 then 1 else 0:=by
  refine rs_le _ fun v _ => ?_
  by_cases h : atB g v k=true
  . rw [if_pos h]
    rcases atB_iff.1 h with h | h
    . rw [if_pos h]; split<;>omega
    . rw [if_pos h]; split<;>omega
  . rw [if_neg h]; split<;>split<;>omega
 rw [rs_add] at h3
 have h4:=(rs_ind (g.ed.getD k (0,0)).1 n).1
 have h5:=(rs_ind (g.ed.getD k (0,0)).2 n).1
 omega
theorem vs_len (g : Chg) (v : Nat) : (vsI g v).length=(edgesAt g v).length:=by unfold vsI; rw [List.length_map]
theorem parT_len {g : Chg} (hg : GoodP g) : ∀ m,m<=g.ch.length->((parT g m).length : Int)<=2 * rs m (fun v => ((edgesAt g v).length : Int)) + m
 | 0,_ => by rw [rs_zero]; exact Int.le_refl _
 | m + 1, h => by
   have ih:=parT_len hg m (by omega)
   have h1:=xorI_len (l:=vsI g m) (fun v hv => (vs_pos v hv).1) (by rw [vs_len]; exact hg.d m (by omega)) (decide (g.ch.getD m 0=1))
   rw [vs_len] at h1
   rw [parT_succ,List.length_append,rs_succ]
   omega
theorem parT_le {g : Chg} (hg : GoodP g) {m : Nat} (h : m<=g.ch.length) : (parT g m).length<=56:=by
 have h1:=parT_len hg m h
 have h2:=deg_all g m
 have h3:=hg.m
 have h4:=hg.c
 have h5:=hg.n1
 omega
theorem edgesAt_sorted (g : Chg) (v : Int) : (edgesAt g v).Pairwise (· < ·):=by
 unfold edgesAt edgesTo
 refine List.pairwise_map.2 ((List.pairwise_lt_range.filter _).imp fun {a b} h => by omega)
theorem xor_good {g : Chg} (hg : GoodP g) {v : Nat} {odd : Bool} : ∀ c ∈ xorI (vsI g v) odd,Good c∧∀ l ∈ c,(l.natAbs : Int)<=g.ed.length:=by
 intro c hc
 have ha:=sgI_abs (vsI g v) c (List.mem_filter.1 hc).1
 have hm:=hg.m
 have hb : ∀ l ∈ c,l ≠ 0∧l.natAbs<=12∧(l.natAbs : Int)<=g.ed.length:=fun l hl => by
  have h1 : l.natAbs ∈ c.map Int.natAbs:=List.mem_map.2 ⟨l,hl,rfl⟩
  rw [ha] at h1
  obtain ⟨k,hk,e⟩:=List.mem_map.1 h1
  have:=vs_pos k hk
  omega
 refine ⟨⟨?_,fun l hl => ⟨(hb l hl).1,(hb l hl).2.1⟩⟩,fun l hl => (hb l hl).2.2⟩
 have h2 : (c.map Int.natAbs).Pairwise (· < ·):=by
  rw [ha]
  unfold vsI
  rw [List.map_map]
  refine List.pairwise_map.2 ((edgesAt_sorted g v).imp_of_mem fun {a b} h1 h2 h => ?_)
  have:=(mem_edges h1).1
  show (a + 1).natAbs < (b + 1).natAbs
  omega
 exact List.pairwise_map.1 h2
theorem par_ok {g : Chg} (hg : GoodP g) : okCnf g.ed.length (parI g)=true:=by
 have hu : okVars (g.ed.length : Nat)=true:=okVars_iff.2 (by have:=hg.m; omega)
 unfold okCnf
 rw [hu,decide_eq_true (by have:=parT_le hg (Nat.le_refl _); unfold parI; omega),Bool.true_and,Bool.true_and,List.all_eq_true]
 intro c hc
 unfold parI parT at hc
 obtain ⟨v,_,h⟩:=List.mem_flatMap.1 hc
 obtain ⟨h1,h2⟩:=xor_good hg c h
 exact ok_of_good hu h1 h2
def cmI (u : Nat) (cs : List (List Int)) : Nat:=((List.range (2 ^ u)).filter (tmod cs)).length
theorem par_cnt {g : Chg} (hg : GoodP g) : cmI g.ed.length (parI g)=cntG g:=by
 unfold cmI cntG
 rw [show tmod (parI g)=satG g from funext (par_sat hg)]
end Abs.Y
