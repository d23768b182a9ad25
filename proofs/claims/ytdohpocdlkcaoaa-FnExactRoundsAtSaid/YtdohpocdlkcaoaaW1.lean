/- What functions of this program compute, over plain data. No condition. -/
import Derived.Test.YtdohpocdlkcaoaaG3
import Derived.Test.YtdohpocdlkcaoaaChecked
import Derived.Shelf.SlSortCmp.Whole1
import Derived.Shelf.SlicesE.DeleteFunc
import Derived.Shelf.Slices.CompactI
import Derived.Shelf.Spec.SlicesGrow
import Derived.Shelf.SlicesG.Cmp
import Derived.LoopN
import Derived.Deep.RegionWith
import Derived.Ground.SlsfProg
import Derived.Ground.SlgfProg
import Derived.Ground.SlgcProg
import Derived.Ground.Names2Prog
import Derived.Ground.Names8Prog
set_option linter.all false
namespace Abs.Y
open Go Go.Proofs Abs
open Nat renaming reduceEqDiff -> Qa, reduceLT -> Qb, reduceAdd -> Qc, reduceMul -> Qd, reduceSub -> Qe, reduceLeDiff -> Qf, reduceSubDiff -> Qg, reduceBEq -> Qh
open Bool renaming not_eq_true' -> Ba, not_eq_false' -> Bb, and_eq_true -> Bc, or_eq_true -> Bd, or_eq_false_iff -> Be
open Int renaming ofNat_lt -> Ia, ofNat_le -> Ib, not_lt -> Ic, not_le -> Ie
open Decidable renaming not_not -> Da
set_option maxRecDepth 100000

theorem l1Own_ok (xs : List Int) (hl : xs.length<=4294967296) : Ctr Try.prog 77 [.ints xs] false (.sl 0) [(0,.arr 3 1 (xs.map (.int .i64)))]:=by
 refine Ctr.of (n:=6) (rs:=[.tmp 2]) Try.func77 rfl rfl Try.ntmps77 rfl rfl (by kernel_rfl) Try.checked.mixed ?_
 simp (disch:=first | omega | decide +kernel) only [D.ints,go_sem,Qa,Qb,Qc,Qd,Qe,↓reduceIte,reduceCtorEq,Qf,Qg,Qh]
 (repeat' (first | ((first | (refine gsel_split (fun q' => ?_) (fun q' => ?_)<;>(have h':=q')<;>(try simp only [za1,za2,Ba,Bb,za3,ne_eq,za4,za5,za6,Ia,Ib,Ic,Ie,Da,Bc,Bd,Be,za7,za8] at h')) | (have q':=trivial; first | refine hE _ _ ret_ne ?_ | refine hE _ _ exit_ne ?_))<;>(try simp (disch:=first | omega | decide +kernel) only [q',go_sem,Qa,Qb,Qc,Qd,Qe,↓reduceIte,reduceCtorEq,Qf,Qg,Qh])<;>clear q') | refine hN _ ?_ ?_ Wk.kk | with_reducible refine And.intro ?_ ?_ | with_reducible omega | exact ok_ints | exact cells_ints | exact no_mem | with_reducible exact plain_ints | (refine le_maxLen ?_; omega) | (refine za9 ⟨?_,?_⟩) | (simp only [go_sem,Qc,Qb,zb1,zb2,forall_eq]; done)))
 exact ret_sl 3 rfl rfl plain_ints
theorem l2Without_ok (c : List Int) (v : Int) (hl : c.length<=4294967296) : Ctr Try.prog 92 [.ints c,.int .i64 v] false (.sl 0) [(0,.arr 3 1 ((c.filter fun l => varI l != v).map (.int .i64)))]:=by
 refine Ctr.of (n:=29) (rs:=[.tmp 4]) Try.func92 rfl rfl Try.ntmps92 rfl rfl (by kernel_rfl) Try.checked.mixed ?_
 simp (disch:=first | omega | decide +kernel) only [D.ints,go_sem,Qa,Qb,Qc,Qd,Qe,↓reduceIte,reduceCtorEq,Qf,Qg,Qh]
 (repeat' (first | ((first | (refine gsel_split (fun q' => ?_) (fun q' => ?_)<;>(have h':=q')<;>(try simp only [za1,za2,Ba,Bb,za3,ne_eq,za4,za5,za6,Ia,Ib,Ic,Ie,Da,Bc,Bd,Be,za7,za8] at h')) | (have q':=trivial; first | refine hE _ _ ret_ne ?_ | refine hE _ _ exit_ne ?_))<;>(try simp (disch:=first | omega | decide +kernel) only [q',go_sem,Qa,Qb,Qc,Qd,Qe,↓reduceIte,reduceCtorEq,Qf,Qg,Qh])<;>clear q') | refine hN _ ?_ ?_ Wk.kk | with_reducible refine And.intro ?_ ?_ | with_reducible omega | exact ok_ints | exact cells_ints | exact no_mem | with_reducible exact plain_ints | (refine le_maxLen ?_; omega) | (refine za9 ⟨?_,?_⟩) | (simp only [go_sem,Qc,Qb,zb1,zb2,forall_eq]; done)))
 refine Ok.loopN [27,26,25,24,23,22,21,20,19,18,17,16,15,14,13,12,11,10,9,8,7,6,5,3,2] (fun i _ => [(6,.d (.int .i64 (i : Nat))),(5,.sl 7)]) (fun _ (cur : List Int) => [(7,.arr 3 1 (cur.map (.int .i64)))]) c.length
  (fun i cur => cur.length<=i∧cur=(c.take i).filter fun l => varI l != v) [] (by simp) (Wk.kk) ?_
 rintro R i cur hN hE hi ⟨hI,hc⟩
 simp (disch:=first | omega | decide +kernel) only [go_sem,Qa,Qb,Qc,Qd,Qe,↓reduceIte,reduceCtorEq,Qf,Qg,Qh]
 (repeat' (first | ((first | (refine gsel_split (fun q' => ?_) (fun q' => ?_)<;>(have h':=q')<;>(try simp only [za1,za2,Ba,Bb,za3,ne_eq,za4,za5,za6,Ia,Ib,Ic,Ie,Da,Bc,Bd,Be,za7,za8] at h')) | (have q':=trivial; first | refine callX_new (l2Var_ok _) rfl (by decide) ?_ | refine callY_new (l2Var_ok _) rfl ?_ | refine hE _ _ ret_ne ?_ | refine hE _ _ exit_ne ?_))<;>(try simp (disch:=first | omega | decide +kernel) only [q',go_sem,Qa,Qb,Qc,Qd,Qe,↓reduceIte,reduceCtorEq,Qf,Qg,Qh])<;>clear q') | refine hN _ ?_ ?_ Wk.kk | with_reducible refine And.intro ?_ ?_ | with_reducible omega | exact ok_ints | exact cells_ints | exact no_mem | with_reducible exact plain_ints | (refine le_maxLen ?_; omega) | (refine za9 ⟨?_,?_⟩) | (simp only [go_sem,Qc,Qb,zb1,zb2,forall_eq]; done)))
 . rename_i h1
   refine hN (cur++[c.getD i 0]) _ h1 ⟨by simp; omega,?_⟩ (Wk.kk)
   rw [take_succ 0 c i h1,List.filter_append,← hc,List.filter_cons_of_pos (by simpa using h'),List.filter_nil]
 . rename_i h1
   refine hN cur _ h1 ⟨by omega,?_⟩ (Wk.kk)
   rw [take_succ 0 c i h1,List.filter_append,← hc,List.filter_cons_of_neg (by simpa using h'),List.filter_nil,List.append_nil]
 . rw [show cur=c.filter fun l => varI l != v by rw [hc,List.take_of_length_le (by omega)]]
   exact ret_sl 7 rfl rfl plain_ints
def putI (c : List Int) (l : Int) : List Int:=c.takeWhile (fun x => decide (varI x < varI l))++l :: c.dropWhile (fun x => decide (varI x < varI l))
theorem takeWhile_at {p : Int->Bool} {c : List Int} {k : Nat} (hk : k<=c.length) (h : ∀ j,j < k->p (c.getD j 0)=true) (h' : k=c.length∨p (c.getD k 0)=false) : c.takeWhile p=c.take k∧c.dropWhile p=c.drop k:=by
 induction c generalizing k with
 | nil => obtain rfl : k = 0 := by simpa using hk
          simp
 | cons x r ih =>
   cases k with
   | zero =>
     have hx : p x = false := by rcases h' with h' | h'
                                 . simp at h'
                                 . simpa using h'
     simp [hx]
   | succ k =>
     have hx : p x=true:=by simpa using h 0 (by omega)
     obtain ⟨h1,h2⟩:=ih (k:=k) (by simpa using hk) (fun j hj => by simpa using h (j + 1) (by omega)) (by simpa using h')
     simp [hx,h1,h2]
theorem l2Put_ok (c : List Int) (l : Int) (hl : c.length<=4294967296) : Ctr Try.prog 91 [.ints c,.int .i64 l] false (.sl 0) [(0,.arr 3 1 ((putI c l).map (.int .i64)))]:=by
 refine Ctr.of (n:=33) (rs:=[.tmp 4]) Try.func91 rfl rfl Try.ntmps91 rfl rfl (by kernel_rfl) Try.checked.mixed ?_
 simp (disch:=first | omega | decide +kernel) only [D.ints,go_sem,Qa,Qb,Qc,Qd,Qe,↓reduceIte,reduceCtorEq,Qf,Qg,Qh]
 (repeat' (first | ((first | (refine gsel_split (fun q' => ?_) (fun q' => ?_)<;>(have h':=q')<;>(try simp only [za1,za2,Ba,Bb,za3,ne_eq,za4,za5,za6,Ia,Ib,Ic,Ie,Da,Bc,Bd,Be,za7,za8] at h')) | (have q':=trivial; first | refine hE _ _ ret_ne ?_ | refine hE _ _ exit_ne ?_))<;>(try simp (disch:=first | omega | decide +kernel) only [q',go_sem,Qa,Qb,Qc,Qd,Qe,↓reduceIte,reduceCtorEq,Qf,Qg,Qh])<;>clear q') | refine hN _ ?_ ?_ Wk.kk | with_reducible refine And.intro ?_ ?_ | with_reducible omega | exact ok_ints | exact cells_ints | exact no_mem | with_reducible exact plain_ints | (refine le_maxLen ?_; omega) | (refine za9 ⟨?_,?_⟩) | (simp only [go_sem,Qc,Qb,zb1,zb2,forall_eq]; done)))
 refine Ok.loopC [21,20,19,18,17,16,15,14,13,12,11,10,9,8,7,6,5,3,2] (fun i => [(5,.d (.int .i64 (i : Nat)))]) c.length (fun i => ∀ j,j < i->varI (c.getD j 0) < varI l) (by simp) (Wk.kk) ?_
 intro R i hN hE hi hI
 simp (disch:=first | omega | decide +kernel) only [go_sem,Qa,Qb,Qc,Qd,Qe,↓reduceIte,reduceCtorEq,Qf,Qg,Qh]
 (repeat' (first | ((first | (refine gsel_split (fun q' => ?_) (fun q' => ?_)<;>(have h':=q')<;>(try simp only [za1,za2,Ba,Bb,za3,ne_eq,za4,za5,za6,Ia,Ib,Ic,Ie,Da,Bc,Bd,Be,za7,za8] at h')) | (have q':=trivial; first | refine callX_new (l2Var_ok _) rfl (by decide) ?_ | refine callY_new (l2Var_ok _) rfl ?_ | refine callX_new (l1Own_ok (c.take i) (by simp; omega)) rfl (by decide) ?_ | refine callY_new (l1Own_ok (c.take i) (by simp; omega)) rfl ?_ | refine hE _ _ ret_ne ?_ | refine hE _ _ exit_ne ?_))<;>(try simp (disch:=first | omega | decide +kernel) only [q',go_sem,Qa,Qb,Qc,Qd,Qe,↓reduceIte,reduceCtorEq,Qf,Qg,Qh])<;>clear q') | refine hN _ ?_ ?_ Wk.kk | with_reducible refine And.intro ?_ ?_ | with_reducible omega | exact ok_ints | exact cells_ints | exact no_mem | with_reducible exact plain_ints | (refine le_maxLen ?_; omega) | (refine za9 ⟨?_,?_⟩) | (simp only [go_sem,Qc,Qb,zb1,zb2,forall_eq]; done)))
 . exact all_succ hI h'
 . have hw:=takeWhile_at (p:=fun x => decide (varI x < varI l)) (Nat.le_of_lt ‹i < c.length›) (fun j hj => by simpa using hI j hj) (.inr (by simpa using h'))
   refine ret_sl 2600000 rfl ?_ plain_ints
   simp only [lk,if_true]
   rw [putI,hw.1,hw.2,List.take_of_length_le (l:=c.drop _) (by rw [List.length_drop]; exact Nat.le_refl _)]
   simp
 . obtain rfl : i=c.length:=by omega
   have hw:=takeWhile_at (p:=fun x => decide (varI x < varI l)) hi (fun j hj => by simpa using hI j hj) (.inl rfl)
   refine ret_sl 2600000 rfl ?_ plain_ints
   simp only [lk,if_true]
   rw [putI,hw.1,hw.2,List.take_of_length_le (l:=c.drop _) (by rw [List.length_drop]; exact Nat.le_refl _)]
   simp
theorem length_putI (c : List Int) (l : Int) : (putI c l).length=c.length + 1:=by
 have:=congrArg List.length (List.takeWhile_append_dropWhile (p:=fun x => decide (varI x < varI l)) (l:=c))
 simp only [List.length_append] at this
 simp only [putI,List.length_append,List.length_cons]; omega
def joinI : List Int->List Int->Option (List Int)
 | a,[] => some a
 | a,x :: r => if a.any (· == IntKind.i64.wrap (0 - x)) then none else joinI (if a.any (· == x) then a else putI a x) r
def optL (o : Option (List Int)) : List Int:=match o with | some c => c | none => []
theorem l2Join_ok (a b : List Int) (ha : a.length<=1048576) (hb : b.length<=1048576) : Ctr Try.prog 101 [.ints a,.ints b] false (.tup [.sl 0,.d (.bool (joinI a b).isSome)]) [(0,.arr 3 1 ((optL (joinI a b)).map (.int .i64)))]:=by
 refine Ctr.of (n:=38) (rs:=[.tmp 4,.tmp 5]) Try.func101 rfl rfl Try.ntmps101 rfl rfl (by kernel_rfl) Try.checked.mixed ?_
 simp (disch:=first | omega | decide +kernel) only [D.ints,go_sem,Qa,Qb,Qc,Qd,Qe,↓reduceIte,reduceCtorEq,Qf,Qg,Qh]
 (repeat' (first | ((first | (refine gsel_split (fun q' => ?_) (fun q' => ?_)<;>(have h':=q')<;>(try simp only [za1,za2,Ba,Bb,za3,ne_eq,za4,za5,za6,Ia,Ib,Ic,Ie,Da,Bc,Bd,Be,za7,za8] at h')) | (have q':=trivial; first | refine callX_new (l1Own_ok a (by omega)) rfl (by decide) ?_ | refine callY_new (l1Own_ok a (by omega)) rfl ?_ | refine hE _ _ ret_ne ?_ | refine hE _ _ exit_ne ?_))<;>(try simp (disch:=first | omega | decide +kernel) only [q',go_sem,Qa,Qb,Qc,Qd,Qe,↓reduceIte,reduceCtorEq,Qf,Qg,Qh])<;>clear q') | refine hN _ ?_ ?_ Wk.kk | with_reducible refine And.intro ?_ ?_ | with_reducible omega | exact ok_ints | exact cells_ints | exact no_mem | with_reducible exact plain_ints | (refine le_maxLen ?_; omega) | (refine za9 ⟨?_,?_⟩) | (simp only [go_sem,Qc,Qb,zb1,zb2,forall_eq]; done)))
 refine Ok.loopN [36,35,34,33,32,31,30,29,28,27,26,25,24,23,22,21,20,19,18,17,16,15,14,13,12,11,10,9,8,7,6,5,4,3,2,0] (fun i _ => [(7,.d (.int .i64 (i : Nat))),(6,.sl 1000000)]) (fun _ (cur : List Int) => [(1000000,.arr 3 1 (cur.map (.int .i64)))]) b.length
  (fun i cur => cur.length<=a.length + i∧joinI a b=joinI cur (b.drop i)) a (by simp) (Wk.kk) ?_
 rintro R i cur hN hE hi ⟨hI,hc⟩
 simp (disch:=first | omega | decide +kernel) only [go_sem,Qa,Qb,Qc,Qd,Qe,↓reduceIte,reduceCtorEq,Qf,Qg,Qh]
 (repeat' (first | ((first | (refine gsel_split (fun q' => ?_) (fun q' => ?_)<;>(have h':=q')<;>(try simp only [za1,za2,Ba,Bb,za3,ne_eq,za4,za5,za6,Ia,Ib,Ic,Ie,Da,Bc,Bd,Be,za7,za8] at h')) | (have q':=trivial; first | refine callX_new (l2Has_ok cur _ (by omega)) rfl (by decide) ?_ | refine callY_new (l2Has_ok cur _ (by omega)) rfl ?_ | refine callX_new (l2Put_ok cur _ (by omega)) rfl (by decide) ?_ | refine callY_new (l2Put_ok cur _ (by omega)) rfl ?_ | refine hE _ _ ret_ne ?_ | refine hE _ _ exit_ne ?_))<;>(try simp (disch:=first | omega | decide +kernel) only [q',go_sem,Qa,Qb,Qc,Qd,Qe,↓reduceIte,reduceCtorEq,Qf,Qg,Qh])<;>clear q') | refine hN _ ?_ ?_ Wk.kk | with_reducible refine And.intro ?_ ?_ | with_reducible omega | exact ok_ints | exact cells_ints | exact no_mem | with_reducible exact plain_ints | (refine le_maxLen ?_; omega) | (refine za9 ⟨?_,?_⟩) | (simp only [go_sem,Qc,Qb,zb1,zb2,forall_eq]; done)))
 . rename_i h1
   rw [hc,drop_cons 0 b i h1,joinI,if_pos h']
   exact ret_sld 23 rfl rfl rfl no_mem rfl
 . rename_i h1 h2
   refine hN (putI cur (b.getD i 0)) _ h1 ⟨by rw [length_putI]; omega,?_⟩ ((Wk.swp 1000000 3700000).trans (by refine Wk.auto ?_ ?_<;>simp [extraK,lk,killL,St.kill,wipeO,wipeS,AV.has,AV.hasL,AO.wipe,List.map_set,updSt,insL,dropS,ins,swpS,swpO,swp,AV.ren,AV.renL,AO.ren]))
   rw [hc,drop_cons 0 b i h1,joinI,if_neg (by rw [h2]; simp),if_neg (by rw [h']; simp)]
 . rename_i h1 h2
   refine hN cur _ h1 ⟨by omega,?_⟩ (Wk.kk)
   rw [hc,drop_cons 0 b i h1,joinI,if_neg (by rw [h2]; simp),if_pos h']
 . rw [hc,List.drop_eq_nil_of_le (by omega),joinI]
   exact ret_sld 1000000 rfl rfl rfl plain_ints rfl
def resolveI (a b : List Int) (v : Int) : Option (List Int) :=
 if (a.any (· == v) && b.any (· == IntKind.i64.wrap (0 - v)))=true then joinI (a.filter fun l => varI l != v) (b.filter fun l => varI l != v) else none
theorem l2Resolve_ok (a b : List Int) (v : Int) (ha : a.length<=1048576) (hb : b.length<=1048576) : Ctr Try.prog 95 [.ints a,.ints b,.int .i64 v] false (.tup [.sl 0,.d (.bool (resolveI a b v).isSome)]) [(0,.arr 3 1 ((optL (resolveI a b v)).map (.int .i64)))]:=by
 refine Ctr.of (n:=29) (rs:=[.tmp 6,.tmp 7]) Try.func95 rfl rfl Try.ntmps95 rfl rfl (by kernel_rfl) Try.checked.mixed ?_
 simp (disch:=first | omega | decide +kernel) only [D.ints,go_sem,Qa,Qb,Qc,Qd,Qe,↓reduceIte,reduceCtorEq,Qf,Qg,Qh]
 (repeat' (first | ((first | (refine gsel_split (fun q' => ?_) (fun q' => ?_)<;>(have h':=q')<;>(try simp only [za1,za2,Ba,Bb,za3,ne_eq,za4,za5,za6,Ia,Ib,Ic,Ie,Da,Bc,Bd,Be,za7,za8] at h')) | (have q':=trivial; first | refine callX_new (l2Has_ok a v (by omega)) rfl (by decide) ?_ | refine callY_new (l2Has_ok a v (by omega)) rfl ?_ | refine callX_new (l2Has_ok b _ (by omega)) rfl (by decide) ?_ | refine callY_new (l2Has_ok b _ (by omega)) rfl ?_ | refine callX_new (l2Without_ok a v (by omega)) rfl (by decide) ?_ | refine callY_new (l2Without_ok a v (by omega)) rfl ?_ | refine callX_new (l2Without_ok b v (by omega)) rfl (by decide) ?_ | refine callY_new (l2Without_ok b v (by omega)) rfl ?_ | refine callX_new (l2Join_ok _ _ (Nat.le_trans (List.length_filter_le _ _) ha) (Nat.le_trans (List.length_filter_le _ _) hb)) rfl (by decide) ?_ | refine callY_new (l2Join_ok _ _ (Nat.le_trans (List.length_filter_le _ _) ha) (Nat.le_trans (List.length_filter_le _ _) hb)) rfl ?_ | refine hE _ _ ret_ne ?_ | refine hE _ _ exit_ne ?_))<;>(try simp (disch:=first | omega | decide +kernel) only [q',go_sem,Qa,Qb,Qc,Qd,Qe,↓reduceIte,reduceCtorEq,Qf,Qg,Qh])<;>clear q') | refine hN _ ?_ ?_ Wk.kk | with_reducible refine And.intro ?_ ?_ | with_reducible omega | exact ok_ints | exact cells_ints | exact no_mem | with_reducible exact plain_ints | (refine le_maxLen ?_; omega) | (refine za9 ⟨?_,?_⟩) | (simp only [go_sem,Qc,Qb,zb1,zb2,forall_eq]; done)))
 . rw [show resolveI a b v=none by rw [resolveI,h']; rfl]
   exact ret_sld 19 rfl rfl rfl no_mem rfl
 . rw [show resolveI a b v=none by rw [resolveI,h',Bool.and_false]; rfl]
   exact ret_sld 19 rfl rfl rfl no_mem rfl
 . rename_i h1
   rw [show resolveI a b v=joinI (a.filter fun l => varI l != v) (b.filter fun l => varI l != v) by rw [resolveI,h1,h']; rfl]
   exact ret_sld 2700000 rfl rfl rfl plain_ints rfl
end Abs.Y

namespace Go.Proofs
open Go.Shelf Go.RowKit Go.Lib Go.Sort
def Try.layS_ren : Go.Shelf.Ren:=⟨fun | 6 => 193 | 15 => 229 | 14 => 228 | 28 => 246 | 29 => 247 | 20 => 238 | 21 => 239 | 22 => 240 | 23 => 241 | 24 => 242 | 25 => 243 | 26 => 244 | 27 => 245 | 46 => 262 | 47 => 263 | 48 => 264 | 49 => 265 | 50 => 266 | 57 => 282 | n => n,fun | 22 => 38 | 24 => 3 | 25 => 122 | 3 => 3 | 39 => 158 | 0 => 0 | 53 => 199 | 55 => 102 | 4 => 4 | 46 => 193 | 45 => 192 | 50 => 51 | 5 => 5 | 9 => 9 | 66 => 213 | 70 => 217 | 76 => 229 | 77 => 230 | n => n,fun | n => n⟩
theorem Try.layS : Go.Proofs.SlLaysF.n6 Try.prog Try.layS_ren:={
 mixed:=by kernel_rfl
 f6:=⟨Try.f193.name,by decide,Try.func193.trans (congrArg some (by kernel_rfl))⟩
 f14:=⟨Try.f228.name,by decide,Try.func228.trans (congrArg some (by kernel_rfl))⟩
 f15:=Try.func229.trans (congrArg some (by kernel_rfl))
 f20:=⟨Try.f238.name,by decide,Try.func238.trans (congrArg some (by kernel_rfl))⟩
 f21:=⟨Try.f239.name,by decide,Try.func239.trans (congrArg some (by kernel_rfl))⟩
 f22:=⟨Try.f240.name,by decide,Try.func240.trans (congrArg some (by kernel_rfl))⟩
 f23:=⟨Try.f241.name,by decide,Try.func241.trans (congrArg some (by kernel_rfl))⟩
 f24:=⟨Try.f242.name,by decide,Try.func242.trans (congrArg some (by kernel_rfl))⟩
 f25:=⟨Try.f243.name,by decide,Try.func243.trans (congrArg some (by kernel_rfl))⟩
 f26:=⟨Try.f244.name,by decide,Try.func244.trans (congrArg some (by kernel_rfl))⟩
 f27:=⟨Try.f245.name,by decide,Try.func245.trans (congrArg some (by kernel_rfl))⟩
 f28:=Try.func246.trans (congrArg some (by kernel_rfl))
 f29:=Try.func247.trans (congrArg some (by kernel_rfl))
 f46:=⟨Try.f262.name,by decide,Try.func262.trans (congrArg some (by kernel_rfl))⟩
 f47:=Try.func263.trans (congrArg some (by kernel_rfl))
 f48:=Try.func264.trans (congrArg some (by kernel_rfl))
 f49:=⟨Try.f265.name,by decide,Try.func265.trans (congrArg some (by kernel_rfl))⟩
 f50:=⟨Try.f266.name,by decide,Try.func266.trans (congrArg some (by kernel_rfl))⟩
 f57:=⟨Try.f282.name,by decide,Try.func282.trans (congrArg some (by kernel_rfl))⟩
 t0:=Try.underlying0
 a0:=Try.isAgg0
 z0:=Try.sizeOf0
 v0:=Try.zeroValue0
 t3:=Try.underlying3
 a3:=Try.isAgg3
 z3:=Try.sizeOf3
 v3:=Try.zeroValue3
 t4:=Try.underlying4
 a4:=Try.isAgg4
 z4:=Try.sizeOf4
 v4:=Try.zeroValue4
 t5:=Try.underlying5
 a5:=Try.isAgg5
 z5:=Try.sizeOf5
 v5:=Try.zeroValue5
 t9:=Try.underlying9
 a9:=Try.isAgg9
 z9:=Try.sizeOf9
 v9:=Try.zeroValue9
 t22:=Try.underlying38
 a22:=Try.isAgg38
 z22:=Try.sizeOf38
 v22:=Try.zeroValue38
 a24:=Try.isAgg3
 z24:=Try.sizeOf3
 t25:=Try.underlying122
 a25:=Try.isAgg122
 z25:=Try.sizeOf122
 v25:=Try.zeroValue122
 t39:=Try.underlying158
 a39:=Try.isAgg158
 z39:=Try.sizeOf158
 v39:=Try.zeroValue158
 t45:=Try.underlying192
 a45:=Try.isAgg192
 z45:=Try.sizeOf192
 v45:=Try.zeroValue192
 t46:=Try.underlying193
 a46:=Try.isAgg193
 z46:=Try.sizeOf193
 v46:=Try.zeroValue193
 t50:=Try.underlying51
 a50:=Try.isAgg51
 z50:=Try.sizeOf51
 v50:=Try.zeroValue51
 t53:=Try.underlying199
 a53:=Try.isAgg199
 z53:=Try.sizeOf199
 v53:=Try.zeroValue199
 t55:=Try.underlying102
 a55:=Try.isAgg102
 z55:=Try.sizeOf102
 v55:=Try.zeroValue102
 t66:=Try.underlying213
 a66:=Try.isAgg213
 z66:=Try.sizeOf213
 v66:=Try.zeroValue213
 t70:=Try.underlying217
 a70:=Try.isAgg217
 z70:=Try.sizeOf217
 v70:=Try.zeroValue217
 t76:=Try.underlying229
 a76:=Try.isAgg229
 z76:=Try.sizeOf229
 v76:=Try.zeroValue229
 t77:=Try.underlying230
 a77:=Try.isAgg230
 z77:=Try.sizeOf230
 v77:=Try.zeroValue230 }
def Try.layD_ren : Go.Shelf.Ren:=⟨fun | 10 => 224 | 6 => 191 | n => n,fun | 22 => 38 | 23 => 3 | 25 => 86 | 3 => 3 | 4 => 4 | 0 => 0 | n => n,fun | n => n⟩
def Try.layG_ren : Go.Shelf.Ren:=⟨fun | 4 => 223 | n => n,fun | 22 => 38 | 25 => 3 | 3 => 3 | 4 => 4 | 9 => 9 | 20 => 20 | 0 => 0 | n => n,fun | n => n⟩
def Try.layC_ren : Go.Shelf.Ren:=⟨fun | 20 => 194 | n => n,fun | 22 => 38 | 3 => 3 | 4 => 4 | 0 => 0 | n => n,fun | n => n⟩
def Try.layP_ren : Go.Shelf.Ren:=⟨fun | 5 => 186 | 7 => 227 | n => n,fun | 22 => 3 | 3 => 3 | 4 => 4 | n => n,fun | n => n⟩
def cmpLit (a b : Int) : Int:=if compareInt (max a (wrap64 (-a))) (max b (wrap64 (-b))) ≠ 0 then compareInt (max a (wrap64 (-a))) (max b (wrap64 (-b))) else compareInt b a
end Go.Proofs
