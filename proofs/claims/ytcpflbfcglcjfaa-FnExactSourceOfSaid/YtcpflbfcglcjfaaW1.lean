/- What functions of this program compute, over plain data. No condition. -/
import Derived.Test.YtcpflbfcglcjfaaG3
import Derived.Test.YtcpflbfcglcjfaaChecked
import Derived.Shelf.SlSortCmp.Whole1
import Derived.Shelf.SlicesE.DeleteFunc
import Derived.Shelf.Slices.CompactI
import Derived.Shelf.Spec.SlicesGrow
import Derived.Shelf.SlicesG.Cmp
import Derived.LoopN
import Derived.Deep.RegionWith
import Derived.Ground.SlsfProg
import Derived.Ground.SlgfProg
import Derived.Ground.SlgcProg
import Derived.Ground.Names2Prog
import Derived.Ground.Names8Prog
set_option linter.all false
namespace Abs.Y
open Go Go.Proofs Abs
open Nat renaming reduceEqDiff -> Qa, reduceLT -> Qb, reduceAdd -> Qc, reduceMul -> Qd, reduceSub -> Qe, reduceLeDiff -> Qf, reduceSubDiff -> Qg, reduceBEq -> Qh
open Bool renaming not_eq_true' -> Ba, not_eq_false' -> Bb, and_eq_true -> Bc, or_eq_true -> Bd, or_eq_false_iff -> Be
open Int renaming ofNat_lt -> Ia, ofNat_le -> Ib, not_lt -> Ic, not_le -> Ie
open Decidable renaming not_not -> Da
set_option maxRecDepth 100000

theorem l1Own_ok (xs : List Int) (hl : xs.length<=4294967296) : Ctr Try.prog 114 [.ints xs] false (.sl 0) [(0,.arr 3 1 (xs.map (.int .i64)))]:=by
 refine Ctr.of (n:=6) (rs:=[.tmp 2]) Try.func114 rfl rfl Try.ntmps114 rfl rfl (by kernel_rfl) Try.checked.mixed ?_
 simp (disch:=first | omega | decide +kernel) only [D.ints,go_sem,Qa,Qb,Qc,Qd,Qe,↓reduceIte,reduceCtorEq,Qf,Qg,Qh]
 (repeat' (first | ((first | (refine gsel_split (fun q' => ?_) (fun q' => ?_)<;>(have h':=q')<;>(try simp only [za1,za2,Ba,Bb,za3,ne_eq,za4,za5,za6,Ia,Ib,Ic,Ie,Da,Bc,Bd,Be,za7,za8] at h')) | (have q':=trivial; first | refine hE _ _ ret_ne ?_ | refine hE _ _ exit_ne ?_))<;>(try simp (disch:=first | omega | decide +kernel) only [q',go_sem,Qa,Qb,Qc,Qd,Qe,↓reduceIte,reduceCtorEq,Qf,Qg,Qh])<;>clear q') | refine hN _ ?_ ?_ Wk.kk | with_reducible refine And.intro ?_ ?_ | with_reducible omega | exact ok_ints | exact cells_ints | exact no_mem | with_reducible exact plain_ints | (refine le_maxLen ?_; omega) | (refine za9 ⟨?_,?_⟩) | (simp only [go_sem,Qc,Qb,zb1,zb2,forall_eq]; done)))
 exact ret_sl 3 rfl rfl plain_ints
theorem l2Without_ok (c : List Int) (v : Int) (hl : c.length<=4294967296) : Ctr Try.prog 153 [.ints c,.int .i64 v] false (.sl 0) [(0,.arr 3 1 ((c.filter fun l => varI l != v).map (.int .i64)))]:=by
 refine Ctr.of (n:=29) (rs:=[.tmp 4]) Try.func153 rfl rfl Try.ntmps153 rfl rfl (by kernel_rfl) Try.checked.mixed ?_
 simp (disch:=first | omega | decide +kernel) only [D.ints,go_sem,Qa,Qb,Qc,Qd,Qe,↓reduceIte,reduceCtorEq,Qf,Qg,Qh]
 (repeat' (first | ((first | (refine gsel_split (fun q' => ?_) (fun q' => ?_)<;>(have h':=q')<;>(try simp only [za1,za2,Ba,Bb,za3,ne_eq,za4,za5,za6,Ia,Ib,Ic,Ie,Da,Bc,Bd,Be,za7,za8] at h')) | (have q':=trivial; first | refine hE _ _ ret_ne ?_ | refine hE _ _ exit_ne ?_))<;>(try simp (disch:=first | omega | decide +kernel) only [q',go_sem,Qa,Qb,Qc,Qd,Qe,↓reduceIte,reduceCtorEq,Qf,Qg,Qh])<;>clear q') | refine hN _ ?_ ?_ Wk.kk | with_reducible refine And.intro ?_ ?_ | with_reducible omega | exact ok_ints | exact cells_ints | exact no_mem | with_reducible exact plain_ints | (refine le_maxLen ?_; omega) | (refine za9 ⟨?_,?_⟩) | (simp only [go_sem,Qc,Qb,zb1,zb2,forall_eq]; done)))
 refine Ok.loopN [27,26,25,24,23,22,21,20,19,18,17,16,15,14,13,12,11,10,9,8,7,6,5,3,2] (fun i _ => [(6,.d (.int .i64 (i : Nat))),(5,.sl 7)]) (fun _ (cur : List Int) => [(7,.arr 3 1 (cur.map (.int .i64)))]) c.length
  (fun i cur => cur.length<=i∧cur=(c.take i).filter fun l => varI l != v) [] (by simp) (Wk.kk) ?_
 rintro R i cur hN hE hi ⟨hI,hc⟩
 simp (disch:=first | omega | decide +kernel) only [go_sem,Qa,Qb,Qc,Qd,Qe,↓reduceIte,reduceCtorEq,Qf,Qg,Qh]
 (repeat' (first | ((first | (refine gsel_split (fun q' => ?_) (fun q' => ?_)<;>(have h':=q')<;>(try simp only [za1,za2,Ba,Bb,za3,ne_eq,za4,za5,za6,Ia,Ib,Ic,Ie,Da,Bc,Bd,Be,za7,za8] at h')) | (have q':=trivial; first | refine callX_new (l2Var_ok _) rfl (by decide) ?_ | refine callY_new (l2Var_ok _) rfl ?_ | refine hE _ _ ret_ne ?_ | refine hE _ _ exit_ne ?_))<;>(try simp (disch:=first | omega | decide +kernel) only [q',go_sem,Qa,Qb,Qc,Qd,Qe,↓reduceIte,reduceCtorEq,Qf,Qg,Qh])<;>clear q') | refine hN _ ?_ ?_ Wk.kk | with_reducible refine And.intro ?_ ?_ | with_reducible omega | exact ok_ints | exact cells_ints | exact no_mem | with_reducible exact plain_ints | (refine le_maxLen ?_; omega) | (refine za9 ⟨?_,?_⟩) | (simp only [go_sem,Qc,Qb,zb1,zb2,forall_eq]; done)))
 . rename_i h1
   refine hN (cur++[c.getD i 0]) _ h1 ⟨by simp; omega,?_⟩ (Wk.kk)
   rw [take_succ 0 c i h1,List.filter_append,← hc,List.filter_cons_of_pos (by simpa using h'),List.filter_nil]
 . rename_i h1
   refine hN cur _ h1 ⟨by omega,?_⟩ (Wk.kk)
   rw [take_succ 0 c i h1,List.filter_append,← hc,List.filter_cons_of_neg (by simpa using h'),List.filter_nil,List.append_nil]
 . rw [show cur=c.filter fun l => varI l != v by rw [hc,List.take_of_length_le (by omega)]]
   exact ret_sl 7 rfl rfl plain_ints
def putI (c : List Int) (l : Int) : List Int:=c.takeWhile (fun x => decide (varI x < varI l))++l :: c.dropWhile (fun x => decide (varI x < varI l))
theorem takeWhile_at {p : Int->Bool} {c : List Int} {k : Nat} (hk : k<=c.length) (h : ∀ j,j < k->p (c.getD j 0)=true) (h' : k=c.length∨p (c.getD k 0)=false) : c.takeWhile p=c.take k∧c.dropWhile p=c.drop k:=by
 induction c generalizing k with
 | nil => obtain rfl : k = 0 := by simpa using hk
          simp
 | cons x r ih =>
   cases k with
   | zero =>
     have hx : p x = false := by rcases h' with h' | h'
                                 . simp at h'
                                 . simpa using h'
     simp [hx]
   | succ k =>
     have hx : p x=true:=by simpa using h 0 (by omega)
     obtain ⟨h1,h2⟩:=ih (k:=k) (by simpa using hk) (fun j hj => by simpa using h (j + 1) (by omega)) (by simpa using h')
     simp [hx,h1,h2]
theorem l2Put_ok (c : List Int) (l : Int) (hl : c.length<=4294967296) : Ctr Try.prog 152 [.ints c,.int .i64 l] false (.sl 0) [(0,.arr 3 1 ((putI c l).map (.int .i64)))]:=by
 refine Ctr.of (n:=33) (rs:=[.tmp 4]) Try.func152 rfl rfl Try.ntmps152 rfl rfl (by kernel_rfl) Try.checked.mixed ?_
 simp (disch:=first | omega | decide +kernel) only [D.ints,go_sem,Qa,Qb,Qc,Qd,Qe,↓reduceIte,reduceCtorEq,Qf,Qg,Qh]
 (repeat' (first | ((first | (refine gsel_split (fun q' => ?_) (fun q' => ?_)<;>(have h':=q')<;>(try simp only [za1,za2,Ba,Bb,za3,ne_eq,za4,za5,za6,Ia,Ib,Ic,Ie,Da,Bc,Bd,Be,za7,za8] at h')) | (have q':=trivial; first | refine hE _ _ ret_ne ?_ | refine hE _ _ exit_ne ?_))<;>(try simp (disch:=first | omega | decide +kernel) only [q',go_sem,Qa,Qb,Qc,Qd,Qe,↓reduceIte,reduceCtorEq,Qf,Qg,Qh])<;>clear q') | refine hN _ ?_ ?_ Wk.kk | with_reducible refine And.intro ?_ ?_ | with_reducible omega | exact ok_ints | exact cells_ints | exact no_mem | with_reducible exact plain_ints | (refine le_maxLen ?_; omega) | (refine za9 ⟨?_,?_⟩) | (simp only [go_sem,Qc,Qb,zb1,zb2,forall_eq]; done)))
 refine Ok.loopC [21,20,19,18,17,16,15,14,13,12,11,10,9,8,7,6,5,3,2] (fun i => [(5,.d (.int .i64 (i : Nat)))]) c.length (fun i => ∀ j,j < i->varI (c.getD j 0) < varI l) (by simp) (Wk.kk) ?_
 intro R i hN hE hi hI
 simp (disch:=first | omega | decide +kernel) only [go_sem,Qa,Qb,Qc,Qd,Qe,↓reduceIte,reduceCtorEq,Qf,Qg,Qh]
 (repeat' (first | ((first | (refine gsel_split (fun q' => ?_) (fun q' => ?_)<;>(have h':=q')<;>(try simp only [za1,za2,Ba,Bb,za3,ne_eq,za4,za5,za6,Ia,Ib,Ic,Ie,Da,Bc,Bd,Be,za7,za8] at h')) | (have q':=trivial; first | refine callX_new (l2Var_ok _) rfl (by decide) ?_ | refine callY_new (l2Var_ok _) rfl ?_ | refine callX_new (l1Own_ok (c.take i) (by simp; omega)) rfl (by decide) ?_ | refine callY_new (l1Own_ok (c.take i) (by simp; omega)) rfl ?_ | refine hE _ _ ret_ne ?_ | refine hE _ _ exit_ne ?_))<;>(try simp (disch:=first | omega | decide +kernel) only [q',go_sem,Qa,Qb,Qc,Qd,Qe,↓reduceIte,reduceCtorEq,Qf,Qg,Qh])<;>clear q') | refine hN _ ?_ ?_ Wk.kk | with_reducible refine And.intro ?_ ?_ | with_reducible omega | exact ok_ints | exact cells_ints | exact no_mem | with_reducible exact plain_ints | (refine le_maxLen ?_; omega) | (refine za9 ⟨?_,?_⟩) | (simp only [go_sem,Qc,Qb,zb1,zb2,forall_eq]; done)))
 . exact all_succ hI h'
 . have hw:=takeWhile_at (p:=fun x => decide (varI x < varI l)) (Nat.le_of_lt ‹i < c.length›) (fun j hj => by simpa using hI j hj) (.inr (by simpa using h'))
   refine ret_sl 2600000 rfl ?_ plain_ints
   simp only [lk,if_true]
   rw [putI,hw.1,hw.2,List.take_of_length_le (l:=c.drop _) (by rw [List.length_drop]; exact Nat.le_refl _)]
   simp
 . obtain rfl : i=c.length:=by omega
   have hw:=takeWhile_at (p:=fun x => decide (varI x < varI l)) hi (fun j hj => by simpa using hI j hj) (.inl rfl)
   refine ret_sl 2600000 rfl ?_ plain_ints
   simp only [lk,if_true]
   rw [putI,hw.1,hw.2,List.take_of_length_le (l:=c.drop _) (by rw [List.length_drop]; exact Nat.le_refl _)]
   simp
theorem length_putI (c : List Int) (l : Int) : (putI c l).length=c.length + 1:=by
 have:=congrArg List.length (List.takeWhile_append_dropWhile (p:=fun x => decide (varI x < varI l)) (l:=c))
 simp only [List.length_append] at this
 simp only [putI,List.length_append,List.length_cons]; omega
def joinI : List Int->List Int->Option (List Int)
 | a,[] => some a
 | a,x :: r => if a.any (· == IntKind.i64.wrap (0 - x)) then none else joinI (if a.any (· == x) then a else putI a x) r
def optL (o : Option (List Int)) : List Int:=match o with | some c => c | none => []
theorem l2Join_ok (a b : List Int) (ha : a.length<=1048576) (hb : b.length<=1048576) : Ctr Try.prog 158 [.ints a,.ints b] false (.tup [.sl 0,.d (.bool (joinI a b).isSome)]) [(0,.arr 3 1 ((optL (joinI a b)).map (.int .i64)))]:=by
 refine Ctr.of (n:=38) (rs:=[.tmp 4,.tmp 5]) Try.func158 rfl rfl Try.ntmps158 rfl rfl (by kernel_rfl) Try.checked.mixed ?_
 simp (disch:=first | omega | decide +kernel) only [D.ints,go_sem,Qa,Qb,Qc,Qd,Qe,↓reduceIte,reduceCtorEq,Qf,Qg,Qh]
 (repeat' (first | ((first | (refine gsel_split (fun q' => ?_) (fun q' => ?_)<;>(have h':=q')<;>(try simp only [za1,za2,Ba,Bb,za3,ne_eq,za4,za5,za6,Ia,Ib,Ic,Ie,Da,Bc,Bd,Be,za7,za8] at h')) | (have q':=trivial; first | refine callX_new (l1Own_ok a (by omega)) rfl (by decide) ?_ | refine callY_new (l1Own_ok a (by omega)) rfl ?_ | refine hE _ _ ret_ne ?_ | refine hE _ _ exit_ne ?_))<;>(try simp (disch:=first | omega | decide +kernel) only [q',go_sem,Qa,Qb,Qc,Qd,Qe,↓reduceIte,reduceCtorEq,Qf,Qg,Qh])<;>clear q') | refine hN _ ?_ ?_ Wk.kk | with_reducible refine And.intro ?_ ?_ | with_reducible omega | exact ok_ints | exact cells_ints | exact no_mem | with_reducible exact plain_ints | (refine le_maxLen ?_; omega) | (refine za9 ⟨?_,?_⟩) | (simp only [go_sem,Qc,Qb,zb1,zb2,forall_eq]; done)))
 refine Ok.loopN [36,35,34,33,32,31,30,29,28,27,26,25,24,23,22,21,20,19,18,17,16,15,14,13,12,11,10,9,8,7,6,5,4,3,2,0] (fun i _ => [(7,.d (.int .i64 (i : Nat))),(6,.sl 1000000)]) (fun _ (cur : List Int) => [(1000000,.arr 3 1 (cur.map (.int .i64)))]) b.length
  (fun i cur => cur.length<=a.length + i∧joinI a b=joinI cur (b.drop i)) a (by simp) (Wk.kk) ?_
 rintro R i cur hN hE hi ⟨hI,hc⟩
 simp (disch:=first | omega | decide +kernel) only [go_sem,Qa,Qb,Qc,Qd,Qe,↓reduceIte,reduceCtorEq,Qf,Qg,Qh]
 (repeat' (first | ((first | (refine gsel_split (fun q' => ?_) (fun q' => ?_)<;>(have h':=q')<;>(try simp only [za1,za2,Ba,Bb,za3,ne_eq,za4,za5,za6,Ia,Ib,Ic,Ie,Da,Bc,Bd,Be,za7,za8] at h')) | (have q':=trivial; first | refine callX_new (l2Has_ok cur _ (by omega)) rfl (by decide) ?_ | refine callY_new (l2Has_ok cur _ (by omega)) rfl ?_ | refine callX_new (l2Put_ok cur _ (by omega)) rfl (by decide) ?_ | refine callY_new (l2Put_ok cur _ (by omega)) rfl ?_ | refine hE _ _ ret_ne ?_ | refine hE _ _ exit_ne ?_))<;>(try simp (disch:=first | omega | decide +kernel) only [q',go_sem,Qa,Qb,Qc,Qd,Qe,↓reduceIte,reduceCtorEq,Qf,Qg,Qh])<;>clear q') | refine hN _ ?_ ?_ Wk.kk | with_reducible refine And.intro ?_ ?_ | with_reducible omega | exact ok_ints | exact cells_ints | exact no_mem | with_reducible exact plain_ints | (refine le_maxLen ?_; omega) | (refine za9 ⟨?_,?_⟩) | (simp only [go_sem,Qc,Qb,zb1,zb2,forall_eq]; done)))
 . rename_i h1
   rw [hc,drop_cons 0 b i h1,joinI,if_pos h']
   exact ret_sld 23 rfl rfl rfl no_mem rfl
 . rename_i h1 h2
   refine hN (putI cur (b.getD i 0)) _ h1 ⟨by rw [length_putI]; omega,?_⟩ ((Wk.swp 1000000 3700000).trans (by refine Wk.auto ?_ ?_<;>simp [extraK,lk,killL,St.kill,wipeO,wipeS,AV.has,AV.hasL,AO.wipe,List.map_set,updSt,insL,dropS,ins,swpS,swpO,swp,AV.ren,AV.renL,AO.ren]))
   rw [hc,drop_cons 0 b i h1,joinI,if_neg (by rw [h2]; simp),if_neg (by rw [h']; simp)]
 . rename_i h1 h2
   refine hN cur _ h1 ⟨by omega,?_⟩ (Wk.kk)
   rw [hc,drop_cons 0 b i h1,joinI,if_neg (by rw [h2]; simp),if_pos h']
 . rw [hc,List.drop_eq_nil_of_le (by omega),joinI]
   exact ret_sld 1000000 rfl rfl rfl plain_ints rfl
def resolveI (a b : List Int) (v : Int) : Option (List Int) :=
 if (a.any (· == v) && b.any (· == IntKind.i64.wrap (0 - v)))=true then joinI (a.filter fun l => varI l != v) (b.filter fun l => varI l != v) else none
theorem l2Resolve_ok (a b : List Int) (v : Int) (ha : a.length<=1048576) (hb : b.length<=1048576) : Ctr Try.prog 94 [.ints a,.ints b,.int .i64 v] false (.tup [.sl 0,.d (.bool (resolveI a b v).isSome)]) [(0,.arr 3 1 ((optL (resolveI a b v)).map (.int .i64)))]:=by
 refine Ctr.of (n:=29) (rs:=[.tmp 6,.tmp 7]) Try.func94 rfl rfl Try.ntmps94 rfl rfl (by kernel_rfl) Try.checked.mixed ?_
 simp (disch:=first | omega | decide +kernel) only [D.ints,go_sem,Qa,Qb,Qc,Qd,Qe,↓reduceIte,reduceCtorEq,Qf,Qg,Qh]
 (repeat' (first | ((first | (refine gsel_split (fun q' => ?_) (fun q' => ?_)<;>(have h':=q')<;>(try simp only [za1,za2,Ba,Bb,za3,ne_eq,za4,za5,za6,Ia,Ib,Ic,Ie,Da,Bc,Bd,Be,za7,za8] at h')) | (have q':=trivial; first | refine callX_new (l2Has_ok a v (by omega)) rfl (by decide) ?_ | refine callY_new (l2Has_ok a v (by omega)) rfl ?_ | refine callX_new (l2Has_ok b _ (by omega)) rfl (by decide) ?_ | refine callY_new (l2Has_ok b _ (by omega)) rfl ?_ | refine callX_new (l2Without_ok a v (by omega)) rfl (by decide) ?_ | refine callY_new (l2Without_ok a v (by omega)) rfl ?_ | refine callX_new (l2Without_ok b v (by omega)) rfl (by decide) ?_ | refine callY_new (l2Without_ok b v (by omega)) rfl ?_ | refine callX_new (l2Join_ok _ _ (Nat.le_trans (List.length_filter_le _ _) ha) (Nat.le_trans (List.length_filter_le _ _) hb)) rfl (by decide) ?_ | refine callY_new (l2Join_ok _ _ (Nat.le_trans (List.length_filter_le _ _) ha) (Nat.le_trans (List.length_filter_le _ _) hb)) rfl ?_ | refine hE _ _ ret_ne ?_ | refine hE _ _ exit_ne ?_))<;>(try simp (disch:=first | omega | decide +kernel) only [q',go_sem,Qa,Qb,Qc,Qd,Qe,↓reduceIte,reduceCtorEq,Qf,Qg,Qh])<;>clear q') | refine hN _ ?_ ?_ Wk.kk | with_reducible refine And.intro ?_ ?_ | with_reducible omega | exact ok_ints | exact cells_ints | exact no_mem | with_reducible exact plain_ints | (refine le_maxLen ?_; omega) | (refine za9 ⟨?_,?_⟩) | (simp only [go_sem,Qc,Qb,zb1,zb2,forall_eq]; done)))
 . rw [show resolveI a b v=none by rw [resolveI,h']; rfl]
   exact ret_sld 19 rfl rfl rfl no_mem rfl
 . rw [show resolveI a b v=none by rw [resolveI,h',Bool.and_false]; rfl]
   exact ret_sld 19 rfl rfl rfl no_mem rfl
 . rename_i h1
   rw [show resolveI a b v=joinI (a.filter fun l => varI l != v) (b.filter fun l => varI l != v) by rw [resolveI,h1,h']; rfl]
   exact ret_sld 2700000 rfl rfl rfl plain_ints rfl
end Abs.Y

namespace Go.Proofs
open Go.Shelf Go.RowKit Go.Lib Go.Sort
def Try.layS_ren : Go.Shelf.Ren:=⟨fun | 6 => 225 | 15 => 189 | 14 => 264 | 28 => 248 | 29 => 249 | 20 => 278 | 21 => 279 | 22 => 280 | 23 => 281 | 24 => 282 | 25 => 283 | 26 => 284 | 27 => 285 | 46 => 291 | 47 => 270 | 48 => 271 | 49 => 292 | 50 => 293 | 57 => 296 | n => n,fun | 22 => 52 | 24 => 3 | 25 => 105 | 3 => 3 | 39 => 183 | 0 => 0 | 53 => 222 | 55 => 133 | 4 => 4 | 46 => 216 | 45 => 215 | 50 => 69 | 5 => 5 | 9 => 9 | 66 => 235 | 70 => 239 | 76 => 248 | 77 => 136 | n => n,fun | n => n⟩
theorem Try.layS : Go.Proofs.SlLaysF.n6 Try.prog Try.layS_ren:={
 mixed:=by kernel_rfl
 f6:=⟨Try.f225.name,by decide,Try.func225.trans (congrArg some (by kernel_rfl))⟩
 f14:=⟨Try.f264.name,by decide,Try.func264.trans (congrArg some (by kernel_rfl))⟩
 f15:=Try.func189.trans (congrArg some (by kernel_rfl))
 f20:=⟨Try.f278.name,by decide,Try.func278.trans (congrArg some (by kernel_rfl))⟩
 f21:=⟨Try.f279.name,by decide,Try.func279.trans (congrArg some (by kernel_rfl))⟩
 f22:=⟨Try.f280.name,by decide,Try.func280.trans (congrArg some (by kernel_rfl))⟩
 f23:=⟨Try.f281.name,by decide,Try.func281.trans (congrArg some (by kernel_rfl))⟩
 f24:=⟨Try.f282.name,by decide,Try.func282.trans (congrArg some (by kernel_rfl))⟩
 f25:=⟨Try.f283.name,by decide,Try.func283.trans (congrArg some (by kernel_rfl))⟩
 f26:=⟨Try.f284.name,by decide,Try.func284.trans (congrArg some (by kernel_rfl))⟩
 f27:=⟨Try.f285.name,by decide,Try.func285.trans (congrArg some (by kernel_rfl))⟩
 f28:=Try.func248.trans (congrArg some (by kernel_rfl))
 f29:=Try.func249.trans (congrArg some (by kernel_rfl))
 f46:=⟨Try.f291.name,by decide,Try.func291.trans (congrArg some (by kernel_rfl))⟩
 f47:=Try.func270.trans (congrArg some (by kernel_rfl))
 f48:=Try.func271.trans (congrArg some (by kernel_rfl))
 f49:=⟨Try.f292.name,by decide,Try.func292.trans (congrArg some (by kernel_rfl))⟩
 f50:=⟨Try.f293.name,by decide,Try.func293.trans (congrArg some (by kernel_rfl))⟩
 f57:=⟨Try.f296.name,by decide,Try.func296.trans (congrArg some (by kernel_rfl))⟩
 t0:=Try.underlying0
 a0:=Try.isAgg0
 z0:=Try.sizeOf0
 v0:=Try.zeroValue0
 t3:=Try.underlying3
 a3:=Try.isAgg3
 z3:=Try.sizeOf3
 v3:=Try.zeroValue3
 t4:=Try.underlying4
 a4:=Try.isAgg4
 z4:=Try.sizeOf4
 v4:=Try.zeroValue4
 t5:=Try.underlying5
 a5:=Try.isAgg5
 z5:=Try.sizeOf5
 v5:=Try.zeroValue5
 t9:=Try.underlying9
 a9:=Try.isAgg9
 z9:=Try.sizeOf9
 v9:=Try.zeroValue9
 t22:=Try.underlying52
 a22:=Try.isAgg52
 z22:=Try.sizeOf52
 v22:=Try.zeroValue52
 a24:=Try.isAgg3
 z24:=Try.sizeOf3
 t25:=Try.underlying105
 a25:=Try.isAgg105
 z25:=Try.sizeOf105
 v25:=Try.zeroValue105
 t39:=Try.underlying183
 a39:=Try.isAgg183
 z39:=Try.sizeOf183
 v39:=Try.zeroValue183
 t45:=Try.underlying215
 a45:=Try.isAgg215
 z45:=Try.sizeOf215
 v45:=Try.zeroValue215
 t46:=Try.underlying216
 a46:=Try.isAgg216
 z46:=Try.sizeOf216
 v46:=Try.zeroValue216
 t50:=Try.underlying69
 a50:=Try.isAgg69
 z50:=Try.sizeOf69
 v50:=Try.zeroValue69
 t53:=Try.underlying222
 a53:=Try.isAgg222
 z53:=Try.sizeOf222
 v53:=Try.zeroValue222
 t55:=Try.underlying133
 a55:=Try.isAgg133
 z55:=Try.sizeOf133
 v55:=Try.zeroValue133
 t66:=Try.underlying235
 a66:=Try.isAgg235
 z66:=Try.sizeOf235
 v66:=Try.zeroValue235
 t70:=Try.underlying239
 a70:=Try.isAgg239
 z70:=Try.sizeOf239
 v70:=Try.zeroValue239
 t76:=Try.underlying248
 a76:=Try.isAgg248
 z76:=Try.sizeOf248
 v76:=Try.zeroValue248
 t77:=Try.underlying136
 a77:=Try.isAgg136
 z77:=Try.sizeOf136
 v77:=Try.zeroValue136 }
def Try.layD_ren : Go.Shelf.Ren:=⟨fun | 10 => 238 | 6 => 224 | n => n,fun | 22 => 52 | 23 => 3 | 25 => 29 | 3 => 3 | 4 => 4 | 0 => 0 | n => n,fun | n => n⟩
def Try.layG_ren : Go.Shelf.Ren:=⟨fun | 4 => 237 | n => n,fun | 22 => 52 | 25 => 3 | 3 => 3 | 4 => 4 | 9 => 9 | 20 => 20 | 0 => 0 | n => n,fun | n => n⟩
def Try.layC_ren : Go.Shelf.Ren:=⟨fun | 20 => 226 | n => n,fun | 22 => 52 | 3 => 3 | 4 => 4 | 0 => 0 | n => n,fun | n => n⟩
def Try.layP_ren : Go.Shelf.Ren:=⟨fun | 5 => 191 | 7 => 250 | n => n,fun | 22 => 3 | 3 => 3 | 4 => 4 | n => n,fun | n => n⟩
def cmpLit (a b : Int) : Int:=if compareInt (max a (wrap64 (-a))) (max b (wrap64 (-b))) ≠ 0 then compareInt (max a (wrap64 (-a))) (max b (wrap64 (-b))) else compareInt b a
end Go.Proofs
