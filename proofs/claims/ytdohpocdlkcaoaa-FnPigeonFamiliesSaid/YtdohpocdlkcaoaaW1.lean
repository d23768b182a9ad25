/- What functions of this program compute, over plain data. No condition. -/
import Derived.Test.YtdohpocdlkcaoaaG3
import Derived.Test.YtdohpocdlkcaoaaChecked
import Derived.Shelf.SlSortCmp.Whole1
import Derived.Shelf.SlicesE.DeleteFunc
import Derived.Shelf.Slices.CompactI
import Derived.Shelf.Spec.SlicesGrow
import Derived.Shelf.SlicesG.Cmp
import Derived.LoopN
import Derived.Deep.RegionWith
import Derived.Ground.SlsfProg
import Derived.Ground.SlgfProg
import Derived.Ground.SlgcProg
import Derived.Ground.Names2Prog
import Derived.Ground.Names8Prog
set_option linter.all false
namespace Abs.Y
open Go Go.Proofs Abs
open Nat renaming reduceEqDiff -> Qa, reduceLT -> Qb, reduceAdd -> Qc, reduceMul -> Qd, reduceSub -> Qe, reduceLeDiff -> Qf, reduceSubDiff -> Qg, reduceBEq -> Qh
open Bool renaming not_eq_true' -> Ba, not_eq_false' -> Bb, and_eq_true -> Bc, or_eq_true -> Bd, or_eq_false_iff -> Be
open Int renaming ofNat_lt -> Ia, ofNat_le -> Ib, not_lt -> Ic, not_le -> Ie
open Decidable renaming not_not -> Da
set_option maxRecDepth 100000

theorem clone_ok (xs : List Int) (hl : xs.length<=4294967296) : Ctr Try.prog 192 [.ints xs] false (.sl 0) [(0,.arr 3 1 (xs.map (.int .i64)))]:=by
 refine Ctr.of (n:=8) (rs:=[.tmp 2]) Try.func192 rfl rfl Try.ntmps192 rfl rfl (by kernel_rfl) Try.checked.mixed ?_
 simp (disch:=first | omega | decide +kernel) only [D.ints,go_sem,Qa,Qb,Qc,Qd,Qe,↓reduceIte,reduceCtorEq,Qf,Qg,Qh]
 intro b hb
 cases b with
 | true =>
   obtain rfl : xs=[]:=by cases xs with | nil => rfl | cons x r => simp at hb
   simp (disch:=first | omega | decide +kernel) only [go_sem,Qa,Qb,Qc,Qd,Qe,↓reduceIte,reduceCtorEq,Qf,Qg,Qh]
   (repeat' (first | ((first | (refine gsel_split (fun q' => ?_) (fun q' => ?_)<;>(have h':=q')<;>(try simp only [za1,za2,Ba,Bb,za3,ne_eq,za4,za5,za6,Ia,Ib,Ic,Ie,Da,Bc,Bd,Be,za7,za8] at h')) | (have q':=trivial; first | refine hE _ _ ret_ne ?_ | refine hE _ _ exit_ne ?_))<;>(try simp (disch:=first | omega | decide +kernel) only [q',go_sem,Qa,Qb,Qc,Qd,Qe,↓reduceIte,reduceCtorEq,Qf,Qg,Qh])<;>clear q') | refine hN _ ?_ ?_ Wk.kk | with_reducible refine And.intro ?_ ?_ | with_reducible omega | exact ok_ints | exact cells_ints | exact no_mem | with_reducible exact plain_ints | (refine le_maxLen ?_; omega) | (refine za9 ⟨?_,?_⟩) | (simp only [go_sem,Qc,Qb,zb1,zb2,forall_eq]; done)))
   exact ret_sl 2 rfl rfl no_mem
 | false =>
   simp (disch:=first | omega | decide +kernel) only [go_sem,Qa,Qb,Qc,Qd,Qe,↓reduceIte,reduceCtorEq,Qf,Qg,Qh]
   (repeat' (first | ((first | (refine gsel_split (fun q' => ?_) (fun q' => ?_)<;>(have h':=q')<;>(try simp only [za1,za2,Ba,Bb,za3,ne_eq,za4,za5,za6,Ia,Ib,Ic,Ie,Da,Bc,Bd,Be,za7,za8] at h')) | (have q':=trivial; first | refine hE _ _ ret_ne ?_ | refine hE _ _ exit_ne ?_))<;>(try simp (disch:=first | omega | decide +kernel) only [q',go_sem,Qa,Qb,Qc,Qd,Qe,↓reduceIte,reduceCtorEq,Qf,Qg,Qh])<;>clear q') | refine hN _ ?_ ?_ Wk.kk | with_reducible refine And.intro ?_ ?_ | with_reducible omega | exact ok_ints | exact cells_ints | exact no_mem | with_reducible exact plain_ints | (refine le_maxLen ?_; omega) | (refine za9 ⟨?_,?_⟩) | (simp only [go_sem,Qc,Qb,zb1,zb2,forall_eq]; done)))
   exact ret_sl 5 rfl rfl plain_ints
def putI (c : List Int) (l : Int) : List Int:=c.takeWhile (fun x => decide (varI x < varI l))++l :: c.dropWhile (fun x => decide (varI x < varI l))
def joinI : List Int->List Int->Option (List Int)
 | a,[] => some a
 | a,x :: r => if a.any (· == IntKind.i64.wrap (0 - x)) then none else joinI (if a.any (· == x) then a else putI a x) r
def optL (o : Option (List Int)) : List Int:=match o with | some c => c | none => []
def resolveI (a b : List Int) (v : Int) : Option (List Int) :=
 if (a.any (· == v) && b.any (· == IntKind.i64.wrap (0 - v)))=true then joinI (a.filter fun l => varI l != v) (b.filter fun l => varI l != v) else none
end Abs.Y

namespace Go.Proofs
open Go.Shelf Go.RowKit Go.Lib Go.Sort
def Try.layS_ren : Go.Shelf.Ren:=⟨fun | 6 => 193 | 15 => 229 | 14 => 228 | 28 => 246 | 29 => 247 | 20 => 238 | 21 => 239 | 22 => 240 | 23 => 241 | 24 => 242 | 25 => 243 | 26 => 244 | 27 => 245 | 46 => 262 | 47 => 263 | 48 => 264 | 49 => 265 | 50 => 266 | 57 => 282 | n => n,fun | 22 => 38 | 24 => 3 | 25 => 122 | 3 => 3 | 39 => 158 | 0 => 0 | 53 => 199 | 55 => 102 | 4 => 4 | 46 => 193 | 45 => 192 | 50 => 51 | 5 => 5 | 9 => 9 | 66 => 213 | 70 => 217 | 76 => 229 | 77 => 230 | n => n,fun | n => n⟩
theorem Try.layS : Go.Proofs.SlLaysF.n6 Try.prog Try.layS_ren:={
 mixed:=by kernel_rfl
 f6:=⟨Try.f193.name,by decide,Try.func193.trans (congrArg some (by kernel_rfl))⟩
 f14:=⟨Try.f228.name,by decide,Try.func228.trans (congrArg some (by kernel_rfl))⟩
 f15:=Try.func229.trans (congrArg some (by kernel_rfl))
 f20:=⟨Try.f238.name,by decide,Try.func238.trans (congrArg some (by kernel_rfl))⟩
 f21:=⟨Try.f239.name,by decide,Try.func239.trans (congrArg some (by kernel_rfl))⟩
 f22:=⟨Try.f240.name,by decide,Try.func240.trans (congrArg some (by kernel_rfl))⟩
 f23:=⟨Try.f241.name,by decide,Try.func241.trans (congrArg some (by kernel_rfl))⟩
 f24:=⟨Try.f242.name,by decide,Try.func242.trans (congrArg some (by kernel_rfl))⟩
 f25:=⟨Try.f243.name,by decide,Try.func243.trans (congrArg some (by kernel_rfl))⟩
 f26:=⟨Try.f244.name,by decide,Try.func244.trans (congrArg some (by kernel_rfl))⟩
 f27:=⟨Try.f245.name,by decide,Try.func245.trans (congrArg some (by kernel_rfl))⟩
 f28:=Try.func246.trans (congrArg some (by kernel_rfl))
 f29:=Try.func247.trans (congrArg some (by kernel_rfl))
 f46:=⟨Try.f262.name,by decide,Try.func262.trans (congrArg some (by kernel_rfl))⟩
 f47:=Try.func263.trans (congrArg some (by kernel_rfl))
 f48:=Try.func264.trans (congrArg some (by kernel_rfl))
 f49:=⟨Try.f265.name,by decide,Try.func265.trans (congrArg some (by kernel_rfl))⟩
 f50:=⟨Try.f266.name,by decide,Try.func266.trans (congrArg some (by kernel_rfl))⟩
 f57:=⟨Try.f282.name,by decide,Try.func282.trans (congrArg some (by kernel_rfl))⟩
 t0:=Try.underlying0
 a0:=Try.isAgg0
 z0:=Try.sizeOf0
 v0:=Try.zeroValue0
 t3:=Try.underlying3
 a3:=Try.isAgg3
 z3:=Try.sizeOf3
 v3:=Try.zeroValue3
 t4:=Try.underlying4
 a4:=Try.isAgg4
 z4:=Try.sizeOf4
 v4:=Try.zeroValue4
 t5:=Try.underlying5
 a5:=Try.isAgg5
 z5:=Try.sizeOf5
 v5:=Try.zeroValue5
 t9:=Try.underlying9
 a9:=Try.isAgg9
 z9:=Try.sizeOf9
 v9:=Try.zeroValue9
 t22:=Try.underlying38
 a22:=Try.isAgg38
 z22:=Try.sizeOf38
 v22:=Try.zeroValue38
 a24:=Try.isAgg3
 z24:=Try.sizeOf3
 t25:=Try.underlying122
 a25:=Try.isAgg122
 z25:=Try.sizeOf122
 v25:=Try.zeroValue122
 t39:=Try.underlying158
 a39:=Try.isAgg158
 z39:=Try.sizeOf158
 v39:=Try.zeroValue158
 t45:=Try.underlying192
 a45:=Try.isAgg192
 z45:=Try.sizeOf192
 v45:=Try.zeroValue192
 t46:=Try.underlying193
 a46:=Try.isAgg193
 z46:=Try.sizeOf193
 v46:=Try.zeroValue193
 t50:=Try.underlying51
 a50:=Try.isAgg51
 z50:=Try.sizeOf51
 v50:=Try.zeroValue51
 t53:=Try.underlying199
 a53:=Try.isAgg199
 z53:=Try.sizeOf199
 v53:=Try.zeroValue199
 t55:=Try.underlying102
 a55:=Try.isAgg102
 z55:=Try.sizeOf102
 v55:=Try.zeroValue102
 t66:=Try.underlying213
 a66:=Try.isAgg213
 z66:=Try.sizeOf213
 v66:=Try.zeroValue213
 t70:=Try.underlying217
 a70:=Try.isAgg217
 z70:=Try.sizeOf217
 v70:=Try.zeroValue217
 t76:=Try.underlying229
 a76:=Try.isAgg229
 z76:=Try.sizeOf229
 v76:=Try.zeroValue229
 t77:=Try.underlying230
 a77:=Try.isAgg230
 z77:=Try.sizeOf230
 v77:=Try.zeroValue230 }
def Try.layD_ren : Go.Shelf.Ren:=⟨fun | 10 => 224 | 6 => 191 | n => n,fun | 22 => 38 | 23 => 3 | 25 => 86 | 3 => 3 | 4 => 4 | 0 => 0 | n => n,fun | n => n⟩
def Try.layG_ren : Go.Shelf.Ren:=⟨fun | 4 => 223 | n => n,fun | 22 => 38 | 25 => 3 | 3 => 3 | 4 => 4 | 9 => 9 | 20 => 20 | 0 => 0 | n => n,fun | n => n⟩
def Try.layC_ren : Go.Shelf.Ren:=⟨fun | 20 => 194 | n => n,fun | 22 => 38 | 3 => 3 | 4 => 4 | 0 => 0 | n => n,fun | n => n⟩
theorem Try.layC : Go.Proofs.Lays2.n20 Try.prog Try.layC_ren:={
 mixed:=by kernel_rfl
 f20:=Try.func194.trans (congrArg some (by kernel_rfl))
 t0:=Try.underlying0
 a0:=Try.isAgg0
 z0:=Try.sizeOf0
 v0:=Try.zeroValue0
 t3:=Try.underlying3
 a3:=Try.isAgg3
 z3:=Try.sizeOf3
 v3:=Try.zeroValue3
 t4:=Try.underlying4
 a4:=Try.isAgg4
 z4:=Try.sizeOf4
 v4:=Try.zeroValue4
 t22:=Try.underlying38
 a22:=Try.isAgg38
 z22:=Try.sizeOf38
 v22:=Try.zeroValue38
 i3:=by kernel_rfl }
def Try.layP_ren : Go.Shelf.Ren:=⟨fun | 5 => 186 | 7 => 227 | n => n,fun | 22 => 3 | 3 => 3 | 4 => 4 | n => n,fun | n => n⟩
theorem Try.layP : Go.Proofs.SlLaysC2.n5 Try.prog Try.layP_ren:={
 mixed:=by kernel_rfl
 f5:=⟨Try.f186.name,by decide,Try.func186.trans (congrArg some (by kernel_rfl))⟩
 f7:=⟨Try.f227.name,by decide,Try.func227.trans (congrArg some (by kernel_rfl))⟩
 t3:=Try.underlying3
 a3:=Try.isAgg3
 z3:=Try.sizeOf3
 v3:=Try.zeroValue3
 t4:=Try.underlying4
 a4:=Try.isAgg4
 z4:=Try.sizeOf4
 v4:=Try.zeroValue4
 t22:=Try.underlying3
 a22:=Try.isAgg3
 z22:=Try.sizeOf3
 v22:=Try.zeroValue3 }

theorem Try.abs_w (n : Int) (W : World) : Calls Try.prog 97 #[.int .i64 n] W fun e w' => e=.returned (.int .i64 (max n (wrap64 (-n))))∧w'=W:=by
 generalize hr : max n (wrap64 (-n))=r
 go_enter Try.func97,Try.ntmps97
 go_wp2
 go_ret
 exact ⟨rfl,rfl⟩
def cmpLit (a b : Int) : Int:=if compareInt (max a (wrap64 (-a))) (max b (wrap64 (-b))) ≠ 0 then compareInt (max a (wrap64 (-a))) (max b (wrap64 (-b))) else compareInt b a
theorem Try.or_w (x y : Int) (W : World) (b : Nat) (hx : W.cell? ⟨b,0,none⟩=some (.int .i64 x)) (hy : W.cell? ⟨b,1,none⟩=some (.int .i64 y)) :
 Calls Try.prog 185 #[.slice (some ⟨b,0,none⟩) 2 2] W fun e w' => e=.returned (.int .i64 (if x ≠ 0 then x else y))∧∃ q,w'=W.drewN q:=by
 generalize hr : (if x ≠ 0 then x else y)=r
 go_enter Try.func185,Try.ntmps185
 go_wp2
 refine wp_loop_rounds 3 ?_
 unfold Code.rounds
 go_wp2
 . rename_i h2
   rw [if_pos (by simpa using h2)] at hr
   go_ret
   exact ⟨by rw [hr]; rfl,0,rfl⟩
 . rename_i h2
   have hx0 : x=0:=by simpa using h2
   rw [if_neg (by simp [hx0])] at hr
   unfold Code.rounds
   go_wp2
   . go_ret
     exact ⟨rfl,0,rfl⟩
   . rename_i h3
     have hr0 : r=0:=by simpa using h3
     subst hr0
     unfold Code.rounds
     go_wp2
     go_ret
     exact ⟨rfl,0,rfl⟩
theorem cell_alloc2 (w : World) (u v : Value) (t : TypeId) : (w.alloc (.cells #[u,v] t)).cell? ⟨w.heap.size,0,none⟩=some u∧(w.alloc (.cells #[u,v] t)).cell? ⟨w.heap.size,1,none⟩=some v:=by
 have h : (w.alloc (.cells #[u,v] t)).heap[w.heap.size]? = some (.cells #[u,v] t):=by
  show (w.heap.push _)[w.heap.size]? = _
  simp
 constructor<;>(unfold World.cell?; rw [h]; rfl)
theorem Try.cmpLit_w (a b : Int) (W : World) : Calls Try.prog 188 #[.int .i64 a,.int .i64 b] W fun e w' => e=.returned (.int .i64 (cmpLit a b))∧∃ q os,w'=grow (W.drewN q) os:=by
 have h1:=Try.abs_w
 have h2:=fun x y => AnyG.cmp_Compare_int Try.layP x y
 change ∀ x y w,Calls Try.prog 186 _ _ _ at h2
 go_enter Try.func188,Try.ntmps188
 go_wp2_with (first | (go_at_call 97; refine (h1 _ _).mono ?_; rintro e w' ⟨rfl,rfl⟩) | (go_at_call 186; refine (h2 _ _ _).mono ?_; rintro e w' ⟨rfl,rfl⟩) | (go_at_call 185; refine (Try.or_w _ _ _ _ (cell_alloc2 _ _ _ _).1 (cell_alloc2 _ _ _ _).2).mono ?_; rintro e w' ⟨rfl,q,rfl⟩))
 all_goals (go_ret; rw [alloc_eq_grow]; exact ⟨by simp_all [cmpLit],q,_,rfl⟩)
end Go.Proofs
