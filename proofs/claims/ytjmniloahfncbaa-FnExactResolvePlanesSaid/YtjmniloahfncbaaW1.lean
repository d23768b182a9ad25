/- The walks of this seat that were made by the kit's own words: the shelf's contracts laid at this program, the order of literals. No condition. -/
import Derived.Test.YtjmniloahfncbaaChecked
import Derived.Shelf.SlSortCmp.Whole1
import Derived.Shelf.SlicesE.DeleteFunc
import Derived.Shelf.Slices.CompactI
import Derived.Shelf.Spec.SlicesGrow
import Derived.Shelf.SlicesG.Cmp
import Derived.LoopN
import Derived.Deep.RegionWith
import Derived.Ground.SlsfProg
import Derived.Ground.SlgfProg
import Derived.Ground.SlgcProg
import Derived.Ground.Names2Prog
import Derived.Ground.Names8Prog
set_option linter.all false
namespace Go.Proofs
open Go.Shelf Go.RowKit Go.Lib Go.Sort
def Try.layS_ren : Go.Shelf.Ren := ⟨fun | 6 => 181 | 15 => 199 | 14 => 205 | 28 => 220 | 29 => 221 | 20 => 223 | 21 => 224 | 22 => 225 | 23 => 226 | 24 => 227 | 25 => 228 | 26 => 229 | 27 => 230 | 46 => 239 | 47 => 233 | 48 => 234 | 49 => 240 | 50 => 241 | 57 => 244 | n => n, fun | 22 => 22 | 24 => 3 | 25 => 136 | 3 => 3 | 39 => 149 | 0 => 0 | 53 => 185 | 55 => 112 | 4 => 4 | 46 => 179 | 45 => 178 | 50 => 69 | 5 => 5 | 9 => 9 | 66 => 194 | 70 => 198 | 76 => 202 | 77 => 203 | n => n, fun | n => n⟩
theorem Try.layS : Go.Proofs.SlLaysF.n6 Try.prog Try.layS_ren := {
  mixed := by kernel_rfl
  f6 := ⟨Try.f181.name, by decide, Try.func181.trans (congrArg some (by kernel_rfl))⟩
  f14 := ⟨Try.f205.name, by decide, Try.func205.trans (congrArg some (by kernel_rfl))⟩
  f15 := Try.func199.trans (congrArg some (by kernel_rfl))
  f20 := ⟨Try.f223.name, by decide, Try.func223.trans (congrArg some (by kernel_rfl))⟩
  f21 := ⟨Try.f224.name, by decide, Try.func224.trans (congrArg some (by kernel_rfl))⟩
  f22 := ⟨Try.f225.name, by decide, Try.func225.trans (congrArg some (by kernel_rfl))⟩
  f23 := ⟨Try.f226.name, by decide, Try.func226.trans (congrArg some (by kernel_rfl))⟩
  f24 := ⟨Try.f227.name, by decide, Try.func227.trans (congrArg some (by kernel_rfl))⟩
  f25 := ⟨Try.f228.name, by decide, Try.func228.trans (congrArg some (by kernel_rfl))⟩
  f26 := ⟨Try.f229.name, by decide, Try.func229.trans (congrArg some (by kernel_rfl))⟩
  f27 := ⟨Try.f230.name, by decide, Try.func230.trans (congrArg some (by kernel_rfl))⟩
  f28 := Try.func220.trans (congrArg some (by kernel_rfl))
  f29 := Try.func221.trans (congrArg some (by kernel_rfl))
  f46 := ⟨Try.f239.name, by decide, Try.func239.trans (congrArg some (by kernel_rfl))⟩
  f47 := Try.func233.trans (congrArg some (by kernel_rfl))
  f48 := Try.func234.trans (congrArg some (by kernel_rfl))
  f49 := ⟨Try.f240.name, by decide, Try.func240.trans (congrArg some (by kernel_rfl))⟩
  f50 := ⟨Try.f241.name, by decide, Try.func241.trans (congrArg some (by kernel_rfl))⟩
  f57 := ⟨Try.f244.name, by decide, Try.func244.trans (congrArg some (by kernel_rfl))⟩
  t0 := Try.underlying0
  a0 := Try.isAgg0
  z0 := Try.sizeOf0
  v0 := Try.zeroValue0
  t3 := Try.underlying3
  a3 := Try.isAgg3
  z3 := Try.sizeOf3
  v3 := Try.zeroValue3
  t4 := Try.underlying4
  a4 := Try.isAgg4
  z4 := Try.sizeOf4
  v4 := Try.zeroValue4
  t5 := Try.underlying5
  a5 := Try.isAgg5
  z5 := Try.sizeOf5
  v5 := Try.zeroValue5
  t9 := Try.underlying9
  a9 := Try.isAgg9
  z9 := Try.sizeOf9
  v9 := Try.zeroValue9
  t22 := Try.underlying22
  a22 := Try.isAgg22
  z22 := Try.sizeOf22
  v22 := Try.zeroValue22
  a24 := Try.isAgg3
  z24 := Try.sizeOf3
  t25 := Try.underlying136
  a25 := Try.isAgg136
  z25 := Try.sizeOf136
  v25 := Try.zeroValue136
  t39 := Try.underlying149
  a39 := Try.isAgg149
  z39 := Try.sizeOf149
  v39 := Try.zeroValue149
  t45 := Try.underlying178
  a45 := Try.isAgg178
  z45 := Try.sizeOf178
  v45 := Try.zeroValue178
  t46 := Try.underlying179
  a46 := Try.isAgg179
  z46 := Try.sizeOf179
  v46 := Try.zeroValue179
  t50 := Try.underlying69
  a50 := Try.isAgg69
  z50 := Try.sizeOf69
  v50 := Try.zeroValue69
  t53 := Try.underlying185
  a53 := Try.isAgg185
  z53 := Try.sizeOf185
  v53 := Try.zeroValue185
  t55 := Try.underlying112
  a55 := Try.isAgg112
  z55 := Try.sizeOf112
  v55 := Try.zeroValue112
  t66 := Try.underlying194
  a66 := Try.isAgg194
  z66 := Try.sizeOf194
  v66 := Try.zeroValue194
  t70 := Try.underlying198
  a70 := Try.isAgg198
  z70 := Try.sizeOf198
  v70 := Try.zeroValue198
  t76 := Try.underlying202
  a76 := Try.isAgg202
  z76 := Try.sizeOf202
  v76 := Try.zeroValue202
  t77 := Try.underlying203
  a77 := Try.isAgg203
  z77 := Try.sizeOf203
  v77 := Try.zeroValue203 }
def Try.layD_ren : Go.Shelf.Ren := ⟨fun | 10 => 147 | 6 => 180 | n => n, fun | 22 => 22 | 23 => 3 | 25 => 81 | 3 => 3 | 4 => 4 | 0 => 0 | n => n, fun | n => n⟩
theorem Try.layD : Go.Proofs.SlLaysH.n10 Try.prog Try.layD_ren := {
  mixed := by kernel_rfl
  f6 := ⟨Try.f180.name, by decide, Try.func180.trans (congrArg some (by kernel_rfl))⟩
  f10 := ⟨Try.f147.name, by decide, Try.func147.trans (congrArg some (by kernel_rfl))⟩
  t0 := Try.underlying0
  a0 := Try.isAgg0
  z0 := Try.sizeOf0
  v0 := Try.zeroValue0
  t3 := Try.underlying3
  a3 := Try.isAgg3
  z3 := Try.sizeOf3
  v3 := Try.zeroValue3
  t4 := Try.underlying4
  a4 := Try.isAgg4
  z4 := Try.sizeOf4
  v4 := Try.zeroValue4
  t22 := Try.underlying22
  a22 := Try.isAgg22
  z22 := Try.sizeOf22
  v22 := Try.zeroValue22
  a23 := Try.isAgg3
  z23 := Try.sizeOf3
  t25 := Try.underlying81
  a25 := Try.isAgg81
  z25 := Try.sizeOf81
  v25 := Try.zeroValue81 }
def Try.layG_ren : Go.Shelf.Ren := ⟨fun | 4 => 200 | n => n, fun | 22 => 22 | 25 => 3 | 3 => 3 | 4 => 4 | 9 => 9 | 20 => 20 | 0 => 0 | n => n, fun | n => n⟩
theorem Try.layG : Go.Proofs.Lays8.n4 Try.prog Try.layG_ren := {
  mixed := by kernel_rfl
  f4 := ⟨Try.f200.name, by decide, Try.func200.trans (congrArg some (by kernel_rfl))⟩
  t0 := Try.underlying0
  a0 := Try.isAgg0
  z0 := Try.sizeOf0
  v0 := Try.zeroValue0
  t3 := Try.underlying3
  a3 := Try.isAgg3
  z3 := Try.sizeOf3
  v3 := Try.zeroValue3
  t4 := Try.underlying4
  a4 := Try.isAgg4
  z4 := Try.sizeOf4
  v4 := Try.zeroValue4
  t9 := Try.underlying9
  a9 := Try.isAgg9
  z9 := Try.sizeOf9
  v9 := Try.zeroValue9
  t20 := Try.underlying20
  a20 := Try.isAgg20
  z20 := Try.sizeOf20
  v20 := Try.zeroValue20
  t22 := Try.underlying22
  a22 := Try.isAgg22
  z22 := Try.sizeOf22
  v22 := Try.zeroValue22 }
def Try.layC_ren : Go.Shelf.Ren := ⟨fun | 20 => 182 | n => n, fun | 22 => 22 | 3 => 3 | 4 => 4 | 0 => 0 | n => n, fun | n => n⟩
theorem Try.layC : Go.Proofs.Lays2.n20 Try.prog Try.layC_ren := {
  mixed := by kernel_rfl
  f20 := Try.func182.trans (congrArg some (by kernel_rfl))
  t0 := Try.underlying0
  a0 := Try.isAgg0
  z0 := Try.sizeOf0
  v0 := Try.zeroValue0
  t3 := Try.underlying3
  a3 := Try.isAgg3
  z3 := Try.sizeOf3
  v3 := Try.zeroValue3
  t4 := Try.underlying4
  a4 := Try.isAgg4
  z4 := Try.sizeOf4
  v4 := Try.zeroValue4
  t22 := Try.underlying22
  a22 := Try.isAgg22
  z22 := Try.sizeOf22
  v22 := Try.zeroValue22
  i3 := by kernel_rfl }
def Try.layP_ren : Go.Shelf.Ren := ⟨fun | 5 => 175 | 7 => 204 | n => n, fun | 22 => 3 | 3 => 3 | 4 => 4 | n => n, fun | n => n⟩
theorem Try.layP : Go.Proofs.SlLaysC2.n5 Try.prog Try.layP_ren := {
  mixed := by kernel_rfl
  f5 := ⟨Try.f175.name, by decide, Try.func175.trans (congrArg some (by kernel_rfl))⟩
  f7 := ⟨Try.f204.name, by decide, Try.func204.trans (congrArg some (by kernel_rfl))⟩
  t3 := Try.underlying3
  a3 := Try.isAgg3
  z3 := Try.sizeOf3
  v3 := Try.zeroValue3
  t4 := Try.underlying4
  a4 := Try.isAgg4
  z4 := Try.sizeOf4
  v4 := Try.zeroValue4
  t22 := Try.underlying3
  a22 := Try.isAgg3
  z22 := Try.sizeOf3
  v22 := Try.zeroValue3 }

theorem Try.abs_w (n : Int) (W : World) : Calls Try.prog 114 #[.int .i64 n] W fun e w' => e = .returned (.int .i64 (max n (wrap64 (-n)))) ∧ w' = W := by
  generalize hr : max n (wrap64 (-n)) = r
  go_enter Try.func114, Try.ntmps114
  go_wp2
  go_ret
  exact ⟨rfl, rfl⟩
/-- The literals' order, as the machine has it. -/
def cmpLit (a b : Int) : Int := if compareInt (max a (wrap64 (-a))) (max b (wrap64 (-b))) ≠ 0 then compareInt (max a (wrap64 (-a))) (max b (wrap64 (-b))) else compareInt b a
theorem Try.or_w (x y : Int) (W : World) (b : Nat) (hx : W.cell? ⟨b, 0, none⟩ = some (.int .i64 x)) (hy : W.cell? ⟨b, 1, none⟩ = some (.int .i64 y)) :
    Calls Try.prog 174 #[.slice (some ⟨b, 0, none⟩) 2 2] W fun e w' => e = .returned (.int .i64 (if x ≠ 0 then x else y)) ∧ ∃ q, w' = W.drewN q := by
  generalize hr : (if x ≠ 0 then x else y) = r
  go_enter Try.func174, Try.ntmps174
  go_wp2
  refine wp_loop_rounds 3 ?_
  unfold Code.rounds
  go_wp2
  · rename_i h2
    rw [if_pos (by simpa using h2)] at hr
    go_ret
    exact ⟨by rw [hr]; rfl, 0, rfl⟩
  · rename_i h2
    have hx0 : x = 0 := by simpa using h2
    rw [if_neg (by simp [hx0])] at hr
    unfold Code.rounds
    go_wp2
    · go_ret
      exact ⟨rfl, 0, rfl⟩
    · rename_i h3
      have hr0 : r = 0 := by simpa using h3
      subst hr0
      unfold Code.rounds
      go_wp2
      go_ret
      exact ⟨rfl, 0, rfl⟩
theorem cell_alloc2 (w : World) (u v : Value) (t : TypeId) : (w.alloc (.cells #[u, v] t)).cell? ⟨w.heap.size, 0, none⟩ = some u ∧ (w.alloc (.cells #[u, v] t)).cell? ⟨w.heap.size, 1, none⟩ = some v := by
  have h : (w.alloc (.cells #[u, v] t)).heap[w.heap.size]? = some (.cells #[u, v] t) := by
    show (w.heap.push _)[w.heap.size]? = _
    simp
  constructor <;> (unfold World.cell?; rw [h]; rfl)
theorem Try.cmpLit_w (a b : Int) (W : World) : Calls Try.prog 177 #[.int .i64 a, .int .i64 b] W fun e w' => e = .returned (.int .i64 (cmpLit a b)) ∧ ∃ q os, w' = grow (W.drewN q) os := by
  have h1 := Try.abs_w
  have h2 := fun x y => AnyG.cmp_Compare_int Try.layP x y
  change ∀ x y w, Calls Try.prog 175 _ _ _ at h2
  go_enter Try.func177, Try.ntmps177
  go_wp2_with (first | (go_at_call 114; refine (h1 _ _).mono ?_; rintro e w' ⟨rfl, rfl⟩) | (go_at_call 175; refine (h2 _ _ _).mono ?_; rintro e w' ⟨rfl, rfl⟩) | (go_at_call 174; refine (Try.or_w _ _ _ _ (cell_alloc2 _ _ _ _).1 (cell_alloc2 _ _ _ _).2).mono ?_; rintro e w' ⟨rfl, q, rfl⟩))
  all_goals (go_ret; rw [alloc_eq_grow]; exact ⟨by simp_all [cmpLit], q, _, rfl⟩)
theorem Try.wv_w (v l : Int) (B o : Nat) (W : World) (hc : W.cell? ⟨B, o, none⟩ = some (.int .i64 v)) :
    FnGives Try.prog 201 #[.pointer (some ⟨B, o, none⟩)] #[.int .i64 l] (.bool (max l (wrap64 (-l)) == v)) W := by
  show Calls Try.prog 201 #[.int .i64 l, .pointer (some ⟨B, o, none⟩)] W _
  have h1 := Try.abs_w
  have mixed := Try.checked.mixed
  go_enter Try.func201, Try.ntmps201
  go_wp2
  go_region_with (go_at_call 114; refine (h1 _ _).mono ?_; rintro e w' ⟨rfl, rfl⟩)
  all_goals go_wp2
  all_goals (go_ret; exact ⟨rfl, 1, rfl⟩)
end Go.Proofs
