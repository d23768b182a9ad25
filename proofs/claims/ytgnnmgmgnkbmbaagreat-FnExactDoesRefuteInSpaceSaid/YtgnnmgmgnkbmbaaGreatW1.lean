/- The walks of this seat that were made by the kit's own words: the shelf's contracts laid at this program, the order of literals. No condition. -/
import Derived.Test.YtgnnmgmgnkbmbaaGreatChecked
import Derived.Shelf.SlSortCmp.Whole1
import Derived.Shelf.SlicesE.DeleteFunc
import Derived.Shelf.Slices.CompactI
import Derived.Shelf.Spec.SlicesGrow
import Derived.Shelf.SlicesG.Cmp
import Derived.LoopN
import Derived.Deep.RegionWith
import Derived.Ground.SlsfProg
import Derived.Ground.SlgfProg
import Derived.Ground.SlgcProg
import Derived.Ground.Names2Prog
import Derived.Ground.Names8Prog
set_option linter.all false
namespace Go.Proofs
open Go.Shelf Go.RowKit Go.Lib Go.Sort
def Tryz.layS_ren : Go.Shelf.Ren := ⟨fun | 6 => 131 | 15 => 122 | 14 => 148 | 28 => 144 | 29 => 145 | 20 => 154 | 21 => 155 | 22 => 156 | 23 => 157 | 24 => 158 | 25 => 159 | 26 => 160 | 27 => 161 | 46 => 163 | 47 => 150 | 48 => 151 | 49 => 164 | 50 => 165 | 57 => 166 | n => n, fun | 22 => 43 | 24 => 3 | 25 => 90 | 3 => 3 | 39 => 127 | 0 => 0 | 53 => 141 | 55 => 143 | 4 => 4 | 46 => 135 | 45 => 134 | 50 => 37 | 5 => 5 | 9 => 9 | 66 => 146 | 70 => 150 | 76 => 157 | 77 => 158 | n => n, fun | n => n⟩
theorem Tryz.layS : Go.Proofs.SlLaysF.n6 Tryz.prog Tryz.layS_ren := {
  mixed := by kernel_rfl
  f6 := ⟨Tryz.f131.name, by decide, Tryz.func131.trans (congrArg some (by kernel_rfl))⟩
  f14 := ⟨Tryz.f148.name, by decide, Tryz.func148.trans (congrArg some (by kernel_rfl))⟩
  f15 := Tryz.func122.trans (congrArg some (by kernel_rfl))
  f20 := ⟨Tryz.f154.name, by decide, Tryz.func154.trans (congrArg some (by kernel_rfl))⟩
  f21 := ⟨Tryz.f155.name, by decide, Tryz.func155.trans (congrArg some (by kernel_rfl))⟩
  f22 := ⟨Tryz.f156.name, by decide, Tryz.func156.trans (congrArg some (by kernel_rfl))⟩
  f23 := ⟨Tryz.f157.name, by decide, Tryz.func157.trans (congrArg some (by kernel_rfl))⟩
  f24 := ⟨Tryz.f158.name, by decide, Tryz.func158.trans (congrArg some (by kernel_rfl))⟩
  f25 := ⟨Tryz.f159.name, by decide, Tryz.func159.trans (congrArg some (by kernel_rfl))⟩
  f26 := ⟨Tryz.f160.name, by decide, Tryz.func160.trans (congrArg some (by kernel_rfl))⟩
  f27 := ⟨Tryz.f161.name, by decide, Tryz.func161.trans (congrArg some (by kernel_rfl))⟩
  f28 := Tryz.func144.trans (congrArg some (by kernel_rfl))
  f29 := Tryz.func145.trans (congrArg some (by kernel_rfl))
  f46 := ⟨Tryz.f163.name, by decide, Tryz.func163.trans (congrArg some (by kernel_rfl))⟩
  f47 := Tryz.func150.trans (congrArg some (by kernel_rfl))
  f48 := Tryz.func151.trans (congrArg some (by kernel_rfl))
  f49 := ⟨Tryz.f164.name, by decide, Tryz.func164.trans (congrArg some (by kernel_rfl))⟩
  f50 := ⟨Tryz.f165.name, by decide, Tryz.func165.trans (congrArg some (by kernel_rfl))⟩
  f57 := ⟨Tryz.f166.name, by decide, Tryz.func166.trans (congrArg some (by kernel_rfl))⟩
  t0 := Tryz.underlying0
  a0 := Tryz.isAgg0
  z0 := Tryz.sizeOf0
  v0 := Tryz.zeroValue0
  t3 := Tryz.underlying3
  a3 := Tryz.isAgg3
  z3 := Tryz.sizeOf3
  v3 := Tryz.zeroValue3
  t4 := Tryz.underlying4
  a4 := Tryz.isAgg4
  z4 := Tryz.sizeOf4
  v4 := Tryz.zeroValue4
  t5 := Tryz.underlying5
  a5 := Tryz.isAgg5
  z5 := Tryz.sizeOf5
  v5 := Tryz.zeroValue5
  t9 := Tryz.underlying9
  a9 := Tryz.isAgg9
  z9 := Tryz.sizeOf9
  v9 := Tryz.zeroValue9
  t22 := Tryz.underlying43
  a22 := Tryz.isAgg43
  z22 := Tryz.sizeOf43
  v22 := Tryz.zeroValue43
  a24 := Tryz.isAgg3
  z24 := Tryz.sizeOf3
  t25 := Tryz.underlying90
  a25 := Tryz.isAgg90
  z25 := Tryz.sizeOf90
  v25 := Tryz.zeroValue90
  t39 := Tryz.underlying127
  a39 := Tryz.isAgg127
  z39 := Tryz.sizeOf127
  v39 := Tryz.zeroValue127
  t45 := Tryz.underlying134
  a45 := Tryz.isAgg134
  z45 := Tryz.sizeOf134
  v45 := Tryz.zeroValue134
  t46 := Tryz.underlying135
  a46 := Tryz.isAgg135
  z46 := Tryz.sizeOf135
  v46 := Tryz.zeroValue135
  t50 := Tryz.underlying37
  a50 := Tryz.isAgg37
  z50 := Tryz.sizeOf37
  v50 := Tryz.zeroValue37
  t53 := Tryz.underlying141
  a53 := Tryz.isAgg141
  z53 := Tryz.sizeOf141
  v53 := Tryz.zeroValue141
  t55 := Tryz.underlying143
  a55 := Tryz.isAgg143
  z55 := Tryz.sizeOf143
  v55 := Tryz.zeroValue143
  t66 := Tryz.underlying146
  a66 := Tryz.isAgg146
  z66 := Tryz.sizeOf146
  v66 := Tryz.zeroValue146
  t70 := Tryz.underlying150
  a70 := Tryz.isAgg150
  z70 := Tryz.sizeOf150
  v70 := Tryz.zeroValue150
  t76 := Tryz.underlying157
  a76 := Tryz.isAgg157
  z76 := Tryz.sizeOf157
  v76 := Tryz.zeroValue157
  t77 := Tryz.underlying158
  a77 := Tryz.isAgg158
  z77 := Tryz.sizeOf158
  v77 := Tryz.zeroValue158 }
def Tryz.layD_ren : Go.Shelf.Ren := ⟨fun | 10 => 134 | 6 => 147 | n => n, fun | 22 => 43 | 23 => 3 | 25 => 86 | 3 => 3 | 4 => 4 | 0 => 0 | n => n, fun | n => n⟩
theorem Tryz.layD : Go.Proofs.SlLaysH.n10 Tryz.prog Tryz.layD_ren := {
  mixed := by kernel_rfl
  f6 := ⟨Tryz.f147.name, by decide, Tryz.func147.trans (congrArg some (by kernel_rfl))⟩
  f10 := ⟨Tryz.f134.name, by decide, Tryz.func134.trans (congrArg some (by kernel_rfl))⟩
  t0 := Tryz.underlying0
  a0 := Tryz.isAgg0
  z0 := Tryz.sizeOf0
  v0 := Tryz.zeroValue0
  t3 := Tryz.underlying3
  a3 := Tryz.isAgg3
  z3 := Tryz.sizeOf3
  v3 := Tryz.zeroValue3
  t4 := Tryz.underlying4
  a4 := Tryz.isAgg4
  z4 := Tryz.sizeOf4
  v4 := Tryz.zeroValue4
  t22 := Tryz.underlying43
  a22 := Tryz.isAgg43
  z22 := Tryz.sizeOf43
  v22 := Tryz.zeroValue43
  a23 := Tryz.isAgg3
  z23 := Tryz.sizeOf3
  t25 := Tryz.underlying86
  a25 := Tryz.isAgg86
  z25 := Tryz.sizeOf86
  v25 := Tryz.zeroValue86 }
def Tryz.layG_ren : Go.Shelf.Ren := ⟨fun | 4 => 133 | n => n, fun | 22 => 43 | 25 => 3 | 3 => 3 | 4 => 4 | 9 => 9 | 20 => 20 | 0 => 0 | n => n, fun | n => n⟩
theorem Tryz.layG : Go.Proofs.Lays8.n4 Tryz.prog Tryz.layG_ren := {
  mixed := by kernel_rfl
  f4 := ⟨Tryz.f133.name, by decide, Tryz.func133.trans (congrArg some (by kernel_rfl))⟩
  t0 := Tryz.underlying0
  a0 := Tryz.isAgg0
  z0 := Tryz.sizeOf0
  v0 := Tryz.zeroValue0
  t3 := Tryz.underlying3
  a3 := Tryz.isAgg3
  z3 := Tryz.sizeOf3
  v3 := Tryz.zeroValue3
  t4 := Tryz.underlying4
  a4 := Tryz.isAgg4
  z4 := Tryz.sizeOf4
  v4 := Tryz.zeroValue4
  t9 := Tryz.underlying9
  a9 := Tryz.isAgg9
  z9 := Tryz.sizeOf9
  v9 := Tryz.zeroValue9
  t20 := Tryz.underlying20
  a20 := Tryz.isAgg20
  z20 := Tryz.sizeOf20
  v20 := Tryz.zeroValue20
  t22 := Tryz.underlying43
  a22 := Tryz.isAgg43
  z22 := Tryz.sizeOf43
  v22 := Tryz.zeroValue43 }
def Tryz.layC_ren : Go.Shelf.Ren := ⟨fun | 20 => 132 | n => n, fun | 22 => 43 | 3 => 3 | 4 => 4 | 0 => 0 | n => n, fun | n => n⟩
theorem Tryz.layC : Go.Proofs.Lays2.n20 Tryz.prog Tryz.layC_ren := {
  mixed := by kernel_rfl
  f20 := Tryz.func132.trans (congrArg some (by kernel_rfl))
  t0 := Tryz.underlying0
  a0 := Tryz.isAgg0
  z0 := Tryz.sizeOf0
  v0 := Tryz.zeroValue0
  t3 := Tryz.underlying3
  a3 := Tryz.isAgg3
  z3 := Tryz.sizeOf3
  v3 := Tryz.zeroValue3
  t4 := Tryz.underlying4
  a4 := Tryz.isAgg4
  z4 := Tryz.sizeOf4
  v4 := Tryz.zeroValue4
  t22 := Tryz.underlying43
  a22 := Tryz.isAgg43
  z22 := Tryz.sizeOf43
  v22 := Tryz.zeroValue43
  i3 := by kernel_rfl }
def Tryz.layP_ren : Go.Shelf.Ren := ⟨fun | 5 => 124 | 7 => 146 | n => n, fun | 22 => 3 | 3 => 3 | 4 => 4 | n => n, fun | n => n⟩
theorem Tryz.layP : Go.Proofs.SlLaysC2.n5 Tryz.prog Tryz.layP_ren := {
  mixed := by kernel_rfl
  f5 := ⟨Tryz.f124.name, by decide, Tryz.func124.trans (congrArg some (by kernel_rfl))⟩
  f7 := ⟨Tryz.f146.name, by decide, Tryz.func146.trans (congrArg some (by kernel_rfl))⟩
  t3 := Tryz.underlying3
  a3 := Tryz.isAgg3
  z3 := Tryz.sizeOf3
  v3 := Tryz.zeroValue3
  t4 := Tryz.underlying4
  a4 := Tryz.isAgg4
  z4 := Tryz.sizeOf4
  v4 := Tryz.zeroValue4
  t22 := Tryz.underlying3
  a22 := Tryz.isAgg3
  z22 := Tryz.sizeOf3
  v22 := Tryz.zeroValue3 }

theorem Tryz.abs_w (n : Int) (W : World) : Calls Tryz.prog 85 #[.int .i64 n] W fun e w' => e = .returned (.int .i64 (max n (wrap64 (-n)))) ∧ w' = W := by
  generalize hr : max n (wrap64 (-n)) = r
  go_enter Tryz.func85, Tryz.ntmps85
  go_wp2
  go_ret
  exact ⟨rfl, rfl⟩
/-- The literals' order, as the machine has it. -/
def cmpLit (a b : Int) : Int := if compareInt (max a (wrap64 (-a))) (max b (wrap64 (-b))) ≠ 0 then compareInt (max a (wrap64 (-a))) (max b (wrap64 (-b))) else compareInt b a
theorem Tryz.or_w (x y : Int) (W : World) (b : Nat) (hx : W.cell? ⟨b, 0, none⟩ = some (.int .i64 x)) (hy : W.cell? ⟨b, 1, none⟩ = some (.int .i64 y)) :
    Calls Tryz.prog 123 #[.slice (some ⟨b, 0, none⟩) 2 2] W fun e w' => e = .returned (.int .i64 (if x ≠ 0 then x else y)) ∧ ∃ q, w' = W.drewN q := by
  generalize hr : (if x ≠ 0 then x else y) = r
  go_enter Tryz.func123, Tryz.ntmps123
  go_wp2
  refine wp_loop_rounds 3 ?_
  unfold Code.rounds
  go_wp2
  · rename_i h2
    rw [if_pos (by simpa using h2)] at hr
    go_ret
    exact ⟨by rw [hr]; rfl, 0, rfl⟩
  · rename_i h2
    have hx0 : x = 0 := by simpa using h2
    rw [if_neg (by simp [hx0])] at hr
    unfold Code.rounds
    go_wp2
    · go_ret
      exact ⟨rfl, 0, rfl⟩
    · rename_i h3
      have hr0 : r = 0 := by simpa using h3
      subst hr0
      unfold Code.rounds
      go_wp2
      go_ret
      exact ⟨rfl, 0, rfl⟩
theorem cell_alloc2 (w : World) (u v : Value) (t : TypeId) : (w.alloc (.cells #[u, v] t)).cell? ⟨w.heap.size, 0, none⟩ = some u ∧ (w.alloc (.cells #[u, v] t)).cell? ⟨w.heap.size, 1, none⟩ = some v := by
  have h : (w.alloc (.cells #[u, v] t)).heap[w.heap.size]? = some (.cells #[u, v] t) := by
    show (w.heap.push _)[w.heap.size]? = _
    simp
  constructor <;> (unfold World.cell?; rw [h]; rfl)
theorem Tryz.cmpLit_w (a b : Int) (W : World) : Calls Tryz.prog 126 #[.int .i64 a, .int .i64 b] W fun e w' => e = .returned (.int .i64 (cmpLit a b)) ∧ ∃ q os, w' = grow (W.drewN q) os := by
  have h1 := Tryz.abs_w
  have h2 := fun x y => AnyG.cmp_Compare_int Tryz.layP x y
  change ∀ x y w, Calls Tryz.prog 124 _ _ _ at h2
  go_enter Tryz.func126, Tryz.ntmps126
  go_wp2_with (first | (go_at_call 85; refine (h1 _ _).mono ?_; rintro e w' ⟨rfl, rfl⟩) | (go_at_call 124; refine (h2 _ _ _).mono ?_; rintro e w' ⟨rfl, rfl⟩) | (go_at_call 123; refine (Tryz.or_w _ _ _ _ (cell_alloc2 _ _ _ _).1 (cell_alloc2 _ _ _ _).2).mono ?_; rintro e w' ⟨rfl, q, rfl⟩))
  all_goals (go_ret; rw [alloc_eq_grow]; exact ⟨by simp_all [cmpLit], q, _, rfl⟩)
theorem Tryz.wv_w (v l : Int) (B o : Nat) (W : World) (hc : W.cell? ⟨B, o, none⟩ = some (.int .i64 v)) :
    FnGives Tryz.prog 135 #[.pointer (some ⟨B, o, none⟩)] #[.int .i64 l] (.bool (max l (wrap64 (-l)) == v)) W := by
  show Calls Tryz.prog 135 #[.int .i64 l, .pointer (some ⟨B, o, none⟩)] W _
  have h1 := Tryz.abs_w
  have mixed := Tryz.checked.mixed
  go_enter Tryz.func135, Tryz.ntmps135
  go_wp2
  go_region_with (go_at_call 85; refine (h1 _ _).mono ?_; rintro e w' ⟨rfl, rfl⟩)
  all_goals go_wp2
  all_goals (go_ret; exact ⟨rfl, 1, rfl⟩)
end Go.Proofs
