/- What functions of this program compute, as contracts over plain data, with what the proofs need of them. No condition. -/
import Derived.Test.YtjmniloahfncbaaW1
import Derived.Test.YtjmniloahfncbaaChecked
import Derived.Shelf.Slices.Turned
import Derived.Ground.NamesProg
import Derived.Deep.QuietTactic
import Derived.BigQuiet
set_option linter.all false
namespace Go.Proofs
open Go.Shelf Go.RowKit Go.Lib Go.Sort
def Try.layK_ren : Go.Shelf.Ren := ⟨fun | 107 => 150 | 108 => 193 | n => n, fun | 28 => 22 | 3 => 3 | 4 => 4 | 0 => 0 | n => n, fun | n => n⟩
theorem Try.layK : Go.Proofs.Lays.n107 Try.prog Try.layK_ren := {
  mixed := by kernel_rfl
  f107 := Try.func150.trans (congrArg some (by kernel_rfl))
  f108 := Try.func193.trans (congrArg some (by kernel_rfl))
  t0 := Try.underlying0
  a0 := Try.isAgg0
  z0 := Try.sizeOf0
  v0 := Try.zeroValue0
  t3 := Try.underlying3
  a3 := Try.isAgg3
  z3 := Try.sizeOf3
  v3 := Try.zeroValue3
  t4 := Try.underlying4
  a4 := Try.isAgg4
  z4 := Try.sizeOf4
  v4 := Try.zeroValue4
  t28 := Try.underlying22
  a28 := Try.isAgg22
  z28 := Try.sizeOf22
  v28 := Try.zeroValue22 }
/-- v is a slice of the numbers c. -/
def SlI (W : World) (c : List Int) (v : Value) : Prop :=
  (c = [] ∧ ∃ a k, v = .slice a 0 k) ∨ ∃ b off k, v = .slice (some ⟨b, off, none⟩) c.length k ∧ ∀ j, j < c.length → W.cell? ⟨b, off + j, none⟩ = some (.int .i64 (c.getD j 0))
theorem Try.ct_w (c : List Int) (x : Int) (hl : c.length ≤ 4294967296) (v : Value) (W : World) (h : SlI W c v) : Calls Try.prog 150 #[v, .int .i64 x] W fun e w' => e = .returned (.bool (c.contains x)) ∧ w' = W := by
  rcases h with ⟨rfl, a, k, rfl⟩ | ⟨b, off, k, rfl, hc⟩
  · exact Any.slices_Contains_int_empty Try.layK a k x W
  · have h := Any.slices_Contains_int Try.layK b off c.length k c x W (Nat.le_refl _) (by omega) hc
    rw [List.take_of_length_le (Nat.le_refl _)] at h
    exact h
set_option maxRecDepth 100000 in
set_option maxHeartbeats 8000000 in
theorem Try.one_w (c d : List Int) (x : Int) (hc : c.length ≤ 4294967296) (hd : d.length ≤ 4294967296) (B o B' o' : Nat) (v v' : Value) (W : World) (h1 : W.cell? ⟨B, o, none⟩ = some v) (h2 : W.cell? ⟨B', o', none⟩ = some v') (hv : SlI W c v) (hv' : SlI W d v') :
    FnGives Try.prog 149 #[.pointer (some ⟨B, o, none⟩), .pointer (some ⟨B', o', none⟩)] #[.int .i64 x] (.bool (c.contains x == d.contains x)) W := by
  show Calls Try.prog 149 #[.int .i64 x, .pointer (some ⟨B, o, none⟩), .pointer (some ⟨B', o', none⟩)] W _
  have k1 := fun n => Try.ct_w c x hc v (W.drewN n) hv
  have k2 := fun n => Try.ct_w d x hd v' (W.drewN n) hv'
  generalize c.contains x = p at *
  generalize d.contains x = q at *
  have mixed := Try.checked.mixed
  go_enter Try.func149, Try.ntmps149
  go_wp2
  go_quiet (first | (go_at_call 150; exact Calls.quiet_of_same (k1 _)) | (go_at_call 150; exact Calls.quiet_of_same (k2 _)))
  all_goals go_wp2
  all_goals (go_ret; exact ⟨rfl, nq, rfl⟩)
end Go.Proofs
