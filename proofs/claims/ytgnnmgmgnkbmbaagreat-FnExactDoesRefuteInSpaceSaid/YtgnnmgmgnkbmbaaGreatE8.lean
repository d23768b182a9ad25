/- What functions of this program compute, as contracts over plain data, with what the proofs need of them. No condition. -/
import Derived.Test.YtgnnmgmgnkbmbaaGreatE7
set_option linter.all false
namespace Abs.Y
open Go Go.Proofs Abs Go.Sort Go.Shelf Go.Lib Go.RowKit
set_option maxRecDepth 100000

/-! ### The library's deletion at clauses -/
theorem deleteC_ok (cs : List (List Int)) (i : Nat) (a b : Int) (ha : a = i) (hb : b = (i : Int) + 1) (hi : i < cs.length) (hn : cs.length ≤ 4294967296) :
    CtrM Tryz.prog 102 [.sl 0, .d (.int .i64 a), .d (.int .i64 b)] [(0, .arr 43 1 (cs.map D.ints))] [] true (.sl 0) [(0, .arr 43 1 ((cs.take i ++ cs.drop (i + 1)).map D.ints))] := by
  have hone : ∀ x ∈ cs.map D.ints, x.one = true := fun x hx => by obtain ⟨c, _, rfl⟩ := List.mem_map.1 hx; rfl
  refine CtrM.rowD (es := cs.map D.ints) (es' := (cs.take i ++ cs.drop (i + 1)).map D.ints) (.slice none 0 0) true ⟨_, Tryz.func102, by kernel_rfl, by kernel_rfl⟩ hone (by simp; omega) (by simp) fun S β w rv hl' hr => ?_
  obtain ⟨v, v', rfl⟩ : ∃ v v', rv = [v, v'] := by
    match rv, hl' with
    | [a, b], _ => exact ⟨a, b, rfl⟩
  have hv : v = .int .i64 a := by
    have := hr 0 (by simp)
    simp only [List.getD_cons_zero] at this
    cases this with
    | d h => cases h; rfl
  have hv' : v' = .int .i64 b := by
    have := hr 1 (by simp)
    simp only [List.getD_cons_succ, List.getD_cons_zero] at this
    cases this with
    | d h => cases h; rfl
  subst hv hv' ha hb
  refine ⟨fun h => by simp only [List.map_eq_nil_iff] at h; rw [h] at hi; simp at hi, fun g cap xs hS hxl hxr hH hg hcap hm => ?_⟩
  simp only [List.length_map] at hxl hcap hH ⊢
  have h := AnyE.slices_Delete Tryz.layDel (mkR (.slice none 0 0) xs) (mkR_one rfl hone (by simpa using hxl) hxr) xs.length (fun w => by
      have e : mkR (.slice none 0 0) xs xs.length = .slice none 0 0 := by simp [mkR]
      rw [e]; exact Tryz.zeroValue43 w) _ rfl rfl g 0 cap i (i + 1) (Array.range cs.length) w hH (by simpa using hcap) (by unfold maxLen at hm; omega) (by omega) (by simp; omega)
  simp only [Array.size_range] at h
  have e2 : ((i + 1 : Nat) : Int) = (i : Int) + 1 := by omega
  rw [e2] at h
  refine Calls.mono h fun en w' ⟨he, q, hw⟩ => ⟨?_, q, ((List.range cs.length).take i ++ (List.range cs.length).drop (i + 1) ++ List.replicate (i + 1 - i) xs.length).toArray, #[], ?_, ?_⟩
  · rw [he]
    have : (cs.take i ++ cs.drop (i + 1)).length = cs.length - (i + 1 - i) := by simp; omega
    simp only [if_true, this]
  · have hlen : ((cs.take i ++ cs.drop (i + 1)).map D.ints).length = ((List.range cs.length).take i ++ (List.range cs.length).drop (i + 1)).length := by simp
    have htk : (((List.range cs.length).take i ++ (List.range cs.length).drop (i + 1) ++ List.replicate (i + 1 - i) xs.length).toArray).toList.take ((cs.take i ++ cs.drop (i + 1)).map D.ints).length = (List.range cs.length).take i ++ (List.range cs.length).drop (i + 1) := by
      rw [hlen]; exact List.take_left
    refine ⟨by simp <;> omega, by simp <;> omega, fun k hk => ?_, ?_⟩
    · rw [htk] at hk
      rcases List.mem_append.1 hk with h1 | h1
      · have := List.mem_of_mem_take h1; simpa using this
      · have := List.mem_of_mem_drop h1; simpa using this
    · rw [htk, List.map_append, List.map_append, List.map_take, List.map_drop, List.map_take, List.map_drop]
      have e : (List.range cs.length).map (fun i => (cs.map D.ints).getD i .nilptr) = cs.map D.ints := by
        apply List.ext_getElem (by simp)
        intro k h1 h2
        have h3 : k < cs.length := by simpa using h1
        simp [List.getD_eq_getElem?_getD, h3]
      rw [e]
  · rw [hw]; unfold sortWorld; rw [grow_empty]; simp
end Abs.Y
