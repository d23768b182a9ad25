/- What functions of this program compute, as contracts over plain data, with what the proofs need of them. No condition. -/
import Derived.Test.YtailofgkfldepaaK12
set_option linter.all false
namespace Abs.Y
open Go Go.Proofs Abs
set_option maxRecDepth 100000

/-! ### The argument of the laws on graphs -/
theorem r_ed {x : D} (h : isSt [isI64, isI64] x) : ∃ e : Int × Int, x = D.ed e ∧ True := by
  obtain ⟨es, rfl, hl, he⟩ := h
  match es, hl with
  | [e0, e1], _ =>
    obtain ⟨a, ha, _⟩ := he 0 (by simp)
    obtain ⟨b, hb, _⟩ := he 1 (by simp)
    simp only [List.getD_cons_zero, List.getD_cons_succ] at ha hb
    subst ha; subst hb
    exact ⟨(a, b), rfl, trivial⟩
theorem r_chg {x : D} (h : isSt [isI64, isSl (isSt [isI64, isI64]), isSl isI64] x) : ∃ g : Chg, x = D.chg g ∧ g.ed.length ≤ 9223372036854775807 ∧ g.ch.length ≤ 9223372036854775807 := by
  obtain ⟨es, rfl, hl, he⟩ := h
  match es, hl with
  | [e0, e1, e2], _ =>
    obtain ⟨v, hv, _⟩ := he 0 (by simp)
    have h1 := he 1 (by simp)
    obtain ⟨c, hc, h2⟩ := r_ints (he 2 (by simp))
    simp only [List.getD_cons_zero, List.getD_cons_succ] at hv h1 hc
    obtain ⟨fs, rfl, hl, hf⟩ := h1
    obtain ⟨a, rfl, _⟩ := map_ex D.ed hf fun e h => r_ed h
    subst hv; subst hc
    exact ⟨⟨v, a, c⟩, rfl, by rw [maxLen_eq] at hl; simpa using hl, h2⟩
theorem szC_spec {g : Chg} (h : 0 ≤ szC g 1048576) : g.ed.length ≤ 1048576 ∧ g.ch.length ≤ 1048576 := by
  unfold szC at h
  split at h
  · omega
  · rename_i h1
    have := szE_le g.ed.length 1048576 (by omega)
    have := szE_le g.ch.length (szE g.ed.length 1048576) (by omega)
    omega
theorem partsB_lens {g : Chg} : (partsB g).length ≤ 8 ∧ ∀ x ∈ partsB g, x.length ≤ 8 := by
  unfold partsB
  split
  · rename_i hg
    have hs := (goodC_spec hg).1
    have hll := linesL_le g g.n.toNat
    change (linesI g).length ≤ _ at hll
    have hn8 := hs.1.2
    refine ⟨by rw [partsI_len]; omega, fun x hx => ?_⟩
    obtain ⟨l, hl, rfl⟩ := List.mem_map.1 hx
    rw [sortZ_len, List.length_map]
    exact (linesI_lin hg _ (Nat.le_refl _) l hl).len
  · simp
theorem chg_unf (g : Chg) : D.chg g = .agg [.int .i64 g.n, .slice (g.ed.map D.ed), .slice (g.ch.map (.int .i64))] := rfl
end Abs.Y
