/- What functions of this program compute, as contracts over plain data, with what the proofs need of them. No condition. -/
import Derived.Test.YtailofgkfldepaaK7
set_option linter.all false
namespace Abs.Y
open Go Go.Proofs Abs
set_option maxRecDepth 100000

/-! ### Lines are closed, meet no other line, and their edges differ -/
theorem edges_iff {g : Chg} {v k : Int} : k ∈ edgesAt g v ↔ (0 ≤ k ∧ k.toNat < g.ed.length ∧ ((g.ed.getD k.toNat (0, 0)).1 = v ∨ (g.ed.getD k.toNat (0, 0)).2 = v)) := by
  refine ⟨mem_edges, fun ⟨h0, h1, h2⟩ => ?_⟩
  unfold edgesAt edgesTo
  refine List.mem_map.2 ⟨k.toNat, List.mem_filter.2 ⟨List.mem_range.2 h1, ?_⟩, by omega⟩
  rcases h2 with h2 | h2
  · exact atB_1 h2
  · exact atB_2 h2
theorem edges_other {g : Chg} {a k : Int} (h : k ∈ edgesAt g a) : k ∈ edgesAt g (other g a k) ∧ other g (other g a k) k = a := by
  obtain ⟨h0, h1, h2⟩ := edges_iff.1 h
  unfold other
  refine ⟨edges_iff.2 ⟨h0, h1, ?_⟩, by omega⟩
  rcases h2 with h2 | h2
  · right; omega
  · left; omega
/-- Whoever meets an edge is one of its two ends. -/
theorem edges_two {g : Chg} {a b k : Int} (h : k ∈ edgesAt g a) (hb : k ∈ edgesAt g b) : b = a ∨ b = other g a k := by
  obtain ⟨_, _, h2⟩ := edges_iff.1 h
  obtain ⟨_, _, h3⟩ := edges_iff.1 hb
  unfold other
  rcases h2 with h2 | h2 <;> rcases h3 with h3 | h3
  · left; omega
  · right; omega
  · right; omega
  · left; omega
def ClosedV (g : Chg) (C : List Int) : Prop := ∀ x ∈ C, ∀ k ∈ edgesAt g x, other g x k ∈ C
def Par (g : Chg) (out : List (Int × Int)) : Prop := ∀ j, 0 < j → j < out.length → ∃ i, i < j ∧ (out.getD j (0, 0)).2 ∈ edgesAt g (out.getD i (0, 0)).1 ∧ other g (out.getD i (0, 0)).1 (out.getD j (0, 0)).2 = (out.getD j (0, 0)).1
def DoneV (g : Chg) (i : Nat) (out : List (Int × Int)) : Prop := ∀ j, j < i → j < out.length → ∀ k ∈ edgesAt g (out.getD j (0, 0)).1, other g (out.getD j (0, 0)).1 k ∈ out.map (·.1)
theorem getD_pre {l l' : List (Int × Int)} (h : l <+: l') {i : Nat} (hi : i < l.length) : l'.getD i (0, 0) = l.getD i (0, 0) := by
  obtain ⟨t, rfl⟩ := h
  simp [List.getD_eq_getElem?_getD, List.getElem?_append_left hi]
theorem mem_pre {l l' : List (Int × Int)} (h : l <+: l') {x : Int} (hx : x ∈ l.map (·.1)) : x ∈ l'.map (·.1) := by
  obtain ⟨t, rfl⟩ := h
  rw [List.map_append]; exact List.mem_append_left _ hx
theorem grow1_has {g : Chg} {now k : Int} {out : List (Int × Int)} : other g now k ∈ (grow1 g now out k).map (·.1) := by
  unfold grow1; split
  · rename_i h; exact hasV_mem.1 h
  · simp
theorem growL_has {g : Chg} {now : Int} : ∀ {ks : List Int} {out : List (Int × Int)}, ∀ k ∈ ks, other g now k ∈ (growL g now ks out).map (·.1)
  | k :: r, out, k', h => by
    show _ ∈ (growL g now r (grow1 g now out k)).map (·.1)
    rcases List.mem_cons.1 h with rfl | h
    · exact mem_pre (growL_pre (ks := r)) grow1_has
    · exact growL_has (ks := r) k' h
theorem grow1_par {g : Chg} {now k : Int} {out : List (Int × Int)} {i : Nat} (hi : i < out.length) (hn : (out.getD i (0, 0)).1 = now) (hk : k ∈ edgesAt g now) (h : Par g out) : Par g (grow1 g now out k) := by
  unfold grow1; split
  · exact h
  · intro j h0 hj
    have hp : out <+: out ++ [(other g now k, k)] := List.prefix_append _ _
    by_cases hlt : j < out.length
    · obtain ⟨i', h1, h2, h3⟩ := h j h0 hlt
      refine ⟨i', h1, ?_⟩
      rw [getD_pre hp hlt, getD_pre hp (by omega)]
      exact ⟨h2, h3⟩
    · obtain rfl : j = out.length := by simp at hj; omega
      refine ⟨i, hi, ?_⟩
      rw [getD_pre hp hi, hn, show (out ++ [(other g now k, k)]).getD out.length (0, 0) = (other g now k, k) by simp [List.getD_eq_getElem?_getD]]
      exact ⟨hk, rfl⟩
theorem growL_par {g : Chg} {now : Int} : ∀ {ks : List Int} {out : List (Int × Int)} {i : Nat}, i < out.length → (out.getD i (0, 0)).1 = now → (∀ k ∈ ks, k ∈ edgesAt g now) → Par g out → Par g (growL g now ks out)
  | [], _, _, _, _, _, h => h
  | k :: r, out, i, hi, hn, hk, h => by
    have hp := grow1_pre (g := g) (now := now) (k := k) (out := out)
    exact growL_par (ks := r) (Nat.lt_of_lt_of_le hi hp.length_le) (by rw [getD_pre hp hi]; exact hn) (fun k' h' => hk k' (by simp [h'])) (grow1_par hi hn (hk k (by simp)) h)
theorem lineF_spec {g : Chg} (hg : goodC g = true) : ∀ (f i : Nat) (out : List (Int × Int)), LinOk g out → Par g out → DoneV g i out → 9 ≤ f + i →
    LinOk g (lineF g f i out) ∧ Par g (lineF g f i out) ∧ DoneV g (lineF g f i out).length (lineF g f i out) ∧ out <+: lineF g f i out := by
  intro f
  induction f with
  | zero =>
    intro i out h1 h2 h3 h4
    have := h1.len
    exact ⟨h1, h2, fun j _ (hj : j < out.length) => h3 j (by omega) hj, List.prefix_rfl⟩
  | succ f ih =>
    intro i out h1 h2 h3 h4
    rw [lineF]
    split
    · rename_i hi
      have hp : out <+: stepL g out i := growL_pre
      obtain ⟨a, b, c, d⟩ := ih (i + 1) (stepL g out i) (growL_ok hg (fun k h => h) h1) (growL_par hi rfl (fun k h => h) h2) (fun j hj hjl k hk => by
        by_cases e : j = i
        · subst e
          rw [getD_pre hp hi] at hk ⊢
          exact growL_has k hk
        · have hjo : j < out.length := by omega
          rw [getD_pre hp hjo] at hk ⊢
          exact mem_pre hp (h3 j (by omega) hjo k hk)) (by omega)
      exact ⟨a, b, c, hp.trans d⟩
    · exact ⟨h1, h2, fun j _ hj => h3 j (by omega) hj, List.prefix_rfl⟩
theorem lineI_spec {g : Chg} (hg : goodC g = true) {v : Int} (hv : 0 ≤ v ∧ v < g.n) : LinOk g (lineI g v) ∧ Par g (lineI g v) ∧ ClosedV g ((lineI g v).map (·.1)) ∧ [(v, -1)] <+: lineI g v := by
  obtain ⟨a, b, c, d⟩ := lineF_spec hg 9 0 [(v, -1)] (lin_start hg hv) (fun j h0 hj => by simp at hj; omega) (fun j hj => by omega) (by omega)
  refine ⟨a, b, fun x hx k hk => ?_, d⟩
  obtain ⟨r, hr, rfl⟩ := List.mem_map.1 hx
  obtain ⟨j, hj, rfl⟩ := List.getElem_of_mem hr
  have e : (lineI g v).getD j (0, 0) = (lineI g v)[j] := by simp [List.getD_eq_getElem?_getD, hj]
  have := c j hj hj
  rw [show lineF g 9 0 [(v, -1)] = lineI g v from rfl, e] at this
  exact this k hk
theorem line_head {g : Chg} {v : Int} (h : [(v, -1)] <+: lineI g v) : ∃ t, lineI g v = (v, -1) :: t := by
  obtain ⟨t, ht⟩ := h; exact ⟨t, ht.symm⟩
/-- From any vertex of a line the way leads back to its start. -/
theorem line_conn {g : Chg} (hg : goodC g = true) {v : Int} (hv : 0 ≤ v ∧ v < g.n) {C : List Int} (hC : ClosedV g C) : ∀ x ∈ (lineI g v).map (·.1), x ∈ C → v ∈ C := by
  obtain ⟨_, hp, _, hh⟩ := lineI_spec hg hv
  have key : ∀ j, j < (lineI g v).length → ((lineI g v).getD j (0, 0)).1 ∈ C → v ∈ C := by
    intro j
    induction j using Nat.strongRecOn with
    | ind j ih =>
      intro hj hx
      by_cases h0 : j = 0
      · subst h0
        obtain ⟨t, ht⟩ := line_head hh
        rw [ht] at hx; exact hx
      · obtain ⟨i, h1, h2, h3⟩ := hp j (by omega) hj
        refine ih i h1 (by omega) ?_
        have := edges_other h2
        rw [h3] at this
        have h4 := hC _ hx _ this.1
        rwa [this.2] at h4
  intro x hx hc
  obtain ⟨r, hr, rfl⟩ := List.mem_map.1 hx
  obtain ⟨j, hj, rfl⟩ := List.getElem_of_mem hr
  refine key j hj ?_
  rw [show (lineI g v).getD j (0, 0) = (lineI g v)[j] by simp [List.getD_eq_getElem?_getD, hj]]
  exact hc
theorem line_edge {g : Chg} {out : List (Int × Int)} (hp : Par g out) : ∀ r ∈ out.drop 1, r.2 ∈ edgesAt g r.1 ∧ ∃ y ∈ out.map (·.1), y = other g r.1 r.2 := by
  intro r hr
  obtain ⟨j, hj, rfl⟩ := List.getElem_of_mem hr
  rw [List.getElem_drop]
  have hjl : 1 + j < out.length := by simp at hj; omega
  obtain ⟨i, h1, h2, h3⟩ := hp (1 + j) (by omega) hjl
  have e : out.getD (1 + j) (0, 0) = out[1 + j] := by simp [List.getD_eq_getElem?_getD, hjl]
  rw [e] at h2 h3
  have := edges_other h2
  rw [h3] at this
  refine ⟨this.1, (out.getD i (0, 0)).1, ?_, this.2.symm⟩
  have hil : i < out.length := by omega
  rw [show out.getD i (0, 0) = out[i] by simp [List.getD_eq_getElem?_getD, hil]]
  exact List.mem_map.2 ⟨_, List.getElem_mem hil, rfl⟩
theorem line_nodup {g : Chg} {out : List (Int × Int)} (ho : LinOk g out) (hp : Par g out) : ((out.drop 1).map (·.2)).Nodup := by
  have hnd := ho.nd
  unfold List.Nodup at hnd ⊢
  rw [List.pairwise_iff_getElem] at hnd ⊢
  intro a b ha hb hab
  simp only [List.getElem_map, List.getElem_drop]
  simp only [List.length_map, List.length_drop] at ha hb
  intro he
  obtain ⟨i, h1, h2, h3⟩ := hp (1 + a) (by omega) (by omega)
  obtain ⟨i', h1', h2', h3'⟩ := hp (1 + b) (by omega) (by omega)
  have gd : ∀ k (hk : k < out.length), out.getD k (0, 0) = out[k] := fun k hk => by simp [List.getD_eq_getElem?_getD, hk]
  rw [gd _ (by omega), gd _ (by omega)] at h2 h3 h2' h3'
  have hm := edges_other h2'
  rw [h3', ← he] at hm
  have ne : ∀ i j (hi : i < out.length) (hj : j < out.length), i < j → out[i].1 ≠ out[j].1 := fun i j hi hj hij => by
    have := hnd i j (by simpa using hi) (by simpa using hj) hij
    simpa using this
  rcases edges_two h2 hm.1 with h | h
  · exact ne i (1 + b) (by omega) (by omega) (by omega) h.symm
  · rw [h3] at h; exact ne (1 + a) (1 + b) (by omega) (by omega) (by omega) h.symm
end Abs.Y
