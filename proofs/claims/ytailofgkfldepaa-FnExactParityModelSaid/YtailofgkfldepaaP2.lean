/- What functions of this program compute, as contracts over plain data, with what the proofs need of them. No condition. -/
import Derived.Test.YtailofgkfldepaaP1
import Derived.Test.YtailofgkfldepaaAbsBits
set_option linter.all false
namespace Abs.Y
open Go Go.Proofs Abs
set_option maxRecDepth 100000

/-! ### All lines -/
/-- The order in which the vertices but the starts are met. -/
def seqI (ls : List (List (Int × Int))) : List (Int × Int) := ls.flatMap fun l => (l.drop 1).reverse
theorem seqI_app (ls : List (List (Int × Int))) (l : List (Int × Int)) : seqI (ls ++ [l]) = seqI ls ++ (l.drop 1).reverse := by simp [seqI]
structure LinesOk (g : Chg) (k : Nat) (p : List Int × List (List (Int × Int))) : Prop where
  closed : ClosedV g p.1
  all : ∀ u : Nat, u < k → (u : Int) ∈ p.1
  line : ∀ l ∈ p.2, ∃ v : Int, (0 ≤ v ∧ v < g.n) ∧ l = lineI g v ∧ ∀ x ∈ l.map (·.1), v ≤ x
  nd : ((seqI p.2).map (·.2)).Nodup
  ends : ∀ r ∈ seqI p.2, r.2 ∈ edgesAt g r.1 ∧ r.1 ∈ p.1
  vx : ∀ r ∈ seqI p.2, 0 ≤ r.1 ∧ r.1 < g.n
theorem linesL_ok {g : Chg} (hg : goodC g = true) : ∀ k, k ≤ g.n.toNat → LinesOk g k (linesL g k)
  | 0, _ => ⟨fun x hx => by simp [linesL] at hx, by omega, fun l hl => by simp [linesL] at hl, by simp [linesL, seqI], fun r hr => by simp [linesL, seqI] at hr, fun r hr => by simp [linesL, seqI] at hr⟩
  | k + 1, hk => by
    have ih := linesL_ok hg k (by omega)
    rw [linesL_succ]
    generalize linesL g k = p at *
    unfold stepS
    split
    · rename_i h
      refine ⟨ih.closed, fun u hu => ?_, ih.line, ih.nd, ih.ends, ih.vx⟩
      by_cases e : u = k
      · subst e; exact h
      · exact ih.all u (by omega)
    · rename_i h
      have hv : 0 ≤ ((k : Nat) : Int) ∧ ((k : Nat) : Int) < g.n := by omega
      obtain ⟨h1, h2, h3, h4⟩ := lineI_spec hg hv
      have hcon := line_conn hg hv ih.closed
      have hno : ∀ x ∈ (lineI g (k : Int)).map (·.1), x ∉ p.1 := fun x hx hc => h (hcon x hx hc)
      obtain ⟨t, ht⟩ := line_head h4
      have hdm : ∀ r ∈ (lineI g (k : Int)).drop 1, r.1 ∈ (lineI g (k : Int)).map (·.1) := fun r hr => List.mem_map.2 ⟨r, List.mem_of_mem_drop hr, rfl⟩
      refine ⟨fun x hx e he => ?_, fun u hu => ?_, fun l hl => ?_, ?_, fun r hr => ?_, fun r hr => ?_⟩
      · rcases List.mem_append.1 hx with hx | hx
        · exact List.mem_append_left _ (ih.closed x hx e he)
        · exact List.mem_append_right _ (h3 x hx e he)
      · by_cases e : u = k
        · subst e; refine List.mem_append_right _ ?_; rw [ht]; simp
        · exact List.mem_append_left _ (ih.all u (by omega))
      · rcases List.mem_append.1 hl with hl | hl
        · exact ih.line l hl
        · rw [List.mem_singleton.1 hl]
          refine ⟨k, hv, rfl, fun x hx => ?_⟩
          obtain ⟨r, hr, rfl⟩ := List.mem_map.1 hx
          have hr0 := h1.vx r hr
          by_cases hlt : (k : Int) ≤ r.1
          · exact hlt
          · have := ih.all r.1.toNat (by omega)
            rw [show ((r.1.toNat : Nat) : Int) = r.1 by omega] at this
            exact absurd this (hno _ hx)
      · rw [seqI_app, List.map_append, List.nodup_append]
        refine ⟨ih.nd, ?_, fun a ha b hb e => ?_⟩
        · rw [List.map_reverse]; exact List.pairwise_reverse.2 ((line_nodup h1 h2).imp Ne.symm)
        · subst e
          obtain ⟨r, hr, rfl⟩ := List.mem_map.1 ha
          obtain ⟨r', hr', he⟩ := List.mem_map.1 hb
          have hr' := List.mem_reverse.1 hr'
          obtain ⟨a1, y, hy, a2⟩ := line_edge h2 r' hr'
          have b1 := ih.ends r hr
          rw [he] at a1 a2
          have hc1 := hdm r' hr'
          rcases edges_two b1.1 a1 with e1 | e1
          · rw [e1] at hc1; exact hno _ hc1 b1.2
          · rw [e1] at hc1; exact hno _ hc1 (ih.closed _ b1.2 _ b1.1)
      · rw [seqI_app] at hr
        rcases List.mem_append.1 hr with hr | hr
        · exact ⟨(ih.ends r hr).1, List.mem_append_left _ (ih.ends r hr).2⟩
        · have hr := List.mem_reverse.1 hr
          exact ⟨(line_edge h2 r hr).1, List.mem_append_right _ (hdm r hr)⟩
      · rw [seqI_app] at hr
        rcases List.mem_append.1 hr with hr | hr
        · exact ih.vx r hr
        · exact h1.vx r (List.mem_of_mem_drop (List.mem_reverse.1 hr))
/-! ### The bits -/
def sumW (g : Chg) (b : Nat) (ks : List Int) : Int := ks.foldl (fun s k => s + bitI b k.toNat) 0
def wrongB (g : Chg) (v : Int) (b : Nat) : Bool := decide (Int.tmod (g.ch.getD v.toNat 0 + sumW g b (edgesAt g v)) 2 = 1)
def stO (g : Chg) (b : Nat) (r : Int × Int) : Nat := if wrongB g r.1 b then b ||| 2 ^ r.2.toNat else b
def stP (g : Chg) (b : Nat) (r : Int × Int) : Nat := if wrongB g r.1 b then b + 2 ^ r.2.toNat else b
theorem stO_eq (g : Chg) (m : Nat) (hm : m ≤ 62) : ∀ (E : List (Int × Int)) (b : Nat), (E.map (·.2)).Nodup → (∀ r ∈ E, 0 ≤ r.2 ∧ r.2.toNat < m) → b < 2 ^ m → (∀ r ∈ E, b.testBit r.2.toNat = false) →
    E.foldl (stO g) b = E.foldl (stP g) b ∧ E.foldl (stO g) b < 2 ^ m
  | [], b, _, _, hb, _ => ⟨rfl, hb⟩
  | r :: E, b, hn, he, hb, ht => by
    rw [List.map_cons, List.nodup_cons] at hn
    have hr := he r (by simp)
    have hp : 2 ^ r.2.toNat < 2 ^ m := Nat.pow_lt_pow_right (by decide) hr.2
    have hm2 : 2 ^ m ≤ 2 ^ 62 := Nat.pow_le_pow_right (by decide) hm
    have e1 : stP g b r = stO g b r := by
      unfold stO stP; split
      · rw [or_add (ht r (by simp)) (by omega) (by omega)]
      · rfl
    have hlt : stO g b r < 2 ^ m := by
      unfold stO; split
      · exact Nat.or_lt_two_pow hb hp
      · exact hb
    simp only [List.foldl_cons, e1]
    refine stO_eq g m hm E _ hn.2 (fun x hx => he x (by simp [hx])) hlt fun x hx => ?_
    have hne : r.2.toNat ≠ x.2.toNat := fun e => by
      have := he x (by simp [hx])
      exact hn.1 (List.mem_map.2 ⟨x, hx, by omega⟩)
    have := ht x (by simp [hx])
    unfold stO; split
    · rw [Nat.testBit_or, this, Nat.testBit_two_pow, decide_eq_false hne]; rfl
    · exact this
/-- Before the end the same holds. -/
theorem foldl_take {α β : Type} (f : β → α → β) (b : β) (l : List α) (z : α) (i : Nat) (h : i < l.length) : (l.take (i + 1)).foldl f b = f ((l.take i).foldl f b) (l.getD i z) := by
  rw [take_succ z l i h, List.foldl_append]; rfl
end Abs.Y
