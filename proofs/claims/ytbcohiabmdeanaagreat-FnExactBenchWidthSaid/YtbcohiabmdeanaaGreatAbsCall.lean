/- Calls of functions: what a contract says, and how its result comes into the caller's state. No condition. -/
import Derived.Test.YtbcohiabmdeanaaGreatAbsLv
set_option linter.all false
namespace Abs
open Go Go.RowKit

/-! ### Renaming a result's objects -/
mutual
def AV.shift (b : Nat) (oo : List (Nat × AO)) : AV → AV
  | .sl j => if (lk j oo).isSome then .sl (b + j) else .undef
  | .p j o => if (lk j oo).isSome then .p (b + j) o else .undef
  | .pe j k i o => if (lk j oo).isSome then .pe (b + j) k i o else .undef
  | .tup xs => .tup (AV.shiftL b oo xs)
  | .fn f cs => .fn f (AV.shiftL b oo cs)
  | .hdr _ _ => .undef
  | x => x
def AV.shiftL (b : Nat) (oo : List (Nat × AO)) : List AV → List AV
  | [] => []
  | x :: r => x.shift b oo :: AV.shiftL b oo r
end
theorem shiftL_length {b oo} : ∀ xs : List AV, (AV.shiftL b oo xs).length = xs.length
  | [] => rfl
  | x :: r => by simp [AV.shiftL, shiftL_length r]
theorem shiftL_getD {b oo} : ∀ (xs : List AV) (i : Nat), (AV.shiftL b oo xs).getD i .undef = (xs.getD i .undef).shift b oo
  | [], i => by simp [AV.shiftL, AV.shift]
  | x :: r, 0 => by simp [AV.shiftL]
  | x :: r, i + 1 => by simpa [AV.shiftL] using shiftL_getD r i
def AO.shift (b : Nat) (oo : List (Nat × AO)) : AO → AO
  | .box e cells => .box e (AV.shiftL b oo cells)
  | x => x
def shiftA (b : Nat) (oo : List (Nat × AO)) : List (Nat × AO) → List (Nat × AO)
  | [] => []
  | (k, v) :: r => (b + k, v.shift b oo) :: shiftA b oo r
def shiftO (b : Nat) (oo : List (Nat × AO)) : List (Nat × AO) := shiftA b oo oo

theorem lk_shiftA {b oo} (k : Nat) : ∀ l : List (Nat × AO), lk k (shiftA b oo l) = if b ≤ k then (lk (k - b) l).map (AO.shift b oo) else none
  | [] => by simp [shiftA, lk]
  | (j, v) :: r => by
    simp only [shiftA, lk, lk_shiftA k r]
    by_cases h : b ≤ k
    · simp only [if_pos h]
      by_cases e : k - b = j
      · rw [if_pos (by omega), if_pos e]; rfl
      · rw [if_neg (by omega), if_neg e]
    · rw [if_neg h, if_neg h, if_neg (by omega)]

def insAll : List (Nat × AO) → List (Nat × AO) → List (Nat × AO)
  | [], o => o
  | (k, v) :: r, o => ins k v (insAll r o)
theorem lk_insAll (i : Nat) : ∀ (l o : List (Nat × AO)), lk i (insAll l o) = match lk i l with | some x => some x | none => lk i o
  | [], o => rfl
  | (k, v) :: r, o => by
    simp only [insAll, lk_ins, lk]
    split
    · rfl
    · exact lk_insAll i r o

def killL : List Nat → St → St
  | [], st => st
  | k :: r, st => killL r (st.kill k)
theorem lk_killL {k : Nat} : ∀ {ks : List Nat} {st : St} {o}, lk k (killL ks st).o = some o → k ∉ ks ∧ ∃ o', lk k st.o = some o'
  | [], st, o, h => ⟨by simp, o, h⟩
  | j :: r, st, o, h => by
    obtain ⟨h1, o', h2⟩ := lk_killL (ks := r) (st := st.kill j) h
    obtain ⟨h3, o2, h4, _⟩ := lk_wipeO h2
    exact ⟨by simp; exact ⟨h3, h1⟩, o2, h4⟩

section
variable {P : Program} {Z : Nat → Prop} {β : Nat → Value} {N B : Nat} {M : Nat → Prop} {w0 : World} {st : St} {a : Act} {w : World}

theorem SimB.killL {β' : Nat → Value} : ∀ {ks : List Nat} {β : Nat → Value} {st : St}, SimB Z β N B M w0 st a w → (∀ i, i ∉ ks → β' i = β i) → SimB Z β' N B M w0 (killL ks st) a w
  | [], β, st, h, he => by
    have : β' = β := funext fun i => he i (by simp)
    rw [this]; exact h
  | k :: r, β, st, h, he => by
    have h1 := h.kill (β' := upd β k (β' k)) k upd_ne
    refine SimB.killL (ks := r) h1 fun i hi => ?_
    by_cases e : i = k
    · subst e; rw [upd_eq]
    · rw [upd_ne i e]; exact he i (by simp; exact ⟨e, hi⟩)

/-- What a call leaves: a value, and new objects. -/
def ResRel (T : Nat → Prop) (lo : Nat) (w : World) (res : AV) (oo : List (Nat × AO)) (v : Value) : Prop :=
  ∃ β, Rel β (free T β oo) w res v ∧ (∀ j o, lk j oo = some o → OK β (free T β oo) w o (β j)) ∧ (∀ j o g, lk j oo = some o → (β j).ownBlock = some g → lo ≤ g) ∧
    ∀ j j' o o' g, lk j oo = some o → lk j' oo = some o' → (β j).ownBlock = some g → (β j').ownBlock = some g → j = j'

theorem Rel.shift {βr β'' : Nat → Value} {S : Nat → Prop} {b oo} (he : ∀ j, (lk j oo).isSome = true → β'' (b + j) = βr j) : ∀ {av v}, Rel βr S w av v → Rel β'' S w (av.shift b oo) v := by
  intro av v h
  induction h with
  | undef v => exact .undef v
  | d h => exact .d h
  | sl j =>
    simp only [AV.shift]; split
    · rename_i hh; rw [← he j hh]; exact .sl _
    · exact .undef _
  | p h =>
    simp only [AV.shift]; split
    · rename_i hh; exact .p ((he _ hh).trans h)
    · exact .undef _
  | pe h =>
    simp only [AV.shift]; split
    · rename_i hh; exact .pe ((he _ hh).trans h)
    · exact .undef _
  | tup hl _ ih => exact .tup (by rw [shiftL_length]; exact hl) fun i hi => by rw [shiftL_length] at hi; rw [shiftL_getD]; exact ih i hi
  | fn hl _ ih => exact .fn (by rw [shiftL_length]; exact hl) fun i hi => by rw [shiftL_length] at hi; rw [shiftL_getD]; exact ih i hi
  | e0n => exact .e0n
  | e0s ad => exact .e0s ad
  | hdr h => exact .undef _
  | nilS => exact .nilS

theorem OK.shift {βr β'' : Nat → Value} {S : Nat → Prop} {b oo} (he : ∀ j, (lk j oo).isSome = true → β'' (b + j) = βr j) {o v} (h : OK βr S w o v) : OK β'' S w (o.shift b oo) v := by
  cases h with
  | box xs hv hw hr => exact .box xs hv (by rw [shiftL_length]; exact hw) fun i hi => by rw [shiftL_length] at hi; rw [shiftL_getD]; exact (hr i hi).shift he
  | arr xs hk0 hk hw hr => exact .arr xs hk0 hk hw hr
  | arv xs hv hk0 hk hw hr => exact .arv xs hv hk0 hk hw hr

/-- The caller's state behind a call. -/
def impSt (st : St) (d b : Nat) (res : AV) (oo : List (Nat × AO)) : St :=
  let st1 := Abs.killL (oo.map fun p => b + p.1) st
  ⟨ins d (res.shift b oo) st1.s, insAll (shiftO b oo) st1.o⟩

theorem lk_some_mem {α : Type} {k : Nat} : ∀ {l : List (Nat × α)} {v}, lk k l = some v → (k, v) ∈ l
  | (k', v') :: r, v, h => by
    simp only [lk] at h
    split at h
    · rename_i e; subst e; cases h; simp
    · exact List.mem_cons_of_mem _ (lk_some_mem h)
theorem lk_of_mem {α : Type} {k : Nat} : ∀ {l : List (Nat × α)}, k ∈ l.map (·.1) → ∃ v, lk k l = some v
  | (k', v') :: r, h => by
    simp only [lk]
    split
    · exact ⟨_, rfl⟩
    · rename_i e
      simp only [List.map_cons, List.mem_cons] at h
      exact lk_of_mem (h.resolve_left e)

theorem SimB.imp (h : SimB Z β N B M w0 st a w) {w' : World} {T : Nat → Prop} {d b : Nat} {res oo v} (hf : Fr w.heap.size (fun _ => False) w w') (hr : ResRel T w.heap.size w' res oo v)
    (hT : ∀ g, T g → w.heap.size ≤ g ∨ free Z β st.o g) (hd : d < N) : Sim Z N B M w0 (impSt st d b res oo) (a.put (some d) v) w' := by
  obtain ⟨βr, hres, hobj, hlo, hdis⟩ := hr
  have hgrow : w.grownBy w' none := ⟨hf.os, hf.tape, hf.output, hf.size, fun g hg _ => hf.block g hg (by simp)⟩
  let β'' : Nat → Value := fun k => if b ≤ k ∧ (lk (k - b) oo).isSome = true then βr (k - b) else β k
  have he : ∀ j, (lk j oo).isSome = true → β'' (b + j) = βr j := fun j hj => by
    show (if b ≤ b + j ∧ (lk (b + j - b) oo).isSome = true then βr (b + j - b) else β (b + j)) = _
    have : b + j - b = j := by omega
    rw [this, if_pos ⟨by omega, hj⟩]
  let ks := oo.map fun p => b + p.1
  have hk := h.killL (β' := β'') (ks := ks) fun i hi => by
    show (if b ≤ i ∧ (lk (i - b) oo).isSome = true then βr (i - b) else β i) = β i
    rw [if_neg]
    rintro ⟨h1, h2⟩
    obtain ⟨x, hx⟩ := Option.isSome_iff_exists.1 h2
    exact hi (List.mem_map.2 ⟨(i - b, x), lk_some_mem hx, by simp; omega⟩)
  have hkobj : ∀ {k o}, lk k (Abs.killL ks st).o = some o → β'' k = β k ∧ ∃ o', lk k st.o = some o' := fun {k o} hko => by
    obtain ⟨h1, h2⟩ := lk_killL hko
    refine ⟨?_, h2⟩
    show (if b ≤ k ∧ (lk (k - b) oo).isSome = true then βr (k - b) else β k) = β k
    rw [if_neg]
    rintro ⟨h3, h4⟩
    obtain ⟨x, hx⟩ := Option.isSome_iff_exists.1 h4
    exact h1 (List.mem_map.2 ⟨(k - b, x), lk_some_mem hx, by simp; omega⟩)
  have hnewlk : ∀ {k o}, lk k (shiftO b oo) = some o → ∃ j x, k = b + j ∧ lk j oo = some x ∧ o = x.shift b oo := fun {k o} hko => by
    unfold shiftO at hko
    rw [lk_shiftA] at hko
    split at hko
    · obtain ⟨x, h1, h2⟩ := Option.map_eq_some_iff.1 hko
      exact ⟨k - b, x, by omega, h1, h2.symm⟩
    · cases hko
  have hall : ∀ {k o}, lk k (insAll (shiftO b oo) (Abs.killL ks st).o) = some o → (∃ j x, k = b + j ∧ lk j oo = some x ∧ o = x.shift b oo) ∨ lk k (Abs.killL ks st).o = some o := fun {k o} hko => by
    rw [lk_insAll] at hko
    split at hko
    · rename_i x hx; cases hko; exact .inl (hnewlk hx)
    · exact .inr hko
  have hblk : ∀ g, g < w.heap.size → w'.heap[g]? = w.heap[g]? := fun g hg => hf.block g hg (by simp)
  have hm : ∀ g, free Z β'' (Abs.killL ks st).o g → g < w.heap.size → free Z β'' (insAll (shiftO b oo) (Abs.killL ks st).o) g ∧ w'.heap[g]? = w.heap[g]? := fun g hg hlt => by
    refine ⟨⟨hg.1, fun k o hko => ?_⟩, hblk g hlt⟩
    rcases hall hko with ⟨j, x, rfl, hj, _⟩ | hko
    · rw [he j (by rw [hj]; rfl)]
      intro hgo; have := hlo j x g hj hgo; omega
    · exact hg.2 k o hko
  have hmT : ∀ g, free T βr oo g → g < w'.heap.size → free Z β'' (insAll (shiftO b oo) (Abs.killL ks st).o) g ∧ w'.heap[g]? = w'.heap[g]? := fun g hg _ => by
    refine ⟨⟨?_, fun k o hko => ?_⟩, rfl⟩
    · rcases hT g hg.1 with h1 | h1
      · exact h.z g (.inl (Nat.le_trans h.fr.le h1))
      · exact h1.1
    · rcases hall hko with ⟨j, x, rfl, hj, _⟩ | hko
      · rw [he j (by rw [hj]; rfl)]; exact hg.2 j x hj
      · obtain ⟨e1, o', ho'⟩ := hkobj hko
        rw [e1]
        rcases hT g hg.1 with h1 | h1
        · intro hgo; have := (h.objs k o' ho').block_lt hgo; omega
        · exact h1.2 k o' ho'
  have hsim : SimB Z β'' N B M w0 ⟨(Abs.killL ks st).s, insAll (shiftO b oo) (Abs.killL ks st).o⟩ a w' := by
    refine ⟨hk.nd, hk.size, fun i av hi => (hk.slots i av hi).move hm, fun k o hko => ?_, fun k o g hko hgo => ?_, fun k k' o o' g hko hko' hgo hgo' => ?_, h.fr.grown hgrow (by simp), h.z⟩
    · rcases hall hko with ⟨j, x, rfl, hj, rfl⟩ | hko
      · rw [he j (by rw [hj]; rfl)]
        exact ((hobj j x hj).shift he).move hmT (fun _ _ => rfl)
      · exact (hk.objs k o hko).move hm fun g hgo => hblk g ((hk.objs k o hko).block_lt hgo)
    · rcases hall hko with ⟨j, x, rfl, hj, _⟩ | hko
      · rw [he j (by rw [hj]; rfl)] at hgo
        exact .inl (Nat.le_trans h.fr.le (hlo j x g hj hgo))
      · exact hk.own k o g hko hgo
    · rcases hall hko with ⟨j, x, rfl, hj, _⟩ | hko <;> rcases hall hko' with ⟨j', x', rfl, hj', _⟩ | hko'
      · rw [he j (by rw [hj]; rfl)] at hgo
        rw [he j' (by rw [hj']; rfl)] at hgo'
        rw [hdis j j' x x' g hj hj' hgo hgo']
      · rw [he j (by rw [hj]; rfl)] at hgo
        have h1 := hlo j x g hj hgo
        have h2 := (hk.objs k' o' hko').block_lt hgo'
        omega
      · rw [he j' (by rw [hj']; rfl)] at hgo'
        have h1 := hlo j' x' g hj' hgo'
        have h2 := (hk.objs k o hko).block_lt hgo
        omega
      · exact hk.disj k k' o o' g hko hko' hgo hgo'
  refine ⟨β'', hsim.put (dst := some d) (fun _ e => by cases e; exact hd) ?_⟩
  exact (hres.shift he).move hmT
end
end Abs
