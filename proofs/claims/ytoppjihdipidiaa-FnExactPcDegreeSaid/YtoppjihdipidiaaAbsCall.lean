/- Calls of functions: what a contract says, and how its result comes into the caller's state. No condition. -/
import Derived.Test.YtoppjihdipidiaaAbsLv
set_option linter.all false
namespace Abs
open Go Go.RowKit

/-! ### Renaming a result's objects -/
mutual
def AV.shift (b : Nat) (oo : List (Nat × AO)) : AV → AV
  | .sl j => if (lk j oo).isSome then .sl (b + j) else .undef
  | .p j o => if (lk j oo).isSome then .p (b + j) o else .undef
  | .pe j k i o => if (lk j oo).isSome then .pe (b + j) k i o else .undef
  | .tup xs => .tup (AV.shiftL b oo xs)
  | .st xs => .st (AV.shiftL b oo xs)
  | .fn f cs => .fn f (AV.shiftL b oo cs)
  | .hdr _ _ => .undef
  | x => x
def AV.shiftL (b : Nat) (oo : List (Nat × AO)) : List AV → List AV
  | [] => []
  | x :: r => x.shift b oo :: AV.shiftL b oo r
end
theorem shiftL_length {b oo} : ∀ xs : List AV, (AV.shiftL b oo xs).length = xs.length
  | [] => rfl
  | x :: r => by simp [AV.shiftL, shiftL_length r]
theorem shiftL_getD {b oo} : ∀ (xs : List AV) (i : Nat), (AV.shiftL b oo xs).getD i .undef = (xs.getD i .undef).shift b oo
  | [], i => by simp [AV.shiftL, AV.shift]
  | x :: r, 0 => by simp [AV.shiftL]
  | x :: r, i + 1 => by simpa [AV.shiftL] using shiftL_getD r i
def AO.shift (b : Nat) (oo : List (Nat × AO)) : AO → AO
  | .box e cells => .box e (AV.shiftL b oo cells)
  | .dp t es (some (c, some d)) => .dp t es (if (lk d oo).isSome then some (c, some (b + d)) else some (c, none))
  | x => x
def shiftA (b : Nat) (oo : List (Nat × AO)) : List (Nat × AO) → List (Nat × AO)
  | [] => []
  | (k, v) :: r => (b + k, v.shift b oo) :: shiftA b oo r
def shiftO (b : Nat) (oo : List (Nat × AO)) : List (Nat × AO) := shiftA b oo oo

theorem lk_shiftA {b oo} (k : Nat) : ∀ l : List (Nat × AO), lk k (shiftA b oo l) = if b ≤ k then (lk (k - b) l).map (AO.shift b oo) else none
  | [] => by simp [shiftA, lk]
  | (j, v) :: r => by
    simp only [shiftA, lk, lk_shiftA k r]
    by_cases h : b ≤ k
    · simp only [if_pos h]
      by_cases e : k - b = j
      · rw [if_pos (by omega), if_pos e]; rfl
      · rw [if_neg (by omega), if_neg e]
    · rw [if_neg h, if_neg h, if_neg (by omega)]

def insAll : List (Nat × AO) → List (Nat × AO) → List (Nat × AO)
  | [], o => o
  | (k, v) :: r, o => ins k v (insAll r o)
theorem lk_insAll (i : Nat) : ∀ (l o : List (Nat × AO)), lk i (insAll l o) = match lk i l with | some x => some x | none => lk i o
  | [], o => rfl
  | (k, v) :: r, o => by
    simp only [insAll, lk_ins, lk]
    split
    · rfl
    · exact lk_insAll i r o


section
variable {P : Program} {Z : Nat → Prop} {β : Nat → Value} {φ : Nat → Nat → Prop} {N B : Nat} {M : Nat → Prop} {w0 : World} {st : St} {a : Act} {w : World}

theorem SimB.killL {β' : Nat → Value} {φ' : Nat → Nat → Prop} : ∀ {ks : List Nat} {β : Nat → Value} {φ : Nat → Nat → Prop} {st : St}, SimB Z β φ N B M w0 st a w → (∀ i, i ∉ ks → β' i = β i) → (∀ i, i ∉ ks → φ' i = φ i) → SimB Z β' φ' N B M w0 (killL ks st) a w
  | [], β, φ, st, h, he, hf => by
    have : β' = β := funext fun i => he i (by simp)
    have h2 : φ' = φ := funext fun i => hf i (by simp)
    rw [this, h2]; exact h
  | k :: r, β, φ, st, h, he, hf => by
    have h1 := h.kill (β' := upd β k (β' k)) (φ' := updF φ k (φ' k)) k upd_ne updF_ne
    refine SimB.killL (ks := r) h1 (fun i hi => ?_) fun i hi => ?_
    · by_cases e : i = k
      · subst e; rw [upd_eq]
      · rw [upd_ne i e]; exact he i (by simp; exact ⟨e, hi⟩)
    · by_cases e : i = k
      · subst e; rw [updF_eq]
      · rw [updF_ne i e]; exact hf i (by simp; exact ⟨e, hi⟩)

/-- What a call leaves: a value, and new objects. -/
def ResRel (T : Nat → Prop) (lo : Nat) (w : World) (res : AV) (oo : List (Nat × AO)) (v : Value) : Prop :=
  ∃ β φ, Rel β (free T φ oo) w res v ∧ (∀ j o, lk j oo = some o → OK β (free T φ oo) w o (β j) (φ j)) ∧ (∀ j o g, lk j oo = some o → φ j g → lo ≤ g) ∧
    ∀ j j' o o' g, lk j oo = some o → lk j' oo = some o' → φ j g → φ j' g → j = j'

theorem Rel.shift {βr β'' : Nat → Value} {S : Nat → Prop} {b oo} (he : ∀ j, (lk j oo).isSome = true → β'' (b + j) = βr j) : ∀ {av v}, Rel βr S w av v → Rel β'' S w (av.shift b oo) v := by
  intro av v h
  induction h with
  | undef v => exact .undef v
  | d h => exact .d h
  | sl j =>
    simp only [AV.shift]; split
    · rename_i hh; rw [← he j hh]; exact .sl _
    · exact .undef _
  | p h =>
    simp only [AV.shift]; split
    · rename_i hh; exact .p ((he _ hh).trans h)
    · exact .undef _
  | pe h =>
    simp only [AV.shift]; split
    · rename_i hh; exact .pe ((he _ hh).trans h)
    · exact .undef _
  | tup hl _ ih => exact .tup (by rw [shiftL_length]; exact hl) fun i hi => by rw [shiftL_length] at hi; rw [shiftL_getD]; exact ih i hi
  | fn hl _ ih => exact .fn (by rw [shiftL_length]; exact hl) fun i hi => by rw [shiftL_length] at hi; rw [shiftL_getD]; exact ih i hi
  | e0n => exact .e0n
  | e0s ad => exact .e0s ad
  | hdr h => exact .undef _
  | nilS => exact .nilS
  | st hl _ ih => exact .st (by rw [shiftL_length]; exact hl) fun i hi => by rw [shiftL_length] at hi; rw [shiftL_getD]; exact ih i hi

theorem OK.shift {βr β'' : Nat → Value} {S : Nat → Prop} {b oo} (he : ∀ j, (lk j oo).isSome = true → β'' (b + j) = βr j) {o v F} (h : OK βr S w o v F) : OK β'' S w (o.shift b oo) v F := by
  cases h with
  | box hF xs hv hw hr => exact .box hF xs hv (by rw [shiftL_length]; exact hw) fun i hi => by rw [shiftL_length] at hi; rw [shiftL_getD]; exact (hr i hi).shift he
  | arr hF xs hk0 hk hw hr => exact .arr hF xs hk0 hk hw hr
  | arv hF xs hv hk0 hk hw hr => exact .arv hF xs hv hk0 hk hw hr
  | dp hlt h =>
    rename_i t es ho
    rcases h with ⟨rfl, rfl, rfl, h⟩ | ⟨e, k, xs, fs, ht, h⟩
    · exact .dp hlt (.inl ⟨rfl, rfl, rfl, h⟩)
    · rcases ho with _ | ⟨c, _ | d⟩
      · exact .dp hlt (.inr ⟨e, k, xs, fs, ht, { h with hh := fun _ _ h => by cases h }⟩)
      · exact .dp hlt (.inr ⟨e, k, xs, fs, ht, { h with hh := fun _ _ h => by cases h }⟩)
      · simp only [AO.shift]
        split
        · rename_i hd
          exact .dp hlt (.inr ⟨e, k, xs, fs, ht, { h with hr := fun i hi hn => h.hr i hi fun c' d' e => by cases e; exact hn _ _ rfl, hh := fun c' d' e => by cases e; rw [he _ hd]; exact h.hh _ _ rfl }⟩)
        · exact .dp hlt (.inr ⟨e, k, xs, fs, ht, { h with hr := fun i hi hn => h.hr i hi fun c' d' e => by cases e; exact hn _ none rfl, hh := fun _ _ h => by cases h }⟩)

/-- The caller's state behind a call. -/
def impSt (st : St) (d b : Nat) (res : AV) (oo : List (Nat × AO)) : St :=
  let st1 := Abs.killL (oo.map fun p => b + p.1) st
  ⟨ins d (res.shift b oo) st1.s, insAll (shiftO b oo) st1.o⟩

theorem lk_some_mem {α : Type} {k : Nat} : ∀ {l : List (Nat × α)} {v}, lk k l = some v → (k, v) ∈ l
  | (k', v') :: r, v, h => by
    simp only [lk] at h
    split at h
    · rename_i e; subst e; cases h; simp
    · exact List.mem_cons_of_mem _ (lk_some_mem h)
theorem SimB.imp (h : SimB Z β φ N B M w0 st a w) {w' : World} {T : Nat → Prop} {d b : Nat} {res oo v} (hf : Fr w.heap.size (fun _ => False) w w') (hr : ResRel T w.heap.size w' res oo v)
    (hT : ∀ g, T g → w.heap.size ≤ g ∨ free Z φ st.o g) (hd : d < N) : Sim Z N B M w0 (impSt st d b res oo) (a.put (some d) v) w' := by
  obtain ⟨βr, φr, hres, hobj, hlo, hdis⟩ := hr
  have hgrow : Gb w w' none := ⟨⟨hf.os, hf.tape, hf.output, hf.size, fun g hg _ => hf.block g hg (by simp)⟩, hf.drawn⟩
  let β'' : Nat → Value := fun k => if b ≤ k ∧ (lk (k - b) oo).isSome = true then βr (k - b) else β k
  let φ'' : Nat → Nat → Prop := fun k => if b ≤ k ∧ (lk (k - b) oo).isSome = true then φr (k - b) else φ k
  have hf' : ∀ j, (lk j oo).isSome = true → φ'' (b + j) = φr j := fun j hj => by
    show (if b ≤ b + j ∧ (lk (b + j - b) oo).isSome = true then φr (b + j - b) else φ (b + j)) = _
    have : b + j - b = j := by omega
    rw [this, if_pos ⟨by omega, hj⟩]
  have he : ∀ j, (lk j oo).isSome = true → β'' (b + j) = βr j := fun j hj => by
    show (if b ≤ b + j ∧ (lk (b + j - b) oo).isSome = true then βr (b + j - b) else β (b + j)) = _
    have : b + j - b = j := by omega
    rw [this, if_pos ⟨by omega, hj⟩]
  let ks := oo.map fun p => b + p.1
  have hnot : ∀ i, i ∉ ks → ¬ (b ≤ i ∧ (lk (i - b) oo).isSome = true) := fun i hi ⟨h1, h2⟩ => by
    obtain ⟨x, hx⟩ := Option.isSome_iff_exists.1 h2
    exact hi (List.mem_map.2 ⟨(i - b, x), lk_some_mem hx, by simp; omega⟩)
  have hk := h.killL (β' := β'') (φ' := φ'') (ks := ks) (fun i hi => if_neg (hnot i hi)) (fun i hi => if_neg (hnot i hi))
  have hkobj : ∀ {k o}, lk k (Abs.killL ks st).o = some o → φ'' k = φ k ∧ ∃ o', lk k st.o = some o' := fun {k o} hko => by
    obtain ⟨h1, h2⟩ := lk_killL hko
    exact ⟨if_neg (hnot k h1), h2⟩
  have hnewlk : ∀ {k o}, lk k (shiftO b oo) = some o → ∃ j x, k = b + j ∧ lk j oo = some x ∧ o = x.shift b oo := fun {k o} hko => by
    unfold shiftO at hko
    rw [lk_shiftA] at hko
    split at hko
    · obtain ⟨x, h1, h2⟩ := Option.map_eq_some_iff.1 hko
      exact ⟨k - b, x, by omega, h1, h2.symm⟩
    · cases hko
  have hall : ∀ {k o}, lk k (insAll (shiftO b oo) (Abs.killL ks st).o) = some o → (∃ j x, k = b + j ∧ lk j oo = some x ∧ o = x.shift b oo) ∨ lk k (Abs.killL ks st).o = some o := fun {k o} hko => by
    rw [lk_insAll] at hko
    split at hko
    · rename_i x hx; cases hko; exact .inl (hnewlk hx)
    · exact .inr hko
  have hblk : ∀ g, g < w.heap.size → w'.heap[g]? = w.heap[g]? := fun g hg => hf.block g hg (by simp)
  have hm : ∀ g, free Z φ'' (Abs.killL ks st).o g → g < w.heap.size → free Z φ'' (insAll (shiftO b oo) (Abs.killL ks st).o) g ∧ w'.heap[g]? = w.heap[g]? := fun g hg hlt => by
    refine ⟨⟨hg.1, fun k o hko => ?_⟩, hblk g hlt⟩
    rcases hall hko with ⟨j, x, rfl, hj, _⟩ | hko
    · rw [hf' j (by rw [hj]; rfl)]
      intro hgo; have := hlo j x g hj hgo; omega
    · exact hg.2 k o hko
  have hmT : ∀ g, free T φr oo g → g < w'.heap.size → free Z φ'' (insAll (shiftO b oo) (Abs.killL ks st).o) g ∧ w'.heap[g]? = w'.heap[g]? := fun g hg _ => by
    refine ⟨⟨?_, fun k o hko => ?_⟩, rfl⟩
    · rcases hT g hg.1 with h1 | h1
      · exact h.z g (.inl (Nat.le_trans h.fr.le h1))
      · exact h1.1
    · rcases hall hko with ⟨j, x, rfl, hj, _⟩ | hko
      · rw [hf' j (by rw [hj]; rfl)]; exact hg.2 j x hj
      · obtain ⟨e1, o', ho'⟩ := hkobj hko
        rw [e1]
        rcases hT g hg.1 with h1 | h1
        · intro hgo; have := (h.objs k o' ho').block_lt hgo; omega
        · exact h1.2 k o' ho'
  have hsim : SimB Z β'' φ'' N B M w0 ⟨(Abs.killL ks st).s, insAll (shiftO b oo) (Abs.killL ks st).o⟩ a w' := by
    refine ⟨hk.nd.move hm, hk.size, fun i av hi => (hk.slots i av hi).move hm, fun k o hko => ?_, fun k o g hko hgo => ?_, fun k k' o o' g hko hko' hgo hgo' => ?_, h.fr.grown hgrow (by simp), h.z⟩
    · rcases hall hko with ⟨j, x, rfl, hj, rfl⟩ | hko
      · show OK β'' _ w' _ (β'' (b + j)) (φ'' (b + j))
        rw [he j (by rw [hj]; rfl), hf' j (by rw [hj]; rfl)]
        exact ((hobj j x hj).shift he).move hmT (Nat.le_refl _) (fun _ _ => rfl)
      · exact (hk.objs k o hko).move hm hf.size fun g hgo => hblk g ((hk.objs k o hko).block_lt hgo)
    · rcases hall hko with ⟨j, x, rfl, hj, _⟩ | hko
      · rw [hf' j (by rw [hj]; rfl)] at hgo
        exact .inl (Nat.le_trans h.fr.le (hlo j x g hj hgo))
      · exact hk.own k o g hko hgo
    · rcases hall hko with ⟨j, x, rfl, hj, _⟩ | hko <;> rcases hall hko' with ⟨j', x', rfl, hj', _⟩ | hko'
      · rw [hf' j (by rw [hj]; rfl)] at hgo
        rw [hf' j' (by rw [hj']; rfl)] at hgo'
        rw [hdis j j' x x' g hj hj' hgo hgo']
      · rw [hf' j (by rw [hj]; rfl)] at hgo
        have h1 := hlo j x g hj hgo
        have h2 := (hk.objs k' o' hko').block_lt hgo'
        omega
      · rw [hf' j' (by rw [hj']; rfl)] at hgo'
        have h1 := hlo j' x' g hj' hgo'
        have h2 := (hk.objs k o hko).block_lt hgo
        omega
      · exact hk.disj k k' o o' g hko hko' hgo hgo'
  refine ⟨β'', φ'', hsim.put (dst := some d) (fun _ e => by cases e; exact hd) ?_⟩
  exact (hres.shift he).move hmT
end
end Abs
