/- When a machine state (slots and memory) is one of an abstract state; the ways to change both together. No condition. -/
import Derived.Test.YtbcohiabmdeanaaGreatAbsData
set_option linter.all false
namespace Abs
open Go Go.RowKit

/-- The object o lies behind the header v. -/
inductive OK (β : Nat → Value) (S : Nat → Prop) (w : World) : AO → Value → Prop
  | box {e cells v} (xs : List Value) (hv : v ≠ .slice none 0 0) (hw : w.ownsRow 0 e cells.length v 1 xs)
      (hr : ∀ i, i < cells.length → Rel β S w (cells.getD i .undef) (xs.getD i Go.undef)) : OK β S w (.box e cells) v
  | arr {e k es v} (xs : List Value) (hk0 : 0 < k) (hk : ∀ x ∈ es, x.cells.length = k) (hw : w.ownsRow 0 e k v es.length xs)
      (hr : ∀ i, i < (flat es).length → Rd S w ((flat es).getD i .nilptr) (xs.getD i Go.undef)) : OK β S w (.arr e k es) v
  | arv {e k es v} (xs : List Value) (hv : v ≠ .slice none 0 0) (hk0 : 0 < k) (hk : ∀ x ∈ es, x.cells.length = k) (hw : w.ownsRow 0 e (flat es).length v 1 xs)
      (hr : ∀ i, i < (flat es).length → Rd S w ((flat es).getD i .nilptr) (xs.getD i Go.undef)) : OK β S w (.arv e k es) v

/-- The blocks of Z that are no object's. -/
def free (Z : Nat → Prop) (β : Nat → Value) (o : List (Nat × AO)) (g : Nat) : Prop := Z g ∧ ∀ j x, lk j o = some x → (β j).ownBlock ≠ some g

/-- Of the world w0 only blocks from B on and those of M may differ in w. -/
structure Fr (B : Nat) (M : Nat → Prop) (w0 w : World) : Prop where
  os : w.os = w0.os
  tape : w.tape = w0.tape
  output : w.output = w0.output
  le : B ≤ w.heap.size
  size : w0.heap.size ≤ w.heap.size
  block : ∀ g, g < B → ¬ M g → w.heap[g]? = w0.heap[g]?

structure SimB (Z : Nat → Prop) (β : Nat → Value) (N B : Nat) (M : Nat → Prop) (w0 : World) (st : St) (a : Act) (w : World) : Prop where
  nd : a.defers = []
  size : a.tmps.size = N
  slots : ∀ i av, lk i st.s = some av → Rel β (free Z β st.o) w av (a.tmps.getD i Go.undef)
  objs : ∀ j o, lk j st.o = some o → OK β (free Z β st.o) w o (β j)
  own : ∀ j o g, lk j st.o = some o → (β j).ownBlock = some g → B ≤ g ∨ M g
  disj : ∀ j j' o o' g, lk j st.o = some o → lk j' st.o = some o' → (β j).ownBlock = some g → (β j').ownBlock = some g → j = j'
  fr : Fr B M w0 w
  z : ∀ g, B ≤ g ∨ M g → Z g

def Sim (Z : Nat → Prop) (N B : Nat) (M : Nat → Prop) (w0 : World) (st : St) (a : Act) (w : World) : Prop := ∃ β, SimB Z β N B M w0 st a w

theorem Fr.drawn {B M w0 w} (h : Fr B M w0 w) (n : Nat) : Fr B M w0 { w with drawn := n } := ⟨h.os, h.tape, h.output, h.le, h.size, h.block⟩
theorem Fr.grown {B M w0 w w'} {row : Option Nat} (h : Fr B M w0 w) (hg : w.grownBy w' row) (hr : ∀ g, row = some g → B ≤ g ∨ M g) : Fr B M w0 w' := by
  refine ⟨hg.os.trans h.os, hg.tape.trans h.tape, hg.output.trans h.output, Nat.le_trans h.le hg.size, Nat.le_trans h.size hg.size, fun g hgB hgM => ?_⟩
  rw [hg.block g (Nat.lt_of_lt_of_le hgB h.le) (fun e => ?_)]
  · exact h.block g hgB hgM
  · rcases hr g e.symm with h' | h'
    · omega
    · exact hgM h'

theorem ownsRow_same {w w' : World} {base e size v n xs} (h : w.ownsRow base e size v n xs) (hb : ∀ g, v.ownBlock = some g → w'.heap[g]? = w.heap[g]?) : w'.ownsRow base e size v n xs := by
  refine ⟨h.1, ?_⟩
  rcases h.2 with hn | ⟨g, cap, cur, rfl, hbg, hg, rest⟩
  · exact .inl hn
  · exact .inr ⟨g, cap, cur, rfl, hbg, (hb g rfl).trans hg, rest⟩

theorem OK.move {β : Nat → Value} {S S' : Nat → Prop} {w w' : World} (hm : ∀ g, S g → g < w.heap.size → S' g ∧ w'.heap[g]? = w.heap[g]?)
    {o v} (hb : ∀ g, v.ownBlock = some g → w'.heap[g]? = w.heap[g]?) (h : OK β S w o v) : OK β S' w' o v := by
  cases h with
  | box xs hv hw hr => exact .box xs hv (ownsRow_same hw hb) fun i hi => (hr i hi).move hm
  | arr xs hk0 hk hw hr => exact .arr xs hk0 hk (ownsRow_same hw hb) fun i hi => (hr i hi).move hm
  | arv xs hv hk0 hk hw hr => exact .arv xs hv hk0 hk (ownsRow_same hw hb) fun i hi => (hr i hi).move hm

theorem OK.block_lt {β S w o v} (h : OK β S w o v) {g} (hg : v.ownBlock = some g) : g < w.heap.size := by
  cases h with
  | box xs hv hw hr => exact (hw.lt g hg).2
  | arr xs hk0 hk hw hr => exact (hw.lt g hg).2
  | arv xs hv hk0 hk hw hr => exact (hw.lt g hg).2

/-- A world in which nothing of what was there but blocks outside has changed. -/
theorem SimB.grown {Z β N B M w0 st a w w'} (h : SimB Z β N B M w0 st a w) (hg : w.grownBy w' none) : SimB Z β N B M w0 st a w' := by
  have hb : ∀ g, g < w.heap.size → w'.heap[g]? = w.heap[g]? := fun g hlt => hg.block g hlt (by simp)
  exact ⟨h.nd, h.size, fun i av hi => (h.slots i av hi).move fun g hg' hlt => ⟨hg', hb g hlt⟩,
    fun j o hj => (h.objs j o hj).move (fun g hg' hlt => ⟨hg', hb g hlt⟩) (fun g hgo => hb g ((h.objs j o hj).block_lt hgo)), h.own, h.disj, h.fr.grown hg (by simp), h.z⟩

/-- A draw. -/
theorem SimB.drawn {Z β N B M w0 st a w} (h : SimB Z β N B M w0 st a w) (n : Nat) : SimB Z β N B M w0 st a { w with drawn := n } :=
  h.grown ⟨rfl, rfl, rfl, Nat.le_refl _, fun _ _ _ => rfl⟩

/-- A slot is set. -/
def St.put (st : St) (dst : Option Nat) (v : AV) : St :=
  match dst with
  | some d => { st with s := ins d v st.s }
  | none => st

theorem SimB.put {Z β N B M w0 st a w} (h : SimB Z β N B M w0 st a w) {dst : Option Nat} {v : AV} {u : Value} (hd : ∀ d, dst = some d → d < N)
    (hr : Rel β (free Z β st.o) w v u) : SimB Z β N B M w0 (st.put dst v) (a.put dst u) w := by
  cases dst with
  | none => exact h
  | some d =>
    refine ⟨h.nd, by simp [Act.put, h.size], fun i av hi => ?_, h.objs, h.own, h.disj, h.fr, h.z⟩
    have hi' : lk i (ins d v st.s) = some av := hi
    rw [lk_ins] at hi'
    have hdN := hd d rfl
    split at hi'
    · rename_i e
      subst e
      cases hi'
      have : (a.put (some i) u).tmps.getD i Go.undef = u := by simp [Act.put, h.size, hdN]
      rw [this]; exact hr
    · rename_i hne
      have : (a.put (some d) u).tmps.getD i Go.undef = a.tmps.getD i Go.undef := by
        simp [Act.put, Array.getElem?_setIfInBounds_ne (Ne.symm hne)]
      rw [this]; exact h.slots i av hi'

/-- Slots are forgotten. -/
theorem SimB.sub {Z β N B M w0 st a w} (h : SimB Z β N B M w0 st a w) {s' : List (Nat × AV)} (hs : ∀ i av, lk i s' = some av → av = .undef ∨ lk i st.s = some av) :
    SimB Z β N B M w0 { st with s := s' } a w :=
  ⟨h.nd, h.size, fun i av hi => by
    rcases hs i av hi with rfl | h'
    · exact .undef _
    · exact h.slots i av h', h.objs, h.own, h.disj, h.fr, h.z⟩

/-! ### An object is forgotten -/
mutual
def AV.has (j : Nat) : AV → Bool
  | .sl i => i == j
  | .p i _ => i == j
  | .pe i _ _ _ => i == j
  | .tup xs => AV.hasL j xs
  | .fn _ cs => AV.hasL j cs
  | .hdr i _ => i == j
  | _ => false
def AV.hasL (j : Nat) : List AV → Bool
  | [] => false
  | x :: r => x.has j || AV.hasL j r
end
theorem AV.hasL_getD {j : Nat} : ∀ {xs : List AV}, AV.hasL j xs = false → ∀ i, (xs.getD i .undef).has j = false
  | [], _, i => by simp [AV.has]
  | x :: r, h, i => by
    simp only [AV.hasL, Bool.or_eq_false_iff] at h
    cases i with
    | zero => simpa using h.1
    | succ i => simpa using AV.hasL_getD h.2 i

/-- A value that does not name j does not care what j is. -/
theorem Rel.other {β β' : Nat → Value} {S w} {j : Nat} (hβ : ∀ i, i ≠ j → β' i = β i) : ∀ {av v}, Rel β S w av v → av.has j = false → Rel β' S w av v := by
  intro av v h
  induction h with
  | undef v => exact fun _ => .undef v
  | d h => exact fun _ => .d h
  | sl i => intro hh; simp [AV.has] at hh; rw [← hβ i hh]; exact .sl i
  | p h => intro hh; simp [AV.has] at hh; exact .p ((hβ _ hh).trans h)
  | pe h => intro hh; simp [AV.has] at hh; exact .pe ((hβ _ hh).trans h)
  | tup hl _ ih => intro hh; simp only [AV.has] at hh; exact .tup hl fun i hi => ih i hi (AV.hasL_getD hh i)
  | fn hl _ ih => intro hh; simp only [AV.has] at hh; exact .fn hl fun i hi => ih i hi (AV.hasL_getD hh i)
  | e0n => exact fun _ => .e0n
  | e0s ad => exact fun _ => .e0s ad
  | hdr h => intro hh; simp [AV.has] at hh; exact .hdr ((hβ _ hh).trans h)
  | nilS => exact fun _ => .nilS

def AO.wipe (j : Nat) : AO → AO
  | .box e cells => .box e (cells.map fun c => if c.has j then .undef else c)
  | x => x
def wipeS (j : Nat) : List (Nat × AV) → List (Nat × AV)
  | [] => []
  | (k, v) :: r => (k, if v.has j then .undef else v) :: wipeS j r
def wipeO (j : Nat) : List (Nat × AO) → List (Nat × AO)
  | [] => []
  | (k, v) :: r => if k = j then wipeO j r else (k, v.wipe j) :: wipeO j r
/-- Object j, and every mention of it, is dropped. -/
def St.kill (j : Nat) (st : St) : St := ⟨wipeS j st.s, wipeO j st.o⟩

theorem lk_wipeO {i j : Nat} : ∀ {l : List (Nat × AO)} {o}, lk i (wipeO j l) = some o → i ≠ j ∧ ∃ o', lk i l = some o' ∧ o = o'.wipe j
  | [], _, h => by simp [wipeO, lk] at h
  | (k, v) :: r, o, h => by
    simp only [wipeO] at h
    split at h
    · rename_i hk
      obtain ⟨h1, o', h2, h3⟩ := lk_wipeO h
      exact ⟨h1, o', by simp only [lk]; rw [if_neg (by omega)]; exact h2, h3⟩
    · rename_i hk
      simp only [lk] at h
      split at h
      · rename_i e; subst e; cases h; exact ⟨hk, v, by simp [lk], rfl⟩
      · rename_i e
        obtain ⟨h1, o', h2, h3⟩ := lk_wipeO h
        exact ⟨h1, o', by simp only [lk]; rw [if_neg e]; exact h2, h3⟩
theorem lk_wipeS {i j : Nat} : ∀ {l : List (Nat × AV)} {v}, lk i (wipeS j l) = some v → v.has j = false ∧ (v = .undef ∨ lk i l = some v)
  | [], _, h => by simp [wipeS, lk] at h
  | (k, u) :: r, v, h => by
    simp only [wipeS, lk] at h
    simp only [lk]
    split at h
    · rename_i e
      rw [if_pos e]
      cases h
      split
      · exact ⟨rfl, .inl rfl⟩
      · rename_i hh; exact ⟨by simpa using hh, .inr rfl⟩
    · rename_i e; rw [if_neg e]; exact lk_wipeS h

theorem free_wipe {Z : Nat → Prop} {β β' : Nat → Value} {o j} (hβ : ∀ i, i ≠ j → β' i = β i) {g} (h : free Z β o g) : free Z β' (wipeO j o) g := by
  refine ⟨h.1, fun i x hi => ?_⟩
  obtain ⟨hne, o', ho', _⟩ := lk_wipeO hi
  rw [hβ i hne]
  exact h.2 i o' ho'

theorem OK.wipe {β β' : Nat → Value} {S w} {j : Nat} (hβ : ∀ i, i ≠ j → β' i = β i) {o v} (h : OK β S w o v) : OK β' S w (o.wipe j) v := by
  cases h with
  | box xs hv hw hr =>
    refine .box xs hv (by simpa [AO.wipe] using hw) fun i hi => ?_
    simp only [List.length_map] at hi
    have h1 := hr i hi
    simp only [List.getD_eq_getElem?_getD, List.getElem?_map, List.getElem?_eq_getElem hi, Option.map_some, Option.getD_some] at h1 ⊢
    split
    · exact .undef _
    · rename_i hh; exact h1.other hβ (by simpa using hh)
  | arr xs hk0 hk hw hr => exact .arr xs hk0 hk hw hr
  | arv xs hv hk0 hk hw hr => exact .arv xs hv hk0 hk hw hr

/-- After 'kill j' the header of j may be anything. -/
theorem SimB.kill {Z β β' N B M w0 st a w} (h : SimB Z β N B M w0 st a w) (j : Nat) (hβ : ∀ i, i ≠ j → β' i = β i) : SimB Z β' N B M w0 (st.kill j) a w := by
  have hS : ∀ g, free Z β st.o g → free Z β' (st.kill j).o g := fun g hg => free_wipe hβ hg
  refine ⟨h.nd, h.size, fun i av hi => ?_, fun i o hi => ?_, fun i o g hi hg => ?_, fun i i' o o' g hi hi' hg hg' => ?_, h.fr, h.z⟩
  · obtain ⟨h1, h2⟩ := lk_wipeS hi
    rcases h2 with rfl | h2
    · exact .undef _
    · exact ((h.slots i av h2).other hβ h1).move fun g hg _ => ⟨hS g hg, rfl⟩
  · obtain ⟨hne, o', ho', rfl⟩ := lk_wipeO hi
    rw [hβ i hne]
    exact ((h.objs i o' ho').wipe hβ).move (fun g hg _ => ⟨hS g hg, rfl⟩) (fun _ _ => rfl)
  · obtain ⟨hne, o', ho', _⟩ := lk_wipeO hi
    rw [hβ i hne] at hg
    exact h.own i o' g ho' hg
  · obtain ⟨hne, x, hx, _⟩ := lk_wipeO hi
    obtain ⟨hne', x', hx', _⟩ := lk_wipeO hi'
    rw [hβ i hne] at hg
    rw [hβ i' hne'] at hg'
    exact h.disj i i' x x' g hx hx' hg hg'

def upd (β : Nat → Value) (j : Nat) (v : Value) (i : Nat) : Value := if i = j then v else β i
theorem upd_ne {β j v} : ∀ i, i ≠ j → upd β j v i = β i := fun i h => by simp [upd, h]
theorem upd_eq {β j v} : upd β j v j = v := by simp [upd]

/-- A new object j, behind the header 'β j', whose block is new. -/
theorem SimB.layNew {Z β N B M w0 st a w w'} (h : SimB Z β N B M w0 st a w) {j : Nat} {o : AO} (hj : lk j st.o = none) (hg : w.grownBy w' none)
    (hnew : ∀ g, (β j).ownBlock = some g → w.heap.size ≤ g)
    (hok : ∀ S', (∀ av u, Rel β (free Z β st.o) w av u → Rel β S' w' av u) → (∀ x u, Rd (free Z β st.o) w x u → Rd S' w' x u) → OK β S' w' o (β j)) :
    SimB Z β N B M w0 { st with o := ins j o st.o } a w' := by
  have hb : ∀ g, g < w.heap.size → w'.heap[g]? = w.heap[g]? := fun g hlt => hg.block g hlt (by simp)
  have hm : ∀ g, free Z β st.o g → g < w.heap.size → free Z β (ins j o st.o) g ∧ w'.heap[g]? = w.heap[g]? := fun g hf hlt => by
    refine ⟨⟨hf.1, fun i x hi => ?_⟩, hb g hlt⟩
    rw [lk_ins] at hi
    split at hi
    · rename_i e; subst e; intro hgo; have := hnew g hgo; omega
    · exact hf.2 i x hi
  refine ⟨h.nd, h.size, fun i av hi => (h.slots i av hi).move hm, fun i x hi => ?_, fun i x g hi hgo => ?_, fun i i' x x' g hi hi' hgo hgo' => ?_, h.fr.grown hg (by simp), h.z⟩
  · have hi' : lk i (ins j o st.o) = some x := hi
    rw [lk_ins] at hi'
    split at hi'
    · rename_i e; subst e; cases hi'; exact hok _ (fun _ _ hr => hr.move hm) (fun _ _ hr => hr.move hm)
    · exact (h.objs i x hi').move hm fun g hgo => hb g ((h.objs i x hi').block_lt hgo)
  · have hi' : lk i (ins j o st.o) = some x := hi
    rw [lk_ins] at hi'
    split at hi'
    · rename_i e; subst e; exact .inl (Nat.le_trans h.fr.le (hnew g hgo))
    · exact h.own i x g hi' hgo
  · have h1 : lk i (ins j o st.o) = some x := hi
    have h2 : lk i' (ins j o st.o) = some x' := hi'
    rw [lk_ins] at h1 h2
    split at h1 <;> split at h2
    · rename_i e e'; exact e.trans e'.symm
    · rename_i e _; subst e; have := hnew g hgo; have := (h.objs i' x' h2).block_lt hgo'; omega
    · rename_i _ e; subst e; have := hnew g hgo'; have := (h.objs i x h1).block_lt hgo; omega
    · exact h.disj i i' x x' g h1 h2 hgo hgo'

/-- Object j has new contents, its header stays. -/
theorem SimB.mod {Z β N B M w0 st a w w'} (h : SimB Z β N B M w0 st a w) {j : Nat} {o o0 : AO} (hj : lk j st.o = some o0) (hg : w.grownBy w' (β j).ownBlock)
    (hok : ∀ S', (∀ av u, Rel β (free Z β st.o) w av u → Rel β S' w' av u) → (∀ x u, Rd (free Z β st.o) w x u → Rd S' w' x u) → OK β S' w' o (β j)) :
    SimB Z β N B M w0 { st with o := ins j o st.o } a w' := by
  have hkeys : ∀ i x, lk i (ins j o st.o) = some x → ∃ x', lk i st.o = some x' ∧ (i ≠ j → x' = x) := fun i x hi => by
    rw [lk_ins] at hi
    split at hi
    · rename_i e; subst e; exact ⟨o0, hj, fun hne => absurd rfl hne⟩
    · exact ⟨x, hi, fun _ => rfl⟩
  have hm : ∀ g, free Z β st.o g → g < w.heap.size → free Z β (ins j o st.o) g ∧ w'.heap[g]? = w.heap[g]? := fun g hf hlt => by
    refine ⟨⟨hf.1, fun i x hi => ?_⟩, hg.block g hlt fun e => hf.2 j o0 hj e.symm⟩
    obtain ⟨x', hx', _⟩ := hkeys i x hi
    exact hf.2 i x' hx'
  have hother : ∀ i x g, i ≠ j → lk i st.o = some x → (β i).ownBlock = some g → w'.heap[g]? = w.heap[g]? := fun i x g hne hi hgo =>
    hg.block g ((h.objs i x hi).block_lt hgo) fun e => hne (h.disj i j x o0 g hi hj hgo e.symm)
  refine ⟨h.nd, h.size, fun i av hi => (h.slots i av hi).move hm, fun i x hi => ?_, fun i x g hi hgo => ?_, fun i i' x x' g hi hi' hgo hgo' => ?_, h.fr.grown hg fun g hgo => h.own j o0 g hj hgo, h.z⟩
  · have hi' : lk i (ins j o st.o) = some x := hi
    rw [lk_ins] at hi'
    split at hi'
    · rename_i e; subst e; cases hi'; exact hok _ (fun _ _ hr => hr.move hm) (fun _ _ hr => hr.move hm)
    · rename_i hne; exact (h.objs i x hi').move hm fun g hgo => hother i x g hne hi' hgo
  · obtain ⟨x', hx', _⟩ := hkeys i x hi
    exact h.own i x' g hx' hgo
  · obtain ⟨y, hy, _⟩ := hkeys i x hi
    obtain ⟨y', hy', _⟩ := hkeys i' x' hi'
    exact h.disj i i' y y' g hy hy' hgo hgo'

theorem lk_wipeO_of {i j : Nat} (hne : i ≠ j) : ∀ {l : List (Nat × AO)} {o}, lk i l = some o → lk i (wipeO j l) = some (o.wipe j)
  | [], _, h => by simp [lk] at h
  | (k, v) :: r, o, h => by
    simp only [lk] at h
    simp only [wipeO]
    split at h
    · rename_i e; subst e; cases h; rw [if_neg hne]; simp [lk]
    · rename_i e
      split
      · exact lk_wipeO_of hne h
      · simp only [lk]; rw [if_neg e]; exact lk_wipeO_of hne h

/-- Object j has new contents behind a new header v' (its row may have moved): every mention of it is dropped. -/
theorem SimB.redo {Z β N B M w0 st a w w'} (h : SimB Z β N B M w0 st a w) {j : Nat} {o o0 : AO} (hj : lk j st.o = some o0) (hg : w.grownBy w' (β j).ownBlock) (v' : Value)
    (hv : ∀ g, v'.ownBlock = some g → w.heap.size ≤ g ∨ (β j).ownBlock = some g)
    (hok : ∀ S', (∀ x u, Rd (free Z β st.o) w x u → Rd S' w' x u) → OK (upd β j v') S' w' o v') :
    SimB Z (upd β j v') N B M w0 ⟨wipeS j st.s, ins j o (wipeO j st.o)⟩ a w' := by
  have hkeys : ∀ i x, lk i (ins j o (wipeO j st.o)) = some x → (i = j ∧ x = o) ∨ (i ≠ j ∧ ∃ x', lk i st.o = some x' ∧ x = x'.wipe j) := fun i x hi => by
    rw [lk_ins] at hi
    split at hi
    · rename_i e; subst e; cases hi; exact .inl ⟨rfl, rfl⟩
    · obtain ⟨h1, x', h2, h3⟩ := lk_wipeO hi; exact .inr ⟨h1, x', h2, h3⟩
  have hm : ∀ g, free Z β st.o g → g < w.heap.size → free Z (upd β j v') (ins j o (wipeO j st.o)) g ∧ w'.heap[g]? = w.heap[g]? := fun g hf hlt => by
    refine ⟨⟨hf.1, fun i x hi => ?_⟩, hg.block g hlt fun e => hf.2 j o0 hj e.symm⟩
    rcases hkeys i x hi with ⟨rfl, _⟩ | ⟨hne, x', hx', _⟩
    · rw [upd_eq]; intro e
      rcases hv g e with h' | h'
      · omega
      · exact hf.2 i o0 hj h'
    · rw [upd_ne i hne]; exact hf.2 i x' hx'
  have hother : ∀ i x g, i ≠ j → lk i st.o = some x → (β i).ownBlock = some g → w'.heap[g]? = w.heap[g]? := fun i x g hne hi hgo =>
    hg.block g ((h.objs i x hi).block_lt hgo) fun e => hne (h.disj i j x o0 g hi hj hgo e.symm)
  refine ⟨h.nd, h.size, fun i av hi => ?_, fun i x hi => ?_, fun i x g hi hgo => ?_, fun i i' x x' g hi hi' hgo hgo' => ?_, h.fr.grown hg fun g hgo => h.own j o0 g hj hgo, h.z⟩
  · obtain ⟨h1, h2⟩ := lk_wipeS hi
    rcases h2 with rfl | h2
    · exact .undef _
    · exact ((h.slots i av h2).move hm).other upd_ne h1
  · rcases hkeys i x hi with ⟨rfl, rfl⟩ | ⟨hne, x', hx', rfl⟩
    · rw [upd_eq]; exact hok _ fun _ _ hr => hr.move hm
    · rw [upd_ne i hne]
      exact ((h.objs i x' hx').move hm fun g hgo => hother i x' g hne hx' hgo).wipe upd_ne
  · rcases hkeys i x hi with ⟨rfl, rfl⟩ | ⟨hne, x', hx', rfl⟩
    · rw [upd_eq] at hgo
      rcases hv g hgo with h' | h'
      · exact .inl (Nat.le_trans h.fr.le h')
      · exact h.own i o0 g hj h'
    · rw [upd_ne i hne] at hgo; exact h.own i x' g hx' hgo
  · rcases hkeys i x hi with ⟨rfl, rfl⟩ | ⟨hne, y, hy, rfl⟩ <;> rcases hkeys i' x' hi' with ⟨rfl, rfl⟩ | ⟨hne', y', hy', rfl⟩
    · rfl
    · rw [upd_eq] at hgo; rw [upd_ne i' hne'] at hgo'
      rcases hv g hgo with h' | h'
      · have := (h.objs i' y' hy').block_lt hgo'; omega
      · exact h.disj i i' o0 y' g hj hy' h' hgo'
    · rw [upd_eq] at hgo'; rw [upd_ne i hne] at hgo
      rcases hv g hgo' with h' | h'
      · have := (h.objs i y hy).block_lt hgo; omega
      · exact h.disj i i' y o0 g hy hj hgo h'
    · rw [upd_ne i hne] at hgo; rw [upd_ne i' hne'] at hgo'
      exact h.disj i i' y y' g hy hy' hgo hgo'
end Abs
