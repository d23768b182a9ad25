/- A slice that will not be written any more becomes data. No condition. -/
import Derived.Test.YtoppjihdipidiaaAbsQuiet
set_option linter.all false
namespace Abs
open Go Go.RowKit

mutual
def AV.frz (j : Nat) (es : List D) : AV → AV
  | .sl i => if i = j then .d (.slice es) else .sl i
  | .p i o => if i = j then .undef else .p i o
  | .pe i k n o => if i = j then .undef else .pe i k n o
  | .tup xs => .tup (AV.frzL j es xs)
  | .st xs => .st (AV.frzL j es xs)
  | .fn f cs => .fn f (AV.frzL j es cs)
  | x => x
def AV.frzL (j : Nat) (es : List D) : List AV → List AV
  | [] => []
  | x :: r => x.frz j es :: AV.frzL j es r
end
theorem frzL_length {j es} : ∀ xs : List AV, (AV.frzL j es xs).length = xs.length
  | [] => rfl
  | x :: r => by simp [AV.frzL, frzL_length r]
theorem frzL_getD {j es} : ∀ (xs : List AV) (i : Nat), (AV.frzL j es xs).getD i .undef = (xs.getD i .undef).frz j es
  | [], i => by simp [AV.frzL, AV.frz]
  | x :: r, 0 => by simp [AV.frzL]
  | x :: r, i + 1 => by simpa [AV.frzL] using frzL_getD r i

def frzS (j : Nat) (es : List D) : List (Nat × AV) → List (Nat × AV)
  | [] => []
  | (k, v) :: r => (k, v.frz j es) :: frzS j es r
def AO.frz (j : Nat) (es : List D) : AO → AO
  | .box e cells => .box e (AV.frzL j es cells)
  | .dp t xs (some (c, some d)) => .dp t xs (if d = j then some (c, none) else some (c, some d))
  | x => x
def frzO (j : Nat) (es : List D) : List (Nat × AO) → List (Nat × AO)
  | [] => []
  | (k, v) :: r => if k = j then frzO j es r else (k, v.frz j es) :: frzO j es r
def St.frz (j : Nat) (es : List D) (st : St) : St := ⟨frzS j es st.s, frzO j es st.o⟩

theorem lk_frzS {i j es} : ∀ {l : List (Nat × AV)} {v}, lk i (frzS j es l) = some v → ∃ u, lk i l = some u ∧ v = u.frz j es
  | [], _, h => by simp [frzS, lk] at h
  | (k, u) :: r, v, h => by
    simp only [frzS, lk] at h
    simp only [lk]
    split at h
    · rename_i e; rw [if_pos e]; cases h; exact ⟨u, rfl, rfl⟩
    · rename_i e; rw [if_neg e]; exact lk_frzS h
theorem lk_frzO {i j es} : ∀ {l : List (Nat × AO)} {o}, lk i (frzO j es l) = some o → i ≠ j ∧ ∃ o', lk i l = some o' ∧ o = o'.frz j es
  | [], _, h => by simp [frzO, lk] at h
  | (k, v) :: r, o, h => by
    simp only [frzO] at h
    split at h
    · rename_i hk
      obtain ⟨h1, o', h2, h3⟩ := lk_frzO h
      exact ⟨h1, o', by simp only [lk]; rw [if_neg (by omega)]; exact h2, h3⟩
    · rename_i hk
      simp only [lk] at h
      split at h
      · rename_i e; subst e; cases h; exact ⟨hk, v, by simp [lk], rfl⟩
      · rename_i e
        obtain ⟨h1, o', h2, h3⟩ := lk_frzO h
        exact ⟨h1, o', by simp only [lk]; rw [if_neg e]; exact h2, h3⟩

theorem Dp.rd {w} : ∀ {x v F}, Dp w x v F → ∀ {S : Nat → Prop}, (∀ g, F g → S g) → Rd S w x v := by
  intro x v F h
  induction h with
  | int k n => exact fun _ => .int k n
  | bool b => exact fun _ => .bool b
  | str s => exact fun _ => .str s
  | nil v _ h => exact fun _ => Dp.rd_bare (F := fun _ => True) rfl (.nil v _ h)
  | slice xs fs hk0 hk hw hb hf hd hr ih =>
    rename_i es v F e k
    intro S hS
    rcases hw.2 with ⟨h1, h2⟩ | ⟨g, cap, cur, h1, _, h3, h4, _⟩
    · have : es = [] := List.eq_nil_of_length_eq_zero h2
      subst this; subst h1; exact .nil _
    · have hfl : (flat es).length = xs.length := by rw [flat_length hk, hw.1]
      subst h1
      exact .slice (fun i => xs.getD i Go.undef) hk h4 (fun i hi => ⟨hS _ (hb g rfl).1, by rw [Nat.zero_add]; exact ownsRow_cell hw rfl (by omega)⟩)
        fun i hi => ih i hi fun g hg => hS g (hf i g hg)
/-- A row whose cells are all there. -/
theorem DpO.dp {β w t es v F} (h : DpO β w t es none v F) : Dp w (.slice es) v F := by
  rcases h with ⟨_, _, rfl, h⟩ | ⟨e, k, xs, fs, _, h⟩
  · exact .nil v F h
  · exact .slice xs fs h.hk0 h.hk h.hw h.hb h.hf h.hd fun i hi => h.hr i hi (by simp)
theorem DpO.of {β w es v F} (h : Dp w (.slice es) v F) : DpO β w none es none v F := by
  cases h with
  | nil v _ h => exact .inl ⟨rfl, rfl, rfl, h⟩
  | slice xs fs hk0 hk hw hb hf hd hr => exact .inr ⟨_, _, xs, fs, .inl rfl, hk0, hk, hw, hb, hf, hd, fun i hi _ => hr i hi, fun _ _ h => by cases h⟩

/-- An owned row reads as a slice of data. -/
theorem rd_of_arr {β S w e k es v F} (h : OK β S w (.arr e k es) v F) {S' : Nat → Prop} (hS : ∀ g, S g → g < w.heap.size → S' g) (hg : ∀ g, F g → S' g) : Rd S' w (.slice es) v := by
  cases h with
  | arr hF xs hk0 hk hw hr =>
    subst hF
    have hw' := hw
    rcases hw.2 with ⟨h1, h2⟩ | ⟨g, cap, cur, h1, _, h3, h4, _⟩
    · have : es = [] := List.eq_nil_of_length_eq_zero h2
      subst this; subst h1; exact .nil _
    · have hfl : (flat es).length = xs.length := by rw [flat_length hk, hw.1]
      subst h1
      exact .slice (fun i => xs.getD i Go.undef) hk h4 (fun i hi => ⟨hg g rfl, by rw [Nat.zero_add]; exact ownsRow_cell hw' rfl (by omega)⟩)
        fun i hi => (hr i hi).move fun g hg hl => ⟨hS g hg hl, rfl⟩
theorem rd_of_dp {β S w t es v F} (h : OK β S w (.dp t es none) v F) {S' : Nat → Prop} (hg : ∀ g, F g → S' g) : Rd S' w (.slice es) v := by
  cases h with
  | dp hlt h => exact h.dp.rd hg

theorem Rel.frz {β S w j es} (hr : Rd S w (.slice es) (β j)) : ∀ {av v}, Rel β S w av v → Rel β S w (av.frz j es) v := by
  intro av v h
  induction h with
  | undef v => exact .undef v
  | d h => exact .d h
  | sl i =>
    simp only [AV.frz]; split
    · rename_i e; subst e; exact .d hr
    · exact .sl i
  | p h =>
    simp only [AV.frz]; split
    · exact .undef _
    · exact .p h
  | pe h =>
    simp only [AV.frz]; split
    · exact .undef _
    · exact .pe h
  | tup hl _ ih => exact .tup (by rw [frzL_length]; exact hl) fun i hi => by rw [frzL_length] at hi; rw [frzL_getD]; exact ih i hi
  | fn hl _ ih => exact .fn (by rw [frzL_length]; exact hl) fun i hi => by rw [frzL_length] at hi; rw [frzL_getD]; exact ih i hi
  | e0n => exact .e0n
  | e0s ad => exact .e0s ad
  | hdr h => exact .hdr h
  | nilS => exact .nilS
  | st hl _ ih => exact .st (by rw [frzL_length]; exact hl) fun i hi => by rw [frzL_length] at hi; rw [frzL_getD]; exact ih i hi

theorem OK.frz {β S w j es o v F} (hr : Rd S w (.slice es) (β j)) (h : OK β S w o v F) : OK β S w (o.frz j es) v F := by
  cases h with
  | box hF xs hv hw hrel =>
    exact .box hF xs hv (by rw [frzL_length]; exact hw) fun i hi => by rw [frzL_length] at hi; rw [frzL_getD]; exact (hrel i hi).frz hr
  | arr hF xs hk0 hk hw hrel => exact .arr hF xs hk0 hk hw hrel
  | arv hF xs hv hk0 hk hw hrel => exact .arv hF xs hv hk0 hk hw hrel
  | dp hlt h =>
    rename_i t xs ho
    rcases h with ⟨rfl, rfl, rfl, h⟩ | ⟨e, k, ys, fs, ht, h⟩
    · exact .dp hlt (.inl ⟨rfl, rfl, rfl, h⟩)
    · rcases ho with _ | ⟨c, _ | d⟩
      · exact .dp hlt (.inr ⟨e, k, ys, fs, ht, h⟩)
      · exact .dp hlt (.inr ⟨e, k, ys, fs, ht, h⟩)
      · simp only [AO.frz]
        split
        · exact .dp hlt (.inr ⟨e, k, ys, fs, ht, { h with hr := fun i hi hn => h.hr i hi fun c' d' e => by cases e; exact hn _ none rfl, hh := fun _ _ h => by cases h }⟩)
        · exact .dp hlt (.inr ⟨e, k, ys, fs, ht, h⟩)

/-- An object that reads as data. -/
def rowOf : AO → Option (List D)
  | .arr _ _ es => some es
  | .dp _ es none => some es
  | _ => none
theorem rd_of_row {β S w o es v F} (h : OK β S w o v F) (ho : rowOf o = some es) {S' : Nat → Prop} (hS : ∀ g, S g → g < w.heap.size → S' g) (hg : ∀ g, F g → S' g) : Rd S' w (.slice es) v := by
  cases o with
  | arr e k es' => cases ho; exact rd_of_arr h hS hg
  | dp t es' ho' => cases ho' with
    | none => cases ho; exact rd_of_dp h hg
    | some p => cases ho
  | _ => cases ho

theorem SimB.frz' {Z β φ N B M w0 st a w} (h : SimB Z β φ N B M w0 st a w) {j ob es} (hj : lk j st.o = some ob) (hob : rowOf ob = some es) : SimB Z β φ N B M w0 (st.frz j es) a w := by
  have hS : ∀ g, free Z φ st.o g → g < w.heap.size → free Z φ (st.frz j es).o g ∧ w.heap[g]? = w.heap[g]? := fun g hg _ => by
    refine ⟨⟨hg.1, fun i x hi => ?_⟩, rfl⟩
    obtain ⟨hne, o', ho', _⟩ := lk_frzO hi
    exact hg.2 i o' ho'
  have hr : Rd (free Z φ (st.frz j es).o) w (.slice es) (β j) := rd_of_row (h.objs j _ hj) hob (fun g hg hl => (hS g hg hl).1) fun g hg => ⟨h.z g (h.own j _ g hj hg), fun i x hi hgi => by
    obtain ⟨hne, o', ho', _⟩ := lk_frzO hi
    exact hne (h.disj i j o' _ g ho' hj hgi hg)⟩
  refine ⟨h.nd.move hS, h.size, fun i av hi => ?_, fun i o hi => ?_, fun i o g hi hg => ?_, fun i i' o o' g hi hi' hg hg' => ?_, h.fr, h.z⟩
  · obtain ⟨u, hu, rfl⟩ := lk_frzS hi
    exact ((h.slots i u hu).move hS).frz hr
  · obtain ⟨hne, o', ho', rfl⟩ := lk_frzO hi
    exact ((h.objs i o' ho').move hS (Nat.le_refl _) (fun _ _ => rfl)).frz hr
  · obtain ⟨hne, o', ho', _⟩ := lk_frzO hi
    exact h.own i o' g ho' hg
  · obtain ⟨hne, x, hx, _⟩ := lk_frzO hi
    obtain ⟨hne', x', hx', _⟩ := lk_frzO hi'
    exact h.disj i i' x x' g hx hx' hg hg'
theorem SimB.frz {Z β φ N B M w0 st a w} (h : SimB Z β φ N B M w0 st a w) {j e k es} (hj : lk j st.o = some (.arr e k es)) : SimB Z β φ N B M w0 (st.frz j es) a w := h.frz' hj rfl

/-- An operand as data: an object that it names is frozen. -/
def dOf (st : St) (x : Operand) : Option (D × St) :=
  match ev st x with
  | some (.d y) => some (y, st)
  | some .e0 => some (.slice [], st)
  | some (.sl j) => match lk j st.o with
    | some (.arr _ _ es) => some (.slice es, st.frz j es)
    | _ => none
  | _ => none

theorem dOf_spec {Z β φ N B M w0 st a w} (h : SimB Z β φ N B M w0 st a w) {x y st'} (hx : dOf st x = some (y, st')) :
    SimB Z β φ N B M w0 st' a w ∧ Rd (free Z φ st'.o) w y (a.eval x) := by
  unfold dOf at hx
  split at hx
  · rename_i z hz
    cases hx
    exact ⟨h, ev_d h hz⟩
  · rename_i hz
    cases hx
    refine ⟨h, ?_⟩
    have := ev_spec h hz
    generalize a.eval x = v at *
    cases this with
    | e0n => exact .nil _
    | e0s b => exact .nil _
  · rename_i j hz
    split at hx
    · rename_i e k es hj
      cases hx
      have h' := h.frz hj
      refine ⟨h', ?_⟩
      rw [ev_sl h hz]
      exact rd_of_arr (h.objs j _ hj) (fun g hg hl => ⟨hg.1, fun i x hi => by
        obtain ⟨hne, o', ho', _⟩ := lk_frzO hi
        exact hg.2 i o' ho'⟩) fun g hg => ⟨h.z g (h.own j _ g hj hg), fun i x hi hgi => by
        obtain ⟨hne, o', ho', _⟩ := lk_frzO hi
        exact hne (h.disj i j o' _ g ho' hj hgi hg)⟩
    · cases hx
  · cases hx
/-- Readings live on through a freezing. -/
theorem dOf_free {Z : Nat → Prop} {φ st x y st'} (hx : dOf st x = some (y, st')) {g} (hg : free Z φ st.o g) : free Z φ st'.o g := by
  unfold dOf at hx
  split at hx
  · cases hx; exact hg
  · cases hx; exact hg
  · split at hx
    · cases hx
      refine ⟨hg.1, fun i x hi => ?_⟩
      obtain ⟨hne, o', ho', _⟩ := lk_frzO hi
      exact hg.2 i o' ho'
    · cases hx
  · cases hx
end Abs
