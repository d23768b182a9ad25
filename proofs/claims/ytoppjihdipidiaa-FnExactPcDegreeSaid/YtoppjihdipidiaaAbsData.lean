/- The abstract data, its reading in memory, and how readings survive a change of memory. No condition. -/
import Derived.WalkKit
import Derived.Laws.AppendOwn
import Derived.Laws.OwnMore
import Derived.Laws.MakeOwn
set_option linter.all false
namespace Abs
open Go Go.RowKit

/-- Data: a tree. -/
inductive D where
  | int (k : IntKind) (n : Int)
  | bool (b : Bool)
  | str (s : ByteArray)
  | slice (es : List D)
  | agg (cs : List D)
  | ptr (x : D)
  | nilptr
  | fn (f : Fn) (first caps : List D)
  | nilfn
  | tup (xs : List D)

def D.cells : D → List D
  | .agg cs => cs
  | x => [x]
def flat (es : List D) : List D := es.flatMap D.cells
def D.isAgg : D → Bool
  | .agg _ => true
  | _ => false

/-- The data x is read off the value v in the world w; every block that the reading meets is in S. -/
inductive Rd (S : Nat → Prop) (w : World) : D → Value → Prop
  | int (k n) : Rd S w (.int k n) (.int k n)
  | bool (b) : Rd S w (.bool b) (.bool b)
  | str (s) : Rd S w (.str s) (.string s)
  | nil (a) : Rd S w (.slice []) (.slice a 0 0)
  | slice {es : List D} {b off cap k : Nat} (vs : Nat → Value) (hk : ∀ e ∈ es, e.cells.length = k) (hcap : es.length ≤ cap)
      (hc : ∀ i, i < (flat es).length → S b ∧ w.cell? ⟨b, off + i, none⟩ = some (vs i))
      (hr : ∀ i, i < (flat es).length → Rd S w ((flat es).getD i .nilptr) (vs i)) :
      Rd S w (.slice es) (.slice (some ⟨b, off, none⟩) es.length cap)
  | agg {cs : List D} {vs : List Value} (hl : vs.length = cs.length)
      (hr : ∀ i, i < cs.length → Rd S w (cs.getD i .nilptr) (vs.getD i undef)) : Rd S w (.agg cs) (.agg vs.toArray)
  | ptr {x : D} {b off : Nat} (vs : Nat → Value)
      (hc : ∀ i, i < x.cells.length → S b ∧ w.cell? ⟨b, off + i, none⟩ = some (vs i))
      (hr : ∀ i, i < x.cells.length → Rd S w (x.cells.getD i .nilptr) (vs i)) : Rd S w (.ptr x) (.pointer (some ⟨b, off, none⟩))
  | nilptr : Rd S w .nilptr (.pointer none)
  | fn {f : Fn} {first caps : List D} {vs us : List Value} (hl : vs.length = first.length) (hl' : us.length = caps.length)
      (hr : ∀ i, i < first.length → Rd S w (first.getD i .nilptr) (vs.getD i undef))
      (hr' : ∀ i, i < caps.length → Rd S w (caps.getD i .nilptr) (us.getD i undef)) : Rd S w (.fn f first caps) (.func f vs.toArray us.toArray)
  | nilfn : Rd S w .nilfn .nilFunc
  | tup {xs : List D} {vs : List Value} (hl : vs.length = xs.length)
      (hr : ∀ i, i < xs.length → Rd S w (xs.getD i .nilptr) (vs.getD i undef)) : Rd S w (.tup xs) (.tuple vs.toArray)

theorem cell_lt {w : World} {a : Addr} {v : Value} (h : w.cell? a = some v) : a.block < w.heap.size := World.block_lt_of_cell? w a h

theorem Rd.move {S S' : Nat → Prop} {w w' : World} (hm : ∀ g, S g → g < w.heap.size → S' g ∧ w'.heap[g]? = w.heap[g]?) :
    ∀ {x v}, Rd S w x v → Rd S' w' x v := by
  intro x v h
  induction h with
  | int k n => exact .int k n
  | bool b => exact .bool b
  | str s => exact .str s
  | nil a => exact .nil a
  | slice vs hk hcap hc _ ih =>
    refine .slice vs hk hcap (fun i hi => ?_) ih
    obtain ⟨h1, h2⟩ := hc i hi
    obtain ⟨h3, h4⟩ := hm _ h1 (cell_lt h2)
    exact ⟨h3, (World.cell?_of_block h4).trans h2⟩
  | agg hl _ ih => exact .agg hl ih
  | ptr vs hc _ ih =>
    refine .ptr vs (fun i hi => ?_) ih
    obtain ⟨h1, h2⟩ := hc i hi
    obtain ⟨h3, h4⟩ := hm _ h1 (cell_lt h2)
    exact ⟨h3, (World.cell?_of_block h4).trans h2⟩
  | nilptr => exact .nilptr
  | fn hl hl' _ _ ih ih' => exact .fn hl hl' ih ih'
  | nilfn => exact .nilfn
  | tup hl _ ih => exact .tup hl ih

theorem Rd.weaken {S S' : Nat → Prop} {w : World} (hm : ∀ g, S g → S' g) {x v} (h : Rd S w x v) : Rd S' w x v :=
  h.move fun g hg _ => ⟨hm g hg, rfl⟩

/-- An empty slice. -/
inductive EmptyS : Value → Prop
  | nil (a) : EmptyS (.slice a 0 0)
  | some (b off c) : EmptyS (.slice (some ⟨b, off, none⟩) 0 c)
/-- v reads as x; all memory that is met lies in F, and no two ways lead to the same block. -/
inductive Dp (w : World) : D → Value → (Nat → Prop) → Prop
  | int (k n F) : Dp w (.int k n) (.int k n) F
  | bool (b F) : Dp w (.bool b) (.bool b) F
  | str (s F) : Dp w (.str s) (.string s) F
  | nil (v F) (h : EmptyS v) : Dp w (.slice []) v F
  | slice {es : List D} {v : Value} {F : Nat → Prop} {e : TypeId} {k : Nat} (xs : List Value) (fs : Nat → Nat → Prop) (hk0 : 0 < k) (hk : ∀ x ∈ es, x.cells.length = k) (hw : w.ownsRow 0 e k v es.length xs)
      (hb : ∀ b, v.ownBlock = some b → F b ∧ ∀ i, ¬ fs i b) (hf : ∀ i g, fs i g → F g) (hd : ∀ i j g, fs i g → fs j g → i = j)
      (hr : ∀ i, i < (flat es).length → Dp w ((flat es).getD i .nilptr) (xs.getD i undef) (fs i)) : Dp w (.slice es) v F

theorem Dp.mono {w x v F F'} (h : Dp w x v F) (hF : ∀ g, F g → F' g) : Dp w x v F' := by
  cases h with
  | int k n => exact .int k n _
  | bool b => exact .bool b _
  | str s => exact .str s _
  | nil v _ h => exact .nil v _ h
  | slice xs fs hk0 hk hw hb hf hd hr => exact .slice xs fs hk0 hk hw (fun b hbb => ⟨hF _ (hb b hbb).1, (hb b hbb).2⟩) (fun i g h => hF _ (hf i g h)) hd hr
theorem ownsRow_move {w w' : World} {base e size v n xs} (h : w.ownsRow base e size v n xs) (hb : ∀ g, v.ownBlock = some g → w'.heap[g]? = w.heap[g]?) : w'.ownsRow base e size v n xs := by
  refine ⟨h.1, ?_⟩
  rcases h.2 with hn | ⟨g, cap, cur, rfl, hbg, hg, rest⟩
  · exact .inl hn
  · exact .inr ⟨g, cap, cur, rfl, hbg, (hb g rfl).trans hg, rest⟩
theorem Dp.move {w w' : World} : ∀ {x v F}, Dp w x v F → (∀ g, F g → g < w.heap.size → w'.heap[g]? = w.heap[g]?) → Dp w' x v F := by
  intro x v F h
  induction h with
  | int k n => exact fun _ => .int k n _
  | bool b => exact fun _ => .bool b _
  | str s => exact fun _ => .str s _
  | nil v _ h => exact fun _ => .nil v _ h
  | slice xs fs hk0 hk hw hb hf hd _ ih =>
    exact fun hm => .slice xs fs hk0 hk (ownsRow_move hw fun g hg => hm g (hb g hg).1 (hw.lt g hg).2) hb hf hd fun i hi => ih i hi fun g hg => hm g (hf i g hg)

/-- Data that bears no memory: its cells hold none. -/
def D.bare : D → Bool
  | .int _ _ => true
  | .bool _ => true
  | .str _ => true
  | .slice [] => true
  | _ => false
theorem dp_bare {S w x v F} (hb : x.bare = true) (h : Rd S w x v) : Dp w x v F := by
  cases h <;> simp only [D.bare, Bool.false_eq_true] at hb
  · exact .int _ _ _
  · exact .bool _ _
  · exact .str _ _
  · exact .nil _ _ (.nil _)
  · rename_i es b off cap k vs hk hcap hc hr
    split at hb <;> simp_all
    exact .nil _ _ (.some _ _ _)
def ownS (v : Value) (g : Nat) : Prop := v.ownBlock = some g

/-! ### Lists with keys -/
def lk {α : Type} (k : Nat) : List (Nat × α) → Option α
  | [] => none
  | (k', v) :: r => if k = k' then some v else lk k r
def ins {α : Type} (k : Nat) (v : α) : List (Nat × α) → List (Nat × α)
  | [] => [(k, v)]
  | (k', v') :: r => if k' < k then (k, v) :: (k', v') :: r else if k = k' then (k, v) :: r else (k', v') :: ins k v r
def del {α : Type} (k : Nat) : List (Nat × α) → List (Nat × α)
  | [] => []
  | (k', v') :: r => if k = k' then del k r else (k', v') :: del k r

theorem lk_ins {α : Type} (i k : Nat) (v : α) : ∀ l : List (Nat × α), lk i (ins k v l) = if i = k then some v else lk i l
  | [] => by simp [ins, lk]
  | (k', v') :: r => by
    simp only [ins]
    split
    · simp [lk]
    · split
      · rename_i h; subst h; simp only [lk]; split <;> simp_all
      · simp only [lk, lk_ins i k v r]
        split
        · rename_i h1 h2; subst h2; rw [if_neg (by omega)]
        · rfl
theorem lk_del {α : Type} (i k : Nat) : ∀ l : List (Nat × α), lk i (del k l) = if i = k then none else lk i l
  | [] => by simp [del, lk]
  | (k', v') :: r => by
    simp only [del]
    split
    · rename_i h; subst h; simp only [lk, lk_del i k r]; split <;> simp_all
    · simp only [lk, lk_del i k r]
      split
      · rename_i h1 h2; subst h2; rw [if_neg (by omega)]
      · rfl

/-! ### Abstract values, objects, states -/
inductive AV where
  | undef
  | d (x : D)
  /-- the whole slice of object j -/
  | sl (j : Nat)
  /-- the address of cell 'off' of the box j -/
  | p (j off : Nat)
  /-- the address of cell 'fo' of element i of object j, whose elements have k cells each -/
  | pe (j k i fo : Nat)
  | tup (xs : List AV)
  | fn (f : Fn) (caps : List AV)
  /-- an empty slice without room: what is appended to it goes to new memory -/
  | e0
  /-- The header of object j is this very value (a mark in a slot that no code writes). -/
  | hdr (j : Nat) (u : Value)
  /-- The nil slice. -/
  | nilS
  /-- A struct or an array, by its cells. -/
  | st (xs : List AV)

inductive AO where
  /-- one variable, by its cells -/
  | box (e : TypeId) (cells : List AV)
  /-- a slice's row: elements of k cells each -/
  | arr (e : TypeId) (k : Nat) (es : List D)
  /-- one variable of an array type e: elements of k cells each -/
  | arv (e : TypeId) (k : Nat) (es : List D)
  /-- a slice and all that is reached from it: no two ways lead to the same memory; one cell may be another object's -/
  | dp (t : Option (TypeId × Nat)) (es : List D) (hole : Option ((Nat × Nat) × Option Nat))

structure St where
  s : List (Nat × AV)
  o : List (Nat × AO)

inductive Rel (β : Nat → Value) (S : Nat → Prop) (w : World) : AV → Value → Prop
  | undef (v) : Rel β S w .undef v
  | d {x v} (h : Rd S w x v) : Rel β S w (.d x) v
  | sl (j) : Rel β S w (.sl j) (β j)
  | p {j off b n c} (h : β j = .slice (some ⟨b, 0, none⟩) n c) : Rel β S w (.p j off) (.pointer (some ⟨b, off, none⟩))
  | pe {j k i fo b n c} (h : β j = .slice (some ⟨b, 0, none⟩) n c) : Rel β S w (.pe j k i fo) (.pointer (some ⟨b, i * k + fo, none⟩))
  | tup {xs : List AV} {vs : List Value} (hl : vs.length = xs.length)
      (hr : ∀ i, i < xs.length → Rel β S w (xs.getD i .undef) (vs.getD i Go.undef)) : Rel β S w (.tup xs) (.tuple vs.toArray)
  | fn {f : Fn} {caps : List AV} {us : List Value} (hl : us.length = caps.length)
      (hr : ∀ i, i < caps.length → Rel β S w (caps.getD i .undef) (us.getD i Go.undef)) : Rel β S w (.fn f caps) (.func f #[] us.toArray)
  | e0n : Rel β S w .e0 (.slice none 0 0)
  | e0s (a) : Rel β S w .e0 (.slice (some a) 0 0)
  | hdr {j u v} (h : β j = u) : Rel β S w (.hdr j u) v
  | nilS : Rel β S w .nilS (.slice none 0 0)
  | st {xs : List AV} {vs : List Value} (hl : vs.length = xs.length)
      (hr : ∀ i, i < xs.length → Rel β S w (xs.getD i .undef) (vs.getD i Go.undef)) : Rel β S w (.st xs) (.agg vs.toArray)

theorem Rel.move {β : Nat → Value} {S S' : Nat → Prop} {w w' : World} (hm : ∀ g, S g → g < w.heap.size → S' g ∧ w'.heap[g]? = w.heap[g]?) :
    ∀ {x v}, Rel β S w x v → Rel β S' w' x v := by
  intro x v h
  induction h with
  | undef v => exact .undef v
  | d h => exact .d (h.move hm)
  | sl j => exact .sl j
  | p h => exact .p h
  | pe h => exact .pe h
  | tup hl _ ih => exact .tup hl ih
  | fn hl _ ih => exact .fn hl ih
  | e0n => exact .e0n
  | e0s a => exact .e0s a
  | hdr h => exact .hdr h
  | nilS => exact .nilS
  | st hl _ ih => exact .st hl ih

/-- An argument in its slot: a function is one that can be called. -/
def argV : D → AV
  | .fn f [] [] => .fn f []
  | .fn f [] [c] => .fn f [.d c]
  | .fn f [] [c, c'] => .fn f [.d c, .d c']
  | x => .d x
theorem argV_rel {β S w x v} (h : Rd S w x v) : Rel β S w (argV x) v := by
  unfold argV
  split
  · cases h with
    | fn hl hl' hr hr' =>
      obtain rfl := List.eq_nil_of_length_eq_zero hl
      exact .fn (caps := []) hl' (by simp)
  · rename_i f c
    cases h with
    | fn hl hl' hr hr' =>
      obtain rfl := List.eq_nil_of_length_eq_zero hl
      refine .fn (caps := [.d c]) hl' fun i hi => ?_
      have : i = 0 := by simpa using hi
      subst this
      exact .d (by simpa using hr' 0 (by simp))
  · rename_i f c c'
    cases h with
    | fn hl hl' hr hr' =>
      obtain rfl := List.eq_nil_of_length_eq_zero hl
      refine .fn (caps := [.d c, .d c']) hl' fun i hi => ?_
      match i, hi with
      | 0, _ => exact .d (by simpa using hr' 0 (by simp))
      | 1, _ => exact .d (by simpa using hr' 1 (by simp))
  · exact .d h
/-- A value in its slot, as one that can be called. -/
def fnOf : AV → AV
  | .d x => argV x
  | a => a
theorem fnOf_rel {β S w a v} (h : Rel β S w a v) : Rel β S w (fnOf a) v := by
  unfold fnOf
  split
  · cases h with
    | d h => exact argV_rel h
  · exact h
end Abs

namespace Abs
open Go Go.RowKit

/-- A row and what is reached from it; one cell may be another object's. -/
structure DpR (β : Nat → Value) (w : World) (e : TypeId) (k : Nat) (es : List D) (ho : Option ((Nat × Nat) × Option Nat)) (v : Value) (F : Nat → Prop) (xs : List Value) (fs : Nat → Nat → Prop) : Prop where
  hk0 : 0 < k
  hk : ∀ x ∈ es, x.cells.length = k
  hw : w.ownsRow 0 e k v es.length xs
  hb : ∀ b, v.ownBlock = some b → F b ∧ ∀ i, ¬ fs i b
  hf : ∀ i g, fs i g → F g
  hd : ∀ i j g, fs i g → fs j g → i = j
  hr : ∀ i, i < (flat es).length → (∀ c d, ho = some (c, d) → c.1 * k + c.2 ≠ i) → Dp w ((flat es).getD i .nilptr) (xs.getD i Go.undef) (fs i)
  hh : ∀ c d, ho = some (c, some d) → c.1 < es.length ∧ c.2 < k ∧ β d = xs.getD (c.1 * k + c.2) Go.undef ∧ ∀ g, ¬ fs (c.1 * k + c.2) g
def DpO (β : Nat → Value) (w : World) (t : Option (TypeId × Nat)) (es : List D) (ho : Option ((Nat × Nat) × Option Nat)) (v : Value) (F : Nat → Prop) : Prop :=
  (t = none ∧ ho = none ∧ es = [] ∧ EmptyS v) ∨ ∃ e k xs fs, (t = none ∨ t = some (e, k)) ∧ DpR β w e k es ho v F xs fs

/-- The object o lies behind the header v; it owns the blocks F. -/
inductive OK (β : Nat → Value) (S : Nat → Prop) (w : World) : AO → Value → (Nat → Prop) → Prop
  | box {e cells v F} (hF : F = ownS v) (xs : List Value) (hv : v ≠ .slice none 0 0) (hw : w.ownsRow 0 e cells.length v 1 xs)
      (hr : ∀ i, i < cells.length → Rel β S w (cells.getD i .undef) (xs.getD i Go.undef)) : OK β S w (.box e cells) v F
  | arr {e k es v F} (hF : F = ownS v) (xs : List Value) (hk0 : 0 < k) (hk : ∀ x ∈ es, x.cells.length = k) (hw : w.ownsRow 0 e k v es.length xs)
      (hr : ∀ i, i < (flat es).length → Rd S w ((flat es).getD i .nilptr) (xs.getD i Go.undef)) : OK β S w (.arr e k es) v F
  | arv {e k es v F} (hF : F = ownS v) (xs : List Value) (hv : v ≠ .slice none 0 0) (hk0 : 0 < k) (hk : ∀ x ∈ es, x.cells.length = k) (hw : w.ownsRow 0 e (flat es).length v 1 xs)
      (hr : ∀ i, i < (flat es).length → Rd S w ((flat es).getD i .nilptr) (xs.getD i Go.undef)) : OK β S w (.arv e k es) v F
  | dp {t es ho v F} (hlt : ∀ g, F g → g < w.heap.size) (h : DpO β w t es ho v F) : OK β S w (.dp t es ho) v F

/-- The blocks of Z that are no object's. -/
def free (Z : Nat → Prop) (φ : Nat → Nat → Prop) (o : List (Nat × AO)) (g : Nat) : Prop := Z g ∧ ∀ j x, lk j o = some x → ¬ φ j g

/-! ### No step takes back a draw -/
theorem ask_drawn {α : Type} : ∀ (k : Ask α) (w : World), w.drawn ≤ (w.ask k).2.drawn
  | .done a, w => Nat.le_refl _
  | .ask what range k, w => by
    unfold World.ask
    dsimp only
    split
    · exact ask_drawn _ w
    · exact Nat.le_trans (Nat.le_succ _) (ask_drawn _ { w with drawn := w.drawn + 1 })
theorem sys_drawn (w : World) (c : Sys) : w.drawn ≤ (w.sys c).2.drawn := by
  unfold World.sys
  have h := ask_drawn (Kernel.perform c w.os) w
  generalize w.ask (Kernel.perform c w.os) = x at *
  obtain ⟨⟨r, os⟩, w'⟩ := x
  cases r <;> first | exact h | exact Nat.le_refl _
theorem viewStore_drawn {P : Program} {w w' : World} {at_ u k v atomic l} (h : w.viewStore P at_ u k v atomic = .ok (w', l)) : w'.drawn = w.drawn := by
  unfold World.viewStore at h
  simp only [bind, Except.bind, pure, Except.pure] at h
  repeat' split at h
  all_goals first | (cases h; done) | (cases h; rfl)
theorem farStore_drawn {P : Program} {w w' : World} {a v atomic l} (h : w.farStore P a v atomic = .ok (w', l)) : w'.drawn = w.drawn := by
  unfold World.farStore at h
  split at h
  · split at h
    · rename_i h1; cases h; exact viewStore_drawn h1
    · cases h
  · cases h
theorem freeze_drawn (w : World) (a : Addr) (n : Nat) : (w.freeze a n).drawn = w.drawn := by
  unfold World.freeze; split <;> rfl
theorem run_drawn {P : Program} {α : Type} (s : Sem α) : ∀ {w w' : World} {v : α}, s.run P w = .ok v w' → w.drawn ≤ w'.drawn := by
  induction s with
  | pure a => intro w w' v h; simp only [Sem.run] at h; cases h; exact Nat.le_refl _
  | load m a k ih =>
    intro w w' v h
    simp only [Sem.run] at h
    split at h
    · exact ih _ h
    · split at h
      · exact ih _ h
      · cases h
  | store m a u k ih =>
    intro w w' v h
    cases u <;> simp only [Sem.run] at h
    case agg => cases h
    case tuple => cases h
    all_goals
      split at h
      · split at h
        · cases h
        · have := ih h; exact this
      · split at h
        · rename_i hf
          have := ih h
          rw [farStore_drawn hf] at this
          exact this
        · cases h
  | new o k ih => intro w w' v h; simp only [Sem.run] at h; have := ih _ h; exact this
  | shape r k ih => intro w w' v h; simp only [Sem.run] at h; exact ih _ h
  | freeze a n k ih => intro w w' v h; simp only [Sem.run] at h; have := ih h; rwa [freeze_drawn] at this
  | frozen a k ih => intro w w' v h; simp only [Sem.run] at h; exact ih _ h
  | getObj r k ih =>
    intro w w' v h
    simp only [Sem.run] at h
    split at h
    · cases h
    · exact ih _ h
    · cases h
  | setObj r o k ih =>
    intro w w' v h
    simp only [Sem.run] at h
    split at h
    · cases h
    · have := ih h; exact this
    · cases h
  | choose q k ih =>
    intro w w' v h
    simp only [Sem.run] at h
    split at h
    · exact ih _ h
    · exact Nat.le_trans (Nat.le_succ _) (ih _ h)
  | sys c k ih => intro w w' v h; simp only [Sem.run] at h; exact Nat.le_trans (sys_drawn w c) (ih _ h)
  | program k ih => intro w w' v h; simp only [Sem.run] at h; exact ih _ h
  | mark m k ih => intro w w' v h; simp only [Sem.run] at h; exact ih h
  | halt e => intro w w' v h; simp only [Sem.run] at h; cases h
/-- The world has grown, and no draw was taken back. -/
structure Gb (w w' : World) (row : Option Nat) : Prop extends World.grownBy w w' row where
  drawn : w.drawn ≤ w'.drawn
theorem Gb.refl (w : World) (row : Option Nat) : Gb w w row := ⟨⟨rfl, rfl, rfl, Nat.le_refl _, fun _ _ _ => rfl⟩, Nat.le_refl _⟩

/-- Of the world w0 only blocks from B on and those of M may differ in w. -/
structure Fr (B : Nat) (M : Nat → Prop) (w0 w : World) : Prop where
  os : w.os = w0.os
  tape : w.tape = w0.tape
  output : w.output = w0.output
  le : B ≤ w.heap.size
  size : w0.heap.size ≤ w.heap.size
  block : ∀ g, g < B → ¬ M g → w.heap[g]? = w0.heap[g]?
  drawn : w0.drawn ≤ w.drawn

/-- What entering a range over a function leaves among the deferred calls: a mark on a block that holds none. -/
def markD (D : Nat) : Deferred := { target := .collected D, args := #[] }
structure MarksOK (S : Nat → Prop) (B : Nat → Prop) (w : World) (ds : List Deferred) : Prop where
  each : ∀ c ∈ ds, ∃ D, c = markD D ∧ S D ∧ B D ∧ w.heap[D]? = some (.deferred (some []))
  apart : ds.Pairwise (· ≠ ·)
theorem MarksOK.move {S S' B : Nat → Prop} {w w' : World} {ds : List Deferred} (h : MarksOK S B w ds) (hm : ∀ g, S g → g < w.heap.size → S' g ∧ w'.heap[g]? = w.heap[g]?) : MarksOK S' B w' ds :=
  ⟨fun c hc => by
    obtain ⟨D, h1, h2, h3, h4⟩ := h.each c hc
    obtain ⟨h5, h6⟩ := hm D h2 (Array.getElem?_eq_some_iff.1 h4).1
    exact ⟨D, h1, h5, h3, h6.trans h4⟩, h.apart⟩
theorem MarksOK.nil {S B : Nat → Prop} {w : World} : MarksOK S B w [] := ⟨by simp, .nil⟩

structure SimB (Z : Nat → Prop) (β : Nat → Value) (φ : Nat → Nat → Prop) (N B : Nat) (M : Nat → Prop) (w0 : World) (st : St) (a : Act) (w : World) : Prop where
  nd : MarksOK (free Z φ st.o) (fun g => B ≤ g ∨ M g) w a.defers
  size : a.tmps.size = N
  slots : ∀ i av, lk i st.s = some av → Rel β (free Z φ st.o) w av (a.tmps.getD i Go.undef)
  objs : ∀ j o, lk j st.o = some o → OK β (free Z φ st.o) w o (β j) (φ j)
  own : ∀ j o g, lk j st.o = some o → φ j g → B ≤ g ∨ M g
  disj : ∀ j j' o o' g, lk j st.o = some o → lk j' st.o = some o' → φ j g → φ j' g → j = j'
  fr : Fr B M w0 w
  z : ∀ g, B ≤ g ∨ M g → Z g

def Sim (Z : Nat → Prop) (N B : Nat) (M : Nat → Prop) (w0 : World) (st : St) (a : Act) (w : World) : Prop := ∃ β φ, SimB Z β φ N B M w0 st a w

theorem Fr.grown {B M w0 w w'} {row : Option Nat} (h : Fr B M w0 w) (hg : Gb w w' row) (hr : ∀ g, row = some g → B ≤ g ∨ M g) : Fr B M w0 w' := by
  refine ⟨hg.os.trans h.os, hg.tape.trans h.tape, hg.output.trans h.output, Nat.le_trans h.le hg.size, Nat.le_trans h.size hg.size, fun g hgB hgM => ?_, Nat.le_trans h.drawn hg.drawn⟩
  rw [hg.block g (Nat.lt_of_lt_of_le hgB h.le) (fun e => ?_)]
  · exact h.block g hgB hgM
  · rcases hr g e.symm with h' | h'
    · omega
    · exact hgM h'

theorem ownsRow_same {w w' : World} {base e size v n xs} (h : w.ownsRow base e size v n xs) (hb : ∀ g, v.ownBlock = some g → w'.heap[g]? = w.heap[g]?) : w'.ownsRow base e size v n xs := by
  refine ⟨h.1, ?_⟩
  rcases h.2 with hn | ⟨g, cap, cur, rfl, hbg, hg, rest⟩
  · exact .inl hn
  · exact .inr ⟨g, cap, cur, rfl, hbg, (hb g rfl).trans hg, rest⟩

theorem OK.move {β : Nat → Value} {S S' : Nat → Prop} {w w' : World} (hm : ∀ g, S g → g < w.heap.size → S' g ∧ w'.heap[g]? = w.heap[g]?)
    {o v F} (hs : w.heap.size ≤ w'.heap.size) (hb : ∀ g, F g → w'.heap[g]? = w.heap[g]?) (h : OK β S w o v F) : OK β S' w' o v F := by
  cases h with
  | box hF xs hv hw hr => subst hF; exact .box rfl xs hv (ownsRow_same hw hb) fun i hi => (hr i hi).move hm
  | arr hF xs hk0 hk hw hr => subst hF; exact .arr rfl xs hk0 hk (ownsRow_same hw hb) fun i hi => (hr i hi).move hm
  | arv hF xs hv hk0 hk hw hr => subst hF; exact .arv rfl xs hv hk0 hk (ownsRow_same hw hb) fun i hi => (hr i hi).move hm
  | dp hlt h => 
    refine .dp (fun g hg => Nat.lt_of_lt_of_le (hlt g hg) hs) ?_
    rcases h with h | ⟨e, k, xs, fs, ht, h⟩
    · exact .inl h
    · exact .inr ⟨e, k, xs, fs, ht, h.hk0, h.hk, ownsRow_same h.hw fun g hg => hb g (h.hb g hg).1, h.hb, h.hf, h.hd, fun i hi hn => (h.hr i hi hn).move fun g hg _ => hb g (h.hf i g hg), h.hh⟩

theorem OK.block_lt {β S w o v F} (h : OK β S w o v F) {g} (hg : F g) : g < w.heap.size := by
  cases h with
  | box hF xs hv hw hr => subst hF; exact (hw.lt g hg).2
  | arr hF xs hk0 hk hw hr => subst hF; exact (hw.lt g hg).2
  | arv hF xs hv hk0 hk hw hr => subst hF; exact (hw.lt g hg).2
  | dp hlt h => exact hlt g hg

/-- A world in which nothing of what was there but blocks outside has changed. -/
theorem SimB.grown {Z β φ N B M w0 st a w w'} (h : SimB Z β φ N B M w0 st a w) (hg : Gb w w' none) : SimB Z β φ N B M w0 st a w' := by
  have hb : ∀ g, g < w.heap.size → w'.heap[g]? = w.heap[g]? := fun g hlt => hg.block g hlt (by simp)
  exact ⟨h.nd.move fun g hg' hlt => ⟨hg', hb g hlt⟩, h.size, fun i av hi => (h.slots i av hi).move fun g hg' hlt => ⟨hg', hb g hlt⟩,
    fun j o hj => (h.objs j o hj).move (fun g hg' hlt => ⟨hg', hb g hlt⟩) hg.size (fun g hgo => hb g ((h.objs j o hj).block_lt hgo)), h.own, h.disj, h.fr.grown hg (by simp), h.z⟩

/-- A draw. -/
theorem SimB.drawn {Z β φ N B M w0 st a w} (h : SimB Z β φ N B M w0 st a w) : SimB Z β φ N B M w0 st a { w with drawn := w.drawn + 1 } :=
  h.grown ⟨⟨rfl, rfl, rfl, Nat.le_refl _, fun _ _ _ => rfl⟩, Nat.le_succ _⟩

/-- A slot is set. -/
def St.put (st : St) (dst : Option Nat) (v : AV) : St :=
  match dst with
  | some d => { st with s := ins d v st.s }
  | none => st

theorem SimB.put {Z β φ N B M w0 st a w} (h : SimB Z β φ N B M w0 st a w) {dst : Option Nat} {v : AV} {u : Value} (hd : ∀ d, dst = some d → d < N)
    (hr : Rel β (free Z φ st.o) w v u) : SimB Z β φ N B M w0 (st.put dst v) (a.put dst u) w := by
  cases dst with
  | none => exact h
  | some d =>
    refine ⟨h.nd, by simp [Act.put, h.size], fun i av hi => ?_, h.objs, h.own, h.disj, h.fr, h.z⟩
    have hi' : lk i (ins d v st.s) = some av := hi
    rw [lk_ins] at hi'
    have hdN := hd d rfl
    split at hi'
    · rename_i e
      subst e
      cases hi'
      have : (a.put (some i) u).tmps.getD i Go.undef = u := by simp [Act.put, h.size, hdN]
      rw [this]; exact hr
    · rename_i hne
      have : (a.put (some d) u).tmps.getD i Go.undef = a.tmps.getD i Go.undef := by
        simp [Act.put, Array.getElem?_setIfInBounds_ne (Ne.symm hne)]
      rw [this]; exact h.slots i av hi'

/-- Slots are forgotten. -/
theorem SimB.sub {Z β φ N B M w0 st a w} (h : SimB Z β φ N B M w0 st a w) {s' : List (Nat × AV)} (hs : ∀ i av, lk i s' = some av → av = .undef ∨ lk i st.s = some av) :
    SimB Z β φ N B M w0 { st with s := s' } a w :=
  ⟨h.nd, h.size, fun i av hi => by
    rcases hs i av hi with rfl | h'
    · exact .undef _
    · exact h.slots i av h', h.objs, h.own, h.disj, h.fr, h.z⟩

/-! ### An object is forgotten -/
mutual
def AV.has (j : Nat) : AV → Bool
  | .sl i => i == j
  | .p i _ => i == j
  | .pe i _ _ _ => i == j
  | .tup xs => AV.hasL j xs
  | .fn _ cs => AV.hasL j cs
  | .hdr i _ => i == j
  | .st xs => AV.hasL j xs
  | _ => false
def AV.hasL (j : Nat) : List AV → Bool
  | [] => false
  | x :: r => x.has j || AV.hasL j r
end
theorem AV.hasL_getD {j : Nat} : ∀ {xs : List AV}, AV.hasL j xs = false → ∀ i, (xs.getD i .undef).has j = false
  | [], _, i => by simp [AV.has]
  | x :: r, h, i => by
    simp only [AV.hasL, Bool.or_eq_false_iff] at h
    cases i with
    | zero => simpa using h.1
    | succ i => simpa using AV.hasL_getD h.2 i

/-- A value that does not name j does not care what j is. -/
theorem Rel.other {β β' : Nat → Value} {S w} {j : Nat} (hβ : ∀ i, i ≠ j → β' i = β i) : ∀ {av v}, Rel β S w av v → av.has j = false → Rel β' S w av v := by
  intro av v h
  induction h with
  | undef v => exact fun _ => .undef v
  | d h => exact fun _ => .d h
  | sl i => intro hh; simp [AV.has] at hh; rw [← hβ i hh]; exact .sl i
  | p h => intro hh; simp [AV.has] at hh; exact .p ((hβ _ hh).trans h)
  | pe h => intro hh; simp [AV.has] at hh; exact .pe ((hβ _ hh).trans h)
  | tup hl _ ih => intro hh; simp only [AV.has] at hh; exact .tup hl fun i hi => ih i hi (AV.hasL_getD hh i)
  | fn hl _ ih => intro hh; simp only [AV.has] at hh; exact .fn hl fun i hi => ih i hi (AV.hasL_getD hh i)
  | e0n => exact fun _ => .e0n
  | e0s ad => exact fun _ => .e0s ad
  | hdr h => intro hh; simp [AV.has] at hh; exact .hdr ((hβ _ hh).trans h)
  | nilS => exact fun _ => .nilS
  | st hl _ ih => intro hh; simp only [AV.has] at hh; exact .st hl fun i hi => ih i hi (AV.hasL_getD hh i)

def AO.wipe (j : Nat) : AO → AO
  | .box e cells => .box e (cells.map fun c => if c.has j then .undef else c)
  | .dp t es (some (c, some d)) => .dp t es (if d = j then some (c, none) else some (c, some d))
  | x => x
def wipeS (j : Nat) : List (Nat × AV) → List (Nat × AV)
  | [] => []
  | (k, v) :: r => (k, if v.has j then .undef else v) :: wipeS j r
def wipeO (j : Nat) : List (Nat × AO) → List (Nat × AO)
  | [] => []
  | (k, v) :: r => if k = j then wipeO j r else (k, v.wipe j) :: wipeO j r
/-- Object j, and every mention of it, is dropped. -/
def St.kill (j : Nat) (st : St) : St := ⟨wipeS j st.s, wipeO j st.o⟩

theorem lk_wipeO {i j : Nat} : ∀ {l : List (Nat × AO)} {o}, lk i (wipeO j l) = some o → i ≠ j ∧ ∃ o', lk i l = some o' ∧ o = o'.wipe j
  | [], _, h => by simp [wipeO, lk] at h
  | (k, v) :: r, o, h => by
    simp only [wipeO] at h
    split at h
    · rename_i hk
      obtain ⟨h1, o', h2, h3⟩ := lk_wipeO h
      exact ⟨h1, o', by simp only [lk]; rw [if_neg (by omega)]; exact h2, h3⟩
    · rename_i hk
      simp only [lk] at h
      split at h
      · rename_i e; subst e; cases h; exact ⟨hk, v, by simp [lk], rfl⟩
      · rename_i e
        obtain ⟨h1, o', h2, h3⟩ := lk_wipeO h
        exact ⟨h1, o', by simp only [lk]; rw [if_neg e]; exact h2, h3⟩
theorem lk_wipeS {i j : Nat} : ∀ {l : List (Nat × AV)} {v}, lk i (wipeS j l) = some v → v.has j = false ∧ (v = .undef ∨ lk i l = some v)
  | [], _, h => by simp [wipeS, lk] at h
  | (k, u) :: r, v, h => by
    simp only [wipeS, lk] at h
    simp only [lk]
    split at h
    · rename_i e
      rw [if_pos e]
      cases h
      split
      · exact ⟨rfl, .inl rfl⟩
      · rename_i hh; exact ⟨by simpa using hh, .inr rfl⟩
    · rename_i e; rw [if_neg e]; exact lk_wipeS h

theorem free_wipe {Z : Nat → Prop} {φ φ' : Nat → Nat → Prop} {o j} (hφ : ∀ i, i ≠ j → φ' i = φ i) {g} (h : free Z φ o g) : free Z φ' (wipeO j o) g := by
  refine ⟨h.1, fun i x hi => ?_⟩
  obtain ⟨hne, o', ho', _⟩ := lk_wipeO hi
  rw [hφ i hne]
  exact h.2 i o' ho'

theorem OK.wipe {β β' : Nat → Value} {S w} {j : Nat} (hβ : ∀ i, i ≠ j → β' i = β i) {o v F} (h : OK β S w o v F) : OK β' S w (o.wipe j) v F := by
  cases h with
  | box hF xs hv hw hr =>
    refine .box hF xs hv (by simpa [AO.wipe] using hw) fun i hi => ?_
    simp only [List.length_map] at hi
    have h1 := hr i hi
    simp only [List.getD_eq_getElem?_getD, List.getElem?_map, List.getElem?_eq_getElem hi, Option.map_some, Option.getD_some] at h1 ⊢
    split
    · exact .undef _
    · rename_i hh; exact h1.other hβ (by simpa using hh)
  | arr hF xs hk0 hk hw hr => exact .arr hF xs hk0 hk hw hr
  | arv hF xs hv hk0 hk hw hr => exact .arv hF xs hv hk0 hk hw hr
  | dp hlt h =>
    rename_i t es ho
    rcases h with ⟨rfl, rfl, rfl, h⟩ | ⟨e, k, xs, fs, ht, h⟩
    · exact .dp hlt (.inl ⟨rfl, rfl, rfl, h⟩)
    · rcases ho with _ | ⟨c, _ | d⟩
      · exact .dp hlt (.inr ⟨e, k, xs, fs, ht, { h with hh := fun _ _ h => by cases h }⟩)
      · exact .dp hlt (.inr ⟨e, k, xs, fs, ht, { h with hh := fun _ _ h => by cases h }⟩)
      · simp only [AO.wipe]
        split
        · exact .dp hlt (.inr ⟨e, k, xs, fs, ht, { h with hr := fun i hi hn => h.hr i hi fun c' d' e => by cases e; exact hn _ none rfl, hh := fun _ _ h => by cases h }⟩)
        · rename_i hne
          exact .dp hlt (.inr ⟨e, k, xs, fs, ht, { h with hh := fun c' d' e => by cases e; rw [hβ _ hne]; exact h.hh _ _ rfl }⟩)

/-- After 'kill j' the header of j may be anything. -/
theorem SimB.kill {Z β β' φ φ' N B M w0 st a w} (h : SimB Z β φ N B M w0 st a w) (j : Nat) (hβ : ∀ i, i ≠ j → β' i = β i) (hφ : ∀ i, i ≠ j → φ' i = φ i) : SimB Z β' φ' N B M w0 (st.kill j) a w := by
  have hS : ∀ g, free Z φ st.o g → free Z φ' (st.kill j).o g := fun g hg => free_wipe hφ hg
  refine ⟨h.nd.move fun g hg _ => ⟨hS g hg, rfl⟩, h.size, fun i av hi => ?_, fun i o hi => ?_, fun i o g hi hg => ?_, fun i i' o o' g hi hi' hg hg' => ?_, h.fr, h.z⟩
  · obtain ⟨h1, h2⟩ := lk_wipeS hi
    rcases h2 with rfl | h2
    · exact .undef _
    · exact ((h.slots i av h2).other hβ h1).move fun g hg _ => ⟨hS g hg, rfl⟩
  · obtain ⟨hne, o', ho', rfl⟩ := lk_wipeO hi
    rw [hβ i hne, hφ i hne]
    exact ((h.objs i o' ho').wipe hβ).move (fun g hg _ => ⟨hS g hg, rfl⟩) (Nat.le_refl _) (fun _ _ => rfl)
  · obtain ⟨hne, o', ho', _⟩ := lk_wipeO hi
    rw [hφ i hne] at hg
    exact h.own i o' g ho' hg
  · obtain ⟨hne, x, hx, _⟩ := lk_wipeO hi
    obtain ⟨hne', x', hx', _⟩ := lk_wipeO hi'
    rw [hφ i hne] at hg
    rw [hφ i' hne'] at hg'
    exact h.disj i i' x x' g hx hx' hg hg'

def upd (β : Nat → Value) (j : Nat) (v : Value) (i : Nat) : Value := if i = j then v else β i
theorem upd_ne {β j v} : ∀ i, i ≠ j → upd β j v i = β i := fun i h => by simp [upd, h]
theorem upd_eq {β j v} : upd β j v j = v := by simp [upd]
def updF (φ : Nat → Nat → Prop) (j : Nat) (F : Nat → Prop) (i : Nat) : Nat → Prop := if i = j then F else φ i
theorem updF_ne {φ j F} : ∀ i, i ≠ j → updF φ j F i = φ i := fun i h => by simp [updF, h]
theorem updF_eq {φ j F} : updF φ j F j = F := by simp [updF]

/-- A new object j, behind the header 'β j', whose block is new. -/
theorem SimB.layNew {Z β φ N B M w0 st a w w'} (h : SimB Z β φ N B M w0 st a w) {j : Nat} {o : AO} (hj : lk j st.o = none) (hg : Gb w w' none)
    (hnew : ∀ g, φ j g → w.heap.size ≤ g)
    (hok : ∀ S', (∀ av u, Rel β (free Z φ st.o) w av u → Rel β S' w' av u) → (∀ x u, Rd (free Z φ st.o) w x u → Rd S' w' x u) → OK β S' w' o (β j) (φ j)) :
    SimB Z β φ N B M w0 { st with o := ins j o st.o } a w' := by
  have hb : ∀ g, g < w.heap.size → w'.heap[g]? = w.heap[g]? := fun g hlt => hg.block g hlt (by simp)
  have hm : ∀ g, free Z φ st.o g → g < w.heap.size → free Z φ (ins j o st.o) g ∧ w'.heap[g]? = w.heap[g]? := fun g hf hlt => by
    refine ⟨⟨hf.1, fun i x hi => ?_⟩, hb g hlt⟩
    rw [lk_ins] at hi
    split at hi
    · rename_i e; subst e; intro hgo; have := hnew g hgo; omega
    · exact hf.2 i x hi
  refine ⟨h.nd.move hm, h.size, fun i av hi => (h.slots i av hi).move hm, fun i x hi => ?_, fun i x g hi hgo => ?_, fun i i' x x' g hi hi' hgo hgo' => ?_, h.fr.grown hg (by simp), h.z⟩
  · have hi' : lk i (ins j o st.o) = some x := hi
    rw [lk_ins] at hi'
    split at hi'
    · rename_i e; subst e; cases hi'; exact hok _ (fun _ _ hr => hr.move hm) (fun _ _ hr => hr.move hm)
    · exact (h.objs i x hi').move hm hg.size fun g hgo => hb g ((h.objs i x hi').block_lt hgo)
  · have hi' : lk i (ins j o st.o) = some x := hi
    rw [lk_ins] at hi'
    split at hi'
    · rename_i e; subst e; exact .inl (Nat.le_trans h.fr.le (hnew g hgo))
    · exact h.own i x g hi' hgo
  · have h1 : lk i (ins j o st.o) = some x := hi
    have h2 : lk i' (ins j o st.o) = some x' := hi'
    rw [lk_ins] at h1 h2
    split at h1 <;> split at h2
    · rename_i e e'; exact e.trans e'.symm
    · rename_i e _; subst e; have := hnew g hgo; have := (h.objs i' x' h2).block_lt hgo'; omega
    · rename_i _ e; subst e; have := hnew g hgo'; have := (h.objs i x h1).block_lt hgo; omega
    · exact h.disj i i' x x' g h1 h2 hgo hgo'

/-- Object j has new contents, its header stays. -/
theorem SimB.mod {Z β φ N B M w0 st a w w'} (h : SimB Z β φ N B M w0 st a w) {j : Nat} {o o0 : AO} (hj : lk j st.o = some o0) {row : Option Nat} (hg : Gb w w' row) (hrow : ∀ g, row = some g → φ j g)
    (hok : ∀ S', (∀ av u, Rel β (free Z φ st.o) w av u → Rel β S' w' av u) → (∀ x u, Rd (free Z φ st.o) w x u → Rd S' w' x u) → OK β S' w' o (β j) (φ j)) :
    SimB Z β φ N B M w0 { st with o := ins j o st.o } a w' := by
  have hkeys : ∀ i x, lk i (ins j o st.o) = some x → ∃ x', lk i st.o = some x' ∧ (i ≠ j → x' = x) := fun i x hi => by
    rw [lk_ins] at hi
    split at hi
    · rename_i e; subst e; exact ⟨o0, hj, fun hne => absurd rfl hne⟩
    · exact ⟨x, hi, fun _ => rfl⟩
  have hm : ∀ g, free Z φ st.o g → g < w.heap.size → free Z φ (ins j o st.o) g ∧ w'.heap[g]? = w.heap[g]? := fun g hf hlt => by
    refine ⟨⟨hf.1, fun i x hi => ?_⟩, hg.block g hlt fun e => hf.2 j o0 hj (hrow g e.symm)⟩
    obtain ⟨x', hx', _⟩ := hkeys i x hi
    exact hf.2 i x' hx'
  have hother : ∀ i x g, i ≠ j → lk i st.o = some x → φ i g → w'.heap[g]? = w.heap[g]? := fun i x g hne hi hgo =>
    hg.block g ((h.objs i x hi).block_lt hgo) fun e => hne (h.disj i j x o0 g hi hj hgo (hrow g e.symm))
  refine ⟨h.nd.move hm, h.size, fun i av hi => (h.slots i av hi).move hm, fun i x hi => ?_, fun i x g hi hgo => ?_, fun i i' x x' g hi hi' hgo hgo' => ?_, h.fr.grown hg fun g hgo => h.own j o0 g hj (hrow g hgo), h.z⟩
  · have hi' : lk i (ins j o st.o) = some x := hi
    rw [lk_ins] at hi'
    split at hi'
    · rename_i e; subst e; cases hi'; exact hok _ (fun _ _ hr => hr.move hm) (fun _ _ hr => hr.move hm)
    · rename_i hne; exact (h.objs i x hi').move hm hg.size fun g hgo => hother i x g hne hi' hgo
  · obtain ⟨x', hx', _⟩ := hkeys i x hi
    exact h.own i x' g hx' hgo
  · obtain ⟨y, hy, _⟩ := hkeys i x hi
    obtain ⟨y', hy', _⟩ := hkeys i' x' hi'
    exact h.disj i i' y y' g hy hy' hgo hgo'

theorem lk_wipeO_of {i j : Nat} (hne : i ≠ j) : ∀ {l : List (Nat × AO)} {o}, lk i l = some o → lk i (wipeO j l) = some (o.wipe j)
  | [], _, h => by simp [lk] at h
  | (k, v) :: r, o, h => by
    simp only [lk] at h
    simp only [wipeO]
    split at h
    · rename_i e; subst e; cases h; rw [if_neg hne]; simp [lk]
    · rename_i e
      split
      · exact lk_wipeO_of hne h
      · simp only [lk]; rw [if_neg e]; exact lk_wipeO_of hne h

/-- Object j has new contents behind a new header v' (its row may have moved): every mention of it is dropped. -/
theorem SimB.redo {Z β φ N B M w0 st a w w'} (h : SimB Z β φ N B M w0 st a w) {j : Nat} {o o0 : AO} (hj : lk j st.o = some o0) {row : Option Nat} (hg : Gb w w' row) (hrow : ∀ g, row = some g → φ j g) (v' : Value) (F' : Nat → Prop)
    (hv : ∀ g, F' g → w.heap.size ≤ g ∨ φ j g)
    (hok : ∀ S', (∀ x u, Rd (free Z φ st.o) w x u → Rd S' w' x u) → OK (upd β j v') S' w' o v' F') :
    SimB Z (upd β j v') (updF φ j F') N B M w0 ⟨wipeS j st.s, ins j o (wipeO j st.o)⟩ a w' := by
  have hkeys : ∀ i x, lk i (ins j o (wipeO j st.o)) = some x → (i = j ∧ x = o) ∨ (i ≠ j ∧ ∃ x', lk i st.o = some x' ∧ x = x'.wipe j) := fun i x hi => by
    rw [lk_ins] at hi
    split at hi
    · rename_i e; subst e; cases hi; exact .inl ⟨rfl, rfl⟩
    · obtain ⟨h1, x', h2, h3⟩ := lk_wipeO hi; exact .inr ⟨h1, x', h2, h3⟩
  have hm : ∀ g, free Z φ st.o g → g < w.heap.size → free Z (updF φ j F') (ins j o (wipeO j st.o)) g ∧ w'.heap[g]? = w.heap[g]? := fun g hf hlt => by
    refine ⟨⟨hf.1, fun i x hi => ?_⟩, hg.block g hlt fun e => hf.2 j o0 hj (hrow g e.symm)⟩
    rcases hkeys i x hi with ⟨rfl, _⟩ | ⟨hne, x', hx', _⟩
    · rw [updF_eq]; intro e
      rcases hv g e with h' | h'
      · omega
      · exact hf.2 i o0 hj h'
    · rw [updF_ne i hne]; exact hf.2 i x' hx'
  have hother : ∀ i x g, i ≠ j → lk i st.o = some x → φ i g → w'.heap[g]? = w.heap[g]? := fun i x g hne hi hgo =>
    hg.block g ((h.objs i x hi).block_lt hgo) fun e => hne (h.disj i j x o0 g hi hj hgo (hrow g e.symm))
  refine ⟨h.nd.move hm, h.size, fun i av hi => ?_, fun i x hi => ?_, fun i x g hi hgo => ?_, fun i i' x x' g hi hi' hgo hgo' => ?_, h.fr.grown hg fun g hgo => h.own j o0 g hj (hrow g hgo), h.z⟩
  · obtain ⟨h1, h2⟩ := lk_wipeS hi
    rcases h2 with rfl | h2
    · exact .undef _
    · exact ((h.slots i av h2).move hm).other upd_ne h1
  · rcases hkeys i x hi with ⟨rfl, rfl⟩ | ⟨hne, x', hx', rfl⟩
    · rw [upd_eq, updF_eq]; exact hok _ fun _ _ hr => hr.move hm
    · rw [upd_ne i hne, updF_ne i hne]
      exact ((h.objs i x' hx').move hm hg.size fun g hgo => hother i x' g hne hx' hgo).wipe upd_ne
  · rcases hkeys i x hi with ⟨rfl, rfl⟩ | ⟨hne, x', hx', rfl⟩
    · rw [updF_eq] at hgo
      rcases hv g hgo with h' | h'
      · exact .inl (Nat.le_trans h.fr.le h')
      · exact h.own i o0 g hj h'
    · rw [updF_ne i hne] at hgo; exact h.own i x' g hx' hgo
  · rcases hkeys i x hi with ⟨rfl, rfl⟩ | ⟨hne, y, hy, rfl⟩ <;> rcases hkeys i' x' hi' with ⟨rfl, rfl⟩ | ⟨hne', y', hy', rfl⟩
    · rfl
    · rw [updF_eq] at hgo; rw [updF_ne i' hne'] at hgo'
      rcases hv g hgo with h' | h'
      · have := (h.objs i' y' hy').block_lt hgo'; omega
      · exact h.disj i i' o0 y' g hj hy' h' hgo'
    · rw [updF_eq] at hgo'; rw [updF_ne i hne] at hgo
      rcases hv g hgo' with h' | h'
      · have := (h.objs i y hy).block_lt hgo; omega
      · exact h.disj i i' y o0 g hy hj hgo h'
    · rw [updF_ne i hne] at hgo; rw [updF_ne i' hne'] at hgo'
      exact h.disj i i' y y' g hy hy' hgo hgo'
/-- Objects are taken apart and put together anew: those of D are gone, those of E are new, all others stay. -/
theorem SimB.regroup {Z β β' φ φ' N B M w0 st a w} (h : SimB Z β φ N B M w0 st a w) {s' : List (Nat × AV)} {o' : List (Nat × AO)} {w' : World} (D E : Nat → Prop)
    (hos : w'.os = w.os) (htp : w'.tape = w.tape) (hou : w'.output = w.output) (hsz : w.heap.size ≤ w'.heap.size) (hdr : w.drawn ≤ w'.drawn)
    (hblk : ∀ g, g < w.heap.size → (∀ j x, D j → lk j st.o = some x → ¬ φ j g) → w'.heap[g]? = w.heap[g]?)
    (hs : ∀ i av, lk i s' = some av → av = .undef ∨ (lk i st.s = some av ∧ ∀ v, Rel β (free Z φ st.o) w av v → Rel β' (free Z φ st.o) w av v))
    (ho : ∀ j x, lk j o' = some x → (¬ D j ∧ φ' j = φ j ∧ β' j = β j ∧ ∃ y, lk j st.o = some y ∧ ∀ S w v F, OK β S w y v F → OK β' S w x v F) ∨
      (E j ∧ (∀ g, φ' j g → w.heap.size ≤ g ∨ ∃ i y, D i ∧ lk i st.o = some y ∧ φ i g) ∧ ∀ S', (∀ x u, Rd (free Z φ st.o) w x u → Rd S' w' x u) → OK β' S' w' x (β' j) (φ' j)))
    (hdis : ∀ j j' g, E j → E j' → φ' j g → φ' j' g → j = j') : SimB Z β' φ' N B M w0 ⟨s', o'⟩ a w' := by
  have hm : ∀ g, free Z φ st.o g → g < w.heap.size → free Z φ' o' g ∧ w'.heap[g]? = w.heap[g]? := fun g hf hlt => by
    refine ⟨⟨hf.1, fun j x hj => ?_⟩, hblk g hlt fun j x _ hj => hf.2 j x hj⟩
    rcases ho j x hj with ⟨_, e1, _, y, hy, _⟩ | ⟨_, h1, _⟩
    · rw [e1]; exact hf.2 j y hy
    · intro hg
      rcases h1 g hg with h2 | ⟨i, y, _, hy, h2⟩
      · omega
      · exact hf.2 i y hy h2
  have hkeep : ∀ j y g, ¬ D j → lk j st.o = some y → φ j g → w'.heap[g]? = w.heap[g]? := fun j y g hD hy hg =>
    hblk g ((h.objs j y hy).block_lt hg) fun i x hi hx hg' => hD ((h.disj j i y x g hy hx hg hg') ▸ hi)
  refine ⟨h.nd.move hm, h.size, fun i av hi => ?_, fun j x hj => ?_, fun j x g hj hg => ?_, fun j j' x x' g hj hj' hg hg' => ?_, ⟨hos.trans h.fr.os, htp.trans h.fr.tape, hou.trans h.fr.output, Nat.le_trans h.fr.le hsz, Nat.le_trans h.fr.size hsz, fun g hgB hgM => ?_, Nat.le_trans h.fr.drawn hdr⟩, h.z⟩
  · rcases hs i av hi with rfl | ⟨h1, h2⟩
    · exact .undef _
    · exact (h2 _ (h.slots i av h1)).move hm
  · rcases ho j x hj with ⟨hD, e1, e2, y, hy, h1⟩ | ⟨_, _, h1⟩
    · show OK β' _ w' x (β' j) (φ' j)
      rw [e1, e2]
      exact h1 _ _ _ _ ((h.objs j y hy).move hm hsz fun g hg => hkeep j y g hD hy hg)
    · exact h1 _ fun _ _ hr => hr.move hm
  · rcases ho j x hj with ⟨hD, e1, e2, y, hy, h1⟩ | ⟨_, h1, _⟩
    · rw [e1] at hg; exact h.own j y g hy hg
    · rcases h1 g hg with h2 | ⟨i, y, _, hy, h2⟩
      · exact .inl (Nat.le_trans h.fr.le h2)
      · exact h.own i y g hy h2
  · have cross : ∀ {j j' y}, ¬ D j → lk j st.o = some y → φ j g → (∀ g, φ' j' g → w.heap.size ≤ g ∨ ∃ i y, D i ∧ lk i st.o = some y ∧ φ i g) → φ' j' g → False := by
      intro j j' y hD hy hg h1 hg'
      rcases h1 g hg' with h2 | ⟨i, z, hi, hz, h2⟩
      · have := (h.objs j y hy).block_lt hg; omega
      · exact hD ((h.disj j i y z g hy hz hg h2) ▸ hi)
    rcases ho j x hj with ⟨hD, e1, e2, y, hy, h1⟩ | ⟨hE, h1, _⟩ <;> rcases ho j' x' hj' with ⟨hD', e1', e2', y', hy', h1'⟩ | ⟨hE', h1', _⟩
    · rw [e1] at hg; rw [e1'] at hg'; exact h.disj j j' y y' g hy hy' hg hg'
    · rw [e1] at hg; exact (cross hD hy hg h1' hg').elim
    · rw [e1'] at hg'; exact (cross hD' hy' hg' h1 hg).elim
    · exact hdis j j' g hE hE' hg hg'
  · refine (hblk g (Nat.lt_of_lt_of_le hgB h.fr.le) fun j x _ hx hg => ?_).trans (h.fr.block g hgB hgM)
    rcases h.own j x g hx hg with h1 | h1
    · omega
    · exact hgM h1
end Abs

namespace Abs
open Go Go.RowKit

/-! ### Small facts on the program's types -/
def aggT (P : Program) (t : TypeId) : Bool :=
  match P.underlying t with
  | some (.struct _) | some (.array _ _) => true
  | _ => false
def fieldOf (P : Program) (t : TypeId) (f : Nat) : Option (Nat × TypeId) :=
  match P.underlying t with
  | some (.struct fs) => (fs[f]?).map fun x => (x.offset, x.type)
  | _ => none
def elemSl (P : Program) (t : TypeId) : Option TypeId :=
  match P.underlying t with
  | some (.slice e) => some e
  | _ => none
def elemAr (P : Program) (t : TypeId) : Option (Nat × TypeId) :=
  match P.underlying t with
  | some (.array n e) => some (n, e)
  | _ => none
def isBoolT (P : Program) (t : TypeId) : Bool :=
  match P.underlying t with
  | some .bool => true
  | _ => false
def isStrT (P : Program) (t : TypeId) : Bool :=
  match P.underlying t with
  | some .string => true
  | _ => false
def zeroOf (P : Program) (t : TypeId) : Option Value := (P.info? t).bind (·.zero)

theorem elemSl_spec {P : Program} {t e} (h : elemSl P t = some e) : P.underlying t = some (.slice e) := by
  unfold elemSl at h; split at h <;> simp_all
theorem elemAr_spec {P : Program} {t n e} (h : elemAr P t = some (n, e)) : P.underlying t = some (.array n e) := by
  unfold elemAr at h; split at h <;> simp_all
theorem isBoolT_spec {P : Program} {t} (h : isBoolT P t = true) : P.underlying t = some .bool := by
  unfold isBoolT at h; split at h <;> simp_all
theorem isStrT_spec {P : Program} {t} (h : isStrT P t = true) : P.underlying t = some .string := by
  unfold isStrT at h; split at h <;> simp_all
theorem fieldOf_spec {P : Program} {t f o ft} (h : fieldOf P t f = some (o, ft)) : ∃ fs x, P.underlying t = some (.struct fs) ∧ fs[f]? = some x ∧ x.offset = o ∧ x.type = ft := by
  unfold fieldOf at h
  split at h
  · rename_i fs hu
    cases hx : fs[f]? with
    | none => simp [hx] at h
    | some x => simp [hx] at h; exact ⟨fs, x, hu, hx, h.1, h.2⟩
  · cases h

theorem info_of_cells {P : Program} {t} (h : 0 < P.cellsOf t) : ∃ i, P.info? t = some i ∧ i.size = P.cellsOf t := by
  unfold Program.cellsOf at *
  cases hi : P.info? t with
  | none => simp [hi] at h
  | some i => exact ⟨i, rfl, by simp⟩
theorem info_of_und {P : Program} {t d} (h : P.underlying t = some d) : ∃ i, P.info? t = some i ∧ i.size = P.cellsOf t := by
  unfold Program.cellsOf
  cases hi : P.info? t with
  | none => simp [Program.underlying, hi] at h
  | some i => exact ⟨i, rfl, by simp⟩
theorem run_sizeOf' {P : Program} {t d} (h : P.underlying t = some d) (w : World) : (Go.sizeOf t).run P w = .ok (P.cellsOf t) w := by
  obtain ⟨i, hi, hs⟩ := info_of_und h
  simp [Go.sizeOf, typeInfo, hi, hs]
theorem run_sizeOf_pos {P : Program} {t} (h : 0 < P.cellsOf t) (w : World) : (Go.sizeOf t).run P w = .ok (P.cellsOf t) w := by
  obtain ⟨i, hi, hs⟩ := info_of_cells h
  simp [Go.sizeOf, typeInfo, hi, hs]
theorem run_isAgg {P : Program} {t d} (h : P.underlying t = some d) (w : World) : (isAgg t).run P w = .ok (aggT P t) w := by
  simp only [isAgg, Sem.run_bind, run_underlying h, Result.andThen_ok, aggT, h]
  cases d <;> simp

/-! ### Constants -/
def cD : Value → Option D
  | .int k n => some (.int k n)
  | .bool b => some (.bool b)
  | .string s => some (.str s)
  | .pointer none => some .nilptr
  | .nilFunc => some .nilfn
  | .slice none 0 0 => some (.slice [])
  | _ => none
def cDs : List Value → Option (List D)
  | [] => some []
  | v :: r => match cD v, cDs r with
    | some x, some xs => some (x :: xs)
    | _, _ => none
def cv (v : Value) : Option AV :=
  match v with
  | .agg cs => (cDs cs.toList).map fun xs => .d (.agg xs)
  | v => (cD v).map .d

theorem cD_spec {S w v x} (h : cD v = some x) : Rd S w x v := by
  unfold cD at h
  split at h <;> first | (cases h; constructor; done) | cases h
theorem cDs_spec {S w} : ∀ {vs xs}, cDs vs = some xs → vs.length = xs.length ∧ ∀ i, i < xs.length → Rd S w (xs.getD i .nilptr) (vs.getD i Go.undef)
  | [], _, h => by simp [cDs] at h; subst h; simp
  | v :: r, xs, h => by
    simp only [cDs] at h
    split at h
    · rename_i x ys h1 h2
      cases h
      obtain ⟨h3, h4⟩ := cDs_spec (S := S) (w := w) h2
      refine ⟨by simp [h3], fun i hi => ?_⟩
      cases i with
      | zero => simpa using cD_spec h1
      | succ i => simpa using h4 i (by simpa using hi)
    · cases h
theorem cv_spec {β S w v av} (h : cv v = some av) : Rel β S w av v := by
  unfold cv at h
  split at h
  · rename_i cs
    cases hc : cDs cs.toList with
    | none => simp [hc] at h
    | some xs =>
      simp [hc] at h; subst h
      obtain ⟨h1, h2⟩ := cDs_spec (S := S) (w := w) hc
      have := Rd.agg (S := S) (w := w) h1 h2
      exact .d (by simpa using this)
  · obtain ⟨x, hc, rfl⟩ := Option.map_eq_some_iff.1 h
    exact .d (cD_spec hc)

def ev (st : St) : Operand → Option AV
  | .tmp t => lk t st.s
  | .const v => cv v
  | .func f => some (.fn (.func f) [])
  | .global _ => none

section
variable {P : Program} {Z : Nat → Prop} {β : Nat → Value} {φ : Nat → Nat → Prop} {N B : Nat} {M : Nat → Prop} {w0 : World} {st : St} {a : Act} {w : World}

theorem ev_spec (h : SimB Z β φ N B M w0 st a w) {x av} (hx : ev st x = some av) : Rel β (free Z φ st.o) w av (a.eval x) := by
  cases x with
  | tmp t => exact h.slots t av hx
  | const v => exact cv_spec hx
  | func f =>
    cases hx
    have := Rel.fn (β := β) (S := free Z φ st.o) (w := w) (f := .func f) (caps := []) (us := []) rfl (by simp)
    simpa [Act.eval] using this
  | global g => cases hx

theorem ev_d (h : SimB Z β φ N B M w0 st a w) {x y} (hx : ev st x = some (.d y)) : Rd (free Z φ st.o) w y (a.eval x) := by
  cases ev_spec h hx; assumption
theorem ev_int (h : SimB Z β φ N B M w0 st a w) {x k n} (hx : ev st x = some (.d (.int k n))) : a.eval x = .int k n := by
  have := ev_d h hx; generalize a.eval x = v at *; cases this; rfl
theorem ev_bool (h : SimB Z β φ N B M w0 st a w) {x b} (hx : ev st x = some (.d (.bool b))) : a.eval x = .bool b := by
  have := ev_d h hx; generalize a.eval x = v at *; cases this; rfl
theorem ev_str (h : SimB Z β φ N B M w0 st a w) {x s} (hx : ev st x = some (.d (.str s))) : a.eval x = .string s := by
  have := ev_d h hx; generalize a.eval x = v at *; cases this; rfl
theorem ev_sl (h : SimB Z β φ N B M w0 st a w) {x j} (hx : ev st x = some (.sl j)) : a.eval x = β j := by
  have := ev_spec h hx; generalize a.eval x = v at *; cases this; rfl
end

/-! ### Integer operations -/
def bitV (op : BinOp) (k : IntKind) (x y : Int) : Int :=
  let a := BitVec.ofInt k.bits x
  let b := BitVec.ofInt k.bits y
  match op with
  | .and => k.wrap (a &&& b).toNat
  | .or => k.wrap (a ||| b).toNat
  | .xor => k.wrap (a ^^^ b).toNat
  | _ => k.wrap (a &&& ~~~b).toNat

/-- What a binary operation on integers yields, and when. -/
def intB (op : BinOp) (k : IntKind) (x : Int) (k' : IntKind) (y : Int) : Option (Prop × D) :=
  match op with
  | .shl => some (0 ≤ y, .int k (k.wrap (x * 2 ^ min y.toNat k.bits)))
  | .shr => some (0 ≤ y, .int k (x.fdiv (2 ^ min y.toNat k.bits)))
  | .add => some (k = k', .int k (k.wrap (x + y)))
  | .sub => some (k = k', .int k (k.wrap (x - y)))
  | .mul => some (k = k', .int k (k.wrap (x * y)))
  | .quo => some (k = k' ∧ y ≠ 0, .int k (k.wrap (x.tdiv y)))
  | .rem => some (k = k' ∧ y ≠ 0, .int k (x.tmod y))
  | .and => some (k = k', .int k (bitV .and k x y))
  | .or => some (k = k', .int k (bitV .or k x y))
  | .xor => some (k = k', .int k (bitV .xor k x y))
  | .andNot => some (k = k', .int k (bitV .andNot k x y))
  | .eql => some (k = k', .bool (x == y))
  | .neq => some (k = k', .bool (x != y))
  | .lss => some (k = k', .bool (decide (x < y)))
  | .leq => some (k = k', .bool (decide (x ≤ y)))
  | .gtr => some (k = k', .bool (decide (y < x)))
  | .geq => some (k = k', .bool (decide (y ≤ x)))

theorem intB_spec {P : Program} {op k x k' y c z} (h : intB op k x k' y = some (c, z)) (hc : c) (t : TypeId) (w : World) :
    ∃ v, (binOp op t (.int k x) (.int k' y)).run P w = .ok v w ∧ ∀ S, Rd S w z v := by
  cases op <;> simp only [intB, Option.some.injEq, Prod.mk.injEq] at h <;> obtain ⟨rfl, rfl⟩ := h
  case shl => exact ⟨_, by simp [binOp, Op.shift, show ¬ y < 0 by omega], fun S => .int _ _⟩
  case shr => exact ⟨_, by simp [binOp, Op.shift, show ¬ y < 0 by omega], fun S => .int _ _⟩
  case quo => obtain ⟨rfl, hy⟩ := hc; exact ⟨.int k _, by rw [binOp_quo, Op.intDiv, if_neg hy]; rfl, fun S => .int _ _⟩
  case rem => obtain ⟨rfl, hy⟩ := hc; exact ⟨.int k _, by rw [binOp_rem, Op.intDiv, if_neg hy]; rfl, fun S => .int _ _⟩
  all_goals
    subst hc
    first
    | exact ⟨.int k _, by first | rw [binOp_add] | rw [binOp_sub] | rw [binOp_mul] | rw [binOp_and] | rw [binOp_or] | rw [binOp_xor] | rw [binOp_andNot]
                          rfl, fun S => .int _ _⟩
    | exact ⟨.bool _, by first | rw [binOp_eql] | rw [binOp_neq] | rw [binOp_lss] | rw [binOp_leq] | rw [binOp_gtr] | rw [binOp_geq]
                         rfl, fun S => .bool _⟩

def strB (op : BinOp) (x y : ByteArray) : Option (Prop × D) :=
  match op with
  | .add => some (x.size + y.size ≤ 9223372036854775807, .str (x ++ y))
  | .eql => some (True, .bool (x.toList == y.toList))
  | .neq => some (True, .bool (!(x.toList == y.toList)))
  | .lss => some (True, .bool (Op.bytesLess x.toList y.toList))
  | .leq => some (True, .bool (Op.bytesLess x.toList y.toList || x.toList == y.toList))
  | .gtr => some (True, .bool !(Op.bytesLess x.toList y.toList || x.toList == y.toList))
  | .geq => some (True, .bool !(Op.bytesLess x.toList y.toList))
  | _ => none

theorem strB_spec {P : Program} {op x y c z} (h : strB op x y = some (c, z)) (hc : c) (t : TypeId) (w : World) :
    ∃ v, (binOp op t (.string x) (.string y)).run P w = .ok v w ∧ ∀ S, Rd S w z v := by
  cases op <;> simp only [strB, Option.some.injEq, Prod.mk.injEq, reduceCtorEq] at h <;> obtain ⟨rfl, rfl⟩ := h
  case add =>
    refine ⟨.string (x ++ y), ?_, fun S => .str _⟩
    have : ¬ (((x.size + y.size : Nat) : Int) > IntKind.i64.max) := by
      have : IntKind.i64.max = 9223372036854775807 := by decide
      rw [this]; omega
    simp only [binOp, Op.stringOp]
    rw [if_neg this]; rfl
  all_goals exact ⟨.bool _, by simp only [binOp, Op.stringOp]; rfl, fun S => .bool _⟩

theorem eqGuard_plain {P : Program} {op t x y u v} (w : World) (h : (∀ cs, u ≠ .agg cs) ∧ u ≠ .nilIface) : (eqGuard op t x y u v).run P w = .ok () w := by
  cases u <;> first
    | (cases op <;> rfl)
    | exact absurd rfl h.2
    | exact absurd rfl (h.1 _)

/-! ### What an operation that changes no object yields -/
def el (es : List D) (i : Nat) : D := es.getD i .nilptr
/-- Of an aggregate's cells the part that is a value of type t at 'off'. -/
def partD (P : Program) (cs : List D) (off : Nat) (t : TypeId) : D := if aggT P t then .agg ((cs.drop off).take (P.cellsOf t)) else cs.getD off .nilptr
def partOK (P : Program) (cs : List D) (off : Nat) (t : TypeId) : Prop :=
  off + P.cellsOf t ≤ cs.length ∧ 0 < P.cellsOf t ∧ (aggT P t = true ∨ (P.cellsOf t = 1 ∧ (cs.getD off .nilptr).isAgg = false)) ∧ (P.underlying t).isSome = true
/-- x is laid out as a value of type t. -/
def D.fits (P : Program) (x : D) (t : TypeId) : Prop := x.isAgg = aggT P t ∧ x.cells.length = P.cellsOf t

def allD : List AV → Option (List D)
  | [] => some []
  | .d x :: r => match allD r with
    | some xs => some (x :: xs)
    | none => none
  | .nilS :: r => match allD r with
    | some xs => some (.slice [] :: xs)
    | none => none
  | _ :: _ => none

/-- An operand that is handed over: the nil slice stands as itself. -/
def evA (st : St) (x : Operand) : Option AV :=
  match x with
  | .const (.slice none 0 0) => some .nilS
  | x => ev st x
def evs (st : St) : List Operand → Option (List AV)
  | [] => some []
  | x :: r => match evA st x, evs st r with
    | some y, some ys => some (y :: ys)
    | _, _ => none

def lenV (o : List (Nat × AO)) : AV → Option Int
  | .nilS => some 0
  | .d (.slice es) => some es.length
  | .sl j => match lk j o with
    | some (.arr _ _ es) => some es.length
    | some (.dp _ es _) => some es.length
    | _ => none
  | _ => none

/-- Of a struct's cells the part that is a value of type t at 'off'. -/
def partA (P : Program) (cs : List AV) (off : Nat) (t : TypeId) : AV := if aggT P t then .st ((cs.drop off).take (P.cellsOf t)) else cs.getD off .undef
def partAOK (P : Program) (cs : List AV) (off : Nat) (t : TypeId) : Prop := off + P.cellsOf t ≤ cs.length ∧ 0 < P.cellsOf t ∧ (P.underlying t).isSome = true

def loadV (P : Program) (o : List (Nat × AO)) (t : TypeId) : AV → Option (Prop × AV)
  | .d (.ptr y) => some (y.fits P t, .d y)
  | .p j off => match lk j o with
    | some (.box _ cells) =>
      if aggT P t then
        match allD ((cells.drop off).take (P.cellsOf t)) with
        | some ds => some (off + P.cellsOf t ≤ cells.length ∧ (P.underlying t).isSome = true, .d (.agg ds))
        | none => some (off + P.cellsOf t ≤ cells.length ∧ (P.underlying t).isSome = true, .st ((cells.drop off).take (P.cellsOf t)))
      else some (off < cells.length ∧ (P.underlying t).isSome = true, cells.getD off .undef)
    | some (.arv _ k es) => if aggT P t then some (off = 0 ∧ (flat es).length = P.cellsOf t ∧ (P.underlying t).isSome = true, .d (.agg (flat es))) else none
    | _ => none
  | .pe j k i fo => match lk j o with
    | some (.arr _ k' es) | some (.arv _ k' es) =>
      if aggT P t then some (k = k' ∧ i < es.length ∧ fo = 0 ∧ (el es i).fits P t ∧ (P.underlying t).isSome = true, .d (el es i))
      else some (k = k' ∧ i < es.length ∧ fo < (el es i).cells.length ∧ (P.underlying t).isSome = true, .d ((el es i).cells.getD fo .nilptr))
    | some (.dp _ es none) =>
      if aggT P t then none else if (elemSl P t).isSome then none
      else some (i < es.length ∧ (el es i).cells.length = k ∧ fo < (el es i).cells.length ∧ ((el es i).cells.getD fo .nilptr).bare = true ∧ (P.underlying t).isSome = true, .d ((el es i).cells.getD fo .nilptr))
    | _ => none
  | _ => none

def indexV (P : Program) (o : List (Nat × AO)) (t : TypeId) (x : AV) (i : Int) : Option (Prop × AV) :=
  match elemSl P t with
  | some e => match x with
    | .d (.slice es) => some (0 ≤ i ∧ i < es.length ∧ (el es i.toNat).cells.length = P.cellsOf e ∧ 0 < P.cellsOf e, .d (.ptr (el es i.toNat)))
    | .sl j => match lk j o with
      | some (.arr _ k es) => some (0 ≤ i ∧ i < es.length ∧ P.cellsOf e = k, .pe j k i.toNat 0)
      | some (.dp _ es _) => some (0 ≤ i ∧ i < es.length ∧ (el es i.toNat).cells.length = P.cellsOf e ∧ 0 < P.cellsOf e, .pe j (P.cellsOf e) i.toNat 0)
      | _ => none
    | _ => none
  | none => match elemAr P t with
    | some (n, e) => match x with
      | .p j 0 => match lk j o with
        | some (.arv _ k es) => some (0 ≤ i ∧ i < n ∧ P.cellsOf e = k, .pe j k i.toNat 0)
        | _ => none
      | .pe j k q fo => some (0 ≤ i ∧ i < n ∧ 0 < P.cellsOf e, .pe j k q (fo + i.toNat * P.cellsOf e))
      | .d (.ptr (.agg cs)) => some (0 ≤ i ∧ i < n ∧ partOK P cs (i.toNat * P.cellsOf e) e, .d (.ptr (partD P cs (i.toNat * P.cellsOf e) e)))
      | _ => none
    | none => none

def fieldAV (P : Program) (t : TypeId) (f : Nat) : AV → Option (Prop × AV)
  | .d (.ptr (.agg cs)) => match fieldOf P t f with
    | some (o, ft) => some (partOK P cs o ft, .d (.ptr (partD P cs o ft)))
    | none => none
  | .p j off => match fieldOf P t f with
    | some (o, ft) => some (0 < P.cellsOf ft, .p j (off + o))
    | none => none
  | .pe j k i fo => match fieldOf P t f with
    | some (o, ft) => some (0 < P.cellsOf ft, .pe j k i (fo + o))
    | none => none
  | _ => none

def builtinV (P : Program) (st : St) (b : Builtin) (args : List Operand) (ts : List TypeId) : Option (Prop × AV) :=
  match b, args, ts with
  | .len, [x], [t] => match ev st x with
    | some (.d (.str s)) => some (isStrT P t = true, .d (.int .i64 s.size))
    | some av => match lenV st.o av with
      | some n => some ((elemSl P t).isSome = true, .d (.int .i64 n))
      | none => none
    | none => none
  | .max, [x, y], _ => match ev st x, ev st y with
    | some (.d (.int k n)), some (.d (.int _ m)) => some (True, .d (.int k (if m > n then m else n)))
    | _, _ => none
  | .min, [x, y], _ => match ev st x, ev st y with
    | some (.d (.int k n)), some (.d (.int _ m)) => some (True, .d (.int k (if m < n then m else n)))
    | _, _ => none
  | _, _, _ => none

/-- 's[:0:0]'. -/
def e0V (P : Program) (st : St) (t : TypeId) (x : Operand) (lo hi mx : Option Operand) : Option (Prop × AV) :=
  match mx, hi, lo with
  | some m, some h, none => match ev st x, ev st h, ev st m with
    | some (.d (.slice _)), some (.d (.int _ 0)), some (.d (.int _ 0)) => match elemSl P t with
      | some e => some (0 < P.cellsOf e, .e0)
      | none => none
    | _, _, _ => none
  | _, _, _ => none

def isIntT (P : Program) (t : TypeId) : Bool := match P.underlying t with
  | some (.int _) => true
  | _ => false
/-- A struct type all of whose fields are integers: where they lie. -/
def eqShape (P : Program) (t : TypeId) : Option (List (Nat × TypeId)) :=
  match P.underlying t with
  | some (.struct fs) => if P.eqGuardType P.depth t = false ∧ P.stoodInHeld t = false ∧ ∀ f ∈ fs.toList, f.name ≠ "_" ∧ isIntT P f.type = true then some (fs.toList.map fun f => (f.offset, f.type)) else none
  | _ => none
def eqLok (P : Program) (cs ds : List D) : List (Nat × TypeId) → Prop
  | [] => True
  | (o, t) :: r => partOK P cs o t ∧ partOK P ds o t ∧ aggT P t = false ∧ (match cs.getD o .nilptr, ds.getD o .nilptr with | .int k _, .int k' _ => k = k' | _, _ => False) ∧ eqLok P cs ds r
def eqL (cs ds : List D) : List (Nat × TypeId) → Bool
  | [] => true
  | (o, _) :: r => (match cs.getD o .nilptr, ds.getD o .nilptr with | .int _ n, .int _ m => n == m | _, _ => false) && eqL cs ds r

def qv (P : Program) (st : St) (op : Op) : Option (Prop × AV) :=
  match op with
  | .move x | .assign x => (ev st x).map fun y => (True, y)
  | .pick c x y => match ev st c with
    | some (.d (.bool b)) => some (True, bif b then (ev st x).getD .undef else (ev st y).getD .undef)
    | _ => none
  | .load t x => ((ev st x).bind (loadV P st.o t)).map fun r => ((P.underlying t).isSome = true ∧ r.1, r.2)
  | .nilCheck x => match ev st x with
    | some (.d (.ptr y)) => some (True, .d (.ptr y))
    | some (.p j o) => some (True, .p j o)
    | some (.pe j k i o) => some (True, .pe j k i o)
    | _ => none
  | .binOp op t x y _ => match ev st x, ev st y with
    | some (.d (.int k n)), some (.d (.int k' m)) => (intB op k n k' m).map fun r => (r.1, .d r.2)
    | some (.d (.str s)), some (.d (.str u)) => (strB op s u).map fun r => (r.1, .d r.2)
    | some (.d (.bool s)), some (.d (.bool u)) => match op with
      | .eql => some (isBoolT P t = true, .d (.bool (s == u)))
      | .neq => some (isBoolT P t = true, .d (.bool (!(s == u))))
      | _ => none
    | some (.d (.agg cs)), some (.d (.agg ds)) => match op, eqShape P t with
      | .eql, some l => some (eqLok P cs ds l, .d (.bool (eqL cs ds l)))
      | .neq, some l => some (eqLok P cs ds l, .d (.bool (!eqL cs ds l)))
      | _, _ => none
    | _, _ => none
  | .unOp op _ x => match ev st x, op with
    | some (.d (.bool b)), .not => some (True, .d (.bool !b))
    | some (.d (.int k n)), .neg => some (True, .d (.int k (k.wrap (0 - n))))
    | some (.d (.int k n)), .xor => some (True, .d (.int k (bitV .xor k (if k.signed then -1 else k.max) n)))
    | _, _ => none
  | .convert s t x => match ev st x with
    | some (.d (.int k n)) => match P.underlying t with
      | some (.int k') => some ((P.underlying s).isSome = true, .d (.int k' (k'.wrap n)))
      | _ => none
    | _ => none
  | .fieldAddr t x f => (ev st x).bind (fieldAV P t f)
  | .field t x f => match ev st x with
    | some (.d (.agg cs)) => match fieldOf P t f with
      | some (o, ft) => some (partOK P cs o ft, .d (partD P cs o ft))
      | none => none
    | some (.st cs) => match fieldOf P t f with
      | some (o, ft) => some (partAOK P cs o ft, partA P cs o ft)
      | none => none
    | _ => none
  | .indexAddr t x i => match ev st x, ev st i with
    | some av, some (.d (.int _ n)) => indexV P st.o t av n
    | _, _ => none
  | .index t x i => match ev st x, ev st i with
    | some (.d (.agg cs)), some (.d (.int _ n)) => match elemAr P t with
      | some (len, e) => some (0 ≤ n ∧ n < len ∧ partOK P cs (n.toNat * P.cellsOf e) e, .d (partD P cs (n.toNat * P.cellsOf e) e))
      | none => none
    | some (.d (.str s)), some (.d (.int _ n)) => some (0 ≤ n ∧ n < s.size ∧ isStrT P t = true, .d (.int .u8 (s.data.toList.getD n.toNat 0).toNat))
    | _, _ => none
  | .extract x i => match ev st x with
    | some (.tup xs) => some (i < xs.length, xs.getD i .undef)
    | some (.d (.tup xs)) => some (i < xs.length, .d (xs.getD i .nilptr))
    | _ => none
  | .slice t x lo hi mx => e0V P st t x lo hi mx
  | .makeFunc f first caps => if first.size = 0 then (evs st caps.toList).map fun cs => (True, .fn f cs) else none
  | .call c => match c.callee with
    | .builtin b => builtinV P st b c.args.toList c.argTypes.toList
    | _ => none
  | _ => none
end Abs
