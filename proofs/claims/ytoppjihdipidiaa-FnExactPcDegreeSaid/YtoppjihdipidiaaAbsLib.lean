/- Small plain facts that contracts share. No condition. -/
import Derived.Test.YtoppjihdipidiaaAbsLoop
set_option linter.all false
namespace Abs
open Go Go.RowKit

theorem ok_ints {k : IntKind} {xs : List Int} : ∀ y ∈ List.map (D.int k) xs, D.ok 1 y := fun y hy => by
  obtain ⟨x, _, rfl⟩ := List.mem_map.1 hy; rw [ok_int]
theorem cells_ints {k : IntKind} {xs : List Int} : ∀ y ∈ List.map (D.int k) xs, y.cells.length = 1 := fun y hy => by
  obtain ⟨x, _, rfl⟩ := List.mem_map.1 hy; rfl
theorem plain_ints {k : IntKind} {xs : List Int} : ∀ y ∈ List.map (D.int k) xs, y.plain = true := fun y hy => by
  obtain ⟨x, _, rfl⟩ := List.mem_map.1 hy; rfl
theorem no_mem {α : Type} {P : α → Prop} : ∀ y, y ∈ ([] : List α) → P y := fun _ h => by cases h
theorem le_maxLen {n : Nat} (h : n ≤ 2305843009213693951) : n ≤ maxLen := by unfold maxLen; omega
theorem toNat_pred (i : Nat) : ((i : Int) - 1).toNat = i - 1 := by omega
theorem ret_ne : Exit.ret ≠ Exit.normal := by simp
theorem exit_ne {i : Nat} : Exit.exit i ≠ Exit.normal := by simp

def D.intss (xs : List (List Int)) : D := .slice (xs.map D.ints)
theorem el_intss {xs : List (List Int)} {i : Nat} (h : i < xs.length) : el (xs.map D.ints) i = .slice ((xs.getD i []).map (.int .i64)) := el_map (f := D.ints) [] h
/-- A step of a derivation. -/
structure Step where
  c : List Int
  l : Int
  r : Int
  p : Int
deriving DecidableEq
def Step.z : Step := ⟨[], 0, 0, 0⟩
def D.step (s : Step) : D := .agg [D.ints s.c, .int .i64 s.l, .int .i64 s.r, .int .i64 s.p]
theorem all_succ {P : Nat → Prop} {i : Nat} (h : ∀ j, j < i → P j) (h' : P i) : ∀ j, j < i + 1 → P j := fun j hj => by
  rcases Nat.lt_succ_iff_lt_or_eq.1 hj with h1 | rfl
  · exact h j h1
  · exact h'
theorem set_getDz {α : Type} (z : α) (l : List α) (i j : Nat) (v : α) (h : i < l.length) : (l.set i v).getD j z = if j = i then v else l.getD j z := by
  simp only [List.getD_eq_getElem?_getD, List.getElem?_set]
  by_cases e : i = j
  · subst e; simp [h]
  · rw [if_neg e, if_neg (Ne.symm e)]
theorem ext_getDz {α : Type} (z : α) {l l' : List α} (hl : l.length = l'.length) (h : ∀ j, j < l.length → l.getD j z = l'.getD j z) : l = l' := by
  apply List.ext_getElem hl
  intro j h1 h2
  have := h j h1
  simpa [List.getD_eq_getElem?_getD, h1, h2] using this
theorem getD_mem {α : Type} {z : α} {l : List α} {i : Nat} (h : i < l.length) : l.getD i z ∈ l := by
  rw [List.getD_eq_getElem?_getD, List.getElem?_eq_getElem h]; exact List.getElem_mem h
theorem mem_getD {α : Type} (z : α) {l : List α} {x : α} (h : x ∈ l) : ∃ j, j < l.length ∧ l.getD j z = x := by
  obtain ⟨j, hj, rfl⟩ := List.getElem_of_mem h
  exact ⟨j, hj, by simp [List.getD_eq_getElem?_getD, hj]⟩
theorem all_true {α : Type} {z : α} {p : α → Bool} {l : List α} (hp : ∀ j, j < l.length → p (l.getD j z) = true) : l.all p = true := by
  rw [List.all_eq_true]
  intro x hx
  obtain ⟨j, hj, rfl⟩ := mem_getD z hx
  exact hp j hj
theorem all_false {α : Type} {z : α} {p : α → Bool} {l : List α} {i : Nat} (h : i < l.length) (hp : p (l.getD i z) = false) : l.all p = false := by
  rw [List.all_eq_false]; exact ⟨_, getD_mem (z := z) h, by rw [hp]; simp⟩
theorem drop_cons {α : Type} (z : α) (l : List α) (i : Nat) (h : i < l.length) : l.drop i = l.getD i z :: l.drop (i + 1) := by
  rw [List.drop_eq_getElem_cons h, List.getD_eq_getElem?_getD, List.getElem?_eq_getElem h]; rfl
theorem take_succ {α : Type} (z : α) (l : List α) (i : Nat) (h : i < l.length) : l.take (i + 1) = l.take i ++ [l.getD i z] := by
  rw [List.take_succ_eq_append_getElem h, List.getD_eq_getElem?_getD, List.getElem?_eq_getElem h]; rfl
def idxR (p : Nat → Bool) (n : Nat) : Int := match (List.range n).find? p with | some k => (k : Nat) | none => -1
theorem idxR_some {p : Nat → Bool} {n k : Nat} (hk : k < n) (h : p k = true) (hn : ∀ j, j < k → p j = false) : idxR p n = k := by
  have : (List.range n).find? p = some k := by
    rw [List.find?_range_eq_some]
    exact ⟨h, by simpa using hk, fun j hj => by simp [hn j hj]⟩
  rw [idxR, this]
theorem idxR_none {p : Nat → Bool} {n : Nat} (hn : ∀ j, j < n → p j = false) : idxR p n = -1 := by
  have : (List.range n).find? p = none := by
    rw [List.find?_range_eq_none]
    exact fun j hj => by simp [hn j hj]
  rw [idxR, this]

/-! ### Short forms for the walks -/
attribute [go_sem] el_ints el_intss wrap_of toNat_pred Int.toNat_zero Nat.sub_zero List.drop_zero
/-- A state seen as another with fewer slots and objects: by computing. -/
theorem Wk.kk {N : Nat} {S S' : List (Nat × AV)} {O O' : List (Nat × AO)}
    (ho : (killL (extraK O O') ⟨S, O⟩).o = O' := by simp [extraK, lk, killL, St.kill, wipeO, wipeS, AV.has, AV.hasL, AO.wipe, List.map_set, updSt, insL, dropS, ins])
    (hs : ∀ p ∈ S', lk p.1 (killL (extraK O O') ⟨S, O⟩).s = some p.2 := by simp [extraK, lk, killL, St.kill, wipeO, wipeS, AV.has, AV.hasL, AO.wipe, List.map_set, updSt, insL, dropS, ins]) : Wk N ⟨S, O⟩ ⟨S', O'⟩ := Wk.auto ho hs
end Abs
