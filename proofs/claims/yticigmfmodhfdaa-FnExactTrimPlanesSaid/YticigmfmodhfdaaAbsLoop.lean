/- A loop whose rounds set known slots: the head's state is the state in front of the loop, with those slots set anew. No condition. -/
import Derived.Test.YticigmfmodhfdaaAbsSimp
set_option linter.all false
namespace Abs
open Go Go.RowKit

/-- Both lists rise: what is in ks is dropped. -/
def dropS {α : Type} : List Nat → List (Nat × α) → List (Nat × α)
  | [], l => l
  | _ :: _, [] => []
  | k :: ks, (j, v) :: r => if k < j then (j, v) :: dropS (k :: ks) r else if j = k then dropS ks r else dropS ks ((j, v) :: r)
def insL {α : Type} : List (Nat × α) → List (Nat × α) → List (Nat × α)
  | [], l => l
  | (k, v) :: r, l => ins k v (insL r l)
/-- The keys of the first that the second has not. -/
def extraK {α : Type} : List (Nat × α) → List (Nat × α) → List Nat
  | [], _ => []
  | (k, _) :: r, l => if (lk k l).isSome then extraK r l else k :: extraK r l
def updSt (ks : List Nat) (u : List (Nat × AV)) (ou : List (Nat × AO)) (S : List (Nat × AV)) (O : List (Nat × AO)) : St := ⟨insL u (dropS ks S), insL ou O⟩

theorem Wk.auto {N : Nat} {S S' : List (Nat × AV)} {O O' : List (Nat × AO)} (ho : (killL (extraK O O') ⟨S, O⟩).o = O') (hs : ∀ p ∈ S', lk p.1 (killL (extraK O O') ⟨S, O⟩).s = some p.2) : Wk N ⟨S, O⟩ ⟨S', O'⟩ := by
  have h1 : ∀ (ks : List Nat) (st : St), Wk N st (killL ks st) := fun ks => by
    induction ks with
    | nil => exact fun st => Wk.refl
    | cons k ks ih => exact fun st => (Wk.kill k).trans (ih _)
  refine (h1 (extraK O O') ⟨S, O⟩).trans ?_
  generalize killL (extraK O O') ⟨S, O⟩ = st at *
  obtain ⟨s, o⟩ := st
  simp only at ho hs
  subst ho
  exact Wk.sub hs

/-! ### Two objects change their names -/
def swp (a b j : Nat) : Nat := if j = a then b else if j = b then a else j
mutual
end
def swpS (a b : Nat) : List (Nat × AV) → List (Nat × AV)
  | [] => []
  | (i, v) :: r => (i, v.ren (swp a b)) :: swpS a b r
def swpO (a b : Nat) : List (Nat × AO) → List (Nat × AO)
  | [] => []
  | (j, o) :: r => (swp a b j, o.ren (swp a b)) :: swpO a b r
theorem Ok.loopU {P : Program} {N : Nat} {c : Code} {Q : Exit → St → Prop} {S : List (Nat × AV)} {O : List (Nat × AO)} {α : Type} (ks : List Nat) (u : α → List (Nat × AV)) (ou : α → List (Nat × AO)) (I : Nat → α → Prop)
    (n0 : Nat) (a0 : α) (hI : I n0 a0) (hw : Wk N ⟨S, O⟩ (updSt ks (u a0) (ou a0) S O))
    (hr : ∀ (R : Exit → St → Prop) (n : Nat) (a : α), (∀ m a' st, m < n → I m a' → Wk N st (updSt ks (u a') (ou a') S O) → R .normal st) → (∀ e st, e ≠ .normal → Q e st → R e st) → I n a → Awp P N c R (updSt ks (u a) (ou a) S O)) : Ok P N (.loop c) Q ⟨S, O⟩ :=
  Ok.loop (fun n st => ∃ a, I n a ∧ st = updSt ks (u a) (ou a) S O) n0 hw ⟨a0, hI, rfl⟩ fun n st ⟨a, hI, h⟩ => by
    subst h
    rw [← Awp_eq]
    refine hr _ n a (fun m a' st h1 h2 h3 => ⟨m, _, h1, h3, a', h2, rfl⟩) (fun e st h1 h2 => ?_) hI
    cases e <;> first | exact absurd rfl h1 | exact h2

/-- A loop that counts from 0 to len, with data carried. -/
theorem Ok.loopN {P : Program} {N : Nat} {c : Code} {Q : Exit → St → Prop} {S : List (Nat × AV)} {O : List (Nat × AO)} {α : Type} (ks : List Nat) (u : Nat → α → List (Nat × AV)) (ou : Nat → α → List (Nat × AO)) (len : Nat) (I : Nat → α → Prop)
    (a0 : α) (hI : I 0 a0) (hw : Wk N ⟨S, O⟩ (updSt ks (u 0 a0) (ou 0 a0) S O))
    (hr : ∀ (R : Exit → St → Prop) (i : Nat) (a : α), (∀ a' st, i < len → I (i + 1) a' → Wk N st (updSt ks (u (i + 1) a') (ou (i + 1) a') S O) → R .normal st) → (∀ e st, e ≠ .normal → Q e st → R e st) → i ≤ len → I i a →
      Awp P N c R (updSt ks (u i a) (ou i a) S O)) : Ok P N (.loop c) Q ⟨S, O⟩ :=
  Ok.loopU ks (fun p : Nat × α => u p.1 p.2) (fun p => ou p.1 p.2) (fun n p => n = len - p.1 ∧ p.1 ≤ len ∧ I p.1 p.2) len (0, a0) ⟨rfl, Nat.zero_le _, hI⟩ hw
    fun R n ⟨i, a⟩ hN hE ⟨h1, h2, h3⟩ => hr R i a (fun a' st hlt hI' hw' => hN (len - (i + 1)) (i + 1, a') st (by simp only at h1 h2; omega) ⟨rfl, hlt, hI'⟩ hw') hE h2 h3
/-- A loop that counts from 0 to len. -/
theorem Ok.loopC {P : Program} {N : Nat} {c : Code} {Q : Exit → St → Prop} {S : List (Nat × AV)} {O : List (Nat × AO)} (ks : List Nat) (u : Nat → List (Nat × AV)) (len : Nat) (I : Nat → Prop)
    (hI : I 0) (hw : Wk N ⟨S, O⟩ (updSt ks (u 0) [] S O))
    (hr : ∀ (R : Exit → St → Prop) (i : Nat), (∀ st, i < len → I (i + 1) → Wk N st (updSt ks (u (i + 1)) [] S O) → R .normal st) → (∀ e st, e ≠ .normal → Q e st → R e st) → i ≤ len → I i →
      Awp P N c R (updSt ks (u i) [] S O)) : Ok P N (.loop c) Q ⟨S, O⟩ :=
  Ok.loopU ks (fun i : Nat => u i) (fun _ => []) (fun n i => n = len - i ∧ i ≤ len ∧ I i) len 0 ⟨rfl, Nat.zero_le _, hI⟩ hw
    fun R n i hN hE ⟨h1, h2, h3⟩ => hr R i (fun st hlt hI' hw' => hN (len - (i + 1)) (i + 1) st (by omega) ⟨rfl, hlt, hI'⟩ hw') hE h2 h3

attribute [go_sem] dropS insL extraK updSt swpS swpO swp
end Abs
