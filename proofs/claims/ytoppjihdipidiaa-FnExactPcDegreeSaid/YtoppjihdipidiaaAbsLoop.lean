/- A loop whose rounds set known slots: the head's state is the state in front of the loop, with those slots set anew. No condition. -/
import Derived.Test.YtoppjihdipidiaaAbsSimp
set_option linter.all false
namespace Abs
open Go Go.RowKit

/-- Both lists rise: what is in ks is dropped. -/
def dropS {α : Type} : List Nat → List (Nat × α) → List (Nat × α)
  | [], l => l
  | _ :: _, [] => []
  | k :: ks, (j, v) :: r => if k < j then (j, v) :: dropS (k :: ks) r else if j = k then dropS ks r else dropS ks ((j, v) :: r)
def insL {α : Type} : List (Nat × α) → List (Nat × α) → List (Nat × α)
  | [], l => l
  | (k, v) :: r, l => ins k v (insL r l)
/-- The keys of the first that the second has not. -/
def extraK {α : Type} : List (Nat × α) → List (Nat × α) → List Nat
  | [], _ => []
  | (k, _) :: r, l => if (lk k l).isSome then extraK r l else k :: extraK r l
def updSt (ks : List Nat) (u : List (Nat × AV)) (ou : List (Nat × AO)) (S : List (Nat × AV)) (O : List (Nat × AO)) : St := ⟨insL u (dropS ks S), insL ou O⟩

theorem Wk.auto {N : Nat} {S S' : List (Nat × AV)} {O O' : List (Nat × AO)} (ho : (killL (extraK O O') ⟨S, O⟩).o = O') (hs : ∀ p ∈ S', lk p.1 (killL (extraK O O') ⟨S, O⟩).s = some p.2) : Wk N ⟨S, O⟩ ⟨S', O'⟩ := by
  have h1 : ∀ (ks : List Nat) (st : St), Wk N st (killL ks st) := fun ks => by
    induction ks with
    | nil => exact fun st => Wk.refl
    | cons k ks ih => exact fun st => (Wk.kill k).trans (ih _)
  refine (h1 (extraK O O') ⟨S, O⟩).trans ?_
  generalize killL (extraK O O') ⟨S, O⟩ = st at *
  obtain ⟨s, o⟩ := st
  simp only at ho hs
  subst ho
  exact Wk.sub hs

/-! ### Two objects change their names -/
def swp (a b j : Nat) : Nat := if j = a then b else if j = b then a else j
theorem swp_swp (a b j : Nat) : swp a b (swp a b j) = j := by unfold swp; repeat' split <;> simp_all
mutual
theorem AV.ren_swp (a b : Nat) : ∀ v : AV, (v.ren (swp a b)).ren (swp a b) = v
  | .undef => rfl
  | .d _ => rfl
  | .sl j => by simp [AV.ren, swp_swp]
  | .p j o => by simp [AV.ren, swp_swp]
  | .pe j k i o => by simp [AV.ren, swp_swp]
  | .tup xs => by simp only [AV.ren, AV.renL_swp a b xs]
  | .fn f cs => by simp only [AV.ren, AV.renL_swp a b cs]
  | .e0 => rfl
  | .hdr j u => by simp [AV.ren, swp_swp]
  | .nilS => rfl
  | .st xs => by simp only [AV.ren, AV.renL_swp a b xs]
theorem AV.renL_swp (a b : Nat) : ∀ vs : List AV, AV.renL (swp a b) (AV.renL (swp a b) vs) = vs
  | [] => rfl
  | x :: r => by simp only [AV.renL, AV.ren_swp a b x, AV.renL_swp a b r]
end
theorem AO.ren_swp (a b : Nat) (o : AO) : (o.ren (swp a b)).ren (swp a b) = o := by
  cases o with
  | box e cells => simp only [AO.ren, AV.renL_swp]
  | arr e k es => rfl
  | arv e k es => rfl
  | dp t es ho => rcases ho with _ | ⟨c, _ | d⟩ <;> simp [AO.ren, swp_swp]
def swpS (a b : Nat) : List (Nat × AV) → List (Nat × AV)
  | [] => []
  | (i, v) :: r => (i, v.ren (swp a b)) :: swpS a b r
def swpO (a b : Nat) : List (Nat × AO) → List (Nat × AO)
  | [] => []
  | (j, o) :: r => (swp a b j, o.ren (swp a b)) :: swpO a b r
theorem lk_swpS {a b i : Nat} : ∀ {l : List (Nat × AV)} {v}, lk i (swpS a b l) = some v → lk i l = some (v.ren (swp a b))
  | (k, u) :: r, v, h => by
    simp only [swpS, lk] at h ⊢
    split at h
    · rename_i e; cases h; rw [AV.ren_swp, if_pos e]
    · rename_i e; rw [if_neg e]; exact lk_swpS h
theorem lk_swpO {a b j : Nat} : ∀ {l : List (Nat × AO)} {o}, lk j (swpO a b l) = some o → lk (swp a b j) l = some (o.ren (swp a b))
  | (k, u) :: r, o, h => by
    simp only [swpO, lk] at h ⊢
    split at h
    · rename_i e; cases h; subst e; rw [swp_swp, if_pos rfl, AO.ren_swp]
    · rename_i e
      rw [if_neg fun e2 => e (by rw [← e2, swp_swp])]
      exact lk_swpO h
theorem Wk.swp {N : Nat} (a b : Nat) {st : St} : Wk N st ⟨swpS a b st.s, swpO a b st.o⟩ := fun Z β φ B M w0 ac w h => by
  refine ⟨fun j => β (Abs.swp a b j), fun j => φ (Abs.swp a b j), ?_⟩
  have hS : ∀ g, free Z φ st.o g → g < w.heap.size → free Z (fun j => φ (Abs.swp a b j)) (swpO a b st.o) g ∧ w.heap[g]? = w.heap[g]? := fun g hg _ =>
    ⟨⟨hg.1, fun j o hj => hg.2 _ _ (lk_swpO hj)⟩, rfl⟩
  refine ⟨h.nd.move hS, h.size, fun i av hi => ?_, fun j o hj => ?_, fun j o g hj hg => h.own _ _ g (lk_swpO hj) hg, fun j j' o o' g hj hj' hg hg' => ?_, h.fr, h.z⟩
  · exact ((h.slots i _ (lk_swpS hi)).unren).move hS
  · exact ((h.objs _ _ (lk_swpO hj)).unren).move hS (Nat.le_refl _) fun _ _ => rfl
  · have := h.disj _ _ _ _ g (lk_swpO hj) (lk_swpO hj') hg hg'
    rw [← swp_swp a b j, this, swp_swp]

theorem Ok.loopU {P : Program} {N : Nat} {c : Code} {Q : Exit → St → Prop} {S : List (Nat × AV)} {O : List (Nat × AO)} {α : Type} (ks : List Nat) (u : α → List (Nat × AV)) (ou : α → List (Nat × AO)) (I : Nat → α → Prop)
    (n0 : Nat) (a0 : α) (hI : I n0 a0) (hw : Wk N ⟨S, O⟩ (updSt ks (u a0) (ou a0) S O))
    (hr : ∀ (R : Exit → St → Prop) (n : Nat) (a : α), (∀ m a' st, m < n → I m a' → Wk N st (updSt ks (u a') (ou a') S O) → R .normal st) → (∀ e st, e ≠ .normal → Q e st → R e st) → I n a → Awp P N c R (updSt ks (u a) (ou a) S O)) : Ok P N (.loop c) Q ⟨S, O⟩ :=
  Ok.loop (fun n st => ∃ a, I n a ∧ st = updSt ks (u a) (ou a) S O) n0 hw ⟨a0, hI, rfl⟩ fun n st ⟨a, hI, h⟩ => by
    subst h
    rw [← Awp_eq]
    refine hr _ n a (fun m a' st h1 h2 h3 => ⟨m, _, h1, h3, a', h2, rfl⟩) (fun e st h1 h2 => ?_) hI
    cases e <;> first | exact absurd rfl h1 | exact h2

/-- A loop that counts from 0 to len, with data carried. -/
theorem Ok.loopN {P : Program} {N : Nat} {c : Code} {Q : Exit → St → Prop} {S : List (Nat × AV)} {O : List (Nat × AO)} {α : Type} (ks : List Nat) (u : Nat → α → List (Nat × AV)) (ou : Nat → α → List (Nat × AO)) (len : Nat) (I : Nat → α → Prop)
    (a0 : α) (hI : I 0 a0) (hw : Wk N ⟨S, O⟩ (updSt ks (u 0 a0) (ou 0 a0) S O))
    (hr : ∀ (R : Exit → St → Prop) (i : Nat) (a : α), (∀ a' st, i < len → I (i + 1) a' → Wk N st (updSt ks (u (i + 1) a') (ou (i + 1) a') S O) → R .normal st) → (∀ e st, e ≠ .normal → Q e st → R e st) → i ≤ len → I i a →
      Awp P N c R (updSt ks (u i a) (ou i a) S O)) : Ok P N (.loop c) Q ⟨S, O⟩ :=
  Ok.loopU ks (fun p : Nat × α => u p.1 p.2) (fun p => ou p.1 p.2) (fun n p => n = len - p.1 ∧ p.1 ≤ len ∧ I p.1 p.2) len (0, a0) ⟨rfl, Nat.zero_le _, hI⟩ hw
    fun R n ⟨i, a⟩ hN hE ⟨h1, h2, h3⟩ => hr R i a (fun a' st hlt hI' hw' => hN (len - (i + 1)) (i + 1, a') st (by simp only at h1 h2; omega) ⟨rfl, hlt, hI'⟩ hw') hE h2 h3
/-- A loop that counts from 0 to len. -/
theorem Ok.loopC {P : Program} {N : Nat} {c : Code} {Q : Exit → St → Prop} {S : List (Nat × AV)} {O : List (Nat × AO)} (ks : List Nat) (u : Nat → List (Nat × AV)) (len : Nat) (I : Nat → Prop)
    (hI : I 0) (hw : Wk N ⟨S, O⟩ (updSt ks (u 0) [] S O))
    (hr : ∀ (R : Exit → St → Prop) (i : Nat), (∀ st, i < len → I (i + 1) → Wk N st (updSt ks (u (i + 1)) [] S O) → R .normal st) → (∀ e st, e ≠ .normal → Q e st → R e st) → i ≤ len → I i →
      Awp P N c R (updSt ks (u i) [] S O)) : Ok P N (.loop c) Q ⟨S, O⟩ :=
  Ok.loopU ks (fun i : Nat => u i) (fun _ => []) (fun n i => n = len - i ∧ i ≤ len ∧ I i) len 0 ⟨rfl, Nat.zero_le _, hI⟩ hw
    fun R n i hN hE ⟨h1, h2, h3⟩ => hr R i (fun st hlt hI' hw' => hN (len - (i + 1)) (i + 1) st (by omega) ⟨rfl, hlt, hI'⟩ hw') hE h2 h3

attribute [go_sem] dropS insL extraK updSt swpS swpO swp
end Abs
