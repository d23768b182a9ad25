/- What functions of this program compute, as contracts over plain data, with what the proofs need of them. No condition. -/
import Derived.Test.YtcpflbfcglcjfaaU3
import Derived.Test.YtcpflbfcglcjfaaAbsShelf2
import Derived.Test.YtcpflbfcglcjfaaAbsBits16
import Derived.Test.YtcpflbfcglcjfaaAbsLoopO
set_option linter.all false
namespace Abs.Y
open Go Go.Proofs Abs
open Nat renaming reduceEqDiff -> Qa, reduceLT -> Qb, reduceAdd -> Qc, reduceMul -> Qd, reduceSub -> Qe, reduceLeDiff -> Qf, reduceSubDiff -> Qg, reduceBEq -> Qh
open Bool renaming not_eq_true' -> Ba, not_eq_false' -> Bb, and_eq_true -> Bc, or_eq_true -> Bd, or_eq_false_iff -> Be
open Int renaming ofNat_lt -> Ia, ofNat_le -> Ib, not_lt -> Ic, not_le -> Ie
open Decidable renaming not_not -> Da
set_option maxRecDepth 100000

@[reducible] def clB (last : Int) (j k : Nat) : AO := .box 123 [.sl j, .mq k, .d (.int .i64 last)]
@[reducible] def clR (es : List (Int × Int)) (vs : List (Nat × Nat)) : AO := .arw 190 1 (es.map fun p => .int .u16 p.1) vs
@[reducible] def clM (es : List (Int × Int)) : AO := .mp .u16 .i64 es
theorem hpl : ∀ es : List (Int × Int), ∀ x ∈ es.map (fun p : Int × Int => D.int .u16 p.1), x.plain = true := fun es x hx => by
 obtain ⟨p, _, rfl⟩ := List.mem_map.1 hx
 rfl
end Abs.Y

namespace Abs.Y
open Go Go.Proofs Abs
open Nat renaming reduceEqDiff -> Qa, reduceLT -> Qb, reduceAdd -> Qc, reduceMul -> Qd, reduceSub -> Qe, reduceLeDiff -> Qf, reduceSubDiff -> Qg, reduceBEq -> Qh
open Bool renaming not_eq_true' -> Ba, not_eq_false' -> Bb, and_eq_true -> Bc, or_eq_true -> Bd, or_eq_false_iff -> Be
open Int renaming ofNat_lt -> Ia, ofNat_le -> Ib, not_lt -> Ic, not_le -> Ie
open Decidable renaming not_not -> Da
set_option maxRecDepth 100000

section
variable (cs : List (List Int)) (w : Nat)
def Cl : Nat -> List Int -> Prop
 | 0, c => c ∈ cs ∧ c.length <= w
 | r + 1, c => Cl r c ∨ (c.length <= w ∧ ∃ a b v, 1 <= v ∧ Cl r a ∧ Cl r b ∧ resolveI a b v = some c)
def NewC : Nat -> List Int -> Prop
 | 0, c => Cl cs w 0 c
 | r + 1, c => Cl cs w (r + 1) c ∧ ¬ Cl cs w r c
end
section
variable {cs : List (List Int)} {w : Nat}
theorem cl_g6 (h : ∀ c ∈ cs, G6 c) : ∀ r c, Cl cs w r c -> G6 c
 | 0, c, hc => h c hc.1
 | r + 1, c, hc => by
   rcases hc with hc | ⟨_, a, b, v, hv, ha, hb, hr⟩
   . exact cl_g6 h r c hc
   . exact (resolveI_some (cl_g6 h r a ha) (cl_g6 h r b hb) hv hr).2.2.2.1
theorem new_cl {r : Nat} {c : List Int} (h : NewC cs w r c) : Cl cs w r c := by
 cases r with
 | zero => exact h
 | succ r => exact h.1
theorem new_g6 (h : ∀ c ∈ cs, G6 c) {r c} (hc : NewC cs w r c) : G6 c := cl_g6 h r c (new_cl hc)
end
abbrev CT := List (List Int × Nat)
def esO (L : CT) : List (Int × Int) := L.map fun p => ((mkN p.1 : Int), (p.2 : Int))
def keysC (L : CT) : List (List Int) := L.map (·.1)
theorem nodup_lt : ∀ (n : Nat) (l : List Nat), l.Nodup -> (∀ x ∈ l, x < n) -> l.length <= n
 | 0, l, _, h => by
   cases l with
   | nil => simp
   | cons x r => exact absurd (h x (by simp)) (by omega)
 | n + 1, l, hn, h => by
   by_cases hm : n ∈ l
   . have := nodup_lt n (l.erase n) (hn.erase n) (fun x hx => by
      have h1 := (hn.mem_erase_iff).1 hx
      have := h x h1.2
      omega)
     rw [List.length_erase_of_mem hm] at this; omega
   . have := nodup_lt n l hn (fun x hx => by
      have := h x hx
      have : x ≠ n := fun e => hm (e ▸ hx)
      omega)
     omega
theorem table_len {L : CT} (hg : ∀ p ∈ L, G6 p.1) (hn : (keysC L).Nodup) : L.length <= 4096 := by
 have h : ((keysC L).map mkN).Nodup := by
  rw [List.Nodup, List.pairwise_map]
  refine List.Pairwise.imp_of_mem ?_ hn
  intro a b ha hb hab e
  obtain ⟨p, hp, rfl⟩ := List.mem_map.1 ha
  obtain ⟨q, hq, rfl⟩ := List.mem_map.1 hb
  exact hab (mkN_inj (hg p hp) (hg q hq) e)
 have := nodup_lt 4096 _ h (fun x hx => by
  obtain ⟨c, hc, rfl⟩ := List.mem_map.1 hx
  obtain ⟨p, hp, rfl⟩ := List.mem_map.1 hc
  exact mkN_lt (hg p hp))
 simpa [keysC] using this
end Abs.Y

namespace Abs
open Go Go.RowKit
def Z7c (P : Program) (N : Nat) (l : List Oper) (K : St -> Prop) (st : St) : List (Oper × Nat) -> List (Oper × Nat) -> Nat -> List Bool -> List Oper -> Prop
 | hs, ts, _, _, [] => HeadW P N l (fst7 hs) st (kH7 P N l hs ts K)
 | hs, ts, k, true :: cs, o :: r => Z7c P N l K st (hs ++ [(o, k)]) ts (k + 1) cs r
 | hs, ts, k, false :: cs, o :: r => Z7c P N l K st hs (ts ++ [(o, k)]) (k + 1) cs r
 | _, _, _, [], _ :: _ => False
@[go_sem] theorem Z7c_nil (P N l K st hs ts k cs) : Z7c P N l K st hs ts k cs [] = HeadW P N l (fst7 hs) st (kH7 P N l hs ts K) := by cases cs <;> rfl
@[go_sem] theorem Z7c_in (P N l K st hs ts k cs o r) : Z7c P N l K st hs ts k (true :: cs) (o :: r) = Z7c P N l K st (hs ++ [(o, k)]) ts (k + 1) cs r := rfl
@[go_sem] theorem Z7c_out (P N l K st hs ts k cs o r) : Z7c P N l K st hs ts k (false :: cs) (o :: r) = Z7c P N l K st hs (ts ++ [(o, k)]) (k + 1) cs r := rfl
theorem Z7c_spec {P : Program} {N : Nat} {l : List Oper} {K : St -> Prop} {st : St} : ∀ (r : List Oper) (pre cs : List Bool) (hs ts : List (Oper × Nat)), Z7c P N l K st hs ts pre.length cs r ->
 HeadW P N l (fst7 (hs ++ (r.zipIdx pre.length).filter fun p => (pre ++ cs).getD p.2 false)) st (kH7 P N l (hs ++ (r.zipIdx pre.length).filter fun p => (pre ++ cs).getD p.2 false) (ts ++ (r.zipIdx pre.length).filter fun p => !(pre ++ cs).getD p.2 false) K)
 | [], pre, cs, hs, ts, h => by rw [Z7c_nil] at h; simpa using h
 | o :: r, pre, [], hs, ts, h => h.elim
 | o :: r, pre, b :: cs, hs, ts, h => by
   have e : (pre ++ b :: cs).getD pre.length false = b := by simp [List.getD_eq_getElem?_getD]
   have e2 : pre ++ b :: cs = (pre ++ [b]) ++ cs := by simp
   rw [List.zipIdx_cons]
   cases b with
   | true =>
     have := Z7c_spec r (pre ++ [true]) cs (hs ++ [(o, pre.length)]) ts (by rw [Z7c_in] at h; simpa using h)
     rw [List.filter_cons_of_pos (by exact e), List.filter_cons_of_neg (by simp only [e]; simp)]
     rw [List.length_append, List.length_singleton, ← e2] at this
     simpa only [List.append_assoc, List.singleton_append] using this
   | false =>
     have := Z7c_spec r (pre ++ [false]) cs hs (ts ++ [(o, pre.length)]) (by rw [Z7c_out] at h; simpa using h)
     rw [List.filter_cons_of_neg (by simp only [e]; simp), List.filter_cons_of_pos (by simp only [e]; rfl)]
     rw [List.length_append, List.length_singleton, ← e2] at this
     simpa only [List.append_assoc, List.singleton_append] using this
theorem Ok.reg7 {P : Program} {N id : Nat} {ops : Array Oper} {Q : Exit -> St -> Prop} {st : St} (cls : List Bool) (h7 : ok7 cls ops.toList = true) (h : Z7c P N ops.toList (Q .normal) st [] [] 0 cls ops.toList) : Ok P N (.region id ops true) Q st := fun h1 h2 Z B M w0 a w hs => by
 have h' : headA P N ops.toList ((hs7 cls ops.toList).map (·.1)) st fun st' => tail7 P N ops.toList (hs7 cls ops.toList) (ts7 cls ops.toList) st' (Q .normal) := by
  have h := Z7c_spec ops.toList [] cls [] [] h
  rw [HeadW_eq, ← fst7_eq] at h
  have e : ∀ hs ts K, kH7 P N ops.toList hs ts K = fun S => tail7 P N ops.toList hs ts S K := fun hs ts K => funext fun S => kT7_spec P N ops.toList hs ts K S
  rw [e] at h
  exact h
 obtain ⟨l⟩ := ops
 exact wp_drawn7 h2 h7 (fun st a w hs hk => ⟨st, hs, hk⟩) hs h'
end Abs

namespace Abs.Y
open Go Go.Proofs Abs
open Nat renaming reduceEqDiff -> Qa, reduceLT -> Qb, reduceAdd -> Qc, reduceMul -> Qd, reduceSub -> Qe, reduceLeDiff -> Qf, reduceSubDiff -> Qg, reduceBEq -> Qh
open Bool renaming not_eq_true' -> Ba, not_eq_false' -> Bb, and_eq_true -> Bc, or_eq_true -> Bd, or_eq_false_iff -> Be
open Int renaming ofNat_lt -> Ia, ofNat_le -> Ib, not_lt -> Ic, not_le -> Ie
open Decidable renaming not_not -> Da
set_option maxRecDepth 100000

def zC : List Int × Nat := ([], 0)
structure InvC (cs : List (List Int)) (w r : Nat) (L : CT) (frm : Nat) : Prop where
 nd : (keysC L).Nodup
 mem : ∀ c k, (c, k) ∈ L ↔ k <= r ∧ NewC cs w k c
 old : ∀ i, i < L.length -> (frm <= i ↔ (L.getD i zC).2 = r)
 le : frm <= L.length
def ResP (a b c : List Int) : Prop := ∃ v, 1 <= v ∧ (resolveI a b v = some c ∨ resolveI b a v = some c)
structure InvI (cs : List (List Int)) (w r : Nat) (L E : CT) (D : Nat -> Nat -> Prop) : Prop where
 nd : (keysC (L ++ E)).Nodup
 snd : ∀ p ∈ E, p.2 = r + 1 ∧ NewC cs w (r + 1) p.1
 cmp : ∀ i j, i < L.length -> j < i -> D i j -> ∀ c, ResP (L.getD i zC).1 (L.getD j zC).1 c -> c.length <= w -> ∃ k, (c, k) ∈ L ++ E
section
variable {cs : List (List Int)} {w r : Nat} {L E : CT} {frm : Nat} {D : Nat -> Nat -> Prop}
theorem InvC.g6 (hg : ∀ c ∈ cs, G6 c) (h : InvC cs w r L frm) : ∀ p ∈ L, G6 p.1 := fun p hp => new_g6 hg ((h.mem p.1 p.2).1 hp).2
theorem InvI.g6 (hg : ∀ c ∈ cs, G6 c) (h : InvC cs w r L frm) (h' : InvI cs w r L E D) : ∀ p ∈ L ++ E, G6 p.1 := fun p hp => by
 rcases List.mem_append.1 hp with hp | hp
 . exact h.g6 hg p hp
 . exact new_g6 hg (h'.snd p hp).2
theorem InvI.mono {D' : Nat -> Nat -> Prop} (h : InvI cs w r L E D) (hd : ∀ i j, i < L.length -> j < i -> D' i j -> D i j) : InvI cs w r L E D' :=
 ⟨h.nd, h.snd, fun i j hi hj hD => h.cmp i j hi hj (hd i j hi hj hD)⟩
end
end Abs.Y
