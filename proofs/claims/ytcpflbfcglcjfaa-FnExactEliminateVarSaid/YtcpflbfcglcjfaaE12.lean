/- What functions of this program compute, as contracts over plain data, with what the proofs need of them. No condition. -/
import Derived.Test.YtcpflbfcglcjfaaE11
import Derived.Test.YtcpflbfcglcjfaaAbsLoopO
import Derived.Test.YtcpflbfcglcjfaaAbsShelf2
set_option linter.all false
namespace Abs
open Go Go.RowKit
theorem el_tg {ps : List Tg} {z : Tg} {i : Nat} (h : i < ps.length) : el (ps.map D.tg) i = D.tg (ps.getD i z) := el_map (f := D.tg) z h
theorem retM_s1x {P : Program} {t : Nat} {st : St} {u : Nat -> Value} {o : AO} (i : Nat) (h : lk t st.s = some (.sl i)) (ho : lk i st.o = some o) (hr : ∀ f, o.ren f = o) : retM P [.tmp t] u [] true (.sl 0) [(0, o)] .ret st := by
 simp only [retM, resV, h]
 exact ⟨trivial, ⟨fun _ => i, rfl, fun p hp => by simp only [List.mem_cons, List.not_mem_nil, or_false] at hp; subst hp; rw [hr]; exact ho, fun p hp q hq _ => by simp only [List.mem_cons, List.not_mem_nil, or_false] at hp hq; subst hp; subst hq; rfl, trivial⟩, .inl trivial⟩
theorem tg_agg (p : Tg) : (D.tg p).isAgg = false := tagC_nonagg rfl
theorem tg_atom (p : Tg) : (D.tg p).atom = true := by
 unfold D.tg tagC
 split <;> rfl
theorem tg_ok (p : Tg) : D.ok 1 (D.tg p) := by
 refine ⟨by rw [tg_cells]; rfl, fun x hx => ?_⟩
 rw [tg_cells] at hx
 cases hx with
 | head => exact tg_atom p
 | tail _ h => cases h
end Abs
namespace Abs.Y
open Go Go.Proofs Abs
open Nat renaming reduceEqDiff -> Qa, reduceLT -> Qb, reduceAdd -> Qc, reduceMul -> Qd, reduceSub -> Qe, reduceLeDiff -> Qf, reduceSubDiff -> Qg, reduceBEq -> Qh
open Bool renaming not_eq_true' -> Ba, not_eq_false' -> Bb, and_eq_true -> Bc, or_eq_true -> Bd, or_eq_false_iff -> Be
open Int renaming ofNat_lt -> Ia, ofNat_le -> Ib, not_lt -> Ic, not_le -> Ie
open Decidable renaming not_not -> Da
set_option maxRecDepth 100000

def idxG {α : Type} (p : α -> Bool) (l : List α) : Int := match l.findIdx? p with | some i => (i : Nat) | none => -1
section
variable {α : Type} {z : α} {p : α -> Bool} {l : List α}
end
theorem set_keep {α : Type} (v : α) {A l : List α} (h : A.length < l.length) : (A ++ l.drop A.length).set A.length v = (A ++ [v]) ++ l.drop (A ++ [v]).length := by
 rw [List.set_append_right _ _ (Nat.le_refl _), Nat.sub_self, List.drop_eq_getElem_cons h, List.set_cons_zero, List.append_assoc, List.length_append]
 rfl
def keepN (p : Tg -> Bool) (ps : List Tg) (j : Nat) : List Tg := (ps.take j).filter fun q => !(p q)
end Abs.Y
