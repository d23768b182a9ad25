/- What functions of this program compute, as contracts over plain data, with what the proofs need of them. No condition. -/
import Derived.Test.YtoppjihdipidiaaV15
import Derived.Test.YtoppjihdipidiaaV8x
set_option linter.all false
namespace Abs.Y
open Go Go.Proofs Abs
set_option maxRecDepth 100000
/-! ### Certificates: the program's -/
theorem algebraBad_ok (p v : Int) (cs : List (List Int)) (hb : (primeB p v && okCnf v cs) = false) (hl : cs.length ≤ 4294967296) (hc : ∀ j, (cs.getD j []).length ≤ 4294967296) :
    Ctr Try.prog 63 [.int .i64 p, .agg [.int .i64 v, .slice (cs.map D.ints)]] true (.tup [.d .nilptr, .d (.bool false)]) [] := by
  have c1 := Ctr.tupN (ys := [_, _]) (ringOf_ok p v)
  have c2 := isCnf_ok v cs hl hc
  cases h1 : primeB p v with
  | false =>
    rw [h1] at c1
    refine Ctr.of (n := 50) (rs := [.tmp 4, .tmp 5]) Try.func63 rfl rfl Try.ntmps63 rfl rfl (by kernel_rfl) Try.checked.mixed ?_
    simp (disch := first | omega | decide +kernel) only [D.ints, go_sem, Nat.reduceEqDiff, Nat.reduceLT, Nat.reduceAdd, Nat.reduceMul, Nat.reduceSub, ↓reduceIte, reduceCtorEq, Nat.reduceLeDiff, Nat.reduceSubDiff, Nat.reduceBEq]
    (repeat' (first | (refine gsel_split (fun h => ?_) (fun h => ?_) <;> (have h' := h) <;> (try simp only [decide_eq_true_eq, decide_eq_false_iff_not, Bool.not_eq_true', Bool.not_eq_false', bne_iff_ne, ne_eq, beq_iff_eq, bne_eq_false_iff_eq, beq_eq_false_iff_ne, Int.ofNat_lt, Int.ofNat_le, Int.not_lt, Int.not_le, Decidable.not_not, Bool.and_eq_true, Bool.or_eq_true, Bool.or_eq_false_iff, gt_iff_lt, ge_iff_le] at h') <;> first | (exfalso; omega) | (simp (disch := first | omega | decide +kernel) only [h, D.ints, go_sem, Nat.reduceEqDiff, Nat.reduceLT, Nat.reduceAdd, Nat.reduceMul, Nat.reduceSub, ↓reduceIte, reduceCtorEq, Nat.reduceLeDiff, Nat.reduceSubDiff, Nat.reduceBEq] <;> clear h)) | ((first | refine callX_new (c1) rfl (by decide) ?_ | refine callY_new (c1) rfl ?_ | refine hE _ _ ret_ne ?_ | refine hE _ _ exit_ne ?_) <;> try simp (disch := first | omega | decide +kernel) only [D.ints, go_sem, Nat.reduceEqDiff, Nat.reduceLT, Nat.reduceAdd, Nat.reduceMul, Nat.reduceSub, ↓reduceIte, reduceCtorEq, Nat.reduceLeDiff, Nat.reduceSubDiff, Nat.reduceBEq]) | (refine hN _ ?_ ?_ Wk.kk) | (with_reducible refine And.intro ?_ ?_) | (with_reducible omega) | (exact ok_ints) | (exact cells_ints) | (exact no_mem) | (with_reducible exact plain_ints) | (refine le_maxLen ?_; omega) | (refine List.forall_mem_cons.2 ⟨?_, ?_⟩) | (simp only [go_sem, Nat.reduceAdd, Nat.reduceLT, List.mem_cons, List.not_mem_nil, forall_eq]; done)))
    all_goals (first | omega | exact ret_s2 [] rfl rfl | trace_state)
  | true =>
    rw [h1] at c1
    rw [h1, Bool.true_and] at hb
    rw [hb] at c2
    refine Ctr.of (n := 50) (rs := [.tmp 4, .tmp 5]) Try.func63 rfl rfl Try.ntmps63 rfl rfl (by kernel_rfl) Try.checked.mixed ?_
    simp (disch := first | omega | decide +kernel) only [D.ints, go_sem, Nat.reduceEqDiff, Nat.reduceLT, Nat.reduceAdd, Nat.reduceMul, Nat.reduceSub, ↓reduceIte, reduceCtorEq, Nat.reduceLeDiff, Nat.reduceSubDiff, Nat.reduceBEq]
    (repeat' (first | (refine gsel_split (fun h => ?_) (fun h => ?_) <;> (have h' := h) <;> (try simp only [decide_eq_true_eq, decide_eq_false_iff_not, Bool.not_eq_true', Bool.not_eq_false', bne_iff_ne, ne_eq, beq_iff_eq, bne_eq_false_iff_eq, beq_eq_false_iff_ne, Int.ofNat_lt, Int.ofNat_le, Int.not_lt, Int.not_le, Decidable.not_not, Bool.and_eq_true, Bool.or_eq_true, Bool.or_eq_false_iff, gt_iff_lt, ge_iff_le] at h') <;> first | (exfalso; omega) | (simp (disch := first | omega | decide +kernel) only [h, D.ints, go_sem, Nat.reduceEqDiff, Nat.reduceLT, Nat.reduceAdd, Nat.reduceMul, Nat.reduceSub, ↓reduceIte, reduceCtorEq, Nat.reduceLeDiff, Nat.reduceSubDiff, Nat.reduceBEq] <;> clear h)) | ((first | refine callX_new (c1) rfl (by decide) ?_ | refine callY_new (c1) rfl ?_ | refine callX_new (c2) rfl (by decide) ?_ | refine callY_new (c2) rfl ?_ | refine hE _ _ ret_ne ?_ | refine hE _ _ exit_ne ?_) <;> try simp (disch := first | omega | decide +kernel) only [D.ints, go_sem, Nat.reduceEqDiff, Nat.reduceLT, Nat.reduceAdd, Nat.reduceMul, Nat.reduceSub, ↓reduceIte, reduceCtorEq, Nat.reduceLeDiff, Nat.reduceSubDiff, Nat.reduceBEq]) | (refine hN _ ?_ ?_ Wk.kk) | (with_reducible refine And.intro ?_ ?_) | (with_reducible omega) | (exact ok_ints) | (exact cells_ints) | (exact no_mem) | (with_reducible exact plain_ints) | (refine le_maxLen ?_; omega) | (refine List.forall_mem_cons.2 ⟨?_, ?_⟩) | (simp only [go_sem, Nat.reduceAdd, Nat.reduceLT, List.mem_cons, List.not_mem_nil, forall_eq]; done)))
    all_goals (first | omega | exact ret_s2 [] rfl rfl | trace_state)
section
variable {p : Int} {u : Nat} (hp : 1 < p ∧ p ≤ 5) (hu : u ≤ 6)
include hp hu
end
end Abs.Y

namespace Abs.Y
open Go Go.Proofs Abs
set_option maxRecDepth 100000

/-! ### Steps of the polynomial calculus -/
structure PcS where
  kind : Int
  poly : List (Int × Int)
  a : Int
  b : Int
  x : Int
  y : Int
deriving DecidableEq
def PcS.z : PcS := ⟨0, [], 0, 0, 0, 0⟩
@[reducible] def D.pc (s : PcS) : D := .agg [.int .i64 s.kind, D.tms s.poly, .int .i64 s.a, .int .i64 s.b, .int .i64 s.x, .int .i64 s.y]
theorem el_pcs {xs : List PcS} {i : Nat} (h : i < xs.length) : el (xs.map D.pc) i = .agg [.int .i64 (xs.getD i PcS.z).kind, .slice ((xs.getD i PcS.z).poly.map D.tm), .int .i64 (xs.getD i PcS.z).a, .int .i64 (xs.getD i PcS.z).b, .int .i64 (xs.getD i PcS.z).x, .int .i64 (xs.getD i PcS.z).y] := el_map (f := D.pc) PcS.z h
/-- Is there an earlier step with a polynomial? -/
def pbT (p : Int) (u : Nat) (st : List PcS) (k : Nat) (i : Int) : Bool := (decide (0 ≤ i) && decide (i ≤ (k : Int) - 1)) && isT p (2 ^ u) (st.getD i.toNat PcS.z).poly
def pbV (u : Nat) (st : List PcS) (i : Int) : List Int := dnT (2 ^ u) (st.getD i.toNat PcS.z).poly
theorem pbV_vec {p : Int} {u : Nat} {st : List PcS} {k : Nat} {i : Int} (hp : 0 < p) (h : pbT p u st k i = true) : Vec p (2 ^ u) (pbV u st i) := by
  simp only [pbT, Bool.and_eq_true] at h
  exact Vec.dn hp (isT_tms h.2)
/-- The polynomial that a step must have. -/
def dueC (p : Int) (u : Nat) (cs : List (List Int)) (s : PcS) (b1 b2 : Bool) (v1 v2 : List Int) : Option (List Int) :=
  if s.kind = 1 ∧ (0 ≤ s.a ∧ s.a ≤ (cs.length : Int) - 1) ∧ s.b = 0 ∧ s.x = 0 ∧ s.y = 0 then some (clauseD p u (cs.getD s.a.toNat []))
  else if s.kind = 2 ∧ b1 = true ∧ b2 = true ∧ (0 ≤ s.x ∧ s.x ≤ p - 1) ∧ (0 ≤ s.y ∧ s.y ≤ p - 1) then some (addD p s.y (addD p s.x (List.replicate (2 ^ u) 0) v1) v2)
  else if s.kind = 3 ∧ b1 = true ∧ s.b = 0 ∧ (1 ≤ s.x ∧ s.x ≤ (u : Int)) ∧ s.y = 0 then some (mulD p (2 ^ u) v1 (litD p u s.x))
  else none
def duePc (p : Int) (u : Nat) (cs : List (List Int)) (st : List PcS) (k : Nat) : Option (List Int) :=
  dueC p u cs (st.getD k PcS.z) (pbT p u st k (st.getD k PcS.z).a) (pbT p u st k (st.getD k PcS.z).b) (pbV u st (st.getD k PcS.z).a) (pbV u st (st.getD k PcS.z).b)
theorem duePc_vec {p : Int} {u : Nat} {cs : List (List Int)} {st : List PcS} {k : Nat} {v : List Int} (hp : 1 < p) (h : duePc p u cs st k = some v) : Vec p (2 ^ u) v := by
  unfold duePc dueC at h
  split at h
  · cases h; exact Vec.clause hp u _
  split at h
  · rename_i h2
    cases h
    exact Vec.addD (by omega) (Vec.addD (p := p) (by omega) (by simp) (pbV_vec (by omega) h2.2.1).1).1 (pbV_vec (by omega) h2.2.2.1).1
  split at h
  · cases h; exact Vec.mulD (by omega) _ _ _
  · cases h
/-- Is a step correct? -/
def corPc (p : Int) (u : Nat) (cs : List (List Int)) (st : List PcS) (k : Nat) : Bool :=
  isT p (2 ^ u) (st.getD k PcS.z).poly && decide (duePc p u cs st k = some (dnT (2 ^ u) (st.getD k PcS.z).poly))
/-- The first step that is not. -/
def wrongPc (p : Int) (u : Nat) (cs : List (List Int)) (st : List PcS) : Int := idxR (fun k => !corPc p u cs st k) st.length
theorem wrongPc_neg {p : Int} {u : Nat} {cs : List (List Int)} {st : List PcS} (h : wrongPc p u cs st < 0) : ∀ j, j < st.length → corPc p u cs st j = true := by
  intro j hj
  unfold wrongPc idxR at h
  split at h
  · omega
  · rename_i hn
    rw [List.find?_range_eq_none] at hn
    simpa using hn j hj
end Abs.Y
