/- What functions of this program compute, as contracts over plain data, with what the proofs need of them. No condition. -/
import Derived.Test.YtailofgkfldepaaP3
import Derived.Test.YtailofgkfldepaaW5
import Derived.Test.YtailofgkfldepaaAbsBox
import Derived.Test.YtailofgkfldepaaAbsBack
set_option linter.all false
namespace Abs.Y
open Go Go.Proofs Abs
set_option maxRecDepth 100000

/-! ### slices.Backward at what is reached -/
theorem cells_eds2 {xs : List (Int × Int)} : ∀ y ∈ List.map D.ed xs, y.cells.length = 2 := fun y hy => by
  obtain ⟨x, _, rfl⟩ := List.mem_map.1 hy; rfl
theorem iter_eds (l0 : List (Int × Int)) (hl : l0.length ≤ 4294967296) : IterAt Try.prog 104 (l0.map D.ed) := by
  intro l pv J W hJ h0
  obtain ⟨S, hR, _⟩ := hJ 0 W h0
  obtain ⟨b, o, sv, rfl, hc, h⟩ := rd_ptrSlice (k := 2) cells_eds2 hR
  rcases h with ⟨he, a, cap, rfl⟩ | ⟨hne, _⟩
  · obtain rfl : l0 = [] := by cases l0 with
      | nil => rfl
      | cons a r => cases he
    exact Try.backR_none l b o a cap (J 0) W hc h0
  · refine Try.backR_in l b o _ (by simpa using hl) J (fun k W' hk => ?_) W h0
    obtain ⟨S', hR', hY⟩ := hJ k W' hk
    obtain ⟨b', o', sv', e, hc', h'⟩ := rd_ptrSlice (k := 2) cells_eds2 hR'
    cases e
    rcases h' with ⟨he, _⟩ | ⟨_, b2, off, cap, vs, rfl, hcs⟩
    · exact absurd he hne
    · refine ⟨b2, off, cap, fun i => vs (i * 2 + 0), fun i => vs (i * 2 + 1), hc', fun i hi => ⟨(hcs i 0 hi (by omega)).1, (hcs i 1 hi (by omega)).1⟩, fun hlt => hY hlt _ ?_⟩
      have hq : (List.map D.ed l0).length - 1 - k < (List.map D.ed l0).length := by omega
      generalize (List.map D.ed l0).length - 1 - k = q at *
      have h0 := (hcs q 0 hq (by omega)).2
      have h1 := (hcs q 1 hq (by omega)).2
      rw [el_eds (by simpa using hq)] at h0 h1 ⊢
      exact .agg (vs := [_, _]) rfl fun i hi => by
        match i, hi with
        | 0, _ => exact h0
        | 1, _ => exact h1
        | n + 2, hi => exact absurd hi (by simp)
theorem ret_fn {P t f x st} (h : lk t st.s = some (.fn f [.d x])) : retQ P [.tmp t] true (.fn f [.d x]) [] .ret st := by
  refine .inl ?_
  simp only [retO, resV, h]; exact ⟨trivial, ⟨fun j => j, rfl, by simp, by simp⟩, .inl trivial⟩
theorem backwardR_ok (xs : List D) : Ctr Try.prog 59 [.slice xs] true (.fn (.func 104) [.d (.ptr (.slice xs))]) [] := by
  refine Ctr.ofK (n := 4) (rs := [.tmp 2]) Try.func59 rfl rfl Try.ntmps59 rfl rfl (by kernel_rfl) Try.checked.mixed ?_; refine Awp.cut ?_
  simp (disch := first | omega | decide +kernel) only [el_ints, el_intss, el_steps, wrap_of, Int.toNat_natCast, toNat_pred, Int.toNat_zero, Nat.sub_zero, List.drop_zero, ← List.map_take, ← List.map_drop, go_sem, Nat.reduceEqDiff, Nat.reduceLT, Nat.reduceAdd, Nat.reduceMul, Nat.reduceSub, ↓reduceIte, reduceCtorEq, Nat.reduceLeDiff, Nat.reduceSubDiff, Nat.reduceBEq]
  refine ⟨_, Wk.bfz 1 (.slice xs) rfl rfl, ?_⟩
  simp (disch := first | omega | decide +kernel) only [bfzS, bfzO, AV.bfz, AV.bfzL, AO.bfz, el_ints, el_intss, el_steps, wrap_of, Int.toNat_natCast, toNat_pred, Int.toNat_zero, Nat.sub_zero, List.drop_zero, ← List.map_take, ← List.map_drop, go_sem, Nat.reduceEqDiff, Nat.reduceLT, Nat.reduceAdd, Nat.reduceMul, Nat.reduceSub, ↓reduceIte, reduceCtorEq, Nat.reduceLeDiff, Nat.reduceSubDiff, Nat.reduceBEq]
  exact ret_fn rfl
theorem enters_run {P : Program} {f : FuncId} (h : Abs.Enters P f) (args : Array Value) (w : World) : (callFunc f args).run P w = .ok (.enter f args) w := by
  obtain ⟨fn, hf1, hf2, hf3⟩ := h
  simp only [callFunc, program, Sem.run_bind, Result.andThen_ok, Sem.run_pure, Sem.run, hf1, hf2, hf3]
  rfl
/-! ### The model that is told -/
/-- A line's vertices, the last first; the start is passed over. -/
def lnO (g : Chg) (b : Nat) (l : List (Int × Int)) : Nat := (l.drop 1).reverse.foldl (stO g) b
def linesO (g : Chg) (i : Nat) : Nat := ((linesI g).take i).foldl (lnO g) 0
def finB (g : Chg) : Nat := (linesI g).foldl (lnO g) 0
def rdO (g : Chg) (b : Nat) (r : Int × Int) : Nat := if 0 ≤ r.2 ∧ wrongB g r.1 b = true then b ||| 2 ^ r.2.toNat else b
theorem foldl_flat {α β : Type} (f : β → α → β) (h : List α → List α) : ∀ (ls : List (List α)) (b : β), (ls.flatMap h).foldl f b = ls.foldl (fun b l => (h l).foldl f b) b
  | [], b => rfl
  | l :: r, b => by rw [List.flatMap_cons, List.foldl_append, foldl_flat f h r]; rfl
theorem finB_seq (g : Chg) : finB g = (seqI (linesI g)).foldl (stO g) 0 := (foldl_flat (stO g) (fun l => (l.drop 1).reverse) (linesI g) 0).symm
end Abs.Y

namespace Abs.Y
open Go Go.Proofs Abs
set_option maxRecDepth 100000

/-! ### The bits so far -/
theorem stO_bits (g : Chg) : ∀ (E : List (Int × Int)) (b e : Nat), (E.foldl (stO g) b).testBit e = true → b.testBit e = true ∨ ∃ r ∈ E, r.2.toNat = e
  | [], b, e, h => .inl h
  | r :: E, b, e, h => by
    rcases stO_bits g E _ e h with h | ⟨x, hx, he⟩
    · unfold stO at h
      split at h
      · rw [Nat.testBit_or, Nat.testBit_two_pow, Bool.or_eq_true, decide_eq_true_eq] at h
        rcases h with h | h
        · exact .inl h
        · exact .inr ⟨r, by simp, h⟩
      · exact .inl h
    · exact .inr ⟨x, by simp [hx], he⟩
theorem stO_lt (g : Chg) (m : Nat) : ∀ (E : List (Int × Int)) (b : Nat), (∀ r ∈ E, r.2.toNat < m) → b < 2 ^ m → E.foldl (stO g) b < 2 ^ m
  | [], b, _, hb => hb
  | r :: E, b, he, hb => by
    refine stO_lt g m E _ (fun x hx => he x (by simp [hx])) ?_
    unfold stO; split
    · exact Nat.or_lt_two_pow hb (Nat.pow_lt_pow_right (by decide) (he r (by simp)))
    · exact hb
theorem linesO_seq (g : Chg) (i : Nat) : linesO g i = (seqI ((linesI g).take i)).foldl (stO g) 0 := (foldl_flat (stO g) (fun l => (l.drop 1).reverse) _ 0).symm
theorem split_at {α : Type} (z : α) (l : List α) (i : Nat) (h : i < l.length) : l = l.take i ++ l.getD i z :: l.drop (i + 1) := by
  conv => lhs; rw [← List.take_append_drop i l, drop_cons z l i h]
/-- What is known where line i's vertices are met, k of them having been passed. -/
structure AtB (g : Chg) (i k : Nat) (l : List (Int × Int)) (b : Nat) (r : Int × Int) : Prop where
  free : b.testBit r.2.toNat = false
  e0 : 0 ≤ r.2
  e1 : r.2.toNat < g.ed.length
  v0 : 0 ≤ r.1 ∧ r.1.toNat < g.ch.length
theorem seq_ed {g : Chg} (hg : goodC g = true) : ∀ r ∈ seqI (linesI g), 0 ≤ r.2 ∧ r.2.toNat < g.ed.length ∧ 0 ≤ r.1 ∧ r.1.toNat < g.ch.length := fun r hr => by
  have h := linesL_ok hg g.n.toNat (Nat.le_refl _)
  have h1 := (edges_iff.1 (h.ends r hr).1)
  have h2 := h.vx r hr
  have hs := (goodC_spec hg).1
  unfold sizesOk at hs
  exact ⟨h1.1, h1.2.1, h2.1, by omega⟩
theorem linesO_lt {g : Chg} (hg : goodC g = true) (i : Nat) : linesO g i < 2 ^ g.ed.length := by
  rw [linesO_seq]
  refine stO_lt g _ _ 0 (fun r hr => ?_) (Nat.two_pow_pos _)
  refine (seq_ed hg r ?_).2.1
  unfold seqI at hr ⊢
  obtain ⟨l, hl, hr⟩ := List.mem_flatMap.1 hr
  exact List.mem_flatMap.2 ⟨l, List.mem_of_mem_take hl, hr⟩
theorem at_point {g : Chg} (hg : goodC g = true) (i k : Nat) (hi : i < (linesI g).length) (hk : k < (((linesI g).getD i []).drop 1).reverse.length) :
    AtB g i k ((linesI g).getD i []) (((((linesI g).getD i []).drop 1).reverse.take k).foldl (stO g) (linesO g i)) ((((linesI g).getD i []).drop 1).reverse.getD k (0, 0)) ∧
    ((((linesI g).getD i []).drop 1).reverse.take k).foldl (stO g) (linesO g i) < 2 ^ g.ed.length := by
  have hnd := (linesL_ok hg g.n.toNat (Nat.le_refl _)).nd
  have hse := seq_ed hg
  change ((seqI (linesI g)).map (·.2)).Nodup at hnd
  have hlt := linesO_lt hg i
  rw [linesO_seq] at hlt ⊢
  have hsp := split_at ([] : List (Int × Int)) (linesI g) i hi
  generalize (linesI g).getD i [] = l at *
  generalize (linesI g).take i = A at *
  generalize (linesI g).drop (i + 1) = B at *
  have hse2 : seqI (linesI g) = seqI A ++ ((l.drop 1).reverse ++ seqI B) := by rw [hsp]; simp [seqI]
  rw [hse2] at hnd hse
  have hsp2 := split_at ((0, 0) : Int × Int) (l.drop 1).reverse k hk
  generalize (l.drop 1).reverse = L at *
  generalize L.getD k (0, 0) = r at *
  generalize L.take k = T at *
  generalize L.drop (k + 1) = U at *
  have hr := hse r (by rw [hsp2]; simp)
  rw [← List.foldl_append]
  refine ⟨⟨?_, hr.1, hr.2.1, hr.2.2⟩, ?_⟩
  · cases hb : (List.foldl (stO g) 0 (seqI A ++ T)).testBit r.2.toNat with
    | false => rfl
    | true =>
      exfalso
      rcases stO_bits g _ _ _ hb with h | ⟨x, hx, he⟩
      · simp at h
      · have hx0 := hse x (by rw [hsp2]; rcases List.mem_append.1 hx with h | h <;> simp [h])
        rw [hsp2] at hnd
        have e2 : x.2 = r.2 := by omega
        have : ((seqI A ++ T).map (·.2) ++ (r.2 :: (U ++ seqI B).map (·.2))).Nodup := by simpa [List.map_append, List.append_assoc] using hnd
        rw [List.nodup_append] at this
        exact this.2.2 x.2 (List.mem_map.2 ⟨x, hx, rfl⟩) r.2 (by simp) e2
  · rw [List.foldl_append]
    exact stO_lt g _ T _ (fun x hx => (hse x (by rw [hsp2]; simp [hx])).2.1) hlt
theorem line_at {g : Chg} (hg : goodC g = true) (i : Nat) (hi : i < (linesI g).length) : ∃ v t, (linesI g).getD i [] = (v, -1) :: t ∧ (0 ≤ v ∧ v < g.n) ∧ (linesI g).getD i [] = lineI g v ∧ (sortZ (((linesI g).getD i []).map (·.1))).getD 0 0 = v := by
  obtain ⟨v, hv, he, hm⟩ := (linesL_ok hg g.n.toNat (Nat.le_refl _)).line _ (getD_mem (z := ([] : List (Int × Int))) (l := (linesI g)) hi)
  obtain ⟨_, _, _, h4⟩ := lineI_spec hg hv
  obtain ⟨t, ht⟩ := line_head h4
  refine ⟨v, t, by rw [he]; exact ht, hv, he, ?_⟩
  have hnd := (lineI_lin hg hv).nd
  rw [← he] at hnd
  have hmem := (sortZ_perm (((linesI g).getD i []).map (·.1))).mem_iff (a := v)
  have hasc := sortZ_asc hnd
  have hin : v ∈ ((linesI g).getD i []).map (·.1) := by rw [he, ht]; simp
  have hall : ∀ x ∈ sortZ (((linesI g).getD i []).map (·.1)), v ≤ x := fun x hx => hm x ((sortZ_perm _).mem_iff.1 hx)
  have hin2 := hmem.2 hin
  generalize sortZ (((linesI g).getD i []).map (·.1)) = s at *
  cases s with
  | nil => simp at hin2
  | cons a r =>
    rw [List.getD_cons_zero]
    have := hall a (by simp)
    rcases List.mem_cons.1 hin2 with h | h
    · exact h.symm
    · have := (List.pairwise_cons.1 hasc).1 v h; omega
end Abs.Y
