/- What functions of this program compute, as contracts over plain data, with what the proofs need of them. No condition. -/
import Derived.Test.YtoppjihdipidiaaV7
import Derived.Test.YtoppjihdipidiaaAbsBox
set_option linter.all false
namespace Abs
open Go Go.Proofs
/-- Cells that are data, or nil. -/
def cellD (v : AV) (x : D) : Prop := v = .d x ∨ (v = .nilS ∧ x = .slice [])
def cellsD : List AV → List D → Prop
  | [], [] => True
  | v :: r, x :: s => cellD v x ∧ cellsD r s
  | _, _ => False
theorem cellsD_at : ∀ {vs : List AV} {xs : List D}, cellsD vs xs → vs.length = xs.length ∧ ∀ i, i < xs.length → cellD (vs.getD i .undef) (xs.getD i .nilptr)
  | [], [], _ => ⟨rfl, fun i hi => by simp at hi⟩
  | [], _ :: _, h => h.elim
  | _ :: _, [], h => h.elim
  | v :: r, x :: s, h => by
    have ih := cellsD_at h.2
    refine ⟨by simp [ih.1], fun i hi => ?_⟩
    cases i with
    | zero => exact h.1
    | succ i => exact ih.2 i (by simpa using hi)
theorem rd_of_box {β : Nat → Value} {S S' : Nat → Prop} {w : World} {e : TypeId} {x : D} {cells : List AV} {v : Value} {F : Nat → Prop} (h : OK β S w (.box e cells) v F) (hc : cellsD cells x.cells) (hS : ∀ g, S g → g < w.heap.size → S' g) (hg : ∀ g, F g → S' g) :
    ∃ b c, v = .slice (some ⟨b, 0, none⟩) 1 c ∧ Rd S' w (.ptr x) (.pointer (some ⟨b, 0, none⟩)) := by
  obtain ⟨hlen, hcd⟩ := cellsD_at hc
  cases h with
  | box hF xs hv hw hrel =>
    have hw' := hw
    rcases hw.2 with ⟨h1, _⟩ | ⟨g, cap, cur, h1, _, h3, h4, _⟩
    · exact absurd h1 hv
    · subst h1
      refine ⟨g, cap, rfl, .ptr (fun i => xs.getD i Go.undef) (fun i hi => ⟨hg g (by rw [hF]; rfl), ?_⟩) fun i hi => ?_⟩
      · have h9 : i < xs.length := by rw [hw'.1, Nat.one_mul, hlen]; exact hi
        have h10 := ownsRow_cell hw' rfl h9
        rwa [Nat.zero_add]
      · have h5 := hrel i (by omega)
        rcases hcd i hi with h6 | ⟨h6, h7⟩
        · rw [h6] at h5
          cases h5 with
          | d h5 => exact h5.move fun g hg hl => ⟨hS g hg hl, rfl⟩
        · rw [h6] at h5
          rw [h7]
          generalize xs.getD i Go.undef = q at *
          cases h5 with
          | nilS => exact .nil _
/-- A new variable, all of whose cells are data, and data beside it: all is data. -/
theorem Ctr.boxD {P : Program} {f : FuncId} {xs : List D} {e : TypeId} {x y : D} {cells : List AV} (hc : cellsD cells x.cells) (h : Ctr P f xs true (.tup [.p 0 0, .d y]) [(0, .box e cells)]) : Ctr P f xs true (.tup [.d (.ptr x), .d y]) [] := by
  refine ⟨h.1, fun S w vs hl hr => (h.2 S w vs hl hr).mono fun en w' ⟨v, he, hf, β, φ, hrel, hobj, hown, hdis⟩ => ⟨v, he, hf, β, φ, ?_, by simp [lk], by simp [lk], by simp [lk]⟩⟩
  obtain ⟨b, c, hb, hrd⟩ := rd_of_box (S' := free (fun g => w.heap.size ≤ g ∨ (true = true ∧ S g)) φ []) (hobj 0 (.box e cells) (by simp [lk])) hc (fun g hg _ => ⟨hg.1, by simp [lk]⟩) fun g hg => ⟨.inl (hown 0 (.box e cells) g (by simp [lk]) hg), by simp [lk]⟩
  cases hrel with
  | tup hl2 hrl =>
    refine .tup (by simpa using hl2) fun i hi => ?_
    match i, hi with
    | 0, _ =>
      have := hrl 0 (by simp)
      simp only [List.getD_cons_zero] at this ⊢
      generalize hq : List.getD _ 0 Go.undef = q at *
      cases this with
      | p h => rw [hb] at h; cases h; exact .d (by simpa using hrd)
    | 1, _ =>
      have := hrl 1 (by simp)
      simp only [List.getD_cons_succ, List.getD_cons_zero] at this ⊢
      generalize hq : List.getD _ 1 Go.undef = q at *
      cases this with
      | d h => exact .d (h.move fun g hg _ => ⟨⟨hg.1, by simp [lk]⟩, rfl⟩)
/-- A new variable, some rows of which become data, and data beside it. -/
theorem ret_pd {P : Program} {t u j : Nat} {e : TypeId} {cells : List AV} {y : D} {st : St} (js : List Nat) (h : lk t (frzs js st).s = some (.p j 0)) (h' : lk u (frzs js st).s = some (.d y)) (hj : lk j (frzs js st).o = some (.box e cells)) (hc : AV.renL (fun _ => j) cells = cells) :
    retQ P [.tmp t, .tmp u] true (.tup [.p 0 0, .d y]) [(0, .box e cells)] .ret st := by
  refine .inr ⟨rfl, js, ?_⟩
  simp only [retO, resV, h, h']
  exact ⟨trivial, .one j rfl (by rw [hj, AO.ren, hc]), .inl trivial⟩
end Abs
namespace Abs.Y
open Go Go.Proofs Abs
set_option maxRecDepth 100000

/-! ### The program's algebra -/
@[reducible] def D.alg (p : Int) (u : Nat) (cs : List (List Int)) (q : List (List Int)) : D := .agg [.int .i64 p, .int .i64 u, .int .i64 u, .slice (cs.map D.ints), .slice (q.map D.ints)]
theorem cnf_lits {u : Nat} {cs : List (List Int)} (h : okCnf u cs = true) {c : List Int} (hc : c ∈ cs) : ∀ l ∈ c, LitU u l := fun l hl => by
  simp only [okCnf, Bool.and_eq_true, List.all_eq_true] at h
  have h1 := h.2 c hc
  have hv := h.1.1
  simp only [okClause, Bool.and_eq_true, decide_eq_true_eq] at h1
  obtain ⟨j, hj, rfl⟩ := mem_getD 0 hl
  obtain ⟨⟨h2, h3, h4⟩, _⟩ := h1.2 j hj
  unfold LitU
  omega
theorem cnf_len {v : Int} {cs : List (List Int)} (h : okCnf v cs = true) : cs.length ≤ 60 := by
  simp only [okCnf, Bool.and_eq_true, decide_eq_true_eq] at h
  exact h.1.2
def slotQ (k : Nat) (out : List (List Int)) : AV := match out with | [] => .nilS | _ :: _ => .sl k
def objQ (k : Nat) (e : TypeId) (out : List (List Int)) (o : List (Nat × AO)) : List (Nat × AO) := match out with | [] => o | x :: r => (k, .arr e 1 ((x :: r).map D.ints)) :: o
def slotF (out : List (List Int)) : AV := match out with | [] => .nilS | x :: r => .d (.slice ((x :: r).map D.ints))
theorem slotF_d (out : List (List Int)) : cellD (slotF out) (.slice (out.map D.ints)) := by
  cases out with
  | nil => exact .inr ⟨rfl, rfl⟩
  | cons x r => exact .inl rfl
end Abs.Y
