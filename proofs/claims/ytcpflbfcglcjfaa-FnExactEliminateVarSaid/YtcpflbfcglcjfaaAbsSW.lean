/- The weakest precondition by the code's own structure: it serves in a function's frame and in the frame of a round. No condition. -/
import Derived.Test.YtcpflbfcglcjfaaAbsRegion
import Derived.RangeFuncCalls
import Derived.RangeFuncLeaves
import Derived.OrdersIn
set_option linter.all false
namespace Abs
open Go Go.RowKit

theorem wp_loop_n {P : Program} {c : Code} {Q : Exit -> Act -> World -> Prop} (I : Nat -> Act -> World -> Prop)
 (round : ∀ n a w, I n a w -> c.wp P (Exit.then (fun a' w' => ∃ m, m < n ∧ I m a' w') Q) a w) : ∀ n a w, I n a w -> (Code.loop c).wp P Q a w := by
 intro n a w h0 b k cs
 have key : ∀ n a w, I n a w -> ∃ e a' w', Q e a' w' ∧ Arrives P (lone (b.at a (.code c :: .inLoop c :: k)) cs w) b k cs e a' w' := by
  intro n
  induction n using Nat.strongRecOn with
  | _ n ih =>
    intro a w hI
    obtain ⟨e, a1, w1, hq, harr⟩ := round n a w hI b (.inLoop c :: k) cs
    cases e with
    | normal =>
      obtain ⟨m, hlt, hI1⟩ := hq
      obtain ⟨e2, a2, w2, hq2, harr2⟩ := ih m hlt a1 w1 hI1
      exact ⟨e2, a2, w2, hq2, .of_steps (Steps.trans harr (.one step_inLoop)) harr2⟩
    | exit id => exact ⟨_, a1, w1, hq, .pass (x := .inLoop c) rfl (fun _ _ => .inl (by simp)) harr⟩
    | goto l => exact ⟨_, a1, w1, hq, .pass (x := .inLoop c) rfl (fun _ _ => .inl (by simp)) harr⟩
    | ret => exact ⟨_, a1, w1, hq, .pass (x := .inLoop c) rfl (fun _ _ => .inl (by simp)) harr⟩
    | panic ch => exact ⟨_, a1, w1, hq, .pass (x := .inLoop c) rfl (fun _ _ => .inl (by simp)) harr⟩
    | outgrown => exact ⟨_, a1, w1, hq, .pass (x := .inLoop c) rfl (fun _ _ => .inl (by simp)) harr⟩
 obtain ⟨e, a', w', hq, harr⟩ := key n a w h0
 exact ⟨e, a', w', hq, .of_steps (.one step_loop) harr⟩
def SW (P : Program) : Code -> (Exit -> Act -> World -> Prop) -> Act -> World -> Prop
 | .skip, Q, a, w => Q .normal a w
 | .exit id, Q, a, w => Q (.exit id) a w
 | .ret, Q, a, w => Q .ret a w
 | .seq x y, Q, a, w => SW P x (Exit.then (SW P y Q) Q) a w
 | .cond c x y, Q, a, w => ∃ t, a.eval c = .bool t ∧ (t = true -> SW P x Q a w) ∧ (t = false -> SW P y Q a w)
 | .block id c, Q, a, w => SW P c (Exit.inBlock id Q) a w
 | .loop c, Q, a, w => ∃ (I : Nat -> Act -> World -> Prop) (n : Nat), I n a w ∧ ∀ n a w, I n a w -> SW P c (Exit.then (fun a' w' => ∃ m, m < n ∧ I m a' w') Q) a w
 | .region _ ops false, Q, a, w => wpOps P ops Q (List.range ops.size) a w
 | .region _ ops true, Q, a, w => wpAny P .any ops Q ops.size (Array.replicate ops.size false) a { w with drawn := w.drawn + 1 }
 | .rangeFunc g ps asg body, Q, a, w => (Code.rangeFunc g ps asg body).wp P Q a w
 | _, _, _, _ => False

section
variable {P : Program}
theorem Oper.upon_mono {o : Oper} {a : Act} {K K' : Act -> World -> Prop} {Q Q' : Exit -> Act -> World -> Prop} (hk : ∀ a w, K a w -> K' a w) (hq : ∀ e a w, Q e a w -> Q' e a w) {r : Result Next} (h : o.upon P a K Q r) : o.upon P a K' Q' r := by
 cases r with
 | ok n w' =>
   cases n <;> simp only [Oper.upon] at h ⊢ <;>
    first
     | exact hk _ _ h
     | exact Calls.mono h (fun e w'' he => by
      cases e
      . exact hk _ _ he
      . exact hq _ _ _ he
      . obtain ⟨a, w, h⟩ := he; exact ⟨a, w, hq _ _ _ h⟩)
     | exact Rows.mono h (fun _ _ he => hk _ _ he)
 | halt x w' => cases x <;> simp only [Oper.upon] at h ⊢ <;> exact hq _ _ _ h
theorem wpOp_mono2 {ops : Array Oper} {i : Nat} {a : Act} {w : World} {K K' : Act -> World -> Prop} {Q Q' : Exit -> Act -> World -> Prop} (hk : ∀ a w, K a w -> K' a w) (hq : ∀ e a w, Q e a w -> Q' e a w) (h : wpOp P ops Q i K a w) : wpOp P ops Q' i K' a w := by
 unfold wpOp at *
 split
 . exact hk _ _ (by simpa [*] using h)
 . rename_i o ho
   simp only [ho] at h
   split
   . rename_i hw; simp only [hw, if_true] at h
     exact h.imp (Oper.upon_mono hk hq) fun ⟨h1, a, w, h2⟩ => ⟨h1, a, w, hq _ _ _ h2⟩
   . rename_i hw; simp only [hw] at h; exact hk _ _ h
theorem wpOps_mono2 {ops : Array Oper} {Q Q' : Exit -> Act -> World -> Prop} (hq : ∀ e a w, Q e a w -> Q' e a w) : ∀ (l : List Nat) {a w}, wpOps P ops Q l a w -> wpOps P ops Q' l a w
 | [], a, w, h => hq _ _ _ h
 | i :: r, a, w, h => by
   rw [wpOps_cons] at h ⊢
   exact wpOp_mono2 (fun a w h => wpOps_mono2 hq r h) hq h
theorem wpAny_mono2 {ops : Array Oper} {Q Q' : Exit -> Act -> World -> Prop} (hq : ∀ e a w, Q e a w -> Q' e a w) : ∀ (fuel : Nat) {l a w}, wpAny P .any ops Q fuel l a w -> wpAny P .any ops Q' fuel l a w
 | 0, l, a, w, h => ⟨h.1, hq _ _ _ h.2⟩
 | fuel + 1, l, a, w, h => ⟨fun e => hq _ _ _ (h.1 e), fun i hi => wpOp_mono2 (fun a w h => wpAny_mono2 hq fuel h) hq (h.2 i hi)⟩
theorem sw_mono : ∀ (c : Code) {Q Q' : Exit -> Act -> World -> Prop} {a w}, SW P c Q a w -> (∀ e a w, Q e a w -> Q' e a w) -> SW P c Q' a w
 | .skip, _, _, _, _, h, hq => hq _ _ _ h
 | .exit id, _, _, _, _, h, hq => hq _ _ _ h
 | .ret, _, _, _, _, h, hq => hq _ _ _ h
 | .seq x y, _, _, _, _, h, hq => sw_mono x (show SW P x _ _ _ from h) fun e a w h => by
  cases e with
  | normal => exact sw_mono y (show SW P y _ _ _ from h) hq
  | _ => exact hq _ _ _ h
 | .cond c x y, _, _, _, _, ⟨t, h1, h2, h3⟩, hq => ⟨t, h1, fun e => sw_mono x (h2 e) hq, fun e => sw_mono y (h3 e) hq⟩
 | .block id c, _, _, _, _, h, hq => sw_mono c (show SW P c _ _ _ from h) fun e a w h => by
  cases e with
  | exit id' =>
    simp only [Exit.inBlock] at h ⊢
    split
    . rename_i e; rw [if_pos e] at h; exact hq _ _ _ h
    . rename_i e; rw [if_neg e] at h; exact hq _ _ _ h
  | _ => exact hq _ _ _ h
 | .loop c, _, _, _, _, ⟨I, n, h1, h2⟩, hq => ⟨I, n, h1, fun n a w hI => sw_mono c (h2 n a w hI) fun e a w h => by
  cases e with
  | normal => exact h
  | _ => exact hq _ _ _ h⟩
 | .region _ ops false, _, _, _, _, h, hq => wpOps_mono2 hq _ h
 | .region _ ops true, _, _, _, _, h, hq => wpAny_mono2 hq _ h
 | .rangeFunc g ps asg body, _, _, _, _, h, hq => wp_mono h hq
 | .label _, _, _, _, _, h, _ => h.elim
 | .goto _, _, _, _, _, h, _ => h.elim
 | .scope _, _, _, _, _, h, _ => h.elim
 | .refuse _, _, _, _, _, h, _ => h.elim

theorem wp_of_sw (hm : P.follows .mixedOrders = true) : ∀ (c : Code) {Q : Exit -> Act -> World -> Prop} {a w}, SW P c Q a w -> c.wp P Q a w
 | .skip, _, _, _, h => wp_skip h
 | .exit id, _, _, _, h => wp_exit h
 | .ret, _, _, _, h => wp_ret h
 | .seq x y, _, _, _, h => wp_seq (wp_mono (wp_of_sw hm x h) fun e a w h => by
  cases e with
  | normal => exact wp_of_sw hm y h
  | _ => exact h)
 | .cond c x y, _, _, _, ⟨t, h1, h2, h3⟩ => wp_cond_split h1 (fun e => wp_of_sw hm x (h2 e)) fun e => wp_of_sw hm y (h3 e)
 | .block id c, _, _, _, h => wp_block (wp_of_sw hm c h)
 | .loop c, _, _, _, ⟨I, n, h1, h2⟩ => wp_loop_n I (fun n a w hI => wp_of_sw hm c (h2 n a w hI)) n _ _ h1
 | .region _ ops false, _, _, _, h => wp_region h
 | .region _ ops true, _, _, _, h => wp_region_any hm h
 | .rangeFunc g ps asg body, _, _, _, h => h
 | .label _, _, _, _, h => h.elim
 | .goto _, _, _, _, h => h.elim
 | .scope _, _, _, _, h => h.elim
 | .refuse _, _, _, _, h => h.elim

def noDefer (o : Oper) : Bool :=
 match o.op with
 | .defer _ => false
 | _ => true
def calmC : Code -> Bool
 | .region _ ops _ => ops.toList.all noDefer
 | .seq x y => calmC x && calmC y
 | .cond _ x y => calmC x && calmC y
 | .block _ c => calmC c
 | .loop c => calmC c
 | .skip => true
 | .exit _ => true
 | .ret => true
 | _ => false
theorem takeDeferred_run {D : Nat} {w : World} (h : w.heap[D]? = some (.deferred (some []))) : (Instr.takeDeferred D).run P w = .ok [] (w.putObj D (.deferred none)) := run_takeDeferred h
theorem leaves_marks {fn : Func} {tmps : Array Value} {R : Ending -> World -> Prop} {S B : Nat -> Prop} : ∀ (ds : List Deferred) {w : World}, MarksOK S B w ds ->
 (∀ w', w'.os = w.os -> w'.tape = w.tape -> w'.output = w.output -> w'.drawn = w.drawn -> w'.heap.size = w.heap.size -> (∀ g, (∀ D, markD D ∈ ds -> g ≠ D) -> w'.heap[g]? = w.heap[g]?) ->
  ∃ v, (results fn tmps).run P w' = .ok v w' ∧ R (.returned v) w') -> LeavesInM Fence.wide 0 P fn tmps R ds .returning w
 | [], w, _, h => by
   obtain ⟨v, h1, h2⟩ := h w rfl rfl rfl rfl rfl fun _ _ => rfl
   exact ⟨v, h1, h2⟩
 | c :: ds, w, hM, h => by
   obtain ⟨D, rfl, _, _, hD⟩ := hM.each c (by simp)
   have hap := List.pairwise_cons.1 hM.apart
   refine ⟨by simp, .inl ⟨D, _, rfl, takeDeferred_run hD, ?_⟩⟩
   have hlt : D < w.heap.size := (Array.getElem?_eq_some_iff.1 hD).1
   refine leaves_marks (S := fun _ => True) (B := fun _ => True) ds ⟨fun c hc => ?_, hap.2⟩ fun w' h1 h2 h3 h4 h5 h6 => h w' h1 h2 h3 h4 (by simpa using h5) fun g hg => ?_
   . obtain ⟨D', rfl, _, _, hD'⟩ := hM.each c (by simp [hc])
     exact ⟨D', rfl, trivial, trivial, (World.putObj_heap_other (fun e => hap.1 _ hc (by rw [e]))).trans hD'⟩
   . rw [h6 g fun D' hD' => hg D' (by simp [hD'])]
     exact World.putObj_heap_other (hg D (by simp))
end
end Abs
