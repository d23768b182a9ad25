/- A range over slices.Backward: a round is a call of the body, that is handed the objects. No condition. -/
import Derived.Test.YtailofgkfldepaaAbsBox
import Derived.Test.YtailofgkfldepaaAbsRow
import Derived.RangeFuncNested
set_option linter.all false
namespace Abs
open Go Go.RowKit

theorem ownsRow_cells {w : World} {base e size v n xs} (h : w.ownsRow base e size v n xs) {b : Nat} (hb : v.ownBlock = some b) : cellsAt w b := by
  rcases h.2 with ⟨rfl, _⟩ | ⟨g, cap, cur, rfl, _, hg, _⟩
  · cases hb
  · cases hb; exact ⟨_, hg, rfl⟩
theorem Dp.onlyF {w x v F} (h : Dp w x v F) : Dp w x v (fun g => F g ∧ cellsAt w g) := by
  induction h with
  | int k n => exact .int k n _
  | bool b => exact .bool b _
  | str s => exact .str s _
  | nil v _ h => exact .nil v _ h
  | slice xs fs hk0 hk hw hb hf hd _ ih =>
    exact .slice xs (fun i g => fs i g ∧ cellsAt _ g) hk0 hk hw (fun b hbb => ⟨⟨(hb b hbb).1, ownsRow_cells hw hbb⟩, fun i h => (hb b hbb).2 i h.1⟩) (fun i g h => ⟨hf i g h.1, h.2⟩) (fun i j g h h' => hd i j g h.1 h'.1) ih
theorem ownS_cells {w : World} {base e size v n xs} (h : w.ownsRow base e size v n xs) : (fun g => ownS v g ∧ cellsAt w g) = ownS v :=
  funext fun g => propext ⟨fun h => h.1, fun hg => ⟨hg, ownsRow_cells h hg⟩⟩
theorem OK.onlyF {β S w o v F} (h : OK β S w o v F) : OK β S w o v (fun g => F g ∧ cellsAt w g) := by
  cases h with
  | box hF xs hv hw hr => subst hF; exact .box (ownS_cells hw) xs hv hw hr
  | arr hF xs hk0 hk hw hr => subst hF; exact .arr (ownS_cells hw) xs hk0 hk hw hr
  | arv hF xs hv hk0 hk hw hr => subst hF; exact .arv (ownS_cells hw) xs hv hk0 hk hw hr
  | dp hlt h =>
    refine .dp (fun g hg => hlt g hg.1) ?_
    rcases h with h | ⟨e, k, xs, fs, ht, h⟩
    · exact .inl h
    · exact .inr ⟨e, k, xs, fun i g => fs i g ∧ cellsAt w g, ht, h.hk0, h.hk, h.hw, fun b hb => ⟨⟨(h.hb b hb).1, ownsRow_cells h.hw hb⟩, fun i hh => (h.hb b hb).2 i hh.1⟩, fun i g hh => ⟨h.hf i g hh.1, hh.2⟩,
        fun i j g h1 h2 => h.hd i j g h1.1 h2.1, fun i hi hn => (h.hr i hi hn).onlyF, fun c d hcd => ⟨(h.hh c d hcd).1, (h.hh c d hcd).2.1, (h.hh c d hcd).2.2.1, fun g hg => (h.hh c d hcd).2.2.2 g hg.1⟩⟩
section
variable {Z : Nat → Prop} {β : Nat → Value} {φ : Nat → Nat → Prop} {N B : Nat} {M : Nat → Prop} {w0 : World} {st : St} {a : Act} {w : World}
theorem free_shrink {φ' : Nat → Nat → Prop} {o : List (Nat × AO)} (hφ : ∀ j g, φ' j g → φ j g) {g} (h : free Z φ o g) : free Z φ' o g := ⟨h.1, fun j x hj hg => h.2 j x hj (hφ j g hg)⟩
/-- What holds no cells has changed. -/
theorem SimB.turn (h : SimB Z β φ N B M w0 st a w) {l : Nat} {r : Loop} (o' : Obj) (hl : w.heap[l]? = some (.loop r)) (hB : B ≤ l) : SimB Z β (fun j g => φ j g ∧ cellsAt w g) N B M w0 st a (w.putObj l o') := by
  have hb : ∀ g, g ≠ l → (w.putObj l o').heap[g]? = w.heap[g]? := fun g hg => World.putObj_heap_other hg
  have hcl : ∀ g, cellsAt w g → g ≠ l := fun g ⟨o, ho, hc⟩ e => by subst e; rw [hl] at ho; cases ho; cases hc
  have hm : ∀ g, (free Z φ st.o g ∧ cellsAt w g) → g < w.heap.size → free Z (fun j g => φ j g ∧ cellsAt w g) st.o g ∧ (w.putObj l o').heap[g]? = w.heap[g]? := fun g hg _ => ⟨free_shrink (fun _ _ h => h.1) hg.1, hb g (hcl g hg.2)⟩
  refine ⟨⟨fun c hc => ?_, h.nd.apart⟩, h.size, fun i av hi => ((h.slots i av hi).only).move hm, fun j o hj => (((h.objs j o hj).onlyF).only).move hm (by simp) fun g hg => hb g (hcl g hg.2), fun j o g hj hg => h.own j o g hj hg.1, fun j j' o o' g hj hj' hg hg' => h.disj j j' o o' g hj hj' hg.1 hg'.1,
    ⟨h.fr.os, h.fr.tape, h.fr.output, by simpa using h.fr.le, by simpa using h.fr.size, fun g hgB hgM => (hb g (by omega)).trans (h.fr.block g hgB hgM), h.fr.drawn⟩, h.z⟩
  obtain ⟨D, h1, h2, h3, h4⟩ := h.nd.each c hc
  exact ⟨D, h1, free_shrink (fun _ _ h => h.1) h2, h3, (hb D (by rintro rfl; rw [hl] at h4; cases h4)).trans h4⟩
/-- A new beginning: from here on only what the objects own (and the marks) may change. -/
theorem SimB.rebase (h : SimB Z β φ N B M w0 st a w) {w' : World} (hos : w'.heap.size = w.heap.size) (hb : ∀ g, cellsAt w g → w'.heap[g]? = w.heap[g]?) (hd : ∀ D, markD D ∈ a.defers → w'.heap[D]? = w.heap[D]?) :
    SimB Z β (fun j g => φ j g ∧ cellsAt w g) N w'.heap.size (fun g => blocksOf (fun j g => φ j g ∧ cellsAt w g) st.o g ∨ markD g ∈ a.defers) w' st a w' := by
  have hm : ∀ g, (free Z φ st.o g ∧ cellsAt w g) → g < w.heap.size → free Z (fun j g => φ j g ∧ cellsAt w g) st.o g ∧ w'.heap[g]? = w.heap[g]? := fun g hg _ => ⟨free_shrink (fun _ _ h => h.1) hg.1, hb g hg.2⟩
  refine ⟨⟨fun c hc => ?_, h.nd.apart⟩, h.size, fun i av hi => ((h.slots i av hi).only).move hm, fun j o hj => (((h.objs j o hj).onlyF).only).move hm (by rw [hos]; exact Nat.le_refl _) fun g hg => hb g hg.2, fun j o g hj hg => .inr (.inl ⟨j, o, hj, hg⟩),
    fun j j' o o' g hj hj' hg hg' => h.disj j j' o o' g hj hj' hg.1 hg'.1, ⟨rfl, rfl, rfl, Nat.le_refl _, Nat.le_refl _, fun _ _ _ => rfl, Nat.le_refl _⟩, fun g hg => ?_⟩
  · obtain ⟨D, h1, h2, h3, h4⟩ := h.nd.each c hc
    exact ⟨D, h1, free_shrink (fun _ _ h => h.1) h2, .inr (.inr (h1 ▸ hc)), (hd D (h1 ▸ hc)).trans h4⟩
  · rcases hg with hg | ⟨j, o, hj, hg⟩ | hg
    · exact h.z g (.inl (by have := h.fr.le; omega))
    · exact h.z g (h.own j o g hj hg.1)
    · obtain ⟨D, h1, h2, _⟩ := h.nd.each _ hg
      have : g = D := by simpa [markD] using h1
      subst this; exact h2.1
end

/-- THE ITERATOR's CONTRACT: the elements come, the last first; every round goes on. -/
def IterAt (P : Program) (bf : Nat) (es : List D) : Prop :=
  ∀ (l : Nat) (pv : Value) (J : Nat → World → Prop) (W : World),
    (∀ k W, J k W → ∃ S : Nat → Prop, Rd S W (.ptr (.slice es)) pv ∧ (k < es.length → ∀ u, Rd S W (el es (es.length - 1 - k)) u →
      YieldAt Fence.wide 0 P l #[.int .i64 ((es.length - 1 - k : Nat) : Int), u] W fun e W' => e = .returned (.bool true) ∧ J (k + 1) W')) →
    J 0 W → CallsIn Fence.wide 0 P bf #[.func (.yield l) #[] #[], pv] W fun e W' => (∃ v, e = .returned v) ∧ J es.length W'

/-- How a round ends: its objects go back to where they came from. -/
def roundE (N : Nat) (u : Nat → Value) (keep : List Nat) (st : St) (J : St → Prop) : Exit → St → Prop := fun e st' =>
  e = .normal ∧ ∃ (ks : List Nat) (oo : List (Nat × AO)), (∀ p ∈ oo, lk p.1 st'.o = some p.2) ∧ (∀ j ∈ keep, lk (1000000000 + j) st'.s = some (.hdr j (u j)) ∧ (lk j oo).isSome = true ∧ j ∉ ks) ∧
    (∀ p ∈ st.o, p.1 ∈ keep ∨ p.1 ∈ ks) ∧ (∀ p ∈ oo, p.1 ∈ keep ∨ p.1 ∈ ks) ∧ ∃ st2, Wk N (impM st none (fun j => j) ks (.tup []) oo) st2 ∧ J st2

/-- After a round the objects have gone back. -/
theorem SimB.roundBack {Z : Nat → Prop} {β β3 : Nat → Value} {φ φ3 : Nat → Nat → Prop} {N B B3 : Nat} {M M3 : Nat → Prop} {w0 w3 : World} {st st' : St} {a a3 : Act} {w w4 : World} {keep : List Nat} {J : St → Prop}
    (h : SimB Z β φ N B M w0 st a w) (hE : roundE N β keep st J .normal st') (h3 : SimB Z β3 φ3 N B3 M3 w3 st' a3 w4) (hown : ∀ j g, φ3 j g → (∃ o, lk j st'.o = some o) → w.heap.size ≤ g ∨ blocksOf φ st.o g)
    (hf : Fr w.heap.size (blocksOf φ st.o) w w4) : ∃ st2, Sim Z N B M w0 st2 a w4 ∧ J st2 := by
  obtain ⟨_, ks, oo, h1, h2, h4, h5, st2, hw, hJ⟩ := hE
  have hlko : ∀ {j o}, lk j oo = some o → lk j st'.o = some o := fun hj => h1 _ (lk_some_mem hj)
  have hr : ResRelM (fun g => w.heap.size ≤ g ∨ blocksOf φ st.o g ∨ free Z φ st.o g) (fun g => w.heap.size ≤ g ∨ blocksOf φ st.o g) β keep w4 (.tup []) oo (.tuple #[]) := by
    refine ⟨β3, φ3, fun j hj => ?_, Rel.tup (xs := []) (vs := []) rfl (by simp), fun j o hj => ?_, fun j o g hj hg => hown j g hg ⟨o, hlko hj⟩, fun j j' o o' g hj hj' hg hg' => h3.disj j j' o o' g (hlko hj) (hlko hj') hg hg'⟩
    · have := h3.slots _ _ (h2 j hj).1
      cases this with
      | hdr e => exact e
    · refine (h3.objs j o (hlko hj)).move (fun g hg hlt => ⟨⟨?_, fun i x hi => hg.2 i x (hlko hi)⟩, rfl⟩) (Nat.le_refl _) fun _ _ => rfl
      by_cases e1 : w.heap.size ≤ g
      · exact .inl e1
      · by_cases e2 : blocksOf φ st.o g
        · exact .inr (.inl e2)
        · exact .inr (.inr ⟨hg.1, fun i x hi hgi => e2 ⟨i, x, hi, hgi⟩⟩)
  have key : ∀ {l : List (Nat × AO)} {j : Nat}, (∀ p ∈ l, p.1 ∈ keep ∨ p.1 ∈ ks) → (lk j l).isSome = true → j ∉ keep → j ∈ ks := fun {l j} hl hj hn => by
    obtain ⟨o, ho⟩ := Option.isSome_iff_exists.1 hj
    exact (hl _ (lk_some_mem ho)).resolve_left hn
  have hs := h.impM (dst := none) (ρ := fun j => j) (κ := fun j => j) (ks := ks) (keep := keep) (oi := st.o) (res := .tup []) (oo := oo) (v := .tuple #[]) (fun j o hj => ⟨o, hj⟩) hf hr
    (fun g hg => hg) (fun g hg => hg) (fun j hj => ⟨rfl, (h2 j hj).2.1, (h2 j hj).2.2⟩) (fun j hj hn => key h4 hj hn) (fun j hj hn => key h5 hj hn) (fun j j' _ _ e => e) (fun d hd => by cases hd)
  obtain ⟨β', φ', hB⟩ := hs
  exact ⟨st2, hw _ _ _ _ _ _ _ _ hB, hJ⟩

theorem lk_marksA_app {u : Nat → Value} {keep : List Nat} {s : List (Nat × AV)} {i : Nat} {av : AV} (h : lk i (marksA u keep ++ s) = some av) : (∃ j, av = .hdr j (u j)) ∨ lk i s = some av := by
  rw [lk_app] at h
  split at h
  · rename_i v hv; cases h; exact .inl (lk_marksA hv)
  · exact .inr h

theorem Ok.rangeBack {P : Program} {N : Nat} {g : Operand} {p0 p1 : Nat} {asg body : Code} {Q : Exit → St → Prop} {S : List (Nat × AV)} {O : List (Nat × AO)} {bf : Nat} {es : List D}
    (he : ∀ args w, (callFunc bf args).run P w = .ok (.enter bf args) w) (hit : IterAt P bf es)
    (hp : p0 < N ∧ p1 < N) (hok : (codeOK (.seq asg body) && calmC (.seq asg body)) = true) (keep : List Nat) (I : Nat → St → Prop) (h0 : ∃ st, Wk N ⟨S, O⟩ st ∧ I 0 st)
    (hI : ∀ k st, I k st → (ev st g).map fnOf = some (.fn (.func bf) [.d (.ptr (.slice es))]))
    (hr : ∀ k st, k < es.length → I k st → ∀ u : Nat → Value, Awp P N (.seq asg body) (roundE N u keep st (I (k + 1))) ⟨marksA u keep ++ ins p1 (.d (el es (es.length - 1 - k))) (ins p0 (.d (.int .i64 ((es.length - 1 - k : Nat) : Int))) st.s), st.o⟩)
    (hd : ∀ st, I es.length st → Q .normal st) : Ok P N (.rangeFunc g #[p0, p1] asg body) Q ⟨S, O⟩ := by
  intro _ hm Z B M w0 a w ⟨β00, φ00, hs00⟩
  obtain ⟨st0, hw0, hI0⟩ := h0
  obtain ⟨β0, φ0, hs⟩ := hw0 _ _ _ _ _ _ _ _ hs00
  simp only [Bool.and_eq_true] at hok
  obtain ⟨hok1, hcalm⟩ := hok
  have hok2 := hok1
  have hcalm2 := hcalm
  simp only [codeOK, Bool.and_eq_true] at hok2
  simp only [calmC, Bool.and_eq_true] at hcalm2
  show (Code.rangeFunc g #[p0, p1] asg body).wp P (lift Z N B M w0 Q) a w
  -- the function's value
  have hval : ∀ {k st β φ B' M' w0' a' W}, I k st → SimB Z β φ N B' M' w0' st a' W → ∃ pv, a'.eval g = .func (.func bf) #[] #[pv] ∧ Rd (free Z φ st.o) W (.ptr (.slice es)) pv := fun {k st β φ B' M' w0' a' W} hk h => by
    have h1 := hI k st hk
    cases hx : ev st g with
    | none => rw [hx] at h1; cases h1
    | some av =>
      rw [hx] at h1
      simp only [Option.map_some, Option.some.injEq] at h1
      have h2 := fnOf_rel (ev_spec h hx)
      rw [h1] at h2
      generalize a'.eval g = v at *
      cases h2 with
      | fn hl hr =>
        rename_i us
        match us, hl with
        | [pv], _ =>
          have h3 := hr 0 (by simp)
          simp only [List.getD_cons_zero] at h3
          cases h3 with
          | d h3 => exact ⟨pv, rfl, h3⟩
  obtain ⟨pv, hgv, _⟩ := hval hI0 hs
  refine (wpIn_wide (n := 1)).1 (wpIn_rangeFunc fun fn hfn => ?_)
  obtain ⟨rec, hrec⟩ : ∃ rec : LoopState → Option Code → Loop, rec = fun st pe => { state := st, pending := pe, fn, tmps := a.tmps, params := #[p0, p1], assign := asg, body, defers := w.heap.size } := ⟨_, rfl⟩
  obtain ⟨W1, hW1⟩ : ∃ W1, (w.alloc (.deferred (some []))).alloc (.loop (rec .ready none)) = W1 := ⟨_, rfl⟩
  have hL1 : W1.heap[w.heap.size + 1]? = some (.loop (rec .ready none)) := by
    rw [← hW1]; have := World.alloc_heap_new (w.alloc (.deferred (some []))) (.loop (rec .ready none)); rwa [World.size_alloc] at this
  have hK1 : W1.heap[w.heap.size]? = some (.deferred (some [])) := by
    rw [← hW1]; exact (Below.heap_alloc _ _ _ (by simp)).trans (World.alloc_heap_new w _)
  have hBw := hs.fr.le
  let ap : Act := { a with defers := markD w.heap.size :: a.defers }
  -- the state behind the entry
  have hsim1 : SimB Z β0 φ0 N B M w0 st0 ap W1 := by
    have hg1 : Gb w W1 none := by
      rw [← hW1]
      exact ⟨⟨rfl, rfl, rfl, by simp; omega, fun g hg _ => by
        rw [Below.heap_alloc _ _ _ (by simp; omega), Below.heap_alloc _ _ _ hg]⟩, Nat.le_refl _⟩
    have h1 := hs.grown hg1
    refine { h1 with nd := ⟨fun c hc => ?_, ?_⟩ }
    · rcases List.mem_cons.1 hc with rfl | hc
      · exact ⟨w.heap.size, rfl, ⟨hs.z _ (.inl hBw), fun j o hj hg => by have := (hs.objs j o hj).block_lt hg; omega⟩, .inl hBw, hK1⟩
      · exact h1.nd.each c hc
    · refine List.pairwise_cons.2 ⟨fun c hc e => ?_, h1.nd.apart⟩
      obtain ⟨D, h2, _, _, h3⟩ := hs.nd.each c hc
      rw [h2] at e
      have : w.heap.size = D := by simpa [markD] using e
      have := (Array.getElem?_eq_some_iff.1 h3).1
      omega
  refine ⟨w.heap.size + 1, [markD w.heap.size], W1, { target := .fn (.func bf) #[pv], args := #[.func (.yield (w.heap.size + 1)) #[] #[]] }, W1, bf,
    #[.func (.yield (w.heap.size + 1)) #[] #[]] ++ #[pv], W1, ?_, ?_, ?_, ?_, fun h => by simp [Fence.wide] at h, ?_⟩
  · rw [← hW1, hrec]; exact run_enterLoop_outer _ _ _ _ _
  · simp only [resolve, hgv]
    simp [go_sem]
  · intro f' hf'; trivial
  · simp [invoke, go_sem, he]
  -- the iterator's contract
  refine (hit (w.heap.size + 1) pv (fun k W => ∃ st β φ, I k st ∧ SimB Z β φ N B M w0 st ap W ∧ W.heap[w.heap.size + 1]? = some (.loop (rec .ready none))) W1 (fun k W ⟨st, β, φ, hk, h, hl⟩ => ?_) ⟨st0, β0, φ0, hI0, hsim1, hL1⟩).mono ?_
  · obtain ⟨pv', hgv', hRd⟩ := hval hk h
    have hpv : pv' = pv := by
      have : ap.eval g = a.eval g := by cases g <;> rfl
      rw [this, hgv] at hgv'
      simpa using hgv'.symm
    subst hpv
    refine ⟨free Z φ st.o, hRd, fun hklt u1 hu1 => ?_⟩
    have hlt : w.heap.size + 1 < W.heap.size := (Array.getElem?_eq_some_iff.1 hl).1
    have hy := run_yield (P := P) (args := #[.int .i64 ((es.length - 1 - k : Nat) : Int), u1]) hl (by rw [hrec]; simp)
    rw [hrec] at hy
    refine ⟨fn, _, asg, body, hy, roundIn_of_wpIn trivial ?_⟩
    have hnc : ¬ cellsAt W (w.heap.size + 1) := fun ⟨o, ho, hc⟩ => by rw [hl] at ho; cases ho; cases hc
    -- the outer state, all of whose memory is cells
    have hO : SimB Z β (fun j g => φ j g ∧ cellsAt W g) N B M w0 st ap W := by
      have h1 := h.turn (.loop (rec .ready none)) hl (by omega)
      have e : W.putObj (w.heap.size + 1) (.loop (rec .ready none)) = W := by
        obtain ⟨hp, tp, dr, os, ou⟩ := W
        simp only [World.putObj]
        congr 1
        apply Array.ext_getElem?
        intro i
        simp only [Array.getElem?_setIfInBounds]
        simp only at hl
        split
        · rename_i e; subst e
          exact hl.symm
        · rfl
      rwa [e] at h1
    -- the round's own beginning
    let act : Act := { tmps := (a.tmps.setIfInBounds p0 (.int .i64 ((es.length - 1 - k : Nat) : Int))).setIfInBounds p1 u1, defers := [] }
    have hin : SimB Z β (fun j g => φ j g ∧ cellsAt W g) N W.heap.size (fun g => blocksOf (fun j g => φ j g ∧ cellsAt W g) st.o g ∨ markD g ∈ act.defers) W ⟨marksA β keep ++ ins p1 (.d (el es (es.length - 1 - k))) (ins p0 (.d (.int .i64 ((es.length - 1 - k : Nat) : Int))) st.s), st.o⟩ act W := by
      have h1 : SimB Z β φ N B M w0 st { a with defers := [] } W := ⟨.nil, h.size, h.slots, h.objs, h.own, h.disj, h.fr, h.z⟩
      have h2 := h1.put (dst := some p0) (v := .d (.int .i64 ((es.length - 1 - k : Nat) : Int))) (u := .int .i64 ((es.length - 1 - k : Nat) : Int)) (fun d e => by cases e; exact hp.1) (.d (.int _ _))
      have h3 := h2.put (dst := some p1) (v := .d (el es (es.length - 1 - k))) (u := u1) (fun d e => by cases e; exact hp.2) (.d hu1)
      have h4 : SimB Z β φ N B M w0 ⟨marksA β keep ++ ins p1 (.d (el es (es.length - 1 - k))) (ins p0 (.d (.int .i64 ((es.length - 1 - k : Nat) : Int))) st.s), st.o⟩ act W :=
        ⟨.nil, by simp [act]; exact h.size, fun i av hi => by
          rcases lk_marksA_app hi with ⟨j, rfl⟩ | hi
          · exact .hdr rfl
          · exact h3.slots i av hi, h.objs, h.own, h.disj, h.fr, h.z⟩
      exact h4.rebase rfl (fun _ _ => rfl) (fun _ _ => rfl)
    have hawp := hr k st hklt hk β
    rw [Awp_eq] at hawp
    have hsw := ok_of_awp asg _ _ hawp hok2.1 hm _ _ _ _ _ _ ⟨_, _, hin⟩
    have hact : ((#[p0, p1] : Array Tmp).zip #[Value.int .i64 ((es.length - 1 - k : Nat) : Int), u1]).foldl (fun tmps (t, a) => tmps.setIfInBounds t a) a.tmps = act.tmps := by simp [act]
    simp only [hact]
    refine wpIn_mono (wpIn_of_sw hm (w.heap.size + 1) 0 asg hcalm2.1 (fun ⟨_, _, h⟩ => h) hsw) fun e a1 w1 hl1 => ?_
    cases e with
    | normal =>
      obtain ⟨st1, ⟨β1, φ1, h1⟩, hb1⟩ := hl1
      have hnb : ∀ g, ¬ cellsAt W g → g < W.heap.size → w1.heap[g]? = W.heap[g]? := fun g hg hlg => h1.fr.block g hlg fun hM => by
        rcases hM with ⟨j, o, hj, hgj⟩ | hM
        · exact hg hgj.2
        · simp [act] at hM
      have hlw1 : w1.heap[w.heap.size + 1]? = some (.loop (rec .ready none)) := (hnb _ hnc hlt).trans hl
      refine ⟨w1.putObj (w.heap.size + 1) (.loop { rec .ready none with state := .busy }), run_beginRound hlw1 (by rw [hrec]), ?_⟩
      have hcl1 : ∀ g, cellsAt w1 g → g ≠ w.heap.size + 1 := fun g ⟨o, ho, hc⟩ e => by subst e; rw [hlw1] at ho; cases ho; cases hc
      have h2 := h1.rebase (w' := w1.putObj (w.heap.size + 1) (.loop { rec .ready none with state := .busy })) (by simp) (fun g hg => World.putObj_heap_other (hcl1 g hg)) (fun D hD => World.putObj_heap_other (by
        rintro rfl
        obtain ⟨D, e1, _, _, e2⟩ := h1.nd.each _ hD
        have : w.heap.size + 1 = D := by simpa [markD] using e1
        subst this
        rw [hlw1] at e2; cases e2))
      obtain ⟨w2, hw2⟩ : ∃ w2, w1.putObj (w.heap.size + 1) (.loop { rec .ready none with state := .busy }) = w2 := ⟨_, rfl⟩
      rw [hw2] at h2 ⊢
      have hlw2 : w2.heap[w.heap.size + 1]? = some (.loop { rec .ready none with state := .busy }) := by
        rw [← hw2]; exact World.putObj_heap_same (Array.getElem?_eq_some_iff.1 hlw1).1
      have hsw2 := ok_of_awp body _ _ hb1 hok2.2 hm _ _ _ _ _ _ ⟨_, _, h2⟩
      refine wpIn_mono (wpIn_of_sw hm (w.heap.size + 1) 0 body hcalm2.2 (fun ⟨_, _, h⟩ => h) hsw2) fun e a3 w3 hl3 => ?_
      cases e with
      | normal =>
        obtain ⟨st3, ⟨β3, φ3, h3⟩, hE⟩ := hl3
        have hsz2 : w2.heap.size = w1.heap.size := by rw [← hw2]; simp
        have hM2 : ∀ g, (blocksOf (fun j g => φ1 j g ∧ cellsAt w1 g) st1.o g ∨ markD g ∈ a1.defers) → W.heap.size ≤ g ∨ blocksOf (fun j g => φ j g ∧ cellsAt W g) st.o g := fun g hg => by
          rcases hg with ⟨j, o, hj, hgj⟩ | hg
          · rcases h1.own j o g hj hgj.1 with h5 | h5 | h5
            · exact .inl h5
            · exact .inr h5
            · simp [act] at h5
          · obtain ⟨D, e1, _, h5, _⟩ := h1.nd.each _ hg
            have : g = D := by simpa [markD] using e1
            subst this
            rcases h5 with h5 | h5 | h5
            · exact .inl h5
            · exact .inr h5
            · simp [act] at h5
        have hlw3 : w3.heap[w.heap.size + 1]? = some (.loop { rec .ready none with state := .busy }) := by
          refine (h3.fr.block _ (by rw [hsz2]; exact Nat.lt_of_lt_of_le hlt h1.fr.size) fun hM => ?_).trans hlw2
          rcases hM with ⟨j, o, hj, hgj⟩ | hM
          · exact hcl1 _ hgj.2 rfl
          · obtain ⟨D, e1, _, _, e2⟩ := h1.nd.each _ hM
            have : w.heap.size + 1 = D := by simpa [markD] using e1
            subst this
            rw [hlw1] at e2; cases e2
        have hend : (Instr.endRound (w.heap.size + 1) none).run P w3 = .ok (.bool true) (w3.putObj (w.heap.size + 1) (.loop (rec .ready none))) := by
          have := run_endRound (P := P) none hlw3
          rw [hrec] at this ⊢
          exact this
        refine ⟨_, _, hend, rfl, ?_⟩
        have hcl3 : ∀ g, cellsAt w3 g → g ≠ w.heap.size + 1 := fun g ⟨o, ho, hc⟩ e => by subst e; rw [hlw3] at ho; cases ho; cases hc
        have hlw4 : (w3.putObj (w.heap.size + 1) (.loop (rec .ready none))).heap[w.heap.size + 1]? = some (.loop (rec .ready none)) := World.putObj_heap_same (Array.getElem?_eq_some_iff.1 hlw3).1
        have h4 := h3.rebase (w' := w3.putObj (w.heap.size + 1) (.loop (rec .ready none))) (by simp) (fun g hg => World.putObj_heap_other (hcl3 g hg)) (fun D hD => World.putObj_heap_other (by
          rintro rfl
          obtain ⟨D, e1, _, _, e2⟩ := h3.nd.each _ hD
          have : w.heap.size + 1 = D := by simpa [markD] using e1
          subst this
          rw [hlw3] at e2; cases e2))
        have hfr : Fr W.heap.size (blocksOf (fun j g => φ j g ∧ cellsAt W g) st.o) W (w3.putObj (w.heap.size + 1) (.loop (rec .ready none))) := by
          have f1 := h1.fr
          have f3 := h3.fr
          have e2 : w2.os = w1.os ∧ w2.tape = w1.tape ∧ w2.output = w1.output ∧ w2.drawn = w1.drawn := by rw [← hw2]; exact ⟨rfl, rfl, rfl, rfl⟩
          refine ⟨(f3.os.trans e2.1).trans f1.os, (f3.tape.trans e2.2.1).trans f1.tape, (f3.output.trans e2.2.2.1).trans f1.output, ?_, ?_, fun g hg hgM => ?_, ?_⟩
          · have := f1.size; have := f3.size; simp; omega
          · have := f1.size; have := f3.size; simp; omega
          · by_cases eg : g = w.heap.size + 1
            · subst eg; exact hlw4.trans hl.symm
            · have b1 : w1.heap[g]? = W.heap[g]? := f1.block g hg fun hM => by
                rcases hM with hM | hM
                · exact hgM hM
                · simp [act] at hM
              have b2 : w2.heap[g]? = w1.heap[g]? := by rw [← hw2]; exact World.putObj_heap_other eg
              have b3 : w3.heap[g]? = w2.heap[g]? := f3.block g (by rw [hsz2]; exact Nat.lt_of_lt_of_le hg f1.size) fun hM => by
                rcases hM2 g hM with h5 | h5
                · omega
                · exact hgM h5
              exact (World.putObj_heap_other eg).trans (b3.trans (b2.trans b1))
          · have := f1.drawn; have := f3.drawn; have := e2.2.2.2
            show W.drawn ≤ w3.drawn
            omega
        obtain ⟨st2, ⟨β4, φ4, h5⟩, hI4⟩ := hO.roundBack hE h4 (fun j g hg ⟨o, hj⟩ => by
          rcases h3.own j o g hj hg.1 with h6 | h6
          · left; have := h1.fr.size; omega
          · exact hM2 g h6) hfr
        exact ⟨st2, β4, φ4, hI4, h5, hlw4⟩
      | ret => obtain ⟨st3, _, hE⟩ := hl3; exact absurd hE.1 (by simp)
      | exit id => obtain ⟨st3, _, hE⟩ := hl3; exact absurd hE.1 (by simp)
      | goto t => obtain ⟨st3, _, hE⟩ := hl3; exact absurd hE.1 (by simp)
      | panic ch => exact hl3.elim
      | outgrown => exact hl3.elim
    | ret => obtain ⟨st3, _, hE⟩ := hl1; exact absurd hE.1 (by simp)
    | exit id => obtain ⟨st3, _, hE⟩ := hl1; exact absurd hE.1 (by simp)
    | goto t => obtain ⟨st3, _, hE⟩ := hl1; exact absurd hE.1 (by simp)
    | panic ch => exact hl1.elim
    | outgrown => exact hl1.elim
  · rintro e W' ⟨⟨v, rfl⟩, st, β, φ, hk, h, hl⟩
    refine ⟨none, _, by have := run_endLoop (P := P) hl (by rw [hrec]; simp); rw [hrec] at this; exact this, ?_⟩
    exact ⟨st, ⟨β, _, h.turn _ hl (by omega)⟩, hd st hk⟩
/-- What is read off a variable that holds a slice. -/
theorem rd_ptrSlice {S : Nat → Prop} {W : World} {es : List D} {pv : Value} {k : Nat} (hk : ∀ e ∈ es, e.cells.length = k) (h : Rd S W (.ptr (.slice es)) pv) :
    ∃ b o sv, pv = .pointer (some ⟨b, o, none⟩) ∧ W.cell? ⟨b, o, none⟩ = some sv ∧ ((es = [] ∧ ∃ a cap, sv = .slice a 0 cap) ∨ (es ≠ [] ∧ ∃ (b2 off cap : Nat) (vs : Nat → Value), sv = .slice (some ⟨b2, off, none⟩) es.length cap ∧
      ∀ i j, i < es.length → j < k → W.cell? ⟨b2, off + (i * k + j), none⟩ = some (vs (i * k + j)) ∧ Rd S W ((el es i).cells.getD j .nilptr) (vs (i * k + j)))) := by
  cases h with
  | ptr vs0 hc0 hr0 =>
    rename_i b o
    have h1 := hc0 0 (by simp [D.cells])
    have h2 := hr0 0 (by simp [D.cells])
    simp only [D.cells, List.getD_cons_zero] at h2
    refine ⟨b, o, vs0 0, rfl, h1.2, ?_⟩
    generalize vs0 0 = sv at *
    cases h2 with
    | nil a => exact .inl ⟨rfl, a, 0, rfl⟩
    | slice vs hk' hcap hc hr =>
      rename_i b2 off cap k'
      by_cases hes : es = []
      · subst hes; exact .inl ⟨rfl, _, cap, rfl⟩
      · refine .inr ⟨hes, b2, off, cap, vs, rfl, fun i j hi hj => ?_⟩
        have hlen := flat_len hk
        have hlt : i * k + j < (flat es).length := by
          rw [hlen]
          have : (i + 1) * k ≤ es.length * k := Nat.mul_le_mul_right k (by omega)
          rw [Nat.add_mul] at this; omega
        refine ⟨(hc _ hlt).2, ?_⟩
        have := hr _ hlt
        rw [flat_block hk hi hj] at this
        exact this
@[go_sem] theorem runO_assignF {P N ops dst ty r K st} : runO P N ops dst (.assign (.const .nilFunc)) ty r K st = onV (qv P st (.assign (.const .nilFunc))) (kPut P N ops dst r K st) := runO_q P N ops dst ty r K st rfl rfl (by simp)
end Abs
