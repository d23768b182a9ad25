/- The law FnFregeChanges returns true whatever its arguments, and leaves them as they were: the given statement. No condition. -/
import Derived.Test.YtiafnejjhnjbfaaDoorRows
import Derived.Test.YtiafnejjhnjbfaaDoorGF12
import Derived.ProofKit
import Derived.OpenShut
import Derived.Test.YtiafnejjhnjbfaaDoorCards
import Derived.Test.YtiafnejjhnjbfaaDoorTie
import Derived.SevenTiedAt
import Derived.LaidMore
import Derived.Stop.Joined
import Derived.Handed
import Derived.OpenVars
import Derived.ChangeVars
import Derived.HandedShaped
import Derived.Shelf.Vars
import Derived.MakeChecks
import Derived.Lay
namespace Go.Proofs.YtiafnejjhnjbfaaDoor
open Go Go.Proofs Abs Abs.Y Go.RowKit Go.ChangeShapes Go.WideShapes Go.ChangeAt
set_option linter.unusedVariables false
set_option maxRecDepth 100000
theorem fnFregeChanges_own : ownKnob Tryd.prog.godebug = none := by kernel_rfl
theorem fnFregeChanges_laid : laidOutB Tryd.prog = true := by kernel_rfl
theorem fnFregeChanges_args : OpA Tryd.prog Tryd.f4.params.toList [(isSl isU8)] := by
  rw [Tryd.params4]
  exact (OpA.cons (opV_slice Tryd.underlying22 (opC_slice Tryd.underlying22 Ty.c22 (by rw [Ty.c5]; decide) (opC_u8 Tryd.underlying5 Ty.c5))) OpA.nil)
noncomputable def fnFregeChanges_world (os : Os) : World := World.laidAll Tryd.prog os Rows.fnFregeChangesRow.laid
theorem fnFregeChanges_shaped (os : Os) : ((fnFregeChanges_world os).forCall (fun _ _ => 0) ⟨#[], #[.slice none 0 0], []⟩).Shaped Tryd.prog := World.shaped_of_ZipB (by kernel_rfl) (by kernel_rfl)
theorem fnFregeChanges_met (os : Os) (args : Array Value) : laidMetH Tryd.prog Rows.fnFregeChangesRow.laid ((fnFregeChanges_world os).forCall (fun _ _ => 0) ⟨#[], args, []⟩).memory := by
  rw [MakeChecks.laidMetH_plain _ _ _ (by kernel_rfl)]; exact laidMet_laidAll _ (by kernel_rfl) (by kernel_rfl)
/-- The condition on what is laid, and the world's shape, both at hand. -/
theorem returnsH {H : Type} {enc : TypeId × Value → H} {a : Assume} {C : Checked} {os : Os} {f : FuncId} {fn : Func} {s : ChangeSpec} {conds : List PathCond} {apart fresh handsOn again : Bool} {X : World → Array Value → Prop}
    (hX : ∀ (w w' : World) (args : Array Value), w.heap = w'.heap → X w args → X w' args)
    (own : ownKnob C.prog.godebug = none) (started : os.Started) (noInit : C.prog.inits.idxOf? f = none) (hfn : C.prog.funcs[f]? = some fn)
    (witness : ∃ (w : World) (tape : Tape) (i : Input), w.os = os ∧ (w.forCall tape i).Shaped C.prog ∧ i.vars = [] ∧ Input.okWide C.prog (w.forCall tape i) .any w.heap.size f i ∧
      ((s.pre enc C.prog fn conds apart (w.forCall tape i).memory i.args ∧ X (w.forCall tape i).memory i.args) ∧ sizedMet enc C.prog fn (OpenSpec.ofChange s) apart (w.forCall tape i).memory i.args) ∧ a.holds C.prog (lone (Frame.enter C.prog f i.args .normal) [] (w.forCall tape i)))
    (contract : ∀ (W : World) (base : Nat) (args : Array Value) (ds gs : List (DataW H)) (before : List MemPlace),
      (∀ (j : Nat) t v, fn.params[j]? = some t → args[j]? = some v → Value.okWide C.prog W .any base t v) →
      DataW.Whole enc C.prog fn.params.toList s.vars apart W args.toList ds gs before → X W args → W.ShapedOpen C.prog →
      Calls C.prog f args W fun e W' => ∃ v, e = .returned v ∧ s.post enc C.prog fn apart fresh handsOn again W args v W') :
    ReturnsInHanded a C os f .any (fun w args => (s.pre enc C.prog fn conds apart w args ∧ X w args) ∧ sizedMet enc C.prog fn (OpenSpec.ofChange s) apart w args) (s.post enc C.prog fn apart fresh handsOn again) := by
  refine returnsInHanded_of_calls own started noInit witness fun w tape i _ hsh _ hok hpre _ => ?_
  obtain ⟨_, _, _, g, hg, _, _, _, _, hval⟩ := hok
  obtain rfl : g = fn := Option.some.inj (hg.symm.trans hfn)
  obtain ⟨⟨⟨ds, gs, before, hw, _⟩, hx⟩, _⟩ := hpre
  exact (contract (w.forCall tape i) w.heap.size i.args ds gs before hval (DataW.Whole.of_heap (w' := w.forCall tape i) (by rfl) hw) (hX _ _ _ (by rfl) hx) hsh).mono fun e W' ⟨v, he, hp⟩ => by
    subst he; exact ChangeSpec.post_blind hp
theorem gS : Tryd.prog.globalNamed "loop.example/g01080/impl.schemes" = some 1 := by kernel_rfl
theorem tS : (Tryd.prog.globals[1]?).map (·.type) = some 113 := by kernel_rfl
/-- What the table holds, and that MaxLen holds some integer. -/
theorem gs_of {W : World} (h : laidMetH Tryd.prog Rows.fnFregeChangesRow.laid W) (hsh : W.ShapedOpen Tryd.prog) : GS (fun _ => True) W.heap.size (fun _ => False) W := by
  rw [MakeChecks.laidMetH_plain _ _ _ (by kernel_rfl)] at h
  obtain ⟨ps, ⟨_, _, _, _, _, _, _, _, _, _, ⟨g0, t0, cs0, f0, p0, q0, hg0, ht0, hv0, hd0, _, _⟩, _⟩, _, _⟩ := h
  obtain rfl := Option.some.inj (gS.symm.trans hg0)
  obtain rfl := Option.some.inj (tS.symm.trans ht0)
  obtain ⟨xs, m1, rfl, hx1, hlen, hn, hel⟩ := DataW.trod_array Tryd.underlying113 hd0
  have c9 : Tryd.prog.cellsOf 9 = 1 := by kernel_rfl
  have hk : ∀ i, i < 10 → ∃ t : ByteArray, schemesD.getD i .nilptr = .str t ∧ (xs.map (·.1))[i]? = some (.lit (.string t.data.toList)) := by
    have hds := (Prod.mk.inj hx1).1
    have hds := DataW.agg.inj hds
    rw [← hds]
    intro i hi
    match i, hi with
    | 0, _ | 1, _ | 2, _ | 3, _ | 4, _ | 5, _ | 6, _ | 7, _ | 8, _ | 9, _ => exact ⟨_, rfl, rfl⟩
  have hc : ∀ i, i < 10 → ∃ t : ByteArray, schemesD.getD i .nilptr = .str t ∧ W.cell? ⟨1, i, none⟩ = some (.string t) := fun i hi => by
    obtain ⟨t, h1, h2⟩ := hk i hi
    refine ⟨t, h1, ?_⟩
    rw [World.var?_cell hg0 hv0 i]
    have hi2 := hel i hi
    rw [List.getElem?_map] at h2
    obtain ⟨x, hx, hx2⟩ := Option.map_eq_some_iff.1 h2
    rw [hx] at hi2
    obtain ⟨s, e1, e2, _⟩ := DataW.trod_string Tryd.underlying9 hi2
    have e3 : s = t := by
      rw [e2] at hx2
      simp only [DataW.lit.injEq, Lit.string.injEq] at hx2
      exact Abs.Y.ext_BL hx2
    rw [c9, Nat.mul_one] at e1
    have := congrArg (fun l : List Value => l[0]?) e1
    simp only [List.getElem?_take, List.getElem?_drop, Nat.add_zero, List.getElem?_cons_zero, Nat.zero_lt_one, if_true] at this
    rw [← e3, ← this, Array.getElem?_toList]
  obtain ⟨m, hm⟩ : ∃ m, W.cell? ⟨0, 0, none⟩ = some (.int .i64 m) :=
    cell_of_shapedOpen_int (t := 3) (zero := #[.int .i64 0]) hsh (by decide +kernel) (by kernel_rfl) rfl (by kernel_rfl) (by kernel_rfl) Tryd.underlying3
  have l0 : 1 < W.heap.size := by
    obtain ⟨t, _, h2⟩ := hc 0 (by omega)
    exact World.block_lt_of_cell? W ⟨1, 0, none⟩ h2
  have l1 : 0 < W.heap.size := World.block_lt_of_cell? W ⟨0, 0, none⟩ hm
  refine ⟨fun g hg => ?_, fun _ _ h => h, fun _ _ => trivial, fun p hp => ?_, fun g hg => ?_⟩
  · rcases hg with ⟨p, hp, rfl⟩ | hg
    · obtain rfl := List.mem_singleton.1 hp
      exact l0
    · obtain rfl := List.mem_singleton.1 hg
      exact l1
  · obtain rfl := List.mem_singleton.1 hp
    have hl : (D.agg schemesD).cells.length = 10 := rfl
    refine .ptr (fun i => (W.cell? ⟨1, 0 + i, none⟩).getD Go.undef) (fun i hi => ?_) fun i hi => ?_
    · rw [hl] at hi
      obtain ⟨t, _, h2⟩ := hc i hi
      refine ⟨rfl, ?_⟩
      rw [Nat.zero_add, h2]; rfl
    · rw [hl] at hi
      obtain ⟨t, h1, h2⟩ := hc i hi
      rw [Nat.zero_add, h2]
      show Rd _ _ (schemesD.getD i .nilptr) _
      rw [h1]
      exact .str _
  · obtain rfl := List.mem_singleton.1 hg
    exact ⟨m, hm⟩
theorem fnFregeChanges_lifted (os : Os) (started : os.Started) (H : Type) (enc : TypeId × Value → H) :
    ReturnsInHanded {} Tryd.checked os 4 .any (fun w args => (Rows.fnFregeChangesSpec.pre enc Tryd.prog Tryd.f4 Rows.fnFregeChangesRow.domain false w args ∧ laidMetH Tryd.prog Rows.fnFregeChangesRow.laid w) ∧ sizedMet enc Tryd.prog Tryd.f4 (OpenSpec.ofChange Rows.fnFregeChangesSpec) false w args) (Rows.fnFregeChangesSpec.post enc Tryd.prog Tryd.f4 false true false false) := by
  refine returnsH (C := Tryd.checked) (X := (fun w _ => laidMetH Tryd.prog Rows.fnFregeChangesRow.laid w)) (fun _ _ _ hh h => h.of_heap hh) fnFregeChanges_own started (by kernel_rfl) Tryd.func4
    (ChangeSpec.witness_shaped (enc := enc) (C := Tryd.checked) (os := os) (X := (fun w _ => laidMetH Tryd.prog Rows.fnFregeChangesRow.laid w)) false (fnFregeChanges_world os) #[.slice none 0 0] 8 rfl (fnFregeChanges_shaped os) (by kernel_rfl) (by kernel_rfl) (by kernel_rfl) (fnFregeChanges_met os _)) ?_
  intro W base args ds gs before hval0 hW hL hsh
  have hW' := hW
  obtain ⟨p, q, hA0, hV, rfl, hfz, hnd⟩ := hW
  have hA : DataW.TrodAll enc Tryd.prog W 0 (fun _ => true) true Tryd.f4.params.toList args.toList ds p := hA0
  have hbase : ∀ (j : Nat) t v, Tryd.f4.params.toList[j]? = some t → args.toList[j]? = some v → Value.okWide Tryd.prog W .any base t v := fun j t v h1 h2 => hval0 j t v (by simpa using h1) (by simpa using h2)
  have hrun := returns_true fnFregeChanges_args Abs.Y.law_FnFregeChanges hbase hA (gs_of hL hsh)
  rw [Tryd.params4] at hA
  obtain ⟨v0, vs0, d0, ds0, p0, q0, hargs, rfl, rfl, h0, r0⟩ := trodAll_cons hA
  obtain ⟨rfl, rfl, rfl⟩ := trodAll_nil r0
  obtain rfl : args = #[v0] := by cases args; simp_all
  have hV1 : DataW.TrodVars enc Tryd.prog W (fun _ => true) ["loop.example/g01080/impl.schemes"] gs q := hV
  have hV2 := hV1
  obtain ⟨gv, tv, csv, fv, dv, pv, rfl, _, _, _, _, _⟩ := trodVars_one hV1
  have lt0 : ∀ x ∈ p0, x.block < W.heap.size := by obtain ⟨m, hm⟩ := h0; exact DataW.trod_lt m _ _ _ hm
  refine hrun.mono fun e W' ⟨he, bel⟩ => ?_
  subst he
  exact ⟨_, rfl, _, _, _, [], _, _, hW', trodAll_mk1 (shut_bool Tryd.underlying4 _), (trodAll_cons_mk (Below.trod fnFregeChanges_laid (by kernel_rfl) (of_decide_eq_true (by kernel_rfl)) h0 bel lt0) trodAll_mk0), Below.trodVars fnFregeChanges_laid bel (by kernel_rfl) hV2, bel.frame _, fun h => by cases h⟩
set_option maxHeartbeats 400000000 in
theorem fnFregeChanges_closed : joinedFacts Tryd.checked.prog 4 Tryd.f4 Rows.fnFregeChangesSpec Rows.fnFregeChangesRow = true := by
  unfold joinedFacts
  simp only [Bool.and_eq_true]
  refine ⟨⟨⟨⟨⟨⟨⟨⟨⟨⟨⟨⟨⟨⟨⟨⟨⟨⟨⟨⟨⟨⟨⟨⟨⟨⟨⟨⟨⟨⟨⟨?_, ?_⟩, ?_⟩, ?_⟩, ?_⟩, ?_⟩, ?_⟩, ?_⟩, ?_⟩, ?_⟩, ?_⟩, ?_⟩, ?_⟩, ?_⟩, ?_⟩, ?_⟩, ?_⟩, ?_⟩, ?_⟩, ?_⟩, ?_⟩, ?_⟩, ?_⟩, ?_⟩, ?_⟩, ?_⟩, ?_⟩, ?_⟩, ?_⟩, ?_⟩, ?_⟩, ?_⟩ <;> as_aux_lemma => kernel_rfl
theorem fnFregeChanges_over : Rows.fnFregeChangesRow.holds Tryd.pinned (OpenSpec.ofChange Rows.fnFregeChangesSpec) :=
  OpenClaim.holds_of_wide 4 Tryd.f4 rfl rfl rfl rfl rfl rfl rfl ⟨rfl, rfl, rfl, rfl, rfl⟩ rfl rfl rfl rfl rfl (by kernel_rfl) Tryd.func4 fnFregeChanges_closed
    (of_decide_eq_true (by kernel_rfl)) (by unfold Func.isWrapper; first | (rw [if_pos (by decide +kernel)]; kernel_rfl) | (rw [if_neg (by decide +kernel)]; exact ⟨rfl, rfl⟩))
    (fun os started H enc _ => fnFregeChanges_lifted os started H enc)
theorem fnFregeChanges_holds : Rows.FnFregeChangesCardSaid :=
  Claim7.holds_tied_plain_at .later [] [.data, .data, .pinned] true (true, "cbd2f5cfcdacadffba97d68011489842180982904ef4b05137bf1951557638ab") false
    fnFregeChanges_over (fun _ h => by cases h) (by kernel_rfl) (fun _ h => by cases h) fnFregeChanges_row_tie rfl ⟨rfl, rfl⟩ (by kernel_rfl) rfl
    (fun f fn hf hfn => by
      obtain rfl : f = 4 := Option.some.inj ((show Tryd.prog.funcNamed "loop.example/g01080/laws.FnFregeChanges" = some 4 by kernel_rfl).symm.trans hf) |>.symm
      obtain rfl : fn = Tryd.f4 := (Option.some.inj (Tryd.func4.symm.trans hfn)).symm
      exact ⟨by kernel_rfl, fun j t ht => by
        rw [Tryd.params4] at ht
        have h3 : t = 22 := by
          rcases j with _ | j
          · simpa using ht.symm
          · simp at ht
        subst h3
        exact (show Tryd.prog.wantsStandIn 22 = false by kernel_rfl)⟩)
    (by kernel_rfl)
end Go.Proofs.YtiafnejjhnjbfaaDoor
