/- The operations that make or change objects: the machine follows their rule. No condition. -/
import Derived.Test.YtbcohiabmdeanaaGreatAbsRules
set_option linter.all false
namespace Abs
open Go Go.RowKit

section
variable {P : Program} {Z : Nat → Prop} {β : Nat → Value} {N B : Nat} {M : Nat → Prop} {w0 : World} {st : St} {a : Act} {w : World}

theorem cell_kept {w w' : World} {g : Nat} {i : Nat} (h : w'.heap[g]? = w.heap[g]?) : w'.cell? ⟨g, i, none⟩ = w.cell? ⟨g, i, none⟩ := World.cell?_of_block h

theorem append0_done (h : SimB Z β N B M w0 st a w) {o : Oper} {d c st'} {s x : Operand} {t e : TypeId} {ys : List D} (hd : o.dst = some d) (hN : d < N)
    (hop : o.op = .call { callee := .builtin .append, args := [s, x].toArray, argTypes := [t, t].toArray }) (he : elemSl P t = some e) (hnr : noRoomS st s = true) (hx : ev st x = some (.d (.slice ys)))
    (hq : append0 P st d e ys = some (c, st')) (hc : c) : Done P Z N B M w0 o a w st' := by
  have hu := elemSl_spec he
  have hs : a.eval s = .slice none 0 0 ∨ ∃ ad, a.eval s = .slice (some ad) 0 0 := by
    unfold noRoomS at hnr
    split at hnr
    · exact .inl rfl
    · split at hnr
      · rename_i hev
        have := ev_spec h hev
        generalize a.eval _ = v at *
        cases this with
        | e0n => exact .inl rfl
        | e0s ad => exact .inr ⟨ad, rfl⟩
      · cases hnr
  have hxr := ev_d h hx
  unfold append0 at hq
  split at hq
  · cases hq
    obtain ⟨i, hi, _⟩ := info_of_cells hc
    have hxv : ∃ c a0, a.eval x = .slice a0 0 c := by
      generalize a.eval x = v at *
      cases hxr with
      | nil a0 => exact ⟨0, a0, rfl⟩
      | slice vs hk hcap hc' hr => exact ⟨_, _, rfl⟩
    obtain ⟨cx, ax, hxv⟩ := hxv
    have hrun : (Builtin.append_ #[t, t] o.type #[a.eval s, a.eval x]).run P w = .ok (a.eval s) w := by
      rcases hs with hs | ⟨ad, hs⟩ <;> rw [hs, hxv] <;> cases ax <;>
        simp [Builtin.append_, run_underlying hu, Go.sizeOf, typeInfo, hi, Builtin.lenOf, Builtin.firstCells, loadCells, loadCellsFrom, storeCells]
    refine Done.value (v := a.eval s) (w' := w) (by simp [execOp, hop, resolve, invoke, builtin, hrun]) ?_
    rw [hd]
    refine ⟨β, h.put (dst := some d) (fun _ e => by cases e; exact hN) ?_⟩
    rcases hs with hs | ⟨ad, hs⟩ <;> rw [hs]
    · exact .d (.nil _)
    · exact .d (.nil _)
  · rename_i y r
    cases hq
    obtain ⟨hys, hk0, hlen, hbytes, hz, hzk⟩ := hc
    obtain ⟨z, hz⟩ := Option.isSome_iff_exists.1 hz
    obtain ⟨i, zv, hi, hiz, hzr⟩ := zeroD_spec hz
    have hzk := hzk z hz
    have hisz : i.size = P.cellsOf e := by simp [Program.cellsOf, hi]
    have hiby : i.bytes = P.bytesOf e := by simp [Program.bytesOf, hi]
    have hzsz : zv.cells.size = P.cellsOf e := by
      have := (rd_cells (hzr (fun _ => True) w)).1
      simpa [hzk] using this
    have fl := flat_length (es := y :: r) (k := P.cellsOf e) fun z hz => (hys z hz).1
    generalize hxv : a.eval x = v at *
    cases hxr with
    | slice vs hk' hcap hc' hr' =>
      rename_i b off cap kk
      have hnews : ∀ j u, ((List.range ((y :: r).length * P.cellsOf e)).map vs)[j]? = some u → w.cell? ((⟨b, off, none⟩ : Addr).add j) = some u := fun j u hu => by
        have hlt : j < (y :: r).length * P.cellsOf e := by
          have := (List.getElem?_eq_some_iff.1 hu).1; simpa using this
        have hu' : vs j = u := by rw [List.getElem?_map, List.getElem?_range hlt] at hu; simpa using hu
        subst hu'
        rw [add_eq]; exact (hc' j (by omega)).2
      have hlen' : (((y :: r).length : Nat) : Int) ≤ 9223372036854775807 := by unfold maxLen at hlen; omega
      have hrun : ∃ cap' cells, (Builtin.append_ #[t, t] o.type #[a.eval s, .slice (some ⟨b, off, none⟩) (y :: r).length cap]).run P w =
          .ok (.slice (some ⟨w.heap.size, 0, none⟩) (y :: r).length cap') (w.drew.alloc (.cells cells e)) ∧ (y :: r).length ≤ cap' ∧ cap' ≤ maxLen ∧ cells.size = cap' * P.cellsOf e ∧
          cells.toList.take ((y :: r).length * P.cellsOf e) = (List.range ((y :: r).length * P.cellsOf e)).map vs := by
        have hshape : ∀ n, (y :: r).length ≤ n → (((List.range ((y :: r).length * P.cellsOf e)).map vs).toArray ++ Builtin.zeroCells zv.cells (n - (y :: r).length)).size = n * P.cellsOf e := fun n hn => by
          simp only [Array.size_append, List.size_toArray, List.length_map, List.length_range, size_zeroCells, hzsz]
          rw [← Nat.add_mul]; congr 1; omega
        rcases hs with hs | ⟨ad', hs⟩
        · have e1 := run_append_nil (P := P) w t o.type e i zv hu hi hiz ⟨b, off, none⟩ (y :: r).length cap ((List.range ((y :: r).length * P.cellsOf e)).map vs) (by simp [hisz]) hnews (by simp) hlen'
            (by rw [hiby]; omega)
          rw [hs]
          refine ⟨_, _, e1, grownCap_ge _ _ _ _, grownCap_le_maxLen _ _ _ _ hlen, hshape _ (grownCap_ge _ _ _ _), ?_⟩
          rw [Array.toList_append, List.take_left' (by simp)]
        · have e1 := run_append_grow (P := P) w t o.type e i zv hu hi hiz ad' 0 0 [] (by simp) (by simp) ⟨b, off, none⟩ (y :: r).length cap ((List.range ((y :: r).length * P.cellsOf e)).map vs) (by simp [hisz]) hnews (by simp)
            (by simpa using hlen') (by rw [hiby]; exact growslice_fits (by simp) (by simpa using hbytes))
          rw [hs]
          simp only [Nat.zero_add] at e1
          refine ⟨_, _, e1, grownCap_ge _ _ _ _, grownCap_le_maxLen _ _ _ _ hlen, ?_, ?_⟩
          · simpa using hshape _ (grownCap_ge w (y :: r).length 0 e)
          · simp only [List.nil_append, Array.toList_append, Array.empty_append]
            rw [List.take_left' (by simp)]
      obtain ⟨cap', cells, hrun, h1, h2, h3, h4⟩ := hrun
      have hg : w.grownBy (w.drew.alloc (.cells cells e)) none := ⟨rfl, rfl, rfl, by simp, fun k hk _ => (World.grownBy_alloc w.drew _ none).block k hk (by simp)⟩
      have hop' : (execOp a.eval o).run P w = ((Builtin.append_ #[t, t] o.type #[a.eval s, a.eval x]).run P w).andThen fun v w => .ok (.value v) w := by simp [execOp, hop, resolve, invoke, builtin]
      refine Done.value (v := .slice (some ⟨w.heap.size, 0, none⟩) (y :: r).length cap') (w' := w.drew.alloc (.cells cells e)) (by rw [hop', hxv, hrun]; rfl) ?_
      rw [hd]
      refine h.newPut (hd := .slice (some ⟨w.heap.size, 0, none⟩) (y :: r).length cap') hN hg (by simp [Value.ownBlock]) (fun β' S' m1 m2 => ?_) (fun β' S' e => by rw [← e]; exact .sl _)
      refine .arr ((List.range ((y :: r).length * P.cellsOf e)).map vs) hk0 (fun z hz => (hys z hz).1) ⟨by simp, .inr ⟨w.heap.size, cap', cells, rfl, Nat.zero_le _, heap_alloc_new w.drew _, h1, h2, h3, h4⟩⟩ fun ii hii => ?_
      have hlt : ii < (y :: r).length * P.cellsOf e := by omega
      have := m2 _ _ (hr' ii hii)
      have e : ((List.range ((y :: r).length * P.cellsOf e)).map vs).getD ii Go.undef = vs ii := by rw [List.getD_eq_getElem?_getD, List.getElem?_map, List.getElem?_range hlt]; rfl
      rw [e]; exact this

/-- The header of an object that is sliced by 'append'. -/
theorem append_done (h : SimB Z β N B M w0 st a w) {o : Oper} {d c st'} {args : List Operand} {ts : List TypeId} (hd : o.dst = some d) (hN : d < N)
    (hop : o.op = .call { callee := .builtin .append, args := args.toArray, argTypes := ts.toArray }) (hq : appendA P st d args ts = some (c, st')) (hc : c) : Done P Z N B M w0 o a w st' := by
  unfold appendA at hq
  split at hq
  · rename_i s x t t'
    split at hq
    · cases hq
    · rename_i htt
      have htt : t' = t := Classical.not_not.1 htt
      subst htt
      split at hq
      · rename_i hnr
        split at hq
        · rename_i e ys he hx
          exact append0_done h hd hN hop he hnr hx hq hc
        · cases hq
      · split at hq
        · rename_i e j he hs
          split at hq
          · rename_i e' k es ys hj hn
            simp only [Option.some.injEq, Prod.mk.injEq] at hq
            obtain ⟨rfl, rfl⟩ := hq
            obtain ⟨rfl, rfl, hys, hlen, hbytes, hz, hzk⟩ := hc
            have hu := elemSl_spec he
            have hO := h.objs j _ hj
            obtain ⟨z, hz⟩ := Option.isSome_iff_exists.1 hz
            obtain ⟨i, zv, hi, hiz, hzr⟩ := zeroD_spec hz
            have hzk := hzk z hz
            have hisz : i.size = P.cellsOf e' := by simp [Program.cellsOf, hi]
            have hiby : i.bytes = P.bytesOf e' := by simp [Program.bytesOf, hi]
            have hzsz : zv.cells.size = P.cellsOf e' := by
              have := (rd_cells (hzr (fun _ => True) w)).1
              simpa [hzk] using this
            have hsv := ev_sl h hs
            cases hO with
            | arr xs hk0 hk hw hr =>
              -- the appended value
              have news : (a.eval x = .slice none 0 0 ∧ ys = []) ∨ ∃ (ad : Addr) (cp : Nat) (news : List Value), a.eval x = .slice (some ad) ys.length cp ∧ news.length = ys.length * P.cellsOf e' ∧
                  (∀ jj u, news[jj]? = some u → w.cell? (ad.add jj) = some u) ∧ (∀ u ∈ news, u.oneCell' = true) ∧
                  ∀ ii, ii < (flat ys).length → Rd (free Z β st.o) w ((flat ys).getD ii .nilptr) (news.getD ii Go.undef) := by
                have fl := flat_length (es := ys) (k := P.cellsOf e') fun y hy => (hys y hy).1
                have ones : ∀ {vs : Nat → Value}, (∀ ii, ii < (flat ys).length → Rd (free Z β st.o) w ((flat ys).getD ii .nilptr) (vs ii)) → ∀ u ∈ (List.range (ys.length * P.cellsOf e')).map vs, u.oneCell' = true := by
                  intro vs hv u hu
                  obtain ⟨ii, hii, rfl⟩ := List.mem_map.1 hu
                  have hlt : ii < (flat ys).length := by rw [fl]; simpa using hii
                  refine atom_one (hv ii hlt) ?_
                  simp only [List.getD_eq_getElem?_getD, List.getElem?_eq_getElem hlt, Option.getD_some]
                  have hmem := List.getElem_mem hlt
                  obtain ⟨y, hy, hcy⟩ := List.mem_flatMap.1 hmem
                  exact (hys y hy).2 _ hcy
                unfold newsOf at hn
                split at hn
                · rename_i zs hx
                  cases hn
                  have := ev_d h hx
                  generalize a.eval x = v at *
                  cases this with
                  | nil a0 => cases a0 with
                    | none => exact .inl ⟨rfl, rfl⟩
                    | some ad => exact .inr ⟨ad, 0, [], rfl, by simp, by simp, by simp, by simp [flat]⟩
                  | slice vs hk' hcap hc' hr' =>
                    rename_i b off cap kk
                    refine .inr ⟨⟨b, off, none⟩, cap, (List.range (ys.length * P.cellsOf e')).map vs, rfl, by simp, fun jj u hu => ?_, ones hr', fun ii hii => ?_⟩
                    · have hlt : jj < ys.length * P.cellsOf e' := by
                        have := (List.getElem?_eq_some_iff.1 hu).1; simpa using this
                      simp [hlt] at hu
                      subst hu
                      rw [add_eq]; exact (hc' jj (by omega)).2
                    · have hlt : ii < ys.length * P.cellsOf e' := by omega
                      simpa [List.getD_eq_getElem?_getD, hlt] using hr' ii hii
                · rename_i jj hx
                  split at hn
                  · cases hn
                  · split at hn
                    · rename_i e2 k2 zs hjj
                      cases hn
                      rw [ev_sl h hx]
                      have hO2 := h.objs jj _ hjj
                      generalize β jj = v at *
                      cases hO2 with
                      | arr xs2 hk02 hk2 hw2 hr2 =>
                        rcases hw2.2 with ⟨h1, h2⟩ | ⟨g, cap, cur, h1, h2⟩
                        · exact .inl ⟨h1, List.eq_nil_of_length_eq_zero h2⟩
                        · subst h1
                          have hx2l : xs2.length = (flat ys).length := by rw [flat_length hk2, hw2.1]
                          refine .inr ⟨⟨g, 0, none⟩, cap, (List.range (ys.length * P.cellsOf e')).map fun ii => xs2.getD ii Go.undef, rfl, by simp, fun jj u hu => ?_, ones hr2, fun ii hii => ?_⟩
                          · have hlt : jj < ys.length * P.cellsOf e' := by
                              have := (List.getElem?_eq_some_iff.1 hu).1; simpa using this
                            have hu' : xs2.getD jj Go.undef = u := by simpa [hlt] using hu
                            rw [← hu', add_eq, Nat.zero_add]; exact ownsRow_cell hw2 rfl (by omega)
                          · have hlt : ii < ys.length * P.cellsOf e' := by omega
                            simpa [List.getD_eq_getElem?_getD, hlt] using hr2 ii hii
                    · cases hn
                · cases hn
              have fl := flat_length (es := ys) (k := P.cellsOf e') fun y hy => (hys y hy).1
              have fles := flat_length hk
              have hall : ∀ x ∈ es ++ ys, x.cells.length = P.cellsOf e' := fun x hx => by
                rcases List.mem_append.1 hx with h1 | h1
                · exact hk x h1
                · exact (hys x h1).1
              rcases news with ⟨hxv, rfl⟩ | ⟨ad, cp, news, hxv, hnl, hnc, hn1, hnr⟩
              · -- nothing is appended
                refine Done.value (v := β j) (w' := w) ?_ ?_
                · have := run_append_owned_none (P := P) w 0 t' o.type e' i (P.cellsOf e') hu hi (β j) es.length xs hw
                  simp [execOp, hop, resolve, invoke, builtin, hsv, hxv, this]
                · rw [hd, List.append_nil]
                  have hsim := h.redo (o := .arr e' (P.cellsOf e') es) hj (w' := w) ⟨rfl, rfl, rfl, Nat.le_refl _, fun _ _ _ => rfl⟩ (β j) (fun g hg => .inr hg)
                    (fun S' hm => .arr xs hk0 hk hw fun ii hii => hm _ _ (hr ii hii))
                  exact ⟨_, hsim.put (dst := some d) (fun _ e => by cases e; exact hN) (by
                    have := Rel.sl (β := upd β j (β j)) (S := free Z (upd β j (β j)) (ins j (.arr e' (P.cellsOf e') es) (wipeO j st.o))) (w := w) j
                    rwa [upd_eq] at this)⟩
              · obtain ⟨v', w', hrun, hown, hgrow, hnil⟩ := run_append_own (P := P) w 0 t' o.type e' i zv (P.cellsOf e') (P.bytesOf e') hu hi hiz hisz hiby hzsz hk0 (β j) es.length xs hw
                  ad ys.length cp news hnl hnc hn1 hlen hbytes (Nat.zero_le _)
                refine Done.value (v := v') (w' := w') ?_ ?_
                · simp [execOp, hop, resolve, invoke, builtin, hsv, hxv, hrun]
                · have hsim := h.redo (o := .arr e' (P.cellsOf e') (es ++ ys)) hj hgrow v' (fun g hg => by
                      rcases hw.2 with ⟨h1, h2⟩ | ⟨g0, cap, cur, h1, _, hg0, hnc0, _⟩
                      · by_cases hm : ys.length = 0
                        · rw [hnil.2 ⟨h1, hm⟩] at hg; cases hg
                        · have e1 := run_append_nil (P := P) w t' o.type e' i zv hu hi hiz ad ys.length cp news (by rw [hisz]; exact hnl) hnc (by omega) (by unfold maxLen at hlen; omega)
                            (by rw [hiby]; have : ys.length * P.bytesOf e' ≤ (es.length + ys.length) * P.bytesOf e' := Nat.mul_le_mul_right _ (by omega); omega)
                          rw [h1] at hrun
                          have e2 := hrun.symm.trans e1
                          injection e2 with e3 e4
                          rw [e3] at hg; cases hg; exact .inl (Nat.le_refl _)
                      · by_cases hroom : es.length + ys.length ≤ cap
                        · have hfit : es.length * i.size + news.length ≤ cur.size := by
                            rw [hnl, hisz, ‹_ ∧ cur.size = _ ∧ _›.2.1, ← Nat.add_mul]; exact Nat.mul_le_mul_right _ hroom
                          have e1 := run_append_room (P := P) w t' o.type e' i hu hi g0 es.length cap cur hg0 ad ys.length cp news (by rw [hisz]; exact hnl) hnc hn1 hroom hfit
                          rw [h1] at hrun
                          have e2 := hrun.symm.trans e1
                          injection e2 with e3 e4
                          rw [e3] at hg; rw [h1]; exact .inr hg
                        · have e1 := run_append_grow (P := P) w t' o.type e' i zv hu hi hiz ⟨g0, 0, none⟩ es.length cap xs (by rw [hisz]; exact hw.1) (hw.cells (g := g0) (by rw [h1]; rfl)) ad ys.length cp news
                            (by rw [hisz]; exact hnl) hnc (by omega) (by unfold maxLen at hlen; omega) (by rw [hiby]; exact growslice_fits (by omega) hbytes)
                          rw [h1] at hrun
                          have e2 := hrun.symm.trans e1
                          injection e2 with e3 e4
                          rw [e3] at hg; cases hg; exact .inl (Nat.le_refl _)) (fun S' hm => by
                      refine .arr (xs ++ news) hk0 hall (by simpa using hown) fun ii hii => ?_
                      have hfa : flat (es ++ ys) = flat es ++ flat ys := by simp [flat]
                      rw [hfa] at hii ⊢
                      have hxl : xs.length = (flat es).length := by rw [fles, hw.1]
                      by_cases hlt : ii < (flat es).length
                      · have := hm _ _ (hr ii hlt)
                        simp only [List.getD_eq_getElem?_getD] at this ⊢
                        rwa [List.getElem?_append_left hlt, List.getElem?_append_left (by omega)]
                      · have := hm _ _ (hnr (ii - (flat es).length) (by simp at hii; omega))
                        simp only [List.getD_eq_getElem?_getD] at this ⊢
                        rwa [List.getElem?_append_right (by omega), List.getElem?_append_right (by omega), hxl])
                  rw [hd]
                  exact ⟨_, hsim.put (dst := some d) (fun _ e => by cases e; exact hN) (by
                    have := Rel.sl (β := upd β j v') (S := free Z (upd β j v') (ins j (.arr e' (P.cellsOf e') (es ++ ys)) (wipeO j st.o))) (w := w') j
                    rwa [upd_eq] at this)⟩
          · cases hq
        · cases hq
  · cases hq

theorem run_newVar' (t : TypeId) (v : Value) (w : World) : (newVar t v).run P w = .ok ⟨w.heap.size, 0, none⟩ (w.alloc (.cells v.cells t)) := by
  simp [newVar, newRow]

theorem cut_spec {t y lo hi c r v} {S} (k1 k2 : IntKind) (hr : Rd S w y v) (hq : cutV P t y lo hi = some (c, r)) (hc : c) :
    ∃ u, (Instr.sliceAt t v (lo.map (.int k1)) (hi.map (.int k2)) none).run P w = .ok u w ∧ Rd S w r u := by
  unfold cutV at hq
  split at hq
  · rename_i es
    split at hq
    · rename_i e he
      have hu := elemSl_spec he
      cases hq
      obtain ⟨h0, h1, h2, hk, hk0⟩ := hc
      have bd : ∀ (kk : IntKind) (x : Option Int) (dflt : Nat) (y : Nat) (code : BoundsCode), 0 ≤ x.getD dflt → x.getD dflt ≤ y →
          (match x.map (Value.int kk) with
            | some v => Instr.sliceBound v y code
            | none => pure dflt : Sem Nat).run P w = .ok (x.getD dflt).toNat w := by
        intro kk x dflt y code e1 e2
        cases x with
        | none => simp
        | some n => 
          simp only [Option.getD_some] at e1 e2
          simp [Instr.sliceBound, asIntOf, e1, e2]
      generalize hl : lo.getD 0 = l at *
      generalize hh : hi.getD (es.length : Int) = hh' at *
      have key : ∀ (a0 : Option Addr) (cap : Nat), es.length ≤ cap →
          (Instr.sliceAt t (.slice a0 es.length cap) (lo.map (.int k1)) (hi.map (.int k2)) none).run P w =
            .ok (.slice (if cap = l.toNat then a0 else a0.map (·.add (l.toNat * P.cellsOf e))) (hh'.toNat - l.toNat) (cap - l.toNat)) w := by
        intro a0 cap hcap
        have b1 := bd k2 hi es.length cap .sliceAcap (by rw [hh]; omega) (by rw [hh]; omega)
        have b2 := bd k1 lo 0 hh'.toNat .sliceB (by rw [show ((0 : Nat) : Int) = 0 from rfl, hl]; omega) (by rw [show ((0 : Nat) : Int) = 0 from rfl, hl]; omega)
        rw [hh] at b1
        rw [show ((0 : Nat) : Int) = 0 from rfl, hl] at b2
        have b3 : (Instr.sliceBounds true es.length cap (lo.map (.int k1)) (hi.map (.int k2)) none).run P w = .ok (l.toNat, hh'.toNat, cap) w := by
          cases hi <;> cases lo <;> simp only [Option.map_some, Option.map_none, Instr.sliceBounds, Sem.run_bind, Sem.run_pure, Result.andThen_ok] at b1 b2 ⊢ <;>
            simp_all
        simp only [Instr.sliceAt, Sem.run_bind, run_underlying hu, Result.andThen_ok, Instr.slice, b3, run_sizeOf_pos hk0, Sem.run_pure]
      cases hr with
      | nil a0 =>
        have e1 : l = 0 := by simp at h2; omega
        have e2 : hh' = 0 := by simp at h2; omega
        subst e1; subst e2
        have := key a0 0 (by simp)
        refine ⟨_, this, ?_⟩
        simpa using Rd.nil a0
      | slice vs hk' hcap hc' hr' =>
        rename_i b off cap k
        have hlen : ((es.drop l.toNat).take (hh'.toNat - l.toNat)).length = hh'.toNat - l.toNat := by simp; omega
        have := key (some ⟨b, off, none⟩) cap hcap
        refine ⟨_, this, ?_⟩
        have hkk : ∀ x ∈ (es.drop l.toNat).take (hh'.toNat - l.toNat), x.cells.length = P.cellsOf e := fun x hx => hk x (List.mem_of_mem_drop (List.mem_of_mem_take hx))
        by_cases hemp : hh'.toNat - l.toNat = 0
        · have he0 : (es.drop l.toNat).take (hh'.toNat - l.toNat) = [] := by rw [hemp]; simp
          rw [he0, hemp]
          split
          · exact Rd.slice (es := []) (cap := cap - l.toNat) (k := 0) (fun _ => Go.undef) (by simp) (by simp) (by simp [flat]) (by simp [flat])
          · simp only [Option.map_some, add_eq]
            exact Rd.slice (es := []) (cap := cap - l.toNat) (k := 0) (fun _ => Go.undef) (by simp) (by simp) (by simp [flat]) (by simp [flat])
        · have hne : ¬ (cap = l.toNat) := by omega
          rw [if_neg hne]
          simp only [Option.map_some, add_eq]
          have fl := flat_length hkk
          have fle := flat_length hk
          rw [hlen] at fl
          have hsub : ∀ ii, ii < (flat ((es.drop l.toNat).take (hh'.toNat - l.toNat))).length → l.toNat * P.cellsOf e + ii < (flat es).length ∧
              (flat ((es.drop l.toNat).take (hh'.toNat - l.toNat))).getD ii .nilptr = (flat es).getD (l.toNat * P.cellsOf e + ii) .nilptr := by
            intro ii hii
            rw [fl] at hii
            have hq1 : ii / P.cellsOf e < hh'.toNat - l.toNat := Nat.div_lt_of_lt_mul (by rw [Nat.mul_comm]; exact hii)
            have hm := Nat.mod_lt ii hk0
            have hdm := Nat.div_add_mod ii (P.cellsOf e)
            have e1 : ii = (ii / P.cellsOf e) * P.cellsOf e + ii % P.cellsOf e := by rw [Nat.mul_comm]; omega
            have e2 : l.toNat * P.cellsOf e + ii = (l.toNat + ii / P.cellsOf e) * P.cellsOf e + ii % P.cellsOf e := by rw [Nat.add_mul]; omega
            have hlt : (l.toNat + ii / P.cellsOf e) < es.length := by omega
            refine ⟨?_, ?_⟩
            · rw [fle, e2]
              have : (l.toNat + ii / P.cellsOf e + 1) * P.cellsOf e ≤ es.length * P.cellsOf e := Nat.mul_le_mul_right _ (by omega)
              rw [Nat.add_mul (l.toNat + ii / P.cellsOf e), Nat.one_mul] at this
              omega
            · rw [e2, flat_getD hk hlt hm]
              conv => lhs; rw [e1]
              rw [flat_getD hkk (by omega) hm]
              congr 1
              simp only [el, List.getD_eq_getElem?_getD, List.getElem?_take, List.getElem?_drop]
              rw [if_pos hq1]
          have := Rd.slice (S := S) (w := w) (es := (es.drop l.toNat).take (hh'.toNat - l.toNat)) (b := b) (off := off + l.toNat * P.cellsOf e) (cap := cap - l.toNat) (k := P.cellsOf e)
            (fun ii => vs (l.toNat * P.cellsOf e + ii)) hkk (by omega) (fun ii hii => by
              have := hc' _ (hsub ii hii).1
              rw [Nat.add_assoc]; exact this) (fun ii hii => by
              rw [(hsub ii hii).2]; exact hr' _ (hsub ii hii).1)
          rwa [hlen] at this
    · cases hq
  · rename_i s
    cases hq
    obtain ⟨h0, h1, h2, hu⟩ := hc
    have hu := isStrT_spec hu
    cases hr
    generalize hl : lo.getD 0 = l at *
    generalize hh : hi.getD (s.size : Int) = hh' at *
    refine ⟨.string (s.extract l.toNat hh'.toNat), ?_, .str _⟩
    have b3 : (Instr.sliceBounds false s.size s.size (lo.map (.int k1)) (hi.map (.int k2)) none).run P w = .ok (l.toNat, hh'.toNat, s.size) w := by
      cases hi <;> cases lo <;> simp only [Option.getD_some, Option.getD_none] at hl hh <;> subst hl <;> subst hh <;>
        simp [Instr.sliceBounds, Instr.sliceBound, asIntOf] <;> (try simp_all) <;> (try omega) <;> (try rw [if_pos (by omega), if_pos (by omega)])
    simp only [Instr.sliceAt, Sem.run_bind, run_underlying hu, Result.andThen_ok, Instr.slice, Option.isSome_none]
    simp [b3]
  · cases hq

theorem bound_spec (h : SimB Z β N B M w0 st a w) {x b} (hq : bound x st = some b) : ∃ k, x.map a.eval = b.map (.int k) := by
  unfold bound at hq
  split at hq
  · cases hq; exact ⟨.i64, rfl⟩
  · rename_i y
    split at hq
    · rename_i k n hy
      cases hq
      exact ⟨k, by simp [ev_int h hy]⟩
    · cases hq

theorem sliceBound_kind (k : IntKind) (n : Int) (y : Nat) (code : BoundsCode) (h : 0 ≤ n ∧ n ≤ y) : (Instr.sliceBound (.int k n) y code).run P w = (Instr.sliceBound (.int .i64 n) y code).run P w := by
  simp [Instr.sliceBound, asIntOf, h]

theorem store_row {e size v n xs} (hw : w.ownsRow 0 e size v n xs) {g off : Nat} {us : List Value} (hv : v.ownBlock = some g) (hle : off + us.length ≤ xs.length) (h1 : ∀ u ∈ us, u.oneCell' = true) :
    ∃ w', (storeCells ⟨g, off, none⟩ us).run P w = .ok () w' ∧ w'.ownsRow 0 e size v n (setL xs off us) ∧ w.grownBy w' (some g) := by
  rcases hw.2 with ⟨hn, _⟩ | ⟨g', cap, cur, rfl, _, hg, hnc, hcm, hcs, htake⟩
  · rw [hn] at hv; cases hv
  · cases hv
    have hxl : xs.length ≤ cur.size := by rw [← htake]; simp; omega
    have hr := run_storeCells_at P g' off e us 0 cur w hg (by omega) h1
    refine ⟨_, hr, ⟨by rw [setL_length hle]; exact hw.1, .inr ⟨g', cap, _, rfl, Nat.zero_le _, setRow_heap w g' cur _ e _ hg, hnc, hcm, ?_, ?_⟩⟩,
      ⟨rfl, rfl, rfl, by simp, fun k _ hk => setRow_other w g' k _ (fun e => hk (by rw [e]))⟩⟩
    · simp only [Nat.add_zero, List.size_toArray, List.length_append, List.length_take, List.length_drop, Array.length_toList]; omega
    · simp only [Nat.add_zero]
      rw [← htake]
      apply List.ext_getElem?
      intro i
      have hns : n * size = xs.length := hw.1.symm
      simp only [setL, List.getElem?_take, List.getElem?_append, List.length_append, List.length_take, List.getElem?_drop, Array.length_toList]
      have e1 : min off cur.size = off := by omega
      have e2 : min off (min (n * size) cur.size) = off := by omega
      rw [e1, e2]
      by_cases h3 : i < n * size
      · rw [if_pos h3]
        by_cases h4 : i < off
        · simp [h4, show i < off + us.length by omega, h3]
        · by_cases h5 : i < off + us.length
          · simp [h4, h5]
          · simp [h4, h5, show off + us.length + (i - (off + us.length)) < n * size by omega]
      · rw [if_neg h3]
        simp [show ¬ i < off by omega, show ¬ i < off + us.length by omega, show ¬ (off + us.length + (i - (off + us.length)) < n * size) by omega]

theorem run_storeAt' {t : TypeId} {g off : Nat} {v : Value} {w' : World} (hs : v.cells.size = P.cellsOf t) (h0 : 0 < P.cellsOf t) (hr : (storeCells ⟨g, off, none⟩ v.cells.toList).run P w = .ok () w') :
    (Instr.storeAt t (.pointer (some ⟨g, off, none⟩)) v).run P w = .ok () w' := by
  simp [Instr.storeAt, Instr.sureAddr, storeVar, run_sizeOf_pos h0, hs, hr]

theorem store_done (h : SimB Z β N B M w0 st a w) {o : Oper} {c st' t ad x} (hd : o.dst = none) (hop : o.op = .store t ad x) (hq : storeA P st t ad x = some (c, st')) (hc : c) : Done P Z N B M w0 o a w st' := by
  have fin : ∀ {st2 w' β'}, (Instr.storeAt t (a.eval ad) (a.eval x)).run P w = .ok () w' → SimB Z β' N B M w0 st2 a w' → Done P Z N B M w0 o a w st2 := by
    intro st2 w' β' h1 h2
    refine ⟨.skip, w', ?_, .inr ⟨rfl, β', ?_⟩⟩
    · simp [execOp, hop, h1]
    · rw [hd]; exact h2
  unfold storeA at hq
  split at hq
  · rename_i j off had
    split at hq
    · rename_i e cells av hj hx
      split at hq
      · rename_i cs hb
        cases hq
        obtain ⟨hcl, h0, hle, hat, hlive⟩ := hc
        have hrel := ev_spec h hx
        have hadr := ev_spec h had
        have hO := h.objs j _ hj
        obtain ⟨e1, e2, e3⟩ := boxCells_spec (cs := cs) hrel hb (by
          rintro i rfl
          obtain ⟨oi, hoi⟩ := Option.isSome_iff_exists.1 hlive
          exact sl_slice h hoi)
        generalize had' : a.eval ad = adv at *
        cases hadr with
        | p hβ =>
          rename_i b n cp
          have hslv : (β j).ownBlock = some b := by rw [hβ]; rfl
          generalize hvj : β j = vj at *
          cases hO with
          | box xs hne hw hr =>
            have hxl : xs.length = cells.length := by simpa using hw.1
            obtain ⟨w', h1, h2, h3⟩ := store_row (P := P) hw hslv (off := off) (us := (a.eval x).cells.toList) (by omega) (e3 hat)
            refine fin (run_storeAt' (by simpa [hcl] using e1) h0 h1) (h.mod hj (by rw [hvj, hslv]; exact h3) fun S' m1 m2 => ?_)
            rw [hvj]
            refine .box (setL xs off (a.eval x).cells.toList) hne (by rw [setL_length hle]; exact h2) fun i hi => ?_
            rw [setL_length hle] at hi
            rw [setL_getD hle, setL_getD (by omega), e1]
            split
            · exact m1 _ _ (e2 _ (by omega))
            · exact m1 _ _ (hr i hi)
      · cases hq
    · cases hq
  · rename_i j k i fo had
    split at hq
    · rename_i y st1 hy
      obtain ⟨h1, hyr⟩ := dOf_spec h hy
      have place : ∀ {es : List D} {xs : List Value} {k' : Nat} {S : Nat → Prop}, (∀ x ∈ es, x.cells.length = k') → i < es.length → xs.length = es.length * k' → k = k' →
          (∀ ii, ii < (flat es).length → Rd S w ((flat es).getD ii .nilptr) (xs.getD ii Go.undef)) →
          y.ok k → ∀ (S' : Nat → Prop) (w' : World), (∀ x u, Rd S w x u → Rd S' w' x u) → Rd S w y (a.eval x) →
          (∀ ii, ii < (flat (es.set i y)).length → Rd S' w' ((flat (es.set i y)).getD ii .nilptr) ((setL xs (i * k + 0) (a.eval x).cells.toList).getD ii Go.undef)) := by
        intro es xs k' S hk hi hxl hkk hr hok S' w' m1 hyr2 ii hii
        subst hkk
        obtain ⟨c1, c2⟩ := rd_cells hyr2
        have hle : i * k + k ≤ es.length * k := by
          have : (i + 1) * k ≤ es.length * k := Nat.mul_le_mul_right k (by omega)
          rwa [Nat.add_mul, Nat.one_mul] at this
        have hyk := hok.1
        have fl := flat_length hk
        rw [flat_set hk hi hyk, setL_length (by omega)] at hii
        rw [flat_set hk hi hyk, setL_getD (by omega), setL_getD (by omega), Nat.add_zero, c1]
        split
        · exact m1 _ _ (c2 _ (by omega))
        · exact m1 _ _ (hr ii hii)
      split at hq
      · rename_i e k' es j' k2 i' fo' hj had2
        have hO := h1.objs j _ hj
        have hadr := ev_spec h1 had2
        split at hq
        · rename_i hagg
          cases hq
          obtain ⟨rfl, rfl, rfl, rfl, rfl, rfl, hkt, hi, hok⟩ := hc
          generalize had' : a.eval ad = adv at *
          cases hadr with
          | pe hβ =>
            rename_i b n cp
            have hslv : (β j').ownBlock = some b := by rw [hβ]; rfl
            generalize hvj : β j' = vj at *
            cases hO with
            | arr xs hk0 hk hw hr =>
              have hle : i' * k2 + k2 ≤ es.length * k2 := by
                have : (i' + 1) * k2 ≤ es.length * k2 := Nat.mul_le_mul_right k2 (by omega)
                rwa [Nat.add_mul, Nat.one_mul] at this
              have hxl := hw.1
              have hc1 := (rd_cells hyr).1
              have hyk := hok.1
              obtain ⟨w', r1, r2, r3⟩ := store_row (P := P) hw hslv (off := i' * k2 + 0) (us := (a.eval x).cells.toList) (by omega) (ok_ones hyr hok)
              refine fin (run_storeAt' (by simpa [hyk, hkt] using hc1) (by omega) r1) (h1.mod hj (by rw [hvj, hslv]; exact r3) fun S' m1 m2 => ?_)
              rw [hvj]
              refine .arr (setL xs (i' * k2 + 0) (a.eval x).cells.toList) hk0 (fun z hz => ?_) (by simpa using r2) (place hk hi hxl rfl hr hok S' w' m2 hyr)
              rcases List.mem_or_eq_of_mem_set hz with hz | rfl
              · exact hk z hz
              · exact hyk
        · rename_i hagg
          cases hq
          obtain ⟨rfl, rfl, rfl, rfl, rfl, hyt, ht0, hfo, hi, hat⟩ := hc
          generalize had' : a.eval ad = adv at *
          cases hadr with
          | pe hβ =>
            rename_i b n cp
            have hslv : (β j').ownBlock = some b := by rw [hβ]; rfl
            generalize hvj : β j' = vj at *
            cases hO with
            | arr xs hk0 hk hw hr =>
              have hle : i' * k2 + k2 ≤ es.length * k2 := by
                have : (i' + 1) * k2 ≤ es.length * k2 := Nat.mul_le_mul_right k2 (by omega)
                rwa [Nat.add_mul, Nat.one_mul] at this
              have hxl := hw.1
              obtain ⟨c1, c2⟩ := rd_cells hyr
              have hcl : (el es i').cells.length = k2 := hk _ (el_mem hi)
              have hnew : (setL (el es i').cells fo' y.cells).length = k2 := by rw [setL_length (by omega)]; exact hcl
              obtain ⟨w', r1, r2, r3⟩ := store_row (P := P) hw hslv (off := i' * k2 + fo') (us := (a.eval x).cells.toList) (by omega) (ok_ones hyr ⟨rfl, hat⟩)
              refine fin (run_storeAt' (by simpa [hyt] using c1) ht0 r1) (h1.mod hj (by rw [hvj, hslv]; exact r3) fun S' m1 m2 => ?_)
              rw [hvj]
              have hks : ∀ z ∈ es.set i' (.agg (setL (el es i').cells fo' y.cells)), z.cells.length = k2 := fun z hz => by
                rcases List.mem_or_eq_of_mem_set hz with hz | rfl
                · exact hk z hz
                · exact hnew
              have fl := flat_length hk
              refine .arr (setL xs (i' * k2 + fo') (a.eval x).cells.toList) hk0 hks (by simpa using r2) fun ii hii => ?_
              have hfs : flat (es.set i' (.agg (setL (el es i').cells fo' y.cells))) = setL (flat es) (i' * k2) (setL (el es i').cells fo' y.cells) :=
                flat_set (y := .agg (setL (el es i').cells fo' y.cells)) hk hi hnew
              rw [hfs, setL_length (by omega)] at hii
              rw [hfs, setL_getD (ds := flat es) (by omega), setL_getD (ds := xs) (by omega), c1, hnew]
              have eo := flat_getD hk (i := i') (j := ii - i' * k2) hi
              by_cases g1 : i' * k2 ≤ ii ∧ ii < i' * k2 + k2
              · rw [if_pos g1, setL_getD (by omega)]
                by_cases g2 : i' * k2 + fo' ≤ ii ∧ ii < i' * k2 + fo' + y.cells.length
                · rw [if_pos g2, if_pos (by omega)]
                  have : ii - i' * k2 - fo' = ii - (i' * k2 + fo') := by omega
                  rw [this]
                  exact m2 _ _ (c2 _ (by omega))
                · rw [if_neg g2, if_neg (by omega), ← eo (by omega)]
                  have : i' * k2 + (ii - i' * k2) = ii := by omega
                  rw [this]
                  exact m2 _ _ (hr ii hii)
              · rw [if_neg g1, if_neg (by omega)]
                exact m2 _ _ (hr ii hii)
      · rename_i e k' es j' k2 i' fo' hj had2
        have hO := h1.objs j _ hj
        have hadr := ev_spec h1 had2
        split at hq
        · rename_i hagg
          cases hq
          obtain ⟨rfl, rfl, rfl, rfl, rfl, rfl, hkt, hi, hok⟩ := hc
          generalize had' : a.eval ad = adv at *
          cases hadr with
          | pe hβ =>
            rename_i b n cp
            have hslv : (β j').ownBlock = some b := by rw [hβ]; rfl
            generalize hvj : β j' = vj at *
            cases hO with
            | arv xs hne hk0 hk hw hr =>
              have hle : i' * k2 + k2 ≤ es.length * k2 := by
                have : (i' + 1) * k2 ≤ es.length * k2 := Nat.mul_le_mul_right k2 (by omega)
                rwa [Nat.add_mul, Nat.one_mul] at this
              have fl := flat_length hk
              have hxl : xs.length = es.length * k2 := by have := hw.1; omega
              have hc1 := (rd_cells hyr).1
              have hyk := hok.1
              obtain ⟨w', r1, r2, r3⟩ := store_row (P := P) hw hslv (off := i' * k2 + 0) (us := (a.eval x).cells.toList) (by omega) (ok_ones hyr hok)
              refine fin (run_storeAt' (by simpa [hyk, hkt] using hc1) (by omega) r1) (h1.mod hj (by rw [hvj, hslv]; exact r3) fun S' m1 m2 => ?_)
              rw [hvj]
              have hks : ∀ z ∈ es.set i' y, z.cells.length = k2 := fun z hz => by
                rcases List.mem_or_eq_of_mem_set hz with hz | rfl
                · exact hk z hz
                · exact hyk
              refine .arv (setL xs (i' * k2 + 0) (a.eval x).cells.toList) hne hk0 hks (by rw [flat_length hks]; simpa [fl] using r2) (place hk hi hxl rfl hr hok S' w' m2 hyr)
        · cases hq
      · cases hq
    · cases hq
  · cases hq

theorem lv_spec (h : SimB Z β N B M w0 st a w) {o : Oper} {c st'} (hN : ∀ d, o.dst = some d → d < N) (hq : lv P st o.dst o.op o.type = some (c, st')) (hc : c) : Done P Z N B M w0 o a w st' := by
  obtain ⟨dst, op, type, pos, after, guard⟩ := o
  simp only at hq hN
  unfold lv at hq
  split at hq
  · -- box
    rename_i t x d
    split at hq
    · rename_i av hx
      split at hq
      · cases hq
      · rename_i hh
        obtain ⟨⟨c', ob⟩, hb, he⟩ := Option.map_eq_some_iff.1 hq
        cases he
        refine box_done h rfl (hN d rfl) (ev_spec h hx) ?_ (by simpa using hh) hb hc.1 ?_
        · rintro j rfl
          obtain ⟨oi, hoi⟩ := Option.isSome_iff_exists.1 hc.2
          exact sl_slice h hoi
        · simp [execOp, Instr.box, run_newVar']
    · cases hq
  · -- alloc
    rename_i t d
    split at hq
    · rename_i z hz
      obtain ⟨⟨c', ob⟩, hb, he⟩ := Option.map_eq_some_iff.1 hq
      cases he
      obtain ⟨i, zv, hi, hiz, hzr⟩ := zeroD_spec hz
      refine box_done h rfl (hN d rfl) (.d (hzr _ w)) (by rintro j h; cases h) rfl hb hc ?_
      simp [execOp, Instr.alloc, zeroValue, typeInfo, hi, hiz, run_newVar']
    · cases hq
  · -- build
    rename_i t ps d
    split at hq
    · rename_i ys st1 hys
      split at hq
      · rename_i cs hz
        split at hq
        · rename_i r hf
          cases hq
          obtain ⟨h1, h2, h3, h4⟩ := dsOf_spec h hys
          have hlen : ys.length = ps.toList.length := by have := congrArg List.length h3; simpa using this
          obtain ⟨v, h5, h6⟩ := run_build' (P := P) (w := w) (t := t) (us := ps.toList.map fun p => (p.1, a.eval p.2)) hz hf hc (by rw [h3, List.map_map]; rfl) (fun i hi => by
            rw [getD_map_pair _ _ _ (by omega)]; exact h4 i hi)
          have hps : (ps.map fun (i, x) => (i, a.eval x)) = (ps.toList.map fun p => (p.1, a.eval p.2)).toArray := by cases ps; simp
          refine Done.value (v := v) (w' := w) ?_ ⟨_, h1.put (dst := some d) (fun _ e => by cases e; exact hN d rfl) (.d h6)⟩
          simp only [execOp, hps, Sem.run_bind, h5, Result.andThen_ok, Sem.run_pure]
        · cases hq
      · cases hq
    · cases hq
  · -- buildSlice
    rename_i t len ps d
    split at hq
    · rename_i ys st1 hys
      split at hq
      · rename_i e he
        split at hq
        · rename_i z hz
          cases hq
          obtain ⟨hk0, hzk, hsz, hyk⟩ := hc
          obtain ⟨h1, h2, h3, h4⟩ := dsOf_spec h hys
          have hlen : ys.length = ps.toList.length := by have := congrArg List.length h3; simpa using this
          obtain ⟨i, zv, hi, hiz, hzr⟩ := zeroD_spec hz
          have hu := elemSl_spec he
          obtain ⟨f1, f2, f3⟩ := setEs_fill (k := P.cellsOf e) (n := len) (ys := ys) (es := List.replicate len z) (by simp) (fun x hx => by rw [List.eq_of_mem_replicate hx]; exact hzk) hyk
          have hzsz : zv.cells.size = P.cellsOf e := by
            have := (rd_cells (hzr (fun _ => True) w)).1
            simpa [hzk] using this
          have hzcells : RdL (free Z β st1.o) w (flat (List.replicate len z)) ((Array.range (len * P.cellsOf e)).map fun j => zv.cells[j % zv.cells.size]!).toList := by
            have fl := flat_length (es := List.replicate len z) (k := P.cellsOf e) (fun x hx => by rw [List.eq_of_mem_replicate hx]; exact hzk)
            rw [List.length_replicate] at fl
            refine ⟨by simp [fl], fun ii hii => ?_⟩
            rw [fl] at hii
            have hm := Nat.mod_lt ii hk0
            have hdiv : ii / P.cellsOf e < len := Nat.div_lt_of_lt_mul (by rw [Nat.mul_comm]; exact hii)
            have e1 : ii = (ii / P.cellsOf e) * P.cellsOf e + ii % P.cellsOf e := by have := Nat.div_add_mod ii (P.cellsOf e); rw [Nat.mul_comm] at this; omega
            have hl : (flat (List.replicate len z)).getD ii .nilptr = z.cells.getD (ii % P.cellsOf e) .nilptr := by
              conv => lhs; rw [e1]
              rw [flat_getD (k := P.cellsOf e) (fun x hx => by rw [List.eq_of_mem_replicate hx]; exact hzk) (by simpa using hdiv) hm]
              congr 2
              simp [el, List.getD_eq_getElem?_getD, hdiv]
            rw [hl]
            have := (rd_cells (hzr (free Z β st1.o) w)).2 (ii % P.cellsOf e) (by omega)
            have hms : ii % P.cellsOf e < zv.cells.size := by omega
            have e2 : zv.cells[ii % P.cellsOf e]! = zv.cells.toList.getD (ii % P.cellsOf e) Go.undef := by
              rw [getElem!_pos zv.cells _ hms]; simp [List.getD_eq_getElem?_getD, hms]
            have e3 : (((Array.range (len * P.cellsOf e)).map fun j => zv.cells[j % zv.cells.size]!).toList).getD ii Go.undef = zv.cells[ii % P.cellsOf e]! := by
              simp [List.getD_eq_getElem?_getD, hii, hzsz]
            rw [e3, e2]; exact this
          obtain ⟨rs, h5, h6⟩ := fill_spec (S := free Z β st1.o) (w := w) (us := ps.toList.map fun p => (p.1, a.eval p.2)) f3 (by rw [h3, List.map_map]; rfl) (fun i hi => by
            rw [getD_map_pair _ _ _ (by omega)]; exact h4 i hi) hzcells
          have fls := flat_length f2
          have hrsz : rs.size = len * P.cellsOf e := by have := h6.1; rw [fls, f1] at this; simpa using this
          have hps : (ps.map fun (i, x) => (i, a.eval x)) = (ps.toList.map fun p => (p.1, a.eval p.2)).toArray := by cases ps; simp
          have hml : len ≤ maxLen := by
            have : len * 1 ≤ len * P.cellsOf e := Nat.mul_le_mul_left _ hk0
            unfold maxLen; omega
          refine Done.value (v := .slice (some ⟨w.heap.size, 0, none⟩) len len) (w' := w.alloc (.cells rs e)) ?_ ?_
          · have hns : ¬ (len * P.cellsOf e > 2 ^ 24) := by omega
            by_cases h0 : len * P.cellsOf e = 0
            · have hfill : Instr.fill (fun i => some (i * P.cellsOf e, P.cellsOf e)) ((Array.range (len * P.cellsOf e)).map fun j => (#[] : Array Value)[j % 0]!) (ps.toList.map fun p => (p.1, a.eval p.2)) = some rs := by
                rw [← h5]; congr 1; rw [h0]; simp
              simp only [execOp, hps, Instr.buildSlice, Sem.run_bind, run_underlying hu, Result.andThen_ok, run_sizeOf_pos hk0, hns, if_false, h0, if_true, Sem.run_pure]
              rw [h0] at hfill
              simp at hfill
              simp [hfill, newRow]
            · simp only [execOp, hps, Instr.buildSlice, Sem.run_bind, run_underlying hu, Result.andThen_ok, run_sizeOf_pos hk0, hns, if_false, h0, Sem.run_pure, zeroValue, typeInfo]
              simp [hi, hiz, h5, newRow]
          · have hnl : (setEs (List.replicate len z) ys).length = len := f1
            refine h1.newPut (hd := .slice (some ⟨w.heap.size, 0, none⟩) len len) (hN d rfl) (grownBy_alloc _ _) (by simp [Value.ownBlock]) (fun β' S' m1 m2 => ?_) (fun β' S' e => by rw [← e]; exact .sl _)
            refine .arr rs.toList hk0 f2 (by rw [hnl]; exact World.ownsRow_lit w rs len (Nat.zero_le _) hml hrsz) fun ii hii => m2 _ _ (h6.2 ii hii)
        · cases hq
      · cases hq
    · cases hq
  · -- makeSlice
    rename_i t l c d
    split at hq
    · rename_i kn n km m hl hm
      split at hq
      · rename_i e he
        split at hq
        · rename_i z hz
          cases hq
          obtain ⟨hk0, hzk, h0, h1, h2, h3⟩ := hc
          obtain ⟨i, zv, hi, hiz, hzr⟩ := zeroD_spec hz
          have hu := elemSl_spec he
          have hisz : i.size = P.cellsOf e := by simp [Program.cellsOf, hi]
          have hiby : i.bytes = P.bytesOf e := by simp [Program.bytesOf, hi]
          have hzsz : zv.cells.size = P.cellsOf e := by
            have := (rd_cells (hzr (fun _ => True) w)).1
            simpa [hzk] using this
          have hbm : (i.bytes : Int) * m ≤ 281474976710656 := by
            have e1 : (i.bytes : Int) ≤ 65536 := by omega
            have e2 : (i.bytes : Int) * m ≤ 65536 * m := Int.mul_le_mul_of_nonneg_right e1 (by omega)
            omega
          have hr := run_make (P := P) w t e i zv hu hi hiz kn km n m h0 h1 hbm (by omega)
          refine Done.value (v := .slice (some ⟨w.heap.size, 0, none⟩) n.toNat m.toNat) (w' := w.alloc (.cells (madeCells zv.cells (m.toNat * i.size)) e)) ?_ ?_
          · simp [execOp, ev_int h hl, ev_int h hm, hr]
          · refine h.newPut (hd := .slice (some ⟨w.heap.size, 0, none⟩) n.toNat m.toNat) (hN d rfl) (grownBy_alloc _ _) (by simp [Value.ownBlock]) (fun β' S' m1 m2 => ?_) (fun β' S' e => by rw [← e]; exact .sl _)
            have hes : ∀ x ∈ List.replicate n.toNat z, x.cells.length = P.cellsOf e := fun x hx => by rw [List.eq_of_mem_replicate hx]; exact hzk
            have fl := flat_length hes
            rw [List.length_replicate] at fl
            have hle : n.toNat * P.cellsOf e ≤ m.toNat * P.cellsOf e := Nat.mul_le_mul_right _ (by omega)
            refine .arr ((madeCells zv.cells (m.toNat * i.size)).toList.take (n.toNat * P.cellsOf e)) hk0 hes ?_ fun ii hii => ?_
            · refine ⟨by rw [List.length_take, Array.length_toList, size_madeCells, hisz, List.length_replicate, Nat.min_eq_left hle], .inr ⟨w.heap.size, m.toNat, _, by simp, Nat.zero_le _, heap_alloc_new w _, by simp; omega, by unfold maxLen; omega, by simp [size_madeCells, hisz], by simp⟩⟩
            · rw [fl] at hii
              have hm' := Nat.mod_lt ii hk0
              have hdiv : ii / P.cellsOf e < n.toNat := Nat.div_lt_of_lt_mul (by rw [Nat.mul_comm]; exact hii)
              have e1 : ii = (ii / P.cellsOf e) * P.cellsOf e + ii % P.cellsOf e := by have := Nat.div_add_mod ii (P.cellsOf e); rw [Nat.mul_comm] at this; omega
              have hl : (flat (List.replicate n.toNat z)).getD ii .nilptr = z.cells.getD (ii % P.cellsOf e) .nilptr := by
                conv => lhs; rw [e1]
                rw [flat_getD (k := P.cellsOf e) hes (by simpa using hdiv) hm']
                congr 2
                simp [el, List.getD_eq_getElem?_getD, hdiv]
              rw [hl]
              have := (rd_cells (hzr S' (w.alloc (.cells (madeCells zv.cells (m.toNat * i.size)) e)))).2 (ii % P.cellsOf e) (by omega)
              have hms : ii % P.cellsOf e < zv.cells.size := by omega
              have e2 : zv.cells[ii % P.cellsOf e]! = zv.cells.toList.getD (ii % P.cellsOf e) Go.undef := by
                rw [getElem!_pos zv.cells _ hms]; simp [List.getD_eq_getElem?_getD, hms]
              have e3 : ((madeCells zv.cells (m.toNat * i.size)).toList.take (n.toNat * P.cellsOf e)).getD ii Go.undef = zv.cells[ii % P.cellsOf e]! := by
                have : ii < m.toNat * P.cellsOf e := by omega
                simp [List.getD_eq_getElem?_getD, hii, madeCells, hisz, this, hzsz]
              rw [e3, e2]; exact this
        · cases hq
      · cases hq
    · cases hq
  · -- slice
    rename_i t x lo hi d
    split at hq
    · rename_i y st1 hy
      split at hq
      · rename_i l hh hl hhi
        obtain ⟨⟨c', r⟩, hr, he⟩ := Option.map_eq_some_iff.1 hq
        cases he
        obtain ⟨h1, h2⟩ := dOf_spec h hy
        obtain ⟨k1, hb1⟩ := bound_spec h1 hl
        obtain ⟨k2, hb2⟩ := bound_spec h1 hhi
        obtain ⟨u, h3, h4⟩ := cut_spec (P := P) k1 k2 h2 hr hc
        refine Done.value (v := u) (w' := w) ?_ ⟨_, h1.put (dst := some d) (fun _ e => by cases e; exact hN d rfl) (.d h4)⟩
        simp only [execOp, Option.map_none, Sem.run_bind]
        rw [hb1, hb2, h3]
        rfl
      · cases hq
    · cases hq
  · exact store_done h rfl rfl hq hc
  · -- append
    rename_i cl d
    split at hq
    · rename_i hcal
      obtain ⟨callee, args, ts⟩ := cl
      simp only at hcal hq
      subst hcal
      exact append_done h rfl (hN d rfl) (by simp) hq hc
    · cases hq
  · cases hq
end
end Abs
