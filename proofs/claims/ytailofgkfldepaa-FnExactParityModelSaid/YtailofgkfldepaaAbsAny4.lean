/- A region that draws its order, in which one row is laid by its length while other operations look and lay nothing that has a name; what follows stands in the text's order. No condition but the region's own check. -/
import Derived.Test.YtailofgkfldepaaAbsAny3
set_option linter.all false
namespace Abs
open Go Go.RowKit

/-- .. and rows that are read as data. -/
def isQ4 (o : Oper) : Bool :=
  isQ o || match o.op with
    | .buildSlice _ _ _ => true
    | _ => false
section
variable {P : Program}
theorem hop_extra4 {st st' : St} {o : Oper} {d : Nat} {K : AV → Prop} (hq : isQ4 o = true) (ho : ∀ j, j ≠ d → lk j st'.o = lk j st.o) (h : ∀ x ∈ o.op.operands, ev st' x = ev st x)
    (hd : ∀ x ∈ o.op.operands, ∀ v, ev st x = some v → v.has d = false) (hh : hopA P st o K) : hopA P st' o K := by
  by_cases h1 : isQ o = true
  · exact hop_extra h1 ho h hd hh
  · obtain ⟨dst, op, ty, pos, after, guard⟩ := o
    cases op <;> simp only [isQ4, isQ, Bool.or_false, Bool.or_true, Bool.false_eq_true, not_true_eq_false] at hq h1
    case buildSlice t len ps =>
      simp only [Op.operands] at h
      unfold hopA at hh ⊢
      have e : hv P st' (.buildSlice t len ps) = hv P st (.buildSlice t len ps) := by
        simp only [hv]
        rw [partsD_alike fun p hp => h p.2 (by simp; exact ⟨p.1, by simpa using hp⟩)]
      simp only [qv] at hh ⊢
      rw [e]
      exact hh
end

section
variable {P : Program} {Z : Nat → Prop} {N B : Nat} {M : Nat → Prop} {w0 : World}
def isMk (o : Oper) : Bool :=
  match o.op with
  | .makeSlice .. => true
  | _ => false
/-- Where the row is laid. -/
def mkAt (l : List Oper) : Nat := l.findIdx isMk
/-- The check: quiet operations and a row's laying, in any order; then the rest in the text's order. -/
def regionOK4 (l : List Oper) : Bool :=
  let n := mkAt l
  regionOK l (n + 1) && Nat.ble (n + 2) l.length &&
  (match l[n]? with
   | some ⟨some d, .makeSlice _ _ _, _, _, _, none⟩ => (l.take n).all fun o => isQ4 o && (o.dst != some d) && o.dst.isSome && !(looks l o).contains d
   | _ => false)
structure Checked4 (l : List Oper) (n d : Nat) (oa : Oper) : Prop where
  hC : Checked' l (n + 1)
  len : n + 2 ≤ l.length
  ha : l[n]? = some oa
  op : ∃ t x y, oa.op = .makeSlice t x y
  dst : oa.dst = some d
  guard : oa.guard = none
  quiet : ∀ k o, k < n → l[k]? = some o → isQ4 o = true ∧ o.dst ≠ some d ∧ d ∉ looks l o
theorem regionOK4_spec {l : List Oper} (h : regionOK4 l = true) : ∃ n d oa, n = mkAt l ∧ Checked4 l n d oa := by
  unfold regionOK4 at h
  simp only [Bool.and_eq_true, Nat.ble_eq] at h
  obtain ⟨⟨h1, h2⟩, h3⟩ := h
  split at h3
  · rename_i d t x y ty pos after hl
    refine ⟨mkAt l, d, _, rfl, regionOK_spec h1, h2, hl, ⟨t, x, y, rfl⟩, rfl, rfl, fun k o hk ho => ?_⟩
    rw [List.all_eq_true] at h3
    have := h3 o (List.mem_of_getElem? (i := k) (by rw [List.getElem?_take, if_pos hk]; exact ho))
    simp only [Bool.and_eq_true, bne_iff_ne, ne_eq, Bool.not_eq_true'] at this
    refine ⟨this.1.1.1, this.1.1.2, fun hm => ?_⟩
    have h4 : (looks l o).contains d = true := by simpa using hm
    rw [h4] at this; exact absurd this.2 (by simp)
  · cases h3

/-- The head and the laying in any order, then the writing. -/
theorem any4 {l : List Oper} {n d : Nat} {oa : Oper} (hX : Checked4 l n d oa) {K : St → Prop} {Q : Exit → Act → World → Prop} (hQ : ∀ st a w, Sim Z N B M w0 st a w → K st → Q .normal a w)
    {st0 : St} {V : Nat → AV} {S : Nat → St} {ob : AO} {x0 : AV} (hS0 : S 0 = st0) (hn0 : noD d st0) (hnn : noD d (S n)) (hY : ∀ k o, (l.take n)[k]? = some o → Yl P N l (S k) o (V k) ∧ S (k + 1) = (S k).put o.dst (V k))
    (hA : ∀ st K, (∀ s ∈ looks l oa, lk s st.s = lk s (S n).s) → (K (newSt d x0 ob st) : Prop) → stepA P N l st oa K) (hK : opsA P N l (l.drop (n + 1)) (newSt d x0 ob (S n)) K) :
    ∀ (fuel : Nat) (listed : Array Bool) (st : St) (a : Act) (w : World), listed.size = l.length → Closed l listed → (∀ t, n + 1 ≤ t → t < l.length → listed.getD t false = false) →
      fuel = (List.range l.length).countP (fun k => !listed.getD k false) → st.o = st0.o → (∀ s, lk s st.s = upto l V st0.s n (fun k => listed.getD k false) s) →
      Sim Z N B M w0 (if listed.getD n false = true then newSt d x0 ob st else st) a w → wpAny P .any l.toArray Q fuel listed a w := by
  have hC := hX.hC
  have hlen := hX.len
  have apart : ∀ k m ok om, k < n → m < n → k ≠ m → l[k]? = some ok → l[m]? = some om → ∀ s, om.dst = some s → ok.dst ≠ some s ∧ (s ∈ looks l ok → if m < k then Dep l k m else Dep l m k) :=
    fun k m ok om hk hm => hC.apart k m ok om (by omega) (by omega)
  have upto_in' : ∀ (L : Nat → Bool) {k o s}, k < n → L k = true → l[k]? = some o → o.dst = some s → upto l V st0.s n L s = some (V k) := by
    intro L k o s hk hL ho hd
    unfold upto
    cases hf : (List.range n).find? fun k => L k && (((l[k]?).bind (·.dst)) == some s) with
    | none =>
      rw [List.find?_eq_none] at hf
      have := hf k (List.mem_range.2 hk)
      simp [hL, ho, hd] at this
    | some m =>
      have h1 := List.find?_some hf
      have h2 := List.mem_range.1 (List.mem_of_find?_eq_some hf)
      simp only [Bool.and_eq_true, beq_iff_eq] at h1
      cases hm : l[m]? with
      | none => rw [hm] at h1; simp at h1
      | some om =>
        rw [hm] at h1
        have hmd : om.dst = some s := by simpa using h1.2
        by_cases e : k = m
        · subst e; rfl
        · exact absurd hd (apart k m o om hk h2 e ho hm s hmd).1
  have hT : ∀ {k o}, k < n → l[k]? = some o → Yl P N l (S k) o (V k) ∧ S (k + 1) = (S k).put o.dst (V k) := fun hk ho => hY _ _ (by rw [List.getElem?_take, if_pos hk]; exact ho)
  -- the text's own states
  have hSk : ∀ k, k ≤ n → (S k).o = st0.o ∧ ∀ s, lk s (S k).s = upto l V st0.s n (fun m => decide (m < k)) s := by
    intro k
    induction k with
    | zero => intro _; rw [hS0]; exact ⟨rfl, fun s => (upto_out V st0.s _ (by simp)).symm⟩
    | succ k ih =>
      intro hk
      obtain ⟨h1, h2⟩ := ih (by omega)
      have hkl : k < l.length := by omega
      obtain ⟨o, ho⟩ : ∃ o, l[k]? = some o := ⟨l[k], by simp [hkl]⟩
      obtain ⟨_, h3⟩ := hT (by omega) ho
      rw [h3]
      refine ⟨by cases hd : o.dst <;> simp [St.put, h1], fun s => ?_⟩
      rw [lk_put]
      split
      · rename_i hd
        exact (upto_in' _ (by omega) (by simp) ho hd).symm
      · rename_i hd
        rw [h2]
        by_cases hw : ∃ m om, m < n ∧ m < k ∧ l[m]? = some om ∧ om.dst = some s
        · obtain ⟨m, om, hmn, hmk, hom, hmd⟩ := hw
          rw [upto_in' _ hmn (by simpa using hmk) hom hmd, upto_in' _ hmn (by simp; omega) hom hmd]
        · rw [upto_out V st0.s _ fun m om hmn hml hom hmd => hw ⟨m, om, hmn, by simpa using hml, hom, hmd⟩,
            upto_out V st0.s _ fun m om hmn hml hom hmd => by
              have hmk : m < k + 1 := by simpa using hml
              by_cases e : m = k
              · subst e; rw [ho] at hom; cases hom; exact hd hmd
              · exact hw ⟨m, om, hmn, by omega, hom, hmd⟩]
  -- no value names d
  have hVd : ∀ k o s, k < n → l[k]? = some o → o.dst = some s → (V k).has d = false := fun k o s hk ho hd =>
    noD_s hnn (by rw [(hSk n (Nat.le_refl _)).2 s]; exact upto_in' _ hk (by simpa using hk) ho hd)
  have hnoS : ∀ {st : St} {L : Nat → Bool}, (∀ s, lk s st.s = upto l V st0.s n L s) → ∀ s v, lk s st.s = some v → v.has d = false := fun {st L} hlk s v hs => by
    rw [hlk] at hs
    by_cases hw : ∃ m om, m < n ∧ L m = true ∧ l[m]? = some om ∧ om.dst = some s
    · obtain ⟨m, om, hmn, hmk, hom, hmd⟩ := hw
      rw [upto_in' _ hmn hmk hom hmd] at hs
      cases hs
      exact hVd m om s hmn hom hmd
    · rw [upto_out V st0.s _ fun m om hmn hml hom hmd => hw ⟨m, om, hmn, hml, hom, hmd⟩] at hs
      exact noD_s hn0 hs
  -- the variable laid beside
  have hEs : ∀ {st : St} {L : Nat → Bool}, (∀ s, lk s st.s = upto l V st0.s n L s) → ∀ i, lk i (newSt d x0 ob st).s = if i = d then some x0 else lk i st.s := fun {st L} hlk i => by
    unfold newSt
    simp only [lk_ins]
    split
    · rfl
    · rw [lk_wipeS_eq]
      cases h : lk i st.s with
      | none => rfl
      | some v => simp only [Option.map_some, hnoS hlk i v h, Bool.false_eq_true, if_false]
  have hEo : ∀ {st : St}, st.o = st0.o → ∀ i, lk i (newSt d x0 ob st).o = if i = d then some ob else lk i st.o := fun {st} ho i => by
    unfold newSt
    simp only [lk_ins]
    rw [ho, hn0.2]
  intro fuel
  induction fuel with
  | zero =>
    intro listed st a w hsz hcl htail hcnt ho hlk hs
    exfalso
    have h1 := htail (n + 1) (Nat.le_refl _) (by omega)
    have := List.countP_eq_zero.1 hcnt.symm (n + 1) (List.mem_range.2 (by omega))
    simp only [h1] at this
    exact this rfl
  | succ fuel ih =>
    intro listed st a w hsz hcl htail hcnt ho hlk hs
    by_cases hallh : ∀ k, k < n + 1 → listed.getD k false = true
    · -- the writing
      have hl : ∀ k, k < l.length → listed.getD k false = decide (k < n + 1) := fun k hk => by
        by_cases h : k < n + 1
        · rw [hallh k h]; simp [h]
        · rw [htail k (by omega) hk]; simp [h]
      have hlen1 : (l.drop (n + 1)).length = fuel + 1 := by
        rw [hcnt, List.length_drop]
        have e1 : (List.range l.length).countP (fun k => !listed.getD k false) = (List.range l.length).countP (fun k => decide (n + 1 ≤ k)) := by
          apply List.countP_congr
          intro k hk
          rw [hl k (List.mem_range.1 hk)]
          simp
        obtain ⟨r, hr⟩ : ∃ r, l.length = (n + 1) + r := ⟨l.length - (n + 1), by omega⟩
        rw [e1, hr, List.range_add, List.countP_append]
        have e2 : (List.range (n + 1)).countP (fun k => decide (n + 1 ≤ k)) = 0 := by
          rw [List.countP_eq_zero]; intro k hk; have := List.mem_range.1 hk; simp; omega
        have e3 : ((List.range r).map (n + 1 + ·)).countP (fun k => decide (n + 1 ≤ k)) = ((List.range r).map (n + 1 + ·)).length := by
          rw [List.countP_eq_length]; intro k hk
          obtain ⟨j, _, rfl⟩ := List.mem_map.1 hk
          simp
        rw [e2, e3, List.length_map, List.length_range]; omega
      rw [← hlen1]
      refine any_tail hC hQ (l.drop (n + 1)) (n + 1) listed (newSt d x0 ob (S n)) a w (Nat.le_refl _) rfl hsz hl ?_ hK
      rw [if_pos (hallh n (by omega))] at hs
      obtain ⟨h1, h2⟩ := hSk n (Nat.le_refl _)
      refine hs.congr2 (fun i => ?_) fun i => ?_
      · rw [hEs h2, hEs hlk, h2, hlk]
        split
        · rfl
        · by_cases hw : ∃ m om, m < n ∧ l[m]? = some om ∧ om.dst = some i
          · obtain ⟨m, om, hmn, hom, hmd⟩ := hw
            rw [upto_in' (fun m => decide (m < n)) hmn (by simpa using hmn) hom hmd, upto_in' (fun k => listed.getD k false) hmn (hallh m (by omega)) hom hmd]
          · rw [upto_out V st0.s _ fun m om hmn _ hom hmd => hw ⟨m, om, hmn, hom, hmd⟩, upto_out V st0.s _ fun m om hmn _ hom hmd => hw ⟨m, om, hmn, hom, hmd⟩]
      · rw [hEo h1, hEo ho, h1, ho]
    · -- one of the head, or the laying
      refine ⟨fun h0 => ?_, fun i hi => ?_⟩
      · exfalso
        have hex : ∃ k, k < l.length ∧ listed.getD k false = false ∧ ∀ m, m < k → listed.getD m false = true := by
          have h1 : ∃ k, k < l.length ∧ listed.getD k false = false := ⟨n + 1, by omega, htail _ (Nat.le_refl _) (by omega)⟩
          obtain ⟨k, hk⟩ := h1
          induction k using Nat.strongRecOn with
          | _ k ihk =>
            by_cases h2 : ∃ m, m < k ∧ listed.getD m false = false
            · obtain ⟨m, hm, hm2⟩ := h2
              exact ihk m hm ⟨by omega, hm2⟩
            · refine ⟨k, hk.1, hk.2, fun m hm => ?_⟩
              cases hh : listed.getD m false with
              | true => rfl
              | false => exact absurd ⟨m, hm, hh⟩ h2
        obtain ⟨k, hkl, hkf, hkm⟩ := hex
        have : k ∈ Region.ready .any l.toArray listed := by
          rw [ready_iff]
          refine ⟨?_, l[k], by simp [hkl], fun e he hb => hkm _ (hC.back k l[k] (by simp [hkl]) e he hb)⟩
          have : listed.getD k true = listed.getD k false := by simp [show k < listed.size by omega]
          rw [this]; exact hkf
        rw [h0] at this; cases this
      · obtain ⟨h1, o, hoi, h2⟩ := ready_iff.1 hi
        have hil := (List.getElem?_eq_some_iff.1 hoi).1
        have hlt : i < listed.size := by omega
        have hif : listed.getD i false = false := by
          have : listed.getD i true = listed.getD i false := by simp [hlt]
          rw [← this]; exact h1
        have hdep : ∀ {m}, Dep l i m → listed.getD m false = true := fun hd => hcl.ready hd fun o' ho' => by rw [hoi] at ho'; cases ho'; exact h2
        have hcount : fuel = (List.range l.length).countP (fun k => !(listed.setIfInBounds i true).getD k false) := by
          have hmem : i ∈ List.range l.length := List.mem_range.2 hil
          have hgen : ∀ (r : List Nat), r.Nodup → i ∈ r → r.countP (fun k => !listed.getD k false) = r.countP (fun k => !(listed.setIfInBounds i true).getD k false) + 1 := by
            intro r
            induction r with
            | nil => intro _ h; cases h
            | cons x r ihr =>
              intro hnd hm
              rw [List.nodup_cons] at hnd
              by_cases hx : i = x
              · subst hx
                have hrest : r.countP (fun k => !listed.getD k false) = r.countP (fun k => !(listed.setIfInBounds i true).getD k false) := by
                  apply List.countP_congr
                  intro k hk
                  rw [set_getD hlt, if_neg (show ¬ k = i from fun e => hnd.1 (by rw [← e]; exact hk))]
                rw [List.countP_cons, List.countP_cons, hrest, hif, set_getD hlt, if_pos rfl]
                simp
              · have hmr : i ∈ r := by
                  rcases List.mem_cons.1 hm with h | h
                  · exact absurd h hx
                  · exact h
                rw [List.countP_cons, List.countP_cons, ihr hnd.2 hmr, set_getD hlt, if_neg (Ne.symm hx)]
                omega
          have := hgen _ List.nodup_range hmem
          omega
        have hin : i < n + 1 := by
          rcases Nat.lt_or_ge i (n + 1) with h | h
          · exact h
          · exfalso
            rcases Nat.eq_or_lt_of_le h with e | h'
            · subst e
              exact hallh fun k hk => hdep (hC.sink hil k hk)
            · have h1 := hdep (hC.chain i h' hil)
              rw [htail (i - 1) (by omega) (by omega)] at h1; cases h1
        unfold wpOp
        have ho' : (l.toArray)[i]? = some o := by simpa using hoi
        rw [ho']
        simp only
        have hclS := hcl.set hsz hi
        have htl : ∀ t, n + 1 ≤ t → t < l.length → (listed.setIfInBounds i true).getD t false = false := fun t ht htl => by rw [set_getD hlt, if_neg (by omega)]; exact htail t ht htl
        by_cases hin' : i = n
        · -- the laying
          subst hin'
          have : o = oa := by rw [hX.ha] at hoi; cases hoi; rfl
          subst this
          rw [hif, if_neg (by simp)] at hs
          have hlooks : ∀ s ∈ looks l o, lk s st.s = lk s (S i).s := fun s hs' => by
            rw [hlk, (hSk i (Nat.le_refl _)).2]
            by_cases hw : ∃ m om, m < i ∧ l[m]? = some om ∧ om.dst = some s
            · obtain ⟨m, om, hmn, hom, hmd⟩ := hw
              have hcl' := (hC.apart i m o om (by omega) (by omega) (by omega) hoi hom s hmd).2 hs'
              rw [if_pos hmn] at hcl'
              rw [upto_in' _ hmn (hdep hcl') hom hmd, upto_in' _ hmn (by simpa using hmn) hom hmd]
            · rw [upto_out V st0.s _ fun m om hmn _ hom hmd => hw ⟨m, om, hmn, hom, hmd⟩, upto_out V st0.s _ fun m om hmn _ hom hmd => hw ⟨m, om, hmn, hom, hmd⟩]
          have hst := stepA_spec hs (hA st (fun s => s = newSt d x0 ob st) hlooks rfl) (K' := wpAny P .any l.toArray Q fuel (listed.setIfInBounds i true)) (Q := Q) fun q a' w' hs' hq => by
            subst hq
            refine ih _ st a' w' (by simpa using hsz) hclS htl hcount ho (fun s => ?_) (by rw [set_getD hlt, if_pos rfl, if_pos rfl]; exact hs')
            rw [hlk]
            by_cases hw : ∃ m om, m < i ∧ listed.getD m false = true ∧ l[m]? = some om ∧ om.dst = some s
            · obtain ⟨m, om, hmn, hml, hom, hmd⟩ := hw
              rw [upto_in' (fun k => listed.getD k false) hmn hml hom hmd, upto_in' (fun k => (listed.setIfInBounds i true).getD k false) hmn (by rw [set_getD hlt]; split; rfl; exact hml) hom hmd]
            · rw [upto_out V st0.s _ fun m om hmn hml hom hmd => hw ⟨m, om, hmn, hml, hom, hmd⟩, upto_out V st0.s _ fun m om hmn hml hom hmd => by
                rw [set_getD hlt, if_neg (by omega)] at hml
                exact hw ⟨m, om, hmn, hml, hom, hmd⟩]
          split
          · rename_i hw; rw [if_pos hw] at hst; exact .inl hst
          · rename_i hw; rw [if_neg hw] at hst; exact hst
        · -- one of the head
          have hin2 : i < n := by omega
          obtain ⟨hYi, _⟩ := hT hin2 hoi
          obtain ⟨hqu, hqd, hql⟩ := hX.quiet i o hin2 hoi
          obtain ⟨g1, g2⟩ := hSk i (by omega)
          have hal : Alike l o (S i) st := by
            refine ⟨ho.trans g1.symm, fun s hs' => ?_⟩
            rw [hlk, g2]
            by_cases hw : ∃ m om, m < n ∧ l[m]? = some om ∧ om.dst = some s
            · obtain ⟨m, om, hmn, hom, hmd⟩ := hw
              have only : ∀ (L : Nat → Bool), L m = false → upto l V st0.s n L s = lk s st0.s := fun L hL => by
                refine upto_out V st0.s _ fun k ok hkn hLk hok hkd => ?_
                by_cases e : k = m
                · subst e; rw [hL] at hLk; cases hLk
                · exact (apart k m ok om hkn hmn e hok hom s hmd).1 hkd
              by_cases e : m = i
              · subst e
                rw [only _ hif, only _ (by simp)]
              · have hcl' := (apart i m o om hin2 hmn (Ne.symm e) hoi hom s hmd).2 hs'
                split at hcl'
                · rename_i hlt'
                  rw [upto_in' _ hmn (hdep hcl') hom hmd, upto_in' _ hmn (by simpa using hlt') hom hmd]
                · rename_i hlt'
                  have hmf : listed.getD m false = false := by
                    cases hh : listed.getD m false with
                    | false => rfl
                    | true => have := hcl.dep hcl' hh; rw [hif] at this; cases this
                  rw [only _ hmf, only _ (by simp; omega)]
            · rw [upto_out V st0.s _ fun m om hmn _ hom hmd => hw ⟨m, om, hmn, hom, hmd⟩, upto_out V st0.s _ fun m om hmn _ hom hmd => hw ⟨m, om, hmn, hom, hmd⟩]
          have hYst := Yl_alike hal hYi
          have hlk' : ∀ {dv : Option Nat}, o.dst = dv → ∀ s, lk s (st.put dv (V i)).s = upto l V st0.s n (fun k => (listed.setIfInBounds i true).getD k false) s := fun {dv} hdv s => by
            rw [lk_put]
            split
            · rename_i hd
              exact (upto_in' _ hin2 (by rw [set_getD hlt, if_pos rfl]) hoi (hdv.trans hd)).symm
            · rename_i hd
              rw [hlk]
              by_cases hw : ∃ m om, m < n ∧ listed.getD m false = true ∧ l[m]? = some om ∧ om.dst = some s
              · obtain ⟨m, om, hmn, hml, hom, hmd⟩ := hw
                rw [upto_in' _ hmn hml hom hmd, upto_in' _ hmn (by rw [set_getD hlt]; split; rfl; exact hml) hom hmd]
              · rw [upto_out V st0.s _ fun m om hmn hml hom hmd => hw ⟨m, om, hmn, hml, hom, hmd⟩, upto_out V st0.s _ fun m om hmn hml hom hmd => by
                  rw [set_getD hlt] at hml
                  split at hml
                  · rename_i e; subst e; rw [hoi] at hom; cases hom; exact hd (hdv.symm.trans hmd)
                  · exact hw ⟨m, om, hmn, hml, hom, hmd⟩]
          have hputo : (st.put o.dst (V i)).o = st0.o := by cases hd : o.dst <;> simp [St.put, ho]
          have hnlist : (listed.setIfInBounds i true).getD n false = listed.getD n false := by rw [set_getD hlt, if_neg (by omega)]
          have hst : if Region.wanted o (yielded l.toArray a.tmps) then o.wp P a w (wpAny P .any l.toArray Q fuel (listed.setIfInBounds i true)) Q else wpAny P .any l.toArray Q fuel (listed.setIfInBounds i true) (a.put o.dst Go.undef) w := by
            cases hfa : listed.getD n false with
            | false =>
              rw [hfa, if_neg (by simp)] at hs
              exact Yl_spec hs hYst fun a' w' hs' => ih _ _ a' w' (by simpa using hsz) hclS htl hcount hputo (hlk' rfl) (by rw [hnlist, hfa, if_neg (by simp)]; exact hs')
            | true =>
              rw [hfa, if_pos rfl] at hs
              have hloks : ∀ s ∈ looks l o, lk s (newSt d x0 ob st).s = lk s st.s := fun s hs' => by
                rw [hEs hlk, if_neg]
                rintro rfl; exact hql hs'
              have hevx : ∀ x ∈ o.op.operands, ev (newSt d x0 ob st) x = ev st x := looks_ev hloks
              have hYE : Yl P N l (newSt d x0 ob st) o (V i) := by
                obtain ⟨y1, y2⟩ := hYst
                refine ⟨y1, ?_⟩
                have hhop : ∀ {K : AV → Prop}, hopA P st o K → hopA P (newSt d x0 ob st) o K := fun hh => hop_extra4 hqu (d := d) (fun j hj => by rw [hEo ho, if_neg hj]) hevx (fun x hx v hv => by
                  cases x with
                  | tmp s => exact hnoS hlk s v hv
                  | const u => exact const_noD hv
                  | func f => cases hv; rfl
                  | global g => cases hv) hh
                unfold guardA at *
                split at y2
                · exact hhop y2
                · rename_i j want hg
                  split at y2
                  · rename_i d' hd'
                    have : lk d' (newSt d x0 ob st).s = lk d' st.s := hloks d' (by
                      refine List.mem_append_right _ ?_
                      have : ((l.toArray)[j]?).bind (·.dst) = some d' := by simpa using hd'
                      rw [hg]; simp only [this]; simp)
                    rw [this]
                    split at y2
                    · exact ⟨fun h => hhop (y2.1 h), y2.2⟩
                    · exact y2
                    · exact y2
                  · exact y2
              refine Yl_spec hs hYE fun a' w' hs' => ih _ (st.put o.dst (V i)) a' w' (by simpa using hsz) hclS htl hcount hputo (hlk' rfl) ?_
              rw [hnlist, hfa, if_pos rfl]
              refine hs'.congr2 (fun s => ?_) fun s => ?_
              · rw [hEs (hlk' rfl), lk_put, lk_put, hEs hlk]
                by_cases e1 : s = d
                · subst e1
                  rw [if_pos rfl, if_neg hqd, if_pos rfl]
                · rw [if_neg e1, if_neg e1]
              · rw [hEo hputo]
                have : ((newSt d x0 ob st).put o.dst (V i)).o = (newSt d x0 ob st).o := by cases o.dst <;> rfl
                rw [this, hEo ho]
                have : (st.put o.dst (V i)).o = st.o := by cases o.dst <;> rfl
                rw [this]
          split
          · rename_i hw; rw [if_pos hw] at hst; exact .inl hst
          · rename_i hw; rw [if_neg hw] at hst; exact hst

def mkD : List Oper → Nat
  | [] => 0
  | o :: r => bif isMk o then o.dst.getD 0 else mkD r
def hasMk (l : List Oper) : Bool := l.any isMk
theorem mkD_eq : ∀ {l : List Oper} {o : Oper}, l[mkAt l]? = some o → mkD l = o.dst.getD 0
  | [], o, h => by simp at h
  | x :: r, o, h => by
    unfold mkAt at h
    rw [List.findIdx_cons] at h
    rw [mkD]
    cases hx : isMk x with
    | true => rw [hx] at h; simp at h; subst h; rfl
    | false => rw [hx] at h; simp at h; exact mkD_eq (l := r) h
/-- What a row's laying asks, and what it leaves. -/
def onM (P : Program) (t : TypeId) (u v : Option AV) (g : Prop → AO → Prop) : Prop :=
  match u, v with
  | some (.d (.int _ n)), some (.d (.int _ m)) => match elemSl P t with
    | some e => match zeroD P e with
      | some z => g (0 < P.cellsOf e ∧ z.cells.length = P.cellsOf e ∧ 0 ≤ n ∧ n ≤ m ∧ m ≤ 4294967296 ∧ P.bytesOf e ≤ 65536) (.arr e (P.cellsOf e) (List.replicate n.toNat z))
      | none => False
    | none => False
  | _, _ => False
theorem onM_one {P : Program} {t : TypeId} {u v : Option AV} {g : Prop → AO → Prop} (h : onM P t u v g) : ∃ c ob, (∀ g', onM P t u v g' ↔ g' c ob) ∧ g c ob := by
  unfold onM at *
  split at h
  · split at h
    · split at h
      · exact ⟨_, _, fun g' => Iff.rfl, h⟩
      · exact h.elim
    · exact h.elim
  · exact h.elim
/-- A REGION THAT DRAWS ITS ORDER: quiet operations and a row's laying, then the rest. -/
theorem wp_drawn4 {id : Nat} {l : List Oper} {K : St → Prop} {Q : Exit → Act → World → Prop} {st : St} {a : Act} {w : World} (hm : P.follows .mixedOrders = true) (hc : regionOK4 l = true)
    (hQ : ∀ st a w, Sim Z N B M w0 st a w → K st → Q .normal a w) (hs : Sim Z N B M w0 st a w)
    (hq : noD (mkD l) st ∧ headA P N l (l.take (mkAt l)) st fun st' => noD (mkD l) st' ∧ opsA P N l (l.drop (mkAt l)) st' K) :
    SW P (Code.region id l.toArray true) Q a w := by
  obtain ⟨n, d, oa, hn, hX⟩ := regionOK4_spec hc
  rw [← hn] at hq
  have hd : mkD l = d := by
    rw [mkD_eq (by rw [← hn]; exact hX.ha), hX.dst]; rfl
  rw [hd] at hq
  obtain ⟨hn0, hq⟩ := hq
  obtain ⟨V, S, h1, h2, hnn, h3⟩ := headA_values hq
  have hlen := hX.len
  have htk : (l.take n).length = n := by rw [List.length_take]; omega
  rw [htk] at hnn h3
  have hdr : l.drop n = oa :: l.drop (n + 1) := by
    have := hX.ha
    rw [List.drop_eq_getElem_cons (show n < l.length by omega)]
    congr 1
    rw [List.getElem?_eq_getElem (by omega)] at this
    exact Option.some.inj this
  rw [hdr] at h3
  obtain ⟨dst, op, ty, pos, after, guard⟩ := oa
  obtain ⟨t, x, y, g1⟩ := hX.op
  have g2 := hX.dst; have g3 := hX.guard
  simp only at g1 g2 g3
  subst g1 g2 g3
  have hstep : ∀ st K, stepA P N l st ⟨some d, .makeSlice t x y, ty, pos, after, none⟩ K ↔ onM P t (ev st x) (ev st y) (fun c ob => c ∧ d < N ∧ K (newSt d (.sl d) ob st)) := fun st K => by
    simp only [stepA, guardA, opA, nilA, qv, lv, onM]
    generalize ev st x = u
    generalize ev st y = v
    rcases u with _ | u
    · exact Iff.rfl
    cases u with
    | d a =>
      cases a with
      | int k i =>
        rcases v with _ | v
        · exact Iff.rfl
        cases v with
        | d b =>
          cases b with
          | int k' j =>
            simp only
            cases elemSl P t with
            | none => exact Iff.rfl
            | some e =>
              simp only
              cases zeroD P e with
              | none => exact Iff.rfl
              | some z => exact Iff.rfl
          | _ => exact Iff.rfl
        | _ => exact Iff.rfl
      | _ => rcases v with _ | v <;> exact Iff.rfl
    | _ => rcases v with _ | v <;> exact Iff.rfl
  have h3' : stepA P N l (S n) ⟨some d, .makeSlice t x y, ty, pos, after, none⟩ (fun st' => opsA P N l (l.drop (n + 1)) st' K) := h3
  rw [hstep] at h3'
  obtain ⟨c, ob, hone, hcc, hdN, hK⟩ := onM_one h3'
  show wpAny P .any l.toArray Q l.toArray.size (Array.replicate l.toArray.size false) a { w with drawn := w.drawn + 1 }
  have hfalse : ∀ k, (Array.replicate l.length false).getD k false = false := fun k => by
    rcases Nat.lt_or_ge k l.length with h | h
    · simp [h]
    · simp [h]
  have := any4 (P := P) (x0 := .sl d) hX hQ h1 hn0 hnn h2 (ob := ob) (fun st K hlook hk => by
      rw [hstep]
      have e1 : ∀ z ∈ (Op.makeSlice t x y).operands, ev st z = ev (S n) z := looks_ev (o := ⟨some d, .makeSlice t x y, ty, pos, after, none⟩) hlook
      rw [e1 x (by simp [Op.operands]), e1 y (by simp [Op.operands])]
      exact (hone _).2 ⟨hcc, hdN, hk⟩) hK l.length (Array.replicate l.length false) st a { w with drawn := w.drawn + 1 } (by simp) (fun k o _ hk => by rw [hfalse k] at hk; cases hk)
    (fun t _ _ => hfalse t) (by
      have : (List.range l.length).countP (fun k => !(Array.replicate l.length false).getD k false) = (List.range l.length).length := by
        rw [List.countP_eq_length]; intro k _; rw [hfalse k]; rfl
      rw [this]; simp) rfl (fun s => (upto_out V st.s _ fun k o _ hk => by rw [hfalse k] at hk; cases hk).symm)
    (by rw [hfalse n, if_neg (by simp)]; obtain ⟨β, φ, hB⟩ := hs; exact ⟨β, φ, hB.drawn⟩)
  simpa using this
end
end Abs
