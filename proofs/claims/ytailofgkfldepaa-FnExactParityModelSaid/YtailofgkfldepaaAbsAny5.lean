/- A region that draws its order, in which one row is laid by its length while other operations, ahead of it and behind it in the text, look and lay nothing that has a name; what follows stands in the text's order. No condition but the region's own check. -/
import Derived.Test.YtailofgkfldepaaAbsAny4
set_option linter.all false
namespace Abs
open Go Go.RowKit

section
variable {P : Program} {Z : Nat → Prop} {N B : Nat} {M : Nat → Prop} {w0 : World}
structure Checked5 (l : List Oper) (q n d : Nat) (oa : Oper) : Prop where
  hC : Checked' l q
  lt : n < q
  len : q + 1 ≤ l.length
  ha : l[n]? = some oa
  op : ∃ t x y, oa.op = .makeSlice t x y
  dst : oa.dst = some d
  guard : oa.guard = none
  quiet : ∀ k o, k < q → k ≠ n → l[k]? = some o → isQ4 o = true ∧ o.dst ≠ some d ∧ d ∉ looks l o
/-- The head and the laying in any order, then the writing. -/
theorem any5 {l : List Oper} {q n d : Nat} {oa : Oper} (hX : Checked5 l q n d oa) {K : St → Prop} {Q : Exit → Act → World → Prop} (hQ : ∀ st a w, Sim Z N B M w0 st a w → K st → Q .normal a w)
    {st0 : St} {V : Nat → AV} {S : Nat → St} {ob : AO} {x0 : AV} (hS0 : S 0 = st0) (hn0 : noD d st0) (hnn : noD d (S q)) (hY : ∀ k o, k < q → k ≠ n → l[k]? = some o → Yl P N l (S k) o (V k) ∧ S (k + 1) = (S k).put o.dst (V k)) (hSn : S (n + 1) = S n)
    (hA : ∀ st K, (∀ s ∈ looks l oa, lk s st.s = lk s (S n).s) → (K (newSt d x0 ob st) : Prop) → stepA P N l st oa K) (hK : opsA P N l (l.drop q) (newSt d x0 ob (S q)) K) :
    ∀ (fuel : Nat) (listed : Array Bool) (st : St) (a : Act) (w : World), listed.size = l.length → Closed l listed → (∀ t, q ≤ t → t < l.length → listed.getD t false = false) →
      fuel = (List.range l.length).countP (fun k => !listed.getD k false) → st.o = st0.o → (∀ s, lk s st.s = upto l V st0.s q (fun k => listed.getD k false && (k != n)) s) →
      Sim Z N B M w0 (if listed.getD n false = true then newSt d x0 ob st else st) a w → wpAny P .any l.toArray Q fuel listed a w := by
  have hC := hX.hC
  have hlen := hX.len
  have hnq := hX.lt
  have apart : ∀ k m ok om, k < q → m < q → k ≠ m → l[k]? = some ok → l[m]? = some om → ∀ s, om.dst = some s → ok.dst ≠ some s ∧ (s ∈ looks l ok → if m < k then Dep l k m else Dep l m k) :=
    fun k m ok om hk hm => hC.apart k m ok om (by omega) (by omega)
  have upto_in' : ∀ (L : Nat → Bool) {k o s}, k < q → L k = true → l[k]? = some o → o.dst = some s → upto l V st0.s q L s = some (V k) := by
    intro L k o s hk hL ho hd
    unfold upto
    cases hf : (List.range q).find? fun k => L k && (((l[k]?).bind (·.dst)) == some s) with
    | none =>
      rw [List.find?_eq_none] at hf
      have := hf k (List.mem_range.2 hk)
      simp [hL, ho, hd] at this
    | some m =>
      have h1 := List.find?_some hf
      have h2 := List.mem_range.1 (List.mem_of_find?_eq_some hf)
      simp only [Bool.and_eq_true, beq_iff_eq] at h1
      cases hm : l[m]? with
      | none => rw [hm] at h1; simp at h1
      | some om =>
        rw [hm] at h1
        have hmd : om.dst = some s := by simpa using h1.2
        by_cases e : k = m
        · subst e; rfl
        · exact absurd hd (apart k m o om hk h2 e ho hm s hmd).1
  have hT : ∀ {k o}, k < q → k ≠ n → l[k]? = some o → Yl P N l (S k) o (V k) ∧ S (k + 1) = (S k).put o.dst (V k) := fun hk hne ho => hY _ _ hk hne ho
  -- the text's own states
  have hSk : ∀ k, k ≤ q → (S k).o = st0.o ∧ ∀ s, lk s (S k).s = upto l V st0.s q (fun m => decide (m < k) && (m != n)) s := by
    intro k
    induction k with
    | zero => intro _; rw [hS0]; exact ⟨rfl, fun s => (upto_out V st0.s _ (by simp)).symm⟩
    | succ k ih =>
      intro hk
      obtain ⟨h1, h2⟩ := ih (by omega)
      by_cases hkn : k = n
      · subst hkn
        rw [hSn]
        refine ⟨h1, fun s => ?_⟩
        rw [h2]
        congr 1
        funext m
        by_cases e : m = k
        · subst e; simp
        · have : decide (m < k + 1) = decide (m < k) := decide_eq_decide.2 (by omega)
          simp only [this]
      have hkl : k < l.length := by omega
      obtain ⟨o, ho⟩ : ∃ o, l[k]? = some o := ⟨l[k], by simp [hkl]⟩
      obtain ⟨_, h3⟩ := hT (by omega) hkn ho
      rw [h3]
      refine ⟨by cases hd : o.dst <;> simp [St.put, h1], fun s => ?_⟩
      rw [lk_put]
      split
      · rename_i hd
        exact (upto_in' _ (by omega) (by simp [hkn]) ho hd).symm
      · rename_i hd
        rw [h2]
        by_cases hw : ∃ m om, m < q ∧ (m < k ∧ m ≠ n) ∧ l[m]? = some om ∧ om.dst = some s
        · obtain ⟨m, om, hmn, hmk, hom, hmd⟩ := hw
          rw [upto_in' _ hmn (by simpa using hmk) hom hmd, upto_in' _ hmn (by simp only [Bool.and_eq_true, decide_eq_true_eq, bne_iff_ne]; exact ⟨by omega, hmk.2⟩) hom hmd]
        · rw [upto_out V st0.s _ fun m om hmn hml hom hmd => hw ⟨m, om, hmn, by simpa using hml, hom, hmd⟩,
            upto_out V st0.s _ fun m om hmn hml hom hmd => by
              have hmk : m < k + 1 ∧ m ≠ n := by simpa using hml
              by_cases e : m = k
              · subst e; rw [ho] at hom; cases hom; exact hd hmd
              · exact hw ⟨m, om, hmn, ⟨by omega, hmk.2⟩, hom, hmd⟩]
  -- no value names d
  have hVd : ∀ k o s, k < q → k ≠ n → l[k]? = some o → o.dst = some s → (V k).has d = false := fun k o s hk hne ho hd =>
    noD_s hnn (by rw [(hSk q (Nat.le_refl _)).2 s]; exact upto_in' _ hk (by simp [hk, hne]) ho hd)
  have hnoS : ∀ {st : St} {L : Nat → Bool}, (∀ m, L m = true → m ≠ n) → (∀ s, lk s st.s = upto l V st0.s q L s) → ∀ s v, lk s st.s = some v → v.has d = false := fun {st L} hL hlk s v hs => by
    rw [hlk] at hs
    by_cases hw : ∃ m om, m < q ∧ L m = true ∧ l[m]? = some om ∧ om.dst = some s
    · obtain ⟨m, om, hmn, hmk, hom, hmd⟩ := hw
      rw [upto_in' _ hmn hmk hom hmd] at hs
      cases hs
      exact hVd m om s hmn (hL m hmk) hom hmd
    · rw [upto_out V st0.s _ fun m om hmn hml hom hmd => hw ⟨m, om, hmn, hml, hom, hmd⟩] at hs
      exact noD_s hn0 hs
  -- the variable laid beside
  have hLn : ∀ (f : Nat → Bool) (m : Nat), (f m && (m != n)) = true → m ≠ n := fun f m h => by simp only [Bool.and_eq_true, bne_iff_ne] at h; exact h.2
  have hEs : ∀ {st : St} {L : Nat → Bool}, (∀ m, L m = true → m ≠ n) → (∀ s, lk s st.s = upto l V st0.s q L s) → ∀ i, lk i (newSt d x0 ob st).s = if i = d then some x0 else lk i st.s := fun {st L} hL hlk i => by
    unfold newSt
    simp only [lk_ins]
    split
    · rfl
    · rw [lk_wipeS_eq]
      cases h : lk i st.s with
      | none => rfl
      | some v => simp only [Option.map_some, hnoS hL hlk i v h, Bool.false_eq_true, if_false]
  have hEo : ∀ {st : St}, st.o = st0.o → ∀ i, lk i (newSt d x0 ob st).o = if i = d then some ob else lk i st.o := fun {st} ho i => by
    unfold newSt
    simp only [lk_ins]
    rw [ho, hn0.2]
  intro fuel
  induction fuel with
  | zero =>
    intro listed st a w hsz hcl htail hcnt ho hlk hs
    exfalso
    have h1 := htail q (Nat.le_refl _) (by omega)
    have := List.countP_eq_zero.1 hcnt.symm q (List.mem_range.2 (by omega))
    simp only [h1] at this
    exact this rfl
  | succ fuel ih =>
    intro listed st a w hsz hcl htail hcnt ho hlk hs
    by_cases hallh : ∀ k, k < q → listed.getD k false = true
    · -- the writing
      have hl : ∀ k, k < l.length → listed.getD k false = decide (k < q) := fun k hk => by
        by_cases h : k < q
        · rw [hallh k h]; simp [h]
        · rw [htail k (by omega) hk]; simp [h]
      have hlen1 : (l.drop q).length = fuel + 1 := by
        rw [hcnt, List.length_drop]
        have e1 : (List.range l.length).countP (fun k => !listed.getD k false) = (List.range l.length).countP (fun k => decide (q ≤ k)) := by
          apply List.countP_congr
          intro k hk
          rw [hl k (List.mem_range.1 hk)]
          simp
        obtain ⟨r, hr⟩ : ∃ r, l.length = q + r := ⟨l.length - q, by omega⟩
        rw [e1, hr, List.range_add, List.countP_append]
        have e2 : (List.range q).countP (fun k => decide (q ≤ k)) = 0 := by
          rw [List.countP_eq_zero]; intro k hk; have := List.mem_range.1 hk; simp; omega
        have e3 : ((List.range r).map (q + ·)).countP (fun k => decide (q ≤ k)) = ((List.range r).map (q + ·)).length := by
          rw [List.countP_eq_length]; intro k hk
          obtain ⟨j, _, rfl⟩ := List.mem_map.1 hk
          simp
        rw [e2, e3, List.length_map, List.length_range]; omega
      rw [← hlen1]
      refine any_tail hC hQ (l.drop q) q listed (newSt d x0 ob (S q)) a w (Nat.le_refl _) rfl hsz hl ?_ hK
      rw [if_pos (hallh n (by omega))] at hs
      obtain ⟨h1, h2⟩ := hSk q (Nat.le_refl _)
      refine hs.congr2 (fun i => ?_) fun i => ?_
      · rw [hEs (hLn _) h2, hEs (hLn _) hlk, h2, hlk]
        split
        · rfl
        · by_cases hw : ∃ m om, m < q ∧ m ≠ n ∧ l[m]? = some om ∧ om.dst = some i
          · obtain ⟨m, om, hmn, hne, hom, hmd⟩ := hw
            rw [upto_in' (fun m => decide (m < q) && (m != n)) hmn (by simp [hmn, hne]) hom hmd, upto_in' (fun k => listed.getD k false && (k != n)) hmn (by simp only [hallh m hmn]; simp [hne]) hom hmd]
          · rw [upto_out V st0.s _ fun m om hmn hL hom hmd => hw ⟨m, om, hmn, hLn (fun m => decide (m < q)) m hL, hom, hmd⟩, upto_out V st0.s _ fun m om hmn hL hom hmd => hw ⟨m, om, hmn, hLn (fun k => listed.getD k false) m hL, hom, hmd⟩]
      · rw [hEo h1, hEo ho, h1, ho]
    · -- one of the head, or the laying
      refine ⟨fun h0 => ?_, fun i hi => ?_⟩
      · exfalso
        have hex : ∃ k, k < l.length ∧ listed.getD k false = false ∧ ∀ m, m < k → listed.getD m false = true := by
          have h1 : ∃ k, k < l.length ∧ listed.getD k false = false := ⟨q, by omega, htail _ (Nat.le_refl _) (by omega)⟩
          obtain ⟨k, hk⟩ := h1
          induction k using Nat.strongRecOn with
          | _ k ihk =>
            by_cases h2 : ∃ m, m < k ∧ listed.getD m false = false
            · obtain ⟨m, hm, hm2⟩ := h2
              exact ihk m hm ⟨by omega, hm2⟩
            · refine ⟨k, hk.1, hk.2, fun m hm => ?_⟩
              cases hh : listed.getD m false with
              | true => rfl
              | false => exact absurd ⟨m, hm, hh⟩ h2
        obtain ⟨k, hkl, hkf, hkm⟩ := hex
        have : k ∈ Region.ready .any l.toArray listed := by
          rw [ready_iff]
          refine ⟨?_, l[k], by simp [hkl], fun e he hb => hkm _ (hC.back k l[k] (by simp [hkl]) e he hb)⟩
          have : listed.getD k true = listed.getD k false := by simp [show k < listed.size by omega]
          rw [this]; exact hkf
        rw [h0] at this; cases this
      · obtain ⟨h1, o, hoi, h2⟩ := ready_iff.1 hi
        have hil := (List.getElem?_eq_some_iff.1 hoi).1
        have hlt : i < listed.size := by omega
        have hif : listed.getD i false = false := by
          have : listed.getD i true = listed.getD i false := by simp [hlt]
          rw [← this]; exact h1
        have hdep : ∀ {m}, Dep l i m → listed.getD m false = true := fun hd => hcl.ready hd fun o' ho' => by rw [hoi] at ho'; cases ho'; exact h2
        have hcount : fuel = (List.range l.length).countP (fun k => !(listed.setIfInBounds i true).getD k false) := by
          have hmem : i ∈ List.range l.length := List.mem_range.2 hil
          have hgen : ∀ (r : List Nat), r.Nodup → i ∈ r → r.countP (fun k => !listed.getD k false) = r.countP (fun k => !(listed.setIfInBounds i true).getD k false) + 1 := by
            intro r
            induction r with
            | nil => intro _ h; cases h
            | cons x r ihr =>
              intro hnd hm
              rw [List.nodup_cons] at hnd
              by_cases hx : i = x
              · subst hx
                have hrest : r.countP (fun k => !listed.getD k false) = r.countP (fun k => !(listed.setIfInBounds i true).getD k false) := by
                  apply List.countP_congr
                  intro k hk
                  rw [set_getD hlt, if_neg (show ¬ k = i from fun e => hnd.1 (by rw [← e]; exact hk))]
                rw [List.countP_cons, List.countP_cons, hrest, hif, set_getD hlt, if_pos rfl]
                simp
              · have hmr : i ∈ r := by
                  rcases List.mem_cons.1 hm with h | h
                  · exact absurd h hx
                  · exact h
                rw [List.countP_cons, List.countP_cons, ihr hnd.2 hmr, set_getD hlt, if_neg (Ne.symm hx)]
                omega
          have := hgen _ List.nodup_range hmem
          omega
        have hin : i < q := by
          rcases Nat.lt_or_ge i q with h | h
          · exact h
          · exfalso
            rcases Nat.eq_or_lt_of_le h with e | h'
            · subst e
              exact hallh fun k hk => hdep (hC.sink hil k hk)
            · have h1 := hdep (hC.chain i h' hil)
              rw [htail (i - 1) (by omega) (by omega)] at h1; cases h1
        unfold wpOp
        have ho' : (l.toArray)[i]? = some o := by simpa using hoi
        rw [ho']
        simp only
        have hclS := hcl.set hsz hi
        have htl : ∀ t, q ≤ t → t < l.length → (listed.setIfInBounds i true).getD t false = false := fun t ht htl => by rw [set_getD hlt, if_neg (by omega)]; exact htail t ht htl
        by_cases hin' : i = n
        · -- the laying
          subst hin'
          have : o = oa := by rw [hX.ha] at hoi; cases hoi; rfl
          subst this
          rw [hif, if_neg (by simp)] at hs
          have only : ∀ (L : Nat → Bool) {m om s}, m < q → l[m]? = some om → om.dst = some s → L m = false → upto l V st0.s q L s = lk s st0.s := fun L {m om s} hmn hom hmd hL => by
            refine upto_out V st0.s _ fun k ok hkn hLk hok hkd => ?_
            by_cases e : k = m
            · subst e; rw [hL] at hLk; cases hLk
            · exact (apart k m ok om hkn hmn e hok hom s hmd).1 hkd
          have hlooks : ∀ s ∈ looks l o, lk s st.s = lk s (S i).s := fun s hs' => by
            rw [hlk, (hSk i (by omega)).2]
            by_cases hw : ∃ m om, m < q ∧ m ≠ i ∧ l[m]? = some om ∧ om.dst = some s
            · obtain ⟨m, om, hmn, hne, hom, hmd⟩ := hw
              have hcl' := (hC.apart i m o om (by omega) hmn (Ne.symm hne) hoi hom s hmd).2 hs'
              split at hcl'
              · rename_i hlt'
                rw [upto_in' _ hmn (by simp only [hdep hcl']; simp [hne]) hom hmd, upto_in' _ hmn (by simp [hlt', hne]) hom hmd]
              · rename_i hlt'
                have hmf : listed.getD m false = false := by
                  cases hh : listed.getD m false with
                  | false => rfl
                  | true => have := hcl.dep hcl' hh; rw [hif] at this; cases this
                rw [only _ hmn hom hmd (by simp only [hmf, Bool.false_and]), only _ hmn hom hmd (by simp [hlt'])]
            · rw [upto_out V st0.s _ fun m om hmn hL hom hmd => hw ⟨m, om, hmn, hLn (fun k => listed.getD k false) m hL, hom, hmd⟩, upto_out V st0.s _ fun m om hmn hL hom hmd => hw ⟨m, om, hmn, hLn (fun m => decide (m < i)) m hL, hom, hmd⟩]
          have hst := stepA_spec hs (hA st (fun s => s = newSt d x0 ob st) hlooks rfl) (K' := wpAny P .any l.toArray Q fuel (listed.setIfInBounds i true)) (Q := Q) fun q' a' w' hs' hq => by
            subst hq
            refine ih _ st a' w' (by simpa using hsz) hclS htl hcount ho (fun s => ?_) (by rw [set_getD hlt, if_pos rfl, if_pos rfl]; exact hs')
            rw [hlk]
            congr 1
            funext k
            by_cases e : k = i
            · subst e; simp
            · rw [set_getD hlt, if_neg e]
          split
          · rename_i hw; rw [if_pos hw] at hst; exact .inl hst
          · rename_i hw; rw [if_neg hw] at hst; exact hst
        · -- one of the head
          have hin2 : i < q := by omega
          obtain ⟨hYi, _⟩ := hT hin2 hin' hoi
          obtain ⟨hqu, hqd, hql⟩ := hX.quiet i o hin2 hin' hoi
          obtain ⟨g1, g2⟩ := hSk i (by omega)
          have hal : Alike l o (S i) st := by
            refine ⟨ho.trans g1.symm, fun s hs' => ?_⟩
            rw [hlk, g2]
            by_cases hw : ∃ m om, m < q ∧ m ≠ n ∧ l[m]? = some om ∧ om.dst = some s
            · obtain ⟨m, om, hmn, hne, hom, hmd⟩ := hw
              have only : ∀ (L : Nat → Bool), L m = false → upto l V st0.s q L s = lk s st0.s := fun L hL => by
                refine upto_out V st0.s _ fun k ok hkn hLk hok hkd => ?_
                by_cases e : k = m
                · subst e; rw [hL] at hLk; cases hLk
                · exact (apart k m ok om hkn hmn e hok hom s hmd).1 hkd
              by_cases e : m = i
              · subst e
                rw [only _ (by simp only [hif, Bool.false_and]), only _ (by simp)]
              · have hcl' := (apart i m o om hin2 hmn (Ne.symm e) hoi hom s hmd).2 hs'
                split at hcl'
                · rename_i hlt'
                  rw [upto_in' _ hmn (by simp only [hdep hcl']; simp [hne]) hom hmd, upto_in' _ hmn (by simp [hlt', hne]) hom hmd]
                · rename_i hlt'
                  have hmf : listed.getD m false = false := by
                    cases hh : listed.getD m false with
                    | false => rfl
                    | true => have := hcl.dep hcl' hh; rw [hif] at this; cases this
                  rw [only _ (by simp only [hmf, Bool.false_and]), only _ (by simp [hlt'])]
            · rw [upto_out V st0.s _ fun m om hmn hL hom hmd => hw ⟨m, om, hmn, hLn (fun k => listed.getD k false) m hL, hom, hmd⟩, upto_out V st0.s _ fun m om hmn hL hom hmd => hw ⟨m, om, hmn, hLn (fun m => decide (m < i)) m hL, hom, hmd⟩]
          have hYst := Yl_alike hal hYi
          have hlk' : ∀ {dv : Option Nat}, o.dst = dv → ∀ s, lk s (st.put dv (V i)).s = upto l V st0.s q (fun k => (listed.setIfInBounds i true).getD k false && (k != n)) s := fun {dv} hdv s => by
            rw [lk_put]
            split
            · rename_i hd
              exact (upto_in' _ hin2 (by rw [set_getD hlt, if_pos rfl]; simp [hin']) hoi (hdv.trans hd)).symm
            · rename_i hd
              rw [hlk]
              by_cases hw : ∃ m om, m < q ∧ (listed.getD m false = true ∧ m ≠ n) ∧ l[m]? = some om ∧ om.dst = some s
              · obtain ⟨m, om, hmn, hml, hom, hmd⟩ := hw
                rw [upto_in' _ hmn (by simp only [hml.1]; simp [hml.2]) hom hmd, upto_in' _ hmn (by rw [set_getD hlt]; split <;> simp [hml.1, hml.2]) hom hmd]
              · rw [upto_out V st0.s _ fun m om hmn hml hom hmd => hw ⟨m, om, hmn, by simpa using hml, hom, hmd⟩, upto_out V st0.s _ fun m om hmn hml hom hmd => by
                  rw [set_getD hlt] at hml
                  split at hml
                  · rename_i e; subst e; rw [hoi] at hom; cases hom; exact hd (hdv.symm.trans hmd)
                  · exact hw ⟨m, om, hmn, by simpa using hml, hom, hmd⟩]
          have hputo : (st.put o.dst (V i)).o = st0.o := by cases hd : o.dst <;> simp [St.put, ho]
          have hnlist : (listed.setIfInBounds i true).getD n false = listed.getD n false := by rw [set_getD hlt, if_neg (by omega)]
          have hst : if Region.wanted o (yielded l.toArray a.tmps) then o.wp P a w (wpAny P .any l.toArray Q fuel (listed.setIfInBounds i true)) Q else wpAny P .any l.toArray Q fuel (listed.setIfInBounds i true) (a.put o.dst Go.undef) w := by
            cases hfa : listed.getD n false with
            | false =>
              rw [hfa, if_neg (by simp)] at hs
              exact Yl_spec hs hYst fun a' w' hs' => ih _ _ a' w' (by simpa using hsz) hclS htl hcount hputo (hlk' rfl) (by rw [hnlist, hfa, if_neg (by simp)]; exact hs')
            | true =>
              rw [hfa, if_pos rfl] at hs
              have hloks : ∀ s ∈ looks l o, lk s (newSt d x0 ob st).s = lk s st.s := fun s hs' => by
                rw [hEs (hLn _) hlk, if_neg]
                rintro rfl; exact hql hs'
              have hevx : ∀ x ∈ o.op.operands, ev (newSt d x0 ob st) x = ev st x := looks_ev hloks
              have hYE : Yl P N l (newSt d x0 ob st) o (V i) := by
                obtain ⟨y1, y2⟩ := hYst
                refine ⟨y1, ?_⟩
                have hhop : ∀ {K : AV → Prop}, hopA P st o K → hopA P (newSt d x0 ob st) o K := fun hh => hop_extra4 hqu (d := d) (fun j hj => by rw [hEo ho, if_neg hj]) hevx (fun x hx v hv => by
                  cases x with
                  | tmp s => exact hnoS (hLn _) hlk s v hv
                  | const u => exact const_noD hv
                  | func f => cases hv; rfl
                  | global g => cases hv) hh
                unfold guardA at *
                split at y2
                · exact hhop y2
                · rename_i j want hg
                  split at y2
                  · rename_i d' hd'
                    have : lk d' (newSt d x0 ob st).s = lk d' st.s := hloks d' (by
                      refine List.mem_append_right _ ?_
                      have : ((l.toArray)[j]?).bind (·.dst) = some d' := by simpa using hd'
                      rw [hg]; simp only [this]; simp)
                    rw [this]
                    split at y2
                    · exact ⟨fun h => hhop (y2.1 h), y2.2⟩
                    · exact y2
                    · exact y2
                  · exact y2
              refine Yl_spec hs hYE fun a' w' hs' => ih _ (st.put o.dst (V i)) a' w' (by simpa using hsz) hclS htl hcount hputo (hlk' rfl) ?_
              rw [hnlist, hfa, if_pos rfl]
              refine hs'.congr2 (fun s => ?_) fun s => ?_
              · rw [hEs (hLn _) (hlk' rfl), lk_put, lk_put, hEs (hLn _) hlk]
                by_cases e1 : s = d
                · subst e1
                  rw [if_pos rfl, if_neg hqd, if_pos rfl]
                · rw [if_neg e1, if_neg e1]
              · rw [hEo hputo]
                have : ((newSt d x0 ob st).put o.dst (V i)).o = (newSt d x0 ob st).o := by cases o.dst <;> rfl
                rw [this, hEo ho]
                have : (st.put o.dst (V i)).o = st.o := by cases o.dst <;> rfl
                rw [this]
          split
          · rename_i hw; rw [if_pos hw] at hst; exact .inl hst
          · rename_i hw; rw [if_neg hw] at hst; exact hst


theorem mk_step {l : List Oper} {d : Nat} {t : TypeId} {x y : Operand} {ty pos after} {st : St} {K : St → Prop} : stepA P N l st ⟨some d, .makeSlice t x y, ty, pos, after, none⟩ K ↔ onM P t (ev st x) (ev st y) (fun c ob => c ∧ d < N ∧ K (newSt d (.sl d) ob st)) := by
  simp only [stepA, guardA, opA, nilA, qv, lv, onM]
  generalize ev st x = u
  generalize ev st y = v
  rcases u with _ | u
  · exact Iff.rfl
  cases u with
  | d a =>
    cases a with
    | int k i =>
      rcases v with _ | v
      · exact Iff.rfl
      cases v with
      | d b =>
        cases b with
        | int k' j =>
          simp only
          cases elemSl P t with
          | none => exact Iff.rfl
          | some e =>
            simp only
            cases zeroD P e with
            | none => exact Iff.rfl
            | some z => exact Iff.rfl
        | _ => exact Iff.rfl
      | _ => exact Iff.rfl
    | _ => rcases v with _ | v <;> exact Iff.rfl
  | _ => rcases v with _ | v <;> exact Iff.rfl
/-- The check: quiet operations and a row's laying, in any order; then the last one. -/
def regionOK5 (l : List Oper) : Bool :=
  let n := mkAt l
  let q := l.length - 1
  regionOK l q && Nat.ble (n + 1) q &&
  (match l[n]? with
   | some ⟨some d, .makeSlice t x y, ty, pos, after, none⟩ => (l.take q).zipIdx.all fun (o, k) => k == n || (isQ4 o && (o.dst != some d) && o.dst.isSome && !(looks l o).contains d && (Nat.ble k n || (match o.dst with | some s => !(looks l ⟨some d, .makeSlice t x y, ty, pos, after, none⟩).contains s | none => true)))
   | _ => false)
theorem regionOK5_spec {l : List Oper} (h : regionOK5 l = true) : ∃ q n d oa, n = mkAt l ∧ q = l.length - 1 ∧ Checked5 l q n d oa ∧ ∀ k o, n < k → k < q → l[k]? = some o → ∀ s ∈ looks l oa, o.dst ≠ some s := by
  unfold regionOK5 at h
  simp only [Bool.and_eq_true, Nat.ble_eq] at h
  obtain ⟨⟨h1, h2⟩, h3⟩ := h
  split at h3
  · rename_i d t x y ty pos after hl
    have hall : ∀ k o, k < l.length - 1 → l[k]? = some o → _ := fun k o hk ho => by
      rw [List.all_eq_true] at h3
      exact h3 (o, k) (List.mem_iff_getElem?.2 ⟨k, by rw [List.getElem?_zipIdx, List.getElem?_take, if_pos hk, ho]; simp⟩)
    refine ⟨l.length - 1, mkAt l, d, _, rfl, rfl, ⟨regionOK_spec h1, h2, by omega, hl, ⟨t, x, y, rfl⟩, rfl, rfl, fun k o hk hne ho => ?_⟩, fun k o hnk hk ho s hs => ?_⟩
    · have := hall k o hk ho
      simp only [Bool.or_eq_true, beq_iff_eq, hne, false_or, Bool.and_eq_true, bne_iff_ne, ne_eq, Bool.not_eq_true'] at this
      refine ⟨this.1.1.1.1, this.1.1.1.2, fun hm => ?_⟩
      have h4 : (looks l o).contains d = true := by simpa using hm
      rw [h4] at this; exact absurd this.1.2 (by simp)
    · have := hall k o hk ho
      simp only [Bool.or_eq_true, beq_iff_eq, (show ¬ k = mkAt l by omega), false_or, Bool.and_eq_true, Nat.ble_eq, (show ¬ k ≤ mkAt l by omega)] at this
      intro hd
      have h5 := this.2
      rw [hd] at h5
      simp only [Bool.not_eq_true'] at h5
      have h6 : (looks l ⟨some d, .makeSlice t x y, ty, pos, after, none⟩).contains s = true := by simpa using hs
      rw [h6] at h5; cases h5
  · cases h3
def heads5 (l : List Oper) : List Oper := l.take (mkAt l) ++ (l.take (l.length - 1)).drop (mkAt l + 1)
def tails5 (l : List Oper) : List Oper := (l.drop (mkAt l)).take 1 ++ l.drop (l.length - 1)
/-- A REGION THAT DRAWS ITS ORDER: quiet operations and a row's laying in any order, then the last. -/
theorem wp_drawn5 {id : Nat} {l : List Oper} {K : St → Prop} {Q : Exit → Act → World → Prop} {st : St} {a : Act} {w : World} (hm : P.follows .mixedOrders = true) (hc : regionOK5 l = true)
    (hQ : ∀ st a w, Sim Z N B M w0 st a w → K st → Q .normal a w) (hs : Sim Z N B M w0 st a w)
    (hq : noD (mkD l) st ∧ headA P N l (heads5 l) st fun st' => noD (mkD l) st' ∧ opsA P N l (tails5 l) st' K) :
    SW P (Code.region id l.toArray true) Q a w := by
  obtain ⟨q, n, d, oa, hn, hqq, hX, hafter⟩ := regionOK5_spec hc
  unfold heads5 tails5 at hq
  rw [← hn, ← hqq] at hq
  have hd : mkD l = d := by
    rw [mkD_eq (by rw [← hn]; exact hX.ha), hX.dst]; rfl
  rw [hd] at hq
  obtain ⟨hn0, hq⟩ := hq
  obtain ⟨V, S, h1, h2, hnn, h3⟩ := headA_values hq
  have hlen := hX.len
  have hlt := hX.lt
  have htk : (l.take n ++ (l.take q).drop (n + 1)).length = q - 1 := by
    rw [List.length_append, List.length_drop, List.length_take, List.length_take]; omega
  rw [htk] at hnn h3
  have hdr : (l.drop n).take 1 = [oa] := by
    have := hX.ha
    rw [List.drop_eq_getElem_cons (show n < l.length by omega)]
    rw [List.getElem?_eq_getElem (by omega)] at this
    rw [Option.some.inj this]; rfl
  rw [hdr] at h3
  have hY : ∀ k o, k < q → k ≠ n → l[k]? = some o → Yl P N l (S (if k ≤ n then k else k - 1)) o (V (if k < n then k else k - 1)) ∧ S (if k + 1 ≤ n then k + 1 else k + 1 - 1) = (S (if k ≤ n then k else k - 1)).put o.dst (V (if k < n then k else k - 1)) := fun k o hk hne ho => by
    rcases Nat.lt_or_ge k n with h | h
    · rw [if_pos (by omega), if_pos h, if_pos (by omega)]
      exact h2 k o (by rw [List.getElem?_append_left (by rw [List.length_take]; omega), List.getElem?_take, if_pos h]; exact ho)
    · rw [if_neg (by omega), if_neg (by omega), if_neg (by omega)]
      have := h2 (k - 1) o (by
        rw [List.getElem?_append_right (by rw [List.length_take]; omega), List.getElem?_drop, List.length_take, List.getElem?_take, if_pos (by omega)]
        rw [show n + 1 + (k - 1 - min n l.length) = k by omega]
        exact ho)
      rw [show k - 1 + 1 = k by omega] at this
      exact this
  have hlooks : ∀ k, n + 1 ≤ k → k ≤ q → ∀ s ∈ looks l oa, lk s (S (k - 1)).s = lk s (S n).s := by
    intro k hk
    obtain ⟨r, rfl⟩ : ∃ r, k = n + 1 + r := ⟨k - (n + 1), by omega⟩
    clear hk
    induction r with
    | zero => intro _ s _; rfl
    | succ r ih =>
      intro hkq s hs'
      obtain ⟨o, ho⟩ : ∃ o, l[n + 1 + r]? = some o := ⟨l[n + 1 + r], by simp [show n + 1 + r < l.length by omega]⟩
      have := (hY (n + 1 + r) o (by omega) (by omega) ho).2
      rw [if_neg (by omega), if_neg (by omega)] at this
      rw [show n + 1 + (r + 1) - 1 = n + 1 + r + 1 - 1 by omega, this, lk_put, if_neg (hafter (n + 1 + r) o (by omega) (by omega) ho s hs')]
      exact ih (by omega) s hs'
  obtain ⟨dst, op, ty, pos, after, guard⟩ := oa
  obtain ⟨t, x, y, g1⟩ := hX.op
  have g2 := hX.dst; have g3 := hX.guard
  simp only at g1 g2 g3
  subst g1 g2 g3
  have h3' : stepA P N l (S (q - 1)) ⟨some d, .makeSlice t x y, ty, pos, after, none⟩ (fun st' => opsA P N l (l.drop q) st' K) := h3
  rw [mk_step] at h3'
  obtain ⟨c, ob, hone, hcc, hdN, hK⟩ := onM_one h3'
  show wpAny P .any l.toArray Q l.toArray.size (Array.replicate l.toArray.size false) a { w with drawn := w.drawn + 1 }
  have hfalse : ∀ k, (Array.replicate l.length false).getD k false = false := fun k => by
    rcases Nat.lt_or_ge k l.length with h | h
    · simp [h]
    · simp [h]
  have := any5 (P := P) (x0 := .sl d) (V := fun k => V (if k < n then k else k - 1)) (S := fun k => S (if k ≤ n then k else k - 1)) hX hQ (by simpa using h1) hn0 (by rw [if_neg (by omega)]; exact hnn) hY (by rw [if_neg (by omega), if_pos (Nat.le_refl _)]; rfl) (ob := ob) (fun st K hlook hk => by
      rw [mk_step]
      rw [if_pos (Nat.le_refl _)] at hlook
      have e1 : ∀ z ∈ (Op.makeSlice t x y).operands, ev st z = ev (S (q - 1)) z := looks_ev (o := ⟨some d, .makeSlice t x y, ty, pos, after, none⟩) fun s hs' => (hlook s hs').trans (hlooks q (by omega) (Nat.le_refl _) s hs').symm
      rw [e1 x (by simp [Op.operands]), e1 y (by simp [Op.operands])]
      exact (hone _).2 ⟨hcc, hdN, hk⟩) (by rw [if_neg (by omega)]; exact hK) l.length (Array.replicate l.length false) st a { w with drawn := w.drawn + 1 } (by simp) (fun k o _ hk => by rw [hfalse k] at hk; cases hk)
    (fun t _ _ => hfalse t) (by
      have : (List.range l.length).countP (fun k => !(Array.replicate l.length false).getD k false) = (List.range l.length).length := by
        rw [List.countP_eq_length]; intro k _; rw [hfalse k]; rfl
      rw [this]; simp) rfl (fun s => (upto_out _ _ (fun k => (Array.replicate l.length false).getD k false && (k != n)) fun k o _ hk => by simp only [hfalse k, Bool.false_and] at hk; cases hk).symm)
    (by rw [hfalse n, if_neg (by simp)]; obtain ⟨β, φ, hB⟩ := hs; exact ⟨β, φ, hB.drawn⟩)
  simpa using this
def init1 : List Oper → List Oper
  | o :: o1 :: r => o :: init1 (o1 :: r)
  | _ => []
def last1 : List Oper → List Oper
  | _ :: o1 :: r => last1 (o1 :: r)
  | l => l
def mkOp : List Oper → List Oper
  | [] => []
  | o :: r => bif isMk o then [o] else mkOp r
def heads5r : List Oper → List Oper
  | o :: o1 :: r => bif isMk o then init1 (o1 :: r) else o :: heads5r (o1 :: r)
  | _ => []
def tails5r (l : List Oper) : List Oper := mkOp l ++ last1 l
theorem init1_eq : ∀ l : List Oper, l.take (l.length - 1) = init1 l
  | [] => rfl
  | [_] => rfl
  | o :: o1 :: r => by
    have := init1_eq (o1 :: r)
    simp only [List.length_cons, Nat.add_sub_cancel] at this ⊢
    rw [List.take_succ_cons, this, init1]
theorem last1_eq : ∀ l : List Oper, l.drop (l.length - 1) = last1 l
  | [] => rfl
  | [_] => rfl
  | o :: o1 :: r => by
    have := last1_eq (o1 :: r)
    simp only [List.length_cons, Nat.add_sub_cancel] at this ⊢
    rw [List.drop_succ_cons, this, last1]
theorem mkOp_eq : ∀ l : List Oper, (l.drop (mkAt l)).take 1 = mkOp l
  | [] => rfl
  | o :: r => by
    have h := mkOp_eq r
    unfold mkAt at h ⊢
    rw [List.findIdx_cons, mkOp]
    cases isMk o with
    | true => rfl
    | false => exact h
theorem heads5_eq : ∀ l : List Oper, mkAt l + 1 ≤ l.length - 1 → heads5 l = heads5r l
  | [], h => by simp at h
  | [_], h => by simp at h
  | o :: o1 :: r, h => by
    unfold heads5 at *
    have ih := heads5_eq (o1 :: r)
    unfold heads5 at ih
    rw [init1_eq]
    rw [init1_eq] at ih
    unfold mkAt at h ih ⊢
    rw [List.findIdx_cons] at h ⊢
    rw [init1, heads5r]
    cases hx : isMk o with
    | true => simp
    | false =>
      rw [hx] at h
      simp only [cond_false, List.length_cons] at h ih ⊢
      rw [List.take_succ_cons, List.cons_append, List.drop_succ_cons, ih (by omega)]
theorem regionOK5_lt {l : List Oper} (h : regionOK5 l = true) : mkAt l + 1 ≤ l.length - 1 := by
  unfold regionOK5 at h
  simp only [Bool.and_eq_true, Nat.ble_eq] at h
  exact h.1.2
end
end Abs
