/- What functions of this program compute, as contracts over plain data, with what the proofs need of them. No condition. -/
import Derived.Test.YtfaamimlkogcpaaAbsShelf
import Derived.Shelf.SlSortCmp.Whole1
import Derived.Shelf.SlicesE.Delete
import Derived.Test.YtfaamimlkogcpaaV2
import Derived.Lib.RowBridge
import Derived.Shelf.SlSortCmp.NoneTotal
set_option linter.all false
namespace Abs
open Go Go.RowKit Go.Sort Go.Proofs Go.Shelf

def D.one : D → Bool
  | .int _ _ => true
  | .bool _ => true
  | .str _ => true
  | .slice _ => true
  | .ptr _ => true
  | .nilptr => true
  | _ => false
theorem D.one_cells {x : D} (h : x.one = true) : x.cells = [x] := by
  cases x <;> first | rfl | cases h
theorem flat_oneD : ∀ {es : List D}, (∀ x ∈ es, x.one = true) → flat es = es
  | [], _ => rfl
  | x :: r, h => by
    have := flat_oneD (es := r) fun y hy => h y (by simp [hy])
    simp only [flat, List.flatMap_cons] at this ⊢
    rw [this, D.one_cells (h x (by simp))]; rfl
theorem Rd.one {S w x v} (hx : x.one = true) (h : Rd S w x v) : v.oneCell' = true := by
  cases h <;> first | rfl | cases hx

def mkR (zv : Value) (xs : List Value) (i : Nat) : Value := xs.getD i zv
theorem mkR_one {S w} {zv : Value} {xs : List Value} {es : List D} (hz : zv.oneCell' = true) (hes : ∀ x ∈ es, x.one = true) (hl : xs.length = es.length) (hr : ∀ i, i < es.length → Rd S w (es.getD i .nilptr) (xs.getD i Go.undef)) (i : Nat) : (mkR zv xs i).oneCell' = true := by
  unfold mkR
  by_cases hi : i < xs.length
  · have h1 := hr i (by omega)
    have h2 : (es.getD i .nilptr).one = true := hes _ (by
      rw [List.getD_eq_getElem?_getD, List.getElem?_eq_getElem (by omega)]; exact List.getElem_mem _)
    have h3 : xs.getD i zv = xs.getD i Go.undef := by simp [List.getD_eq_getElem?_getD, hi]
    rw [h3]; exact Rd.one h2 h1
  · have h3 : xs.getD i zv = zv := by simp [List.getD_eq_getElem?_getD, hi]
    rw [h3]; exact hz

theorem arr_openD {β S w e es v F} (hes : ∀ x ∈ es, x.one = true) (h : OK β S w (.arr e 1 es) v F) : (v = .slice none 0 0 ∧ es = []) ∨
    ∃ g cap cur xs, v = .slice (some ⟨g, 0, none⟩) es.length cap ∧ w.heap[g]? = some (.cells cur e (0, 0)) ∧ es.length ≤ cap ∧ cap ≤ maxLen ∧ cur.size = cap ∧ cur.toList.take es.length = xs ∧ xs.length = es.length ∧
      ∀ i, i < es.length → Rd S w (es.getD i .nilptr) (xs.getD i Go.undef) := by
  cases h with
  | arr hF vs hk0 hk hw hr =>
    rw [flat_oneD hes] at hr
    rcases hw.2 with ⟨h1, h2⟩ | ⟨g, cap, cur, h1, _, h3, h4, h5, h6, h7⟩
    · exact .inl ⟨h1, by simpa using h2⟩
    · exact .inr ⟨g, cap, cur, vs, by simpa using h1, h3, by simpa using h4, h5, by simpa using h6, by simpa using h7, by simpa using hw.1, hr⟩
theorem arr_closeD {β' S' w' e g cap} {cur' : Array Value} {es' : List D} {xs' : List Value} (hes : ∀ x ∈ es', x.one = true) (hb : w'.heap[g]? = some (.cells cur' e (0, 0))) (hcap : es'.length ≤ cap) (hm : cap ≤ maxLen) (hsz : cur'.size = cap)
    (hl : xs'.length = es'.length) (ht : cur'.toList.take es'.length = xs') (hr : ∀ i, i < es'.length → Rd S' w' (es'.getD i .nilptr) (xs'.getD i Go.undef)) :
    OK β' S' w' (.arr e 1 es') (.slice (some ⟨g, 0, none⟩) es'.length cap) (ownS (.slice (some ⟨g, 0, none⟩) es'.length cap)) := by
  refine .arr rfl xs' (by omega) (fun x hx => by rw [D.one_cells (hes x hx)]; rfl) ⟨by simpa using hl, .inr ⟨g, cap, cur', by simp, Nat.zero_le _, hb, by simpa using hcap, hm, by simpa using hsz, by simpa using ht⟩⟩ fun i hi => ?_
  rw [flat_oneD hes] at hi ⊢
  exact hr i hi
theorem arr_nilD {β' S' w' e} : OK β' S' w' (.arr e 1 []) (.slice none 0 0) (ownS (.slice none 0 0)) :=
  .arr rfl [] (by omega) (by simp) ⟨by simp, .inl ⟨rfl, by simp⟩⟩ (by simp [flat])

theorem holds_ofD {w : World} {g : Nat} {cur : Array Value} {e : TypeId} {xs : List Value} (zv : Value) (hb : w.heap[g]? = some (.cells cur e (0, 0))) (ht : cur.toList.take xs.length = xs) : Holds (mkR zv xs) w g 0 (Array.range xs.length) := by
  intro j hj
  have hj' : j < xs.length := by simpa using hj
  refine ⟨?_, by simp [World.frozen?, hb]⟩
  have h1 := congrArg (fun l : List Value => l[j]?) ht
  simp only [List.getElem?_take, if_pos hj', Array.getElem?_toList] at h1
  have h2 : (Array.range xs.length)[j]! = j := by rw [getElem!_pos _ j (by simpa using hj')]; simp
  rw [h2]
  simp [World.cell?, hb, h1, mkR, hj', List.getD_eq_getElem?_getD]

section
variable {α : Type} [Inhabited α] {enc : α → Value}
theorem putRow_blockD {w : World} {g : Nat} {cur : Array Value} {e : TypeId} (d : Array α) (hb : w.heap[g]? = some (.cells cur e (0, 0))) :
    (putRow enc w g 0 d).heap[g]? = some (.cells (putCells enc 0 d cur) e (0, 0)) := by
  simp [putRow, mapBlock, Array.getElem?_modify, hb, onCells]
theorem putRow_otherD {w : World} {g k : Nat} (d : Array α) (h : k ≠ g) : (putRow enc w g 0 d).heap[k]? = w.heap[k]? := by
  simp only [putRow, mapBlock, Array.getElem?_modify]
  rw [if_neg (Ne.symm h)]
theorem putCells_takeD (d : Array α) (cur : Array Value) (k : Nat) (hk : k ≤ d.size) (hd : d.size ≤ cur.size) : (putCells enc 0 d cur).toList.take k = (d.toList.take k).map enc := by
  apply List.ext_getElem?
  intro i
  simp only [List.getElem?_take, List.getElem?_map, putCells]
  split
  · rename_i hi
    have h1 : i < cur.size := by omega
    have h2 : i < d.size := by omega
    simp [h1, h2]
  · rfl
theorem sortWorld_otherD {w : World} {g m k : Nat} {d : Array α} {os : Array Obj} (hk : k < w.heap.size) (hne : k ≠ g) : (sortWorld enc w g 0 m d os).heap[k]? = w.heap[k]? := by
  show ((putRow _ (ahead w m) g 0 d).heap ++ os)[k]? = _
  rw [Array.getElem?_append_left (by rw [Go.Sort.size_putRow]; exact hk), putRow_otherD _ hne]; rfl
theorem sortWorld_frD {w : World} {g m : Nat} {d : Array α} {os : Array Obj} {M : Nat → Prop} (hM : M g) : Fr w.heap.size M w (sortWorld enc w g 0 m d os) := by
  refine ⟨rfl, rfl, rfl, ?_, ?_, fun k hk hkM => sortWorld_otherD hk fun e => hkM (e ▸ hM), Nat.le_add_right _ _⟩
  · show w.heap.size ≤ ((putRow _ (ahead w m) g 0 d).heap ++ os).size
    rw [Array.size_append, Go.Sort.size_putRow]; simp
  · show w.heap.size ≤ ((putRow _ (ahead w m) g 0 d).heap ++ os).size
    rw [Array.size_append, Go.Sort.size_putRow]; simp
theorem sortWorld_blockD {w : World} {g m : Nat} {d : Array α} {os : Array Obj} {cur : Array Value} {e : TypeId} (hb : w.heap[g]? = some (.cells cur e (0, 0))) :
    (sortWorld enc w g 0 m d os).heap[g]? = some (.cells (putCells enc 0 d cur) e (0, 0)) := by
  have hlt : g < w.heap.size := (Array.getElem?_eq_some_iff.1 hb).1
  show ((putRow _ (ahead w m) g 0 d).heap ++ os)[g]? = _
  rw [Array.getElem?_append_left (by rw [Go.Sort.size_putRow]; exact hlt)]
  exact putRow_blockD d hb
end
theorem Rd.sortW {α : Type} [Inhabited α] {enc : α → Value} {S : Nat → Prop} {w : World} {g m : Nat} {d : Array α} {os : Array Obj} (hS : ∀ b, S b → b ≠ g) {x v} (h : Rd S w x v) : Rd S (sortWorld enc w g 0 m d os) x v :=
  h.move fun b hb hlt => ⟨hb, sortWorld_otherD hlt (hS b hb)⟩

structure Writ (es es' : List D) (d : Array Nat) : Prop where
  le : d.size ≤ es.length
  le' : es'.length ≤ d.size
  lt : ∀ i ∈ d.toList.take es'.length, i < es.length
  eq : (d.toList.take es'.length).map (fun i => es.getD i .nilptr) = es'

theorem CtrM.rowD {P : Program} {f : FuncId} {rest : List AV} {e : TypeId} {es es' : List D} (zv : Value) (cut : Bool) (hent : Enters P f) (hes : ∀ x ∈ es, x.one = true) (hl : es'.length ≤ es.length) (hc : cut = false → es'.length = es.length)
    (h : ∀ (S : Nat → Prop) (β : Nat → Value) (w : World) (rv : List Value), rv.length = rest.length → (∀ i, i < rest.length → Rel β S w (rest.getD i .undef) (rv.getD i Go.undef)) →
      (es = [] → Calls P f (.slice none 0 0 :: rv).toArray w fun en w' => en = .returned (if cut then .slice none 0 0 else .tuple #[]) ∧ w' = w) ∧
      (∀ g cap xs, (∀ b, S b → b ≠ g) → xs.length = es.length → (∀ i, i < es.length → Rd S w (es.getD i .nilptr) (xs.getD i Go.undef)) → Holds (mkR zv xs) w g 0 (Array.range es.length) → g < w.heap.size → es.length ≤ cap → cap ≤ maxLen →
        Calls P f (.slice (some ⟨g, 0, none⟩) es.length cap :: rv).toArray w fun en w' => en = .returned (if cut then .slice (some ⟨g, 0, none⟩) es'.length cap else .tuple #[]) ∧ ∃ m d os, Writ es es' d ∧ w' = sortWorld (mkR zv xs) w g 0 m d os)) :
    CtrM P f (.sl 0 :: rest) [(0, .arr e 1 es)] (if cut then [] else [0]) true (if cut then .sl 0 else .tup []) [(0, .arr e 1 es')] := by
  refine ⟨hent, fun S β φ w vs hvl hvr hO hD => ?_⟩
  cases vs with
  | nil => simp at hvl
  | cons v rv =>
    obtain ⟨h1, h2⟩ := h (free S φ [(0, .arr e 1 es)]) β w rv (by simpa using hvl) fun i hi => by simpa using hvr (i + 1) (by simpa using hi)
    have hv : v = β 0 := by
      have := hvr 0 (by simp)
      simp only [List.getD_cons_zero] at this
      cases this; rfl
    have hOk := hO 0 (.arr e 1 es) (by simp [lk])
    have hFo : φ 0 = ownS (β 0) := by
      generalize β 0 = v0 at *
      generalize φ 0 = F0 at *
      cases hOk with | arr hF => exact hF
    have one : ∀ {j : Nat} {o : AO} {l : List D}, lk j [(0, AO.arr e 1 l)] = some o → j = 0 ∧ o = .arr e 1 l := fun hj => by
      simp only [lk] at hj
      split at hj
      · rename_i e'; cases hj; exact ⟨e', rfl⟩
      · cases hj
    rcases arr_openD hes hOk with ⟨h3, rfl⟩ | ⟨g, cap, cur, xs, h3, h4, h5, h6, h7, h8, h9, h10⟩
    · obtain rfl : es' = [] := by simpa using hl
      rw [hv, h3]
      refine (h1 rfl).mono fun en w' ⟨he, hw⟩ => ⟨_, he, ?_, ?_⟩
      · subst hw; exact ⟨rfl, rfl, rfl, Nat.le_refl _, Nat.le_refl _, fun _ _ _ => rfl, Nat.le_refl _⟩
      · subst hw
        refine ⟨β, φ, by cases cut <;> simp, ?_, fun j o hj => ?_, fun j o g hj hg => ?_, fun j j' o o' g hj hj' _ _ => ?_⟩
        · cases cut with
          | true => simp only [if_true]; rw [← h3]; exact .sl 0
          | false => exact Rel.tup (xs := []) (vs := []) rfl (by simp)
        · obtain ⟨rfl, rfl⟩ := one hj
          rw [hFo, h3]; exact arr_nilD
        · obtain ⟨rfl, rfl⟩ := one hj
          rw [hFo, h3] at hg; cases hg
        · rw [(one hj).1, (one hj').1]
    · have hlt : g < w.heap.size := (Array.getElem?_eq_some_iff.1 h4).1
      have hM : blocksOf φ [(0, AO.arr e 1 es)] g := ⟨0, .arr e 1 es, by simp [lk], by rw [hFo, h3]; rfl⟩
      have hSg : ∀ b, free S φ [(0, AO.arr e 1 es)] b → b ≠ g := fun b hb e' => hb.2 0 (.arr e 1 es) (by simp [lk]) (by rw [hFo, h3, e']; rfl)
      have hH := holds_ofD (xs := xs) zv h4 (by rw [h9]; exact h8)
      rw [h9] at hH
      rw [hv, h3]
      refine (h2 g cap xs hSg h9 h10 hH hlt h5 h6).mono fun en w' ⟨he, m, d, os, hW, hw⟩ => ⟨_, he, ?_, ?_⟩
      · subst hw; exact sortWorld_frD hM
      · subst hw
        have hdl : (d.toList.take es'.length).length = es'.length := by rw [List.length_take, Array.length_toList]; exact Nat.min_eq_left hW.le'
        have hok : ∀ S', (∀ b, free S φ [(0, AO.arr e 1 es)] b → S' b) → ∀ β', OK β' S' (sortWorld (mkR zv xs) w g 0 m d os) (.arr e 1 es') (.slice (some ⟨g, 0, none⟩) es'.length cap) (ownS (.slice (some ⟨g, 0, none⟩) es'.length cap)) := fun S' hS' β' => by
          refine arr_closeD (xs' := (d.toList.take es'.length).map (mkR zv xs)) (fun x hx => ?_) (sortWorld_blockD h4) (by omega) h6 (by simp [putCells, h7]) (by rw [List.length_map, hdl])
            (putCells_takeD d cur es'.length hW.le' (by have := hW.le; omega)) fun i hi => ?_
          · rw [← hW.eq] at hx
            obtain ⟨i, hi, rfl⟩ := List.mem_map.1 hx
            have := hW.lt i hi
            exact hes _ (by rw [List.getD_eq_getElem?_getD, List.getElem?_eq_getElem this]; exact List.getElem_mem _)
          · have hi' : i < (d.toList.take es'.length).length := by rw [hdl]; exact hi
            have hlt' := hW.lt _ (List.getElem_mem hi')
            have e1 : es'.getD i .nilptr = es.getD (d.toList.take es'.length)[i] .nilptr := by
              have := congrArg (fun l : List D => l.getD i .nilptr) hW.eq
              rw [← this, List.getD_eq_getElem?_getD, List.getElem?_map, List.getElem?_eq_getElem hi']; rfl
            have e2 : ((d.toList.take es'.length).map (mkR zv xs)).getD i Go.undef = xs.getD (d.toList.take es'.length)[i] Go.undef := by
              rw [List.getD_eq_getElem?_getD, List.getElem?_map, List.getElem?_eq_getElem hi']
              simp only [Option.map_some, Option.getD_some, mkR]
              rw [List.getD_eq_getElem?_getD, List.getD_eq_getElem?_getD, List.getElem?_eq_getElem (by omega)]; rfl
            rw [e1, e2]
            exact (Rd.sortW hSg (h10 _ hlt')).weaken hS'
        have hown : ∀ {v : Value} {φ' : Nat → Nat → Prop}, (∀ b, φ' 0 b → φ 0 b) → ∀ b, free S φ [(0, AO.arr e 1 es)] b → free (fun g => w.heap.size ≤ g ∨ blocksOf φ [(0, AO.arr e 1 es)] g ∨ (true = true ∧ S g)) φ' [(0, AO.arr e 1 es')] b := fun {_ φ'} hφ b hb =>
          ⟨.inr (.inr ⟨rfl, hb.1⟩), fun j o hj hg => by
            obtain ⟨rfl, _⟩ := one hj
            exact hb.2 0 (.arr e 1 es) (by simp [lk]) (hφ b hg)⟩
        cases cut with
        | false =>
          have hll := hc rfl
          refine ⟨β, φ, fun _ _ => rfl, Rel.tup (xs := []) (vs := []) rfl (by simp), fun j o hj => ?_, fun j o g' hj hg => ?_, fun j j' o o' g hj hj' _ _ => ?_⟩
          · obtain ⟨rfl, rfl⟩ := one hj
            have := hok _ (hown (v := v) fun _ h => h) β
            rw [hFo, h3, ← hll]; exact this
          · obtain ⟨rfl, rfl⟩ := one hj
            rw [hFo, h3] at hg
            cases hg
            exact .inr hM
          · rw [(one hj).1, (one hj').1]
        | true =>
          refine ⟨fun _ => .slice (some ⟨g, 0, none⟩) es'.length cap, fun _ => ownS (.slice (some ⟨g, 0, none⟩) es'.length cap), by simp, ?_, fun j o hj => ?_, fun j o g' hj hg => ?_, fun j j' o o' g hj hj' _ _ => ?_⟩
          · exact Rel.sl (β := fun _ => Value.slice (some ⟨g, 0, none⟩) es'.length cap) 0
          · obtain ⟨rfl, rfl⟩ := one hj
            exact hok _ (hown (v := v) fun b hb => by rw [hFo, h3]; exact hb) _
          · obtain ⟨rfl, rfl⟩ := one hj
            cases hg
            exact .inr hM
          · rw [(one hj).1, (one hj').1]

theorem Ctr.cmpLays {P : Program} {f : FuncId} {cf : Nat → Nat → Int} {es : List D} {zd : D} {zv : Value} {xs : List Value} {S : Nat → Prop} {w : World} {g n : Nat} (hz : ∀ w, Rd (fun _ => True) w zd zv)
    (hf : ∀ i j, Ctr P f [es.getD i zd, es.getD j zd] false (.d (.int .i64 (cf i j))) []) (hS : ∀ b, S b → b ≠ g) (hl : xs.length = es.length) (hr : ∀ i, i < es.length → Rd S w (es.getD i .nilptr) (xs.getD i Go.undef)) :
    CmpLays1 P f #[] (mkR zv xs) cf g 0 n w := fun m os dk _ i j => by
  have hrd : ∀ i, Rd (fun _ => True) (sortWorld (mkR zv xs) w g 0 m dk os) (es.getD i zd) (mkR zv xs i) := fun i => by
    by_cases hi : i < es.length
    · have e1 : es.getD i zd = es.getD i .nilptr := by simp [List.getD_eq_getElem?_getD, hi]
      have e2 : mkR zv xs i = xs.getD i Go.undef := by simp [mkR, List.getD_eq_getElem?_getD, show i < xs.length by omega]
      rw [e1, e2]
      exact (Rd.sortW hS (hr i hi)).weaken fun _ _ => trivial
    · have e1 : es.getD i zd = zd := by simp [List.getD_eq_getElem?_getD, hi]
      have e2 : mkR zv xs i = zv := by simp [mkR, List.getD_eq_getElem?_getD, show ¬ i < xs.length by omega]
      rw [e1, e2]; exact hz _
  have h := (hf i j).2 (fun _ => True) (sortWorld (mkR zv xs) w g 0 m dk os) [mkR zv xs i, mkR zv xs j] rfl (fun k hk => by
    match k, hk with
    | 0, _ => exact hrd i
    | 1, _ => exact hrd j)
  have he : (#[mkR zv xs i, mkR zv xs j] ++ #[] : Array Value) = [mkR zv xs i, mkR zv xs j].toArray := by simp
  rw [he]
  refine h.mono fun en w' ⟨v, hv, hF, β, φ, hR, _⟩ => ?_
  generalize sortWorld (mkR zv xs) w g 0 m dk os = W at *
  cases hR with
  | d hR =>
    cases hR
    refine ⟨hv, w'.drawn - W.drawn, w'.heap.extract W.heap.size w'.heap.size, ?_⟩
    have hh : w'.heap = W.heap ++ w'.heap.extract W.heap.size w'.heap.size := by
      apply Array.ext_getElem?
      intro k
      by_cases hk : k < W.heap.size
      · rw [Array.getElem?_append_left hk]; exact hF.block k hk (fun h => h)
      · rw [Array.getElem?_append_right (by omega)]
        have := hF.size
        by_cases hk2 : k < w'.heap.size
        · simp [hk2, show k - W.heap.size < w'.heap.size - W.heap.size by omega, show W.heap.size + (k - W.heap.size) = k by omega]
        · simp [hk2, show ¬ k - W.heap.size < w'.heap.size - W.heap.size by omega]
    have hd : w'.drawn = W.drawn + (w'.drawn - W.drawn) := by have := hF.drawn; omega
    have h1 := hF.os; have h2 := hF.tape; have h3 := hF.output
    obtain ⟨hp, tp, dr, o, ou⟩ := w'
    simp only at hh hd h1 h2 h3
    subst h1 h2 h3
    unfold grow World.drewN
    simp only
    rw [← hh, ← hd]
end Abs

namespace Abs.Y
open Go Go.Proofs Abs Go.Sort Go.Shelf Go.Lib Go.RowKit
open Nat renaming reduceEqDiff → zqa, reduceLT → zqb, reduceAdd → zqc, reduceMul → zqd, reduceSub → zqe, reduceLeDiff → zqf, reduceSubDiff → zqg, reduceBEq → zqh
open Bool renaming not_eq_true' → zba, not_eq_false' → zbb, and_eq_true → zbc, or_eq_true → zbd, or_eq_false_iff → zbe
open Int renaming ofNat_lt → zia, ofNat_le → zib, not_lt → zic, not_le → zid
open Decidable renaming not_not → zda
set_option maxRecDepth 100000

theorem onesAll64_ok : Ctr Try.prog 145 [.int .u64 18446744073709551615] false (.d (.int .i64 64)) [] := by
  refine Ctr.of (n := 35) (rs := [.tmp 2]) Try.func145 rfl rfl Try.ntmps145 rfl rfl (by kernel_rfl) Try.checked.mixed ?_
  simp (disch := first | omega | decide +kernel) only [go_sem, zqa, zqb, zqc, zqd, zqe, ↓reduceIte, reduceCtorEq, zqf, zqg, zqh]
  (repeat' (first | ((first | (refine gsel_split (fun q' => ?_) (fun q' => ?_) <;> (have h' := q') <;> (try simp only [decide_eq_true_eq, decide_eq_false_iff_not, zba, zbb, bne_iff_ne, ne_eq, beq_iff_eq, bne_eq_false_iff_eq, beq_eq_false_iff_ne, zia, zib, zic, zid, zda, zbc, zbd, zbe, gt_iff_lt, ge_iff_le] at h') <;> try (exfalso; omega)) | (have q' := trivial; first | refine hE _ _ ret_ne ?_ | refine hE _ _ exit_ne ?_)) <;> (try simp (disch := first | omega | decide +kernel) only [q', go_sem, zqa, zqb, zqc, zqd, zqe, ↓reduceIte, reduceCtorEq, zqf, zqg, zqh]) <;> clear q') | (refine hN _ ?_ ?_ Wk.kk) | (with_reducible refine And.intro ?_ ?_) | (with_reducible omega) | (exact ok_ints) | (exact cells_ints) | (exact no_mem) | (with_reducible exact plain_ints) | (refine le_maxLen ?_; omega) | (refine List.forall_mem_cons.2 ⟨?_, ?_⟩) | (simp only [go_sem, zqc, zqb, List.mem_cons, List.not_mem_nil, forall_eq]; done)))
  all_goals (first | (refine congrArg (D.int .i64) ?_; decide +kernel))
theorem onesAll_ok : Ctr Try.prog 122 [.int .u64 18446744073709551615] false (.d (.int .i64 64)) [] := by
  have c1 := onesAll64_ok
  refine Ctr.of (n := 8) (rs := [.tmp 2]) Try.func122 rfl rfl Try.ntmps122 rfl rfl (by kernel_rfl) Try.checked.mixed ?_
  simp (disch := first | omega | decide +kernel) only [go_sem, zqa, zqb, zqc, zqd, zqe, ↓reduceIte, reduceCtorEq, zqf, zqg, zqh]
  (repeat' (first | ((first | (refine gsel_split (fun q' => ?_) (fun q' => ?_) <;> (have h' := q') <;> (try simp only [decide_eq_true_eq, decide_eq_false_iff_not, zba, zbb, bne_iff_ne, ne_eq, beq_iff_eq, bne_eq_false_iff_eq, beq_eq_false_iff_ne, zia, zib, zic, zid, zda, zbc, zbd, zbe, gt_iff_lt, ge_iff_le] at h') <;> try (exfalso; omega)) | (have q' := trivial; first | refine callX_new (c1) rfl (by decide) ?_ | refine callY_new (c1) rfl ?_ | refine hE _ _ ret_ne ?_ | refine hE _ _ exit_ne ?_)) <;> (try simp (disch := first | omega | decide +kernel) only [q', go_sem, zqa, zqb, zqc, zqd, zqe, ↓reduceIte, reduceCtorEq, zqf, zqg, zqh]) <;> clear q') | (refine hN _ ?_ ?_ Wk.kk) | (with_reducible refine And.intro ?_ ?_) | (with_reducible omega) | (exact ok_ints) | (exact cells_ints) | (exact no_mem) | (with_reducible exact plain_ints) | (refine le_maxLen ?_; omega) | (refine List.forall_mem_cons.2 ⟨?_, ?_⟩) | (simp only [go_sem, zqc, zqb, List.mem_cons, List.not_mem_nil, forall_eq]; done)))
  all_goals (first | omega)
theorem degreeOfNeg_ok : Ctr Try.prog 96 [.int .i64 (-1)] false (.d (.int .i64 64)) [] := by
  have e : IntKind.u64.wrap (-1) = 18446744073709551615 := by decide +kernel
  have c1 := onesAll_ok
  refine Ctr.of (n := 6) (rs := [.tmp 2]) Try.func96 rfl rfl Try.ntmps96 rfl rfl (by kernel_rfl) Try.checked.mixed ?_
  simp (disch := first | omega | decide +kernel) only [e, go_sem, zqa, zqb, zqc, zqd, zqe, ↓reduceIte, reduceCtorEq, zqf, zqg, zqh]
  (repeat' (first | ((first | (refine gsel_split (fun q' => ?_) (fun q' => ?_) <;> (have h' := q') <;> (try simp only [decide_eq_true_eq, decide_eq_false_iff_not, zba, zbb, bne_iff_ne, ne_eq, beq_iff_eq, bne_eq_false_iff_eq, beq_eq_false_iff_ne, zia, zib, zic, zid, zda, zbc, zbd, zbe, gt_iff_lt, ge_iff_le] at h') <;> try (exfalso; omega)) | (have q' := trivial; first | refine callX_new (c1) rfl (by decide) ?_ | refine callY_new (c1) rfl ?_ | refine hE _ _ ret_ne ?_ | refine hE _ _ exit_ne ?_)) <;> (try simp (disch := first | omega | decide +kernel) only [q', e, go_sem, zqa, zqb, zqc, zqd, zqe, ↓reduceIte, reduceCtorEq, zqf, zqg, zqh]) <;> clear q') | (refine hN _ ?_ ?_ Wk.kk) | (with_reducible refine And.intro ?_ ?_) | (with_reducible omega) | (exact ok_ints) | (exact cells_ints) | (exact no_mem) | (with_reducible exact plain_ints) | (refine le_maxLen ?_; omega) | (refine List.forall_mem_cons.2 ⟨?_, ?_⟩) | (simp only [go_sem, zqc, zqb, List.mem_cons, List.not_mem_nil, forall_eq]; done)))
  all_goals (first | omega)
def cI (v : List Int) : Int := if ldI v < 0 then 64 else cnt (ldG v)
theorem cI_facts {v : List Int} (hl : v.length ≤ 64) : (ldI v = -1 ∧ cI v = 64) ∨ (0 ≤ ldI v ∧ ldI v ≤ 63 ∧ 0 ≤ cI v ∧ cI v ≤ 6 ∧ ldI v = (ldG v : Nat) ∧ cI v = cnt (ldG v)) := by
  rcases ldI_or v with ⟨h1, _⟩ | ⟨h1, h2, _⟩
  · refine .inl ⟨h1, ?_⟩
    unfold cI; rw [h1]; rfl
  · refine .inr ⟨by omega, by omega, ?_⟩
    have := cnt_le (ldG v)
    have e : cI v = cnt (ldG v) := by unfold cI; rw [if_neg (by omega)]
    exact ⟨by omega, by omega, h1, e⟩
theorem degreeOfX_ok {v : List Int} (hl : v.length ≤ 64) : Ctr Try.prog 96 [.int .i64 (ldI v)] false (.d (.int .i64 (cI v))) [] := by
  rcases cI_facts hl with ⟨h1, h2⟩ | ⟨_, h1, _, _, h2, h3⟩
  · rw [h1, h2]; exact degreeOfNeg_ok
  · rw [h3, h2]; exact degreeOf_ok (by omega)
def cmpV (a b : List Int) : Int := orI (cmpI (cI a) (cI b)) (cmpI (ldI a) (ldI b))
def keyI (v : List Int) : Int := cI v * 64 + ldI v
theorem cmpV_lt {a b : List Int} (ha : a.length ≤ 64) (hb : b.length ≤ 64) : cmpV a b < 0 ↔ keyI a < keyI b := by
  have h1 := cI_facts ha
  have h2 := cI_facts hb
  unfold cmpV orI keyI
  rcases cmpI_or (cI a) (cI b) with ⟨h3, h4⟩ | ⟨h3, h4⟩ | ⟨h3, h4⟩
  · rw [h4, if_pos (by decide)]; constructor <;> intro h <;> omega
  · rw [h4, if_pos (by decide)]; constructor <;> intro h <;> omega
  · rw [h4, if_neg (by decide)]
    rcases cmpI_or (ldI a) (ldI b) with ⟨h5, h6⟩ | ⟨h5, h6⟩ | ⟨h5, h6⟩ <;> rw [h6] <;> constructor <;> intro h <;> omega
theorem compareMonosX_ok {a b : List Int} (ha : a.length ≤ 64) (hb : b.length ≤ 64) : Ctr Try.prog 135 [.int .i64 (ldI a), .int .i64 (ldI b)] false (.d (.int .i64 (cmpV a b))) [] := by
  have c1 := degreeOfX_ok ha
  have c2 := degreeOfX_ok hb
  have c3 := compare_ok (cI a) (cI b)
  have c4 := compare_ok (ldI a) (ldI b)
  have c5 := or_ok (cmpI (cI a) (cI b)) (cmpI (ldI a) (ldI b))
  have h1 := cI_facts ha
  have h2 := cI_facts hb
  unfold cmpV
  generalize cI a = x at *
  generalize cI b = y at *
  generalize ldI a = z at *
  generalize ldI b = w at *
  clear h1 h2
  refine Ctr.of (n := 15) (rs := [.tmp 4]) Try.func135 rfl rfl Try.ntmps135 rfl rfl (by kernel_rfl) Try.checked.mixed ?_
  simp (disch := first | omega | decide +kernel) only [go_sem, zqa, zqb, zqc, zqd, zqe, ↓reduceIte, reduceCtorEq, zqf, zqg, zqh]
  (repeat' (first | ((first | (refine gsel_split (fun q' => ?_) (fun q' => ?_) <;> (have h' := q') <;> (try simp only [decide_eq_true_eq, decide_eq_false_iff_not, zba, zbb, bne_iff_ne, ne_eq, beq_iff_eq, bne_eq_false_iff_eq, beq_eq_false_iff_ne, zia, zib, zic, zid, zda, zbc, zbd, zbe, gt_iff_lt, ge_iff_le] at h') <;> try (exfalso; omega)) | (have q' := trivial; first | refine callX_new (c1) rfl (by decide) ?_ | refine callY_new (c1) rfl ?_ | refine callX_new (c2) rfl (by decide) ?_ | refine callY_new (c2) rfl ?_ | refine callX_new (c3) rfl (by decide) ?_ | refine callY_new (c3) rfl ?_ | refine callX_new (c4) rfl (by decide) ?_ | refine callY_new (c4) rfl ?_ | refine callX_new (c5) rfl (by decide) ?_ | refine callY_new (c5) rfl ?_ | refine hE _ _ ret_ne ?_ | refine hE _ _ exit_ne ?_)) <;> (try simp (disch := first | omega | decide +kernel) only [q', go_sem, zqa, zqb, zqc, zqd, zqe, ↓reduceIte, reduceCtorEq, zqf, zqg, zqh]) <;> clear q') | (refine hN _ ?_ ?_ Wk.kk) | (with_reducible refine And.intro ?_ ?_) | (with_reducible omega) | (exact ok_ints) | (exact cells_ints) | (exact no_mem) | (with_reducible exact plain_ints) | (refine le_maxLen ?_; omega) | (refine List.forall_mem_cons.2 ⟨?_, ?_⟩) | (simp only [go_sem, zqc, zqb, List.mem_cons, List.not_mem_nil, forall_eq]; done)))
  all_goals (first | omega | rfl)
theorem cmpSpan_ok {a b : List Int} (ha : a.length ≤ 64) (hb : b.length ≤ 64) : Ctr Try.prog 164 [.ints a, .ints b] false (.d (.int .i64 (cmpV a b))) [] := by
  have c1 := leading_ok ha
  have c2 := leading_ok hb
  have c3 := compareMonosX_ok ha hb
  generalize ldI a = x at *
  generalize ldI b = y at *
  generalize cmpV a b = z at *
  refine Ctr.of (n := 10) (rs := [.tmp 4]) Try.func164 rfl rfl Try.ntmps164 rfl rfl (by kernel_rfl) Try.checked.mixed ?_
  simp (disch := first | omega | decide +kernel) only [D.ints, go_sem, zqa, zqb, zqc, zqd, zqe, ↓reduceIte, reduceCtorEq, zqf, zqg, zqh]
  (repeat' (first | ((first | (refine gsel_split (fun q' => ?_) (fun q' => ?_) <;> (have h' := q') <;> (try simp only [decide_eq_true_eq, decide_eq_false_iff_not, zba, zbb, bne_iff_ne, ne_eq, beq_iff_eq, bne_eq_false_iff_eq, beq_eq_false_iff_ne, zia, zib, zic, zid, zda, zbc, zbd, zbe, gt_iff_lt, ge_iff_le] at h') <;> try (exfalso; omega)) | (have q' := trivial; first | refine callX_new (c1) rfl (by decide) ?_ | refine callY_new (c1) rfl ?_ | refine callX_new (c2) rfl (by decide) ?_ | refine callY_new (c2) rfl ?_ | refine callX_new (c3) rfl (by decide) ?_ | refine callY_new (c3) rfl ?_ | refine hE _ _ ret_ne ?_ | refine hE _ _ exit_ne ?_)) <;> (try simp (disch := first | omega | decide +kernel) only [q', D.ints, go_sem, zqa, zqb, zqc, zqd, zqe, ↓reduceIte, reduceCtorEq, zqf, zqg, zqh]) <;> clear q') | (refine hN _ ?_ ?_ Wk.kk) | (with_reducible refine And.intro ?_ ?_) | (with_reducible omega) | (exact ok_ints) | (exact cells_ints) | (exact no_mem) | (with_reducible exact plain_ints) | (refine le_maxLen ?_; omega) | (refine List.forall_mem_cons.2 ⟨?_, ?_⟩) | (simp only [go_sem, zqc, zqb, List.mem_cons, List.not_mem_nil, forall_eq]; done)))
  all_goals (first | omega)
def cfV (R : List (List Int)) (i j : Nat) : Int := cmpV (R.getD i []) (R.getD j [])
theorem len_getD {R : List (List Int)} (hl : ∀ x ∈ R, x.length ≤ 64) (i : Nat) : (R.getD i []).length ≤ 64 := by
  by_cases h : i < R.length
  · exact hl _ (getD_mem h)
  · rw [List.getD_eq_getElem?_getD, List.getElem?_eq_none (by omega)]; simp
theorem cfV_lt {R : List (List Int)} (hl : ∀ x ∈ R, x.length ≤ 64) (i j : Nat) : ltOf (cfV R) i j = decide (keyI (R.getD i []) < keyI (R.getD j [])) :=
  decide_eq_decide.2 (cmpV_lt (len_getD hl i) (len_getD hl j))
theorem cfV_swo {R : List (List Int)} (hl : ∀ x ∈ R, x.length ≤ 64) : SWO (ltOf (cfV R)) where
  irrefl i := by rw [cfV_lt hl]; simp
  trans i j k h1 h2 := by
    rw [cfV_lt hl] at *
    simp only [decide_eq_true_eq] at *
    omega
  ntrans i j k h1 h2 := by
    rw [cfV_lt hl] at *
    simp only [decide_eq_false_iff_not] at *
    omega
def sortV (R : List (List Int)) (L : Nat) : List (List Int) := (pdq (ltOf (cfV R)) (Array.range R.length) 0 R.length L true true).toList.map (fun i => R.getD i [])
theorem range_map_getV (cs : List (List Int)) : (List.range cs.length).map (fun i => cs.getD i []) = cs := by
  apply List.ext_getElem (by simp)
  intro i h1 h2
  simp [List.getD_eq_getElem?_getD, h2]
theorem pdqV {R : List (List Int)} (hl : ∀ x ∈ R, x.length ≤ 64) (L : Nat) : let d' := pdq (ltOf (cfV R)) (Array.range R.length) 0 R.length L true true
    d'.size = R.length ∧ (d'.toList.Perm (List.range R.length)) ∧ ∀ i j, i < j → j < R.length → ltOf (cfV R) d'[j]! d'[i]! = false := by
  intro d'
  have hps := pdq_sorts (ltOf (cfV R)) (cfV_swo hl) (Array.range R.length) 0 (Array.range R.length).size L true true (Nat.zero_le _) (Nat.le_refl _) (Or.inl rfl)
  simp only [Array.size_range] at hps
  change _ ∧ _ at hps
  obtain ⟨hp, hso⟩ := hps
  obtain ⟨hp1, _, hp3⟩ := hp
  change d'.size = _ at hp1
  simp only [Array.size_range] at hp1
  have hx1 : d'.extract 0 R.length = d' := by rw [← hp1]; simp
  have hx2 : (Array.range R.length).extract 0 R.length = Array.range R.length := by
    have : (Array.range R.length).size = R.length := by simp
    conv => lhs; rw [← this]
    simp
  change (d'.extract 0 R.length).toList.Perm _ at hp3
  rw [hx1, hx2, Array.toList_range] at hp3
  exact ⟨hp1, hp3, fun i j hij hj => hso i j (Nat.zero_le _) hij hj⟩
theorem sortV_perm {R : List (List Int)} (hl : ∀ x ∈ R, x.length ≤ 64) (L : Nat) : (sortV R L).Perm R := by
  have := (pdqV hl L).2.1.map fun i => R.getD i []
  rwa [range_map_getV] at this
theorem sortV_length {R : List (List Int)} (hl : ∀ x ∈ R, x.length ≤ 64) (L : Nat) : (sortV R L).length = R.length := (sortV_perm hl L).length_eq
theorem bitsLenV_ok (n : Nat) (hn : n ≤ 4294967296) : Ctr Try.prog 158 [.int .u64 (n : Int)] false (.d (.int .i64 (Lib.bitLen n : Nat))) [] := by
  refine ⟨⟨_, Try.func158, by kernel_rfl, by kernel_rfl⟩, fun S w vs hl hr => ?_⟩
  obtain ⟨v, rfl⟩ : ∃ v, vs = [v] := by
    match vs, hl with
    | [a], _ => exact ⟨a, rfl⟩
  have h := hr 0 (by simp)
  simp only [List.getD_cons_zero] at h
  cases h
  refine (Try.len_w n hn w).mono fun en w' ⟨he, hw⟩ => ⟨_, he, ?_, ?_⟩
  · subst hw; exact ⟨rfl, rfl, rfl, Nat.le_refl _, Nat.le_refl _, fun _ _ _ => rfl, Nat.le_refl _⟩
  · exact ⟨fun _ => Go.undef, fun _ _ => False, .d (.int _ _), fun j o hj => by simp [lk] at hj, fun j o g hj => by simp [lk] at hj, fun j j' o o' g hj hj' => by simp [lk] at hj⟩
theorem pdqV_ok (R : List (List Int)) (L : Nat) (hL : L ≤ 4294967296) (hn : R.length ≤ 4294967296) (hl : ∀ x ∈ R, x.length ≤ 64) :
    CtrM Try.prog 177 [.sl 0, .d (.int .i64 0), .d (.int .i64 (R.length : Nat)), .d (.int .i64 (L : Nat)), .fn (.func 164) []] [(0, .arr 78 1 (R.map D.ints))] [0] true (.tup []) [(0, .arr 78 1 ((sortV R L).map D.ints))] := by
  have hone : ∀ x ∈ R.map D.ints, x.one = true := fun x hx => by obtain ⟨c, _, rfl⟩ := List.mem_map.1 hx; rfl
  refine CtrM.rowD (es := R.map D.ints) (es' := (sortV R L).map D.ints) (.slice none 0 0) false ⟨_, Try.func177, by kernel_rfl, by kernel_rfl⟩ hone (by simp [sortV_length hl]) (fun _ => by simp [sortV_length hl]) fun S β w rv hl' hr => ?_
  obtain ⟨v0, v1, v2, v3, rfl⟩ : ∃ v0 v1 v2 v3, rv = [v0, v1, v2, v3] := by
    match rv, hl' with
    | [a, b, c, d], _ => exact ⟨a, b, c, d, rfl⟩
  have e0 : v0 = .int .i64 0 := by
    have := hr 0 (by simp)
    simp only [List.getD_cons_zero] at this
    cases this with
    | d h => cases h; rfl
  have e1 : v1 = .int .i64 (R.length : Nat) := by
    have := hr 1 (by simp)
    simp only [List.getD_cons_zero, List.getD_cons_succ] at this
    cases this with
    | d h => cases h; rfl
  have e2 : v2 = .int .i64 (L : Nat) := by
    have := hr 2 (by simp)
    simp only [List.getD_cons_zero, List.getD_cons_succ] at this
    cases this with
    | d h => cases h; rfl
  have e3 : v3 = .func (.func 164) #[] #[] := by
    have := hr 3 (by simp)
    simp only [List.getD_cons_zero, List.getD_cons_succ] at this
    cases this with
    | fn h1 h2 => obtain rfl := List.eq_nil_of_length_eq_zero h1; rfl
  subst e0 e1 e2 e3
  refine ⟨fun h => ?_, fun g cap xs hS hxl hxr hH hg hcap _ => ?_⟩
  · have h0 : R.length = 0 := by simpa using h
    rw [h0]
    exact AnyF.pdqsortCmpFunc_none { Try.layQ with } none 0 L _ w
  have eg : ∀ args w, (callFunc 164 args).run Try.prog w = .ok (.enter 164 args) w := enters_of Try.func164 (by kernel_rfl) rfl
  have hgd : ∀ i, (R.map D.ints).getD i (D.ints []) = D.ints (R.getD i []) := fun i => by
    simp only [List.getD_eq_getElem?_getD, List.getElem?_map]
    cases R[i]? <;> rfl
  have hc : CmpLays1 Try.prog 164 #[] (mkR (.slice none 0 0) xs) (cfV R) g 0 (Array.range (R.map D.ints).length).size w :=
    Ctr.cmpLays (es := R.map D.ints) (zd := D.ints []) (fun w => .nil _) (fun i j => by
      rw [hgd, hgd]; exact cmpSpan_ok (len_getD hl i) (len_getD hl j)) hS hxl hxr
  have h := Any.pdqsortCmpFunc_all Try.layQ (mkR (.slice none 0 0) xs) (cfV R) 164 #[] (cfV_swo hl) g 0 cap (Array.range (R.map D.ints).length) w eg hc ⟨mkR_one rfl hone hxl hxr, hH, hg⟩
    ((Array.range (R.map D.ints).length).size + 1) 0 (Array.range (R.map D.ints).length).size L (Array.range (R.map D.ints).length) w (by omega) rfl (SW.start hH) (Nat.zero_le _) (Nat.le_refl _) (by simp; omega) (by omega) (Or.inl rfl)
  obtain ⟨p1, p2, _⟩ := pdqV hl L
  simp only [Array.size_range, List.length_map] at h ⊢
  have hsv : (pdq (ltOf (cfV R)) (Array.range R.length) 0 R.length L true true).toList.map (fun i => R.getD i []) = sortV R L := rfl
  generalize pdq (ltOf (cfV R)) (Array.range R.length) 0 R.length L true true = d' at *
  refine Calls.mono h fun en w' ⟨he, n, os, hw⟩ => ⟨he, n, d', os, ?_, hw⟩
  have htake : d'.toList.take ((sortV R L).map D.ints).length = d'.toList := by
    rw [List.length_map, sortV_length hl, ← p1, ← Array.length_toList, List.take_length]
  refine ⟨by simp [p1], by simp [p1, sortV_length hl], fun i hi => ?_, ?_⟩
  · rw [htake] at hi
    have := p2.mem_iff.1 hi
    simpa using this
  · rw [htake, ← hsv, List.map_map]
    apply List.map_congr_left
    intro i hi
    have : i < R.length := by have := p2.mem_iff.1 hi; simpa using this
    simp [List.getD_eq_getElem?_getD, this]
theorem sortRows_ok (R : List (List Int)) (hn : R.length ≤ 4294967296) (hl : ∀ x ∈ R, x.length ≤ 64) :
    CtrM Try.prog 163 [.sl 0, .fn (.func 164) []] [(0, .arr 78 1 (R.map D.ints))] [0] true (.tup []) [(0, .arr 78 1 ((sortV R (Lib.bitLen R.length)).map D.ints))] := by
  have c1 := bitsLenV_ok R.length hn
  have hb : Lib.bitLen R.length ≤ 4294967296 := Nat.le_trans (Lib.bitLen_le R.length 62 (by omega) (by omega)) (by omega)
  have c2 := pdqV_ok R (Lib.bitLen R.length) hb hn hl
  have hw : IntKind.u64.wrap (R.length : Int) = (R.length : Nat) := by simp [IntKind.wrap, IntKind.bits, IntKind.signed]; omega
  refine CtrM.of (n := 14) (rs := []) Try.func163 rfl rfl Try.ntmps163 rfl rfl (by kernel_rfl) Try.checked.mixed ?_; intro u
  simp (disch := first | omega | decide +kernel) only [hw, go_sem, zqa, zqb, zqc, zqd, zqe, ↓reduceIte, reduceCtorEq, zqf, zqg, zqh]
  (repeat' (first | ((first | (refine gsel_split (fun q' => ?_) (fun q' => ?_) <;> (have h' := q') <;> (try simp only [decide_eq_true_eq, decide_eq_false_iff_not, zba, zbb, bne_iff_ne, ne_eq, beq_iff_eq, bne_eq_false_iff_eq, beq_eq_false_iff_ne, zia, zib, zic, zid, zda, zbc, zbd, zbe, gt_iff_lt, ge_iff_le] at h')) | (have q' := trivial; first | refine callX_new (c1) rfl (by decide) ?_ | refine callY_new (c1) rfl ?_ | refine hE _ _ ret_ne ?_ | refine hE _ _ exit_ne ?_)) <;> (try simp (disch := first | omega | decide +kernel) only [q', hw, go_sem, zqa, zqb, zqc, zqd, zqe, ↓reduceIte, reduceCtorEq, zqf, zqg, zqh]) <;> clear q') | (refine hN _ ?_ ?_ Wk.kk) | (with_reducible refine And.intro ?_ ?_) | (with_reducible omega) | (exact ok_ints) | (exact cells_ints) | (exact no_mem) | (with_reducible exact plain_ints) | (refine le_maxLen ?_; omega) | (refine List.forall_mem_cons.2 ⟨?_, ?_⟩) | (simp only [go_sem, zqc, zqb, List.mem_cons, List.not_mem_nil, forall_eq]; done)))
  refine callX_shareK 0 c2 ⟨.inl rfl, .inl rfl, .inl rfl, .inl rfl, .inl rfl, trivial⟩ rfl (by simp [dstB]) ?_
  simp (disch := first | omega | decide +kernel) only [hw, go_sem, zqa, zqb, zqc, zqd, zqe, ↓reduceIte, reduceCtorEq, zqf, zqg, zqh]
  exact retM_n rfl rfl rfl (.inl rfl)
end Abs.Y
