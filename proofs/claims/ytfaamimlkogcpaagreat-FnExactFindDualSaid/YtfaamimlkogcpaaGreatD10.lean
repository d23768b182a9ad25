/- What functions of this program compute, as contracts over plain data, with what the proofs need of them. No condition. -/
import Derived.Test.YtfaamimlkogcpaaGreatAbsShelf
import Derived.Shelf.SlSortCmp.Whole1
import Derived.Shelf.SlicesE.Delete
import Derived.Test.YtfaamimlkogcpaaGreatH3
import Derived.Test.YtfaamimlkogcpaaGreatD2
import Derived.Test.YtfaamimlkogcpaaGreatV2
import Derived.Lib.RowBridge
import Derived.Shelf.SlSortCmp.NoneTotal
import Derived.Test.YtfaamimlkogcpaaGreatD9
set_option linter.all false
open Nat renaming reduceEqDiff → zqa, reduceLT → zqb, reduceAdd → zqc, reduceMul → zqd, reduceSub → zqe, reduceLeDiff → zqf, reduceSubDiff → zqg, reduceBEq → zqh
open Bool renaming not_eq_true' → zba, not_eq_false' → zbb, and_eq_true → zbc, or_eq_true → zbd, or_eq_false_iff → zbe
open Int renaming ofNat_lt → zia, ofNat_le → zib, not_lt → zic, not_le → zid
open Decidable renaming not_not → zda
namespace Abs
open Go Go.RowKit Go.Sort Go.Proofs Go.Shelf

def D.one : D → Bool
  | .int _ _ => true
  | .bool _ => true
  | .str _ => true
  | .slice _ => true
  | .ptr _ => true
  | .nilptr => true
  | _ => false
theorem D.one_cells {x : D} (h : x.one = true) : x.cells = [x] := by
  cases x <;> first | rfl | cases h
theorem flat_oneD : ∀ {es : List D}, (∀ x ∈ es, x.one = true) → flat es = es
  | [], _ => rfl
  | x :: r, h => by
    have := flat_oneD (es := r) fun y hy => h y (by simp [hy])
    simp only [flat, List.flatMap_cons] at this ⊢
    rw [this, D.one_cells (h x (by simp))]; rfl
theorem Rd.one {S w x v} (hx : x.one = true) (h : Rd S w x v) : v.oneCell' = true := by
  cases h <;> first | rfl | cases hx

def mkR (zv : Value) (xs : List Value) (i : Nat) : Value := xs.getD i zv
theorem mkR_one {S w} {zv : Value} {xs : List Value} {es : List D} (hz : zv.oneCell' = true) (hes : ∀ x ∈ es, x.one = true) (hl : xs.length = es.length) (hr : ∀ i, i < es.length → Rd S w (es.getD i .nilptr) (xs.getD i Go.undef)) (i : Nat) : (mkR zv xs i).oneCell' = true := by
  unfold mkR
  by_cases hi : i < xs.length
  · have h1 := hr i (by omega)
    have h2 : (es.getD i .nilptr).one = true := hes _ (by
      rw [List.getD_eq_getElem?_getD, List.getElem?_eq_getElem (by omega)]; exact List.getElem_mem _)
    have h3 : xs.getD i zv = xs.getD i Go.undef := by simp [List.getD_eq_getElem?_getD, hi]
    rw [h3]; exact Rd.one h2 h1
  · have h3 : xs.getD i zv = zv := by simp [List.getD_eq_getElem?_getD, hi]
    rw [h3]; exact hz

theorem arr_openD {β S w e es v F} (hes : ∀ x ∈ es, x.one = true) (h : OK β S w (.arr e 1 es) v F) : (v = .slice none 0 0 ∧ es = []) ∨
    ∃ g cap cur xs, v = .slice (some ⟨g, 0, none⟩) es.length cap ∧ w.heap[g]? = some (.cells cur e (0, 0)) ∧ es.length ≤ cap ∧ cap ≤ maxLen ∧ cur.size = cap ∧ cur.toList.take es.length = xs ∧ xs.length = es.length ∧
      ∀ i, i < es.length → Rd S w (es.getD i .nilptr) (xs.getD i Go.undef) := by
  cases h with
  | arr hF vs hk0 hk hw hr =>
    rw [flat_oneD hes] at hr
    rcases hw.2 with ⟨h1, h2⟩ | ⟨g, cap, cur, h1, _, h3, h4, h5, h6, h7⟩
    · exact .inl ⟨h1, by simpa using h2⟩
    · exact .inr ⟨g, cap, cur, vs, by simpa using h1, h3, by simpa using h4, h5, by simpa using h6, by simpa using h7, by simpa using hw.1, hr⟩
theorem arr_closeD {β' S' w' e g cap} {cur' : Array Value} {es' : List D} {xs' : List Value} (hes : ∀ x ∈ es', x.one = true) (hb : w'.heap[g]? = some (.cells cur' e (0, 0))) (hcap : es'.length ≤ cap) (hm : cap ≤ maxLen) (hsz : cur'.size = cap)
    (hl : xs'.length = es'.length) (ht : cur'.toList.take es'.length = xs') (hr : ∀ i, i < es'.length → Rd S' w' (es'.getD i .nilptr) (xs'.getD i Go.undef)) :
    OK β' S' w' (.arr e 1 es') (.slice (some ⟨g, 0, none⟩) es'.length cap) (ownS (.slice (some ⟨g, 0, none⟩) es'.length cap)) := by
  refine .arr rfl xs' (by omega) (fun x hx => by rw [D.one_cells (hes x hx)]; rfl) ⟨by simpa using hl, .inr ⟨g, cap, cur', by simp, Nat.zero_le _, hb, by simpa using hcap, hm, by simpa using hsz, by simpa using ht⟩⟩ fun i hi => ?_
  rw [flat_oneD hes] at hi ⊢
  exact hr i hi
theorem arr_nilD {β' S' w' e} : OK β' S' w' (.arr e 1 []) (.slice none 0 0) (ownS (.slice none 0 0)) :=
  .arr rfl [] (by omega) (by simp) ⟨by simp, .inl ⟨rfl, by simp⟩⟩ (by simp [flat])

theorem holds_ofD {w : World} {g : Nat} {cur : Array Value} {e : TypeId} {xs : List Value} (zv : Value) (hb : w.heap[g]? = some (.cells cur e (0, 0))) (ht : cur.toList.take xs.length = xs) : Holds (mkR zv xs) w g 0 (Array.range xs.length) := by
  intro j hj
  have hj' : j < xs.length := by simpa using hj
  refine ⟨?_, by simp [World.frozen?, hb]⟩
  have h1 := congrArg (fun l : List Value => l[j]?) ht
  simp only [List.getElem?_take, if_pos hj', Array.getElem?_toList] at h1
  have h2 : (Array.range xs.length)[j]! = j := by rw [getElem!_pos _ j (by simpa using hj')]; simp
  rw [h2]
  simp [World.cell?, hb, h1, mkR, hj', List.getD_eq_getElem?_getD]

section
variable {α : Type} [Inhabited α] {enc : α → Value}
theorem putRow_blockD {w : World} {g : Nat} {cur : Array Value} {e : TypeId} (d : Array α) (hb : w.heap[g]? = some (.cells cur e (0, 0))) :
    (putRow enc w g 0 d).heap[g]? = some (.cells (putCells enc 0 d cur) e (0, 0)) := by
  simp [putRow, mapBlock, Array.getElem?_modify, hb, onCells]
theorem putRow_otherD {w : World} {g k : Nat} (d : Array α) (h : k ≠ g) : (putRow enc w g 0 d).heap[k]? = w.heap[k]? := by
  simp only [putRow, mapBlock, Array.getElem?_modify]
  rw [if_neg (Ne.symm h)]
theorem putCells_takeD (d : Array α) (cur : Array Value) (k : Nat) (hk : k ≤ d.size) (hd : d.size ≤ cur.size) : (putCells enc 0 d cur).toList.take k = (d.toList.take k).map enc := by
  apply List.ext_getElem?
  intro i
  simp only [List.getElem?_take, List.getElem?_map, putCells]
  split
  · rename_i hi
    have h1 : i < cur.size := by omega
    have h2 : i < d.size := by omega
    simp [h1, h2]
  · rfl
theorem sortWorld_otherD {w : World} {g m k : Nat} {d : Array α} {os : Array Obj} (hk : k < w.heap.size) (hne : k ≠ g) : (sortWorld enc w g 0 m d os).heap[k]? = w.heap[k]? := by
  show ((putRow _ (ahead w m) g 0 d).heap ++ os)[k]? = _
  rw [Array.getElem?_append_left (by rw [Go.Sort.size_putRow]; exact hk), putRow_otherD _ hne]; rfl
theorem sortWorld_frD {w : World} {g m : Nat} {d : Array α} {os : Array Obj} {M : Nat → Prop} (hM : M g) : Fr w.heap.size M w (sortWorld enc w g 0 m d os) := by
  refine ⟨rfl, rfl, rfl, ?_, ?_, fun k hk hkM => sortWorld_otherD hk fun e => hkM (e ▸ hM), Nat.le_add_right _ _⟩
  · show w.heap.size ≤ ((putRow _ (ahead w m) g 0 d).heap ++ os).size
    rw [Array.size_append, Go.Sort.size_putRow]; simp
  · show w.heap.size ≤ ((putRow _ (ahead w m) g 0 d).heap ++ os).size
    rw [Array.size_append, Go.Sort.size_putRow]; simp
theorem sortWorld_blockD {w : World} {g m : Nat} {d : Array α} {os : Array Obj} {cur : Array Value} {e : TypeId} (hb : w.heap[g]? = some (.cells cur e (0, 0))) :
    (sortWorld enc w g 0 m d os).heap[g]? = some (.cells (putCells enc 0 d cur) e (0, 0)) := by
  have hlt : g < w.heap.size := (Array.getElem?_eq_some_iff.1 hb).1
  show ((putRow _ (ahead w m) g 0 d).heap ++ os)[g]? = _
  rw [Array.getElem?_append_left (by rw [Go.Sort.size_putRow]; exact hlt)]
  exact putRow_blockD d hb
end
theorem Rd.sortW {α : Type} [Inhabited α] {enc : α → Value} {S : Nat → Prop} {w : World} {g m : Nat} {d : Array α} {os : Array Obj} (hS : ∀ b, S b → b ≠ g) {x v} (h : Rd S w x v) : Rd S (sortWorld enc w g 0 m d os) x v :=
  h.move fun b hb hlt => ⟨hb, sortWorld_otherD hlt (hS b hb)⟩

structure Writ (es es' : List D) (d : Array Nat) : Prop where
  le : d.size ≤ es.length
  le' : es'.length ≤ d.size
  lt : ∀ i ∈ d.toList.take es'.length, i < es.length
  eq : (d.toList.take es'.length).map (fun i => es.getD i .nilptr) = es'

theorem CtrM.rowD {P : Program} {f : FuncId} {rest : List AV} {e : TypeId} {es es' : List D} (zv : Value) (cut : Bool) (hent : Enters P f) (hes : ∀ x ∈ es, x.one = true) (hl : es'.length ≤ es.length) (hc : cut = false → es'.length = es.length)
    (h : ∀ (S : Nat → Prop) (β : Nat → Value) (w : World) (rv : List Value), rv.length = rest.length → (∀ i, i < rest.length → Rel β S w (rest.getD i .undef) (rv.getD i Go.undef)) →
      (es = [] → Calls P f (.slice none 0 0 :: rv).toArray w fun en w' => en = .returned (if cut then .slice none 0 0 else .tuple #[]) ∧ w' = w) ∧
      (∀ g cap xs, (∀ b, S b → b ≠ g) → xs.length = es.length → (∀ i, i < es.length → Rd S w (es.getD i .nilptr) (xs.getD i Go.undef)) → Holds (mkR zv xs) w g 0 (Array.range es.length) → g < w.heap.size → es.length ≤ cap → cap ≤ maxLen →
        Calls P f (.slice (some ⟨g, 0, none⟩) es.length cap :: rv).toArray w fun en w' => en = .returned (if cut then .slice (some ⟨g, 0, none⟩) es'.length cap else .tuple #[]) ∧ ∃ m d os, Writ es es' d ∧ w' = sortWorld (mkR zv xs) w g 0 m d os)) :
    CtrM P f (.sl 0 :: rest) [(0, .arr e 1 es)] (if cut then [] else [0]) true (if cut then .sl 0 else .tup []) [(0, .arr e 1 es')] := by
  refine ⟨hent, fun S β φ w vs hvl hvr hO hD => ?_⟩
  cases vs with
  | nil => simp at hvl
  | cons v rv =>
    obtain ⟨h1, h2⟩ := h (free S φ [(0, .arr e 1 es)]) β w rv (by simpa using hvl) fun i hi => by simpa using hvr (i + 1) (by simpa using hi)
    have hv : v = β 0 := by
      have := hvr 0 (by simp)
      simp only [List.getD_cons_zero] at this
      cases this; rfl
    have hOk := hO 0 (.arr e 1 es) (by simp [lk])
    have hFo : φ 0 = ownS (β 0) := by
      generalize β 0 = v0 at *
      generalize φ 0 = F0 at *
      cases hOk with | arr hF => exact hF
    have one : ∀ {j : Nat} {o : AO} {l : List D}, lk j [(0, AO.arr e 1 l)] = some o → j = 0 ∧ o = .arr e 1 l := fun hj => by
      simp only [lk] at hj
      split at hj
      · rename_i e'; cases hj; exact ⟨e', rfl⟩
      · cases hj
    rcases arr_openD hes hOk with ⟨h3, rfl⟩ | ⟨g, cap, cur, xs, h3, h4, h5, h6, h7, h8, h9, h10⟩
    · obtain rfl : es' = [] := by simpa using hl
      rw [hv, h3]
      refine (h1 rfl).mono fun en w' ⟨he, hw⟩ => ⟨_, he, ?_, ?_⟩
      · subst hw; exact ⟨rfl, rfl, rfl, Nat.le_refl _, Nat.le_refl _, fun _ _ _ => rfl, Nat.le_refl _⟩
      · subst hw
        refine ⟨β, φ, by cases cut <;> simp, ?_, fun j o hj => ?_, fun j o g hj hg => ?_, fun j j' o o' g hj hj' _ _ => ?_⟩
        · cases cut with
          | true => simp only [if_true]; rw [← h3]; exact .sl 0
          | false => exact Rel.tup (xs := []) (vs := []) rfl (by simp)
        · obtain ⟨rfl, rfl⟩ := one hj
          rw [hFo, h3]; exact arr_nilD
        · obtain ⟨rfl, rfl⟩ := one hj
          rw [hFo, h3] at hg; cases hg
        · rw [(one hj).1, (one hj').1]
    · have hlt : g < w.heap.size := (Array.getElem?_eq_some_iff.1 h4).1
      have hM : blocksOf φ [(0, AO.arr e 1 es)] g := ⟨0, .arr e 1 es, by simp [lk], by rw [hFo, h3]; rfl⟩
      have hSg : ∀ b, free S φ [(0, AO.arr e 1 es)] b → b ≠ g := fun b hb e' => hb.2 0 (.arr e 1 es) (by simp [lk]) (by rw [hFo, h3, e']; rfl)
      have hH := holds_ofD (xs := xs) zv h4 (by rw [h9]; exact h8)
      rw [h9] at hH
      rw [hv, h3]
      refine (h2 g cap xs hSg h9 h10 hH hlt h5 h6).mono fun en w' ⟨he, m, d, os, hW, hw⟩ => ⟨_, he, ?_, ?_⟩
      · subst hw; exact sortWorld_frD hM
      · subst hw
        have hdl : (d.toList.take es'.length).length = es'.length := by rw [List.length_take, Array.length_toList]; exact Nat.min_eq_left hW.le'
        have hok : ∀ S', (∀ b, free S φ [(0, AO.arr e 1 es)] b → S' b) → ∀ β', OK β' S' (sortWorld (mkR zv xs) w g 0 m d os) (.arr e 1 es') (.slice (some ⟨g, 0, none⟩) es'.length cap) (ownS (.slice (some ⟨g, 0, none⟩) es'.length cap)) := fun S' hS' β' => by
          refine arr_closeD (xs' := (d.toList.take es'.length).map (mkR zv xs)) (fun x hx => ?_) (sortWorld_blockD h4) (by omega) h6 (by simp [putCells, h7]) (by rw [List.length_map, hdl])
            (putCells_takeD d cur es'.length hW.le' (by have := hW.le; omega)) fun i hi => ?_
          · rw [← hW.eq] at hx
            obtain ⟨i, hi, rfl⟩ := List.mem_map.1 hx
            have := hW.lt i hi
            exact hes _ (by rw [List.getD_eq_getElem?_getD, List.getElem?_eq_getElem this]; exact List.getElem_mem _)
          · have hi' : i < (d.toList.take es'.length).length := by rw [hdl]; exact hi
            have hlt' := hW.lt _ (List.getElem_mem hi')
            have e1 : es'.getD i .nilptr = es.getD (d.toList.take es'.length)[i] .nilptr := by
              have := congrArg (fun l : List D => l.getD i .nilptr) hW.eq
              rw [← this, List.getD_eq_getElem?_getD, List.getElem?_map, List.getElem?_eq_getElem hi']; rfl
            have e2 : ((d.toList.take es'.length).map (mkR zv xs)).getD i Go.undef = xs.getD (d.toList.take es'.length)[i] Go.undef := by
              rw [List.getD_eq_getElem?_getD, List.getElem?_map, List.getElem?_eq_getElem hi']
              simp only [Option.map_some, Option.getD_some, mkR]
              rw [List.getD_eq_getElem?_getD, List.getD_eq_getElem?_getD, List.getElem?_eq_getElem (by omega)]; rfl
            rw [e1, e2]
            exact (Rd.sortW hSg (h10 _ hlt')).weaken hS'
        have hown : ∀ {v : Value} {φ' : Nat → Nat → Prop}, (∀ b, φ' 0 b → φ 0 b) → ∀ b, free S φ [(0, AO.arr e 1 es)] b → free (fun g => w.heap.size ≤ g ∨ blocksOf φ [(0, AO.arr e 1 es)] g ∨ (true = true ∧ S g)) φ' [(0, AO.arr e 1 es')] b := fun {_ φ'} hφ b hb =>
          ⟨.inr (.inr ⟨rfl, hb.1⟩), fun j o hj hg => by
            obtain ⟨rfl, _⟩ := one hj
            exact hb.2 0 (.arr e 1 es) (by simp [lk]) (hφ b hg)⟩
        cases cut with
        | false =>
          have hll := hc rfl
          refine ⟨β, φ, fun _ _ => rfl, Rel.tup (xs := []) (vs := []) rfl (by simp), fun j o hj => ?_, fun j o g' hj hg => ?_, fun j j' o o' g hj hj' _ _ => ?_⟩
          · obtain ⟨rfl, rfl⟩ := one hj
            have := hok _ (hown (v := v) fun _ h => h) β
            rw [hFo, h3, ← hll]; exact this
          · obtain ⟨rfl, rfl⟩ := one hj
            rw [hFo, h3] at hg
            cases hg
            exact .inr hM
          · rw [(one hj).1, (one hj').1]
        | true =>
          refine ⟨fun _ => .slice (some ⟨g, 0, none⟩) es'.length cap, fun _ => ownS (.slice (some ⟨g, 0, none⟩) es'.length cap), by simp, ?_, fun j o hj => ?_, fun j o g' hj hg => ?_, fun j j' o o' g hj hj' _ _ => ?_⟩
          · exact Rel.sl (β := fun _ => Value.slice (some ⟨g, 0, none⟩) es'.length cap) 0
          · obtain ⟨rfl, rfl⟩ := one hj
            exact hok _ (hown (v := v) fun b hb => by rw [hFo, h3]; exact hb) _
          · obtain ⟨rfl, rfl⟩ := one hj
            cases hg
            exact .inr hM
          · rw [(one hj).1, (one hj').1]

theorem Ctr.cmpLays {P : Program} {f : FuncId} {cf : Nat → Nat → Int} {es : List D} {zd : D} {zv : Value} {xs : List Value} {S : Nat → Prop} {w : World} {g n : Nat} (hz : ∀ w, Rd (fun _ => True) w zd zv)
    (hf : ∀ i j, Ctr P f [es.getD i zd, es.getD j zd] false (.d (.int .i64 (cf i j))) []) (hS : ∀ b, S b → b ≠ g) (hl : xs.length = es.length) (hr : ∀ i, i < es.length → Rd S w (es.getD i .nilptr) (xs.getD i Go.undef)) :
    CmpLays1 P f #[] (mkR zv xs) cf g 0 n w := fun m os dk _ i j => by
  have hrd : ∀ i, Rd (fun _ => True) (sortWorld (mkR zv xs) w g 0 m dk os) (es.getD i zd) (mkR zv xs i) := fun i => by
    by_cases hi : i < es.length
    · have e1 : es.getD i zd = es.getD i .nilptr := by simp [List.getD_eq_getElem?_getD, hi]
      have e2 : mkR zv xs i = xs.getD i Go.undef := by simp [mkR, List.getD_eq_getElem?_getD, show i < xs.length by omega]
      rw [e1, e2]
      exact (Rd.sortW hS (hr i hi)).weaken fun _ _ => trivial
    · have e1 : es.getD i zd = zd := by simp [List.getD_eq_getElem?_getD, hi]
      have e2 : mkR zv xs i = zv := by simp [mkR, List.getD_eq_getElem?_getD, show ¬ i < xs.length by omega]
      rw [e1, e2]; exact hz _
  have h := (hf i j).2 (fun _ => True) (sortWorld (mkR zv xs) w g 0 m dk os) [mkR zv xs i, mkR zv xs j] rfl (fun k hk => by
    match k, hk with
    | 0, _ => exact hrd i
    | 1, _ => exact hrd j)
  have he : (#[mkR zv xs i, mkR zv xs j] ++ #[] : Array Value) = [mkR zv xs i, mkR zv xs j].toArray := by simp
  rw [he]
  refine h.mono fun en w' ⟨v, hv, hF, β, φ, hR, _⟩ => ?_
  generalize sortWorld (mkR zv xs) w g 0 m dk os = W at *
  cases hR with
  | d hR =>
    cases hR
    refine ⟨hv, w'.drawn - W.drawn, w'.heap.extract W.heap.size w'.heap.size, ?_⟩
    have hh : w'.heap = W.heap ++ w'.heap.extract W.heap.size w'.heap.size := by
      apply Array.ext_getElem?
      intro k
      by_cases hk : k < W.heap.size
      · rw [Array.getElem?_append_left hk]; exact hF.block k hk (fun h => h)
      · rw [Array.getElem?_append_right (by omega)]
        have := hF.size
        by_cases hk2 : k < w'.heap.size
        · simp [hk2, show k - W.heap.size < w'.heap.size - W.heap.size by omega, show W.heap.size + (k - W.heap.size) = k by omega]
        · simp [hk2, show ¬ k - W.heap.size < w'.heap.size - W.heap.size by omega]
    have hd : w'.drawn = W.drawn + (w'.drawn - W.drawn) := by have := hF.drawn; omega
    have h1 := hF.os; have h2 := hF.tape; have h3 := hF.output
    obtain ⟨hp, tp, dr, o, ou⟩ := w'
    simp only at hh hd h1 h2 h3
    subst h1 h2 h3
    unfold grow World.drewN
    simp only
    rw [← hh, ← hd]
end Abs

namespace Abs.Y
open Go Go.Proofs Abs Go.Sort Go.Shelf Go.Lib Go.RowKit
set_option maxRecDepth 100000

theorem cmpM_lt {m n : Nat} (hm : m < 64) (hn : n < 64) : cmpM m n < 0 ↔ kG m < kG n := by
  rw [kG_lt hm hn]
  unfold cmpM orI
  rcases cmpI_or (cnt m) (cnt n) with ⟨h1, h2⟩ | ⟨h1, h2⟩ | ⟨h1, h2⟩
  · rw [h2, if_pos (by decide)]; constructor <;> intro h <;> omega
  · rw [h2, if_pos (by decide)]; constructor <;> intro h <;> omega
  · rw [h2, if_neg (by decide)]
    rcases cmpI_or m n with ⟨h3, h4⟩ | ⟨h3, h4⟩ | ⟨h3, h4⟩ <;> rw [h4] <;> constructor <;> intro h <;> omega
def cfM (L : List Nat) (i j : Nat) : Int := cmpM (L.getD i 0) (L.getD j 0)
theorem lt_getD {L : List Nat} (hl : ∀ x ∈ L, x < 64) (i : Nat) : L.getD i 0 < 64 := by
  by_cases h : i < L.length
  · exact hl _ (getD_mem h)
  · rw [List.getD_eq_getElem?_getD, List.getElem?_eq_none (by omega)]; simp
theorem cfM_lt {L : List Nat} (hl : ∀ x ∈ L, x < 64) (i j : Nat) : ltOf (cfM L) i j = decide (kG (L.getD i 0) < kG (L.getD j 0)) :=
  decide_eq_decide.2 (cmpM_lt (lt_getD hl i) (lt_getD hl j))
theorem cfM_swo {L : List Nat} (hl : ∀ x ∈ L, x < 64) : SWO (ltOf (cfM L)) where
  irrefl i := by rw [cfM_lt hl]; simp
  trans i j k h1 h2 := by
    rw [cfM_lt hl] at *
    simp only [decide_eq_true_eq] at *
    omega
  ntrans i j k h1 h2 := by
    rw [cfM_lt hl] at *
    simp only [decide_eq_false_iff_not] at *
    omega
def sortM (L : List Nat) : List Nat := (pdq (ltOf (cfM L)) (Array.range L.length) 0 L.length (Lib.bitLen L.length) true true).toList.map (fun i => L.getD i 0)
theorem range_map_getN (cs : List Nat) : (List.range cs.length).map (fun i => cs.getD i 0) = cs := by
  apply List.ext_getElem (by simp)
  intro i h1 h2
  simp [List.getD_eq_getElem?_getD, h2]
theorem pdqM {L : List Nat} (hl : ∀ x ∈ L, x < 64) : let d' := pdq (ltOf (cfM L)) (Array.range L.length) 0 L.length (Lib.bitLen L.length) true true
    d'.size = L.length ∧ (d'.toList.Perm (List.range L.length)) := by
  intro d'
  have hps := pdq_sorts (ltOf (cfM L)) (cfM_swo hl) (Array.range L.length) 0 (Array.range L.length).size (Lib.bitLen L.length) true true (Nat.zero_le _) (Nat.le_refl _) (Or.inl rfl)
  simp only [Array.size_range] at hps
  change _ ∧ _ at hps
  obtain ⟨hp, hso⟩ := hps
  obtain ⟨hp1, _, hp3⟩ := hp
  change d'.size = _ at hp1
  simp only [Array.size_range] at hp1
  have hx1 : d'.extract 0 L.length = d' := by rw [← hp1]; simp
  have hx2 : (Array.range L.length).extract 0 L.length = Array.range L.length := by
    have : (Array.range L.length).size = L.length := by simp
    conv => lhs; rw [← this]
    simp
  change (d'.extract 0 L.length).toList.Perm _ at hp3
  rw [hx1, hx2, Array.toList_range] at hp3
  exact ⟨hp1, hp3⟩
theorem sortM_perm {L : List Nat} (hl : ∀ x ∈ L, x < 64) : (sortM L).Perm L := by
  have := (pdqM hl).2.map fun i => L.getD i 0
  rwa [range_map_getN] at this
theorem sortMonos_ok (L : List Nat) (hn : L.length ≤ 4294967296) (hl : ∀ x ∈ L, x < 64) :
    CtrM Tryz.prog 88 [.sl 0, .fn (.func 31) []] [(0, .arr 3 1 (L.map fun m => D.int .i64 (m : Nat)))] [0] true (.tup []) [(0, .arr 3 1 ((sortM L).map fun m => D.int .i64 (m : Nat)))] := by
  have hone : ∀ x ∈ L.map (fun m => D.int .i64 (m : Nat)), x.one = true := fun x hx => by obtain ⟨c, _, rfl⟩ := List.mem_map.1 hx; rfl
  have hsl := (sortM_perm hl).length_eq
  refine CtrM.rowD (es := L.map fun m => D.int .i64 (m : Nat)) (es' := (sortM L).map fun m => D.int .i64 (m : Nat)) (.int .i64 0) false ⟨_, Tryz.func88, by kernel_rfl, by kernel_rfl⟩ hone (by simp [hsl]) (fun _ => by simp [hsl]) fun S β w rv hl' hr => ?_
  obtain ⟨v3, rfl⟩ : ∃ v3, rv = [v3] := by
    match rv, hl' with
    | [a], _ => exact ⟨a, rfl⟩
  have e3 : v3 = .func (.func 31) #[] #[] := by
    have := hr 0 (by simp)
    simp only [List.getD_cons_zero] at this
    cases this with
    | fn h1 h2 => obtain rfl := List.eq_nil_of_length_eq_zero h1; rfl
  subst e3
  refine ⟨fun h => ?_, fun g cap xs hS hxl hxr hH hg hcap _ => ?_⟩
  · exact AnyF.slices_SortFunc_none { Tryz.layS with } none 0 _ w
  have eg : ∀ args w, (callFunc 31 args).run Tryz.prog w = .ok (.enter 31 args) w := enters_of Tryz.func31 (by kernel_rfl) rfl
  have hgd : ∀ i, (L.map fun m => D.int .i64 (m : Nat)).getD i (D.int .i64 0) = D.int .i64 (L.getD i 0 : Nat) := fun i => by
    simp only [List.getD_eq_getElem?_getD, List.getElem?_map]
    cases L[i]? <;> rfl
  have hc : CmpLays1 Tryz.prog 31 #[] (mkR (.int .i64 0) xs) (cfM L) g 0 (Array.range (L.map fun m => D.int .i64 (m : Nat)).length).size w :=
    Ctr.cmpLays (es := L.map fun m => D.int .i64 (m : Nat)) (zd := D.int .i64 0) (fun w => .int _ _) (fun i j => by
      rw [hgd, hgd]; exact compareMonos_ok (lt_getD hl i) (lt_getD hl j)) hS hxl hxr
  have h := Any.slices_SortFunc_eq Tryz.layS (mkR (.int .i64 0) xs) (mkR_one rfl hone hxl hxr) (cfM L) (cfM_swo hl) 31 #[] g 0 cap (Array.range (L.map fun m => D.int .i64 (m : Nat)).length) w eg hc hH hg (by simp; omega)
  obtain ⟨p1, p2⟩ := pdqM hl
  simp only [Array.size_range, List.length_map] at h ⊢
  have hsv : (pdq (ltOf (cfM L)) (Array.range L.length) 0 L.length (Lib.bitLen L.length) true true).toList.map (fun i => L.getD i 0) = sortM L := rfl
  generalize pdq (ltOf (cfM L)) (Array.range L.length) 0 L.length (Lib.bitLen L.length) true true = d' at *
  refine Calls.mono h fun en w' ⟨he, n, os, hw⟩ => ⟨he, n, d', os, ?_, hw⟩
  have htake : d'.toList.take ((sortM L).map fun m => D.int .i64 (m : Nat)).length = d'.toList := by
    rw [List.length_map, hsl, ← p1, ← Array.length_toList, List.take_length]
  refine ⟨by simp [p1], by simp [p1, hsl], fun i hi => ?_, ?_⟩
  · rw [htake] at hi
    have := p2.mem_iff.1 hi
    simpa using this
  · rw [htake, ← hsv, List.map_map]
    apply List.map_congr_left
    intro i hi
    have : i < L.length := by have := p2.mem_iff.1 hi; simpa using this
    simp [List.getD_eq_getElem?_getD, this]
def gradF (n : Nat) (d : Int) : List Nat := (List.range n).filter fun m => decide ((cnt m : Int) ≤ d)
def gradI (n : Nat) (d : Int) : List Nat := sortM (gradF n d)
theorem gradF_lt {n : Nat} (hn : n ≤ 64) (d : Int) : ∀ x ∈ gradF n d, x < 64 := fun x hx => by
  have := List.mem_range.1 (List.mem_filter.1 hx).1; omega
theorem gradI_len {n : Nat} (hn : n ≤ 64) (d : Int) : (gradI n d).length ≤ 64 := by
  unfold gradI
  rw [(sortM_perm (gradF_lt hn d)).length_eq]
  have := List.length_filter_le (fun m => decide ((cnt m : Int) ≤ d)) (List.range n)
  unfold gradF
  simp only [List.length_range] at this
  omega
theorem gradI_gm {u : Nat} (hu : u ≤ 6) (d : Int) : GmL u d (gradI (2 ^ u) d) := fun m => by
  have h2 := pow_le6 hu
  unfold gradI
  rw [(sortM_perm (gradF_lt h2 d)).mem_iff]
  simp [gradF]
set_option maxHeartbeats 4000000 in
theorem graded_ok {u : Nat} (hu : u ≤ 6) (d : Int) : Ctr Tryz.prog 68 [.int .i64 u, .int .i64 d] true (.d (D.nats (gradI (2 ^ u) d))) [] := by
  have h2 := pow_le6 hu
  have e : IntKind.wrap .i64 (1 * 2 ^ min u 64) = ((2 ^ u : Nat) : Int) := shl_one (by omega)
  refine Ctr.data1 (sh := false) (e := 3) (k := 1) ?_
  generalize 2 ^ u = n at *
  have hlt64 := gradF_lt h2 d
  unfold gradI
  refine Ctr.of (n := 24) (rs := [.tmp 4]) Tryz.func68 rfl rfl Tryz.ntmps68 rfl rfl (by kernel_rfl) Tryz.checked.mixed ?_
  simp (disch := first | omega | decide +kernel) only [e, go_sem, zqa, zqb, zqc, zqd, zqe, ↓reduceIte, reduceCtorEq, zqf, zqg, zqh]
  (repeat' (first | ((first | (refine gsel_split (fun q' => ?_) (fun q' => ?_) <;> (have h' := q') <;> (try simp only [decide_eq_true_eq, decide_eq_false_iff_not, zba, zbb, bne_iff_ne, ne_eq, beq_iff_eq, bne_eq_false_iff_eq, beq_eq_false_iff_ne, zia, zib, zic, zid, zda, zbc, zbd, zbe, gt_iff_lt, ge_iff_le] at h') <;> try (exfalso; omega)) | (have q' := trivial; first | refine hE _ _ ret_ne ?_ | refine hE _ _ exit_ne ?_)) <;> (try simp (disch := first | omega | decide +kernel) only [q', e, go_sem, zqa, zqb, zqc, zqd, zqe, ↓reduceIte, reduceCtorEq, zqf, zqg, zqh]) <;> clear q') | (refine hN _ ?_ ?_ Wk.kk) | (with_reducible refine And.intro ?_ ?_) | (with_reducible omega) | (exact ok_ints) | (exact cells_ints) | (exact no_mem) | (with_reducible exact plain_ints) | (refine le_maxLen ?_; omega) | (refine List.forall_mem_cons.2 ⟨?_, ?_⟩) | (simp only [go_sem, zqc, zqb, List.mem_cons, List.not_mem_nil, forall_eq]; done)))
  all_goals (first | omega | skip)
  refine Ok.loopN [23, 22, 21, 20, 19, 18, 17, 16, 15, 14, 13, 12, 11, 10, 9, 7, 6, 5, 4, 3, 2] (fun i _ => [(9, .d (.int .i64 (i : Nat))), (5, .sl 5)]) (fun _ (w : List Nat) => [(5, .arr 3 1 (w.map fun m => D.int .i64 (m : Nat)))]) n
    (fun i w => w = (List.range i).filter (fun m => decide ((cnt m : Int) ≤ d)) ∧ w.length ≤ i) [] ⟨rfl, by simp⟩
    (by refine Wk.auto ?_ ?_ <;> simp [extraK, lk, killL, St.kill, wipeO, wipeS, AV.has, AV.hasL, AO.wipe, List.map_set, updSt, insL, dropS, ins, ]) ?_
  rintro R i w hN hE0 hi ⟨hw, hwl⟩
  by_cases hlt : i < n
  · have c1 := degreeOf_ok (m := i) (by omega)
    have hs : (List.range (i + 1)).filter (fun m => decide ((cnt m : Int) ≤ d)) = if (cnt i : Int) ≤ d then w ++ [i] else w := by
      rw [List.range_succ, List.filter_append, ← hw]
      by_cases hc : (cnt i : Int) ≤ d
      · rw [if_pos hc, List.filter_cons_of_pos (by simpa using hc)]; rfl
      · rw [if_neg hc, List.filter_cons_of_neg (by simpa using hc)]; simp
    clear hw
    generalize cnt i = c at *
    by_cases hc : (c : Int) ≤ d
    · rw [if_pos hc] at hs
      simp (disch := first | omega | decide +kernel) only [go_sem, zqa, zqb, zqc, zqd, zqe, ↓reduceIte, reduceCtorEq, zqf, zqg, zqh]
      (repeat' (first | ((first | (refine gsel_split (fun q' => ?_) (fun q' => ?_) <;> (have h' := q') <;> (try simp only [decide_eq_true_eq, decide_eq_false_iff_not, zba, zbb, bne_iff_ne, ne_eq, beq_iff_eq, bne_eq_false_iff_eq, beq_eq_false_iff_ne, zia, zib, zic, zid, zda, zbc, zbd, zbe, gt_iff_lt, ge_iff_le] at h') <;> try (exfalso; omega)) | (have q' := trivial; first | refine callX_new (c1) rfl (by decide) ?_ | refine callY_new (c1) rfl ?_ | refine hE _ _ ret_ne ?_ | refine hE _ _ exit_ne ?_)) <;> (try simp (disch := first | omega | decide +kernel) only [q', go_sem, zqa, zqb, zqc, zqd, zqe, ↓reduceIte, reduceCtorEq, zqf, zqg, zqh]) <;> clear q') | (refine hN _ ?_ ?_ Wk.kk) | (with_reducible refine And.intro ?_ ?_) | (with_reducible omega) | (exact ok_ints) | (exact cells_ints) | (exact no_mem) | (with_reducible exact plain_ints) | (refine le_maxLen ?_; omega) | (refine List.forall_mem_cons.2 ⟨?_, ?_⟩) | (simp only [go_sem, zqc, zqb, List.mem_cons, List.not_mem_nil, forall_eq]; done)))
      all_goals (first | omega | (refine hN (w ++ [i]) _ hlt ⟨hs.symm, by simp; omega⟩ (by refine Wk.auto ?_ ?_ <;> simp [extraK, lk, killL, St.kill, wipeO, wipeS, AV.has, AV.hasL, AO.wipe, List.map_set, updSt, insL, dropS, ins, List.map_append, List.map_cons, List.map_nil]); done))
    · rw [if_neg hc] at hs
      simp (disch := first | omega | decide +kernel) only [go_sem, zqa, zqb, zqc, zqd, zqe, ↓reduceIte, reduceCtorEq, zqf, zqg, zqh]
      (repeat' (first | ((first | (refine gsel_split (fun q' => ?_) (fun q' => ?_) <;> (have h' := q') <;> (try simp only [decide_eq_true_eq, decide_eq_false_iff_not, zba, zbb, bne_iff_ne, ne_eq, beq_iff_eq, bne_eq_false_iff_eq, beq_eq_false_iff_ne, zia, zib, zic, zid, zda, zbc, zbd, zbe, gt_iff_lt, ge_iff_le] at h') <;> try (exfalso; omega)) | (have q' := trivial; first | refine callX_new (c1) rfl (by decide) ?_ | refine callY_new (c1) rfl ?_ | refine hE _ _ ret_ne ?_ | refine hE _ _ exit_ne ?_)) <;> (try simp (disch := first | omega | decide +kernel) only [q', go_sem, zqa, zqb, zqc, zqd, zqe, ↓reduceIte, reduceCtorEq, zqf, zqg, zqh]) <;> clear q') | (refine hN _ ?_ ?_ Wk.kk) | (with_reducible refine And.intro ?_ ?_) | (with_reducible omega) | (exact ok_ints) | (exact cells_ints) | (exact no_mem) | (with_reducible exact plain_ints) | (refine le_maxLen ?_; omega) | (refine List.forall_mem_cons.2 ⟨?_, ?_⟩) | (simp only [go_sem, zqc, zqb, List.mem_cons, List.not_mem_nil, forall_eq]; done)))
      all_goals (first | omega | (refine hN w _ hlt ⟨hs.symm, by omega⟩ (by refine Wk.auto ?_ ?_ <;> simp [extraK, lk, killL, St.kill, wipeO, wipeS, AV.has, AV.hasL, AO.wipe, List.map_set, updSt, insL, dropS, ins, ]); done))
  · obtain rfl : i = n := by omega
    have hw2 : w = gradF i d := hw
    have c1 := sortMonos_ok w (by omega) (by rw [hw2]; exact hlt64)
    rw [← hw2] at hE0
    have hE := hE0
    simp (disch := first | omega | decide +kernel) only [go_sem, zqa, zqb, zqc, zqd, zqe, ↓reduceIte, reduceCtorEq, zqf, zqg, zqh]
    (repeat' (first | ((first | (refine gsel_split (fun q' => ?_) (fun q' => ?_) <;> (have h' := q') <;> (try simp only [decide_eq_true_eq, decide_eq_false_iff_not, zba, zbb, bne_iff_ne, ne_eq, beq_iff_eq, bne_eq_false_iff_eq, beq_eq_false_iff_ne, zia, zib, zic, zid, zda, zbc, zbd, zbe, gt_iff_lt, ge_iff_le] at h') <;> try (exfalso; omega)) | (have q' := trivial; first | refine callX_mut [5] [5] [] (c1) ⟨.inl rfl, .inl rfl, trivial⟩ ⟨rfl, trivial⟩ rfl (by simp [dstB]) ?_ | refine hE _ _ ret_ne ?_ | refine hE _ _ exit_ne ?_)) <;> (try simp (disch := first | omega | decide +kernel) only [q', go_sem, zqa, zqb, zqc, zqd, zqe, ↓reduceIte, reduceCtorEq, zqf, zqg, zqh]) <;> clear q') | (refine hN _ ?_ ?_ Wk.kk) | (with_reducible refine And.intro ?_ ?_) | (with_reducible omega) | (exact ok_ints) | (exact cells_ints) | (exact no_mem) | (with_reducible exact plain_ints) | (refine le_maxLen ?_; omega) | (refine List.forall_mem_cons.2 ⟨?_, ?_⟩) | (simp only [go_sem, zqc, zqb, List.mem_cons, List.not_mem_nil, forall_eq]; done)))
    all_goals (first | omega | exact ret_sl 5 rfl rfl plain_nats)
section
variable {p : Int} {u : Nat} (hp : 1 < p ∧ p ≤ 5) (hu : u ≤ 6)
include hp hu
set_option maxHeartbeats 8000000 in
theorem products_ok {cs : List (List Int)} (hcl : cs.length ≤ 60) {d : Int} (hd : d ≤ 6) :
    Ctr Tryz.prog 49 [.ptr (D.alg p u cs (cs.map (clauseD p u))), .int .i64 d] true (.d (.slice ((prK p u (gradI (2 ^ u)) cs d cs.length).map D.pr))) [] := by
  have h2 := pow_le6 hu
  have hql : (cs.map (clauseD p u)).length = cs.length := by simp
  refine Ctr.of (n := 67) (rs := [.tmp 4]) Tryz.func49 rfl rfl Tryz.ntmps49 rfl rfl (by kernel_rfl) Tryz.checked.mixed ?_
  simp (disch := first | omega | decide +kernel) only [D.ints, D.alg, go_sem, zqa, zqb, zqc, zqd, zqe, ↓reduceIte, reduceCtorEq, zqf, zqg, zqh]
  (repeat' (first | ((first | (refine gsel_split (fun q' => ?_) (fun q' => ?_) <;> (have h' := q') <;> (try simp only [decide_eq_true_eq, decide_eq_false_iff_not, zba, zbb, bne_iff_ne, ne_eq, beq_iff_eq, bne_eq_false_iff_eq, beq_eq_false_iff_ne, zia, zib, zic, zid, zda, zbc, zbd, zbe, gt_iff_lt, ge_iff_le] at h') <;> try (exfalso; omega)) | (have q' := trivial; first | refine hE _ _ ret_ne ?_ | refine hE _ _ exit_ne ?_)) <;> (try simp (disch := first | omega | decide +kernel) only [q', D.ints, go_sem, zqa, zqb, zqc, zqd, zqe, ↓reduceIte, reduceCtorEq, zqf, zqg, zqh]) <;> clear q') | (refine hN _ ?_ ?_ Wk.kk) | (with_reducible refine And.intro ?_ ?_) | (with_reducible omega) | (exact ok_ints) | (exact cells_ints) | (exact no_mem) | (with_reducible exact plain_ints) | (refine le_maxLen ?_; omega) | (refine List.forall_mem_cons.2 ⟨?_, ?_⟩) | (simp only [go_sem, zqc, zqb, List.mem_cons, List.not_mem_nil, forall_eq]; done)))
  all_goals (first | omega | skip)
  refine Ok.loopN [66, 65, 64, 63, 62, 61, 60, 59, 58, 57, 56, 55, 54, 53, 52, 51, 50, 49, 48, 47, 46, 45, 44, 43, 42, 41, 40, 39, 38, 37, 36, 35, 34, 33, 32, 31, 30, 29, 28, 27, 26, 25, 24, 23, 22, 21, 20, 19, 18, 17, 16, 13, 12, 11, 10, 9, 8, 7, 6, 5, 4, 3, 2] (fun i _ => [(16, .d (.int .i64 (i : Nat))), (5, .sl 5)]) (fun _ (w : List Pr) => [(5, .arr 89 3 (w.map D.pr))]) cs.length
    (fun i w => w = prK p u (gradI (2 ^ u)) cs d i ∧ w.length ≤ 64 * i) [] ⟨rfl, by simp⟩
    (by refine Wk.auto ?_ ?_ <;> simp [extraK, lk, killL, St.kill, wipeO, wipeS, AV.has, AV.hasL, AO.wipe, List.map_set, updSt, insL, dropS, ins, D.ints]) ?_
  rintro R i w hN0 hE0 hi ⟨hw, hwl⟩
  by_cases hlt : i < cs.length
  · have hs := prK_succ p u (gradI (2 ^ u)) cs d i
    rw [← hw] at hs
    have hei := el_intss (xs := cs) hlt
    have hei2 : el ((cs.map (clauseD p u)).map D.ints) i = .slice ((clauseD p u (cs.getD i [])).map (.int .i64)) := by
      rw [el_intss (by omega), getD_mapY (clauseD p u) [] [] cs hlt]
    unfold prI at hs
    clear hw
    by_cases hle : ((cs.getD i []).length : Int) ≤ d
    · rw [if_pos hle] at hs
      have c2 := graded_ok hu (d - (cs.getD i []).length)
      have hgl := gradI_len h2 (d - (cs.getD i []).length)
      have hgm := gradI_gm hu (d - (cs.getD i []).length)
      have hcv := Vec.clause hp.1 u (cs.getD i [])
      have hpe : ∀ m, prodC p u (cs.getD i []) m = mulD p (2 ^ u) (clauseD p u (cs.getD i [])) (monoD u m) := fun _ => rfl
      generalize prodC p u (cs.getD i []) = F at *
      generalize gradI (2 ^ u) (d - (cs.getD i []).length) = G at *
      generalize clauseD p u (cs.getD i []) = C at *
      generalize cs.getD i [] = c at *
      simp (disch := first | omega | decide +kernel) only [D.ints, hei, go_sem, zqa, zqb, zqc, zqd, zqe, ↓reduceIte, reduceCtorEq, zqf, zqg, zqh]
      (repeat' (first | ((first | (refine gsel_split (fun q' => ?_) (fun q' => ?_) <;> (have h' := q') <;> (try simp only [decide_eq_true_eq, decide_eq_false_iff_not, zba, zbb, bne_iff_ne, ne_eq, beq_iff_eq, bne_eq_false_iff_eq, beq_eq_false_iff_ne, zia, zib, zic, zid, zda, zbc, zbd, zbe, gt_iff_lt, ge_iff_le] at h') <;> try (exfalso; omega)) | (have q' := trivial; first | refine callX_shared (c2) rfl (by decide) ?_ | refine callY_shared (c2) rfl ?_ | refine hE _ _ ret_ne ?_ | refine hE _ _ exit_ne ?_)) <;> (try simp (disch := first | omega | decide +kernel) only [q', D.ints, hei, go_sem, zqa, zqb, zqc, zqd, zqe, ↓reduceIte, reduceCtorEq, zqf, zqg, zqh]) <;> clear q') | (refine hN _ ?_ ?_ Wk.kk) | (with_reducible refine And.intro ?_ ?_) | (with_reducible omega) | (exact ok_ints) | (exact cells_ints) | (exact no_mem) | (with_reducible exact plain_ints) | (refine le_maxLen ?_; omega) | (refine List.forall_mem_cons.2 ⟨?_, ?_⟩) | (simp only [go_sem, zqc, zqb, List.mem_cons, List.not_mem_nil, forall_eq]; done)))
      all_goals (first | omega | skip)
      refine Ok.loopN [66, 65, 64, 63, 62, 61, 60, 59, 58, 57, 56, 55, 54, 53, 52, 51, 50, 49, 48, 47, 46, 45, 44, 43, 42, 41, 40, 39, 38, 37, 36, 33, 32, 31, 30, 29, 28, 27, 26, 25, 24, 23, 22, 21, 20, 19, 18, 17, 13, 12, 11, 10, 9, 8, 5, 4, 3, 2] (fun j _ => [(36, .d (.int .i64 (j : Nat))), (5, .sl 5)]) (fun _ (x : List Pr) => [(5, .arr 89 3 (x.map D.pr))]) G.length
        (fun j x => x = w ++ (G.take j).map (fun m => (i, m, F m)) ∧ x.length ≤ w.length + j) w ⟨by simp, by omega⟩ (by refine Wk.auto ?_ ?_ <;> simp [extraK, lk, killL, St.kill, wipeO, wipeS, AV.has, AV.hasL, AO.wipe, List.map_set, updSt, insL, dropS, ins, D.ints]) ?_
      rintro R1 j x hN hE hj ⟨hx, hxl⟩
      by_cases hjn : j < G.length
      · have hs1 : w ++ (G.take (j + 1)).map (fun m => (i, m, F m)) = x ++ [(i, G.getD j 0, F (G.getD j 0))] := by
          rw [take_succ 0 G j hjn, List.map_append, ← List.append_assoc, ← hx]; rfl
        have hej := el_nats hjn
        have hm := ((hgm (G.getD j 0)).1 (getD_mem (z := 0) hjn)).1
        have c5 := Ctr.data1 (mono_ok hp hu hm)
        have c6 := Ctr.data1 (times_ok hp hu hcv (Vec.mono hp.1 u (G.getD j 0)))
        rw [← hpe] at c6
        clear hx hpe
        generalize G.getD j 0 = m at *
        generalize F m = V at *
        generalize monoD u m = T at *
        simp (disch := first | omega | decide +kernel) only [D.ints, D.alg, D.ring, hei2, hej, go_sem, zqa, zqb, zqc, zqd, zqe, ↓reduceIte, reduceCtorEq, zqf, zqg, zqh]
        (repeat' (first | ((first | (refine gsel_split (fun q' => ?_) (fun q' => ?_) <;> (have h' := q') <;> (try simp only [decide_eq_true_eq, decide_eq_false_iff_not, zba, zbb, bne_iff_ne, ne_eq, beq_iff_eq, bne_eq_false_iff_eq, beq_eq_false_iff_ne, zia, zib, zic, zid, zda, zbc, zbd, zbe, gt_iff_lt, ge_iff_le] at h') <;> try (exfalso; omega)) | (have q' := trivial; first | refine callX_shared (c5) rfl (by decide) ?_ | refine callY_shared (c5) rfl ?_ | refine callX_shared (c6) rfl (by decide) ?_ | refine callY_shared (c6) rfl ?_ | refine hE _ _ ret_ne ?_ | refine hE _ _ exit_ne ?_)) <;> (try simp (disch := first | omega | decide +kernel) only [q', D.ints, D.alg, hei2, hej, go_sem, zqa, zqb, zqc, zqd, zqe, ↓reduceIte, reduceCtorEq, zqf, zqg, zqh]) <;> clear q') | (refine hN _ ?_ ?_ Wk.kk) | (with_reducible refine And.intro ?_ ?_) | (with_reducible omega) | (exact ok_ints) | (exact cells_ints) | (exact no_mem) | (with_reducible exact plain_ints) | (refine le_maxLen ?_; omega) | (refine List.forall_mem_cons.2 ⟨?_, ?_⟩) | (simp only [go_sem, zqc, zqb, List.mem_cons, List.not_mem_nil, forall_eq]; done)))
        all_goals (first | omega | (rw [ok_agg]; simp [D.atom]; done) | (refine hN (x ++ [(i, m, V)]) _ hjn ⟨hs1.symm, by simp; omega⟩ (by refine Wk.auto ?_ ?_ <;> simp [extraK, lk, killL, St.kill, wipeO, wipeS, AV.has, AV.hasL, AO.wipe, List.map_set, updSt, insL, dropS, ins, List.map_append, List.map_cons, List.map_nil, D.ints]); done))
      · obtain rfl : j = G.length := by omega
        rw [List.take_length] at hx
        rw [← hx] at hs
        simp (disch := first | omega | decide +kernel) only [D.ints, go_sem, zqa, zqb, zqc, zqd, zqe, ↓reduceIte, reduceCtorEq, zqf, zqg, zqh]
        (repeat' (first | ((first | (refine gsel_split (fun q' => ?_) (fun q' => ?_) <;> (have h' := q') <;> (try simp only [decide_eq_true_eq, decide_eq_false_iff_not, zba, zbb, bne_iff_ne, ne_eq, beq_iff_eq, bne_eq_false_iff_eq, beq_eq_false_iff_ne, zia, zib, zic, zid, zda, zbc, zbd, zbe, gt_iff_lt, ge_iff_le] at h') <;> try (exfalso; omega)) | (have q' := trivial; first | refine hE _ _ ret_ne ?_ | refine hE _ _ exit_ne ?_)) <;> (try simp (disch := first | omega | decide +kernel) only [q', D.ints, go_sem, zqa, zqb, zqc, zqd, zqe, ↓reduceIte, reduceCtorEq, zqf, zqg, zqh]) <;> clear q') | (refine hN _ ?_ ?_ Wk.kk) | (with_reducible refine And.intro ?_ ?_) | (with_reducible omega) | (exact ok_ints) | (exact cells_ints) | (exact no_mem) | (with_reducible exact plain_ints) | (refine le_maxLen ?_; omega) | (refine List.forall_mem_cons.2 ⟨?_, ?_⟩) | (simp only [go_sem, zqc, zqb, List.mem_cons, List.not_mem_nil, forall_eq]; done)))
        all_goals (first | omega | (refine hN0 x _ hlt ⟨hs.symm, by omega⟩ (by refine Wk.auto ?_ ?_ <;> simp [extraK, lk, killL, St.kill, wipeO, wipeS, AV.has, AV.hasL, AO.wipe, List.map_set, updSt, insL, dropS, ins, D.ints]); done))
    · rw [if_neg hle, List.append_nil] at hs
      simp (disch := first | omega | decide +kernel) only [D.ints, hei, go_sem, zqa, zqb, zqc, zqd, zqe, ↓reduceIte, reduceCtorEq, zqf, zqg, zqh]
      (repeat' (first | ((first | (refine gsel_split (fun q' => ?_) (fun q' => ?_) <;> (have h' := q') <;> (try simp only [decide_eq_true_eq, decide_eq_false_iff_not, zba, zbb, bne_iff_ne, ne_eq, beq_iff_eq, bne_eq_false_iff_eq, beq_eq_false_iff_ne, zia, zib, zic, zid, zda, zbc, zbd, zbe, gt_iff_lt, ge_iff_le] at h') <;> try (exfalso; omega)) | (have q' := trivial; first | refine hE _ _ ret_ne ?_ | refine hE _ _ exit_ne ?_)) <;> (try simp (disch := first | omega | decide +kernel) only [q', D.ints, hei, go_sem, zqa, zqb, zqc, zqd, zqe, ↓reduceIte, reduceCtorEq, zqf, zqg, zqh]) <;> clear q') | (refine hN _ ?_ ?_ Wk.kk) | (with_reducible refine And.intro ?_ ?_) | (with_reducible omega) | (exact ok_ints) | (exact cells_ints) | (exact no_mem) | (with_reducible exact plain_ints) | (refine le_maxLen ?_; omega) | (refine List.forall_mem_cons.2 ⟨?_, ?_⟩) | (simp only [go_sem, zqc, zqb, List.mem_cons, List.not_mem_nil, forall_eq]; done)))
      all_goals (first | omega | (refine hN0 w _ hlt ⟨hs.symm, by omega⟩ (by refine Wk.auto ?_ ?_ <;> simp [extraK, lk, killL, St.kill, wipeO, wipeS, AV.has, AV.hasL, AO.wipe, List.map_set, updSt, insL, dropS, ins, D.ints]); done))
  · obtain rfl : i = cs.length := by omega
    rw [← hw] at hE0
    have hE := hE0
    simp (disch := first | omega | decide +kernel) only [D.ints, go_sem, zqa, zqb, zqc, zqd, zqe, ↓reduceIte, reduceCtorEq, zqf, zqg, zqh]
    (repeat' (first | ((first | (refine gsel_split (fun q' => ?_) (fun q' => ?_) <;> (have h' := q') <;> (try simp only [decide_eq_true_eq, decide_eq_false_iff_not, zba, zbb, bne_iff_ne, ne_eq, beq_iff_eq, bne_eq_false_iff_eq, beq_eq_false_iff_ne, zia, zib, zic, zid, zda, zbc, zbd, zbe, gt_iff_lt, ge_iff_le] at h') <;> try (exfalso; omega)) | (have q' := trivial; first | refine hE _ _ ret_ne ?_ | refine hE _ _ exit_ne ?_)) <;> (try simp (disch := first | omega | decide +kernel) only [q', D.ints, go_sem, zqa, zqb, zqc, zqd, zqe, ↓reduceIte, reduceCtorEq, zqf, zqg, zqh]) <;> clear q') | (refine hN _ ?_ ?_ Wk.kk) | (with_reducible refine And.intro ?_ ?_) | (with_reducible omega) | (exact ok_ints) | (exact cells_ints) | (exact no_mem) | (with_reducible exact plain_ints) | (refine le_maxLen ?_; omega) | (refine List.forall_mem_cons.2 ⟨?_, ?_⟩) | (simp only [go_sem, zqc, zqb, List.mem_cons, List.not_mem_nil, forall_eq]; done)))
    all_goals (first | omega | exact ret_s1 [5] rfl)
end
end Abs.Y

namespace Abs.Y
open Go Go.Proofs Abs
set_option maxRecDepth 100000

section
variable {p : Int} {u : Nat} (hp : p = 2 ∨ p = 3 ∨ p = 5) (hu : u ≤ 6)
def basL (L : List (List Int)) : List (List Int) := ((keepR p u hp hu).puts ([], false) L).1
end
end Abs.Y
