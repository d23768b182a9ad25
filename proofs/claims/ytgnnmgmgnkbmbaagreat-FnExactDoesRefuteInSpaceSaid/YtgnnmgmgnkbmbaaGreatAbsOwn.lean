/- What functions of this program compute, as contracts over plain data, with what the proofs need of them. No condition. -/
import Derived.Test.YtgnnmgmgnkbmbaaGreatAbsShelf
import Derived.Shelf.SlSortCmp.Whole1
import Derived.Shelf.SlicesE.Delete
import Derived.Test.YtgnnmgmgnkbmbaaGreatAbsRow
set_option linter.all false
namespace Abs
open Go Go.RowKit Go.Sort Go.Proofs Go.Shelf

/-- Data of one cell. -/
def D.one : D → Bool
  | .int _ _ => true
  | .bool _ => true
  | .str _ => true
  | .slice _ => true
  | .ptr _ => true
  | .nilptr => true
  | _ => false
theorem D.one_cells {x : D} (h : x.one = true) : x.cells = [x] := by
  cases x <;> first | rfl | cases h
theorem flat_oneD : ∀ {es : List D}, (∀ x ∈ es, x.one = true) → flat es = es
  | [], _ => rfl
  | x :: r, h => by
    have := flat_oneD (es := r) fun y hy => h y (by simp [hy])
    simp only [flat, List.flatMap_cons] at this ⊢
    rw [this, D.one_cells (h x (by simp))]; rfl
theorem Rd.one {S w x v} (hx : x.one = true) (h : Rd S w x v) : v.oneCell' = true := by
  cases h <;> first | rfl | cases hx

/-- The value at place i of a row; behind its end the value zv. -/
def mkR (zv : Value) (xs : List Value) (i : Nat) : Value := xs.getD i zv
theorem mkR_one {S w} {zv : Value} {xs : List Value} {es : List D} (hz : zv.oneCell' = true) (hes : ∀ x ∈ es, x.one = true) (hl : xs.length = es.length) (hr : ∀ i, i < es.length → Rd S w (es.getD i .nilptr) (xs.getD i Go.undef)) (i : Nat) : (mkR zv xs i).oneCell' = true := by
  unfold mkR
  by_cases hi : i < xs.length
  · have h1 := hr i (by omega)
    have h2 : (es.getD i .nilptr).one = true := hes _ (by
      rw [List.getD_eq_getElem?_getD, List.getElem?_eq_getElem (by omega)]; exact List.getElem_mem _)
    have h3 : xs.getD i zv = xs.getD i Go.undef := by simp [List.getD_eq_getElem?_getD, hi]
    rw [h3]; exact Rd.one h2 h1
  · have h3 : xs.getD i zv = zv := by simp [List.getD_eq_getElem?_getD, hi]
    rw [h3]; exact hz

theorem arr_openD {β S w e es v F} (hes : ∀ x ∈ es, x.one = true) (h : OK β S w (.arr e 1 es) v F) : (v = .slice none 0 0 ∧ es = []) ∨
    ∃ g cap cur xs, v = .slice (some ⟨g, 0, none⟩) es.length cap ∧ w.heap[g]? = some (.cells cur e (0, 0)) ∧ es.length ≤ cap ∧ cap ≤ maxLen ∧ cur.size = cap ∧ cur.toList.take es.length = xs ∧ xs.length = es.length ∧
      ∀ i, i < es.length → Rd S w (es.getD i .nilptr) (xs.getD i Go.undef) := by
  cases h with
  | arr hF vs hk0 hk hw hr =>
    rw [flat_oneD hes] at hr
    rcases hw.2 with ⟨h1, h2⟩ | ⟨g, cap, cur, h1, _, h3, h4, h5, h6, h7⟩
    · exact .inl ⟨h1, by simpa using h2⟩
    · exact .inr ⟨g, cap, cur, vs, by simpa using h1, h3, by simpa using h4, h5, by simpa using h6, by simpa using h7, by simpa using hw.1, hr⟩
theorem arr_closeD {β' S' w' e g cap} {cur' : Array Value} {es' : List D} {xs' : List Value} (hes : ∀ x ∈ es', x.one = true) (hb : w'.heap[g]? = some (.cells cur' e (0, 0))) (hcap : es'.length ≤ cap) (hm : cap ≤ maxLen) (hsz : cur'.size = cap)
    (hl : xs'.length = es'.length) (ht : cur'.toList.take es'.length = xs') (hr : ∀ i, i < es'.length → Rd S' w' (es'.getD i .nilptr) (xs'.getD i Go.undef)) :
    OK β' S' w' (.arr e 1 es') (.slice (some ⟨g, 0, none⟩) es'.length cap) (ownS (.slice (some ⟨g, 0, none⟩) es'.length cap)) := by
  refine .arr rfl xs' (by omega) (fun x hx => by rw [D.one_cells (hes x hx)]; rfl) ⟨by simpa using hl, .inr ⟨g, cap, cur', by simp, Nat.zero_le _, hb, by simpa using hcap, hm, by simpa using hsz, by simpa using ht⟩⟩ fun i hi => ?_
  rw [flat_oneD hes] at hi ⊢
  exact hr i hi
theorem arr_nilD {β' S' w' e} : OK β' S' w' (.arr e 1 []) (.slice none 0 0) (ownS (.slice none 0 0)) :=
  .arr rfl [] (by omega) (by simp) ⟨by simp, .inl ⟨rfl, by simp⟩⟩ (by simp [flat])

theorem holds_ofD {w : World} {g : Nat} {cur : Array Value} {e : TypeId} {xs : List Value} (zv : Value) (hb : w.heap[g]? = some (.cells cur e (0, 0))) (ht : cur.toList.take xs.length = xs) : Holds (mkR zv xs) w g 0 (Array.range xs.length) := by
  intro j hj
  have hj' : j < xs.length := by simpa using hj
  refine ⟨?_, by simp [World.frozen?, hb]⟩
  have h1 := congrArg (fun l : List Value => l[j]?) ht
  simp only [List.getElem?_take, if_pos hj', Array.getElem?_toList] at h1
  have h2 : (Array.range xs.length)[j]! = j := by rw [getElem!_pos _ j (by simpa using hj')]; simp
  rw [h2]
  simp [World.cell?, hb, h1, mkR, hj', List.getD_eq_getElem?_getD]

section
variable {α : Type} [Inhabited α] {enc : α → Value}
theorem putRow_blockD {w : World} {g : Nat} {cur : Array Value} {e : TypeId} (d : Array α) (hb : w.heap[g]? = some (.cells cur e (0, 0))) :
    (putRow enc w g 0 d).heap[g]? = some (.cells (putCells enc 0 d cur) e (0, 0)) := by
  simp [putRow, mapBlock, Array.getElem?_modify, hb, onCells]
theorem putRow_otherD {w : World} {g k : Nat} (d : Array α) (h : k ≠ g) : (putRow enc w g 0 d).heap[k]? = w.heap[k]? := by
  simp only [putRow, mapBlock, Array.getElem?_modify]
  rw [if_neg (Ne.symm h)]
theorem putCells_takeD (d : Array α) (cur : Array Value) (k : Nat) (hk : k ≤ d.size) (hd : d.size ≤ cur.size) : (putCells enc 0 d cur).toList.take k = (d.toList.take k).map enc := by
  apply List.ext_getElem?
  intro i
  simp only [List.getElem?_take, List.getElem?_map, putCells]
  split
  · rename_i hi
    have h1 : i < cur.size := by omega
    have h2 : i < d.size := by omega
    simp [h1, h2]
  · rfl
theorem sortWorld_otherD {w : World} {g m k : Nat} {d : Array α} {os : Array Obj} (hk : k < w.heap.size) (hne : k ≠ g) : (sortWorld enc w g 0 m d os).heap[k]? = w.heap[k]? := by
  show ((putRow _ (ahead w m) g 0 d).heap ++ os)[k]? = _
  rw [Array.getElem?_append_left (by rw [Go.Sort.size_putRow]; exact hk), putRow_otherD _ hne]; rfl
theorem sortWorld_frD {w : World} {g m : Nat} {d : Array α} {os : Array Obj} {M : Nat → Prop} (hM : M g) : Fr w.heap.size M w (sortWorld enc w g 0 m d os) := by
  refine ⟨rfl, rfl, rfl, ?_, ?_, fun k hk hkM => sortWorld_otherD hk fun e => hkM (e ▸ hM), Nat.le_add_right _ _⟩
  · show w.heap.size ≤ ((putRow _ (ahead w m) g 0 d).heap ++ os).size
    rw [Array.size_append, Go.Sort.size_putRow]; simp
  · show w.heap.size ≤ ((putRow _ (ahead w m) g 0 d).heap ++ os).size
    rw [Array.size_append, Go.Sort.size_putRow]; simp
theorem sortWorld_blockD {w : World} {g m : Nat} {d : Array α} {os : Array Obj} {cur : Array Value} {e : TypeId} (hb : w.heap[g]? = some (.cells cur e (0, 0))) :
    (sortWorld enc w g 0 m d os).heap[g]? = some (.cells (putCells enc 0 d cur) e (0, 0)) := by
  have hlt : g < w.heap.size := (Array.getElem?_eq_some_iff.1 hb).1
  show ((putRow _ (ahead w m) g 0 d).heap ++ os)[g]? = _
  rw [Array.getElem?_append_left (by rw [Go.Sort.size_putRow]; exact hlt)]
  exact putRow_blockD d hb
theorem sortWorld_sizeD {w : World} {g m : Nat} {d : Array α} {os : Array Obj} : w.heap.size ≤ (sortWorld enc w g 0 m d os).heap.size := by
  show w.heap.size ≤ ((putRow _ (ahead w m) g 0 d).heap ++ os).size
  rw [Array.size_append, Go.Sort.size_putRow]; simp
end
/-- What lies apart from the row reads as before. -/
theorem Rd.sortW {α : Type} [Inhabited α] {enc : α → Value} {S : Nat → Prop} {w : World} {g m : Nat} {d : Array α} {os : Array Obj} (hS : ∀ b, S b → b ≠ g) {x v} (h : Rd S w x v) : Rd S (sortWorld enc w g 0 m d os) x v :=
  h.move fun b hb hlt => ⟨hb, sortWorld_otherD hlt (hS b hb)⟩

/-- What a row holds that was written in place: the elements of old places. -/
structure Writ (es es' : List D) (d : Array Nat) : Prop where
  le : d.size ≤ es.length
  le' : es'.length ≤ d.size
  lt : ∀ i ∈ d.toList.take es'.length, i < es.length
  eq : (d.toList.take es'.length).map (fun i => es.getD i .nilptr) = es'

/-- A FUNCTION THAT LEAVES A ROW (AND NEW BLOCKS) BEHIND; it hands back nothing (cut: false) or the row's first part. -/
theorem CtrM.rowD {P : Program} {f : FuncId} {rest : List AV} {e : TypeId} {es es' : List D} (zv : Value) (cut : Bool) (hent : Enters P f) (hes : ∀ x ∈ es, x.one = true) (hl : es'.length ≤ es.length) (hc : cut = false → es'.length = es.length)
    (h : ∀ (S : Nat → Prop) (β : Nat → Value) (w : World) (rv : List Value), rv.length = rest.length → (∀ i, i < rest.length → Rel β S w (rest.getD i .undef) (rv.getD i Go.undef)) →
      (es = [] → Calls P f (.slice none 0 0 :: rv).toArray w fun en w' => en = .returned (if cut then .slice none 0 0 else .tuple #[]) ∧ w' = w) ∧
      (∀ g cap xs, (∀ b, S b → b ≠ g) → xs.length = es.length → (∀ i, i < es.length → Rd S w (es.getD i .nilptr) (xs.getD i Go.undef)) → Holds (mkR zv xs) w g 0 (Array.range es.length) → g < w.heap.size → es.length ≤ cap → cap ≤ maxLen →
        Calls P f (.slice (some ⟨g, 0, none⟩) es.length cap :: rv).toArray w fun en w' => en = .returned (if cut then .slice (some ⟨g, 0, none⟩) es'.length cap else .tuple #[]) ∧ ∃ m d os, Writ es es' d ∧ w' = sortWorld (mkR zv xs) w g 0 m d os)) :
    CtrM P f (.sl 0 :: rest) [(0, .arr e 1 es)] (if cut then [] else [0]) true (if cut then .sl 0 else .tup []) [(0, .arr e 1 es')] := by
  refine ⟨hent, fun S β φ w vs hvl hvr hO hD => ?_⟩
  cases vs with
  | nil => simp at hvl
  | cons v rv =>
    obtain ⟨h1, h2⟩ := h (free S φ [(0, .arr e 1 es)]) β w rv (by simpa using hvl) fun i hi => by simpa using hvr (i + 1) (by simpa using hi)
    have hv : v = β 0 := by
      have := hvr 0 (by simp)
      simp only [List.getD_cons_zero] at this
      cases this; rfl
    have hOk := hO 0 (.arr e 1 es) (by simp [lk])
    have hFo : φ 0 = ownS (β 0) := by
      generalize β 0 = v0 at *
      generalize φ 0 = F0 at *
      cases hOk with | arr hF => exact hF
    have one : ∀ {j : Nat} {o : AO} {l : List D}, lk j [(0, AO.arr e 1 l)] = some o → j = 0 ∧ o = .arr e 1 l := fun hj => by
      simp only [lk] at hj
      split at hj
      · rename_i e'; cases hj; exact ⟨e', rfl⟩
      · cases hj
    rcases arr_openD hes hOk with ⟨h3, rfl⟩ | ⟨g, cap, cur, xs, h3, h4, h5, h6, h7, h8, h9, h10⟩
    · obtain rfl : es' = [] := by simpa using hl
      rw [hv, h3]
      refine (h1 rfl).mono fun en w' ⟨he, hw⟩ => ⟨_, he, ?_, ?_⟩
      · subst hw; exact ⟨rfl, rfl, rfl, Nat.le_refl _, Nat.le_refl _, fun _ _ _ => rfl, Nat.le_refl _⟩
      · subst hw
        refine ⟨β, φ, by cases cut <;> simp, ?_, fun j o hj => ?_, fun j o g hj hg => ?_, fun j j' o o' g hj hj' _ _ => ?_⟩
        · cases cut with
          | true => simp only [if_true]; rw [← h3]; exact .sl 0
          | false => exact Rel.tup (xs := []) (vs := []) rfl (by simp)
        · obtain ⟨rfl, rfl⟩ := one hj
          rw [hFo, h3]; exact arr_nilD
        · obtain ⟨rfl, rfl⟩ := one hj
          rw [hFo, h3] at hg; cases hg
        · rw [(one hj).1, (one hj').1]
    · have hlt : g < w.heap.size := (Array.getElem?_eq_some_iff.1 h4).1
      have hM : blocksOf φ [(0, AO.arr e 1 es)] g := ⟨0, .arr e 1 es, by simp [lk], by rw [hFo, h3]; rfl⟩
      have hSg : ∀ b, free S φ [(0, AO.arr e 1 es)] b → b ≠ g := fun b hb e' => hb.2 0 (.arr e 1 es) (by simp [lk]) (by rw [hFo, h3, e']; rfl)
      have hH := holds_ofD (xs := xs) zv h4 (by rw [h9]; exact h8)
      rw [h9] at hH
      rw [hv, h3]
      refine (h2 g cap xs hSg h9 h10 hH hlt h5 h6).mono fun en w' ⟨he, m, d, os, hW, hw⟩ => ⟨_, he, ?_, ?_⟩
      · subst hw; exact sortWorld_frD hM
      · subst hw
        have hdl : (d.toList.take es'.length).length = es'.length := by rw [List.length_take, Array.length_toList]; exact Nat.min_eq_left hW.le'
        have hok : ∀ S', (∀ b, free S φ [(0, AO.arr e 1 es)] b → S' b) → ∀ β', OK β' S' (sortWorld (mkR zv xs) w g 0 m d os) (.arr e 1 es') (.slice (some ⟨g, 0, none⟩) es'.length cap) (ownS (.slice (some ⟨g, 0, none⟩) es'.length cap)) := fun S' hS' β' => by
          refine arr_closeD (xs' := (d.toList.take es'.length).map (mkR zv xs)) (fun x hx => ?_) (sortWorld_blockD h4) (by omega) h6 (by simp [putCells, h7]) (by rw [List.length_map, hdl])
            (putCells_takeD d cur es'.length hW.le' (by have := hW.le; omega)) fun i hi => ?_
          · rw [← hW.eq] at hx
            obtain ⟨i, hi, rfl⟩ := List.mem_map.1 hx
            have := hW.lt i hi
            exact hes _ (by rw [List.getD_eq_getElem?_getD, List.getElem?_eq_getElem this]; exact List.getElem_mem _)
          · have hi' : i < (d.toList.take es'.length).length := by rw [hdl]; exact hi
            have hlt' := hW.lt _ (List.getElem_mem hi')
            have e1 : es'.getD i .nilptr = es.getD (d.toList.take es'.length)[i] .nilptr := by
              have := congrArg (fun l : List D => l.getD i .nilptr) hW.eq
              rw [← this, List.getD_eq_getElem?_getD, List.getElem?_map, List.getElem?_eq_getElem hi']; rfl
            have e2 : ((d.toList.take es'.length).map (mkR zv xs)).getD i Go.undef = xs.getD (d.toList.take es'.length)[i] Go.undef := by
              rw [List.getD_eq_getElem?_getD, List.getElem?_map, List.getElem?_eq_getElem hi']
              simp only [Option.map_some, Option.getD_some, mkR]
              rw [List.getD_eq_getElem?_getD, List.getD_eq_getElem?_getD, List.getElem?_eq_getElem (by omega)]; rfl
            rw [e1, e2]
            exact (Rd.sortW hSg (h10 _ hlt')).weaken hS'
        have hown : ∀ {v : Value} {φ' : Nat → Nat → Prop}, (∀ b, φ' 0 b → φ 0 b) → ∀ b, free S φ [(0, AO.arr e 1 es)] b → free (fun g => w.heap.size ≤ g ∨ blocksOf φ [(0, AO.arr e 1 es)] g ∨ (true = true ∧ S g)) φ' [(0, AO.arr e 1 es')] b := fun {_ φ'} hφ b hb =>
          ⟨.inr (.inr ⟨rfl, hb.1⟩), fun j o hj hg => by
            obtain ⟨rfl, _⟩ := one hj
            exact hb.2 0 (.arr e 1 es) (by simp [lk]) (hφ b hg)⟩
        cases cut with
        | false =>
          have hll := hc rfl
          refine ⟨β, φ, fun _ _ => rfl, Rel.tup (xs := []) (vs := []) rfl (by simp), fun j o hj => ?_, fun j o g' hj hg => ?_, fun j j' o o' g hj hj' _ _ => ?_⟩
          · obtain ⟨rfl, rfl⟩ := one hj
            have := hok _ (hown (v := v) fun _ h => h) β
            rw [hFo, h3, ← hll]; exact this
          · obtain ⟨rfl, rfl⟩ := one hj
            rw [hFo, h3] at hg
            cases hg
            exact .inr hM
          · rw [(one hj).1, (one hj').1]
        | true =>
          refine ⟨fun _ => .slice (some ⟨g, 0, none⟩) es'.length cap, fun _ => ownS (.slice (some ⟨g, 0, none⟩) es'.length cap), by simp, ?_, fun j o hj => ?_, fun j o g' hj hg => ?_, fun j j' o o' g hj hj' _ _ => ?_⟩
          · exact Rel.sl (β := fun _ => Value.slice (some ⟨g, 0, none⟩) es'.length cap) 0
          · obtain ⟨rfl, rfl⟩ := one hj
            exact hok _ (hown (v := v) fun b hb => by rw [hFo, h3]; exact hb) _
          · obtain ⟨rfl, rfl⟩ := one hj
            cases hg
            exact .inr hM
          · rw [(one hj).1, (one hj').1]

/-- A function of two rows' elements, in the library's words: what a contract of this layer gives. -/
theorem Ctr.cmpLays {P : Program} {f : FuncId} {cf : Nat → Nat → Int} {es : List D} {zd : D} {zv : Value} {xs : List Value} {S : Nat → Prop} {w : World} {g n : Nat} (hz : ∀ w, Rd (fun _ => True) w zd zv)
    (hf : ∀ i j, Ctr P f [es.getD i zd, es.getD j zd] false (.d (.int .i64 (cf i j))) []) (hS : ∀ b, S b → b ≠ g) (hl : xs.length = es.length) (hr : ∀ i, i < es.length → Rd S w (es.getD i .nilptr) (xs.getD i Go.undef)) :
    CmpLays1 P f #[] (mkR zv xs) cf g 0 n w := fun m os dk _ i j => by
  have hrd : ∀ i, Rd (fun _ => True) (sortWorld (mkR zv xs) w g 0 m dk os) (es.getD i zd) (mkR zv xs i) := fun i => by
    by_cases hi : i < es.length
    · have e1 : es.getD i zd = es.getD i .nilptr := by simp [List.getD_eq_getElem?_getD, hi]
      have e2 : mkR zv xs i = xs.getD i Go.undef := by simp [mkR, List.getD_eq_getElem?_getD, show i < xs.length by omega]
      rw [e1, e2]
      exact (Rd.sortW hS (hr i hi)).weaken fun _ _ => trivial
    · have e1 : es.getD i zd = zd := by simp [List.getD_eq_getElem?_getD, hi]
      have e2 : mkR zv xs i = zv := by simp [mkR, List.getD_eq_getElem?_getD, show ¬ i < xs.length by omega]
      rw [e1, e2]; exact hz _
  have h := (hf i j).2 (fun _ => True) (sortWorld (mkR zv xs) w g 0 m dk os) [mkR zv xs i, mkR zv xs j] rfl (fun k hk => by
    match k, hk with
    | 0, _ => exact hrd i
    | 1, _ => exact hrd j)
  have he : (#[mkR zv xs i, mkR zv xs j] ++ #[] : Array Value) = [mkR zv xs i, mkR zv xs j].toArray := by simp
  rw [he]
  refine h.mono fun en w' ⟨v, hv, hF, β, φ, hR, _⟩ => ?_
  generalize sortWorld (mkR zv xs) w g 0 m dk os = W at *
  cases hR with
  | d hR =>
    cases hR
    refine ⟨hv, w'.drawn - W.drawn, w'.heap.extract W.heap.size w'.heap.size, ?_⟩
    have hh : w'.heap = W.heap ++ w'.heap.extract W.heap.size w'.heap.size := by
      apply Array.ext_getElem?
      intro k
      by_cases hk : k < W.heap.size
      · rw [Array.getElem?_append_left hk]; exact hF.block k hk (fun h => h)
      · rw [Array.getElem?_append_right (by omega)]
        have := hF.size
        by_cases hk2 : k < w'.heap.size
        · simp [hk2, show k - W.heap.size < w'.heap.size - W.heap.size by omega, show W.heap.size + (k - W.heap.size) = k by omega]
        · simp [hk2, show ¬ k - W.heap.size < w'.heap.size - W.heap.size by omega]
    have hd : w'.drawn = W.drawn + (w'.drawn - W.drawn) := by have := hF.drawn; omega
    have h1 := hF.os; have h2 := hF.tape; have h3 := hF.output
    obtain ⟨hp, tp, dr, o, ou⟩ := w'
    simp only at hh hd h1 h2 h3
    subst h1 h2 h3
    unfold grow World.drewN
    simp only
    rw [← hh, ← hd]
end Abs

namespace Abs
open Go Go.RowKit

theorem OK.deep {β S w e k es v F} (hb : ∀ x ∈ flat es, x.bare = true) (h : OK β S w (.arr e k es) v F) : OK β S w (.dp (some (e, k)) es none) v F := by
  have hlt : ∀ g, F g → g < w.heap.size := fun g hg => h.block_lt hg
  cases h with
  | arr hF xs hk0 hk hw hr =>
    subst hF
    exact .dp hlt (.inr ⟨e, k, xs, fun _ _ => False, .inr rfl, hk0, hk, hw, fun b hb => ⟨hb, fun _ h => h⟩, fun _ _ h => h.elim, fun _ _ _ h => h.elim, fun i hi _ => dp_bare (hb _ (by
        simp only [List.getD_eq_getElem?_getD, List.getElem?_eq_getElem hi, Option.getD_some]; exact List.getElem_mem hi)) (hr i hi), fun _ _ h => by cases h⟩)
theorem OK.loose {β S w t es ho v F} (h : OK β S w (.dp t es ho) v F) : OK β S w (.dp none es ho) v F := by
  cases h with
  | dp hlt h =>
    rcases h with ⟨_, h2, h3, h4⟩ | ⟨e, k, xs, fs, ht, h⟩
    · exact .dp hlt (.inl ⟨rfl, h2, h3, h4⟩)
    · exact .dp hlt (.inr ⟨e, k, xs, fs, .inl rfl, h⟩)

/-- An object is seen as one of another kind. -/
theorem Wk.obj {N} {st : St} (j : Nat) {o o1 : AO} (hj : lk j st.o = some o) (h : ∀ β S w v F, OK β S w o v F → OK β S w o1 v F) : Wk N st ⟨st.s, ins j o1 st.o⟩ := fun Z β φ B M w0 a w hs => by
  have hk : ∀ i x, lk i (ins j o1 st.o) = some x → (i = j ∧ x = o1) ∨ (i ≠ j ∧ lk i st.o = some x) := fun i x hi => by
    rw [lk_ins] at hi
    split at hi
    · rename_i e; cases hi; exact .inl ⟨e, rfl⟩
    · rename_i e; exact .inr ⟨e, hi⟩
  have he : ∀ i x, lk i (ins j o1 st.o) = some x → ∃ y, lk i st.o = some y := fun i x hi => by
    rcases hk i x hi with ⟨rfl, _⟩ | ⟨_, h2⟩
    · exact ⟨o, hj⟩
    · exact ⟨x, h2⟩
  have hS : ∀ g, free Z φ st.o g → g < w.heap.size → free Z φ (ins j o1 st.o) g ∧ w.heap[g]? = w.heap[g]? := fun g hg _ => ⟨⟨hg.1, fun i x hi => by
    obtain ⟨y, hy⟩ := he i x hi; exact hg.2 i y hy⟩, rfl⟩
  refine ⟨β, φ, hs.nd, hs.size, fun i av hi => (hs.slots i av hi).move hS, fun i x hi => ?_, fun i x g hi hg => ?_, fun i i' x x' g hi hi' hg hg' => ?_, hs.fr, hs.z⟩
  · rcases hk i x hi with ⟨rfl, rfl⟩ | ⟨_, h2⟩
    · exact h _ _ _ _ _ ((hs.objs i o hj).move hS (Nat.le_refl _) fun _ _ => rfl)
    · exact (hs.objs i x h2).move hS (Nat.le_refl _) fun _ _ => rfl
  · obtain ⟨y, hy⟩ := he i x hi; exact hs.own i y g hy hg
  · obtain ⟨y, hy⟩ := he i x hi
    obtain ⟨y', hy'⟩ := he i' x' hi'
    exact hs.disj i i' y y' g hy hy' hg hg'
/-- A row whose cells bear no memory is a tree. -/
theorem Wk.deep {N} {S : List (Nat × AV)} {O : List (Nat × AO)} (j : Nat) {e k es} (hj : lk j O = some (.arr e k es)) (hb : ∀ x ∈ flat es, x.bare = true) : Wk N ⟨S, O⟩ ⟨S, ins j (.dp (some (e, k)) es none) O⟩ :=
  Wk.obj (st := ⟨S, O⟩) j hj fun _ _ _ _ _ h => h.deep hb
theorem Wk.loose {N} {S : List (Nat × AV)} {O : List (Nat × AO)} (j : Nat) {t es ho} (hj : lk j O = some (.dp t es ho)) : Wk N ⟨S, O⟩ ⟨S, ins j (.dp none es ho) O⟩ :=
  Wk.obj (st := ⟨S, O⟩) j hj fun _ _ _ _ _ h => h.loose
/-- A part that is out goes back. -/
theorem Wk.fold {N} {S S' : List (Nat × AV)} {O O' : List (Nat × AO)} (j : Nat) {t es} (h : deepAt ⟨S, O⟩ j = some (t, es, ⟨S', O'⟩)) : Wk N ⟨S, O⟩ ⟨S', O'⟩ := fun _ β _ _ _ _ _ _ hs =>
  let ⟨φ', h1, _⟩ := deepAt_spec hs h
  ⟨β, φ', h1⟩
/-- An owned tree becomes data. -/
theorem Wk.data {N st j o es} (hj : lk j st.o = some o) (ho : rowOf o = some es) : Wk N st (st.frz j es) := fun _ β φ _ _ _ _ _ hs => ⟨β, φ, hs.frz' hj ho⟩

theorem lk_one {α : Type} {j : Nat} {a b : α} (h : lk j [(0, a)] = some b) : j = 0 ∧ b = a := by
  simp only [lk] at h
  split at h
  · rename_i e; cases h; exact ⟨e, rfl⟩
  · cases h
theorem free_one {T : Nat → Prop} {φ : Nat → Nat → Prop} {a b : AO} {g : Nat} (h : free T φ [(0, a)] g) : free T φ [(0, b)] g := ⟨h.1, fun j x hj => by
  obtain ⟨rfl, rfl⟩ := lk_one hj; exact h.2 0 a (by simp [lk])⟩
/-- A result that is seen as an object of another kind. -/
theorem Ctr.obj {P : Program} {f : FuncId} {xs : List D} {sh : Bool} {res : AV} {o o1 : AO} (h : ∀ β S w v F, OK β S w o v F → OK β S w o1 v F) (hc : Ctr P f xs sh res [(0, o)]) : Ctr P f xs sh res [(0, o1)] := by
  refine ⟨hc.1, fun S w vs hl hr => (hc.2 S w vs hl hr).mono fun en w' ⟨v, he, hf, β, φ, h1, h2, h3, h4⟩ => ⟨v, he, hf, β, φ, h1.move fun g hg _ => ⟨free_one hg, rfl⟩, fun j x hj => ?_, fun j x g hj hg => ?_, fun j j' x x' g hj hj' _ _ => ?_⟩⟩
  · obtain ⟨rfl, rfl⟩ := lk_one hj
    exact h _ _ _ _ _ ((h2 0 o (by simp [lk])).move (fun g hg _ => ⟨free_one hg, rfl⟩) (Nat.le_refl _) fun _ _ => rfl)
  · obtain ⟨rfl, rfl⟩ := lk_one hj
    exact h3 0 o g (by simp [lk]) hg
  · rw [(lk_one hj).1, (lk_one hj').1]
/-- A new row of data that bears no memory is a new tree. -/
theorem Ctr.deep {P : Program} {f : FuncId} {xs : List D} {sh : Bool} {res : AV} {e k es} (hc : Ctr P f xs sh res [(0, .arr e k es)]) (hb : ∀ x ∈ flat es, x.bare = true) : Ctr P f xs sh res [(0, .dp (some (e, k)) es none)] :=
  hc.obj fun _ _ _ _ _ h => h.deep hb

theorem bare_ints {k : IntKind} (xs : List Int) : (∀ x ∈ flat (List.map (D.int k) xs), x.bare = true) = True := by
  refine eq_true fun x hx => ?_
  obtain ⟨y, hy, hc⟩ := List.mem_flatMap.1 hx
  obtain ⟨z, _, rfl⟩ := List.mem_map.1 hy
  have : x = .int k z := by simpa [D.cells] using hc
  subst this; rfl
attribute [go_sem] bare_ints

/-- A function that writes into one owned object and hands back data. -/
theorem retM_d {P t st x u ob} (h : lk t st.s = some (.d x)) (ho : lk 0 st.o = some ob) (hk : lk 1000000000 st.s = some (.hdr 0 (u 0))) (hx : x.plain = true) (hp : ob.plain) (hr : ob.ren (fun j => j) = ob) :
    retM P [.tmp t] u [0] false (.d x) [(0, ob)] .ret st := by
  simp only [retM, resV, h]
  refine ⟨trivial, ⟨fun j => j, rfl, by simpa [hr] using ho, by simp, ⟨rfl, hk, trivial⟩⟩, .inr ⟨hx, hp, trivial⟩⟩
/-- A new owned tree. -/
theorem ret_dp {P t st τ es} (j : Nat) (h : lk t st.s = some (.sl j)) (ho : lk j st.o = some (.dp τ es none)) : retQ P [.tmp t] false (.sl 0) [(0, .dp τ es none)] .ret st := by
  refine .inl ?_
  simp only [retO, resV, h]; exact ⟨trivial, .one j rfl ho, .inr ⟨trivial, trivial, trivial⟩⟩
/-- A new owned tree, and data. -/
theorem ret_dpd {P t u y st τ es} (j : Nat) (h : lk t st.s = some (.sl j)) (h' : lk u st.s = some (.d y)) (ho : lk j st.o = some (.dp τ es none)) (hy : y.plain = true) :
    retQ P [.tmp t, .tmp u] false (.tup [.sl 0, .d y]) [(0, .dp τ es none)] .ret st := by
  refine .inl ?_
  simp only [retO, resV, h, h']
  exact ⟨trivial, .one j rfl ho, .inr ⟨⟨trivial, hy, trivial⟩, trivial, trivial⟩⟩
/-- A struct that lies in a variable, one of whose cells is an owned object. -/
theorem ret_cst {P : Program} {a j i : Nat} {t e : TypeId} {cells cs' : List AV} {ob : AO} {st : St} (h : lk a st.s = some (.p j 0)) (hj : lk j st.o = some (.box e cells)) (hag : aggT P t = true) (hn : P.cellsOf t = cells.length) (hd : allD cells = none)
    (hu : (P.underlying t).isSome = true) (hi : lk i st.o = some ob) (hc : cells = AV.renL (fun _ => i) cs') (hp : AV.plainL cs') (hop : ob.plain) (hr : ob.ren (fun _ => i) = ob) :
    retQ P [.cell a t] false (.st cs') [(0, ob)] .ret st := by
  refine .inl ?_
  have hl : (lk a st.s).bind (loadV P st.o t) = some (0 + P.cellsOf t ≤ cells.length ∧ (P.underlying t).isSome = true, .st cells) := by
    rw [h, Option.bind_some, loadV, hj]
    simp only [hag, if_true, List.drop_zero, hn, List.take_length, hd]
  simp only [retO, resV, hl]
  exact ⟨⟨hu, ⟨by omega, hu⟩, trivial⟩, .one i (by simp only [oneOf, AV.ren, hc]) (by rw [hr]; exact hi), .inr ⟨hp, hop, trivial⟩⟩

/-- A call of a function that writes into one owned object, which keeps its place. -/
theorem callX_keep {P N f cavs st dst K} (J : Nat) {avs o res o'} (hs : CtrM P f avs [(0, o)] [0] false res [(0, o')]) (hp : passM P (delL [J] st.o) (nth [J]) false cavs avs) (ho : lk J st.o = some (o.ren (nth [J])))
    (hd : dstB N dst) (hK : K (impM st dst (nth [J]) [] res [(0, o')])) : callX P N f cavs dst K st :=
  callX_mut [J] [J] [] hs hp ⟨ho, trivial⟩ (by simp [namesOK, keysO, nth]) hd hK

/-! ### Numbers that are written -/
def cntI (k : Int) : Nat → List Int
  | 0 => []
  | n + 1 => k :: cntI (k + 1) n
theorem cntI_len : ∀ (n : Nat) (k : Int), (cntI k n).length = n
  | 0, _ => rfl
  | n + 1, k => by simp [cntI, cntI_len n]
theorem cntI_getD : ∀ (n : Nat) (k : Int) (j : Nat), j < n → (cntI k n).getD j 0 = k + j
  | n + 1, k, 0, _ => by simp [cntI]
  | n + 1, k, j + 1, h => by
    rw [cntI, List.getD_cons_succ, cntI_getD n (k + 1) j (by omega)]; omega
end Abs
namespace Abs
theorem bare_nils {n : Nat} : ∀ x ∈ flat (List.map D.ints (List.replicate n ([] : List Int))), x.bare = true := fun x hx => by
  obtain ⟨y, hy, hc⟩ := List.mem_flatMap.1 hx
  obtain ⟨z, hz, rfl⟩ := List.mem_map.1 hy
  rw [List.eq_of_mem_replicate hz] at hc
  have : x = D.ints [] := by simpa [D.cells, D.ints] using hc
  subst this; rfl
end Abs
namespace Abs
def cntSS : List (List Int) → Int → List (List Int)
  | [], _ => []
  | x :: r, k => cntI k x.length :: cntSS r (k + x.length)
def lenSS : List (List Int) → Nat
  | [] => 0
  | x :: r => x.length + lenSS r
theorem lenSS_drop : ∀ (a : List (List Int)) (i : Nat), i < a.length → lenSS (a.drop i) = (a.getD i []).length + lenSS (a.drop (i + 1))
  | x :: r, 0, _ => by simp [lenSS]
  | x :: r, i + 1, h => by simpa using lenSS_drop r i (by simpa using h)
theorem cntSS_len : ∀ (a : List (List Int)) (k : Int), (cntSS a k).length = a.length
  | [], _ => rfl
  | x :: r, k => by simp [cntSS, cntSS_len r]
/-- The number that stands at the head of list i. -/
def offSS (a : List (List Int)) (k : Int) (i : Nat) : Int := k + (lenSS (a.take i) : Nat)
theorem cntSS_getD : ∀ (a : List (List Int)) (k : Int) (i : Nat), i < a.length → (cntSS a k).getD i [] = cntI (offSS a k i) (a.getD i []).length
  | x :: r, k, 0, _ => by simp [cntSS, offSS, lenSS]
  | x :: r, k, i + 1, h => by
    have := cntSS_getD r (k + x.length) i (by simpa using h)
    rw [cntSS, List.getD_cons_succ, this, List.getD_cons_succ]
    unfold offSS
    rw [List.take_succ_cons, lenSS]
    congr 1; omega
theorem offSS_succ (a : List (List Int)) (k : Int) (i : Nat) (h : i < a.length) : offSS a k (i + 1) = offSS a k i + (a.getD i []).length := by
  have : ∀ (a : List (List Int)) (i : Nat), i < a.length → lenSS (a.take (i + 1)) = lenSS (a.take i) + (a.getD i []).length := by
    intro a
    induction a with
    | nil => intro i h; simp at h
    | cons x r ih =>
      intro i h
      cases i with
      | zero => simp [lenSS]
      | succ i =>
        have := ih i (by simpa using h)
        rw [List.take_succ_cons, lenSS, this, List.take_succ_cons, lenSS, List.getD_cons_succ]; omega
  unfold offSS
  rw [this a i h]; omega
theorem offSS_zero (a : List (List Int)) (k : Int) : offSS a k 0 = k := by simp [offSS, lenSS]
theorem offSS_len (a : List (List Int)) (k : Int) : offSS a k a.length = k + lenSS a := by simp [offSS]
theorem lenSS_take_le : ∀ (a : List (List Int)) (i : Nat), lenSS (a.take i) ≤ lenSS a
  | [], i => by simp [lenSS]
  | x :: r, 0 => by simp [lenSS]
  | x :: r, i + 1 => by have := lenSS_take_le r i; simp [lenSS]; exact this
theorem offSS_le (a : List (List Int)) (k : Int) (i : Nat) : offSS a k i ≤ k + lenSS a := by
  have := lenSS_take_le a i; unfold offSS; omega
theorem lenSS_bound {a : List (List Int)} {B : Nat} (h : ∀ x ∈ a, x.length ≤ B) : lenSS a ≤ a.length * B := by
  induction a with
  | nil => simp [lenSS]
  | cons x r ih =>
    have h1 := h x (by simp)
    have h2 := ih fun y hy => h y (by simp [hy])
    simp only [lenSS, List.length_cons, Nat.add_mul, Nat.one_mul]; omega

def lenST : List Step → Nat
  | [] => 0
  | s :: r => s.c.length + 3 + lenST r
def cntST1 (s : Step) (k : Int) : Step := ⟨cntI k s.c.length, k + s.c.length, k + s.c.length + 1, k + s.c.length + 2⟩
def cntST : List Step → Int → List Step
  | [], _ => []
  | s :: r, k => cntST1 s k :: cntST r (k + s.c.length + 3)
def offST (a : List Step) (k : Int) (i : Nat) : Int := k + (lenST (a.take i) : Nat)
theorem cntST_len : ∀ (a : List Step) (k : Int), (cntST a k).length = a.length
  | [], _ => rfl
  | x :: r, k => by simp [cntST, cntST_len r]
theorem cntST_getD : ∀ (a : List Step) (k : Int) (i : Nat), i < a.length → (cntST a k).getD i Step.z = cntST1 (a.getD i Step.z) (offST a k i)
  | x :: r, k, 0, _ => by simp [cntST, offST, lenST]
  | x :: r, k, i + 1, h => by
    have := cntST_getD r (k + x.c.length + 3) i (by simpa using h)
    rw [cntST, List.getD_cons_succ, this, List.getD_cons_succ]
    unfold offST
    rw [List.take_succ_cons, lenST]
    congr 1; omega
theorem offST_succ (a : List Step) (k : Int) (i : Nat) (h : i < a.length) : offST a k (i + 1) = offST a k i + (a.getD i Step.z).c.length + 3 := by
  have : ∀ (a : List Step) (i : Nat), i < a.length → lenST (a.take (i + 1)) = lenST (a.take i) + (a.getD i Step.z).c.length + 3 := by
    intro a
    induction a with
    | nil => intro i h; simp at h
    | cons x r ih =>
      intro i h
      cases i with
      | zero => simp [lenST]
      | succ i =>
        have := ih i (by simpa using h)
        rw [List.take_succ_cons, lenST, this, List.take_succ_cons, lenST, List.getD_cons_succ]; omega
  unfold offST
  rw [this a i h]; omega
theorem offST_zero (a : List Step) (k : Int) : offST a k 0 = k := by simp [offST, lenST]
theorem offST_len (a : List Step) (k : Int) : offST a k a.length = k + lenST a := by simp [offST]
theorem lenST_take_le : ∀ (a : List Step) (i : Nat), lenST (a.take i) ≤ lenST a
  | [], i => by simp [lenST]
  | x :: r, 0 => by simp [lenST]
  | x :: r, i + 1 => by have := lenST_take_le r i; simp [lenST]; exact this
theorem offST_le (a : List Step) (k : Int) (i : Nat) : offST a k i ≤ k + lenST a := by
  have := lenST_take_le a i; unfold offST; omega
theorem lenST_bound {a : List Step} {B : Nat} (h : ∀ x ∈ a, x.c.length ≤ B) : lenST a ≤ a.length * (B + 3) := by
  induction a with
  | nil => simp [lenST]
  | cons x r ih =>
    have h1 := h x (by simp)
    have h2 := ih fun y hy => h y (by simp [hy])
    simp only [lenST, List.length_cons, Nat.add_mul, Nat.one_mul] at h2 ⊢; omega
theorem offST_nonneg (a : List Step) {k : Int} (i : Nat) (h : 0 ≤ k) : 0 ≤ offST a k i := by unfold offST; omega
theorem offSS_nonneg (a : List (List Int)) {k : Int} (i : Nat) (h : 0 ≤ k) : 0 ≤ offSS a k i := by unfold offSS; omega
end Abs
namespace Abs
theorem bare_zsteps {n : Nat} : ∀ x ∈ flat (List.map D.step (List.replicate n Step.z)), x.bare = true := fun x hx => by
  obtain ⟨y, hy, hc⟩ := List.mem_flatMap.1 hx
  obtain ⟨z, hz, rfl⟩ := List.mem_map.1 hy
  rw [List.eq_of_mem_replicate hz] at hc
  simp only [D.step, Step.z, D.cells, D.ints, List.map_nil, List.mem_cons, List.not_mem_nil, or_false] at hc
  rcases hc with rfl | rfl | rfl | rfl <;> rfl
end Abs
namespace Abs
theorem el_set_self {es : List D} {i : Nat} {x : D} (h : i < es.length) : el (es.set i x) i = x := by simp [el, List.getD_eq_getElem?_getD, h]
end Abs
namespace Abs
theorem el_set_map {α : Type} {f : α → D} {es : List α} {i : Nat} {x : D} (h : i < es.length) : el ((es.map f).set i x) i = x := el_set_self (by simpa using h)
end Abs
namespace Abs
open Go Go.RowKit
/-- A nil slice that lies in a variable is an empty row of its own. -/
theorem Wk.nilObj {N} {S : List (Nat × AV)} {O : List (Nat × AO)} (d j off : Nat) {e t : TypeId} {k : Nat} {cells : List AV} (hj : lk j (wipeO d O) = some (.box t cells)) (hn : cells.getD off .undef = .nilS) (ho : off < cells.length) (hdj : j ≠ d) (hk : 0 < k) :
    Wk N ⟨S, O⟩ ⟨wipeS d S, ins d (.arr e k []) (ins j (.box t (setL cells off [.sl d])) (wipeO d O))⟩ := fun Z β φ B M w0 a w hs => by
  have h1 := hs.kill (β' := upd β d (.slice none 0 0)) (φ' := updF φ d (ownS (.slice none 0 0))) d upd_ne updF_ne
  have g0 : Gb w w none := Gb.refl w none
  have h2 := h1.mod (o := .box t (setL cells off [.sl d])) (j := j) hj (w' := w) g0 (by simp) fun S' m1 m2 => by
    have hO := h1.objs j _ hj
    rw [upd_ne j hdj, updF_ne j hdj] at hO ⊢
    generalize β j = vj at *
    generalize φ j = Fj at *
    cases hO with
    | box hF xs hne hw hr =>
      have hxl : xs.length = cells.length := by simpa using hw.1
      have hsl : (setL cells off [.sl d]).length = cells.length := setL_length (by simp; omega)
      refine .box hF xs hne (by rw [hsl]; exact hw) fun i hi => ?_
      rw [hsl] at hi
      rw [setL_getD (by simp; omega)]
      split
      · rename_i hh
        simp only [List.length_singleton] at hh
        have : i = off := by omega
        subst this
        have h3 := hr i hi
        rw [hn] at h3
        simp only [Nat.sub_self, List.getD_cons_zero]
        generalize xs.getD i Go.undef = u at *
        cases h3
        have h4 := Rel.sl (β := upd β d (.slice none 0 0)) (S := S') (w := w) d
        rwa [upd_eq] at h4
      · exact m1 _ _ (hr i hi)
  have hnone : lk d (ins j (.box t (setL cells off [.sl d])) (wipeO d O)) = none := by
    rw [lk_ins, if_neg (Ne.symm hdj)]
    exact lk_kill (st := ⟨S, O⟩)
  refine ⟨_, _, h2.layNew (j := d) (o := .arr e k []) hnone g0 (fun g hg => by rw [updF_eq] at hg; cases hg) fun S' _ _ => ?_⟩
  rw [upd_eq, updF_eq]
  exact .arr rfl [] hk (by simp) (World.ownsRow_nil _ _ _ _) (by simp [flat])
end Abs

namespace Abs
open Go Go.RowKit

mutual
def AV.bfz (j : Nat) (x : D) : AV → AV
  | .sl i => if i = j then .undef else .sl i
  | .p i o => if i = j then (if o = 0 then .d (.ptr x) else .undef) else .p i o
  | .pe i k n o => if i = j then .undef else .pe i k n o
  | .tup xs => .tup (AV.bfzL j x xs)
  | .st xs => .st (AV.bfzL j x xs)
  | .fn f cs => .fn f (AV.bfzL j x cs)
  | y => y
def AV.bfzL (j : Nat) (x : D) : List AV → List AV
  | [] => []
  | y :: r => y.bfz j x :: AV.bfzL j x r
end
theorem bfzL_length {j x} : ∀ xs : List AV, (AV.bfzL j x xs).length = xs.length
  | [] => rfl
  | y :: r => by simp [AV.bfzL, bfzL_length r]
theorem bfzL_getD {j x} : ∀ (xs : List AV) (i : Nat), (AV.bfzL j x xs).getD i .undef = (xs.getD i .undef).bfz j x
  | [], i => by simp [AV.bfzL, AV.bfz]
  | y :: r, 0 => by simp [AV.bfzL]
  | y :: r, i + 1 => by simpa [AV.bfzL] using bfzL_getD r i
def bfzS (j : Nat) (x : D) : List (Nat × AV) → List (Nat × AV)
  | [] => []
  | (k, v) :: r => (k, v.bfz j x) :: bfzS j x r
def AO.bfz (j : Nat) (x : D) : AO → AO
  | .box e cells => .box e (AV.bfzL j x cells)
  | .dp t xs (some (c, some d)) => .dp t xs (if d = j then some (c, none) else some (c, some d))
  | y => y
def bfzO (j : Nat) (x : D) : List (Nat × AO) → List (Nat × AO)
  | [] => []
  | (k, v) :: r => if k = j then bfzO j x r else (k, v.bfz j x) :: bfzO j x r
theorem lk_bfzS {i j x} : ∀ {l : List (Nat × AV)} {v}, lk i (bfzS j x l) = some v → ∃ u, lk i l = some u ∧ v = u.bfz j x
  | [], _, h => by simp [bfzS, lk] at h
  | (k, u) :: r, v, h => by
    simp only [bfzS, lk] at h
    simp only [lk]
    split at h
    · rename_i e; rw [if_pos e]; cases h; exact ⟨u, rfl, rfl⟩
    · rename_i e; rw [if_neg e]; exact lk_bfzS h
theorem lk_bfzO {i j x} : ∀ {l : List (Nat × AO)} {o}, lk i (bfzO j x l) = some o → i ≠ j ∧ ∃ o', lk i l = some o' ∧ o = o'.bfz j x
  | [], _, h => by simp [bfzO, lk] at h
  | (k, v) :: r, o, h => by
    simp only [bfzO] at h
    split at h
    · rename_i hk
      obtain ⟨h1, o', h2, h3⟩ := lk_bfzO h
      exact ⟨h1, o', by simp only [lk]; rw [if_neg (by omega)]; exact h2, h3⟩
    · rename_i hk
      simp only [lk] at h
      split at h
      · rename_i e; subst e; cases h; exact ⟨hk, v, by simp [lk], rfl⟩
      · rename_i e
        obtain ⟨h1, o', h2, h3⟩ := lk_bfzO h
        exact ⟨h1, o', by simp only [lk]; rw [if_neg e]; exact h2, h3⟩
theorem Rel.bfz {β S w j x b n c} (hb : β j = .slice (some ⟨b, 0, none⟩) n c) (hr : Rd S w (.ptr x) (.pointer (some ⟨b, 0, none⟩))) : ∀ {av v}, Rel β S w av v → Rel β S w (av.bfz j x) v := by
  intro av v h
  induction h with
  | undef v => exact .undef v
  | d h => exact .d h
  | sl i =>
    simp only [AV.bfz]; split
    · exact .undef _
    · exact .sl i
  | p h =>
    simp only [AV.bfz]; split
    · rename_i e; subst e
      rw [hb] at h; cases h
      split
      · rename_i e0; subst e0; exact .d hr
      · exact .undef _
    · exact .p h
  | pe h =>
    simp only [AV.bfz]; split
    · exact .undef _
    · exact .pe h
  | tup hl _ ih => exact .tup (by rw [bfzL_length]; exact hl) fun i hi => by rw [bfzL_length] at hi; rw [bfzL_getD]; exact ih i hi
  | fn hl _ ih => exact .fn (by rw [bfzL_length]; exact hl) fun i hi => by rw [bfzL_length] at hi; rw [bfzL_getD]; exact ih i hi
  | e0n => exact .e0n
  | e0s ad => exact .e0s ad
  | hdr h => exact .hdr h
  | nilS => exact .nilS
  | st hl _ ih => exact .st (by rw [bfzL_length]; exact hl) fun i hi => by rw [bfzL_length] at hi; rw [bfzL_getD]; exact ih i hi
theorem OK.bfz {β S w j x b n c o v F} (hb : β j = .slice (some ⟨b, 0, none⟩) n c) (hr : Rd S w (.ptr x) (.pointer (some ⟨b, 0, none⟩))) (h : OK β S w o v F) : OK β S w (o.bfz j x) v F := by
  cases h with
  | box hF xs hv hw hrel =>
    exact .box hF xs hv (by rw [bfzL_length]; exact hw) fun i hi => by rw [bfzL_length] at hi; rw [bfzL_getD]; exact (hrel i hi).bfz hb hr
  | arr hF xs hk0 hk hw hrel => exact .arr hF xs hk0 hk hw hrel
  | arv hF xs hv hk0 hk hw hrel => exact .arv hF xs hv hk0 hk hw hrel
  | dp hlt h =>
    rename_i t xs ho
    rcases h with ⟨rfl, rfl, rfl, h⟩ | ⟨e, k, ys, fs, ht, h⟩
    · exact .dp hlt (.inl ⟨rfl, rfl, rfl, h⟩)
    · rcases ho with _ | ⟨c', _ | d⟩
      · exact .dp hlt (.inr ⟨e, k, ys, fs, ht, h⟩)
      · exact .dp hlt (.inr ⟨e, k, ys, fs, ht, h⟩)
      · simp only [AO.bfz]
        split
        · exact .dp hlt (.inr ⟨e, k, ys, fs, ht, { h with hr := fun i hi hn => h.hr i hi fun c' d' e => by cases e; exact hn _ none rfl, hh := fun _ _ h => by cases h }⟩)
        · exact .dp hlt (.inr ⟨e, k, ys, fs, ht, h⟩)
/-- The variable j, all of whose cells are data, becomes data. -/
theorem Wk.bfz {N} {S : List (Nat × AV)} {O : List (Nat × AO)} (j : Nat) (x : D) {e : TypeId} {cells : List AV} (hj : lk j O = some (.box e cells)) (hx : cells = x.cells.map .d) : Wk N ⟨S, O⟩ ⟨bfzS j x S, bfzO j x O⟩ := fun Z β φ B M w0 a w h => by
  subst hx
  have hO := h.objs j _ hj
  have hS : ∀ g, free Z φ O g → g < w.heap.size → free Z φ (bfzO j x O) g ∧ w.heap[g]? = w.heap[g]? := fun g hg _ => by
    refine ⟨⟨hg.1, fun i y hi => ?_⟩, rfl⟩
    obtain ⟨hne, o', ho', _⟩ := lk_bfzO hi
    exact hg.2 i o' ho'
  obtain ⟨b, c, hb, hr⟩ : ∃ b c, β j = .slice (some ⟨b, 0, none⟩) 1 c ∧ Rd (free Z φ (bfzO j x O)) w (.ptr x) (.pointer (some ⟨b, 0, none⟩)) := by
    have hdis : ∀ g, φ j g → free Z φ (bfzO j x O) g := fun g hg => ⟨h.z g (h.own j _ g hj hg), fun i y hi hgi => by
      obtain ⟨hne, o', ho', _⟩ := lk_bfzO hi
      exact hne (h.disj i j o' _ g ho' hj hgi hg)⟩
    generalize φ j = F at *
    generalize β j = v at *
    cases hO with
    | box hF xs hv hw hrel =>
      have hw' := hw
      rcases hw.2 with ⟨h1, _⟩ | ⟨g, cap, cur, h1, _, h3, h4, _⟩
      · exact absurd h1 hv
      · subst h1
        refine ⟨g, cap, rfl, .ptr (fun i => xs.getD i Go.undef) (fun i hi => ⟨hdis g (by rw [hF]; rfl), ?_⟩) fun i hi => ?_⟩
        · have h9 : i < xs.length := by rw [hw'.1, Nat.one_mul, List.length_map]; exact hi
          have h10 := ownsRow_cell hw' rfl h9
          rwa [Nat.zero_add]
        · have h5 := hrel i (by simpa using hi)
          have h6 : (x.cells.map AV.d).getD i .undef = .d (x.cells.getD i .nilptr) := by
            simp [List.getD_eq_getElem?_getD, hi]
          rw [h6] at h5
          cases h5 with
          | d h5 => exact h5.move hS
  refine ⟨β, φ, h.nd, h.size, fun i av hi => ?_, fun i o hi => ?_, fun i o g hi hg => ?_, fun i i' o o' g hi hi' hg hg' => ?_, h.fr, h.z⟩
  · obtain ⟨u, hu, rfl⟩ := lk_bfzS hi
    exact ((h.slots i u hu).move hS).bfz hb hr
  · obtain ⟨hne, o', ho', rfl⟩ := lk_bfzO hi
    exact ((h.objs i o' ho').move hS (Nat.le_refl _) (fun _ _ => rfl)).bfz hb hr
  · obtain ⟨hne, o', ho', _⟩ := lk_bfzO hi
    exact h.own i o' g ho' hg
  · obtain ⟨hne, y, hy, _⟩ := lk_bfzO hi
    obtain ⟨hne', y', hy', _⟩ := lk_bfzO hi'
    exact h.disj i i' y y' g hy hy' hg hg'
/-- A body whose first part is walked, then what is known is weakened, then the rest is walked. -/
def cutQ (P : Program) (N : Nat) (y : Code) (Q : Exit → St → Prop) (st : St) : Prop := ∃ st', Wk N st st' ∧ Awp P N y Q st'
theorem Awp.cut {P : Program} {N : Nat} {x y : Code} {Q : Exit → St → Prop} {st : St} (h : Awp P N x (seqQ (cutQ P N y Q) Q) st) : Ok P N (.seq x y) Q st := fun h1 h2 Z B M w0 a w hs => by
  simp only [codeOK, Bool.and_eq_true] at h1
  rw [Awp_eq] at h
  refine wp_seq (wp_mono (ok_of_awp x _ _ h h1.1 h2 Z B M w0 a w hs) fun e a' w' hl => ?_)
  cases e with
  | normal =>
    simp only [lift] at hl
    obtain ⟨st1, hs1, st2, hw, hy⟩ := hl
    rw [Awp_eq] at hy
    obtain ⟨_, _, hB⟩ := hs1
    exact ok_of_awp y _ _ hy h1.2 h2 Z B M w0 a' w' (hw _ _ _ _ _ _ _ _ hB)
  | exit id => exact hl
  | ret => exact hl
  | _ => exact hl
/-- Results that are data are one datum. -/
theorem Ctr.tupN {P : Program} {f : FuncId} {xs ys : List D} {sh : Bool} (h : Ctr P f xs sh (.tup (ys.map .d)) []) : Ctr P f xs sh (.d (.tup ys)) [] := by
  refine ⟨h.1, fun S w vs hvl hvr => (h.2 S w vs hvl hvr).mono fun e w' ⟨v, he, hF, β, φ, hR, h1, h2, h3⟩ => ⟨v, he, hF, β, φ, ?_, h1, h2, h3⟩⟩
  cases hR with
  | tup hl hr =>
    refine .d (.tup (by simpa using hl) fun i hi => ?_)
    have := hr i (by simpa using hi)
    have e : (ys.map AV.d).getD i .undef = .d (ys.getD i .nilptr) := by simp [List.getD_eq_getElem?_getD, hi]
    rw [e] at this
    cases this with
    | d h => exact h
/-- A call of a function that is handed an owned row and keeps its header; the row's parts may be shared. -/
theorem callX_shareK {P N f cavs st dst K} (J : Nat) {avs o res o'} (hs : CtrM P f avs [(0, o)] [0] true res [(0, o')]) (hp : passM P (delL [J] st.o) (nth [J]) true cavs avs) (ho : lk J st.o = some (o.ren (nth [J])))
    (hd : dstB N dst) (hK : K (impM st dst (nth [J]) [] res [(0, o')])) : callX P N f cavs dst K st :=
  callX_mut [J] [J] [] hs hp ⟨ho, trivial⟩ (by simp [namesOK, keysO, nth]) hd hK
/-- The end of a function without results that is handed an object. -/
theorem retM_u {P : Program} {u : Nat → Value} {sh : Bool} {ob : AO} {st : St} (ho : lk 0 st.o = some ob) (hk : lk 1000000000 st.s = some (.hdr 0 (u 0))) (hr : ob.ren (fun j => j) = ob) (hs : sh = true ∨ ob.plain) : retM P [] u [0] sh (.tup []) [(0, ob)] .ret st := by
  simp only [retM, resV]
  refine ⟨trivial, ⟨fun j => j, rfl, by simpa [hr] using ho, by simp, ⟨rfl, hk, trivial⟩⟩, ?_⟩
  rcases hs with rfl | hs
  · exact .inl rfl
  · exact .inr ⟨trivial, hs, trivial⟩
theorem retM_n {P : Program} {u : Nat → Value} {sh : Bool} {ob : AO} {st : St} (ho : lk 0 st.o = some ob) (hk : lk 1000000000 st.s = some (.hdr 0 (u 0))) (hr : ob.ren (fun j => j) = ob) (hs : sh = true ∨ ob.plain) : retM P [] u [0] sh (.tup []) [(0, ob)] .normal st :=
  retM_u (P := P) ho hk hr hs
end Abs
