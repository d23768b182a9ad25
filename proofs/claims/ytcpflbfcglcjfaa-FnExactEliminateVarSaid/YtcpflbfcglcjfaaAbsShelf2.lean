/- What functions of this program compute, as contracts over plain data, with what the proofs need of them. No condition. -/
import Derived.Test.YtcpflbfcglcjfaaAbsBox
import Derived.Test.YtcpflbfcglcjfaaAbsLoopO
import Derived.Test.YtcpflbfcglcjfaaG5
import Derived.Shelf.SlSortCmp.Whole1
import Derived.Shelf.SlicesE.Delete
set_option linter.all false
namespace Abs
open Go Go.RowKit

mutual
def AV.mfz (j : Nat) (x : D) : AV -> AV
 | .sl i => if i = j then .undef else .sl i
 | .p i o => if i = j then .undef else .p i o
 | .pe i k n o => if i = j then .undef else .pe i k n o
 | .mq i => if i = j then .d x else .mq i
 | .sf i k l => if i = j then .undef else .sf i k l
 | .vw i q n k => if q = j then .undef else .vw i q n k
 | .pv i q k n o => if q = j then .undef else .pv i q k n o
 | .tup xs => .tup (AV.mfzL j x xs)
 | .st xs => .st (AV.mfzL j x xs)
 | .fn f cs => .fn f (AV.mfzL j x cs)
 | y => y
def AV.mfzL (j : Nat) (x : D) : List AV -> List AV
 | [] => []
 | y :: r => y.mfz j x :: AV.mfzL j x r
end
def mfzS (j : Nat) (x : D) : List (Nat × AV) -> List (Nat × AV)
 | [] => []
 | (k, v) :: r => (k, v.mfz j x) :: mfzS j x r
def AO.mfz (j : Nat) (x : D) : AO -> AO
 | .box e cells => .box e (AV.mfzL j x cells)
 | .dp t xs (some (c, some d)) => .dp t xs (if d = j then some (c, none) else some (c, some d))
 | y => y
def mfzO (j : Nat) (x : D) : List (Nat × AO) -> List (Nat × AO)
 | [] => []
 | (k, v) :: r => if k = j then mfzO j x r else (k, v.mfz j x) :: mfzO j x r
end Abs

namespace Abs
open Go Go.RowKit

theorem Wk.cutOn {N : Nat} {S : List (Nat × AV)} {O : List (Nat × AO)} : Wk N ⟨S, O⟩ ⟨ins cutKey .undef S, O⟩ := fun Z β φ B M w0 a w h =>
 ⟨β, φ, h.nd, h.size, fun i av hi => by
  have hi : lk i (ins cutKey .undef S) = some av := hi
  rw [lk_ins] at hi
  split at hi
  . cases hi; exact .undef _
  . exact h.slots i av hi, h.objs, h.own, h.disj, h.fr, h.z⟩
end Abs

namespace Abs
open Go Go.RowKit Go.Sort Go.Proofs Go.Shelf

def D.one : D -> Bool
 | .int _ _ => true
 | .bool _ => true
 | .str _ => true
 | .slice _ => true
 | .ptr _ => true
 | .nilptr => true
 | .tag _ _ => true
 | _ => false
theorem D.one_cells {x : D} (h : x.one = true) : x.cells = [x] := by
 cases x <;> first | rfl | cases h
theorem flat_oneD : ∀ {es : List D}, (∀ x ∈ es, x.one = true) -> flat es = es
 | [], _ => rfl
 | x :: r, h => by
   have := flat_oneD (es := r) fun y hy => h y (by simp [hy])
   simp only [flat, List.flatMap_cons] at this ⊢
   rw [this, D.one_cells (h x (by simp))]; rfl
theorem Rd.one {S w x v} (hx : x.one = true) (h : Rd S w x v) : v.oneCell' = true := by
 cases h <;> first | rfl | (rename_i h; cases h <;> rfl; done) | cases hx

def mkR (zv : Value) (xs : List Value) (i : Nat) : Value := xs.getD i zv
theorem mkR_one {S w} {zv : Value} {xs : List Value} {es : List D} (hz : zv.oneCell' = true) (hes : ∀ x ∈ es, x.one = true) (hl : xs.length = es.length) (hr : ∀ i, i < es.length -> Rd S w (es.getD i .nilptr) (xs.getD i Go.undef)) (i : Nat) : (mkR zv xs i).oneCell' = true := by
 unfold mkR
 by_cases hi : i < xs.length
 . have h1 := hr i (by omega)
   have h2 : (es.getD i .nilptr).one = true := hes _ (by
    rw [List.getD_eq_getElem?_getD, List.getElem?_eq_getElem (by omega)]; exact List.getElem_mem _)
   have h3 : xs.getD i zv = xs.getD i Go.undef := by simp [List.getD_eq_getElem?_getD, hi]
   rw [h3]; exact Rd.one h2 h1
 . have h3 : xs.getD i zv = zv := by simp [List.getD_eq_getElem?_getD, hi]
   rw [h3]; exact hz

theorem arr_openD {β S w e es v F} (hes : ∀ x ∈ es, x.one = true) (h : OK β S w (.arr e 1 es) v F) : (v = .slice none 0 0 ∧ es = []) ∨
 ∃ g cap cur xs, v = .slice (some ⟨g, 0, none⟩) es.length cap ∧ w.heap[g]? = some (.cells cur e (0, 0)) ∧ es.length <= cap ∧ cap <= maxLen ∧ cur.size = cap ∧ cur.toList.take es.length = xs ∧ xs.length = es.length ∧
  ∀ i, i < es.length -> Rd S w (es.getD i .nilptr) (xs.getD i Go.undef) := by
 cases h with
 | arr hF vs hk0 hk hw hr =>
   rw [flat_oneD hes] at hr
   rcases hw.2 with ⟨h1, h2⟩ | ⟨g, cap, cur, h1, _, h3, h4, h5, h6, h7⟩
   . exact .inl ⟨h1, by simpa using h2⟩
   . exact .inr ⟨g, cap, cur, vs, by simpa using h1, h3, by simpa using h4, h5, by simpa using h6, by simpa using h7, by simpa using hw.1, hr⟩
theorem arr_closeD {β' S' w' e g cap} {cur' : Array Value} {es' : List D} {xs' : List Value} (hes : ∀ x ∈ es', x.one = true) (hb : w'.heap[g]? = some (.cells cur' e (0, 0))) (hcap : es'.length <= cap) (hm : cap <= maxLen) (hsz : cur'.size = cap)
 (hl : xs'.length = es'.length) (ht : cur'.toList.take es'.length = xs') (hr : ∀ i, i < es'.length -> Rd S' w' (es'.getD i .nilptr) (xs'.getD i Go.undef)) :
 OK β' S' w' (.arr e 1 es') (.slice (some ⟨g, 0, none⟩) es'.length cap) (ownS (.slice (some ⟨g, 0, none⟩) es'.length cap)) := by
 refine .arr rfl xs' (by omega) (fun x hx => by rw [D.one_cells (hes x hx)]; rfl) ⟨by simpa using hl, .inr ⟨g, cap, cur', by simp, Nat.zero_le _, hb, by simpa using hcap, hm, by simpa using hsz, by simpa using ht⟩⟩ fun i hi => ?_
 rw [flat_oneD hes] at hi ⊢
 exact hr i hi
theorem arr_nilD {β' S' w' e} : OK β' S' w' (.arr e 1 []) (.slice none 0 0) (ownS (.slice none 0 0)) :=
 .arr rfl [] (by omega) (by simp) ⟨by simp, .inl ⟨rfl, by simp⟩⟩ (by simp [flat])

theorem holds_ofD {w : World} {g : Nat} {cur : Array Value} {e : TypeId} {xs : List Value} (zv : Value) (hb : w.heap[g]? = some (.cells cur e (0, 0))) (ht : cur.toList.take xs.length = xs) : Holds (mkR zv xs) w g 0 (Array.range xs.length) := by
 intro j hj
 have hj' : j < xs.length := by simpa using hj
 refine ⟨?_, by simp [World.frozen?, hb]⟩
 have h1 := congrArg (fun l : List Value => l[j]?) ht
 simp only [List.getElem?_take, if_pos hj', Array.getElem?_toList] at h1
 have h2 : (Array.range xs.length)[j]! = j := by rw [getElem!_pos _ j (by simpa using hj')]; simp
 rw [h2]
 simp [World.cell?, hb, h1, mkR, hj', List.getD_eq_getElem?_getD]

section
variable {α : Type} [Inhabited α] {enc : α -> Value}
theorem putRow_blockD {w : World} {g : Nat} {cur : Array Value} {e : TypeId} (d : Array α) (hb : w.heap[g]? = some (.cells cur e (0, 0))) :
 (putRow enc w g 0 d).heap[g]? = some (.cells (putCells enc 0 d cur) e (0, 0)) := by
 simp [putRow, mapBlock, Array.getElem?_modify, hb, onCells]
theorem putRow_otherD {w : World} {g k : Nat} (d : Array α) (h : k ≠ g) : (putRow enc w g 0 d).heap[k]? = w.heap[k]? := by
 simp only [putRow, mapBlock, Array.getElem?_modify]
 rw [if_neg (Ne.symm h)]
theorem putCells_takeD (d : Array α) (cur : Array Value) (k : Nat) (hk : k <= d.size) (hd : d.size <= cur.size) : (putCells enc 0 d cur).toList.take k = (d.toList.take k).map enc := by
 apply List.ext_getElem?
 intro i
 simp only [List.getElem?_take, List.getElem?_map, putCells]
 split
 . rename_i hi
   have h1 : i < cur.size := by omega
   have h2 : i < d.size := by omega
   simp [h1, h2]
 . rfl
theorem sortWorld_otherD {w : World} {g m k : Nat} {d : Array α} {os : Array Obj} (hk : k < w.heap.size) (hne : k ≠ g) : (sortWorld enc w g 0 m d os).heap[k]? = w.heap[k]? := by
 show ((putRow _ (ahead w m) g 0 d).heap ++ os)[k]? = _
 rw [Array.getElem?_append_left (by rw [Go.Sort.size_putRow]; exact hk), putRow_otherD _ hne]; rfl
theorem sortWorld_frD {w : World} {g m : Nat} {d : Array α} {os : Array Obj} {M : Nat -> Prop} (hM : M g) : Fr w.heap.size M w (sortWorld enc w g 0 m d os) := by
 refine ⟨rfl, rfl, rfl, ?_, ?_, fun k hk hkM => sortWorld_otherD hk fun e => hkM (e ▸ hM), Nat.le_add_right _ _⟩
 . show w.heap.size <= ((putRow _ (ahead w m) g 0 d).heap ++ os).size
   rw [Array.size_append, Go.Sort.size_putRow]; simp
 . show w.heap.size <= ((putRow _ (ahead w m) g 0 d).heap ++ os).size
   rw [Array.size_append, Go.Sort.size_putRow]; simp
theorem sortWorld_blockD {w : World} {g m : Nat} {d : Array α} {os : Array Obj} {cur : Array Value} {e : TypeId} (hb : w.heap[g]? = some (.cells cur e (0, 0))) :
 (sortWorld enc w g 0 m d os).heap[g]? = some (.cells (putCells enc 0 d cur) e (0, 0)) := by
 have hlt : g < w.heap.size := (Array.getElem?_eq_some_iff.1 hb).1
 show ((putRow _ (ahead w m) g 0 d).heap ++ os)[g]? = _
 rw [Array.getElem?_append_left (by rw [Go.Sort.size_putRow]; exact hlt)]
 exact putRow_blockD d hb
end
theorem Rd.sortW {α : Type} [Inhabited α] {enc : α -> Value} {S : Nat -> Prop} {w : World} {g m : Nat} {d : Array α} {os : Array Obj} (hS : ∀ b, S b -> b ≠ g) {x v} (h : Rd S w x v) : Rd S (sortWorld enc w g 0 m d os) x v :=
 h.move fun b hb hlt => ⟨hb, sortWorld_otherD hlt (hS b hb)⟩

structure Writ (es es' : List D) (d : Array Nat) : Prop where
 le : d.size <= es.length
 le' : es'.length <= d.size
 lt : ∀ i ∈ d.toList.take es'.length, i < es.length
 eq : (d.toList.take es'.length).map (fun i => es.getD i .nilptr) = es'

theorem CtrM.rowD {P : Program} {f : FuncId} {rest : List AV} {e : TypeId} {es es' : List D} (zv : Value) (cut : Bool) (hent : Enters P f) (hes : ∀ x ∈ es, x.one = true) (hl : es'.length <= es.length) (hc : cut = false -> es'.length = es.length)
 (h : ∀ (S : Nat -> Prop) (β : Nat -> Value) (w : World) (rv : List Value), rv.length = rest.length -> (∀ i, i < rest.length -> Rel β S w (rest.getD i .undef) (rv.getD i Go.undef)) ->
  (es = [] -> Calls P f (.slice none 0 0 :: rv).toArray w fun en w' => en = .returned (if cut then .slice none 0 0 else .tuple #[]) ∧ w' = w) ∧
  (∀ g cap xs, (∀ b, S b -> b ≠ g) -> xs.length = es.length -> (∀ i, i < es.length -> Rd S w (es.getD i .nilptr) (xs.getD i Go.undef)) -> Holds (mkR zv xs) w g 0 (Array.range es.length) -> g < w.heap.size -> es.length <= cap -> cap <= maxLen ->
   Calls P f (.slice (some ⟨g, 0, none⟩) es.length cap :: rv).toArray w fun en w' => en = .returned (if cut then .slice (some ⟨g, 0, none⟩) es'.length cap else .tuple #[]) ∧ ∃ m d os, Writ es es' d ∧ w' = sortWorld (mkR zv xs) w g 0 m d os)) :
 CtrM P f (.sl 0 :: rest) [(0, .arr e 1 es)] (if cut then [] else [0]) true (if cut then .sl 0 else .tup []) [(0, .arr e 1 es')] := by
 refine ⟨hent, fun S β φ w vs hvl hvr hO hD => ?_⟩
 cases vs with
 | nil => simp at hvl
 | cons v rv =>
   obtain ⟨h1, h2⟩ := h (free S φ [(0, .arr e 1 es)]) β w rv (by simpa using hvl) fun i hi => by simpa using hvr (i + 1) (by simpa using hi)
   have hv : v = β 0 := by
    have := hvr 0 (by simp)
    simp only [List.getD_cons_zero] at this
    cases this; rfl
   have hOk := hO 0 (.arr e 1 es) (by simp [lk])
   have hFo : φ 0 = ownS (β 0) := by
    generalize β 0 = v0 at *
    generalize φ 0 = F0 at *
    cases hOk with | arr hF => exact hF
   have one : ∀ {j : Nat} {o : AO} {l : List D}, lk j [(0, AO.arr e 1 l)] = some o -> j = 0 ∧ o = .arr e 1 l := fun hj => by
    simp only [lk] at hj
    split at hj
    . rename_i e'; cases hj; exact ⟨e', rfl⟩
    . cases hj
   rcases arr_openD hes hOk with ⟨h3, rfl⟩ | ⟨g, cap, cur, xs, h3, h4, h5, h6, h7, h8, h9, h10⟩
   . obtain rfl : es' = [] := by simpa using hl
     rw [hv, h3]
     refine (h1 rfl).mono fun en w' ⟨he, hw⟩ => ⟨_, he, ?_, ?_⟩
     . subst hw; exact ⟨rfl, rfl, rfl, Nat.le_refl _, Nat.le_refl _, fun _ _ _ => rfl, Nat.le_refl _⟩
     . subst hw
       refine ⟨β, φ, by cases cut <;> simp, ?_, fun j o hj => ?_, fun j o g hj hg => ?_, fun j j' o o' g hj hj' _ _ => ?_⟩
       . cases cut with
         | true => simp only [if_true]; rw [← h3]; exact .sl 0
         | false => exact Rel.tup (xs := []) (vs := []) rfl (by simp)
       . obtain ⟨rfl, rfl⟩ := one hj
         rw [hFo, h3]; exact arr_nilD
       . obtain ⟨rfl, rfl⟩ := one hj
         rw [hFo, h3] at hg; cases hg
       . rw [(one hj).1, (one hj').1]
   . have hlt : g < w.heap.size := (Array.getElem?_eq_some_iff.1 h4).1
     have hM : blocksOf φ [(0, AO.arr e 1 es)] g := ⟨0, .arr e 1 es, by simp [lk], by rw [hFo, h3]; rfl⟩
     have hSg : ∀ b, free S φ [(0, AO.arr e 1 es)] b -> b ≠ g := fun b hb e' => hb.2 0 (.arr e 1 es) (by simp [lk]) rfl (by rw [hFo, h3, e']; rfl)
     have hH := holds_ofD (xs := xs) zv h4 (by rw [h9]; exact h8)
     rw [h9] at hH
     rw [hv, h3]
     refine (h2 g cap xs hSg h9 h10 hH hlt h5 h6).mono fun en w' ⟨he, m, d, os, hW, hw⟩ => ⟨_, he, ?_, ?_⟩
     . subst hw; exact sortWorld_frD hM
     . subst hw
       have hdl : (d.toList.take es'.length).length = es'.length := by rw [List.length_take, Array.length_toList]; exact Nat.min_eq_left hW.le'
       have hok : ∀ S', (∀ b, free S φ [(0, AO.arr e 1 es)] b -> S' b) -> ∀ β', OK β' S' (sortWorld (mkR zv xs) w g 0 m d os) (.arr e 1 es') (.slice (some ⟨g, 0, none⟩) es'.length cap) (ownS (.slice (some ⟨g, 0, none⟩) es'.length cap)) := fun S' hS' β' => by
        refine arr_closeD (xs' := (d.toList.take es'.length).map (mkR zv xs)) (fun x hx => ?_) (sortWorld_blockD h4) (by omega) h6 (by simp [putCells, h7]) (by rw [List.length_map, hdl])
         (putCells_takeD d cur es'.length hW.le' (by have := hW.le; omega)) fun i hi => ?_
        . rw [← hW.eq] at hx
          obtain ⟨i, hi, rfl⟩ := List.mem_map.1 hx
          have := hW.lt i hi
          exact hes _ (by rw [List.getD_eq_getElem?_getD, List.getElem?_eq_getElem this]; exact List.getElem_mem _)
        . have hi' : i < (d.toList.take es'.length).length := by rw [hdl]; exact hi
          have hlt' := hW.lt _ (List.getElem_mem hi')
          have e1 : es'.getD i .nilptr = es.getD (d.toList.take es'.length)[i] .nilptr := by
           have := congrArg (fun l : List D => l.getD i .nilptr) hW.eq
           rw [← this, List.getD_eq_getElem?_getD, List.getElem?_map, List.getElem?_eq_getElem hi']; rfl
          have e2 : ((d.toList.take es'.length).map (mkR zv xs)).getD i Go.undef = xs.getD (d.toList.take es'.length)[i] Go.undef := by
           rw [List.getD_eq_getElem?_getD, List.getElem?_map, List.getElem?_eq_getElem hi']
           simp only [Option.map_some, Option.getD_some, mkR]
           rw [List.getD_eq_getElem?_getD, List.getD_eq_getElem?_getD, List.getElem?_eq_getElem (by omega)]; rfl
          rw [e1, e2]
          exact (Rd.sortW hSg (h10 _ hlt')).weaken hS'
       have hown : ∀ {v : Value} {φ' : Nat -> Nat -> Prop}, (∀ b, φ' 0 b -> φ 0 b) -> ∀ b, free S φ [(0, AO.arr e 1 es)] b -> free (fun g => w.heap.size <= g ∨ blocksOf φ [(0, AO.arr e 1 es)] g ∨ (true = true ∧ S g)) φ' [(0, AO.arr e 1 es')] b := fun {_ φ'} hφ b hb =>
        ⟨.inr (.inr ⟨rfl, hb.1⟩), fun j o hj _ hg => by
         obtain ⟨rfl, _⟩ := one hj
         exact hb.2 0 (.arr e 1 es) (by simp [lk]) rfl (hφ b hg)⟩
       cases cut with
       | false =>
         have hll := hc rfl
         refine ⟨β, φ, fun _ _ => rfl, Rel.tup (xs := []) (vs := []) rfl (by simp), fun j o hj => ?_, fun j o g' hj hg => ?_, fun j j' o o' g hj hj' _ _ => ?_⟩
         . obtain ⟨rfl, rfl⟩ := one hj
           have := hok _ (hown (v := v) fun _ h => h) β
           rw [hFo, h3, ← hll]; exact this
         . obtain ⟨rfl, rfl⟩ := one hj
           rw [hFo, h3] at hg
           cases hg
           exact .inr hM
         . rw [(one hj).1, (one hj').1]
       | true =>
         refine ⟨fun _ => .slice (some ⟨g, 0, none⟩) es'.length cap, fun _ => ownS (.slice (some ⟨g, 0, none⟩) es'.length cap), by simp, ?_, fun j o hj => ?_, fun j o g' hj hg => ?_, fun j j' o o' g hj hj' _ _ => ?_⟩
         . exact Rel.sl (β := fun _ => Value.slice (some ⟨g, 0, none⟩) es'.length cap) 0
         . obtain ⟨rfl, rfl⟩ := one hj
           exact hok _ (hown (v := v) fun b hb => by rw [hFo, h3]; exact hb) _
         . obtain ⟨rfl, rfl⟩ := one hj
           cases hg
           exact .inr hM
         . rw [(one hj).1, (one hj').1]

theorem Ctr.cmpLays {P : Program} {f : FuncId} {cf : Nat -> Nat -> Int} {es : List D} {zd : D} {zv : Value} {xs : List Value} {S : Nat -> Prop} {w : World} {g n : Nat} (hz : ∀ w, Rd (fun _ => True) w zd zv)
 (hf : ∀ i j, Ctr P f [es.getD i zd, es.getD j zd] false (.d (.int .i64 (cf i j))) []) (hS : ∀ b, S b -> b ≠ g) (hl : xs.length = es.length) (hr : ∀ i, i < es.length -> Rd S w (es.getD i .nilptr) (xs.getD i Go.undef)) :
 CmpLays1 P f #[] (mkR zv xs) cf g 0 n w := fun m os dk _ i j => by
 have hrd : ∀ i, Rd (fun _ => True) (sortWorld (mkR zv xs) w g 0 m dk os) (es.getD i zd) (mkR zv xs i) := fun i => by
  by_cases hi : i < es.length
  . have e1 : es.getD i zd = es.getD i .nilptr := by simp [List.getD_eq_getElem?_getD, hi]
    have e2 : mkR zv xs i = xs.getD i Go.undef := by simp [mkR, List.getD_eq_getElem?_getD, show i < xs.length by omega]
    rw [e1, e2]
    exact (Rd.sortW hS (hr i hi)).weaken fun _ _ => trivial
  . have e1 : es.getD i zd = zd := by simp [List.getD_eq_getElem?_getD, hi]
    have e2 : mkR zv xs i = zv := by simp [mkR, List.getD_eq_getElem?_getD, show ¬ i < xs.length by omega]
    rw [e1, e2]; exact hz _
 have h := (hf i j).2 (fun _ => True) (sortWorld (mkR zv xs) w g 0 m dk os) [mkR zv xs i, mkR zv xs j] rfl (fun k hk => by
  match k, hk with
  | 0, _ => exact hrd i
  | 1, _ => exact hrd j)
 have he : (#[mkR zv xs i, mkR zv xs j] ++ #[] : Array Value) = [mkR zv xs i, mkR zv xs j].toArray := by simp
 rw [he]
 refine h.mono fun en w' ⟨v, hv, hF, β, φ, hR, _⟩ => ?_
 generalize sortWorld (mkR zv xs) w g 0 m dk os = W at *
 cases hR with
 | d hR =>
   cases hR
   refine ⟨hv, w'.drawn - W.drawn, w'.heap.extract W.heap.size w'.heap.size, ?_⟩
   have hh : w'.heap = W.heap ++ w'.heap.extract W.heap.size w'.heap.size := by
    apply Array.ext_getElem?
    intro k
    by_cases hk : k < W.heap.size
    . rw [Array.getElem?_append_left hk]; exact hF.block k hk (fun h => h)
    . rw [Array.getElem?_append_right (by omega)]
      have := hF.size
      by_cases hk2 : k < w'.heap.size
      . simp [hk2, show k - W.heap.size < w'.heap.size - W.heap.size by omega, show W.heap.size + (k - W.heap.size) = k by omega]
      . simp [hk2, show ¬ k - W.heap.size < w'.heap.size - W.heap.size by omega]
   have hd : w'.drawn = W.drawn + (w'.drawn - W.drawn) := by have := hF.drawn; omega
   have h1 := hF.os; have h2 := hF.tape; have h3 := hF.output
   obtain ⟨hp, tp, dr, o, ou⟩ := w'
   simp only at hh hd h1 h2 h3
   subst h1 h2 h3
   unfold grow World.drewN
   simp only
   rw [← hh, ← hd]
end Abs
