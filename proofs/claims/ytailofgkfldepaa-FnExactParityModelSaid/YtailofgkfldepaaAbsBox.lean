/- A variable that will not be written any more becomes data: its address reads as a pointer to data. No condition. -/
import Derived.Test.YtailofgkfldepaaAbsOwn
set_option linter.all false
namespace Abs
open Go Go.RowKit

mutual
def AV.bfz (j : Nat) (x : D) : AV → AV
  | .sl i => if i = j then .undef else .sl i
  | .p i o => if i = j then (if o = 0 then .d (.ptr x) else .undef) else .p i o
  | .pe i k n o => if i = j then .undef else .pe i k n o
  | .tup xs => .tup (AV.bfzL j x xs)
  | .st xs => .st (AV.bfzL j x xs)
  | .fn f cs => .fn f (AV.bfzL j x cs)
  | y => y
def AV.bfzL (j : Nat) (x : D) : List AV → List AV
  | [] => []
  | y :: r => y.bfz j x :: AV.bfzL j x r
end
theorem bfzL_length {j x} : ∀ xs : List AV, (AV.bfzL j x xs).length = xs.length
  | [] => rfl
  | y :: r => by simp [AV.bfzL, bfzL_length r]
theorem bfzL_getD {j x} : ∀ (xs : List AV) (i : Nat), (AV.bfzL j x xs).getD i .undef = (xs.getD i .undef).bfz j x
  | [], i => by simp [AV.bfzL, AV.bfz]
  | y :: r, 0 => by simp [AV.bfzL]
  | y :: r, i + 1 => by simpa [AV.bfzL] using bfzL_getD r i
def bfzS (j : Nat) (x : D) : List (Nat × AV) → List (Nat × AV)
  | [] => []
  | (k, v) :: r => (k, v.bfz j x) :: bfzS j x r
def AO.bfz (j : Nat) (x : D) : AO → AO
  | .box e cells => .box e (AV.bfzL j x cells)
  | .dp t xs (some (c, some d)) => .dp t xs (if d = j then some (c, none) else some (c, some d))
  | y => y
def bfzO (j : Nat) (x : D) : List (Nat × AO) → List (Nat × AO)
  | [] => []
  | (k, v) :: r => if k = j then bfzO j x r else (k, v.bfz j x) :: bfzO j x r
theorem lk_bfzS {i j x} : ∀ {l : List (Nat × AV)} {v}, lk i (bfzS j x l) = some v → ∃ u, lk i l = some u ∧ v = u.bfz j x
  | [], _, h => by simp [bfzS, lk] at h
  | (k, u) :: r, v, h => by
    simp only [bfzS, lk] at h
    simp only [lk]
    split at h
    · rename_i e; rw [if_pos e]; cases h; exact ⟨u, rfl, rfl⟩
    · rename_i e; rw [if_neg e]; exact lk_bfzS h
theorem lk_bfzO {i j x} : ∀ {l : List (Nat × AO)} {o}, lk i (bfzO j x l) = some o → i ≠ j ∧ ∃ o', lk i l = some o' ∧ o = o'.bfz j x
  | [], _, h => by simp [bfzO, lk] at h
  | (k, v) :: r, o, h => by
    simp only [bfzO] at h
    split at h
    · rename_i hk
      obtain ⟨h1, o', h2, h3⟩ := lk_bfzO h
      exact ⟨h1, o', by simp only [lk]; rw [if_neg (by omega)]; exact h2, h3⟩
    · rename_i hk
      simp only [lk] at h
      split at h
      · rename_i e; subst e; cases h; exact ⟨hk, v, by simp [lk], rfl⟩
      · rename_i e
        obtain ⟨h1, o', h2, h3⟩ := lk_bfzO h
        exact ⟨h1, o', by simp only [lk]; rw [if_neg e]; exact h2, h3⟩
theorem Rel.bfz {β S w j x b n c} (hb : β j = .slice (some ⟨b, 0, none⟩) n c) (hr : Rd S w (.ptr x) (.pointer (some ⟨b, 0, none⟩))) : ∀ {av v}, Rel β S w av v → Rel β S w (av.bfz j x) v := by
  intro av v h
  induction h with
  | undef v => exact .undef v
  | d h => exact .d h
  | sl i =>
    simp only [AV.bfz]; split
    · exact .undef _
    · exact .sl i
  | p h =>
    simp only [AV.bfz]; split
    · rename_i e; subst e
      rw [hb] at h; cases h
      split
      · rename_i e0; subst e0; exact .d hr
      · exact .undef _
    · exact .p h
  | pe h =>
    simp only [AV.bfz]; split
    · exact .undef _
    · exact .pe h
  | tup hl _ ih => exact .tup (by rw [bfzL_length]; exact hl) fun i hi => by rw [bfzL_length] at hi; rw [bfzL_getD]; exact ih i hi
  | fn hl _ ih => exact .fn (by rw [bfzL_length]; exact hl) fun i hi => by rw [bfzL_length] at hi; rw [bfzL_getD]; exact ih i hi
  | e0n => exact .e0n
  | e0s ad => exact .e0s ad
  | hdr h => exact .hdr h
  | nilS => exact .nilS
  | st hl _ ih => exact .st (by rw [bfzL_length]; exact hl) fun i hi => by rw [bfzL_length] at hi; rw [bfzL_getD]; exact ih i hi
theorem OK.bfz {β S w j x b n c o v F} (hb : β j = .slice (some ⟨b, 0, none⟩) n c) (hr : Rd S w (.ptr x) (.pointer (some ⟨b, 0, none⟩))) (h : OK β S w o v F) : OK β S w (o.bfz j x) v F := by
  cases h with
  | box hF xs hv hw hrel =>
    exact .box hF xs hv (by rw [bfzL_length]; exact hw) fun i hi => by rw [bfzL_length] at hi; rw [bfzL_getD]; exact (hrel i hi).bfz hb hr
  | arr hF xs hk0 hk hw hrel => exact .arr hF xs hk0 hk hw hrel
  | arv hF xs hv hk0 hk hw hrel => exact .arv hF xs hv hk0 hk hw hrel
  | dp hlt h =>
    rename_i t xs ho
    rcases h with ⟨rfl, rfl, rfl, h⟩ | ⟨e, k, ys, fs, ht, h⟩
    · exact .dp hlt (.inl ⟨rfl, rfl, rfl, h⟩)
    · rcases ho with _ | ⟨c', _ | d⟩
      · exact .dp hlt (.inr ⟨e, k, ys, fs, ht, h⟩)
      · exact .dp hlt (.inr ⟨e, k, ys, fs, ht, h⟩)
      · simp only [AO.bfz]
        split
        · exact .dp hlt (.inr ⟨e, k, ys, fs, ht, { h with hr := fun i hi hn => h.hr i hi fun c' d' e => by cases e; exact hn _ none rfl, hh := fun _ _ h => by cases h }⟩)
        · exact .dp hlt (.inr ⟨e, k, ys, fs, ht, h⟩)
/-- The variable j, all of whose cells are data, becomes data. -/
theorem Wk.bfz {N} {S : List (Nat × AV)} {O : List (Nat × AO)} (j : Nat) (x : D) {e : TypeId} {cells : List AV} (hj : lk j O = some (.box e cells)) (hx : cells = x.cells.map .d) : Wk N ⟨S, O⟩ ⟨bfzS j x S, bfzO j x O⟩ := fun Z β φ B M w0 a w h => by
  subst hx
  have hO := h.objs j _ hj
  have hS : ∀ g, free Z φ O g → g < w.heap.size → free Z φ (bfzO j x O) g ∧ w.heap[g]? = w.heap[g]? := fun g hg _ => by
    refine ⟨⟨hg.1, fun i y hi => ?_⟩, rfl⟩
    obtain ⟨hne, o', ho', _⟩ := lk_bfzO hi
    exact hg.2 i o' ho'
  obtain ⟨b, c, hb, hr⟩ : ∃ b c, β j = .slice (some ⟨b, 0, none⟩) 1 c ∧ Rd (free Z φ (bfzO j x O)) w (.ptr x) (.pointer (some ⟨b, 0, none⟩)) := by
    have hdis : ∀ g, φ j g → free Z φ (bfzO j x O) g := fun g hg => ⟨h.z g (h.own j _ g hj hg), fun i y hi hgi => by
      obtain ⟨hne, o', ho', _⟩ := lk_bfzO hi
      exact hne (h.disj i j o' _ g ho' hj hgi hg)⟩
    generalize φ j = F at *
    generalize β j = v at *
    cases hO with
    | box hF xs hv hw hrel =>
      have hw' := hw
      rcases hw.2 with ⟨h1, _⟩ | ⟨g, cap, cur, h1, _, h3, h4, _⟩
      · exact absurd h1 hv
      · subst h1
        refine ⟨g, cap, rfl, .ptr (fun i => xs.getD i Go.undef) (fun i hi => ⟨hdis g (by rw [hF]; rfl), ?_⟩) fun i hi => ?_⟩
        · have h9 : i < xs.length := by rw [hw'.1, Nat.one_mul, List.length_map]; exact hi
          have h10 := ownsRow_cell hw' rfl h9
          rwa [Nat.zero_add]
        · have h5 := hrel i (by simpa using hi)
          have h6 : (x.cells.map AV.d).getD i .undef = .d (x.cells.getD i .nilptr) := by
            simp [List.getD_eq_getElem?_getD, hi]
          rw [h6] at h5
          cases h5 with
          | d h5 => exact h5.move hS
  refine ⟨β, φ, h.nd.move hS, h.size, fun i av hi => ?_, fun i o hi => ?_, fun i o g hi hg => ?_, fun i i' o o' g hi hi' hg hg' => ?_, h.fr, h.z⟩
  · obtain ⟨u, hu, rfl⟩ := lk_bfzS hi
    exact ((h.slots i u hu).move hS).bfz hb hr
  · obtain ⟨hne, o', ho', rfl⟩ := lk_bfzO hi
    exact ((h.objs i o' ho').move hS (Nat.le_refl _) (fun _ _ => rfl)).bfz hb hr
  · obtain ⟨hne, o', ho', _⟩ := lk_bfzO hi
    exact h.own i o' g ho' hg
  · obtain ⟨hne, y, hy, _⟩ := lk_bfzO hi
    obtain ⟨hne', y', hy', _⟩ := lk_bfzO hi'
    exact h.disj i i' y y' g hy hy' hg hg'
/-- A body whose first part is walked, then what is known is weakened, then the rest is walked. -/
def cutQ (P : Program) (N : Nat) (y : Code) (Q : Exit → St → Prop) (st : St) : Prop := ∃ st', Wk N st st' ∧ Awp P N y Q st'
theorem Awp.cut {P : Program} {N : Nat} {x y : Code} {Q : Exit → St → Prop} {st : St} (h : Awp P N x (seqQ (cutQ P N y Q) Q) st) : Ok P N (.seq x y) Q st := fun h1 h2 Z B M w0 a w hs => by
  simp only [codeOK, Bool.and_eq_true] at h1
  rw [Awp_eq] at h
  refine sw_mono x (ok_of_awp x _ _ h h1.1 h2 Z B M w0 a w hs) fun e a' w' hl => ?_
  cases e with
  | normal =>
    simp only [lift] at hl
    obtain ⟨st1, hs1, st2, hw, hy⟩ := hl
    rw [Awp_eq] at hy
    obtain ⟨_, _, hB⟩ := hs1
    exact ok_of_awp y _ _ hy h1.2 h2 Z B M w0 a' w' (hw _ _ _ _ _ _ _ _ hB)
  | exit id => exact hl
  | ret => exact hl
  | _ => exact hl
/-- Results that are data are one datum. -/
theorem Ctr.tupN {P : Program} {f : FuncId} {xs ys : List D} {sh : Bool} (h : Ctr P f xs sh (.tup (ys.map .d)) []) : Ctr P f xs sh (.d (.tup ys)) [] := by
  refine ⟨h.1, fun S w vs hvl hvr => (h.2 S w vs hvl hvr).mono fun e w' ⟨v, he, hF, β, φ, hR, h1, h2, h3⟩ => ⟨v, he, hF, β, φ, ?_, h1, h2, h3⟩⟩
  cases hR with
  | tup hl hr =>
    refine .d (.tup (by simpa using hl) fun i hi => ?_)
    have := hr i (by simpa using hi)
    have e : (ys.map AV.d).getD i .undef = .d (ys.getD i .nilptr) := by simp [List.getD_eq_getElem?_getD, hi]
    rw [e] at this
    cases this with
    | d h => exact h
/-- A call of a function that is handed an owned row and keeps its header; the row's parts may be shared. -/
theorem callX_shareK {P N f cavs st dst K} (J : Nat) {avs o res o'} (hs : CtrM P f avs [(0, o)] [0] true res [(0, o')]) (hp : passM P (delL [J] st.o) (nth [J]) true cavs avs) (ho : lk J st.o = some (o.ren (nth [J])))
    (hd : dstB N dst) (hK : K (impM st dst (nth [J]) [] res [(0, o')])) : callX P N f cavs dst K st :=
  callX_mut [J] [J] [] hs hp ⟨ho, trivial⟩ (by simp [namesOK, keysO, nth]) hd hK
/-- The end of a function without results that is handed an object. -/
theorem retM_u {P : Program} {u : Nat → Value} {sh : Bool} {ob : AO} {st : St} (ho : lk 0 st.o = some ob) (hk : lk 1000000000 st.s = some (.hdr 0 (u 0))) (hr : ob.ren (fun j => j) = ob) (hs : sh = true ∨ ob.plain) : retM P [] u [0] sh (.tup []) [(0, ob)] .ret st := by
  simp only [retM, resV]
  refine ⟨trivial, ⟨fun j => j, rfl, by simpa [hr] using ho, by simp, ⟨rfl, hk, trivial⟩⟩, ?_⟩
  rcases hs with rfl | hs
  · exact .inl rfl
  · exact .inr ⟨trivial, hs, trivial⟩
theorem retM_n {P : Program} {u : Nat → Value} {sh : Bool} {ob : AO} {st : St} (ho : lk 0 st.o = some ob) (hk : lk 1000000000 st.s = some (.hdr 0 (u 0))) (hr : ob.ren (fun j => j) = ob) (hs : sh = true ∨ ob.plain) : retM P [] u [0] sh (.tup []) [(0, ob)] .normal st :=
  retM_u (P := P) ho hk hr hs
end Abs
