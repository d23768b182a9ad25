/- The operations that make or change objects: their abstract rule, and that the machine follows it. No condition. -/
import Derived.Test.YtoppjihdipidiaaAbsFreeze
set_option linter.all false
namespace Abs
open Go Go.RowKit

def setL {α : Type} (ds : List α) (off : Nat) (xs : List α) : List α := ds.take off ++ xs ++ ds.drop (off + xs.length)
theorem setL_length {α : Type} {ds : List α} {off} {xs : List α} (h : off + xs.length ≤ ds.length) : (setL ds off xs).length = ds.length := by
  simp [setL]; omega
theorem setL_getD {α : Type} {ds : List α} {off} {xs : List α} {z : α} (h : off + xs.length ≤ ds.length) (i : Nat) :
    (setL ds off xs).getD i z = if off ≤ i ∧ i < off + xs.length then xs.getD (i - off) z else ds.getD i z := by
  simp only [setL, List.getD_eq_getElem?_getD]
  by_cases h1 : i < off
  · rw [if_neg (by omega), List.append_assoc, List.getElem?_append_left (by simp; omega), List.getElem?_take, if_pos h1]
  · by_cases h2 : i < off + xs.length
    · rw [if_pos (by omega), List.append_assoc, List.getElem?_append_right (by simp; omega), List.getElem?_append_left (by simp; omega)]
      congr 2; simp; omega
    · rw [if_neg (by omega), List.getElem?_append_right (by simp; omega), List.getElem?_drop]
      congr 2; simp; omega

def D.atom : D → Bool
  | .agg _ => false
  | .tup _ => false
  | _ => true
/-- x is laid out in k cells. -/
def D.ok (k : Nat) (x : D) : Prop := x.cells.length = k ∧ ∀ c ∈ x.cells, c.atom = true

theorem atom_one {S w x v} (h : Rd S w x v) (ha : x.atom = true) : v.oneCell' = true := by
  cases h <;> first | rfl | cases ha
theorem rd_cells {S w x v} (h : Rd S w x v) : v.cells.toList.length = x.cells.length ∧ ∀ i, i < x.cells.length → Rd S w (x.cells.getD i .nilptr) (v.cells.toList.getD i Go.undef) := by
  have one : ∀ {y u}, Rd S w y u → y.cells = [y] → u.cells = #[u] →
      u.cells.toList.length = y.cells.length ∧ ∀ i, i < y.cells.length → Rd S w (y.cells.getD i .nilptr) (u.cells.toList.getD i Go.undef) := by
    intro y u hy e1 e2
    rw [e1, e2]
    refine ⟨rfl, fun i hi => ?_⟩
    have : i = 0 := by simpa using hi
    subst this; simpa using hy
  cases h with
  | agg hl hr => exact ⟨by simpa [Value.cells, D.cells] using hl, by simpa [Value.cells, D.cells] using hr⟩
  | int k n => exact one (.int k n) rfl rfl
  | bool b => exact one (.bool b) rfl rfl
  | str s => exact one (.str s) rfl rfl
  | nil a0 => exact one (.nil a0) rfl rfl
  | slice vs hk hcap hc hr => exact one (.slice vs hk hcap hc hr) rfl rfl
  | ptr vs hc hr => exact one (.ptr vs hc hr) rfl rfl
  | nilptr => exact one .nilptr rfl rfl
  | fn hl hl' hr hr' => exact one (.fn hl hl' hr hr') rfl rfl
  | nilfn => exact one .nilfn rfl rfl
  | tup hl hr => exact one (.tup hl hr) rfl rfl
theorem ok_ones {S w x v} (h : Rd S w x v) {k} (hk : x.ok k) : ∀ u ∈ v.cells.toList, u.oneCell' = true := by
  obtain ⟨h1, h2⟩ := rd_cells h
  intro u hu
  obtain ⟨i, hi, rfl⟩ := List.getElem_of_mem hu
  have hi' : i < x.cells.length := by omega
  have := h2 i hi'
  rw [List.getD_eq_getElem?_getD, List.getD_eq_getElem?_getD, List.getElem?_eq_getElem hi, List.getElem?_eq_getElem hi'] at this
  exact atom_one this (hk.2 _ (List.getElem_mem hi'))

/-- Cells that can be stored. -/
def stOK : List AV → Bool
  | [] => true
  | .d y :: r => y.atom && stOK r
  | .sl _ :: r => stOK r
  | .nilS :: r => stOK r
  | _ :: _ => false
theorem stOK_mem : ∀ {cs : List AV} {c}, stOK cs = true → c ∈ cs → (∃ y, c = .d y ∧ y.atom = true) ∨ (∃ j, c = .sl j) ∨ c = .nilS
  | .d y :: r, c, h, hc => by
    simp only [stOK, Bool.and_eq_true] at h
    rcases List.mem_cons.1 hc with rfl | hc
    · exact .inl ⟨y, rfl, h.1⟩
    · exact stOK_mem h.2 hc
  | .sl j :: r, c, h, hc => by
    simp only [stOK] at h
    rcases List.mem_cons.1 hc with rfl | hc
    · exact .inr (.inl ⟨j, rfl⟩)
    · exact stOK_mem h hc
  | .nilS :: r, c, h, hc => by
    simp only [stOK] at h
    rcases List.mem_cons.1 hc with rfl | hc
    · exact .inr (.inr rfl)
    · exact stOK_mem h hc
/-- The slices that a value is, or bears. -/
def AV.isSl (j : Nat) (av : AV) : Prop := av = .sl j ∨ ∃ cs, av = .st cs ∧ .sl j ∈ cs
/-- The cells of a value that is stored. -/
def boxCells : AV → Option (List AV)
  | .st cs => if stOK cs then some cs else none
  | .d y => some (y.cells.map .d)
  | .sl j => some [.sl j]
  | .p j o => some [.p j o]
  | .fn f cs => some [.fn f cs]
  | .nilS => some [.nilS]
  | _ => none
def AV.atoms : AV → Prop
  | .d y => ∀ c ∈ y.cells, c.atom = true
  | _ => True
theorem boxCells_spec {β S w av v cs} (h : Rel β S w av v) (hb : boxCells av = some cs) (hsl : ∀ j, av.isSl j → ∃ a n c, β j = .slice a n c) :
    v.cells.toList.length = cs.length ∧ (∀ i, i < cs.length → Rel β S w (cs.getD i .undef) (v.cells.toList.getD i Go.undef)) ∧ (av.atoms → ∀ u ∈ v.cells.toList, u.oneCell' = true) := by
  have one : ∀ {y u}, Rel β S w y u → u.cells = #[u] → u.oneCell' = true → u.cells.toList.length = [y].length ∧
      (∀ i, i < [y].length → Rel β S w ([y].getD i .undef) (u.cells.toList.getD i Go.undef)) ∧ (y.atoms → ∀ z ∈ u.cells.toList, z.oneCell' = true) := by
    intro y u hy e1 e2
    rw [e1]
    refine ⟨rfl, fun i hi => ?_, fun _ z hz => by simp at hz; rw [hz]; exact e2⟩
    have : i = 0 := by simpa using hi
    subst this; simpa using hy
  cases av <;> simp only [boxCells, Option.some.injEq, reduceCtorEq] at hb
  · subst hb
    cases h with
    | d hr =>
      obtain ⟨h1, h2⟩ := rd_cells hr
      refine ⟨by simpa using h1, fun i hi => ?_, fun ha => ok_ones hr ⟨rfl, ha⟩⟩
      simp only [List.length_map] at hi
      have := h2 i hi
      simp only [List.getD_eq_getElem?_getD, List.getElem?_map, List.getElem?_eq_getElem hi, Option.map_some, Option.getD_some] at this ⊢
      exact .d this
  · subst hb
    rename_i j
    obtain ⟨a, n, c, e⟩ := hsl j (.inl rfl)
    cases h
    exact one (.sl j) (by rw [e]; rfl) (by rw [e]; rfl)
  · subst hb; cases h with | p hβ => exact one (.p hβ) rfl rfl
  · subst hb; cases h with | fn hl hr => exact one (.fn hl hr) rfl rfl
  · subst hb; cases h with | nilS => exact one .nilS rfl rfl
  · rename_i xs
    split at hb
    · rename_i hok
      cases hb
      cases h with
      | st hl hr =>
        rename_i vs
        refine ⟨by simpa [Value.cells] using hl, by simpa [Value.cells] using hr, fun _ u hu => ?_⟩
        have hu : u ∈ vs := by simpa [Value.cells] using hu
        obtain ⟨i, hi, rfl⟩ := List.getElem_of_mem hu
        have h1 := hr i (by omega)
        have hix : i < cs.length := by omega
        simp only [List.getD_eq_getElem?_getD, List.getElem?_eq_getElem hi, List.getElem?_eq_getElem hix, Option.getD_some] at h1
        rcases stOK_mem hok (List.getElem_mem hix) with ⟨y, hy, hat⟩ | ⟨j, hj⟩ | hj
        · rw [hy] at h1; cases h1 with | d h2 => exact atom_one h2 hat
        · obtain ⟨a, n, c, e⟩ := hsl j (.inr ⟨cs, rfl, hj ▸ List.getElem_mem hix⟩)
          rw [hj] at h1
          generalize vs[i] = v at *
          cases h1
          rw [e]; rfl
        · rw [hj] at h1
          generalize vs[i] = v at *
          cases h1; rfl
    · cases hb

theorem OK.is_slice {β S w o v F} (h : OK β S w o v F) : ∃ a n c, v = .slice a n c := by
  have key : ∀ {e k n xs}, w.ownsRow 0 e k v n xs → ∃ a n c, v = .slice a n c := by
    intro e k n xs hw
    rcases hw.2 with ⟨h1, _⟩ | ⟨g, cap, cur, h1, _⟩ <;> exact ⟨_, _, _, h1⟩
  cases h with
  | box hF xs hv hw hr => exact key hw
  | arr hF xs hk0 hk hw hr => exact key hw
  | arv hF xs hv hk0 hk hw hr => exact key hw
  | dp hlt h => rcases h with ⟨_, _, _, h⟩ | ⟨e, k, xs, fs, _, h⟩
                · cases h <;> exact ⟨_, _, _, rfl⟩
                · exact key h.hw

theorem flat_one {cs : List D} (hc : ∀ x ∈ cs, x.isAgg = false) : flat cs = cs := by
  induction cs with
  | nil => rfl
  | cons x r ih =>
    have hx := cells_one (hc x (by simp))
    have := ih fun y hy => hc y (by simp [hy])
    simp only [flat, List.flatMap_cons, hx] at this ⊢
    rw [this]; rfl

/-! ### New objects -/
section
variable {P : Program} {Z : Nat → Prop} {β : Nat → Value} {φ : Nat → Nat → Prop} {N B : Nat} {M : Nat → Prop} {w0 : World} {st : St} {a : Act} {w : World}

theorem lk_kill {j : Nat} : lk j (st.kill j).o = none := by
  cases h : lk j (st.kill j).o with
  | none => rfl
  | some o => exact absurd rfl (lk_wipeO h).1

/-- A new object at key d. -/
theorem SimB.newF (h : SimB Z β φ N B M w0 st a w) {d : Nat} {o : AO} {hd : Value} {F : Nat → Prop} {w' : World} (hg : Gb w w' none) (hnew : ∀ g, F g → w.heap.size ≤ g)
    (hok : ∀ β' S', (∀ av u, av.has d = false → Rel β (free Z φ st.o) w av u → Rel β' S' w' av u) → (∀ x u, Rd (free Z φ st.o) w x u → Rd S' w' x u) → OK β' S' w' o hd F) :
    SimB Z (upd β d hd) (updF φ d F) N B M w0 ⟨wipeS d st.s, ins d o (wipeO d st.o)⟩ a w' := by
  have hk := h.kill (β' := upd β d hd) (φ' := updF φ d F) d upd_ne updF_ne
  have hS : ∀ g, free Z φ st.o g → free Z (updF φ d F) (st.kill d).o g := fun g hg => free_wipe updF_ne hg
  refine hk.layNew lk_kill hg (by rw [updF_eq]; exact hnew) fun S' h1 h2 => ?_
  rw [upd_eq, updF_eq]
  exact hok _ S' (fun av u hh hr => h1 av u ((hr.other upd_ne hh).move fun g hg _ => ⟨hS g hg, rfl⟩)) fun x u hr => h2 x u (hr.weaken hS)
theorem SimB.new (h : SimB Z β φ N B M w0 st a w) {d : Nat} {o : AO} {hd : Value} {w' : World} (hg : Gb w w' none) (hnew : ∀ g, hd.ownBlock = some g → w.heap.size ≤ g)
    (hok : ∀ β' S', (∀ av u, av.has d = false → Rel β (free Z φ st.o) w av u → Rel β' S' w' av u) → (∀ x u, Rd (free Z φ st.o) w x u → Rd S' w' x u) → OK β' S' w' o hd (ownS hd)) :
    SimB Z (upd β d hd) (updF φ d (ownS hd)) N B M w0 ⟨wipeS d st.s, ins d o (wipeO d st.o)⟩ a w' := h.newF hg hnew hok

theorem grownBy_alloc (w : World) (o : Obj) : Gb w (w.alloc o) none := ⟨World.grownBy_alloc w o none, Nat.le_refl _⟩

/-- What 'box' lays. -/
def boxO (P : Program) (t : TypeId) (av : AV) : Option (Prop × AO) :=
  match elemAr P t with
  | none => (boxCells av).map fun cs => (True, .box t cs)
  | some (_, e) => match av with
    | .d (.agg cs) => if aggT P e then none else some (∀ x ∈ cs, x.isAgg = false, .arv t 1 cs)
    | _ => none

theorem boxO_ok {d t av c o v} (h : SimB Z β φ N B M w0 st a w) (hq : boxO P t av = some (c, o)) (hc : c) (hv : Rel β (free Z φ st.o) w av v) (hsl : ∀ j, av.isSl j → ∃ a n c, β j = .slice a n c)
    (hd : av.has d = false) {β' : Nat → Value} {S' : Nat → Prop} 
    (h1 : ∀ av u, av.has d = false → Rel β (free Z φ st.o) w av u → Rel β' S' (w.alloc (.cells v.cells t)) av u) (h2 : ∀ x u, Rd (free Z φ st.o) w x u → Rd S' (w.alloc (.cells v.cells t)) x u) :
    OK β' S' (w.alloc (.cells v.cells t)) o (.slice (some ⟨w.heap.size, 0, none⟩) 1 1) (ownS (.slice (some ⟨w.heap.size, 0, none⟩) 1 1)) := by
  unfold boxO at hq
  have hrow : ∀ n, v.cells.toList.length = n → (w.alloc (.cells v.cells t)).ownsRow 0 t n (.slice (some ⟨w.heap.size, 0, none⟩) 1 1) 1 v.cells.toList := fun n hn => by
    have := World.ownsRow_lit (base := 0) (e := t) (size := n) w v.cells 1 (Nat.zero_le _) (by decide) (by simpa using hn)
    exact this
  split at hq
  · obtain ⟨cs, hcs, he⟩ := Option.map_eq_some_iff.1 hq
    cases he
    obtain ⟨e1, e2, _⟩ := boxCells_spec hv hcs hsl
    refine .box rfl v.cells.toList (by simp) (hrow _ e1) fun i hi => ?_
    refine h1 _ _ ?_ (e2 i hi)
    cases av <;> simp only [boxCells, Option.some.injEq, reduceCtorEq] at hcs
    case st xs =>
      split at hcs
      · cases hcs; exact AV.hasL_getD (by simpa [AV.has] using hd) i
      · cases hcs
    all_goals subst hcs
    · simp only [List.getD_eq_getElem?_getD, List.getElem?_map]
      cases (D.cells _)[i]? <;> simp [AV.has]
    all_goals
      have : i = 0 := by simpa using hi
      subst this
      simpa using hd
  · rename_i n e he
    split at hq
    · rename_i cs
      split at hq
      · cases hq
      · cases hq
        cases hv with
        | d hr =>
          obtain ⟨vs, rfl, hl, hr'⟩ := rd_agg hr
          have hflat : flat cs = cs := flat_one hc
          refine .arv rfl vs (by simp) (by omega) (fun x hx => by rw [cells_one (hc x hx)]; rfl) ?_ fun i hi => ?_
          · rw [hflat]; simpa [Value.cells] using hrow cs.length (by simpa [Value.cells] using hl)
          · rw [hflat] at hi ⊢; exact h2 _ _ (hr' i hi)
    · cases hq

/-- The zero value of a type, as data. -/
def zeroD (P : Program) (t : TypeId) : Option D :=
  match (zeroOf P t).bind cv with
  | some (.d x) => some x
  | _ => none
theorem zeroD_spec {P : Program} {t x} (h : zeroD P t = some x) : ∃ i z, P.info? t = some i ∧ i.zero = some z ∧ ∀ S w, Rd S w x z := by
  unfold zeroD at h
  split at h
  · rename_i y hy
    cases h
    obtain ⟨z, hz, hc⟩ := Option.bind_eq_some_iff.1 hy
    obtain ⟨i, hi, hz'⟩ := Option.bind_eq_some_iff.1 hz
    refine ⟨i, z, hi, hz', fun S w => ?_⟩
    have := cv_spec (β := fun _ => Go.undef) (S := S) (w := w) hc
    cases this; assumption
  · cases h
/-- What a new variable holds: a slice is nil. -/
def nz : D → AV
  | .slice [] => .nilS
  | .slice (x :: r) => .d (.slice (x :: r))
  | .int k n => .d (.int k n)
  | .bool b => .d (.bool b)
  | .str s => .d (.str s)
  | .agg cs => .d (.agg cs)
  | .ptr x => .d (.ptr x)
  | .nilptr => .d .nilptr
  | .fn f a b => .d (.fn f a b)
  | .nilfn => .d .nilfn
  | .tup xs => .d (.tup xs)
theorem nz_eq (x : D) : (x = .slice [] ∧ nz x = .nilS) ∨ nz x = .d x := by
  cases x <;> first | exact .inr rfl | skip
  rename_i es
  cases es
  · exact .inl ⟨rfl, rfl⟩
  · exact .inr rfl
theorem nz_has (x : D) (d : Nat) : (nz x).has d = false := by
  rcases nz_eq x with ⟨_, h⟩ | h <;> rw [h] <;> rfl
theorem nz_sl (x : D) {j} : ¬ (nz x).isSl j := by
  rcases nz_eq x with ⟨_, h⟩ | h <;> rw [h] <;> rintro (h | ⟨_, h, _⟩) <;> cases h
theorem zeroD_nz {P : Program} {t x} (h : zeroD P t = some x) : ∃ i z, P.info? t = some i ∧ i.zero = some z ∧ ∀ β S w, Rel β S w (nz x) z := by
  obtain ⟨i, z, hi, hz, hr⟩ := zeroD_spec h
  refine ⟨i, z, hi, hz, fun β S w => ?_⟩
  rcases nz_eq x with ⟨hx, e⟩ | e
  · rw [e]
    subst hx
    have h1 : (zeroOf P t).bind cv = some (.d (.slice [])) := by
      unfold zeroD at h
      split at h
      · rename_i y hy; cases h; exact hy
      · cases h
    rw [show zeroOf P t = some z by simp [zeroOf, hi, hz], Option.bind_some] at h1
    have : z = .slice none 0 0 := by
      unfold cv at h1
      split at h1
      · cases hcd : cDs _ <;> rw [hcd] at h1 <;> simp at h1
      · unfold cD at h1
        split at h1 <;> simp at h1
        rfl
    rw [this]; exact .nilS
  · rw [e]; exact .d (hr S w)

/-! ### The rules -/
/-- A list of parts as data. -/
def dsOf (st : St) : List (Nat × Operand) → Option (List (Nat × D) × St)
  | [] => some ([], st)
  | (i, x) :: r => match dOf st x with
    | some (y, st') => match dsOf st' r with
      | some (ys, st'') => some ((i, y) :: ys, st'')
      | none => none
    | none => none
theorem dsOf_spec : ∀ {ps st ys st'}, SimB Z β φ N B M w0 st a w → dsOf st ps = some (ys, st') → SimB Z β φ N B M w0 st' a w ∧ (∀ g, free Z φ st.o g → free Z φ st'.o g) ∧
    ys.map (·.1) = ps.map (·.1) ∧ ∀ i, i < ys.length → Rd (free Z φ st'.o) w (ys.getD i (0, .nilptr)).2 (a.eval (ps.getD i (0, .global 0)).2)
  | [], st, ys, st', h, hq => by simp [dsOf] at hq; obtain ⟨rfl, rfl⟩ := hq; exact ⟨h, fun _ hg => hg, rfl, by simp⟩
  | (i, x) :: r, st, ys, st', h, hq => by
    simp only [dsOf] at hq
    split at hq
    · rename_i y st1 hy
      split at hq
      · rename_i zs st2 hz
        cases hq
        obtain ⟨h1, h2⟩ := dOf_spec h hy
        obtain ⟨h3, h4, h5, h6⟩ := dsOf_spec h1 hz
        refine ⟨h3, fun g hg => h4 g (dOf_free hy hg), by simp [h5], fun j hj => ?_⟩
        cases j with
        | zero => simpa using h2.weaken h4
        | succ j => simpa using h6 j (by simpa using hj)
      · cases hq
    · cases hq

/-- Parts laid into cells. -/
def fillD (place : Nat → Option (Nat × Nat)) (ds : List D) : List (Nat × D) → Option (List D)
  | [] => some ds
  | (i, x) :: r => match place i with
    | some (off, size) => if x.cells.length = size ∧ off + x.cells.length ≤ ds.length then fillD place (setL ds off x.cells) r else none
    | none => none

theorem foldl_set_getD (off : Nat) : ∀ (l : List Value) (k : Nat) (cs : Array Value) (i : Nat), off + k + l.length ≤ cs.size →
    (((l.zipIdx k).foldl (fun cs (c : Value × Nat) => cs.setIfInBounds (off + c.2) c.1) cs).toList.getD i Go.undef =
      if off + k ≤ i ∧ i < off + k + l.length then l.getD (i - off - k) Go.undef else cs.toList.getD i Go.undef) ∧
    ((l.zipIdx k).foldl (fun cs (c : Value × Nat) => cs.setIfInBounds (off + c.2) c.1) cs).size = cs.size
  | [], k, cs, i, _ => by simp; intro h1 h2; omega
  | v :: r, k, cs, i, hl => by
    simp only [List.length_cons] at hl
    obtain ⟨h1, h2⟩ := foldl_set_getD off r (k + 1) (cs.setIfInBounds (off + k) v) i (by simp; omega)
    simp only [List.zipIdx_cons, List.foldl_cons]
    refine ⟨?_, by rw [h2]; simp⟩
    rw [h1]
    simp only [List.length_cons]
    by_cases e : i = off + k
    · subst e
      rw [if_neg (by omega), if_pos (by omega)]
      have : off + k - off - k = 0 := by omega
      rw [this]
      have h3 : off + k < cs.size := by omega
      simp [List.getD_eq_getElem?_getD, h3]
    · have h4 : (cs.setIfInBounds (off + k) v).toList.getD i Go.undef = cs.toList.getD i Go.undef := by
        simp only [List.getD_eq_getElem?_getD, Array.getElem?_toList]
        rw [Array.getElem?_setIfInBounds_ne (Ne.symm e)]
      rw [h4]
      by_cases h5 : off + (k + 1) ≤ i ∧ i < off + (k + 1) + r.length
      · rw [if_pos h5, if_pos (by omega)]
        have : i - off - k = (i - off - (k + 1)) + 1 := by omega
        rw [this]; simp
      · rw [if_neg h5, if_neg (by omega)]

def RdL (S : Nat → Prop) (w : World) (ds : List D) (vs : List Value) : Prop := vs.length = ds.length ∧ ∀ i, i < ds.length → Rd S w (ds.getD i .nilptr) (vs.getD i Go.undef)

theorem fill_spec {S : Nat → Prop} {place : Nat → Option (Nat × Nat)} : ∀ {ys : List (Nat × D)} {us : List (Nat × Value)} {ds cs r}, fillD place ds ys = some r →
    ys.map (·.1) = us.map (·.1) → (∀ i, i < ys.length → Rd S w (ys.getD i (0, .nilptr)).2 (us.getD i (0, Go.undef)).2) → RdL S w ds cs.toList →
    ∃ rs : Array Value, Instr.fill place cs us = some rs ∧ RdL S w r rs.toList
  | [], us, ds, cs, r, hq, he, _, hl => by
    simp [fillD] at hq; subst hq
    have : us = [] := by simpa using he.symm
    subst this
    exact ⟨cs, rfl, hl⟩
  | (i, x) :: ys, us, ds, cs, r, hq, he, hr, hl => by
    cases us with
    | nil => simp at he
    | cons u us =>
      obtain ⟨i', v⟩ := u
      simp only [List.map_cons, List.cons.injEq] at he
      obtain ⟨rfl, he⟩ := he
      simp only [fillD] at hq
      split at hq
      · rename_i off size hp
        split at hq
        · rename_i hb
          have h0 : Rd S w x v := by simpa using hr 0 (by simp)
          obtain ⟨h1, h2⟩ := rd_cells h0
          have hsz : v.cells.size = x.cells.length := by simpa using h1
          have hcs : cs.size = ds.length := by simpa using hl.1
          obtain ⟨rs, h3, h4⟩ := fill_spec (S := S) (us := us) (cs := (v.cells.zipIdx.foldl (fun cs (c : Value × Nat) => cs.setIfInBounds (off + c.2) c.1) cs)) hq he
            (fun j hj => by simpa using hr (j + 1) (by simpa using hj)) (by
              rw [← Array.foldl_toList, Array.toList_zipIdx]
              obtain ⟨_, e2⟩ := foldl_set_getD off v.cells.toList 0 cs 0 (by simp; omega)
              refine ⟨by rw [Array.length_toList, e2, setL_length hb.2, hcs], fun j hj => ?_⟩
              rw [setL_length hb.2] at hj
              rw [(foldl_set_getD off v.cells.toList 0 cs j (by simp; omega)).1, setL_getD hb.2]
              simp only [Nat.add_zero, Nat.sub_zero, Array.length_toList, hsz]
              split
              · exact h2 _ (by omega)
              · exact hl.2 j hj)
          refine ⟨rs, ?_, h4⟩
          have e1 : ¬ (v.cells.size ≠ size) := by rw [hsz]; exact fun h => h hb.1
          have e2 : ¬ (off + v.cells.size > cs.size) := by omega
          simp only [Instr.fill, hp]
          rw [if_neg (by simp only [Bool.or_eq_true, decide_eq_true_eq]; rintro (h | h); exact e1 h; exact e2 h)]
          exact h3
        · cases hq
      · cases hq
end
end Abs
