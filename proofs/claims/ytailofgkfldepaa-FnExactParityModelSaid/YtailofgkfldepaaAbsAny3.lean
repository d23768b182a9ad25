/- A region that draws its order, at whose end a new variable is laid and written: the variable may be laid at any time. No condition but the region's own check. -/
import Derived.Test.YtailofgkfldepaaAbsAny2
set_option linter.all false
namespace Abs
open Go Go.RowKit

/-- Operations that lay nothing that can be named, and call nothing. -/
def isQ (o : Oper) : Bool :=
  match o.op with
  | .move _ => true
  | .assign _ => true
  | .pick _ _ _ => true
  | .load _ _ => true
  | .fieldAddr _ _ _ => true
  | .indexAddr _ _ _ => true
  | .binOp _ _ _ _ _ => true
  | .unOp _ _ _ => true
  | .convert _ _ _ => true
  | .field _ _ _ => true
  | .extract _ _ => true
  | .build _ _ => true
  | _ => false
section
variable {P : Program}
theorem loadV_extra {o o' : List (Nat × AO)} {d : Nat} (ho : ∀ j, j ≠ d → lk j o' = lk j o) {t : TypeId} {v : AV} (hv : v.has d = false) : loadV P o' t v = loadV P o t v := by
  cases v with
  | p j off =>
    have : j ≠ d := by simpa [AV.has] using hv
    simp only [loadV, ho j this]
  | pe j k i fo =>
    have : j ≠ d := by simpa [AV.has] using hv
    simp only [loadV, ho j this]
  | d x => cases x <;> rfl
  | _ => rfl
theorem indexV_extra {o o' : List (Nat × AO)} {d : Nat} (ho : ∀ j, j ≠ d → lk j o' = lk j o) {t : TypeId} {v : AV} {n : Int} (hv : v.has d = false) : indexV P o' t v n = indexV P o t v n := by
  unfold indexV
  cases v with
  | sl j =>
    have : j ≠ d := by simpa [AV.has] using hv
    simp only [ho j this]
  | p j off =>
    have : j ≠ d := by simpa [AV.has] using hv
    cases off <;> simp only [ho j this]
  | d x => cases elemSl P t <;> cases elemAr P t <;> cases x <;> first | rfl | (rename_i y; cases y <;> rfl)
  | _ => cases elemSl P t <;> cases elemAr P t <;> rfl
theorem qv_extra {st st' : St} {op : Op} {d : Nat} (hq : isQ ⟨none, op, 0, "", #[], none⟩ = true) (ho : ∀ j, j ≠ d → lk j st'.o = lk j st.o) (h : ∀ x ∈ op.operands, ev st' x = ev st x)
    (hd : ∀ x ∈ op.operands, ∀ v, ev st x = some v → v.has d = false) : qv P st' op = qv P st op ∧ hv P st' op = hv P st op := by
  cases op <;> simp only [isQ, Bool.false_eq_true] at hq <;> simp only [Op.operands] at h hd
  case move x => exact ⟨by simp only [qv, h x (by simp)], rfl⟩
  case assign x => exact ⟨by simp only [qv, h x (by simp)], rfl⟩
  case pick c x y => exact ⟨by simp only [qv, h c (by simp), h x (by simp), h y (by simp)], rfl⟩
  case load t x =>
    refine ⟨?_, rfl⟩
    simp only [qv, h x (by simp)]
    cases hx : ev st x with
    | none => rfl
    | some v => simp only [Option.bind_some, loadV_extra ho (hd x (by simp) v hx)]
  case fieldAddr t x f => exact ⟨by simp only [qv, h x (by simp)], rfl⟩
  case indexAddr t x i =>
    refine ⟨?_, rfl⟩
    simp only [qv, h x (by simp), h i (by simp)]
    cases hx : ev st x with
    | none => rfl
    | some v =>
      cases hi : ev st i with
      | none => rfl
      | some u =>
        cases u with
        | d y => cases y <;> first | rfl | simp only [indexV_extra ho (hd x (by simp) v hx)]
        | _ => rfl
  case binOp f t x y u => exact ⟨by simp only [qv, h x (by simp), h y (by simp)], rfl⟩
  case unOp f t x => exact ⟨by simp only [qv, h x (by simp)], rfl⟩
  case convert s t x => exact ⟨by simp only [qv, h x (by simp)], rfl⟩
  case field t x f => exact ⟨by simp only [qv, h x (by simp)], rfl⟩
  case extract x i => exact ⟨by simp only [qv, h x (by simp)], rfl⟩
  case build t ps =>
    refine ⟨rfl, ?_⟩
    simp only [hv]
    rw [partsD_alike fun p hp => h p.2 (by simp; exact ⟨p.1, by simpa using hp⟩)]
theorem hop_extra {st st' : St} {o : Oper} {d : Nat} {K : AV → Prop} (hq : isQ o = true) (ho : ∀ j, j ≠ d → lk j st'.o = lk j st.o) (h : ∀ x ∈ o.op.operands, ev st' x = ev st x)
    (hd : ∀ x ∈ o.op.operands, ∀ v, ev st x = some v → v.has d = false) (hh : hopA P st o K) : hopA P st' o K := by
  obtain ⟨dst, op, ty, pos, after, guard⟩ := o
  obtain ⟨e1, e2⟩ := qv_extra (P := P) (op := op) hq ho h hd
  unfold hopA at hh ⊢
  simp only at hh ⊢
  rw [e1, e2]
  cases op <;> simp only [isQ, Bool.false_eq_true] at hq <;> exact hh
end

/-- A call of a value. -/
def isC (o : Oper) : Bool :=
  match o.op with
  | .call c => match c.callee with
    | .value _ => true
    | _ => false
  | _ => false
theorem viewC_extra {o o' : List (Nat × AO)} {d : Nat} (ho : ∀ j, j ≠ d → lk j o' = lk j o) : ∀ {cs : List AV}, AV.hasL d cs = false → viewC o' cs = viewC o cs
  | [], _ => rfl
  | c :: r, h => by
    simp only [AV.hasL, Bool.or_eq_false_iff] at h
    have ih := viewC_extra ho h.2
    cases c with
    | sl j =>
      have : j ≠ d := by simpa [AV.has] using h.1
      simp only [viewC, ih, ho j this]
    | _ => simp only [viewC, ih]
theorem viewN_extra {P : Program} {o o' : List (Nat × AO)} {d : Nat} (ho : ∀ j, j ≠ d → lk j o' = lk j o) (hm : ∀ j e cells, lk j o = some (.box e cells) → AV.hasL d cells = false) :
    ∀ (n : Nat) {v : AV}, v.has d = false → viewN P o' n v = viewN P o n v
  | 0, _, _ => rfl
  | n + 1, v, h => by
    have ih := fun {v} => viewN_extra (P := P) ho hm n (v := v)
    cases v with
    | sl j =>
      have : j ≠ d := by simpa [AV.has] using h
      simp only [viewN, ho j this]
    | st cs =>
      simp only [AV.has] at h
      simp only [viewN, viewC_extra ho h]
    | p j off =>
      have hj : j ≠ d := by simpa [AV.has] using h
      cases off with
      | succ k => rfl
      | zero =>
        simp only [viewN, ho j hj]
        cases hl : lk j o with
        | none => rfl
        | some ob =>
          cases ob with
          | box e cells =>
            have hc := hm j e cells hl
            simp only
            split
            · rename_i c
              simp only [AV.hasL, Bool.or_false] at hc
              rw [ih hc]
            · rw [viewC_extra ho hc]
          | _ => rfl
    | fn f cs =>
      simp only [AV.has] at h
      match cs, h with
      | [], _ => rfl
      | [c], h =>
        simp only [AV.hasL, Bool.or_false] at h
        simp only [viewN, ih h]
      | [c, c'], h =>
        simp only [AV.hasL, Bool.or_false, Bool.or_eq_false_iff] at h
        simp only [viewN, ih h.1, ih h.2]
      | [c, c', c''], h =>
        simp only [AV.hasL, Bool.or_false, Bool.or_eq_false_iff] at h
        simp only [viewN, ih h.1, ih h.2.1, ih h.2.2]
      | c :: c' :: c'' :: e :: r, _ => rfl
    | _ => rfl
theorem views_extra {P : Program} {o o' : List (Nat × AO)} {d : Nat} (ho : ∀ j, j ≠ d → lk j o' = lk j o) (hm : ∀ j e cells, lk j o = some (.box e cells) → AV.hasL d cells = false) :
    ∀ {avs : List AV}, AV.hasL d avs = false → views P o' avs = views P o avs
  | [], _ => rfl
  | x :: r, h => by
    simp only [AV.hasL, Bool.or_eq_false_iff] at h
    simp only [views, view, viewN_extra ho hm 4 h.1, views_extra ho hm h.2]
theorem hasL_app {d : Nat} : ∀ {xs ys : List AV}, AV.hasL d xs = false → AV.hasL d ys = false → AV.hasL d (xs ++ ys) = false
  | [], _, _, h => h
  | x :: r, ys, h, h' => by
    simp only [AV.hasL, Bool.or_eq_false_iff, List.cons_append] at h ⊢
    exact ⟨h.1, hasL_app h.2 h'⟩
theorem evs_has {st : St} {d : Nat} : ∀ {xs : List Operand} {avs}, (∀ x ∈ xs, ∀ v, ev st x = some v → v.has d = false) → evs st xs = some avs → AV.hasL d avs = false
  | [], avs, _, h => by simp only [evs, Option.some.injEq] at h; subst h; rfl
  | x :: r, avs, hd, h => by
    simp only [evs] at h
    split at h
    · rename_i y ys h1 h2
      cases h
      simp only [AV.hasL, Bool.or_eq_false_iff]
      refine ⟨?_, evs_has (fun z hz => hd z (by simp [hz])) h2⟩
      unfold evA at h1
      split at h1
      · cases h1; rfl
      · exact hd x (by simp) y h1
    · cases h
theorem fnOf_has {d : Nat} {v : AV} (h : v.has d = false) : (fnOf v).has d = false := by
  unfold fnOf
  split
  · unfold argV
    split <;> rfl
  · exact h
theorem hop_call {P : Program} {st st' : St} {o : Oper} {d : Nat} {K : AV → Prop} (hq : isC o = true) (ho : ∀ j, j ≠ d → lk j st'.o = lk j st.o) (hn : ∀ j ob, lk j st.o = some ob → j ≠ d ∧ ob = ob.wipe d)
    (h : ∀ x ∈ o.op.operands, ev st' x = ev st x) (hd : ∀ x ∈ o.op.operands, ∀ v, ev st x = some v → v.has d = false) (hh : hopA P st o K) : hopA P st' o K := by
  obtain ⟨dst, op, ty, pos, after, guard⟩ := o
  cases op <;> simp only [isC, Bool.false_eq_true] at hq
  rename_i c
  obtain ⟨callee, args, ats⟩ := c
  cases callee <;> simp only [Bool.false_eq_true] at hq
  rename_i x
  simp only [Op.operands, Call.operands] at h hd
  have e1 : ev st' x = ev st x := h x (by simp)
  have e2 : evs st' args.toList = evs st args.toList := evs_alike fun y hy => h y (by simp; exact .inr (by simpa using hy))
  have hm : ∀ j e cells, lk j st.o = some (.box e cells) → AV.hasL d cells = false := fun j e cells hj => by
    have := (hn j _ hj).2
    simp only [AO.wipe, AO.box.injEq, true_and] at this
    have h2 : ∀ xs : List AV, xs = xs.map (fun c => if c.has d then AV.undef else c) → AV.hasL d xs = false := by
      intro xs
      induction xs with
      | nil => intro _; rfl
      | cons y r ih =>
        intro e
        simp only [List.map_cons, List.cons.injEq] at e
        simp only [AV.hasL, Bool.or_eq_false_iff]
        refine ⟨?_, ih e.2⟩
        cases hy : y.has d with
        | false => rfl
        | true =>
          rw [hy, if_pos rfl] at e
          rw [e.1] at hy; cases hy
    exact h2 cells this
  unfold hopA at hh ⊢
  simp only [qv, hv] at hh ⊢
  rw [e1, e2]
  split at hh
  · rename_i f caps avs hx ha
    obtain ⟨sh, res, hc, hdst, hK⟩ := hh
    have hcaps : AV.hasL d caps = false := by
      cases hxv : ev st x with
      | none => rw [hxv] at hx; cases hx
      | some v =>
        rw [hxv] at hx
        simp only [Option.map_some, Option.some.injEq] at hx
        have := fnOf_has (hd x (by simp) v hxv)
        rw [hx] at this
        exact this
    have hav : AV.hasL d (avs ++ caps) = false := hasL_app (evs_has (fun y hy => hd y (by simp; exact .inr (by simpa using hy))) ha) hcaps
    refine ⟨sh, res, ?_, hdst, hK⟩
    rcases hc with hc | ⟨J, avs', ob, h1, h2, h3, h4⟩
    · left
      rw [views_extra ho hm hav]
      exact hc
    · right
      refine ⟨J, avs', ob, h1, ?_, ?_, h4⟩
      · have hp : ∀ (κ : Nat → Nat) (o1 o2 : List (Nat × AO)) (cs vs : List AV), passM P o1 κ true cs vs → passM P o2 κ true cs vs := by
          intro κ o1 o2 cs
          induction cs with
          | nil => intro vs h; cases vs <;> exact h
          | cons c cs ih =>
            intro vs h
            cases vs with
            | nil => exact h
            | cons v vs =>
              simp only [passM, Bool.true_eq_false, false_and, or_false] at h ⊢
              exact ⟨h.1, ih vs h.2⟩
        exact hp _ _ _ _ _ h2
      · rw [ho J (hn J _ h3).1]; exact h3
  · exact hh.elim
theorem const_noD {d : Nat} {v : Value} {av : AV} (h : cv v = some av) : av.has d = false := by
  unfold cv at h
  split at h <;> first | (cases h; rfl) | cases h | skip
  all_goals (obtain ⟨y, _, rfl⟩ := Option.map_eq_some_iff.1 h; rfl)
/-- Nothing names d. -/
def noD (d : Nat) (st : St) : Prop := wipeS d st.s = st.s ∧ wipeO d st.o = st.o
theorem noD_s {d : Nat} {st : St} (h : noD d st) {i v} (hi : lk i st.s = some v) : v.has d = false := by
  have h1 := lk_wipeS_eq (i := i) (j := d) st.s
  rw [h.1, hi] at h1
  simp only [Option.map_some, Option.some.injEq] at h1
  cases hv : v.has d with
  | false => rfl
  | true => rw [hv, if_pos rfl] at h1; subst h1; exact hv.symm ▸ rfl
theorem noD_o {d : Nat} {st : St} (h : noD d st) {j ob} (hj : lk j st.o = some ob) : j ≠ d := by
  have := h.2
  rw [← this] at hj
  exact (lk_wipeO hj).1

section
variable {P : Program} {Z : Nat → Prop} {N B : Nat} {M : Nat → Prop} {w0 : World}
theorem Sim.congr2 {st st' : St} {a : Act} {w : World} (h : Sim Z N B M w0 st a w) (hs : ∀ i, lk i st'.s = lk i st.s) (ho : ∀ i, lk i st'.o = lk i st.o) : Sim Z N B M w0 st' a w := by
  obtain ⟨β, φ, h⟩ := h
  have hf : free Z φ st'.o = free Z φ st.o := funext fun g => by unfold free; simp only [ho]
  refine ⟨β, φ, by rw [hf]; exact h.nd, h.size, fun i av hi => ?_, fun i o hi => ?_, fun i o g hi hg => ?_, fun i i' o o' g hi hi' hg hg' => ?_, h.fr, h.z⟩
  · rw [hf]; exact h.slots i av (by rw [← hs]; exact hi)
  · rw [hf]; exact h.objs i o (by rw [← ho]; exact hi)
  · exact h.own i o g (by rw [← ho]; exact hi) hg
  · exact h.disj i i' o o' g (by rw [← ho]; exact hi) (by rw [← ho]; exact hi') hg hg'

def onS3 (x : Option D) (f : D → Option (Prop × AO)) (g : Prop → AO → Prop) : Prop :=
  match x with
  | some z => match f z with
    | some (c, ob) => g c ob
    | none => False
  | none => False
theorem onS3_spec {x f g} (h : onS3 x f g) : ∃ z c ob, x = some z ∧ f z = some (c, ob) ∧ g c ob := by
  unfold onS3 at h
  split at h
  · split at h
    · rename_i z _ c ob hf; exact ⟨z, c, ob, rfl, hf, h⟩
    · exact h.elim
  · exact h.elim
theorem onS3_intro {x : Option D} {f g z c ob} (hx : x = some z) (hf : f z = some (c, ob)) (hg : g c ob) : onS3 x f g := by
  unfold onS3; rw [hx]; simp only; rw [hf]; exact hg
/-- The check: quiet operations, then the laying of a variable, then its writing. -/
def regionOK3 (l : List Oper) : Bool :=
  let n := l.length - 2
  regionOK l (n + 1) && Nat.ble 2 l.length &&
  (match l[n]? with
   | some ⟨some d, .alloc _, _, _, _, none⟩ => (l.take n).all fun o => (isQ o || isC o) && (o.dst != some d) && o.dst.isSome && !(looks l o).contains d
   | _ => false)
structure Checked3 (l : List Oper) (n d : Nat) (t : TypeId) (oa : Oper) : Prop where
  hC : Checked' l (n + 1)
  len : l.length = n + 2
  ha : l[n]? = some oa
  op : oa.op = .alloc t
  dst : oa.dst = some d
  guard : oa.guard = none
  quiet : ∀ k o, k < n → l[k]? = some o → (isQ o || isC o) = true ∧ o.dst ≠ some d ∧ d ∉ looks l o
theorem regionOK3_spec {l : List Oper} (h : regionOK3 l = true) : ∃ n d t oa, n = l.length - 2 ∧ Checked3 l n d t oa := by
  unfold regionOK3 at h
  simp only [Bool.and_eq_true, Nat.ble_eq] at h
  obtain ⟨⟨h1, h2⟩, h3⟩ := h
  split at h3
  · rename_i d t ty pos after hl
    refine ⟨l.length - 2, d, t, _, rfl, regionOK_spec h1, by omega, hl, rfl, rfl, rfl, fun k o hk ho => ?_⟩
    rw [List.all_eq_true] at h3
    have := h3 o (List.mem_of_getElem? (i := k) (by rw [List.getElem?_take, if_pos hk]; exact ho))
    simp only [Bool.and_eq_true, bne_iff_ne, ne_eq, Bool.not_eq_true'] at this
    refine ⟨this.1.1.1, this.1.1.2, fun hm => ?_⟩
    have h4 : (looks l o).contains d = true := by simpa using hm
    rw [h4] at this; exact absurd this.2 (by simp)
  · cases h3

/-- The head and the laying in any order, then the writing. -/
theorem any3 {l : List Oper} {n d : Nat} {t : TypeId} {oa : Oper} (hX : Checked3 l n d t oa) {K : St → Prop} {Q : Exit → Act → World → Prop} (hQ : ∀ st a w, Sim Z N B M w0 st a w → K st → Q .normal a w)
    {st0 : St} {V : Nat → AV} {S : Nat → St} {ob : AO} (hS0 : S 0 = st0) (hn0 : noD d st0) (hnn : noD d (S n)) (hY : ∀ k o, (l.take n)[k]? = some o → Yl P N l (S k) o (V k) ∧ S (k + 1) = (S k).put o.dst (V k))
    (hA : ∀ st K, (K (newSt d (.p d 0) ob st) : Prop) → stepA P N l st oa K) (hK : opsA P N l (l.drop (n + 1)) (newSt d (.p d 0) ob (S n)) K) :
    ∀ (fuel : Nat) (listed : Array Bool) (st : St) (a : Act) (w : World), listed.size = l.length → Closed l listed → (∀ t, n + 1 ≤ t → t < l.length → listed.getD t false = false) →
      fuel = (List.range l.length).countP (fun k => !listed.getD k false) → st.o = st0.o → (∀ s, lk s st.s = upto l V st0.s n (fun k => listed.getD k false) s) →
      Sim Z N B M w0 (if listed.getD n false = true then newSt d (.p d 0) ob st else st) a w → wpAny P .any l.toArray Q fuel listed a w := by
  have hC := hX.hC
  have hlen := hX.len
  have apart : ∀ k m ok om, k < n → m < n → k ≠ m → l[k]? = some ok → l[m]? = some om → ∀ s, om.dst = some s → ok.dst ≠ some s ∧ (s ∈ looks l ok → if m < k then Dep l k m else Dep l m k) :=
    fun k m ok om hk hm => hC.apart k m ok om (by omega) (by omega)
  have upto_in' : ∀ (L : Nat → Bool) {k o s}, k < n → L k = true → l[k]? = some o → o.dst = some s → upto l V st0.s n L s = some (V k) := by
    intro L k o s hk hL ho hd
    unfold upto
    cases hf : (List.range n).find? fun k => L k && (((l[k]?).bind (·.dst)) == some s) with
    | none =>
      rw [List.find?_eq_none] at hf
      have := hf k (List.mem_range.2 hk)
      simp [hL, ho, hd] at this
    | some m =>
      have h1 := List.find?_some hf
      have h2 := List.mem_range.1 (List.mem_of_find?_eq_some hf)
      simp only [Bool.and_eq_true, beq_iff_eq] at h1
      cases hm : l[m]? with
      | none => rw [hm] at h1; simp at h1
      | some om =>
        rw [hm] at h1
        have hmd : om.dst = some s := by simpa using h1.2
        by_cases e : k = m
        · subst e; rfl
        · exact absurd hd (apart k m o om hk h2 e ho hm s hmd).1
  have hT : ∀ {k o}, k < n → l[k]? = some o → Yl P N l (S k) o (V k) ∧ S (k + 1) = (S k).put o.dst (V k) := fun hk ho => hY _ _ (by rw [List.getElem?_take, if_pos hk]; exact ho)
  -- the text's own states
  have hSk : ∀ k, k ≤ n → (S k).o = st0.o ∧ ∀ s, lk s (S k).s = upto l V st0.s n (fun m => decide (m < k)) s := by
    intro k
    induction k with
    | zero => intro _; rw [hS0]; exact ⟨rfl, fun s => (upto_out V st0.s _ (by simp)).symm⟩
    | succ k ih =>
      intro hk
      obtain ⟨h1, h2⟩ := ih (by omega)
      have hkl : k < l.length := by omega
      obtain ⟨o, ho⟩ : ∃ o, l[k]? = some o := ⟨l[k], by simp [hkl]⟩
      obtain ⟨_, h3⟩ := hT (by omega) ho
      rw [h3]
      refine ⟨by cases hd : o.dst <;> simp [St.put, h1], fun s => ?_⟩
      rw [lk_put]
      split
      · rename_i hd
        exact (upto_in' _ (by omega) (by simp) ho hd).symm
      · rename_i hd
        rw [h2]
        by_cases hw : ∃ m om, m < n ∧ m < k ∧ l[m]? = some om ∧ om.dst = some s
        · obtain ⟨m, om, hmn, hmk, hom, hmd⟩ := hw
          rw [upto_in' _ hmn (by simpa using hmk) hom hmd, upto_in' _ hmn (by simp; omega) hom hmd]
        · rw [upto_out V st0.s _ fun m om hmn hml hom hmd => hw ⟨m, om, hmn, by simpa using hml, hom, hmd⟩,
            upto_out V st0.s _ fun m om hmn hml hom hmd => by
              have hmk : m < k + 1 := by simpa using hml
              by_cases e : m = k
              · subst e; rw [ho] at hom; cases hom; exact hd hmd
              · exact hw ⟨m, om, hmn, by omega, hom, hmd⟩]
  -- no value names d
  have hVd : ∀ k o s, k < n → l[k]? = some o → o.dst = some s → (V k).has d = false := fun k o s hk ho hd =>
    noD_s hnn (by rw [(hSk n (Nat.le_refl _)).2 s]; exact upto_in' _ hk (by simpa using hk) ho hd)
  have hnoS : ∀ {st : St} {L : Nat → Bool}, (∀ s, lk s st.s = upto l V st0.s n L s) → ∀ s v, lk s st.s = some v → v.has d = false := fun {st L} hlk s v hs => by
    rw [hlk] at hs
    by_cases hw : ∃ m om, m < n ∧ L m = true ∧ l[m]? = some om ∧ om.dst = some s
    · obtain ⟨m, om, hmn, hmk, hom, hmd⟩ := hw
      rw [upto_in' _ hmn hmk hom hmd] at hs
      cases hs
      exact hVd m om s hmn hom hmd
    · rw [upto_out V st0.s _ fun m om hmn hml hom hmd => hw ⟨m, om, hmn, hml, hom, hmd⟩] at hs
      exact noD_s hn0 hs
  -- the variable laid beside
  have hEs : ∀ {st : St} {L : Nat → Bool}, (∀ s, lk s st.s = upto l V st0.s n L s) → ∀ i, lk i (newSt d (.p d 0) ob st).s = if i = d then some (.p d 0) else lk i st.s := fun {st L} hlk i => by
    unfold newSt
    simp only [lk_ins]
    split
    · rfl
    · rw [lk_wipeS_eq]
      cases h : lk i st.s with
      | none => rfl
      | some v => simp only [Option.map_some, hnoS hlk i v h, Bool.false_eq_true, if_false]
  have hEo : ∀ {st : St}, st.o = st0.o → ∀ i, lk i (newSt d (.p d 0) ob st).o = if i = d then some ob else lk i st.o := fun {st} ho i => by
    unfold newSt
    simp only [lk_ins]
    rw [ho, hn0.2]
  intro fuel
  induction fuel with
  | zero =>
    intro listed st a w hsz hcl htail hcnt ho hlk hs
    exfalso
    have h1 := htail (n + 1) (Nat.le_refl _) (by omega)
    have := List.countP_eq_zero.1 hcnt.symm (n + 1) (List.mem_range.2 (by omega))
    simp only [h1] at this
    exact this rfl
  | succ fuel ih =>
    intro listed st a w hsz hcl htail hcnt ho hlk hs
    by_cases hallh : ∀ k, k < n + 1 → listed.getD k false = true
    · -- the writing
      have hl : ∀ k, k < l.length → listed.getD k false = decide (k < n + 1) := fun k hk => by
        by_cases h : k < n + 1
        · rw [hallh k h]; simp [h]
        · rw [htail k (by omega) hk]; simp [h]
      have hlen1 : (l.drop (n + 1)).length = fuel + 1 := by
        rw [hcnt, List.length_drop]
        have e1 : (List.range l.length).countP (fun k => !listed.getD k false) = (List.range l.length).countP (fun k => decide (n + 1 ≤ k)) := by
          apply List.countP_congr
          intro k hk
          rw [hl k (List.mem_range.1 hk)]
          simp
        rw [e1, hlen, show n + 2 = (n + 1) + 1 by omega, List.range_add, List.countP_append]
        have e2 : (List.range (n + 1)).countP (fun k => decide (n + 1 ≤ k)) = 0 := by
          rw [List.countP_eq_zero]; intro k hk; have := List.mem_range.1 hk; simp; omega
        rw [e2]; simp
      rw [← hlen1]
      refine any_tail hC hQ (l.drop (n + 1)) (n + 1) listed (newSt d (.p d 0) ob (S n)) a w (Nat.le_refl _) rfl hsz hl ?_ hK
      rw [if_pos (hallh n (by omega))] at hs
      obtain ⟨h1, h2⟩ := hSk n (Nat.le_refl _)
      refine hs.congr2 (fun i => ?_) fun i => ?_
      · rw [hEs h2, hEs hlk, h2, hlk]
        split
        · rfl
        · by_cases hw : ∃ m om, m < n ∧ l[m]? = some om ∧ om.dst = some i
          · obtain ⟨m, om, hmn, hom, hmd⟩ := hw
            rw [upto_in' (fun m => decide (m < n)) hmn (by simpa using hmn) hom hmd, upto_in' (fun k => listed.getD k false) hmn (hallh m (by omega)) hom hmd]
          · rw [upto_out V st0.s _ fun m om hmn _ hom hmd => hw ⟨m, om, hmn, hom, hmd⟩, upto_out V st0.s _ fun m om hmn _ hom hmd => hw ⟨m, om, hmn, hom, hmd⟩]
      · rw [hEo h1, hEo ho, h1, ho]
    · -- one of the head, or the laying
      refine ⟨fun h0 => ?_, fun i hi => ?_⟩
      · exfalso
        have hex : ∃ k, k < l.length ∧ listed.getD k false = false ∧ ∀ m, m < k → listed.getD m false = true := by
          have h1 : ∃ k, k < l.length ∧ listed.getD k false = false := ⟨n + 1, by omega, htail _ (Nat.le_refl _) (by omega)⟩
          obtain ⟨k, hk⟩ := h1
          induction k using Nat.strongRecOn with
          | _ k ihk =>
            by_cases h2 : ∃ m, m < k ∧ listed.getD m false = false
            · obtain ⟨m, hm, hm2⟩ := h2
              exact ihk m hm ⟨by omega, hm2⟩
            · refine ⟨k, hk.1, hk.2, fun m hm => ?_⟩
              cases hh : listed.getD m false with
              | true => rfl
              | false => exact absurd ⟨m, hm, hh⟩ h2
        obtain ⟨k, hkl, hkf, hkm⟩ := hex
        have : k ∈ Region.ready .any l.toArray listed := by
          rw [ready_iff]
          refine ⟨?_, l[k], by simp [hkl], fun e he hb => hkm _ (hC.back k l[k] (by simp [hkl]) e he hb)⟩
          have : listed.getD k true = listed.getD k false := by simp [show k < listed.size by omega]
          rw [this]; exact hkf
        rw [h0] at this; cases this
      · obtain ⟨h1, o, hoi, h2⟩ := ready_iff.1 hi
        have hil := (List.getElem?_eq_some_iff.1 hoi).1
        have hlt : i < listed.size := by omega
        have hif : listed.getD i false = false := by
          have : listed.getD i true = listed.getD i false := by simp [hlt]
          rw [← this]; exact h1
        have hdep : ∀ {m}, Dep l i m → listed.getD m false = true := fun hd => hcl.ready hd fun o' ho' => by rw [hoi] at ho'; cases ho'; exact h2
        have hcount : fuel = (List.range l.length).countP (fun k => !(listed.setIfInBounds i true).getD k false) := by
          have hmem : i ∈ List.range l.length := List.mem_range.2 hil
          have hgen : ∀ (r : List Nat), r.Nodup → i ∈ r → r.countP (fun k => !listed.getD k false) = r.countP (fun k => !(listed.setIfInBounds i true).getD k false) + 1 := by
            intro r
            induction r with
            | nil => intro _ h; cases h
            | cons x r ihr =>
              intro hnd hm
              rw [List.nodup_cons] at hnd
              by_cases hx : i = x
              · subst hx
                have hrest : r.countP (fun k => !listed.getD k false) = r.countP (fun k => !(listed.setIfInBounds i true).getD k false) := by
                  apply List.countP_congr
                  intro k hk
                  rw [set_getD hlt, if_neg (show ¬ k = i from fun e => hnd.1 (by rw [← e]; exact hk))]
                rw [List.countP_cons, List.countP_cons, hrest, hif, set_getD hlt, if_pos rfl]
                simp
              · have hmr : i ∈ r := by
                  rcases List.mem_cons.1 hm with h | h
                  · exact absurd h hx
                  · exact h
                rw [List.countP_cons, List.countP_cons, ihr hnd.2 hmr, set_getD hlt, if_neg (Ne.symm hx)]
                omega
          have := hgen _ List.nodup_range hmem
          omega
        have hin : i < n + 1 := by
          rcases Nat.lt_or_ge i (n + 1) with h | h
          · exact h
          · exfalso
            obtain rfl : i = n + 1 := by omega
            exact hallh fun k hk => hdep (hC.sink (by omega) k hk)
        unfold wpOp
        have ho' : (l.toArray)[i]? = some o := by simpa using hoi
        rw [ho']
        simp only
        have hclS := hcl.set hsz hi
        have htl : ∀ t, n + 1 ≤ t → t < l.length → (listed.setIfInBounds i true).getD t false = false := fun t ht htl => by rw [set_getD hlt, if_neg (by omega)]; exact htail t ht htl
        by_cases hin' : i = n
        · -- the laying
          subst hin'
          have : o = oa := by rw [hX.ha] at hoi; cases hoi; rfl
          subst this
          rw [hif, if_neg (by simp)] at hs
          have hst := stepA_spec hs (hA st (fun s => s = newSt d (.p d 0) ob st) rfl) (K' := wpAny P .any l.toArray Q fuel (listed.setIfInBounds i true)) (Q := Q) fun q a' w' hs' hq => by
            subst hq
            refine ih _ st a' w' (by simpa using hsz) hclS htl hcount ho (fun s => ?_) (by rw [set_getD hlt, if_pos rfl, if_pos rfl]; exact hs')
            rw [hlk]
            by_cases hw : ∃ m om, m < i ∧ listed.getD m false = true ∧ l[m]? = some om ∧ om.dst = some s
            · obtain ⟨m, om, hmn, hml, hom, hmd⟩ := hw
              rw [upto_in' (fun k => listed.getD k false) hmn hml hom hmd, upto_in' (fun k => (listed.setIfInBounds i true).getD k false) hmn (by rw [set_getD hlt]; split; rfl; exact hml) hom hmd]
            · rw [upto_out V st0.s _ fun m om hmn hml hom hmd => hw ⟨m, om, hmn, hml, hom, hmd⟩, upto_out V st0.s _ fun m om hmn hml hom hmd => by
                rw [set_getD hlt, if_neg (by omega)] at hml
                exact hw ⟨m, om, hmn, hml, hom, hmd⟩]
          split
          · rename_i hw; rw [if_pos hw] at hst; exact .inl hst
          · rename_i hw; rw [if_neg hw] at hst; exact hst
        · -- one of the head
          have hin2 : i < n := by omega
          obtain ⟨hYi, _⟩ := hT hin2 hoi
          obtain ⟨hqu, hqd, hql⟩ := hX.quiet i o hin2 hoi
          obtain ⟨g1, g2⟩ := hSk i (by omega)
          have hal : Alike l o (S i) st := by
            refine ⟨ho.trans g1.symm, fun s hs' => ?_⟩
            rw [hlk, g2]
            by_cases hw : ∃ m om, m < n ∧ l[m]? = some om ∧ om.dst = some s
            · obtain ⟨m, om, hmn, hom, hmd⟩ := hw
              have only : ∀ (L : Nat → Bool), L m = false → upto l V st0.s n L s = lk s st0.s := fun L hL => by
                refine upto_out V st0.s _ fun k ok hkn hLk hok hkd => ?_
                by_cases e : k = m
                · subst e; rw [hL] at hLk; cases hLk
                · exact (apart k m ok om hkn hmn e hok hom s hmd).1 hkd
              by_cases e : m = i
              · subst e
                rw [only _ hif, only _ (by simp)]
              · have hcl' := (apart i m o om hin2 hmn (Ne.symm e) hoi hom s hmd).2 hs'
                split at hcl'
                · rename_i hlt'
                  rw [upto_in' _ hmn (hdep hcl') hom hmd, upto_in' _ hmn (by simpa using hlt') hom hmd]
                · rename_i hlt'
                  have hmf : listed.getD m false = false := by
                    cases hh : listed.getD m false with
                    | false => rfl
                    | true => have := hcl.dep hcl' hh; rw [hif] at this; cases this
                  rw [only _ hmf, only _ (by simp; omega)]
            · rw [upto_out V st0.s _ fun m om hmn _ hom hmd => hw ⟨m, om, hmn, hom, hmd⟩, upto_out V st0.s _ fun m om hmn _ hom hmd => hw ⟨m, om, hmn, hom, hmd⟩]
          have hYst := Yl_alike hal hYi
          have hlk' : ∀ {dv : Option Nat}, o.dst = dv → ∀ s, lk s (st.put dv (V i)).s = upto l V st0.s n (fun k => (listed.setIfInBounds i true).getD k false) s := fun {dv} hdv s => by
            rw [lk_put]
            split
            · rename_i hd
              exact (upto_in' _ hin2 (by rw [set_getD hlt, if_pos rfl]) hoi (hdv.trans hd)).symm
            · rename_i hd
              rw [hlk]
              by_cases hw : ∃ m om, m < n ∧ listed.getD m false = true ∧ l[m]? = some om ∧ om.dst = some s
              · obtain ⟨m, om, hmn, hml, hom, hmd⟩ := hw
                rw [upto_in' _ hmn hml hom hmd, upto_in' _ hmn (by rw [set_getD hlt]; split; rfl; exact hml) hom hmd]
              · rw [upto_out V st0.s _ fun m om hmn hml hom hmd => hw ⟨m, om, hmn, hml, hom, hmd⟩, upto_out V st0.s _ fun m om hmn hml hom hmd => by
                  rw [set_getD hlt] at hml
                  split at hml
                  · rename_i e; subst e; rw [hoi] at hom; cases hom; exact hd (hdv.symm.trans hmd)
                  · exact hw ⟨m, om, hmn, hml, hom, hmd⟩]
          have hputo : (st.put o.dst (V i)).o = st0.o := by cases hd : o.dst <;> simp [St.put, ho]
          have hnlist : (listed.setIfInBounds i true).getD n false = listed.getD n false := by rw [set_getD hlt, if_neg (by omega)]
          have hst : if Region.wanted o (yielded l.toArray a.tmps) then o.wp P a w (wpAny P .any l.toArray Q fuel (listed.setIfInBounds i true)) Q else wpAny P .any l.toArray Q fuel (listed.setIfInBounds i true) (a.put o.dst Go.undef) w := by
            cases hfa : listed.getD n false with
            | false =>
              rw [hfa, if_neg (by simp)] at hs
              exact Yl_spec hs hYst fun a' w' hs' => ih _ _ a' w' (by simpa using hsz) hclS htl hcount hputo (hlk' rfl) (by rw [hnlist, hfa, if_neg (by simp)]; exact hs')
            | true =>
              rw [hfa, if_pos rfl] at hs
              have hloks : ∀ s ∈ looks l o, lk s (newSt d (.p d 0) ob st).s = lk s st.s := fun s hs' => by
                rw [hEs hlk, if_neg]
                rintro rfl; exact hql hs'
              have hevx : ∀ x ∈ o.op.operands, ev (newSt d (.p d 0) ob st) x = ev st x := looks_ev hloks
              have hYE : Yl P N l (newSt d (.p d 0) ob st) o (V i) := by
                obtain ⟨y1, y2⟩ := hYst
                refine ⟨y1, ?_⟩
                have hhop : ∀ {K : AV → Prop}, hopA P st o K → hopA P (newSt d (.p d 0) ob st) o K := fun hh => by
                  have hdv : ∀ x ∈ o.op.operands, ∀ v, ev st x = some v → v.has d = false := fun x hx v hv => by
                    cases x with
                    | tmp s => exact hnoS hlk s v hv
                    | const u => exact const_noD hv
                    | func f => cases hv; rfl
                    | global g => cases hv
                  have hdo : ∀ j, j ≠ d → lk j (newSt d (.p d 0) ob st).o = lk j st.o := fun j hj => by rw [hEo ho, if_neg hj]
                  rcases Bool.or_eq_true_iff.1 hqu with hqu | hqu
                  · exact hop_extra hqu (d := d) hdo hevx hdv hh
                  · refine hop_call hqu (d := d) hdo (fun j ob' hj => ?_) hevx hdv hh
                    rw [ho] at hj
                    have hj' : lk j (wipeO d st0.o) = some ob' := by rw [hn0.2]; exact hj
                    obtain ⟨h5, o', h6, h7⟩ := lk_wipeO hj'
                    rw [hj] at h6; cases h6
                    exact ⟨h5, h7⟩
                unfold guardA at *
                split at y2
                · exact hhop y2
                · rename_i j want hg
                  split at y2
                  · rename_i d' hd'
                    have : lk d' (newSt d (.p d 0) ob st).s = lk d' st.s := hloks d' (by
                      refine List.mem_append_right _ ?_
                      have : ((l.toArray)[j]?).bind (·.dst) = some d' := by simpa using hd'
                      rw [hg]; simp only [this]; simp)
                    rw [this]
                    split at y2
                    · exact ⟨fun h => hhop (y2.1 h), y2.2⟩
                    · exact y2
                    · exact y2
                  · exact y2
              refine Yl_spec hs hYE fun a' w' hs' => ih _ (st.put o.dst (V i)) a' w' (by simpa using hsz) hclS htl hcount hputo (hlk' rfl) ?_
              rw [hnlist, hfa, if_pos rfl]
              refine hs'.congr2 (fun s => ?_) fun s => ?_
              · rw [hEs (hlk' rfl), lk_put, lk_put, hEs hlk]
                by_cases e1 : s = d
                · subst e1
                  rw [if_pos rfl, if_neg hqd, if_pos rfl]
                · rw [if_neg e1, if_neg e1]
              · rw [hEo hputo]
                have : ((newSt d (.p d 0) ob st).put o.dst (V i)).o = (newSt d (.p d 0) ob st).o := by cases o.dst <;> rfl
                rw [this, hEo ho]
                have : (st.put o.dst (V i)).o = st.o := by cases o.dst <;> rfl
                rw [this]
          split
          · rename_i hw; rw [if_pos hw] at hst; exact .inl hst
          · rename_i hw; rw [if_neg hw] at hst; exact hst
def endsAlloc (l : List Oper) : Bool :=
  match l[l.length - 2]? with
  | some ⟨some _, .alloc _, _, _, _, none⟩ => true
  | _ => false
def allocD (l : List Oper) : Nat :=
  match l[l.length - 2]? with
  | some ⟨some d, _, _, _, _, _⟩ => d
  | _ => 0
/-- A REGION THAT DRAWS ITS ORDER: quiet operations, then the laying of a variable, then its writing. -/
theorem wp_drawn3 {id : Nat} {l : List Oper} {K : St → Prop} {Q : Exit → Act → World → Prop} {st : St} {a : Act} {w : World} (hm : P.follows .mixedOrders = true) (hc : regionOK3 l = true)
    (hQ : ∀ st a w, Sim Z N B M w0 st a w → K st → Q .normal a w) (hs : Sim Z N B M w0 st a w)
    (hq : noD (allocD l) st ∧ headA P N l (l.take (l.length - 2)) st fun st' => noD (allocD l) st' ∧ opsA P N l (l.drop (l.length - 2)) st' K) :
    SW P (Code.region id l.toArray true) Q a w := by
  obtain ⟨n, d, t, oa, hn, hX⟩ := regionOK3_spec hc
  rw [← hn] at hq
  have hd : allocD l = d := by
    unfold allocD
    rw [← hn, hX.ha]
    have := hX.dst
    obtain ⟨dst, op, ty, pos, after, guard⟩ := oa
    simp only at this
    subst this
    rfl
  rw [hd] at hq
  obtain ⟨hn0, hq⟩ := hq
  obtain ⟨V, S, h1, h2, hnn, h3⟩ := headA_values hq
  have hlen := hX.len
  have htk : (l.take n).length = n := by rw [List.length_take]; omega
  rw [htk] at hnn h3
  have hdr : l.drop n = oa :: l.drop (n + 1) := by
    have := hX.ha
    rw [List.drop_eq_getElem_cons (show n < l.length by omega)]
    congr 1
    rw [List.getElem?_eq_getElem (by omega)] at this
    exact Option.some.inj this
  rw [hdr] at h3
  obtain ⟨dst, op, ty, pos, after, guard⟩ := oa
  have g1 := hX.op; have g2 := hX.dst; have g3 := hX.guard
  simp only at g1 g2 g3
  subst g1 g2 g3
  have hstep : ∀ st K, stepA P N l st ⟨some d, .alloc t, ty, pos, after, none⟩ K = onS3 (zeroD P t) (fun z => boxO P t (nz z)) (fun c ob => c ∧ d < N ∧ K (newSt d (.p d 0) ob st)) := fun st K => by
    simp only [stepA, guardA, opA, nilA, qv, lv, onS3]
    cases zeroD P t with
    | none => rfl
    | some z =>
      simp only
      cases boxO P t (nz z) with
      | none => rfl
      | some r => rfl
  have h3' : stepA P N l (S n) ⟨some d, .alloc t, ty, pos, after, none⟩ (fun st' => opsA P N l (l.drop (n + 1)) st' K) := h3
  rw [hstep] at h3'
  obtain ⟨z, c, ob, hz, hb, hcc, hdN, hK⟩ := onS3_spec h3'
  show wpAny P .any l.toArray Q l.toArray.size (Array.replicate l.toArray.size false) a { w with drawn := w.drawn + 1 }
  have hfalse : ∀ k, (Array.replicate l.length false).getD k false = false := fun k => by
    rcases Nat.lt_or_ge k l.length with h | h
    · simp [h]
    · simp [h]
  have := any3 (P := P) hX hQ h1 hn0 hnn h2 (ob := ob) (fun st K hk => by
      rw [hstep]
      exact onS3_intro hz hb ⟨hcc, hdN, hk⟩) hK l.length (Array.replicate l.length false) st a { w with drawn := w.drawn + 1 } (by simp) (fun k o _ hk => by rw [hfalse k] at hk; cases hk)
    (fun t _ _ => hfalse t) (by
      have : (List.range l.length).countP (fun k => !(Array.replicate l.length false).getD k false) = (List.range l.length).length := by
        rw [List.countP_eq_length]; intro k _; rw [hfalse k]; rfl
      rw [this]; simp) rfl (fun s => (upto_out V st.s _ fun k o _ hk => by rw [hfalse k] at hk; cases hk).symm)
    (by rw [hfalse n, if_neg (by simp)]; obtain ⟨β, φ, hB⟩ := hs; exact ⟨β, φ, hB.drawn⟩)
  simpa using this
end
end Abs
