/- What functions of this program compute, as contracts over plain data, with what the proofs need of them. No condition. -/
import Derived.Test.YtgnnmgmgnkbmbaaGreatS0
import Derived.Test.YtgnnmgmgnkbmbaaGreatE8
set_option linter.all false
namespace Abs.Y
open Go Go.Proofs Abs
set_option maxRecDepth 100000

/-! ### Runs in space, in plain words -/
theorem good_len_aux : ∀ {l : List Int} {lo : Nat}, l.Pairwise (fun x y => x.natAbs < y.natAbs) → (∀ x ∈ l, lo < x.natAbs ∧ x.natAbs ≤ 12) → lo ≤ 12 → l.length + lo ≤ 12
  | [], lo, _, _, h => by simpa using h
  | x :: r, lo, hp, hx, h => by
    have p := List.pairwise_cons.1 hp
    have h1 := hx x (by simp)
    have := good_len_aux (l := r) (lo := x.natAbs) p.2 (fun y hy => ⟨p.1 y hy, (hx y (by simp [hy])).2⟩) h1.2
    simp only [List.length_cons]; omega
theorem good_len {l : List Int} (g : Good l) : l.length ≤ 12 := by
  have := good_len_aux (lo := 0) g.1 (fun x hx => ⟨by have := (g.2 x hx).1; omega, (g.2 x hx).2⟩) (by omega)
  omega
theorem good_sm {l : List Int} (g : Good l) : Sm l := fun x hx => by have := (g.2 x hx).2; omega
theorem good_nil : Good [] := ⟨List.Pairwise.nil, fun x hx => by cases hx⟩
theorem resI_good {a b c : List Int} {v : Int} (ga : Good a) (gb : Good b) (h : resolveI a b v = some c) : Good c := by
  unfold resolveI at h
  split at h
  · exact ((joinI_spec (good_filter ga _) fun x hx => gb.2 x (List.mem_filter.1 hx).1).1 c h).1
  · cases h
theorem resolve_eqG {a b : List Int} (v : Int) (ga : Good a) (gb : Good b) : resolveP a b v = resolveI a b v := by
  rw [resolveP, resolveI, filter_eq ga, filter_eq gb, join_clause (good_filter ga _) (good_filter gb _)]
theorem resolveG_ok (a b : List Int) (v : Int) (ga : Good a) (gb : Good b) :
    Ctr Tryz.prog 105 [.ints a, .ints b, .int .i64 v] false (.tup [.sl 0, .d (.bool (resolveI a b v).isSome)]) [(0, .arr 3 1 ((optL (resolveI a b v)).map (.int .i64)))] := by
  have h1 := good_len ga; have h2 := good_len gb
  rw [← resolve_eqG v ga gb]; exact resolve_okP a b v (by omega) (by omega)
/-- The clause that a step puts, if it puts one. -/
def pickS (v : Int) (cs now : List (List Int)) (s : SStep) : Option (List Int) :=
  if s.k = 1 then if (0 ≤ s.a ∧ s.a ≤ (cs.length : Int) - 1) ∧ s.b = 0 ∧ s.p = 0 then some (cs.getD s.a.toNat []) else none
  else if s.k = 2 ∧ (0 ≤ s.a ∧ s.a ≤ (now.length : Int) - 1) ∧ (0 ≤ s.b ∧ s.b ≤ (now.length : Int) - 1) ∧ (1 ≤ s.p ∧ s.p ≤ v) then resolveI (now.getD s.a.toNat []) (now.getD s.b.toNat []) s.p
  else none
def cutS (now : List (List Int)) (a : Nat) : List (List Int) := now.take a ++ now.drop (a + 1)
/-- The configuration with a clause. -/
def withS (now : List (List Int)) (o : Option (List Int)) : Option (List (List Int)) :=
  match o with
  | some c => if c ∈ now then none else some (insI now c)
  | none => none
def nextS (v : Int) (cs now : List (List Int)) (s : SStep) : Option (List (List Int)) :=
  if s.k = 3 then if (0 ≤ s.a ∧ s.a ≤ (now.length : Int) - 1) ∧ s.b = 0 ∧ s.p = 0 then some (cutS now s.a.toNat) else none
  else withS now (pickS v cs now s)
/-- What a configuration must be. -/
structure Cfg (now : List (List Int)) (n : Nat) : Prop where
  srt : Srt now
  ok : ∀ c ∈ now, Good c
  len : now.length ≤ n
theorem cfg_nil (n : Nat) : Cfg [] n := ⟨⟨List.Pairwise.nil, by simp⟩, by simp, Nat.zero_le _⟩
theorem Cfg.get {now : List (List Int)} {n : Nat} (h : Cfg now n) (i : Nat) : Good (now.getD i []) := by
  by_cases hi : i < now.length
  · exact h.ok _ (getD_mem hi)
  · rw [List.getD_eq_getElem?_getD, List.getElem?_eq_none (by omega)]; exact good_nil
theorem Cfg.glen {now : List (List Int)} {n : Nat} (h : Cfg now n) (i : Nat) : (now.getD i []).length ≤ 12 := good_len (h.get i)
theorem pick_good {v : Int} {cs now : List (List Int)} {s : SStep} {c : List Int} {n : Nat} (hcs : ∀ c ∈ cs, Good c) (hn : Cfg now n) (h : pickS v cs now s = some c) : Good c := by
  unfold pickS at h
  split at h
  · split at h
    · rename_i h1
      cases h
      exact hcs _ (getD_mem (by omega))
    · cases h
  · split at h
    · exact resI_good (hn.get _) (hn.get _) h
    · cases h
theorem insI_len (list : List (List Int)) (c : List Int) : (insI list c).length ≤ list.length + 1 := by
  unfold insI
  split
  · omega
  · simp; omega
theorem cfg_ins {now : List (List Int)} {c : List Int} {n : Nat} (hn : Cfg now n) (g : Good c) : Cfg (insI now c) (n + 1) := by
  have h := insI_srt hn.srt (good_sm g)
  refine ⟨h.1, fun x hx => ?_, by have := insI_len now c; have := hn.len; omega⟩
  rcases (h.2 x).1 hx with rfl | hx
  · exact g
  · exact hn.ok x hx
theorem cutS_sub (now : List (List Int)) (a : Nat) : (cutS now a).Sublist now := by
  unfold cutS
  conv => rhs; rw [← List.take_append_drop a now]
  exact List.Sublist.append (List.Sublist.refl _) (List.drop_sublist_drop_left now (by omega))
theorem cfg_cut {now : List (List Int)} {n : Nat} (hn : Cfg now n) (a : Nat) : Cfg (cutS now a) n := by
  have hs := cutS_sub now a
  exact ⟨⟨hn.srt.1.sublist hs, fun x hx => hn.srt.2 x (hs.subset hx)⟩, fun x hx => hn.ok x (hs.subset hx), Nat.le_trans hs.length_le hn.len⟩
theorem cfg_next {v : Int} {cs now now' : List (List Int)} {s : SStep} {n : Nat} (hcs : ∀ c ∈ cs, Good c) (hn : Cfg now n) (h : nextS v cs now s = some now') : Cfg now' (n + 1) := by
  unfold nextS at h
  split at h
  · split at h
    · cases h
      have := cfg_cut hn s.a.toNat
      exact ⟨this.srt, this.ok, by have := this.len; omega⟩
    · cases h
  · unfold withS at h
    split at h
    · rename_i c hc
      split at h
      · cases h
      · cases h
        exact cfg_ins hn (pick_good hcs hn hc)
    · cases h
/-- The reference's step: what it leaves, the clause, whether it is possible. -/
def stepN (v : Int) (cs now : List (List Int)) (s : SStep) : List (List Int) :=
  if s.k ≠ 1 ∧ s.k = 3 ∧ (0 ≤ s.a ∧ s.a ≤ (now.length : Int) - 1) then cutS now s.a.toNat else (nextS v cs now s).getD []
def stepC (v : Int) (cs now : List (List Int)) (s : SStep) : List Int :=
  if s.k = 3 ∨ (nextS v cs now s).isNone then [] else (pickS v cs now s).getD []
theorem stepN_some {v : Int} {cs now now' : List (List Int)} {s : SStep} (h : nextS v cs now s = some now') : stepN v cs now s = now' := by
  unfold stepN
  split
  · rename_i h1
    unfold nextS at h
    rw [if_pos h1.2.1] at h
    split at h
    · cases h; rfl
    · cases h
  · rw [h]; rfl
structure RunW where
  now : List (List Int)
  most : Int
  all : List (List Int)
  ok : Bool
def runStep (v : Int) (cs : List (List Int)) (w : RunW) (s : SStep) : RunW :=
  { now := stepN v cs w.now s, most := max w.most (stepN v cs w.now s).length,
    all := if (nextS v cs w.now s).isSome = true ∧ s.k ≠ 3 then insI w.all (stepC v cs w.now s) else w.all, ok := (nextS v cs w.now s).isSome }
def runL (v : Int) (cs : List (List Int)) : RunW → List SStep → RunW
  | w, [] => w
  | w, s :: r => if w.ok then runL v cs (runStep v cs w s) r else w
/-- The configurations of a run. -/
def cfgL (v : Int) (cs : List (List Int)) : List (List Int) → List SStep → Option (List (List (List Int)))
  | now, [] => some [now]
  | now, s :: r => match nextS v cs now s with
    | some n => (cfgL v cs n r).map (now :: ·)
    | none => none
def spaceL (m : Int) (l : List (List (List Int))) : Int := l.foldl (fun m x => max m x.length) m
/-- Both ways to run are one. -/
theorem run_cfg {v : Int} {cs : List (List Int)} : ∀ (steps : List SStep) (w : RunW), w.ok = true → (w.now.length : Int) ≤ w.most →
    ((runL v cs w steps).ok = true ↔ (cfgL v cs w.now steps).isSome = true) ∧
    ∀ l, cfgL v cs w.now steps = some l → (runL v cs w steps).most = spaceL w.most l ∧ l.getLast? = some (runL v cs w steps).now
  | [], w, hw, hm => by
    refine ⟨by simp [runL, cfgL, hw], fun l hl => ?_⟩
    cases hl
    refine ⟨?_, rfl⟩
    simp [runL, spaceL]; omega
  | s :: r, w, hw, hm => by
    rw [runL, if_pos hw, cfgL]
    cases hn : nextS v cs w.now s with
    | none =>
      have hf : (runStep v cs w s).ok = false := by simp [runStep, hn]
      have hr : runL v cs (runStep v cs w s) r = runStep v cs w s := by
        cases r with
        | nil => rfl
        | cons t r => rw [runL, hf]; rfl
      rw [hr, hf]
      exact ⟨by simp, fun l hl => by cases hl⟩
    | some n =>
      have hs := stepN_some hn
      have h1 : (runStep v cs w s).ok = true := by simp [runStep, hn]
      have h2 : (runStep v cs w s).now = n := hs
      have h3 : (runStep v cs w s).most = max w.most n.length := by simp [runStep, hs]
      have ih := run_cfg (v := v) (cs := cs) r (runStep v cs w s) h1 (by rw [h2, h3]; omega)
      rw [h2] at ih
      refine ⟨?_, fun l hl => ?_⟩
      · rw [ih.1]; show _ ↔ (Option.map _ (cfgL v cs n r)).isSome = true; rw [Option.isSome_map]
      · cases hc : cfgL v cs n r with
        | none => simp [hc] at hl
        | some l' =>
          simp only [hc, Option.map_some, Option.some.injEq] at hl
          subst hl
          obtain ⟨g1, g2⟩ := ih.2 l' hc
          refine ⟨?_, ?_⟩
          · rw [g1, h3]
            have : max w.most (w.now.length : Int) = w.most := by omega
            -- the next configuration stands first in l'
            have hhd : ∃ t, l' = n :: t := by
              cases r with
              | nil => simp [cfgL] at hc; exact ⟨[], hc.symm⟩
              | cons t r =>
                rw [cfgL] at hc
                split at hc
                · obtain ⟨q, _, hq⟩ := Option.map_eq_some_iff.1 hc
                  exact ⟨q, hq.symm⟩
                · cases hc
            obtain ⟨t, rfl⟩ := hhd
            simp only [spaceL, List.foldl_cons, this]
            congr 1
            omega
          · cases l' with
            | nil => simp at g2
            | cons a t => simpa using g2
end Abs.Y
