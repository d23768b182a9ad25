/- What functions of this program compute, as contracts over plain data, with what the proofs need of them. No condition. -/
import Derived.Test.YtcpflbfcglcjfaaU12
set_option linter.all false
namespace Abs.Y
open Go Go.Proofs Abs
open Nat renaming reduceEqDiff -> Qa, reduceLT -> Qb, reduceAdd -> Qc, reduceMul -> Qd, reduceSub -> Qe, reduceLeDiff -> Qf, reduceSubDiff -> Qg, reduceBEq -> Qh
open Bool renaming not_eq_true' -> Ba, not_eq_false' -> Bb, and_eq_true -> Bc, or_eq_true -> Bd, or_eq_false_iff -> Be
open Int renaming ofNat_lt -> Ia, ofNat_le -> Ib, not_lt -> Ic, not_le -> Ie
open Decidable renaming not_not -> Da
set_option maxRecDepth 100000

theorem fndS_mem {w : Wrk} {width : Nat} (hw : ∀ i, G6 (w.list.getD i [])) {f : Fnd} (h : FOK f) {ia ib v : Nat} (hv : 1 <= v) (c : List Int) :
 c ∈ (fndS w width ia ib f v).so ↔ c ∈ f.so ∨ (resolveI (w.list.getD ia []) (w.list.getD ib []) (v : Int) = some c ∧ c.length <= width ∧ c ∉ w.so) := by
 unfold fndS
 cases hr : resolveI (w.list.getD ia []) (w.list.getD ib []) (v : Int) with
 | none => simp
 | some d =>
   have gd := (resolveI_some (hw ia) (hw ib) (by omega) hr).2.2.2.1
   simp only [Option.some.injEq]
   split
   . rename_i hif
     simp only [(insI_srt h.so (g6_sm gd)).2 c]
     constructor
     . rintro (rfl | hc)
       . exact .inr ⟨rfl, hif.1, hif.2.1⟩
       . exact .inl hc
     . rintro (hc | ⟨rfl, _⟩)
       . exact .inr hc
       . exact .inl rfl
   . rename_i hif
     constructor
     . exact .inl
     . rintro (hc | ⟨rfl, h1, h2⟩)
       . exact hc
       . exact Classical.byContradiction fun hn => hif ⟨h1, h2, hn⟩
def PairC (w : Wrk) (width vars : Nat) (ia ib : Nat) (c : List Int) : Prop := (∃ v : Nat, 1 <= v ∧ v <= vars ∧ resolveI (w.list.getD ia []) (w.list.getD ib []) (v : Int) = some c) ∧ c.length <= width ∧ c ∉ w.so
section
variable {w : Wrk} {width vars : Nat} {round : Int} {o : List Nat}
theorem fndV_mem (hw : ∀ i, G6 (w.list.getD i [])) {f : Fnd} (h : FOK f) (ia ib : Nat) (c : List Int) : ∀ n, c ∈ (fndV w width ia ib f n).so ↔ c ∈ f.so ∨ PairC w width n ia ib c
 | 0 => by
   constructor
   . exact .inl
   . rintro (hc | ⟨⟨v, h1, h2, _⟩, _⟩)
     . exact hc
     . omega
 | n + 1 => by
   rw [fndV, fndS_mem hw (FOK.stepV hw h ia ib n) (by omega), fndV_mem hw h ia ib c n]
   constructor
   . rintro ((hc | ⟨⟨v, h1, h2, h3⟩, h4⟩) | ⟨h3, h4⟩)
     . exact .inl hc
     . exact .inr ⟨⟨v, h1, by omega, h3⟩, h4⟩
     . exact .inr ⟨⟨n + 1, by omega, by omega, h3⟩, h4⟩
   . rintro (hc | ⟨⟨v, h1, h2, h3⟩, h4⟩)
     . exact .inl (.inl hc)
     . by_cases e : v = n + 1
       . subst e; exact .inr ⟨h3, h4⟩
       . exact .inl (.inr ⟨⟨v, h1, by omega, h3⟩, h4⟩)
theorem fndB_mem (hw : ∀ i, G6 (w.list.getD i [])) {f : Fnd} (h : FOK f) (ia : Nat) (c : List Int) : ∀ n, c ∈ (fndB w width vars round o ia f n).so ↔ c ∈ f.so ∨ ∃ b, b < n ∧ (oldW w round ia && oldW w round (o.getD b 0)) = false ∧ PairC w width vars ia (o.getD b 0) c
 | 0 => by
   constructor
   . exact .inl
   . rintro (hc | ⟨b, hb, _⟩)
     . exact hc
     . omega
 | n + 1 => by
   rw [fndB]
   have ih := fndB_mem hw h ia c n
   split
   . rename_i ho
     rw [ih]
     constructor
     . rintro (hc | ⟨b, hb, h2⟩)
       . exact .inl hc
       . exact .inr ⟨b, by omega, h2⟩
     . rintro (hc | ⟨b, hb, h2, h3⟩)
       . exact .inl hc
       . by_cases e : b = n
         . subst e; rw [ho] at h2; cases h2
         . exact .inr ⟨b, by omega, h2, h3⟩
   . rename_i ho
     rw [fndV_mem hw (FOK.stepB hw h ia n), ih]
     constructor
     . rintro ((hc | ⟨b, hb, h2⟩) | hp)
       . exact .inl hc
       . exact .inr ⟨b, by omega, h2⟩
       . exact .inr ⟨n, by omega, by simpa using ho, hp⟩
     . rintro (hc | ⟨b, hb, h2, h3⟩)
       . exact .inl (.inl hc)
       . by_cases e : b = n
         . subst e; exact .inr h3
         . exact .inl (.inr ⟨b, by omega, h2, h3⟩)
theorem fndA_mem (hw : ∀ i, G6 (w.list.getD i [])) (c : List Int) : ∀ n, c ∈ (fndA w width vars round o n).so ↔ ∃ a b, a < n ∧ b < o.length ∧ (oldW w round (o.getD a 0) && oldW w round (o.getD b 0)) = false ∧ PairC w width vars (o.getD a 0) (o.getD b 0) c
 | 0 => by
   constructor
   . intro h; simp [fndA] at h
   . rintro ⟨a, b, ha, _⟩; omega
 | n + 1 => by
   rw [fndA, fndB_mem hw (FOK.stepA hw n), fndA_mem hw c n]
   constructor
   . rintro (⟨a, b, ha, h2⟩ | ⟨b, h2⟩)
     . exact ⟨a, b, by omega, h2⟩
     . exact ⟨n, b, by omega, h2⟩
   . rintro ⟨a, b, ha, h2⟩
     by_cases e : a = n
     . subst e; exact .inr ⟨b, h2⟩
     . exact .inl ⟨a, b, by omega, h2⟩
theorem fndR_mem (hw : WOK w) (c : List Int) : c ∈ (fndR w width vars round).so ↔ ∃ i j, i < w.list.length ∧ j < w.list.length ∧ (oldW w round i && oldW w round j) = false ∧ PairC w width vars i j c := by
 have hp := (ord_all (fun x hx => g6_sm (hw.g6 x hx)) hw.nd w.list.length (Nat.le_refl _)).2
 rw [fndR, fndA_mem hw.getD]
 generalize ordI w.list w.list.length = o at *
 have get : ∀ i, i < w.list.length -> ∃ a, a < o.length ∧ o.getD a 0 = i := fun i hi => by
  obtain ⟨a, ha, e⟩ := List.getElem_of_mem (hp.mem_iff.2 (List.mem_range.2 hi))
  exact ⟨a, ha, by rw [List.getD_eq_getElem?_getD, List.getElem?_eq_getElem ha, Option.getD_some, e]⟩
 have lt : ∀ a, a < o.length -> o.getD a 0 < w.list.length := fun a ha => List.mem_range.1 (hp.mem_iff.1 (getD_mem (z := 0) ha))
 constructor
 . rintro ⟨a, b, ha, hb, h⟩
   exact ⟨_, _, lt a ha, lt b hb, h⟩
 . rintro ⟨i, j, hi, hj, h⟩
   obtain ⟨a, ha, rfl⟩ := get i hi
   obtain ⟨b, hb, rfl⟩ := get j hj
   exact ⟨a, b, ha, hb, h⟩
end
theorem foldl_ins : ∀ {m l : List (List Int)}, Srt l -> (∀ x ∈ m, Sm x) -> Srt (m.foldl insI l) ∧ ∀ c, c ∈ m.foldl insI l ↔ c ∈ l ∨ c ∈ m
 | [], l, hs, _ => ⟨hs, fun c => by simp⟩
 | x :: m, l, hs, hm => by
   obtain ⟨g1, g2⟩ := insI_srt hs (hm x (by simp))
   obtain ⟨h1, h2⟩ := foldl_ins (m := m) g1 (fun y hy => hm y (by simp [hy]))
   refine ⟨h1, fun c => ?_⟩
   rw [List.foldl_cons, h2, g2, List.mem_cons]
   constructor
   . rintro ((h | h) | h)
     . exact .inr (.inl h)
     . exact .inl h
     . exact .inr (.inr h)
   . rintro (h | h | h)
     . exact .inl (.inr h)
     . exact .inl (.inl h)
     . exact .inr h
theorem WOK.fok {w : Wrk} (hw : WOK w) {width vars : Nat} {round : Int} : FOK (fndR w width vars round) := FOK.stepA hw.getD _
theorem WOK.round {w : Wrk} (hw : WOK w) {width vars : Nat} {round : Int} : WOK (roundI w width vars round) := by
 have hf : FOK (fndR w width vars round) := hw.fok
 have hm := fun c => fndR_mem (width := width) (vars := vars) (round := round) hw c
 unfold roundI
 generalize fndR w width vars round = f at *
 obtain ⟨s1, s2⟩ := foldl_ins (m := f.so) hw.so (fun x hx => g6_sm (hf.g6 x hx))
 refine ⟨?_, fun c hc => ?_, s1, fun c => ?_, ?_, ?_, ?_, ?_⟩
 . simp only
   rw [List.nodup_append]
   refine ⟨hw.nd, srt_nodup hf.so, fun a ha b hb e => ?_⟩
   subst e
   obtain ⟨_, _, _, _, _, h⟩ := (hm a).1 hb
   exact h.2.2 ((hw.mem a).2 ha)
 . rcases List.mem_append.1 hc with hc | hc
   . exact hw.g6 c hc
   . exact hf.g6 c hc
 . simp only
   rw [s2, List.mem_append, hw.mem]
 . simp only [List.length_append, List.length_replicate, hw.rd]
 . simp only [List.length_append, hw.lf, hf.lf]
 . simp only [List.length_append, hw.rt, hf.rt]
 . simp only [List.length_append, hw.pv, hf.pv]
def Below (n : Nat) (c : List Int) : Prop := ∀ x ∈ c, x.natAbs <= n
theorem cl_below {cs : List (List Int)} {w n : Nat} (hg : ∀ c ∈ cs, G6 c) (hb : ∀ c ∈ cs, Below n c) : ∀ r c, Cl cs w r c -> Below n c
 | 0, c, hc => hb c hc.1
 | r + 1, c, hc => by
   rcases hc with hc | ⟨_, a, b, v, hv, ha, hb', hr⟩
   . exact cl_below hg hb r c hc
   . intro x hx
     have h := (resolveI_some (cl_g6 hg r a ha) (cl_g6 hg r b hb') hv hr).2.2.2.2.1 x
     rcases (h.1 hx).1 with hx | hx
     . exact cl_below hg hb r a ha x hx
     . exact cl_below hg hb r b hb' x hx
structure InvW (cs : List (List Int)) (w r : Nat) (W : Wrk) : Prop where
 ok : WOK W
 mem : ∀ c, c ∈ W.list ↔ Cl cs w r c
 rd : ∀ i, i < W.list.length -> ∃ k : Nat, W.rd.getD i 0 = (k : Int) ∧ k <= r ∧ NewC cs w k (W.list.getD i [])
section
variable {cs : List (List Int)} {w vars r : Nat} {W : Wrk}
theorem InvW.new (hg : ∀ c ∈ cs, G6 c) (hb : ∀ c ∈ cs, Below vars c) (h : InvW cs w r W) (c : List Int) : c ∈ (fndR W w vars ((r + 1 : Nat) : Int)).so ↔ NewC cs w (r + 1) c := by
 rw [fndR_mem h.ok]
 constructor
 . rintro ⟨i, j, hi, hj, _, ⟨v, hv, _, hr⟩, hl, hn⟩
   have ca := (h.mem _).1 (getD_mem (z := ([] : List Int)) hi)
   have cb := (h.mem _).1 (getD_mem (z := ([] : List Int)) hj)
   exact ⟨.inr ⟨hl, _, _, (v : Int), by omega, ca, cb, hr⟩, fun hc => hn ((h.ok.mem c).2 ((h.mem c).2 hc))⟩
 . rintro ⟨hc, hn⟩
   rcases hc with hc | ⟨hl, a, b, v, hv, ca, cb, hr⟩
   . exact absurd hc hn
   . have hva := (resolveI_some (cl_g6 hg r a ca) (cl_g6 hg r b cb) hv hr).2.1
     have hvb := cl_below hg hb r a ca v hva
     have get : ∀ {x}, Cl cs w r x -> ∃ i, i < W.list.length ∧ W.list.getD i [] = x := fun {x} hx => by
      obtain ⟨i, hi, e⟩ := List.getElem_of_mem ((h.mem x).2 hx)
      exact ⟨i, hi, by rw [List.getD_eq_getElem?_getD, List.getElem?_eq_getElem hi, Option.getD_some, e]⟩
     obtain ⟨i, hi, ei⟩ := get ca
     obtain ⟨j, hj, ej⟩ := get cb
     refine ⟨i, j, hi, hj, ?_, ⟨v.toNat, by omega, by omega, by rw [ei, ej, Int.toNat_of_nonneg (by omega)]; exact hr⟩, hl, fun hs => hn ((h.mem c).1 ((h.ok.mem c).1 hs))⟩
     rw [Bool.eq_false_iff]
     intro ho
     simp only [oldW, Bc, decide_eq_true_eq] at ho
     obtain ⟨k1, e1, _, n1⟩ := h.rd i hi
     obtain ⟨k2, e2, _, n2⟩ := h.rd j hj
     rw [ei] at n1
     rw [ej] at n2
     obtain ⟨s, rfl⟩ : ∃ s, r = s + 1 := ⟨r - 1, by omega⟩
     exact hn (.inr ⟨hl, a, b, v, hv, cl_mono (show k1 <= s by omega) (new_cl n1), cl_mono (show k2 <= s by omega) (new_cl n2), hr⟩)
theorem InvW.step (hg : ∀ c ∈ cs, G6 c) (hb : ∀ c ∈ cs, Below vars c) (h : InvW cs w r W) : InvW cs w (r + 1) (roundI W w vars ((r + 1 : Nat) : Int)) := by
 have hn := fun c => h.new hg hb (vars := vars) c
 refine ⟨h.ok.round, fun c => ?_, fun i hi => ?_⟩
 . rw [roundI]
   simp only
   rw [List.mem_append, h.mem, hn]
   constructor
   . rintro (h1 | h1)
     . exact .inl h1
     . exact h1.1
   . intro h1
     by_cases h2 : Cl cs w r c
     . exact .inl h2
     . exact .inr ⟨h1, h2⟩
 . rw [roundI] at hi ⊢
   simp only [List.length_append] at hi ⊢
   have hrd := h.ok.rd
   rw [getD_app, getD_app, hrd]
   by_cases hl : i < W.list.length
   . rw [if_pos hl, if_pos hl]
     obtain ⟨k, h1, h2, h3⟩ := h.rd i hl
     exact ⟨k, h1, by omega, h3⟩
   . rw [if_neg hl, if_neg hl]
     refine ⟨r + 1, ?_, Nat.le_refl _, (hn _).1 (getD_mem (by omega))⟩
     rw [List.getD_eq_getElem?_getD, List.getElem?_replicate, if_pos (by omega), Option.getD_some]
end
def firstC (cs : List (List Int)) (w : Nat) : List (List Int) := (cs.filter fun c => decide (c.length <= w)).foldl insI []
def startW (cs : List (List Int)) (w : Nat) : Wrk :=
 ⟨firstC cs w, List.replicate (firstC cs w).length 0, List.replicate (firstC cs w).length (-1), List.replicate (firstC cs w).length (-1), List.replicate (firstC cs w).length 0, firstC cs w⟩
def itW (cs : List (List Int)) (w vars : Nat) : Nat -> Wrk
 | 0 => startW cs w
 | r + 1 => roundI (itW cs w vars r) w vars ((r + 1 : Nat) : Int)
section
variable {cs : List (List Int)} {w vars : Nat}
theorem firstC_ok (hg : ∀ c ∈ cs, G6 c) : Srt (firstC cs w) ∧ ∀ c, c ∈ firstC cs w ↔ Cl cs w 0 c := by
 obtain ⟨h1, h2⟩ := foldl_ins (l := []) (m := cs.filter fun c => decide (c.length <= w)) ⟨List.Pairwise.nil, fun x hx => nomatch hx⟩ (fun x hx => g6_sm (hg x (List.mem_filter.1 hx).1))
 refine ⟨h1, fun c => ?_⟩
 rw [firstC, h2]
 simp [Cl, List.mem_filter]
theorem startW_inv (hg : ∀ c ∈ cs, G6 c) : InvW cs w 0 (startW cs w) := by
 obtain ⟨h1, h2⟩ := firstC_ok (w := w) hg
 refine ⟨⟨srt_nodup h1, fun c hc => hg c ((h2 c).1 hc).1, h1, fun c => Iff.rfl, ?_, ?_, ?_, ?_⟩, h2, fun i hi => ⟨0, ?_, Nat.le_refl _, (h2 _).1 (getD_mem hi)⟩⟩
 . simp [startW]
 . simp [startW]
 . simp [startW]
 . simp [startW]
 . simp only [startW] at hi ⊢
   rw [List.getD_eq_getElem?_getD, List.getElem?_replicate, if_pos hi, Option.getD_some]
   rfl
theorem itW_inv (hg : ∀ c ∈ cs, G6 c) (hb : ∀ c ∈ cs, Below vars c) : ∀ r, InvW cs w r (itW cs w vars r)
 | 0 => startW_inv hg
 | r + 1 => (itW_inv hg hb r).step hg hb
structure FinW (cs : List (List Int)) (w vars : Nat) (W : Wrk) (r : Nat) : Prop where
 eq : W = itW cs w vars (r + 1)
 inv : InvW cs w r W
 stop : ∀ c, ¬ NewC cs w (r + 1) c
 fresh : ∀ k, k < r -> (fndR (itW cs w vars k) w vars ((k + 1 : Nat) : Int)).so ≠ []
theorem finW_of {r : Nat} (hg : ∀ c ∈ cs, G6 c) (hb : ∀ c ∈ cs, Below vars c) (hs : (fndR (itW cs w vars r) w vars ((r + 1 : Nat) : Int)).so = []) (hf : ∀ k, k < r -> (fndR (itW cs w vars k) w vars ((k + 1 : Nat) : Int)).so ≠ []) : FinW cs w vars (itW cs w vars (r + 1)) r := by
 have hI := itW_inv (w := w) hg hb r
 have hI2 := itW_inv (w := w) hg hb (r + 1)
 have hst : ∀ c, ¬ NewC cs w (r + 1) c := fun c hc => by
  have := (hI.new hg hb c).2 hc
  rw [hs] at this
  cases this
 refine ⟨rfl, ⟨hI2.ok, fun c => ?_, fun i hi => ?_⟩, hst, hf⟩
 . rw [hI2.mem]
   constructor
   . intro hc
     exact Classical.byContradiction fun hn => hst c ⟨hc, hn⟩
   . exact .inl
 . obtain ⟨k, h1, h2, h3⟩ := hI2.rd i hi
   refine ⟨k, h1, ?_, h3⟩
   apply Nat.le_of_not_lt
   intro hk
   obtain rfl : k = r + 1 := by omega
   exact hst _ h3
theorem itW_long (hg : ∀ c ∈ cs, G6 c) (hb : ∀ c ∈ cs, Below vars c) : ∀ r, (∀ k, k < r -> (fndR (itW cs w vars k) w vars ((k + 1 : Nat) : Int)).so ≠ []) -> r <= (itW cs w vars r).list.length
 | 0, _ => Nat.zero_le _
 | r + 1, h => by
   have ih := itW_long hg hb r fun k hk => h k (by omega)
   have := List.length_pos_iff.2 (h r (by omega))
   rw [itW, roundI]
   simp only [List.length_append]
   omega
theorem itW_le (hg : ∀ c ∈ cs, G6 c) (hb : ∀ c ∈ cs, Below vars c) {r : Nat} (h : ∀ k, k < r -> (fndR (itW cs w vars k) w vars ((k + 1 : Nat) : Int)).so ≠ []) : r <= 4096 :=
 Nat.le_trans (itW_long hg hb r h) (itW_inv (w := w) hg hb r).ok.len
theorem FinW.clo {W : Wrk} {r : Nat} (h : FinW cs w vars W r) (c : List Int) : c ∈ W.list ↔ CloS cs w c := by
 rw [h.inv.mem]
 constructor
 . intro hc
   obtain ⟨k, _, hk⟩ := cl_new hc
   exact ⟨k, hk⟩
 . rintro ⟨k, hk⟩
   by_cases hkr : k <= r
   . exact cl_mono hkr (new_cl hk)
   . exact absurd hk (new_stop h.stop k c (by omega))
theorem FinW.so {W : Wrk} {r : Nat} (h : FinW cs w vars W r) : W.so = closV cs w := (srtV_eq h.inv.ok.so fun c => by rw [h.inv.ok.mem, h.clo]).symm
end
end Abs.Y
