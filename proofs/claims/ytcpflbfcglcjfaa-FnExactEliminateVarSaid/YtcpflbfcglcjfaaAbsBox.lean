/- What functions of this program compute, as contracts over plain data, with what the proofs need of them. No condition. -/
import Derived.Test.YtcpflbfcglcjfaaE1
import Derived.Test.YtcpflbfcglcjfaaW1
import Derived.Test.YtcpflbfcglcjfaaChecked
import Derived.Shelf.SlSortCmp.Whole1
import Derived.Ground.SlsfProg
import Derived.Test.YtcpflbfcglcjfaaL2
set_option linter.all false
namespace Abs.Y
open Go Go.Proofs Abs
open Nat renaming reduceEqDiff -> Qa, reduceLT -> Qb, reduceAdd -> Qc, reduceMul -> Qd, reduceSub -> Qe, reduceLeDiff -> Qf, reduceSubDiff -> Qg, reduceBEq -> Qh
open Bool renaming not_eq_true' -> Ba, not_eq_false' -> Bb, and_eq_true -> Bc, or_eq_true -> Bd, or_eq_false_iff -> Be
open Int renaming ofNat_lt -> Ia, ofNat_le -> Ib, not_lt -> Ic, not_le -> Ie
open Decidable renaming not_not -> Da
set_option maxRecDepth 100000

structure At (list : List (List Int)) (c : List Int) (k : Nat) : Prop where
 le : k <= list.length
 lo : ∀ j, j < k -> befI (list.getD j []) c = true
 hi : ∀ j, k <= j -> j < list.length -> befI (list.getD j []) c = false
set_option maxHeartbeats 4000000 in
theorem l2Place_ok (list : List (List Int)) (c : List Int) (k : Nat) (hl : list.length <= 4294967296) (hc : c.length <= 4294967296) (sc : Sm c) (hx : ∀ x ∈ list, x.length <= 4294967296 ∧ Sm x) (hk : At list c k) :
 Ctr Try.prog 183 [.slice (list.map D.ints), .ints c] false (.d (.int .i64 (k : Nat))) [] := by
 refine Ctr.of (n := 27) (rs := [.tmp 4]) Try.func183 rfl rfl Try.ntmps183 rfl rfl (by kernel_rfl) Try.checked.mixed ?_
 simp (disch := first | omega | decide +kernel) only [go_sem, Qa, Qb, Qc, Qd, Qe, ↓reduceIte, reduceCtorEq, Qf, Qg, Qh]
 (repeat' (first | ((first | (refine gsel_split (fun q' => ?_) (fun q' => ?_) <;> (have h' := q') <;> (try simp only [za1, za2, Ba, Bb, za3, ne_eq, za4, za5, za6, Ia, Ib, Ic, Ie, Da, Bc, Bd, Be, za7, za8] at h')) | (have q' := trivial; first | refine hE _ _ ret_ne ?_ | refine hE _ _ exit_ne ?_)) <;> (try simp (disch := first | omega | decide +kernel) only [q', go_sem, Qa, Qb, Qc, Qd, Qe, ↓reduceIte, reduceCtorEq, Qf, Qg, Qh]) <;> clear q') | refine hN _ ?_ ?_ Wk.kk | with_reducible refine And.intro ?_ ?_ | with_reducible omega | exact ok_ints | exact cells_ints | exact no_mem | with_reducible exact plain_ints | (refine le_maxLen ?_; omega) | (refine za9 ⟨?_, ?_⟩) | (simp only [go_sem, Qc, Qb, zb1, zb2, forall_eq]; done)))
 refine Ok.loopU [25, 24, 23, 22, 21, 20, 19, 18, 17, 16, 15, 14, 13, 12, 11, 10, 9, 8, 7, 6, 5, 3, 2] (fun (p : Nat × Nat) => [(5, .d (.int .i64 (p.1 : Nat))), (6, .d (.int .i64 (p.2 : Nat)))]) (fun _ => []) (fun n p => n = p.2 - p.1 ∧ p.1 <= k ∧ k <= p.2 ∧ p.2 <= list.length) list.length (0, list.length)
  ⟨by simp, by simp, hk.le, Nat.le_refl _⟩ (Wk.kk) ?_
 rintro R n ⟨f, t⟩ hN hE ⟨hn, h1, h2, h3⟩
 simp only at hn h1 h2 h3
 have hm : ((f : Int) + (t : Int)).tdiv 2 = (((f + t) / 2 : Nat) : Int) := by rw [Int.tdiv_eq_ediv_of_nonneg (by omega)]; omega
 have hmt : ((((f + t) / 2 : Nat) : Int)).toNat = (f + t) / 2 := by omega
 by_cases hlt : f < t
 . have hml : (f + t) / 2 < list.length := by omega
   have hx1 := hx _ (getD_mem (z := ([] : List Int)) hml)
   have c1 := l2Before_ok (list.getD ((f + t) / 2) []) c hx1.1 hc hx1.2 sc
   simp (disch := first | omega | decide +kernel) only [hm, go_sem, Qa, Qb, Qc, Qd, Qe, ↓reduceIte, reduceCtorEq, Qf, Qg, Qh]
   (repeat' (first | ((first | (refine gsel_split (fun q' => ?_) (fun q' => ?_) <;> (have h' := q') <;> (try simp only [za1, za2, Ba, Bb, za3, ne_eq, za4, za5, za6, Ia, Ib, Ic, Ie, Da, Bc, Bd, Be, za7, za8] at h')) | (have q' := trivial; first | refine callX_new (c1) rfl (by decide) ?_ | refine callY_new (c1) rfl ?_ | refine hE _ _ ret_ne ?_ | refine hE _ _ exit_ne ?_)) <;> (try simp (disch := first | omega | decide +kernel) only [q', hm, hmt, go_sem, Qa, Qb, Qc, Qd, Qe, ↓reduceIte, reduceCtorEq, Qf, Qg, Qh]) <;> clear q') | refine hN _ ?_ ?_ Wk.kk | with_reducible refine And.intro ?_ ?_ | with_reducible omega | exact ok_ints | exact cells_ints | exact no_mem | with_reducible exact plain_ints | (refine le_maxLen ?_; omega) | (refine za9 ⟨?_, ?_⟩) | (simp only [go_sem, Qc, Qb, zb1, zb2, forall_eq]; done)))
   . have hkm : (f + t) / 2 < k := by
      apply Nat.lt_of_not_le
      intro h
      rw [hk.hi _ h hml] at h'
      cases h'
     exact hN (t - ((f + t) / 2 + 1)) ((f + t) / 2 + 1, t) _ (by omega) ⟨rfl, hkm, h2, h3⟩ (Wk.kk)
   . have hkm : k <= (f + t) / 2 := by
      apply Nat.le_of_not_lt
      intro h
      rw [hk.lo _ h] at h'
      cases h'
     exact hN ((f + t) / 2 - f) (f, (f + t) / 2) _ (by omega) ⟨rfl, h1, hkm, by omega⟩ (Wk.kk)
 . simp (disch := first | omega | decide +kernel) only [hm, go_sem, Qa, Qb, Qc, Qd, Qe, ↓reduceIte, reduceCtorEq, Qf, Qg, Qh]
   (repeat' (first | ((first | (refine gsel_split (fun q' => ?_) (fun q' => ?_) <;> (have h' := q') <;> (try simp only [za1, za2, Ba, Bb, za3, ne_eq, za4, za5, za6, Ia, Ib, Ic, Ie, Da, Bc, Bd, Be, za7, za8] at h')) | (have q' := trivial; first | refine hE _ _ ret_ne ?_ | refine hE _ _ exit_ne ?_)) <;> (try simp (disch := first | omega | decide +kernel) only [q', hm, hmt, go_sem, Qa, Qb, Qc, Qd, Qe, ↓reduceIte, reduceCtorEq, Qf, Qg, Qh]) <;> clear q') | refine hN _ ?_ ?_ Wk.kk | with_reducible refine And.intro ?_ ?_ | with_reducible omega | exact ok_ints | exact cells_ints | exact no_mem | with_reducible exact plain_ints | (refine le_maxLen ?_; omega) | (refine za9 ⟨?_, ?_⟩) | (simp only [go_sem, Qc, Qb, zb1, zb2, forall_eq]; done)))
   rw [show f = k by omega]
end Abs.Y

namespace Abs.Y
open Go Go.Proofs Abs
open Nat renaming reduceEqDiff -> Qa, reduceLT -> Qb, reduceAdd -> Qc, reduceMul -> Qd, reduceSub -> Qe, reduceLeDiff -> Qf, reduceSubDiff -> Qg, reduceBEq -> Qh
open Bool renaming not_eq_true' -> Ba, not_eq_false' -> Bb, and_eq_true -> Bc, or_eq_true -> Bd, or_eq_false_iff -> Be
open Int renaming ofNat_lt -> Ia, ofNat_le -> Ib, not_lt -> Ic, not_le -> Ie
open Decidable renaming not_not -> Da
set_option maxRecDepth 100000

def keyI (x : Int) : Int := if x < 0 then -2 * x + 1 else 2 * x
theorem keyI_inj {x y : Int} (h : keyI x = keyI y) : x = y := by
 unfold keyI at h
 split at h <;> split at h <;> omega
def lexB : List Int -> List Int -> Bool
 | x :: r, y :: s => decide (keyI x < keyI y) || (decide (x = y) && lexB r s)
 | _, _ => false
theorem lexI_B : ∀ {a b : List Int}, a.length = b.length -> Sm a -> Sm b -> ((lexI a b < 0) ↔ lexB a b = true)
 | [], [], _, _, _ => by simp [lexI, lexB]
 | x :: r, y :: s, hl, sa, sb => by
   have h := cmpLI_lt (sa x (by simp)) (sb y (by simp))
   have ih := lexI_B (a := r) (b := s) (by simpa using hl) (fun z hz => sa z (by simp [hz])) (fun z hz => sb z (by simp [hz]))
   rw [lexI, lexB, Bd, Bc, decide_eq_true_eq, decide_eq_true_eq]
   by_cases he : x = y
   . subst he
     rw [if_neg (by simpa using h.2.2 rfl), ih]
     constructor
     . exact fun h => .inr ⟨rfl, h⟩
     . rintro (h | h)
       . omega
       . exact h.2
   . rw [if_pos fun h0 => he (h.2.1 h0)]
     have h1 : cmpLI x y < 0 ↔ keyI x < keyI y := h.1
     rw [h1]
     constructor
     . exact .inl
     . rintro (h | h)
       . exact h
       . exact absurd h.1 he
 | [], _ :: _, hl, _, _ => by simp at hl
 | _ :: _, [], hl, _, _ => by simp at hl
theorem lexB_trans : ∀ {a b c : List Int}, lexB a b = true -> lexB b c = true -> lexB a c = true
 | x :: r, y :: s, z :: t, h1, h2 => by
   rw [lexB, Bd, Bc, decide_eq_true_eq, decide_eq_true_eq] at *
   rcases h1 with h1 | ⟨rfl, h1⟩ <;> rcases h2 with h2 | ⟨rfl, h2⟩
   . exact .inl (by omega)
   . exact .inl h1
   . exact .inl h2
   . exact .inr ⟨rfl, lexB_trans h1 h2⟩
 | [], _, _, h, _ => by simp [lexB] at h
 | _ :: _, [], _, h, _ => by simp [lexB] at h
 | _ :: _, _ :: _, [], _, h => by simp [lexB] at h
theorem lexB_total : ∀ {a b : List Int}, a.length = b.length -> lexB a b = true ∨ lexB b a = true ∨ a = b
 | [], [], _ => .inr (.inr rfl)
 | x :: r, y :: s, hl => by
   rw [lexB, lexB]
   simp only [Bd, Bc, decide_eq_true_eq]
   rcases Int.lt_trichotomy (keyI x) (keyI y) with h | h | h
   . exact .inl (.inl h)
   . obtain rfl := keyI_inj h
     rcases lexB_total (a := r) (b := s) (by simpa using hl) with h | h | h
     . exact .inl (.inr ⟨rfl, h⟩)
     . exact .inr (.inl (.inr ⟨rfl, h⟩))
     . exact .inr (.inr (by rw [h]))
   . exact .inr (.inl (.inl h))
 | [], _ :: _, hl => by simp at hl
 | _ :: _, [], hl => by simp at hl
theorem befI_iff {a b : List Int} (sa : Sm a) (sb : Sm b) : befI a b = true ↔ a.length < b.length ∨ (a.length = b.length ∧ lexB a b = true) := by
 by_cases h : (a.length : Int) = b.length
 . rw [befI_eq h, decide_eq_true_eq, lexI_B (by omega) sa sb]
   constructor
   . exact fun h' => .inr ⟨by omega, h'⟩
   . rintro (h' | h')
     . omega
     . exact h'.2
 . rw [befI_len h, decide_eq_true_eq]
   constructor
   . exact fun h' => .inl (by omega)
   . rintro (h' | h')
     . omega
     . omega
theorem bef_trans {a b c : List Int} (sa : Sm a) (sb : Sm b) (sc : Sm c) (h1 : befI a b = true) (h2 : befI b c = true) : befI a c = true := by
 rw [befI_iff sa sb] at h1
 rw [befI_iff sb sc] at h2
 rw [befI_iff sa sc]
 rcases h1 with h1 | h1 <;> rcases h2 with h2 | h2
 . exact .inl (by omega)
 . exact .inl (by omega)
 . exact .inl (by omega)
 . exact .inr ⟨by omega, lexB_trans h1.2 h2.2⟩
theorem bef_total {a b : List Int} (sa : Sm a) (sb : Sm b) : befI a b = true ∨ befI b a = true ∨ a = b := by
 rw [befI_iff sa sb, befI_iff sb sa]
 rcases Nat.lt_trichotomy a.length b.length with h | h | h
 . exact .inl (.inl h)
 . rcases lexB_total h with h' | h' | h'
   . exact .inl (.inr ⟨h, h'⟩)
   . exact .inr (.inl (.inr ⟨h.symm, h'⟩))
   . exact .inr (.inr h')
 . exact .inr (.inl (.inl h))
def Srt (l : List (List Int)) : Prop := l.Pairwise (fun a b => befI a b = true) ∧ ∀ x ∈ l, Sm x
theorem srt_uniq : ∀ {l1 l2 : List (List Int)}, Srt l1 -> Srt l2 -> (∀ x, x ∈ l1 ↔ x ∈ l2) -> l1 = l2
 | [], [], _, _, _ => rfl
 | [], y :: s, _, _, h => absurd ((h y).2 (by simp)) (by simp)
 | x :: r, [], _, _, h => absurd ((h x).1 (by simp)) (by simp)
 | x :: r, y :: s, g1, g2, h => by
   have p1 := List.pairwise_cons.1 g1.1
   have p2 := List.pairwise_cons.1 g2.1
   have sx := g1.2 x (by simp)
   have sy := g2.2 y (by simp)
   have no : ∀ {a b : List Int}, Sm a -> Sm b -> befI a b = true -> befI b a = true -> False := fun sa sb h1 h2 => by
    have := bef_trans sa sb sa h1 h2
    rw [befI_self sa] at this
    cases this
   have hxy : x = y := by
    rcases List.mem_cons.1 ((h x).1 (by simp)) with e | hx
    . exact e
    . rcases List.mem_cons.1 ((h y).2 (by simp)) with e | hy
      . exact e.symm
      . exact (no sy sx (p2.1 x hx) (p1.1 y hy)).elim
   subst hxy
   rw [srt_uniq (l1 := r) (l2 := s) ⟨p1.2, fun z hz => g1.2 z (by simp [hz])⟩ ⟨p2.2, fun z hz => g2.2 z (by simp [hz])⟩ fun z => ?_]
   constructor
   . intro hz
     rcases List.mem_cons.1 ((h z).1 (by simp [hz])) with rfl | h'
     . have := p1.1 z hz; rw [befI_self sx] at this; cases this
     . exact h'
   . intro hz
     rcases List.mem_cons.1 ((h z).2 (by simp [hz])) with rfl | h'
     . have := p2.1 z hz; rw [befI_self sx] at this; cases this
     . exact h'
end Abs.Y

namespace Abs.Y
open Go Go.Proofs Abs
open Nat renaming reduceEqDiff -> Qa, reduceLT -> Qb, reduceAdd -> Qc, reduceMul -> Qd, reduceSub -> Qe, reduceLeDiff -> Qf, reduceSubDiff -> Qg, reduceBEq -> Qh
open Bool renaming not_eq_true' -> Ba, not_eq_false' -> Bb, and_eq_true -> Bc, or_eq_true -> Bd, or_eq_false_iff -> Be
open Int renaming ofNat_lt -> Ia, ofNat_le -> Ib, not_lt -> Ic, not_le -> Ie
open Decidable renaming not_not -> Da
set_option maxRecDepth 100000

def plI (list : List (List Int)) (c : List Int) : Nat := (list.takeWhile fun x => befI x c).length
def insI (list : List (List Int)) (c : List Int) : List (List Int) := if plI list c < list.length ∧ list.getD (plI list c) [] = c then list else list.take (plI list c) ++ c :: list.drop (plI list c)
theorem tw_split (p : List Int -> Bool) : ∀ (l : List (List Int)), l.take (l.takeWhile p).length = l.takeWhile p ∧ l.drop (l.takeWhile p).length = l.dropWhile p
 | [] => by simp
 | x :: r => by
   have := tw_split p r
   by_cases h : p x = true
   . simp [h, this.1, this.2]
   . simp [h]
theorem takeWhile_all {p : List Int -> Bool} : ∀ {l : List (List Int)} {x}, x ∈ l.takeWhile p -> p x = true
 | y :: r, x, h => by
   by_cases hp : p y = true
   . rw [List.takeWhile_cons_of_pos hp] at h
     rcases List.mem_cons.1 h with rfl | h
     . exact hp
     . exact takeWhile_all h
   . rw [List.takeWhile_cons_of_neg hp] at h
     cases h
 | [], x, h => by cases h
theorem dropWhile_head {p : List Int -> Bool} : ∀ {l : List (List Int)} {x r}, l.dropWhile p = x :: r -> p x = false
 | y :: l, x, r, h => by
   by_cases hp : p y = true
   . rw [List.dropWhile_cons_of_pos hp] at h
     exact dropWhile_head h
   . rw [List.dropWhile_cons_of_neg hp] at h
     cases h
     simpa using hp
 | [], x, r, h => by cases h
theorem after_ge {list : List (List Int)} {c : List Int} (hs : Srt list) (sc : Sm c) : ∀ x ∈ list.dropWhile (fun x => befI x c), befI x c = false := by
 intro x hx
 have hsub : (list.dropWhile fun x => befI x c).Sublist list := List.dropWhile_sublist _
 have hp : (list.dropWhile fun x => befI x c).Pairwise (fun a b => befI a b = true) := hs.1.sublist hsub
 match hd : list.dropWhile (fun x => befI x c), hx with
 | y :: r, hx =>
   have hy := dropWhile_head hd
   rw [hd] at hp hsub
   rcases List.mem_cons.1 hx with rfl | hx
   . exact hy
   . have h1 := (List.pairwise_cons.1 hp).1 x hx
     have sy : Sm y := hs.2 y (hsub.subset (by simp))
     have sx : Sm x := hs.2 x (hsub.subset (by simp [hx]))
     cases h2 : befI x c with
     | false => rfl
     | true =>
       have := bef_trans sy sx sc h1 h2
       rw [hy] at this
       cases this
theorem plI_at {list : List (List Int)} {c : List Int} (hs : Srt list) (sc : Sm c) : At list c (plI list c) := by
 have hle : plI list c <= list.length := (List.takeWhile_sublist _).length_le
 obtain ⟨h1, h2⟩ := tw_split (fun x => befI x c) list
 refine ⟨hle, fun j hj => ?_, fun j hj hl => ?_⟩
 . have hm : list.getD j [] ∈ list.takeWhile (fun x => befI x c) := by
    rw [← h1, List.mem_take_iff_getElem]
    exact ⟨j, by unfold plI at hj hle; omega, by simp [List.getD_eq_getElem?_getD, show j < list.length by omega]⟩
   exact takeWhile_all (p := fun x => befI x c) hm
 . have hm : list.getD j [] ∈ list.dropWhile (fun x => befI x c) := by
    rw [← h2, List.mem_drop_iff_getElem]
    exact ⟨j - plI list c, by unfold plI at hj ⊢; omega, by
     have : (list.takeWhile fun x => befI x c).length + (j - plI list c) = j := by unfold plI at hj ⊢; omega
     simp [List.getD_eq_getElem?_getD, hl, this]⟩
   exact after_ge hs sc _ hm
theorem insI_srt {list : List (List Int)} {c : List Int} (hs : Srt list) (sc : Sm c) : Srt (insI list c) ∧ ∀ x, x ∈ insI list c ↔ x = c ∨ x ∈ list := by
 unfold insI
 obtain ⟨h1, h2⟩ := tw_split (fun x => befI x c) list
 split
 . rename_i h
   refine ⟨hs, fun x => ⟨.inr, ?_⟩⟩
   rintro (rfl | hx)
   . rw [← h.2]; exact getD_mem h.1
   . exact hx
 . rename_i h
   have hat := plI_at hs sc
   unfold plI at *
   rw [h1, h2]
   have happ : list.takeWhile (fun x => befI x c) ++ list.dropWhile (fun x => befI x c) = list := List.takeWhile_append_dropWhile
   have hmem : ∀ x, x ∈ list ↔ x ∈ list.takeWhile (fun x => befI x c) ∨ x ∈ list.dropWhile (fun x => befI x c) := fun x => by rw [← List.mem_append, happ]
   have hp := hs.1
   rw [← happ, List.pairwise_append] at hp
   have hlt : ∀ x ∈ list.dropWhile (fun x => befI x c), befI c x = true := by
    intro x hx
    have sx := hs.2 x ((hmem x).2 (.inr hx))
    rcases bef_total sc sx with h' | h' | h'
    . exact h'
    . rw [after_ge hs sc x hx] at h'; cases h'
    . subst h'
      -- c itself stands behind the place: it is the first there
      exfalso
      match hd : list.dropWhile (fun x => befI x c), hx with
      | y :: r, hx =>
        rcases List.mem_cons.1 hx with e | hx'
        . apply h
          have hlen : (list.takeWhile fun x => befI x c).length < list.length := by
           have := congrArg List.length happ
           rw [hd] at this
           simp only [List.length_append, List.length_cons] at this
           omega
          refine ⟨hlen, ?_⟩
          have h3 : list.drop (list.takeWhile fun x => befI x c).length = y :: r := h2.trans hd
          have h4 := drop_cons ([] : List Int) list _ hlen
          rw [h3] at h4
          exact (List.cons.inj h4).1.symm.trans e.symm
        . have hy := dropWhile_head hd
          have hpd := hp.2.1
          rw [hd] at hpd
          have := (List.pairwise_cons.1 hpd).1 c hx'
          rw [hy] at this; cases this
   refine ⟨⟨?_, fun x hx => ?_⟩, fun x => ?_⟩
   . rw [List.pairwise_append, List.pairwise_cons]
     refine ⟨hp.1, ⟨hlt, hp.2.1⟩, fun x hx y hy => ?_⟩
     rcases List.mem_cons.1 hy with rfl | hy
     . exact takeWhile_all (p := fun z => befI z _) hx
     . exact hp.2.2 x hx y hy
   . rcases List.mem_append.1 hx with hx | hx
     . exact hs.2 x ((hmem x).2 (.inl hx))
     . rcases List.mem_cons.1 hx with rfl | hx
       . exact sc
       . exact hs.2 x ((hmem x).2 (.inr hx))
   . rw [List.mem_append, List.mem_cons, hmem]
     constructor
     . rintro (h | h | h)
       . exact .inr (.inl h)
       . exact .inl h
       . exact .inr (.inr h)
     . rintro (h | h | h)
       . exact .inr (.inl h)
       . exact .inl h
       . exact .inr (.inr h)
end Abs.Y

namespace Abs.Y
open Go Go.Proofs Abs
open Nat renaming reduceEqDiff -> Qa, reduceLT -> Qb, reduceAdd -> Qc, reduceMul -> Qd, reduceSub -> Qe, reduceLeDiff -> Qf, reduceSubDiff -> Qg, reduceBEq -> Qh
open Bool renaming not_eq_true' -> Ba, not_eq_false' -> Bb, and_eq_true -> Bc, or_eq_true -> Bd, or_eq_false_iff -> Be
open Int renaming ofNat_lt -> Ia, ofNat_le -> Ib, not_lt -> Ic, not_le -> Ie
open Decidable renaming not_not -> Da
set_option maxRecDepth 100000

def leC (x y : List Int) : Bool := !(befI y x)
theorem leC_total {x y : List Int} (sx : Sm x) (sy : Sm y) : leC x y || leC y x := by
 unfold leC
 cases h : befI y x with
 | false => rfl
 | true =>
   cases h' : befI x y with
   | false => rfl
   | true =>
     have := bef_trans sx sy sx h' h
     rw [befI_self sx] at this
     cases this
theorem leC_trans {x y z : List Int} (sx : Sm x) (sy : Sm y) (sz : Sm z) (h1 : leC x y = true) (h2 : leC y z = true) : leC x z = true := by
 unfold leC at *
 simp only [Ba] at *
 cases h : befI z x with
 | false => rfl
 | true =>
   rcases bef_total sy sz with h' | h' | h'
   . rw [bef_trans sy sz sx h' h] at h1; cases h1
   . rw [h'] at h2; cases h2
   . subst h'; rw [h] at h1; cases h1
end Abs.Y

namespace Abs.Y
open Go Go.Proofs Abs
open Nat renaming reduceEqDiff -> Qa, reduceLT -> Qb, reduceAdd -> Qc, reduceMul -> Qd, reduceSub -> Qe, reduceLeDiff -> Qf, reduceSubDiff -> Qg, reduceBEq -> Qh
open Bool renaming not_eq_true' -> Ba, not_eq_false' -> Bb, and_eq_true -> Bc, or_eq_true -> Bd, or_eq_false_iff -> Be
open Int renaming ofNat_lt -> Ia, ofNat_le -> Ib, not_lt -> Ic, not_le -> Ie
open Decidable renaming not_not -> Da
set_option maxRecDepth 100000

def atI (list : List (List Int)) (c : List Int) : Int := if plI list c < list.length ∧ list.getD (plI list c) [] = c then (plI list c : Nat) else -1
end Abs.Y

namespace Go.Proofs
open Go.Shelf Go.RowKit Go.Lib Go.Sort
def Try.layQ_ren : Go.Shelf.Ren := ⟨fun | 14 => 188 | 20 => 240 | 21 => 241 | 22 => 242 | 23 => 243 | 24 => 244 | 25 => 245 | 26 => 246 | 27 => 247 | 46 => 269 | 47 => 270 | 48 => 271 | 49 => 272 | 50 => 273 | 15 => 189 | 57 => 286 | 28 => 248 | 29 => 249 | n => n, fun | 24 => 52 | 22 => 30 | 3 => 3 | 25 => 111 | 4 => 4 | 0 => 0 | 46 => 216 | 45 => 215 | 50 => 69 | 66 => 235 | 39 => 183 | 55 => 133 | 70 => 239 | 76 => 248 | 77 => 136 | 53 => 222 | 5 => 5 | 9 => 9 | n => n, fun | n => n⟩
theorem Try.layQ : Go.Proofs.SlLaysF.n14 Try.prog Try.layQ_ren := {
 mixed := by kernel_rfl
 f14 := ⟨Try.f188.name, by decide, Try.func188.trans (congrArg some (by kernel_rfl))⟩
 f15 := Try.func189.trans (congrArg some (by kernel_rfl))
 f20 := ⟨Try.f240.name, by decide, Try.func240.trans (congrArg some (by kernel_rfl))⟩
 f21 := ⟨Try.f241.name, by decide, Try.func241.trans (congrArg some (by kernel_rfl))⟩
 f22 := ⟨Try.f242.name, by decide, Try.func242.trans (congrArg some (by kernel_rfl))⟩
 f23 := ⟨Try.f243.name, by decide, Try.func243.trans (congrArg some (by kernel_rfl))⟩
 f24 := ⟨Try.f244.name, by decide, Try.func244.trans (congrArg some (by kernel_rfl))⟩
 f25 := ⟨Try.f245.name, by decide, Try.func245.trans (congrArg some (by kernel_rfl))⟩
 f26 := ⟨Try.f246.name, by decide, Try.func246.trans (congrArg some (by kernel_rfl))⟩
 f27 := ⟨Try.f247.name, by decide, Try.func247.trans (congrArg some (by kernel_rfl))⟩
 f28 := Try.func248.trans (congrArg some (by kernel_rfl))
 f29 := Try.func249.trans (congrArg some (by kernel_rfl))
 f46 := ⟨Try.f269.name, by decide, Try.func269.trans (congrArg some (by kernel_rfl))⟩
 f47 := Try.func270.trans (congrArg some (by kernel_rfl))
 f48 := Try.func271.trans (congrArg some (by kernel_rfl))
 f49 := ⟨Try.f272.name, by decide, Try.func272.trans (congrArg some (by kernel_rfl))⟩
 f50 := ⟨Try.f273.name, by decide, Try.func273.trans (congrArg some (by kernel_rfl))⟩
 f57 := ⟨Try.f286.name, by decide, Try.func286.trans (congrArg some (by kernel_rfl))⟩
 t0 := Try.underlying0
 a0 := Try.isAgg0
 z0 := Try.sizeOf0
 v0 := Try.zeroValue0
 t3 := Try.underlying3
 a3 := Try.isAgg3
 z3 := Try.sizeOf3
 v3 := Try.zeroValue3
 t4 := Try.underlying4
 a4 := Try.isAgg4
 z4 := Try.sizeOf4
 v4 := Try.zeroValue4
 t5 := Try.underlying5
 a5 := Try.isAgg5
 z5 := Try.sizeOf5
 v5 := Try.zeroValue5
 t9 := Try.underlying9
 a9 := Try.isAgg9
 z9 := Try.sizeOf9
 v9 := Try.zeroValue9
 t22 := Try.underlying30
 a22 := Try.isAgg30
 z22 := Try.sizeOf30
 v22 := Try.zeroValue30
 a24 := Try.isAgg52
 z24 := Try.sizeOf52
 t25 := Try.underlying111
 a25 := Try.isAgg111
 z25 := Try.sizeOf111
 v25 := Try.zeroValue111
 t39 := Try.underlying183
 a39 := Try.isAgg183
 z39 := Try.sizeOf183
 v39 := Try.zeroValue183
 t45 := Try.underlying215
 a45 := Try.isAgg215
 z45 := Try.sizeOf215
 v45 := Try.zeroValue215
 t46 := Try.underlying216
 a46 := Try.isAgg216
 z46 := Try.sizeOf216
 v46 := Try.zeroValue216
 t50 := Try.underlying69
 a50 := Try.isAgg69
 z50 := Try.sizeOf69
 v50 := Try.zeroValue69
 t53 := Try.underlying222
 a53 := Try.isAgg222
 z53 := Try.sizeOf222
 v53 := Try.zeroValue222
 t55 := Try.underlying133
 a55 := Try.isAgg133
 z55 := Try.sizeOf133
 v55 := Try.zeroValue133
 t66 := Try.underlying235
 a66 := Try.isAgg235
 z66 := Try.sizeOf235
 v66 := Try.zeroValue235
 t70 := Try.underlying239
 a70 := Try.isAgg239
 z70 := Try.sizeOf239
 v70 := Try.zeroValue239
 t76 := Try.underlying248
 a76 := Try.isAgg248
 z76 := Try.sizeOf248
 v76 := Try.zeroValue248
 t77 := Try.underlying136
 a77 := Try.isAgg136
 z77 := Try.sizeOf136
 v77 := Try.zeroValue136 }
theorem Try.len_w (n : Nat) (hn : n <= 4294967296) (W : World) : Calls Try.prog 189 #[.int .u64 (n : Int)] W fun e w' => e = .returned (.int .i64 (Lib.bitLen n : Nat)) ∧ w' = W := by
 have h := Any.bits_Len (SlLaysF0.n15.bits (P := Try.prog) { Try.layS with }) (n : Int) W (by omega) (by omega)
 rwa [Int.toNat_natCast] at h
end Go.Proofs

namespace Abs
open Go Go.RowKit

mutual
def AV.bfz (j : Nat) (x : D) : AV -> AV
 | .sl i => if i = j then .undef else .sl i
 | .p i o => if i = j then (if o = 0 then .d (.ptr x) else .undef) else .p i o
 | .pe i k n o => if i = j then .undef else .pe i k n o
 | .mq i => if i = j then .undef else .mq i
 | .sf i k l => if i = j then .undef else .sf i k l
 | .vw i q n k => if q = j then .undef else .vw i q n k
 | .pv i q k n o => if q = j then .undef else .pv i q k n o
 | .tup xs => .tup (AV.bfzL j x xs)
 | .st xs => .st (AV.bfzL j x xs)
 | .fn f cs => .fn f (AV.bfzL j x cs)
 | y => y
def AV.bfzL (j : Nat) (x : D) : List AV -> List AV
 | [] => []
 | y :: r => y.bfz j x :: AV.bfzL j x r
end
def bfzS (j : Nat) (x : D) : List (Nat × AV) -> List (Nat × AV)
 | [] => []
 | (k, v) :: r => (k, v.bfz j x) :: bfzS j x r
def AO.bfz (j : Nat) (x : D) : AO -> AO
 | .box e cells => .box e (AV.bfzL j x cells)
 | .dp t xs (some (c, some d)) => .dp t xs (if d = j then some (c, none) else some (c, some d))
 | y => y
def bfzO (j : Nat) (x : D) : List (Nat × AO) -> List (Nat × AO)
 | [] => []
 | (k, v) :: r => if k = j then bfzO j x r else (k, v.bfz j x) :: bfzO j x r
def cutQ (P : Program) (N : Nat) (y : Code) (Q : Exit -> St -> Prop) (st : St) : Prop := ∃ st', Wk N st st' ∧ Awp P N y Q st'
theorem callX_shareK {P N f cavs st dst K} (J : Nat) {avs o res o'} (hs : CtrM P f avs [(0, o)] [0] true res [(0, o')]) (hp : passM P (delL [J] st.o) (nth [J]) true cavs avs) (ho : lkn J st.o = some (o.ren (nth [J])))
 (hd : dstB N dst) (hK : K (impM st dst (nth [J]) [] res [(0, o')])) : callX P N f cavs dst K st :=
 callX_mut [J] [J] [] hs hp ⟨ho, trivial⟩ (by simp [namesOK, keysO, nth]) hd hK
theorem retM_u {P : Program} {u : Nat -> Value} {sh : Bool} {ob : AO} {st : St} (ho : lk 0 st.o = some ob) (hk : lk 1000000000 st.s = some (.hdr 0 (u 0))) (hr : ob.ren (fun j => j) = ob) (hs : sh = true ∨ ob.plain) : retM P [] u [0] sh (.tup []) [(0, ob)] .ret st := by
 simp only [retM, resV]
 refine ⟨trivial, ⟨fun j => j, rfl, by simpa [hr] using ho, by simp, ⟨rfl, hk, trivial⟩⟩, ?_⟩
 rcases hs with rfl | hs
 . exact .inl rfl
 . exact .inr ⟨trivial, hs, trivial⟩
theorem retM_n {P : Program} {u : Nat -> Value} {sh : Bool} {ob : AO} {st : St} (ho : lk 0 st.o = some ob) (hk : lk 1000000000 st.s = some (.hdr 0 (u 0))) (hr : ob.ren (fun j => j) = ob) (hs : sh = true ∨ ob.plain) : retM P [] u [0] sh (.tup []) [(0, ob)] .normal st :=
 retM_u (P := P) ho hk hr hs
end Abs
