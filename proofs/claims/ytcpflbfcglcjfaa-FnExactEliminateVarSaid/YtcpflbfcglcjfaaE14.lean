/- What functions of this program compute, as contracts over plain data, with what the proofs need of them. No condition. -/
import Derived.Test.YtcpflbfcglcjfaaU12
import Derived.Test.YtcpflbfcglcjfaaE13
set_option linter.all false
namespace Abs.Y
open Go Go.Proofs Abs
open Nat renaming reduceEqDiff -> Qa, reduceLT -> Qb, reduceAdd -> Qc, reduceMul -> Qd, reduceSub -> Qe, reduceLeDiff -> Qf, reduceSubDiff -> Qg, reduceBEq -> Qh
open Bool renaming not_eq_true' -> Ba, not_eq_false' -> Bb, and_eq_true -> Bc, or_eq_true -> Bd, or_eq_false_iff -> Be
open Int renaming ofNat_lt -> Ia, ofNat_le -> Ib, not_lt -> Ic, not_le -> Ie
open Decidable renaming not_not -> Da
set_option maxRecDepth 100000

def PairC (w : Wrk) (width vars : Nat) (ia ib : Nat) (c : List Int) : Prop := (∃ v : Nat, 1 <= v ∧ v <= vars ∧ resolveI (w.list.getD ia []) (w.list.getD ib []) (v : Int) = some c) ∧ c.length <= width ∧ c ∉ w.so
section
variable {w : Wrk} {width vars : Nat} {round : Int} {o : List Nat}
end
theorem foldl_ins : ∀ {m l : List (List Int)}, Srt l -> (∀ x ∈ m, Sm x) -> Srt (m.foldl insI l) ∧ ∀ c, c ∈ m.foldl insI l ↔ c ∈ l ∨ c ∈ m
 | [], l, hs, _ => ⟨hs, fun c => by simp⟩
 | x :: m, l, hs, hm => by
   obtain ⟨g1, g2⟩ := insI_srt hs (hm x (by simp))
   obtain ⟨h1, h2⟩ := foldl_ins (m := m) g1 (fun y hy => hm y (by simp [hy]))
   refine ⟨h1, fun c => ?_⟩
   rw [List.foldl_cons, h2, g2, List.mem_cons]
   constructor
   . rintro ((h | h) | h)
     . exact .inr (.inl h)
     . exact .inl h
     . exact .inr (.inr h)
   . rintro (h | h | h)
     . exact .inl (.inr h)
     . exact .inl (.inl h)
     . exact .inr h
def Below (n : Nat) (c : List Int) : Prop := ∀ x ∈ c, x.natAbs <= n
structure InvW (cs : List (List Int)) (w r : Nat) (W : Wrk) : Prop where
 ok : WOK W
 mem : ∀ c, c ∈ W.list ↔ Cl cs w r c
 rd : ∀ i, i < W.list.length -> ∃ k : Nat, W.rd.getD i 0 = (k : Int) ∧ k <= r ∧ NewC cs w k (W.list.getD i [])
section
variable {cs : List (List Int)} {w vars r : Nat} {W : Wrk}
end
def firstC (cs : List (List Int)) (w : Nat) : List (List Int) := (cs.filter fun c => decide (c.length <= w)).foldl insI []
def startW (cs : List (List Int)) (w : Nat) : Wrk :=
 ⟨firstC cs w, List.replicate (firstC cs w).length 0, List.replicate (firstC cs w).length (-1), List.replicate (firstC cs w).length (-1), List.replicate (firstC cs w).length 0, firstC cs w⟩
def itW (cs : List (List Int)) (w vars : Nat) : Nat -> Wrk
 | 0 => startW cs w
 | r + 1 => roundI (itW cs w vars r) w vars ((r + 1 : Nat) : Int)
section
variable {cs : List (List Int)} {w vars : Nat}
structure FinW (cs : List (List Int)) (w vars : Nat) (W : Wrk) (r : Nat) : Prop where
 eq : W = itW cs w vars (r + 1)
 inv : InvW cs w r W
 stop : ∀ c, ¬ NewC cs w (r + 1) c
 fresh : ∀ k, k < r -> (fndR (itW cs w vars k) w vars ((k + 1 : Nat) : Int)).so ≠ []
end
end Abs.Y

namespace Abs.Y
open Go Go.Proofs Abs
open Nat renaming reduceEqDiff -> Qa, reduceLT -> Qb, reduceAdd -> Qc, reduceMul -> Qd, reduceSub -> Qe, reduceLeDiff -> Qf, reduceSubDiff -> Qg, reduceBEq -> Qh
open Bool renaming not_eq_true' -> Ba, not_eq_false' -> Bb, and_eq_true -> Bc, or_eq_true -> Bd, or_eq_false_iff -> Be
open Int renaming ofNat_lt -> Ia, ofNat_le -> Ib, not_lt -> Ic, not_le -> Ie
open Decidable renaming not_not -> Da
set_option maxRecDepth 100000

def keepV (x : Int) (c : List Int) : Bool := !(c.any (· == x)) && !(c.any (· == -x))
def resK (cs : List (List Int)) (x : Int) (c : List Int) (k : Nat) : List (List Int) := (cs.take k).filterMap fun d => resolveI c d x
def elOne (cs : List (List Int)) (x : Int) (c : List Int) : List (List Int) := (if keepV x c then [c] else []) ++ resK cs x c cs.length
def elAll (cs : List (List Int)) (x : Int) (i : Nat) : List (List Int) := (cs.take i).flatMap (elOne cs x)
theorem resK_succ {cs : List (List Int)} {x : Int} {c : List Int} {k : Nat} (h : k < cs.length) : resK cs x c (k + 1) = match resolveI c (cs.getD k []) x with | some r => resK cs x c k ++ [r] | none => resK cs x c k := by
 unfold resK
 rw [take_succ [] cs k h, List.filterMap_append, List.filterMap_cons, List.filterMap_nil]
 cases resolveI c (cs.getD k []) x <;> simp
theorem elAll_succ {cs : List (List Int)} {x : Int} {i : Nat} (h : i < cs.length) : elAll cs x (i + 1) = elAll cs x i ++ elOne cs x (cs.getD i []) := by
 unfold elAll
 rw [take_succ [] cs i h, List.flatMap_append]; simp
theorem resK_len (cs : List (List Int)) (x : Int) (c : List Int) (k : Nat) : (resK cs x c k).length <= k := by
 have h1 := List.length_filterMap_le (fun d => resolveI c d x) (cs.take k)
 rw [List.length_take] at h1
 unfold resK; omega
theorem elAll_len {cs : List (List Int)} {x : Int} : ∀ i, (elAll cs x i).length <= i * (cs.length + 1)
 | 0 => by simp [elAll]
 | i + 1 => by
   by_cases h : i < cs.length
   . rw [elAll_succ h, List.length_append, elOne, List.length_append]
     have h1 := resK_len cs x (cs.getD i []) cs.length
     have h2 := elAll_len (cs := cs) (x := x) i
     have h3 : (if keepV x (cs.getD i []) = true then [cs.getD i []] else []).length <= 1 := by split <;> simp
     rw [Nat.add_mul, Nat.one_mul]
     omega
   . have : elAll cs x (i + 1) = elAll cs x i := by
      unfold elAll
      rw [List.take_of_length_le (by omega), List.take_of_length_le (by omega)]
     rw [this]
     exact Nat.le_trans (elAll_len i) (Nat.mul_le_mul_right _ (by omega))
def elimV (cs : List (List Int)) (x : Int) : List (List Int) := (elAll cs x cs.length).foldl insI []
theorem good_res {a b c : List Int} {x : Int} (ga : Good a) (gb : Good b) (h : resolveI a b x = some c) : Good c := by
 unfold resolveI at h
 split at h
 . exact ((joinI_spec (good_filter ga _) fun y hy => gb.2 y (List.mem_filter.1 hy).1).1 c h).1
 . cases h
theorem good_sm {c : List Int} (g : Good c) : Sm c := fun x hx => by have := (g.2 x hx).2; omega
theorem good_len {c : List Int} (g : Good c) : c.length <= 13 := by
 have h : (c.map Int.natAbs).Nodup := by
  rw [List.Nodup, List.pairwise_map]
  exact g.1.imp fun {a b} h => Nat.ne_of_lt h
 have := nodup_lt 13 _ h fun y hy => by
  obtain ⟨z, hz, rfl⟩ := List.mem_map.1 hy
  have := (g.2 z hz).2
  omega
 rwa [List.length_map] at this
theorem elOne_good {cs : List (List Int)} {x : Int} (hg : ∀ c ∈ cs, Good c) {c : List Int} (hc : Good c) : ∀ d ∈ elOne cs x c, Good d := fun d hd => by
 rcases List.mem_append.1 hd with h | h
 . split at h
   . obtain rfl := List.mem_singleton.1 h; exact hc
   . cases h
 . obtain ⟨e, he, h2⟩ := List.mem_filterMap.1 h
   exact good_res hc (hg e (List.mem_of_mem_take he)) h2
theorem elAll_good {cs : List (List Int)} {x : Int} (hg : ∀ c ∈ cs, Good c) (i : Nat) : ∀ d ∈ elAll cs x i, Good d := fun d hd => by
 obtain ⟨c, hc, h⟩ := List.mem_flatMap.1 hd
 exact elOne_good hg (hg c (List.mem_of_mem_take hc)) d h
theorem elimV_spec {cs : List (List Int)} {x : Int} (hg : ∀ c ∈ cs, Good c) : Srt (elimV cs x) ∧ (∀ c, c ∈ elimV cs x ↔ c ∈ elAll cs x cs.length) := by
 obtain ⟨h1, h2⟩ := foldl_ins (l := []) (m := elAll cs x cs.length) ⟨List.Pairwise.nil, fun y hy => nomatch hy⟩ fun y hy => good_sm (elAll_good hg _ y hy)
 exact ⟨h1, fun c => by rw [elimV, h2]; simp⟩
theorem comp_eq {cs : List (List Int)} {x : Int} (hg : ∀ c ∈ cs, Good c) {qs : List Tg} (hq : qs.map (·.2) = sortC (elAll cs x cs.length)) : (cpT qs qs.length).map (·.2) = elimV cs x := by
 obtain ⟨h1, h2⟩ := elimV_spec (x := x) hg
 have hs : ∀ y ∈ elAll cs x cs.length, Sm y := fun y hy => good_sm (elAll_good hg _ y hy)
 have hsq : ∀ q ∈ qs, Sm q.2 := fun q h => hs _ ((sortC_perm _).mem_iff.1 (hq ▸ List.mem_map.2 ⟨q, h, rfl⟩))
 refine srt_uniq (cmpA_srt hsq (by rw [hq]; exact sortC_sorted hs) qs.length (Nat.le_refl _)) h1 fun c => ?_
 rw [h2, cmpA_mem c qs.length (Nat.le_refl _), List.take_length, hq, (sortC_perm _).mem_iff]
end Abs.Y
