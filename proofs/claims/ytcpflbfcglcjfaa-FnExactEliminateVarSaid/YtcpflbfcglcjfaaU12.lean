/- What functions of this program compute, as contracts over plain data, with what the proofs need of them. No condition. -/
import Derived.Test.YtcpflbfcglcjfaaU10
import Derived.Test.YtcpflbfcglcjfaaAbsLoopO
set_option linter.all false
namespace Abs.Y
open Go Go.Proofs Abs
open Nat renaming reduceEqDiff -> Qa, reduceLT -> Qb, reduceAdd -> Qc, reduceMul -> Qd, reduceSub -> Qe, reduceLeDiff -> Qf, reduceSubDiff -> Qg, reduceBEq -> Qh
open Bool renaming not_eq_true' -> Ba, not_eq_false' -> Bb, and_eq_true -> Bc, or_eq_true -> Bd, or_eq_false_iff -> Be
open Int renaming ofNat_lt -> Ia, ofNat_le -> Ib, not_lt -> Ic, not_le -> Ie
open Decidable renaming not_not -> Da
set_option maxRecDepth 100000

structure Wrk where
 list : List (List Int)
 rd : List Int
 lf : List Int
 rt : List Int
 pv : List Int
 so : List (List Int)
def D.wrk (w : Wrk) : D := .agg [.slice (w.list.map D.ints), .ints w.rd, .ints w.lf, .ints w.rt, .ints w.pv, .slice (w.so.map D.ints)]
def gN (l : List (List Int)) (o : List Nat) : List (List Int) := o.map fun j => l.getD j []
def ordI (l : List (List Int)) : Nat -> List Nat
 | 0 => []
 | i + 1 => (ordI l i).take (plI (gN l (ordI l i)) (l.getD i [])) ++ i :: (ordI l i).drop (plI (gN l (ordI l i)) (l.getD i []))
@[reducible] def iN (o : List Nat) : List D := o.map fun j => .int .i64 (j : Nat)
end Abs.Y

namespace Abs.Y
open Go Go.Proofs Abs
open Nat renaming reduceEqDiff -> Qa, reduceLT -> Qb, reduceAdd -> Qc, reduceMul -> Qd, reduceSub -> Qe, reduceLeDiff -> Qf, reduceSubDiff -> Qg, reduceBEq -> Qh
open Bool renaming not_eq_true' -> Ba, not_eq_false' -> Bb, and_eq_true -> Bc, or_eq_true -> Bd, or_eq_false_iff -> Be
open Int renaming ofNat_lt -> Ia, ofNat_le -> Ib, not_lt -> Ic, not_le -> Ie
open Decidable renaming not_not -> Da
set_option maxRecDepth 100000

structure Fnd where
 so : List (List Int)
 lf : List Int
 rt : List Int
 pv : List Int
def insAt (l : List Int) (k : Nat) (x : Int) : List Int := l.take k ++ x :: l.drop k
def fndS (w : Wrk) (width : Nat) (ia ib : Nat) (f : Fnd) (v : Nat) : Fnd :=
 match resolveI (w.list.getD ia []) (w.list.getD ib []) (v : Int) with
 | some c => if c.length <= width ∧ c ∉ w.so ∧ c ∉ f.so then ⟨insI f.so c, insAt f.lf (plI f.so c) ia, insAt f.rt (plI f.so c) ib, insAt f.pv (plI f.so c) v⟩ else f
 | none => f
def fndV (w : Wrk) (width : Nat) (ia ib : Nat) (f : Fnd) : Nat -> Fnd
 | 0 => f
 | v + 1 => fndS w width ia ib (fndV w width ia ib f v) (v + 1)
def oldW (w : Wrk) (round : Int) (i : Nat) : Bool := decide (w.rd.getD i 0 < round - 1)
def fndB (w : Wrk) (width vars : Nat) (round : Int) (o : List Nat) (ia : Nat) (f : Fnd) : Nat -> Fnd
 | 0 => f
 | b + 1 => if oldW w round ia && oldW w round (o.getD b 0) then fndB w width vars round o ia f b else fndV w width ia (o.getD b 0) (fndB w width vars round o ia f b) vars
def fndA (w : Wrk) (width vars : Nat) (round : Int) (o : List Nat) : Nat -> Fnd
 | 0 => ⟨[], [], [], []⟩
 | a + 1 => fndB w width vars round o (o.getD a 0) (fndA w width vars round o a) o.length
def fndR (w : Wrk) (width vars : Nat) (round : Int) : Fnd := fndA w width vars round (ordI w.list w.list.length) (ordI w.list w.list.length).length
structure FOK (f : Fnd) : Prop where
 so : Srt f.so
 g6 : ∀ c ∈ f.so, G6 c
 lf : f.lf.length = f.so.length
 rt : f.rt.length = f.so.length
 pv : f.pv.length = f.so.length
theorem FOK.nil : FOK ⟨[], [], [], []⟩ := ⟨⟨List.Pairwise.nil, fun x hx => (nomatch hx)⟩, (fun x hx => (nomatch hx)), rfl, rfl, rfl⟩
section
variable {w : Wrk} {width vars : Nat} {round : Int} {o : List Nat}
end
structure WOK (w : Wrk) : Prop where
 nd : w.list.Nodup
 g6 : ∀ c ∈ w.list, G6 c
 so : Srt w.so
 mem : ∀ c, c ∈ w.so ↔ c ∈ w.list
 rd : w.rd.length = w.list.length
 lf : w.lf.length = w.list.length
 rt : w.rt.length = w.list.length
 pv : w.pv.length = w.list.length
theorem WOK.len {w : Wrk} (h : WOK w) : w.list.length <= 4096 := by
 have := table_len (L := w.list.map fun c => (c, 0)) (fun p hp => by obtain ⟨c, hc, rfl⟩ := List.mem_map.1 hp; exact h.g6 c hc) (by
  rw [show keysC (w.list.map fun c => (c, 0)) = w.list by simp [keysC, Function.comp_def]]; exact h.nd)
 rwa [List.length_map] at this
theorem g6_nil : G6 [] := ⟨⟨List.Pairwise.nil, fun x hx => nomatch hx⟩, fun x hx => nomatch hx⟩
theorem WOK.getD {w : Wrk} (h : WOK w) (i : Nat) : G6 (w.list.getD i []) := by
 by_cases hi : i < w.list.length
 . exact h.g6 _ (getD_mem hi)
 . rw [List.getD_eq_getElem?_getD, List.getElem?_eq_none (by omega)]; exact g6_nil
def roundI (w : Wrk) (width vars : Nat) (round : Int) : Wrk :=
 let f := fndR w width vars round
 ⟨w.list ++ f.so, w.rd ++ List.replicate f.so.length round, w.lf ++ f.lf, w.rt ++ f.rt, w.pv ++ f.pv, f.so.foldl insI w.so⟩
end Abs.Y
