/- What functions of this program compute, over plain data. No condition. -/
import Derived.Test.YtndjinajjejmlaaPM18
set_option linter.all false
namespace Abs.Y
open Go Go.Proofs Abs
open Nat renaming reduceEqDiff -> Qa, reduceLT -> Qb, reduceAdd -> Qc, reduceMul -> Qd, reduceSub -> Qe, reduceLeDiff -> Qf, reduceSubDiff -> Qg, reduceBEq -> Qh
open Bool renaming not_eq_true' -> Ba, not_eq_false' -> Bb, and_eq_true -> Bc, or_eq_true -> Bh, or_eq_false_iff -> Be
open Int renaming ofNat_lt -> Ia, ofNat_le -> Ib, not_lt -> Ic, not_le -> Ie
open Decidable renaming not_not -> Da
set_option maxRecDepth 100000

theorem mergeI_no (g : Chg) (k : Int) (hl : g.ed.length<=4294967296) (hc : g.ch.length<=4294967296) (hb : edB g k=false) : Ctr Try.prog 9 [D.chg g,.int .i64 k] true (.tup [.d (D.chg (mrG g k)),.d (.bool (mrB g k))]) []:=by
 have c1:=isCharged_ok g hl hc
 have c2:=isEdge_ok g k hl
 unfold mrG mrB
 rw [hb]
 simp only [Bool.false_and,Bool.false_eq_true,if_false]
 unfold edB at hb
 cases hb1 : goodC g with
 | false =>
   rw [hb1] at c1
   refine Ctr.of (n:=97) (rs:=[.cell 4 27,.tmp 5]) Try.func9 rfl rfl Try.ntmps9 rfl rfl (by kernel_rfl) Try.checked.mixed ?_
   simp (disch:=first | omega | decide +kernel) only [D.chg,D.ints,go_sem,Qa,Qb,Qc,Qd,Qe,↓reduceIte,reduceCtorEq,Qf,Qg,Qh]
   simp only [D.chg,D.ints] at c1
   (repeat' (first | ((first | (refine gsel_split (fun q' => ?_) (fun q' => ?_)<;>(have h':=q')<;>(try simp only [za1,za2,Ba,Bb,za3,ne_eq,za4,za5,za6,Ia,Ib,Ic,Ie,Da,Bc,Bh,Be,za7,za8] at h')) | (have q':=trivial; first | refine callX_new (c1) rfl (by decide) ?_ | refine callY_new (c1) rfl ?_ | refine hE _ _ ret_ne ?_ | refine hE _ _ exit_ne ?_))<;>(try simp (disch:=first | omega | decide +kernel) only [q',D.chg,D.ints,go_sem,Qa,Qb,Qc,Qd,Qe,↓reduceIte,reduceCtorEq,Qf,Qg,Qh])<;>clear q') | refine hN _ ?_ ?_ Wk.kk | with_reducible refine And.intro ?_ ?_ | with_reducible omega | exact ok_ints | exact cells_ints | exact no_mem | with_reducible exact plain_ints | (refine le_maxLen ?_; omega) | (refine za9 ⟨?_,?_⟩) | (simp only [go_sem,Qc,Qb,zb1,zb2,forall_eq]; done)))
   exact ret_scbd [] rfl rfl rfl (by simp only [go_sem]) (by simp only [go_sem,List.length_cons,List.length_nil]) rfl (by simp only [go_sem])
 | true =>
   rw [hb1] at c1 hb
   rw [Bool.true_and] at hb
   rw [hb] at c2
   refine Ctr.of (n:=97) (rs:=[.cell 4 27,.tmp 5]) Try.func9 rfl rfl Try.ntmps9 rfl rfl (by kernel_rfl) Try.checked.mixed ?_
   simp (disch:=first | omega | decide +kernel) only [D.chg,D.ints,go_sem,Qa,Qb,Qc,Qd,Qe,↓reduceIte,reduceCtorEq,Qf,Qg,Qh]
   simp only [D.chg,D.ints] at c1 c2
   (repeat' (first | ((first | (refine gsel_split (fun q' => ?_) (fun q' => ?_)<;>(have h':=q')<;>(try simp only [za1,za2,Ba,Bb,za3,ne_eq,za4,za5,za6,Ia,Ib,Ic,Ie,Da,Bc,Bh,Be,za7,za8] at h')) | (have q':=trivial; first | refine callX_new (c1) rfl (by decide) ?_ | refine callY_new (c1) rfl ?_ | refine callX_new (c2) rfl (by decide) ?_ | refine callY_new (c2) rfl ?_ | refine hE _ _ ret_ne ?_ | refine hE _ _ exit_ne ?_))<;>(try simp (disch:=first | omega | decide +kernel) only [q',D.chg,D.ints,go_sem,Qa,Qb,Qc,Qd,Qe,↓reduceIte,reduceCtorEq,Qf,Qg,Qh])<;>clear q') | refine hN _ ?_ ?_ Wk.kk | with_reducible refine And.intro ?_ ?_ | with_reducible omega | exact ok_ints | exact cells_ints | exact no_mem | with_reducible exact plain_ints | (refine le_maxLen ?_; omega) | (refine za9 ⟨?_,?_⟩) | (simp only [go_sem,Qc,Qb,zb1,zb2,forall_eq]; done)))
   exact ret_scbd [] rfl rfl rfl (by simp only [go_sem]) (by simp only [go_sem,List.length_cons,List.length_nil]) rfl (by simp only [go_sem])
theorem mergeS_no (g : Chg) (k : Int) (hl : g.ed.length<=4294967296) (hc : g.ch.length<=4294967296) (hb : edB g k=false) : Ctr Try.prog 10 [D.chg g,.int .i64 k] true (.tup [.d (D.chg (mrG g k)),.d (.bool (mrB g k))]) []:=by
 have c1:=l27Edge_ok g k hl hc
 unfold mrG mrB
 rw [hb] at c1 ⊢
 simp only [Bool.false_and,Bool.false_eq_true,if_false]
 refine Ctr.of (n:=136) (rs:=[.cell 4 27,.tmp 5]) Try.func10 rfl rfl Try.ntmps10 rfl rfl (by kernel_rfl) Try.checked.mixed ?_
 simp (disch:=first | omega | decide +kernel) only [D.chg,D.ints,go_sem,Qa,Qb,Qc,Qd,Qe,↓reduceIte,reduceCtorEq,Qf,Qg,Qh]
 simp only [D.chg,D.ints] at c1
 (repeat' (first | ((first | (refine gsel_split (fun q' => ?_) (fun q' => ?_)<;>(have h':=q')<;>(try simp only [za1,za2,Ba,Bb,za3,ne_eq,za4,za5,za6,Ia,Ib,Ic,Ie,Da,Bc,Bh,Be,za7,za8] at h')) | (have q':=trivial; first | refine callX_new (c1) rfl (by decide) ?_ | refine callY_new (c1) rfl ?_ | refine hE _ _ ret_ne ?_ | refine hE _ _ exit_ne ?_))<;>(try simp (disch:=first | omega | decide +kernel) only [q',D.chg,D.ints,go_sem,Qa,Qb,Qc,Qd,Qe,↓reduceIte,reduceCtorEq,Qf,Qg,Qh])<;>clear q') | refine hN _ ?_ ?_ Wk.kk | with_reducible refine And.intro ?_ ?_ | with_reducible omega | exact ok_ints | exact cells_ints | exact no_mem | with_reducible exact plain_ints | (refine le_maxLen ?_; omega) | (refine za9 ⟨?_,?_⟩) | (simp only [go_sem,Qc,Qb,zb1,zb2,forall_eq]; done)))
 exact ret_scbd [] rfl rfl rfl (by simp only [go_sem]) (by simp only [go_sem,List.length_cons,List.length_nil]) rfl (by simp only [go_sem])
theorem mergeI_ok (g : Chg) (k : Int) (hl : g.ed.length<=4294967296) (hc : g.ch.length<=4294967296) : Ctr Try.prog 9 [D.chg g,.int .i64 k] true (.tup [.d (D.chg (mrG g k)),.d (.bool (mrB g k))]) []:=by
 cases hb : edB g k with
 | false => exact mergeI_no g k hl hc hb
 | true => exact mergeI_yes g k hb
def mgC (a b : Nat) (ch : List Int) (i : Nat) : List Int:=((List.range i).filter fun w => decide (w ≠ b)).map fun w => if w=a then (ch.getD a 0 + ch.getD b 0) % 2 else ch.getD w 0
theorem mgC_succ (a b : Nat) (ch : List Int) (i : Nat) : mgC a b ch (i + 1)=if i=a then (if a=b then mgC a b ch i else mgC a b ch i++[(ch.getD a 0 + ch.getD b 0) % 2]) else if i=b then mgC a b ch i else mgC a b ch i++[ch.getD i 0]:=by
 unfold mgC
 rw [List.range_succ,List.filter_append,List.map_append,List.filter_cons,List.filter_nil]
 by_cases h1 : i=a
 . subst h1
   rw [if_pos rfl]
   by_cases h2 : i=b
   . subst h2; simp
   . rw [if_neg h2,if_pos (by simpa using h2)]; simp
 . rw [if_neg h1]
   by_cases h2 : i=b
   . subst h2; rw [if_pos rfl]; simp
   . rw [if_neg h2,if_pos (by simpa using h2)]; simp [h1]
theorem mgC_len (a b : Nat) (ch : List Int) (i : Nat) : (mgC a b ch i).length<=i:=by
 unfold mgC
 rw [List.length_map]
 have:=List.length_filter_le (fun w => decide (w ≠ b)) (List.range i)
 rw [List.length_range] at this
 exact this
theorem mgC_all {a b : Nat} {ch : List Int} (hab : a < b) (hb : b < ch.length) : mgC a b ch ch.length=mergeC a b ch:=by
 obtain ⟨N,hN⟩ : ∃ N,ch.length=N + 1:=⟨ch.length - 1,by omega⟩
 unfold mgC mergeC
 rw [hN,(filt_del (fun w => decide (w ≠ b)) (b:=b) (by simp) N).2 (by omega),Nat.add_sub_cancel]
 have hne : ∀ w,delN b w ≠ b:=fun w => by unfold delN; split<;>omega
 rw [List.filter_eq_self.2 (fun x hx => by
  obtain ⟨w,_,rfl⟩:=List.mem_map.1 hx
  simpa using hne w),List.map_map]
 apply List.map_congr_left
 intro w _
 show (if delN b w=a then _ else _)=_
 have : delN b w=a↔w=a:=by unfold delN; split<;>omega
 by_cases h : w=a
 . rw [if_pos (this.2 h),if_pos h]
 . rw [if_neg (fun e => h (this.1 e)),if_neg h]
end Abs.Y
