/- What functions of this program compute, over plain data. No condition. -/
import Derived.Test.YtdohpocdlkcaoaaGreatM9a
set_option linter.all false
namespace Abs.Y
open Go Go.Proofs Abs
open Nat renaming reduceEqDiff -> Qa, reduceLT -> Qb, reduceAdd -> Qc, reduceMul -> Qd, reduceSub -> Qe, reduceLeDiff -> Qf, reduceSubDiff -> Qg, reduceBEq -> Qh
open Bool renaming not_eq_true' -> Ba, not_eq_false' -> Bb, and_eq_true -> Bc, or_eq_true -> Bd, or_eq_false_iff -> Be
open Int renaming ofNat_lt -> Ia, ofNat_le -> Ib, not_lt -> Ic, not_le -> Ie
open Decidable renaming not_not -> Da
set_option maxRecDepth 100000

def upK (k a : Int) : Int:=a.tdiv k + (if 0 < a.tmod k then 1 else 0)
theorem tdiv_bd (a k : Int) (hk : 1<=k) : (0<=a->0<=a.tdiv k∧a.tdiv k<=a)∧(a<=0->a<=a.tdiv k∧a.tdiv k<=0):=by
 have pos : ∀ b : Int,0<=b->0<=b.tdiv k∧b.tdiv k<=b:=fun b hb => by
  rw [Int.tdiv_eq_ediv_of_nonneg hb]
  exact ⟨Int.ediv_nonneg hb (by omega),Int.ediv_le_self _ hb⟩
 refine ⟨pos a,fun h => ?_⟩
 have h2:=pos (-a) (by omega)
 rw [Int.neg_tdiv] at h2
 omega
theorem tmod_sg (a k : Int) (hk : 1<=k) : (0<=a->0<=a.tmod k∧a.tmod k < k)∧(a<=0->a.tmod k<=0):=by
 refine ⟨fun h => ?_,fun h => ?_⟩
 . rw [Int.tmod_eq_emod_of_nonneg h]
   exact ⟨Int.emod_nonneg _ (by omega),Int.emod_lt_of_pos _ (by omega)⟩
 . have h2 : 0<=(-a).tmod k:=by
    rw [Int.tmod_eq_emod_of_nonneg (by omega)]
    exact Int.emod_nonneg _ (by omega)
   rw [Int.neg_tmod] at h2
   omega
theorem upK_bd (a k : Int) (hk : 1<=k) : (0<=a->0<=upK k a∧upK k a<=a + 1)∧(a<=0->a<=upK k a∧upK k a<=0):=by
 have h1:=tdiv_bd a k hk
 have h2:=tmod_sg a k hk
 unfold upK
 split<;>constructor<;>intro h<;>first | (have:=h1.1 h; have:=h2.1 h; omega) | (have:=h1.2 h; have:=h2.2 h; omega)
theorem up_pos (a k : Int) (hk : 1<=k) (ha : 0 < a) : (a + k - 1).tdiv k=upK k a:=by
 unfold upK
 rw [Int.tdiv_eq_ediv_of_nonneg (by omega),Int.tdiv_eq_ediv_of_nonneg (by omega),Int.tmod_eq_emod_of_nonneg (by omega)]
 have h1:=Int.emod_add_mul_ediv a k
 have h2:=Int.emod_nonneg a (show k ≠ 0 by omega)
 have h3:=Int.emod_lt_of_pos a (show 0 < k by omega)
 split
 . rename_i h
   have e : a + k - 1=(a % k - 1) + k * (a / k + 1):=by rw [Int.mul_add,Int.mul_one]; omega
   rw [e,Int.add_mul_ediv_left _ _ (by omega),Int.ediv_eq_zero_of_lt (by omega) (by omega)]; omega
 . have e : a + k - 1=(a % k + k - 1) + k * (a / k):=by omega
   rw [e,Int.add_mul_ediv_left _ _ (by omega),Int.ediv_eq_zero_of_lt (by omega) (by omega)]; omega
theorem up_neg (a k : Int) (hk : 1<=k) (ha : a<=0) : 0 - (0 - a).tdiv k=upK k a:=by
 have h2:=(tmod_sg a k hk).2 ha
 unfold upK
 rw [if_neg (by omega),show (0 : Int) - a=-a by omega,Int.neg_tdiv]; omega
theorem divideUpK_ok (a k : Int) (hk : 1<=k∧k<=1000) (h : -4611686018427387904<=a∧a < 4611686018427387904) : Ctr Tryz.prog 137 [.int .i64 a,.int .i64 k] false (.d (.int .i64 (upK k a))) []:=by
 have h1:=tdiv_bd a k hk.1
 have hk0 : ¬ k=0:=by omega
 unfold upK
 refine Ctr.of (n:=16) (rs:=[.tmp 4]) Tryz.func137 rfl rfl Tryz.ntmps137 rfl rfl (by kernel_rfl) Tryz.checked.mixed ?_
 simp (disch:=first | omega | decide +kernel) only [go_sem,Qa,Qb,Qc,Qd,Qe,↓reduceIte,reduceCtorEq,Qf,Qg,Qh]
 (repeat' (first | ((first | (refine gsel_split (fun q' => ?_) (fun q' => ?_)<;>(have h':=q')<;>(try simp only [za1,za2,Ba,Bb,za3,ne_eq,za4,za5,za6,Ia,Ib,Ic,Ie,Da,Bc,Bd,Be,za7,za8] at h')) | (have q':=trivial; first | refine hE _ _ ret_ne ?_ | refine hE _ _ exit_ne ?_))<;>(try simp (disch:=first | omega | decide +kernel) only [q',go_sem,Qa,Qb,Qc,Qd,Qe,↓reduceIte,reduceCtorEq,Qf,Qg,Qh])<;>clear q') | refine hN _ ?_ ?_ Wk.kk | with_reducible refine And.intro ?_ ?_ | with_reducible omega | exact ok_ints | exact cells_ints | exact no_mem | with_reducible exact plain_ints | (refine le_maxLen ?_; omega) | (refine za9 ⟨?_,?_⟩) | (simp only [go_sem,Qc,Qb,zb1,zb2,forall_eq]; done)))
 all_goals (first | omega | (rw [if_pos (by assumption)]; done) | (rw [if_neg (by omega),Int.add_zero]; done))
theorem l16UpK_ok (a k : Int) (hk : 1<=k∧k<=1000) (h : -4611686018427387904<=a∧a < 4611686018427387904) : Ctr Tryz.prog 119 [.int .i64 a,.int .i64 k] false (.d (.int .i64 (upK k a))) []:=by
 have h1:=upK_bd a k hk.1
 have hk0 : ¬ k=0:=by omega
 have h3:=tdiv_bd (0 - a) k hk.1
 refine Ctr.of (n:=18) (rs:=[.tmp 4]) Tryz.func119 rfl rfl Tryz.ntmps119 rfl rfl (by kernel_rfl) Tryz.checked.mixed ?_
 simp (disch:=first | omega | decide +kernel) only [go_sem,Qa,Qb,Qc,Qd,Qe,↓reduceIte,reduceCtorEq,Qf,Qg,Qh]
 (repeat' (first | ((first | (refine gsel_split (fun q' => ?_) (fun q' => ?_)<;>(have h':=q')<;>(try simp only [za1,za2,Ba,Bb,za3,ne_eq,za4,za5,za6,Ia,Ib,Ic,Ie,Da,Bc,Bd,Be,za7,za8] at h')) | (have q':=trivial; first | refine hE _ _ ret_ne ?_ | refine hE _ _ exit_ne ?_))<;>(try simp (disch:=first | omega | decide +kernel) only [q',go_sem,Qa,Qb,Qc,Qd,Qe,↓reduceIte,reduceCtorEq,Qf,Qg,Qh])<;>clear q') | refine hN _ ?_ ?_ Wk.kk | with_reducible refine And.intro ?_ ?_ | with_reducible omega | exact ok_ints | exact cells_ints | exact no_mem | with_reducible exact plain_ints | (refine le_maxLen ?_; omega) | (refine za9 ⟨?_,?_⟩) | (simp only [go_sem,Qc,Qb,zb1,zb2,forall_eq]; done)))
 all_goals (first | omega | (rw [up_pos a k hk.1 (by omega),wrap_of (by omega)]; done) | (rw [up_neg a k hk.1 (by omega)]; done))
def halfK (k : Int) (q : Pl) : Pl:=zipP (fun a _ => upK k a) q q
def oddK (k : Int) (q : Pl) : Bool:=q.co.any fun x => !decide (x.tmod k=0)
theorem divK1_ok (k x : Int) (hk : 1<=k) : Ctr Tryz.prog 135 [.int .i64 x,.ptr (.int .i64 k)] false (.d (.bool (!decide (x.tmod k=0)))) []:=by
 have hk0 : ¬ k=0:=by omega
 refine Ctr.of (n:=8) (rs:=[.tmp 3]) Tryz.func135 rfl rfl Tryz.ntmps135 rfl rfl (by kernel_rfl) Tryz.checked.mixed ?_
 simp (disch:=first | omega | decide +kernel) only [go_sem,Qa,Qb,Qc,Qd,Qe,↓reduceIte,reduceCtorEq,Qf,Qg,Qh]
 (repeat' (first | ((first | (refine gsel_split (fun q' => ?_) (fun q' => ?_)<;>(have h':=q')<;>(try simp only [za1,za2,Ba,Bb,za3,ne_eq,za4,za5,za6,Ia,Ib,Ic,Ie,Da,Bc,Bd,Be,za7,za8] at h')) | (have q':=trivial; first | refine hE _ _ ret_ne ?_ | refine hE _ _ exit_ne ?_))<;>(try simp (disch:=first | omega | decide +kernel) only [q',go_sem,Qa,Qb,Qc,Qd,Qe,↓reduceIte,reduceCtorEq,Qf,Qg,Qh])<;>clear q') | refine hN _ ?_ ?_ Wk.kk | with_reducible refine And.intro ?_ ?_ | with_reducible omega | exact ok_ints | exact cells_ints | exact no_mem | with_reducible exact plain_ints | (refine le_maxLen ?_; omega) | (refine za9 ⟨?_,?_⟩) | (simp only [go_sem,Qc,Qb,zb1,zb2,forall_eq]; done)))
 all_goals (first | omega | (by_cases h : x.tmod k=0<;>simp [bne,h]; done))
theorem divK2_ok (k a b : Int) (hk : 1<=k∧k<=1000) (h : -4611686018427387904<=a∧a < 4611686018427387904) : Ctr Tryz.prog 136 [.int .i64 a,.int .i64 b,.ptr (.int .i64 k)] false (.d (.int .i64 (upK k a))) []:=by
 have c1:=divideUpK_ok a k hk h
 refine Ctr.of (n:=9) (rs:=[.tmp 5]) Tryz.func136 rfl rfl Tryz.ntmps136 rfl rfl (by kernel_rfl) Tryz.checked.mixed ?_
 simp (disch:=first | omega | decide +kernel) only [go_sem,Qa,Qb,Qc,Qd,Qe,↓reduceIte,reduceCtorEq,Qf,Qg,Qh]
 (repeat' (first | ((first | (refine gsel_split (fun q' => ?_) (fun q' => ?_)<;>(have h':=q')<;>(try simp only [za1,za2,Ba,Bb,za3,ne_eq,za4,za5,za6,Ia,Ib,Ic,Ie,Da,Bc,Bd,Be,za7,za8] at h')) | (have q':=trivial; first | refine callX_new (c1) rfl (by decide) ?_ | refine callY_new (c1) rfl ?_ | refine hE _ _ ret_ne ?_ | refine hE _ _ exit_ne ?_))<;>(try simp (disch:=first | omega | decide +kernel) only [q',go_sem,Qa,Qb,Qc,Qd,Qe,↓reduceIte,reduceCtorEq,Qf,Qg,Qh])<;>clear q') | refine hN _ ?_ ?_ Wk.kk | with_reducible refine And.intro ?_ ?_ | with_reducible omega | exact ok_ints | exact cells_ints | exact no_mem | with_reducible exact plain_ints | (refine le_maxLen ?_; omega) | (refine za9 ⟨?_,?_⟩) | (simp only [go_sem,Qc,Qb,zb1,zb2,forall_eq]; done)))
theorem mul_bd {k a n : Int} (hk : 1<=k∧k<=1000) (ha : -n<=a∧a<=n) : -(1000 * n)<=k * a∧k * a<=1000 * n:=by
 have h1 : k * a<=k * n:=Int.mul_le_mul_of_nonneg_left ha.2 (by omega)
 have h2 : k * (-n)<=k * a:=Int.mul_le_mul_of_nonneg_left ha.1 (by omega)
 have h3 : k * n<=1000 * n:=Int.mul_le_mul_of_nonneg_right hk.2 (by omega)
 rw [Int.mul_neg] at h2
 omega
section
variable {k : Int} (hk : 1<=k∧k<=1000) {q : Pl} {n : Int} (hl : q.co.length<=4294967296) (bq : Bd n q) (hn : n < 4611686018427387904)
include hk hl bq hn
set_option maxHeartbeats 4000000 in
theorem dividePlaneK_no (ho : oddK k q=true) :
 Ctr Tryz.prog 116 [D.pl q,.int .i64 k] false (.tup [.d (D.pl ⟨[],0⟩),.d (.bool false)]) []:=by
 have c1:=containsFunc1_ok q.co 135 (.ptr (.int .i64 k)) (fun x => !decide (x.tmod k=0)) hl fun x => divK1_ok k x hk.1
 have c2:=combined1_ok q q 136 (.ptr (.int .i64 k)) (fun a _ => upK k a) hl (Nat.le_refl _) (divK2_ok _ _ _ hk (by have:=bq.2; omega)) fun i _ => divK2_ok _ _ _ hk (by have:=bq.1 i; omega)
 change Ctr _ _ _ _ (AV.d (D.bool (oddK k q))) _ at c1
 rw [ho] at c1
 refine Ctr.of (n:=15) (rs:=[.cell 4 43,.tmp 5]) Tryz.func116 rfl rfl Tryz.ntmps116 rfl rfl (by kernel_rfl) Tryz.checked.mixed ?_
 simp (disch:=first | omega | decide +kernel) only [D.ints,go_sem,Qa,Qb,Qc,Qd,Qe,↓reduceIte,reduceCtorEq,Qf,Qg,Qh]
 (repeat' (first | ((first | (refine gsel_split (fun q' => ?_) (fun q' => ?_)<;>(have h':=q')<;>(try simp only [za1,za2,Ba,Bb,za3,ne_eq,za4,za5,za6,Ia,Ib,Ic,Ie,Da,Bc,Bd,Be,za7,za8] at h')) | (have q':=trivial; first | refine callX_new (c1) rfl (by decide) ?_ | refine callY_new (c1) rfl ?_ | refine callX_new (c2) rfl (by decide) ?_ | refine callY_new (c2) rfl ?_ | refine hE _ _ ret_ne ?_ | refine hE _ _ exit_ne ?_))<;>(try simp (disch:=first | omega | decide +kernel) only [q',D.ints,go_sem,Qa,Qb,Qc,Qd,Qe,↓reduceIte,reduceCtorEq,Qf,Qg,Qh])<;>clear q') | refine hN _ ?_ ?_ Wk.kk | with_reducible refine And.intro ?_ ?_ | with_reducible omega | exact ok_ints | exact cells_ints | exact no_mem | with_reducible exact plain_ints | (refine le_maxLen ?_; omega) | (refine za9 ⟨?_,?_⟩) | (simp only [go_sem,Qc,Qb,zb1,zb2,forall_eq]; done)))
 exact ret_cbd rfl rfl rfl (by simp only [go_sem]) (by simp only [go_sem,List.length_cons,List.length_nil]) rfl (by simp only [go_sem]) rfl rfl
set_option maxHeartbeats 4000000 in
theorem dividePlaneK_ok (ho : oddK k q=false) :
 Ctr Tryz.prog 116 [D.pl q,.int .i64 k] true (.tup [.d (D.pl (halfK k q)),.d (.bool true)]) []:=by
 have c1:=containsFunc1_ok q.co 135 (.ptr (.int .i64 k)) (fun x => !decide (x.tmod k=0)) hl fun x => divK1_ok k x hk.1
 have c2:=combined1_ok q q 136 (.ptr (.int .i64 k)) (fun a _ => upK k a) hl (Nat.le_refl _) (divK2_ok _ _ _ hk (by have:=bq.2; omega)) fun i _ => divK2_ok _ _ _ hk (by have:=bq.1 i; omega)
 change Ctr _ _ _ _ (AV.d (D.bool (oddK k q))) _ at c1
 rw [ho] at c1
 refine Ctr.of (n:=15) (rs:=[.cell 4 43,.tmp 5]) Tryz.func116 rfl rfl Tryz.ntmps116 rfl rfl (by kernel_rfl) Tryz.checked.mixed ?_
 simp (disch:=first | omega | decide +kernel) only [D.ints,go_sem,Qa,Qb,Qc,Qd,Qe,↓reduceIte,reduceCtorEq,Qf,Qg,Qh]
 (repeat' (first | ((first | (refine gsel_split (fun q' => ?_) (fun q' => ?_)<;>(have h':=q')<;>(try simp only [za1,za2,Ba,Bb,za3,ne_eq,za4,za5,za6,Ia,Ib,Ic,Ie,Da,Bc,Bd,Be,za7,za8] at h')) | (have q':=trivial; first | refine callX_new (c1) rfl (by decide) ?_ | refine callY_new (c1) rfl ?_ | refine callX_new (c2) rfl (by decide) ?_ | refine callY_new (c2) rfl ?_ | refine hE _ _ ret_ne ?_ | refine hE _ _ exit_ne ?_))<;>(try simp (disch:=first | omega | decide +kernel) only [q',D.ints,go_sem,Qa,Qb,Qc,Qd,Qe,↓reduceIte,reduceCtorEq,Qf,Qg,Qh])<;>clear q') | refine hN _ ?_ ?_ Wk.kk | with_reducible refine And.intro ?_ ?_ | with_reducible omega | exact ok_ints | exact cells_ints | exact no_mem | with_reducible exact plain_ints | (refine le_maxLen ?_; omega) | (refine za9 ⟨?_,?_⟩) | (simp only [go_sem,Qc,Qb,zb1,zb2,forall_eq]; done)))
 exact ret_scbd [1500000] rfl rfl rfl (by simp only [go_sem]) (by simp only [go_sem,List.length_cons,List.length_nil]) rfl (by simp only [go_sem])
set_option maxHeartbeats 4000000 in
theorem scalePlane_ok (hn2 : n<=1000000) : Ctr Tryz.prog 77 [D.pl q,.int .i64 k] true (.d (D.pl (zipP (fun a _ => k * a) q q))) []:=by
 have b1:=bq.2
 have s1 : ∀ a b : Int,-n<=a∧a<=n->Ctr Tryz.prog 115 [.int .i64 a,.int .i64 b,.ptr (.int .i64 k)] false (.d (.int .i64 (k * a))) []:=fun a b ha => by
  refine Ctr.of (n:=9) (rs:=[.tmp 5]) Tryz.func115 rfl rfl Tryz.ntmps115 rfl rfl (by kernel_rfl) Tryz.checked.mixed ?_
  simp (disch:=first | omega | decide +kernel) only [go_sem,Qa,Qb,Qc,Qd,Qe,↓reduceIte,reduceCtorEq,Qf,Qg,Qh]
  (repeat' (first | ((first | (refine gsel_split (fun q' => ?_) (fun q' => ?_)<;>(have h':=q')<;>(try simp only [za1,za2,Ba,Bb,za3,ne_eq,za4,za5,za6,Ia,Ib,Ic,Ie,Da,Bc,Bd,Be,za7,za8] at h')) | (have q':=trivial; first | refine hE _ _ ret_ne ?_ | refine hE _ _ exit_ne ?_))<;>(try simp (disch:=first | omega | decide +kernel) only [q',go_sem,Qa,Qb,Qc,Qd,Qe,↓reduceIte,reduceCtorEq,Qf,Qg,Qh])<;>clear q') | refine hN _ ?_ ?_ Wk.kk | with_reducible refine And.intro ?_ ?_ | with_reducible omega | exact ok_ints | exact cells_ints | exact no_mem | with_reducible exact plain_ints | (refine le_maxLen ?_; omega) | (refine za9 ⟨?_,?_⟩) | (simp only [go_sem,Qc,Qb,zb1,zb2,forall_eq]; done)))
  all_goals (have:=mul_bd hk ha; rw [wrap_of (by omega)])
 have c2:=combined1_ok q q 115 (.ptr (.int .i64 k)) (fun a _ => k * a) hl (Nat.le_refl _) (s1 _ _ b1) fun i _ => s1 _ _ (bq.1 i)
 refine Ctr.of (n:=9) (rs:=[.cell 4 43]) Tryz.func77 rfl rfl Tryz.ntmps77 rfl rfl (by kernel_rfl) Tryz.checked.mixed ?_
 simp (disch:=first | omega | decide +kernel) only [D.ints,go_sem,Qa,Qb,Qc,Qd,Qe,↓reduceIte,reduceCtorEq,Qf,Qg,Qh]
 (repeat' (first | ((first | (refine gsel_split (fun q' => ?_) (fun q' => ?_)<;>(have h':=q')<;>(try simp only [za1,za2,Ba,Bb,za3,ne_eq,za4,za5,za6,Ia,Ib,Ic,Ie,Da,Bc,Bd,Be,za7,za8] at h')) | (have q':=trivial; first | refine callX_new (c2) rfl (by decide) ?_ | refine callY_new (c2) rfl ?_ | refine hE _ _ ret_ne ?_ | refine hE _ _ exit_ne ?_))<;>(try simp (disch:=first | omega | decide +kernel) only [q',D.ints,go_sem,Qa,Qb,Qc,Qd,Qe,↓reduceIte,reduceCtorEq,Qf,Qg,Qh])<;>clear q') | refine hN _ ?_ ?_ Wk.kk | with_reducible refine And.intro ?_ ?_ | with_reducible omega | exact ok_ints | exact cells_ints | exact no_mem | with_reducible exact plain_ints | (refine le_maxLen ?_; omega) | (refine za9 ⟨?_,?_⟩) | (simp only [go_sem,Qc,Qb,zb1,zb2,forall_eq]; done)))
 exact ret_scb [900000] rfl rfl (by simp only [go_sem]) (by simp only [go_sem,List.length_cons,List.length_nil]) rfl (by simp only [go_sem])
set_option maxHeartbeats 4000000 in
theorem l16Scale_ok (hn2 : n<=1000000) : Ctr Tryz.prog 82 [D.pl q,.int .i64 k] true (.d (D.pl (zipP (fun a _ => k * a) q q))) []:=by
 have b1:=mul_bd hk bq.2
 rw [Int.mul_comm k] at b1
 refine Ctr.of (n:=32) (rs:=[.cell 4 43]) Tryz.func82 rfl rfl Tryz.ntmps82 rfl rfl (by kernel_rfl) Tryz.checked.mixed ?_
 simp (disch:=first | omega | decide +kernel) only [D.ints,go_sem,Qa,Qb,Qc,Qd,Qe,↓reduceIte,reduceCtorEq,Qf,Qg,Qh]
 (repeat' (first | ((first | (refine gsel_split (fun q' => ?_) (fun q' => ?_)<;>(have h':=q')<;>(try simp only [za1,za2,Ba,Bb,za3,ne_eq,za4,za5,za6,Ia,Ib,Ic,Ie,Da,Bc,Bd,Be,za7,za8] at h')) | (have q':=trivial; first | refine hE _ _ ret_ne ?_ | refine hE _ _ exit_ne ?_))<;>(try simp (disch:=first | omega | decide +kernel) only [q',go_sem,Qa,Qb,Qc,Qd,Qe,↓reduceIte,reduceCtorEq,Qf,Qg,Qh])<;>clear q') | refine hN _ ?_ ?_ Wk.kk | with_reducible refine And.intro ?_ ?_ | with_reducible omega | exact ok_ints | exact cells_ints | exact no_mem | with_reducible exact plain_ints | (refine le_maxLen ?_; omega) | (refine za9 ⟨?_,?_⟩) | (simp only [go_sem,Qc,Qb,zb1,zb2,forall_eq]; done)))
 refine Ok.loopN [30,29,28,27,26,25,24,23,22,21,20,19,18,17,16,15,14,13,12,11,10,9,8,7,6,3,0] (fun i _ => [(6,.d (.int .i64 (i : Nat)))]) (fun _ (cur : List Int) => [(5,.box 43 [.sl 29,.d (.int .i64 (q.bd * k))]),(29,.arr 3 1 (List.map (D.int .i64) cur))]) q.co.length
  (fun i cur => cur=(List.range i).map fun i => k * q.co.getD i 0) [] rfl ((Wk.nilObj 29 5 0 rfl rfl (by simp) (by decide) (e:=3) (k:=1) (by decide)).trans (by refine Wk.auto ?_ ?_<;>simp [extraK,lk,killL,St.kill,wipeO,wipeS,AV.has,AV.hasL,AO.wipe,List.map_set,updSt,insL,dropS,ins,setL])) ?_
 rintro R i cur hN hE hi hcu
 by_cases hlt : i < q.co.length
 . have hcl : cur.length=i:=by rw [hcu]; simp
   have b3:=mul_bd hk (bq.1 i)
   rw [Int.mul_comm k] at b3
   simp (disch:=first | omega | decide +kernel) only [D.ints,go_sem,Qa,Qb,Qc,Qd,Qe,↓reduceIte,reduceCtorEq,Qf,Qg,Qh]
   (repeat' (first | ((first | (refine gsel_split (fun q' => ?_) (fun q' => ?_)<;>(have h':=q')<;>(try simp only [za1,za2,Ba,Bb,za3,ne_eq,za4,za5,za6,Ia,Ib,Ic,Ie,Da,Bc,Bd,Be,za7,za8] at h')) | (have q':=trivial; first | refine hE _ _ ret_ne ?_ | refine hE _ _ exit_ne ?_))<;>(try simp (disch:=first | omega | decide +kernel) only [q',go_sem,Qa,Qb,Qc,Qd,Qe,↓reduceIte,reduceCtorEq,Qf,Qg,Qh])<;>clear q') | refine hN _ ?_ ?_ Wk.kk | with_reducible refine And.intro ?_ ?_ | with_reducible omega | exact ok_ints | exact cells_ints | exact no_mem | with_reducible exact plain_ints | (refine le_maxLen ?_; omega) | (refine za9 ⟨?_,?_⟩) | (simp only [go_sem,Qc,Qb,zb1,zb2,forall_eq]; done)))
   exact hN (cur++[q.co.getD i 0 * k]) _ hlt (by rw [hcu,List.range_succ,List.map_append,Int.mul_comm]; rfl) (by refine Wk.auto ?_ ?_<;>simp [extraK,lk,killL,St.kill,wipeO,wipeS,AV.has,AV.hasL,AO.wipe,List.map_set,updSt,insL,dropS,ins,List.map_append])
 . simp (disch:=first | omega | decide +kernel) only [D.ints,go_sem,Qa,Qb,Qc,Qd,Qe,↓reduceIte,reduceCtorEq,Qf,Qg,Qh]
   (repeat' (first | ((first | (refine gsel_split (fun q' => ?_) (fun q' => ?_)<;>(have h':=q')<;>(try simp only [za1,za2,Ba,Bb,za3,ne_eq,za4,za5,za6,Ia,Ib,Ic,Ie,Da,Bc,Bd,Be,za7,za8] at h')) | (have q':=trivial; first | refine hE _ _ ret_ne ?_ | refine hE _ _ exit_ne ?_))<;>(try simp (disch:=first | omega | decide +kernel) only [q',go_sem,Qa,Qb,Qc,Qd,Qe,↓reduceIte,reduceCtorEq,Qf,Qg,Qh])<;>clear q') | refine hN _ ?_ ?_ Wk.kk | with_reducible refine And.intro ?_ ?_ | with_reducible omega | exact ok_ints | exact cells_ints | exact no_mem | with_reducible exact plain_ints | (refine le_maxLen ?_; omega) | (refine za9 ⟨?_,?_⟩) | (simp only [go_sem,Qc,Qb,zb1,zb2,forall_eq]; done)))
   obtain rfl : i=q.co.length:=by omega
   rw [zipP,zipL,← hcu,Int.mul_comm k]
   exact ret_scb [29] rfl rfl (by simp only [go_sem]) (by simp only [go_sem,List.length_cons,List.length_nil]) rfl (by simp only [go_sem])
def divKP (k : Int) (q : Pl) : Pl:=if oddK k q then ⟨[],0⟩ else halfK k q
set_option maxHeartbeats 4000000 in
theorem l16DivideK_ok :
 Ctr Tryz.prog 83 [D.pl q,.int .i64 k] true (.tup [.d (D.pl (divKP k q)),.d (.bool (!oddK k q))]) []:=by
 have b1:=bq.2
 have hk0 : ¬ k=0:=by omega
 have c1:=l16UpK_ok q.bd k hk (by omega)
 refine Ctr.of (n:=42) (rs:=[.cell 4 43,.tmp 5]) Tryz.func83 rfl rfl Tryz.ntmps83 rfl rfl (by kernel_rfl) Tryz.checked.mixed ?_
 simp (disch:=first | omega | decide +kernel) only [D.ints,go_sem,Qa,Qb,Qc,Qd,Qe,↓reduceIte,reduceCtorEq,Qf,Qg,Qh]
 (repeat' (first | ((first | (refine gsel_split (fun q' => ?_) (fun q' => ?_)<;>(have h':=q')<;>(try simp only [za1,za2,Ba,Bb,za3,ne_eq,za4,za5,za6,Ia,Ib,Ic,Ie,Da,Bc,Bd,Be,za7,za8] at h')) | (have q':=trivial; first | refine callX_new (c1) rfl (by decide) ?_ | refine callY_new (c1) rfl ?_ | refine hE _ _ ret_ne ?_ | refine hE _ _ exit_ne ?_))<;>(try simp (disch:=first | omega | decide +kernel) only [q',go_sem,Qa,Qb,Qc,Qd,Qe,↓reduceIte,reduceCtorEq,Qf,Qg,Qh])<;>clear q') | refine hN _ ?_ ?_ Wk.kk | with_reducible refine And.intro ?_ ?_ | with_reducible omega | exact ok_ints | exact cells_ints | exact no_mem | with_reducible exact plain_ints | (refine le_maxLen ?_; omega) | (refine za9 ⟨?_,?_⟩) | (simp only [go_sem,Qc,Qb,zb1,zb2,forall_eq]; done)))
 refine Ok.loopN [40,39,38,37,36,35,34,33,32,31,30,29,28,27,26,25,24,23,22,21,20,19,18,17,16,15,14,13,12,11,10,9,8,7,5,3,0] (fun i _ => [(7,.d (.int .i64 (i : Nat)))]) (fun _ (cur : List Int) => [(6,.box 43 [.sl 39,.d (.int .i64 (upK k q.bd))]),(39,.arr 3 1 (List.map (D.int .i64) cur))]) q.co.length
  (fun i cur => cur=((List.range i).map fun i => upK k (q.co.getD i 0))∧∀ j,j < i->(q.co.getD j 0).tmod k=0) [] ⟨rfl,by simp⟩ ((Wk.nilObj 39 6 0 rfl rfl (by simp) (by decide) (e:=3) (k:=1) (by decide)).trans (by refine Wk.auto ?_ ?_<;>simp [extraK,lk,killL,St.kill,wipeO,wipeS,AV.has,AV.hasL,AO.wipe,List.map_set,updSt,insL,dropS,ins,setL])) ?_
 rintro R i cur hN hE hi ⟨hcr,hcu⟩
 have hcl : cur.length=i:=by rw [hcr]; simp
 by_cases hlt : i < q.co.length
 . have b3:=bq.1 i
   have b4:=tdiv_bd (q.co.getD i 0) k hk.1
   by_cases h0 : (q.co.getD i 0).tmod k=0
   . have e4 : upK k (q.co.getD i 0)=(q.co.getD i 0).tdiv k:=by unfold upK; rw [h0]; simp
     have e5 : ((q.co.getD i 0).tmod k != 0)=false:=by rw [h0]; rfl
     simp (disch:=first | omega | decide +kernel) only [D.ints,e5,go_sem,Qa,Qb,Qc,Qd,Qe,↓reduceIte,reduceCtorEq,Qf,Qg,Qh]
     (repeat' (first | ((first | (refine gsel_split (fun q' => ?_) (fun q' => ?_)<;>(have h':=q')<;>(try simp only [za1,za2,Ba,Bb,za3,ne_eq,za4,za5,za6,Ia,Ib,Ic,Ie,Da,Bc,Bd,Be,za7,za8] at h')) | (have q':=trivial; first | refine hE _ _ ret_ne ?_ | refine hE _ _ exit_ne ?_))<;>(try simp (disch:=first | omega | decide +kernel) only [q',e5,go_sem,Qa,Qb,Qc,Qd,Qe,↓reduceIte,reduceCtorEq,Qf,Qg,Qh])<;>clear q') | refine hN _ ?_ ?_ Wk.kk | with_reducible refine And.intro ?_ ?_ | with_reducible omega | exact ok_ints | exact cells_ints | exact no_mem | with_reducible exact plain_ints | (refine le_maxLen ?_; omega) | (refine za9 ⟨?_,?_⟩) | (simp only [go_sem,Qc,Qb,zb1,zb2,forall_eq]; done)))
     exact hN (cur++[(q.co.getD i 0).tdiv k]) _ hlt ⟨by rw [hcr,List.range_succ,List.map_append,← e4]; rfl,all_succ hcu h0⟩ (by refine Wk.auto ?_ ?_<;>simp [extraK,lk,killL,St.kill,wipeO,wipeS,AV.has,AV.hasL,AO.wipe,List.map_set,updSt,insL,dropS,ins,List.map_append])
   . have e5 : ((q.co.getD i 0).tmod k != 0)=true:=bne_iff_ne.2 h0
     simp (disch:=first | omega | decide +kernel) only [D.ints,e5,go_sem,Qa,Qb,Qc,Qd,Qe,↓reduceIte,reduceCtorEq,Qf,Qg,Qh]
     (repeat' (first | ((first | (refine gsel_split (fun q' => ?_) (fun q' => ?_)<;>(have h':=q')<;>(try simp only [za1,za2,Ba,Bb,za3,ne_eq,za4,za5,za6,Ia,Ib,Ic,Ie,Da,Bc,Bd,Be,za7,za8] at h')) | (have q':=trivial; first | refine hE _ _ ret_ne ?_ | refine hE _ _ exit_ne ?_))<;>(try simp (disch:=first | omega | decide +kernel) only [q',e5,go_sem,Qa,Qb,Qc,Qd,Qe,↓reduceIte,reduceCtorEq,Qf,Qg,Qh])<;>clear q') | refine hN _ ?_ ?_ Wk.kk | with_reducible refine And.intro ?_ ?_ | with_reducible omega | exact ok_ints | exact cells_ints | exact no_mem | with_reducible exact plain_ints | (refine le_maxLen ?_; omega) | (refine za9 ⟨?_,?_⟩) | (simp only [go_sem,Qc,Qb,zb1,zb2,forall_eq]; done)))
     have ho : oddK k q=true:=by
      unfold oddK
      exact any_true (z:=0) hlt (by simpa using h0)
     rw [divKP,if_pos ho,ho]
     exact ret_scbd [] rfl rfl rfl (by simp only [go_sem]) (by simp only [go_sem,List.length_cons,List.length_nil]) rfl (by simp only [go_sem])
 . simp (disch:=first | omega | decide +kernel) only [D.ints,go_sem,Qa,Qb,Qc,Qd,Qe,↓reduceIte,reduceCtorEq,Qf,Qg,Qh]
   (repeat' (first | ((first | (refine gsel_split (fun q' => ?_) (fun q' => ?_)<;>(have h':=q')<;>(try simp only [za1,za2,Ba,Bb,za3,ne_eq,za4,za5,za6,Ia,Ib,Ic,Ie,Da,Bc,Bd,Be,za7,za8] at h')) | (have q':=trivial; first | refine hE _ _ ret_ne ?_ | refine hE _ _ exit_ne ?_))<;>(try simp (disch:=first | omega | decide +kernel) only [q',go_sem,Qa,Qb,Qc,Qd,Qe,↓reduceIte,reduceCtorEq,Qf,Qg,Qh])<;>clear q') | refine hN _ ?_ ?_ Wk.kk | with_reducible refine And.intro ?_ ?_ | with_reducible omega | exact ok_ints | exact cells_ints | exact no_mem | with_reducible exact plain_ints | (refine le_maxLen ?_; omega) | (refine za9 ⟨?_,?_⟩) | (simp only [go_sem,Qc,Qb,zb1,zb2,forall_eq]; done)))
   have ho : oddK k q=false:=by
    unfold oddK
    exact any_false (z:=0) fun j hj => by simpa using hcu j (by omega)
   obtain rfl : i=q.co.length:=by omega
   rw [divKP,ho,if_neg (by decide),halfK,zipP,zipL,← hcr]
   exact ret_scbd [39] rfl rfl rfl (by simp only [go_sem]) (by simp only [go_sem,List.length_cons,List.length_nil]) rfl (by simp only [go_sem])
end
end Abs.Y
