/- What functions of this program compute, over plain data. No condition. -/
import Derived.Test.YtdohpocdlkcaoaaFF4
import Derived.Test.YtdohpocdlkcaoaaFF2
import Derived.Test.YtdohpocdlkcaoaaFA2
set_option linter.all false
namespace Abs.Y
open Go Go.Proofs Abs
open Nat renaming reduceEqDiff -> Qa, reduceLT -> Qb, reduceAdd -> Qc, reduceMul -> Qd, reduceSub -> Qe, reduceLeDiff -> Qf, reduceSubDiff -> Qg, reduceBEq -> Qh
open Bool renaming not_eq_true' -> Ba, not_eq_false' -> Bb, and_eq_true -> Bc, or_eq_true -> Bd, or_eq_false_iff -> Be
open Int renaming ofNat_lt -> Ia, ofNat_le -> Ib, not_lt -> Ic, not_le -> Ie
open Decidable renaming not_not -> Da
set_option maxRecDepth 100000

def badJ (n : Int) (j : Int) : Bool:=!(decide (0<=j) && decide (j<=n))
def bmB (n : Nat) (h : List Int) : Nat->Nat
 | 0 => 0
 | i + 1 => if 0 < h.getD i 0 then bmB n h i ||| 2 ^ (i * n + (h.getD i 0).toNat - 1) else bmB n h i
theorem bm_p {n i j : Nat} (hn : 1<=n∧n<=3) (hi : i < n + 1) (hj : 1<=j∧j<=n) : i * n + j - 1<=11∧i * n<=9:=by
 rcases (by omega : n=1∨n=2∨n=3) with rfl | rfl | rfl<;>omega
theorem bmB_lt {n : Nat} {h : List Int} (hn : 1<=n∧n<=3) : ∀ i,i<=n + 1->(∀ k,k < i->badJ n (h.getD k 0)=false)->bmB n h i < 2 ^ 12
 | 0,_,_ => by show (0 : Nat) < 2 ^ 12; decide
 | i + 1, hi, hb => by
   have ih:=bmB_lt hn i (by omega) fun k hk => hb k (by omega)
   rw [bmB]
   split
   . rename_i h0
     have h1:=hb i (by omega)
     unfold badJ at h1
     simp only [Bb,Bc,decide_eq_true_eq] at h1
     have:=(bm_p hn (i:=i) (j:=(h.getD i 0).toNat) (by omega) (by omega)).1
     exact Nat.or_lt_two_pow ih (Nat.pow_lt_pow_right (by decide) (by omega))
   . exact ih
theorem badJ_ok (n j : Int) : Ctr Try.prog 125 [.int .i64 j,.ptr (.int .i64 n)] false (.d (.bool (badJ n j))) []:=by
 have c1:=within_ok j 0 n
 unfold badJ
 refine Ctr.of (n:=8) (rs:=[.tmp 3]) Try.func125 rfl rfl Try.ntmps125 rfl rfl (by kernel_rfl) Try.checked.mixed ?_
 simp (disch:=first | omega | decide +kernel) only [go_sem,Qa,Qb,Qc,Qd,Qe,↓reduceIte,reduceCtorEq,Qf,Qg,Qh]
 (repeat' (first | ((first | (refine gsel_split (fun q' => ?_) (fun q' => ?_)<;>(have h':=q')<;>(try simp only [za1,za2,Ba,Bb,za3,ne_eq,za4,za5,za6,Ia,Ib,Ic,Ie,Da,Bc,Bd,Be,za7,za8] at h')) | (have q':=trivial; first | refine callX_new (c1) rfl (by decide) ?_ | refine callY_new (c1) rfl ?_ | refine hE _ _ ret_ne ?_ | refine hE _ _ exit_ne ?_))<;>(try simp (disch:=first | omega | decide +kernel) only [q',go_sem,Qa,Qb,Qc,Qd,Qe,↓reduceIte,reduceCtorEq,Qf,Qg,Qh])<;>clear q') | refine hN _ ?_ ?_ Wk.kk | with_reducible refine And.intro ?_ ?_ | with_reducible omega | exact ok_ints | exact cells_ints | exact no_mem | with_reducible exact plain_ints | (refine le_maxLen ?_; omega) | (refine za9 ⟨?_,?_⟩) | (simp only [go_sem,Qc,Qb,zb1,zb2,forall_eq]; done)))
theorem any_idx {p : Int->Bool} {h : List Int} (hp : h.any p=false) : ∀ i,i < h.length->p (h.getD i 0)=false:=fun i hi => by
 rw [List.any_eq_false] at hp
 have:=hp _ (getD_mem (z:=(0 : Int)) hi)
 simpa using this
set_option maxHeartbeats 4000000 in
theorem iBits_yes (n : Nat) (h : List Int) (hn : 1<=n∧n<=3) (hl : h.length=n + 1) (hb : h.any (badJ n)=false) :
 Ctr Try.prog 43 [.int .i64 (n : Nat),.ints h] false (.tup [.d (.int .i64 (bmB n h (n + 1) : Nat)),.d (.bool true)]) []:=by
 have c1:=holesOk_ok n
 rw [show (decide ((1 : Int)<=(n : Int)) && decide ((n : Int)<=3))=true by simp; omega] at c1
 have c2:=containsFuncM_ok h 125 (.ptr (.int .i64 (n : Nat))) (badJ n) (by omega) fun i _ => badJ_ok n (h.getD i 0)
 rw [hb] at c2
 have hne : (h.length : Int)=(n : Int) + 1:=by omega
 have hb0 : bmB n h 0=0:=rfl
 refine Ctr.of (n:=44) (rs:=[.tmp 4,.tmp 5]) Try.func43 rfl rfl Try.ntmps43 rfl rfl (by kernel_rfl) Try.checked.mixed ?_
 simp (disch:=first | omega | decide +kernel) only [D.ints,go_sem,Qa,Qb,Qc,Qd,Qe,↓reduceIte,reduceCtorEq,Qf,Qg,Qh]
 (repeat' (first | ((first | (refine gsel_split (fun q' => ?_) (fun q' => ?_)<;>(have h':=q')<;>(try simp only [za1,za2,Ba,Bb,za3,ne_eq,za4,za5,za6,Ia,Ib,Ic,Ie,Da,Bc,Bd,Be,za7,za8] at h')<;>try (exfalso; omega)) | (have q':=trivial; first | refine callX_new (c1) rfl (by decide) ?_ | refine callY_new (c1) rfl ?_ | refine callX_new (c2) rfl (by decide) ?_ | refine callY_new (c2) rfl ?_ | refine hE _ _ ret_ne ?_ | refine hE _ _ exit_ne ?_))<;>(try simp (disch:=first | omega | decide +kernel) only [q',D.ints,go_sem,Qa,Qb,Qc,Qd,Qe,↓reduceIte,reduceCtorEq,Qf,Qg,Qh])<;>clear q') | refine hN _ ?_ ?_ Wk.kk | with_reducible refine And.intro ?_ ?_ | with_reducible omega | exact ok_ints | exact cells_ints | exact no_mem | with_reducible exact plain_ints | (refine le_maxLen ?_; omega) | (refine za9 ⟨?_,?_⟩) | (simp only [go_sem,Qc,Qb,zb1,zb2,forall_eq]; done)))
 all_goals (try exact absurd trivial h')
 refine Ok.loopN [43,42,41,40,39,38,37,36,35,34,33,32,31,30,29,28,27,26,23,22,21,20,19,18,17,16,15,14,13,12,11,10,9,8,7,6,5,4,3,1,0] (fun i (_ : Unit) => [(26,.d (.int .i64 (i : Nat))),(6,.d (.int .i64 (bmB n h i : Nat)))]) (fun _ _ => []) (n + 1) (fun _ _ => True) () trivial (by refine Wk.auto ?_ ?_<;>simp [extraK,lk,killL,St.kill,wipeO,wipeS,AV.has,AV.hasL,AO.wipe,List.map_set,updSt,insL,dropS,ins,hb0]) ?_
 rintro R i _ hN hE hi _
 by_cases hlt : i < n + 1
 . have hei:=el_ints (xs:=h) (i:=i) (by omega)
   have hbi:=any_idx hb i (by omega)
   have hbl:=bmB_lt (h:=h) hn i (by omega) fun k hk => any_idx hb k (by omega)
   unfold badJ at hbi
   simp only [Bb,Bc,decide_eq_true_eq] at hbi
   have hs : bmB n h (i + 1)=if 0 < h.getD i 0 then bmB n h i ||| 2 ^ (i * n + (h.getD i 0).toNat - 1) else bmB n h i:=rfl
   generalize h.getD i 0=j at *
   generalize bmB n h i=B at *
   generalize bmB n h (i + 1)=B' at *
   by_cases hj : 0 < j
   . rw [if_pos hj] at hs
     obtain ⟨b1,b2⟩:=bm_p hn (i:=i) (j:=j.toNat) (by omega) (by omega)
     have c3:=pigeonVar_ok n (i + 1) j.toNat hn.2 (by omega) (by omega)
     rw [show ((i + 1 : Nat) : Int)=(i : Int) + 1 by omega,Int.toNat_of_nonneg (by omega)] at c3
     have hx : pvar n (i + 1) j.toNat - 1=((i * n + j.toNat - 1 : Nat) : Int):=by
      have : ((i + 1 : Nat) : Int) - 1=(i : Int):=by omega
      have e : (i : Int) * (n : Int)=((i * n : Nat) : Int):=by simp
      unfold pvar
      rw [this,e]; omega
     have hx2 : pvar n (i + 1) j.toNat<=100∧-100<=pvar n (i + 1) j.toNat:=by omega
     generalize pvar n (i + 1) j.toNat=x at *
     generalize i * n + j.toNat - 1=p at *
     have e1 : IntKind.wrap .i64 (1 * 2 ^ min p 64)=((2 ^ p : Nat) : Int):=shl_one (by omega)
     have hq : 2 ^ p<=2 ^ 11:=Nat.pow_le_pow_right (by decide) b1
     generalize 2 ^ p=q at *
     have e2 : bitV .or .i64 (B : Nat) (q : Nat)=((B ||| q : Nat) : Int):=bitV_or (by omega) (by omega)
     rw [← hs] at e2
     clear hs c1 c2
     simp (disch:=first | omega | decide +kernel) only [hei,hl,hx,e1,e2,Int.toNat_natCast,go_sem,Qa,Qb,Qc,Qd,Qe,↓reduceIte,reduceCtorEq,Qf,Qg,Qh]
     (repeat' (first | ((first | (refine gsel_split (fun q' => ?_) (fun q' => ?_)<;>(have h':=q')<;>(try simp only [za1,za2,Ba,Bb,za3,ne_eq,za4,za5,za6,Ia,Ib,Ic,Ie,Da,Bc,Bd,Be,za7,za8] at h')<;>try (exfalso; omega)) | (have q':=trivial; first | refine callX_new (c3) rfl (by decide) ?_ | refine callY_new (c3) rfl ?_ | refine hE _ _ ret_ne ?_ | refine hE _ _ exit_ne ?_))<;>(try simp (disch:=first | omega | decide +kernel) only [q',hei,hl,hx,e1,e2,Int.toNat_natCast,go_sem,Qa,Qb,Qc,Qd,Qe,↓reduceIte,reduceCtorEq,Qf,Qg,Qh])<;>clear q') | refine hN _ ?_ ?_ Wk.kk | with_reducible refine And.intro ?_ ?_ | with_reducible omega | exact ok_ints | exact cells_ints | exact no_mem | with_reducible exact plain_ints | (refine le_maxLen ?_; omega) | (refine za9 ⟨?_,?_⟩) | (simp only [go_sem,Qc,Qb,zb1,zb2,forall_eq]; done)))
     all_goals (first | omega | exact hN () _ hlt trivial (by refine Wk.auto ?_ ?_<;>simp [extraK,lk,killL,St.kill,wipeO,wipeS,AV.has,AV.hasL,AO.wipe,List.map_set,updSt,insL,dropS,ins,hl,hne]))
   . rw [if_neg hj] at hs
     subst hs
     simp (disch:=first | omega | decide +kernel) only [hei,hl,go_sem,Qa,Qb,Qc,Qd,Qe,↓reduceIte,reduceCtorEq,Qf,Qg,Qh]
     (repeat' (first | ((first | (refine gsel_split (fun q' => ?_) (fun q' => ?_)<;>(have h':=q')<;>(try simp only [za1,za2,Ba,Bb,za3,ne_eq,za4,za5,za6,Ia,Ib,Ic,Ie,Da,Bc,Bd,Be,za7,za8] at h')<;>try (exfalso; omega)) | (have q':=trivial; first | refine hE _ _ ret_ne ?_ | refine hE _ _ exit_ne ?_))<;>(try simp (disch:=first | omega | decide +kernel) only [q',hei,hl,go_sem,Qa,Qb,Qc,Qd,Qe,↓reduceIte,reduceCtorEq,Qf,Qg,Qh])<;>clear q') | refine hN _ ?_ ?_ Wk.kk | with_reducible refine And.intro ?_ ?_ | with_reducible omega | exact ok_ints | exact cells_ints | exact no_mem | with_reducible exact plain_ints | (refine le_maxLen ?_; omega) | (refine za9 ⟨?_,?_⟩) | (simp only [go_sem,Qc,Qb,zb1,zb2,forall_eq]; done)))
     all_goals (first | omega | exact hN () _ hlt trivial (by refine Wk.auto ?_ ?_<;>simp [extraK,lk,killL,St.kill,wipeO,wipeS,AV.has,AV.hasL,AO.wipe,List.map_set,updSt,insL,dropS,ins,hl,hne]))
 . obtain rfl : i=n + 1:=by omega
   simp (disch:=first | omega | decide +kernel) only [hl,go_sem,Qa,Qb,Qc,Qd,Qe,↓reduceIte,reduceCtorEq,Qf,Qg,Qh]
   (repeat' (first | ((first | (refine gsel_split (fun q' => ?_) (fun q' => ?_)<;>(have h':=q')<;>(try simp only [za1,za2,Ba,Bb,za3,ne_eq,za4,za5,za6,Ia,Ib,Ic,Ie,Da,Bc,Bd,Be,za7,za8] at h')<;>try (exfalso; omega)) | (have q':=trivial; first | refine hE _ _ ret_ne ?_ | refine hE _ _ exit_ne ?_))<;>(try simp (disch:=first | omega | decide +kernel) only [q',hl,go_sem,Qa,Qb,Qc,Qd,Qe,↓reduceIte,reduceCtorEq,Qf,Qg,Qh])<;>clear q') | refine hN _ ?_ ?_ Wk.kk | with_reducible refine And.intro ?_ ?_ | with_reducible omega | exact ok_ints | exact cells_ints | exact no_mem | with_reducible exact plain_ints | (refine le_maxLen ?_; omega) | (refine za9 ⟨?_,?_⟩) | (simp only [go_sem,Qc,Qb,zb1,zb2,forall_eq]; done)))
theorem iBits_no (n : Int) (h : List Int) (hl : h.length<=1000) (hb : (decide (1<=n) && decide (n<=3))=false∨(h.length : Int) ≠ n + 1∨h.any (badJ n)=true) :
 Ctr Try.prog 43 [.int .i64 n,.ints h] false (.tup [.d (.int .i64 0),.d (.bool false)]) []:=by
 have c1:=holesOk_ok n
 have c2:=containsFuncM_ok h 125 (.ptr (.int .i64 n)) (badJ n) (by omega) fun i _ => badJ_ok n (h.getD i 0)
 cases h1 : (decide (1<=n) && decide (n<=3)) with
 | false =>
   rw [h1] at c1
   refine Ctr.of (n:=44) (rs:=[.tmp 4,.tmp 5]) Try.func43 rfl rfl Try.ntmps43 rfl rfl (by kernel_rfl) Try.checked.mixed ?_
   simp (disch:=first | omega | decide +kernel) only [D.ints,go_sem,Qa,Qb,Qc,Qd,Qe,↓reduceIte,reduceCtorEq,Qf,Qg,Qh]
   (repeat' (first | ((first | (refine gsel_split (fun q' => ?_) (fun q' => ?_)<;>(have h':=q')<;>(try simp only [za1,za2,Ba,Bb,za3,ne_eq,za4,za5,za6,Ia,Ib,Ic,Ie,Da,Bc,Bd,Be,za7,za8] at h')<;>try (exfalso; omega)) | (have q':=trivial; first | refine callX_new (c1) rfl (by decide) ?_ | refine callY_new (c1) rfl ?_ | refine callX_new (c2) rfl (by decide) ?_ | refine callY_new (c2) rfl ?_ | refine hE _ _ ret_ne ?_ | refine hE _ _ exit_ne ?_))<;>(try simp (disch:=first | omega | decide +kernel) only [q',D.ints,go_sem,Qa,Qb,Qc,Qd,Qe,↓reduceIte,reduceCtorEq,Qf,Qg,Qh])<;>clear q') | refine hN _ ?_ ?_ Wk.kk | with_reducible refine And.intro ?_ ?_ | with_reducible omega | exact ok_ints | exact cells_ints | exact no_mem | with_reducible exact plain_ints | (refine le_maxLen ?_; omega) | (refine za9 ⟨?_,?_⟩) | (simp only [go_sem,Qc,Qb,zb1,zb2,forall_eq]; done)))
   all_goals trace_state
 | true =>
   have h1':=h1
   simp only [Bc,decide_eq_true_eq] at h1'
   rw [h1] at c1 hb
   by_cases h2 : (h.length : Int)=n + 1
   . obtain h3 : h.any (badJ n)=true:=by
      rcases hb with hb | hb | hb
      . cases hb
      . exact absurd h2 hb
      . exact hb
     rw [h3] at c2
     refine Ctr.of (n:=44) (rs:=[.tmp 4,.tmp 5]) Try.func43 rfl rfl Try.ntmps43 rfl rfl (by kernel_rfl) Try.checked.mixed ?_
     simp (disch:=first | omega | decide +kernel) only [D.ints,go_sem,Qa,Qb,Qc,Qd,Qe,↓reduceIte,reduceCtorEq,Qf,Qg,Qh]
     (repeat' (first | ((first | (refine gsel_split (fun q' => ?_) (fun q' => ?_)<;>(have h':=q')<;>(try simp only [za1,za2,Ba,Bb,za3,ne_eq,za4,za5,za6,Ia,Ib,Ic,Ie,Da,Bc,Bd,Be,za7,za8] at h')<;>try (exfalso; omega)) | (have q':=trivial; first | refine callX_new (c1) rfl (by decide) ?_ | refine callY_new (c1) rfl ?_ | refine callX_new (c2) rfl (by decide) ?_ | refine callY_new (c2) rfl ?_ | refine hE _ _ ret_ne ?_ | refine hE _ _ exit_ne ?_))<;>(try simp (disch:=first | omega | decide +kernel) only [q',D.ints,go_sem,Qa,Qb,Qc,Qd,Qe,↓reduceIte,reduceCtorEq,Qf,Qg,Qh])<;>clear q') | refine hN _ ?_ ?_ Wk.kk | with_reducible refine And.intro ?_ ?_ | with_reducible omega | exact ok_ints | exact cells_ints | exact no_mem | with_reducible exact plain_ints | (refine le_maxLen ?_; omega) | (refine za9 ⟨?_,?_⟩) | (simp only [go_sem,Qc,Qb,zb1,zb2,forall_eq]; done)))
     all_goals (first | exact absurd trivial h')
   . refine Ctr.of (n:=44) (rs:=[.tmp 4,.tmp 5]) Try.func43 rfl rfl Try.ntmps43 rfl rfl (by kernel_rfl) Try.checked.mixed ?_
     simp (disch:=first | omega | decide +kernel) only [D.ints,go_sem,Qa,Qb,Qc,Qd,Qe,↓reduceIte,reduceCtorEq,Qf,Qg,Qh]
     (repeat' (first | ((first | (refine gsel_split (fun q' => ?_) (fun q' => ?_)<;>(have h':=q')<;>(try simp only [za1,za2,Ba,Bb,za3,ne_eq,za4,za5,za6,Ia,Ib,Ic,Ie,Da,Bc,Bd,Be,za7,za8] at h')<;>try (exfalso; omega)) | (have q':=trivial; first | refine callX_new (c1) rfl (by decide) ?_ | refine callY_new (c1) rfl ?_ | refine callX_new (c2) rfl (by decide) ?_ | refine callY_new (c2) rfl ?_ | refine hE _ _ ret_ne ?_ | refine hE _ _ exit_ne ?_))<;>(try simp (disch:=first | omega | decide +kernel) only [q',D.ints,go_sem,Qa,Qb,Qc,Qd,Qe,↓reduceIte,reduceCtorEq,Qf,Qg,Qh])<;>clear q') | refine hN _ ?_ ?_ Wk.kk | with_reducible refine And.intro ?_ ?_ | with_reducible omega | exact ok_ints | exact cells_ints | exact no_mem | with_reducible exact plain_ints | (refine le_maxLen ?_; omega) | (refine za9 ⟨?_,?_⟩) | (simp only [go_sem,Qc,Qb,zb1,zb2,forall_eq]; done)))
     all_goals (first | omega)
set_option maxHeartbeats 4000000 in
theorem sBits_yes (n : Nat) (h : List Int) (hn : 1<=n∧n<=3) (hl : h.length=n + 1) (hb : h.any (badJ n)=false) :
 Ctr Try.prog 44 [.int .i64 (n : Nat),.ints h] false (.tup [.d (.int .i64 (bmB n h (n + 1) : Nat)),.d (.bool true)]) []:=by
 have c1:=l17Holes_ok n
 rw [show (decide ((1 : Int)<=(n : Int)) && decide ((n : Int)<=3))=true by simp; omega] at c1
 have hne : (h.length : Int)=(n : Int) + 1:=by omega
 have hb0 : bmB n h 0=0:=rfl
 refine Ctr.of (n:=45) (rs:=[.tmp 4,.tmp 5]) Try.func44 rfl rfl Try.ntmps44 rfl rfl (by kernel_rfl) Try.checked.mixed ?_
 simp (disch:=first | omega | decide +kernel) only [D.ints,go_sem,Qa,Qb,Qc,Qd,Qe,↓reduceIte,reduceCtorEq,Qf,Qg,Qh]
 (repeat' (first | ((first | (refine gsel_split (fun q' => ?_) (fun q' => ?_)<;>(have h':=q')<;>(try simp only [za1,za2,Ba,Bb,za3,ne_eq,za4,za5,za6,Ia,Ib,Ic,Ie,Da,Bc,Bd,Be,za7,za8] at h')<;>try (exfalso; omega)) | (have q':=trivial; first | refine callX_new (c1) rfl (by decide) ?_ | refine callY_new (c1) rfl ?_ | refine hE _ _ ret_ne ?_ | refine hE _ _ exit_ne ?_))<;>(try simp (disch:=first | omega | decide +kernel) only [q',D.ints,go_sem,Qa,Qb,Qc,Qd,Qe,↓reduceIte,reduceCtorEq,Qf,Qg,Qh])<;>clear q') | refine hN _ ?_ ?_ Wk.kk | with_reducible refine And.intro ?_ ?_ | with_reducible omega | exact ok_ints | exact cells_ints | exact no_mem | with_reducible exact plain_ints | (refine le_maxLen ?_; omega) | (refine za9 ⟨?_,?_⟩) | (simp only [go_sem,Qc,Qb,zb1,zb2,forall_eq]; done)))
 all_goals (try exact absurd trivial h')
 refine Ok.loopN [44,43,42,41,40,39,38,37,36,35,34,33,32,31,30,29,28,27,26,25,24,23,22,21,20,19,18,17,16,15,14,13,12,11,10,9,8,7,6,5,4,3,2] (fun i (_ : Unit) => [(7,.d (.int .i64 (1 + (i : Nat)))),(6,.d (.int .i64 (bmB n h i : Nat)))]) (fun _ _ => []) (n + 1) (fun _ _ => True) () trivial (by refine Wk.auto ?_ ?_<;>simp [extraK,lk,killL,St.kill,wipeO,wipeS,AV.has,AV.hasL,AO.wipe,List.map_set,updSt,insL,dropS,ins,hb0]) ?_
 rintro R i _ hN hE hi _
 by_cases hlt : i < n + 1
 . have hei:=el_ints (xs:=h) (i:=i) (by omega)
   have hbi:=any_idx hb i (by omega)
   have hbl:=bmB_lt (h:=h) hn i (by omega) fun k hk => any_idx hb k (by omega)
   unfold badJ at hbi
   have c4:=l1In_ok (h.getD i 0) 0 n
   rw [Bb] at hbi
   rw [hbi] at c4
   simp only [Bc,decide_eq_true_eq] at hbi
   have hs : bmB n h (i + 1)=if 0 < h.getD i 0 then bmB n h i ||| 2 ^ (i * n + (h.getD i 0).toNat - 1) else bmB n h i:=rfl
   have ht : 1 + (i : Int) - 1=((i : Nat) : Int):=by omega
   generalize h.getD i 0=j at *
   generalize bmB n h i=B at *
   generalize bmB n h (i + 1)=B' at *
   by_cases hj : 0 < j
   . rw [if_pos hj] at hs
     obtain ⟨b1,b2⟩:=bm_p hn (i:=i) (j:=j.toNat) (by omega) (by omega)
     have c3:=l17Var_ok n (i + 1) j.toNat hn.2 (by omega) (by omega)
     rw [show ((i + 1 : Nat) : Int)=1 + (i : Int) by omega,Int.toNat_of_nonneg (by omega)] at c3
     have hx : pvar n (i + 1) j.toNat - 1=((i * n + j.toNat - 1 : Nat) : Int):=by
      have : ((i + 1 : Nat) : Int) - 1=(i : Int):=by omega
      have e : (i : Int) * (n : Int)=((i * n : Nat) : Int):=by simp
      unfold pvar
      rw [this,e]; omega
     have hx2 : pvar n (i + 1) j.toNat<=100∧-100<=pvar n (i + 1) j.toNat:=by omega
     generalize pvar n (i + 1) j.toNat=x at *
     generalize i * n + j.toNat - 1=p at *
     have e1 : IntKind.wrap .i64 (1 * 2 ^ min p 64)=((2 ^ p : Nat) : Int):=shl_one (by omega)
     have hq : 2 ^ p<=2 ^ 11:=Nat.pow_le_pow_right (by decide) b1
     generalize 2 ^ p=q at *
     have e2 : bitV .or .i64 (B : Nat) (q : Nat)=((B ||| q : Nat) : Int):=bitV_or (by omega) (by omega)
     rw [← hs] at e2
     clear hs c1
     simp (disch:=first | omega | decide +kernel) only [hei,hl,ht,hx,e1,e2,Int.toNat_natCast,go_sem,Qa,Qb,Qc,Qd,Qe,↓reduceIte,reduceCtorEq,Qf,Qg,Qh]
     (repeat' (first | ((first | (refine gsel_split (fun q' => ?_) (fun q' => ?_)<;>(have h':=q')<;>(try simp only [za1,za2,Ba,Bb,za3,ne_eq,za4,za5,za6,Ia,Ib,Ic,Ie,Da,Bc,Bd,Be,za7,za8] at h')<;>try (exfalso; omega)) | (have q':=trivial; first | refine callX_new (c4) rfl (by decide) ?_ | refine callY_new (c4) rfl ?_ | refine callX_new (c3) rfl (by decide) ?_ | refine callY_new (c3) rfl ?_ | refine hE _ _ ret_ne ?_ | refine hE _ _ exit_ne ?_))<;>(try simp (disch:=first | omega | decide +kernel) only [q',hei,hl,ht,hx,e1,e2,Int.toNat_natCast,go_sem,Qa,Qb,Qc,Qd,Qe,↓reduceIte,reduceCtorEq,Qf,Qg,Qh])<;>clear q') | refine hN _ ?_ ?_ Wk.kk | with_reducible refine And.intro ?_ ?_ | with_reducible omega | exact ok_ints | exact cells_ints | exact no_mem | with_reducible exact plain_ints | (refine le_maxLen ?_; omega) | (refine za9 ⟨?_,?_⟩) | (simp only [go_sem,Qc,Qb,zb1,zb2,forall_eq]; done)))
     all_goals (first | omega | exact hN () _ hlt trivial (by refine Wk.auto ?_ ?_<;>simp [extraK,lk,killL,St.kill,wipeO,wipeS,AV.has,AV.hasL,AO.wipe,List.map_set,updSt,insL,dropS,ins,Int.add_assoc]))
   . rw [if_neg hj] at hs
     subst hs
     simp (disch:=first | omega | decide +kernel) only [hei,hl,ht,Int.toNat_natCast,go_sem,Qa,Qb,Qc,Qd,Qe,↓reduceIte,reduceCtorEq,Qf,Qg,Qh]
     (repeat' (first | ((first | (refine gsel_split (fun q' => ?_) (fun q' => ?_)<;>(have h':=q')<;>(try simp only [za1,za2,Ba,Bb,za3,ne_eq,za4,za5,za6,Ia,Ib,Ic,Ie,Da,Bc,Bd,Be,za7,za8] at h')<;>try (exfalso; omega)) | (have q':=trivial; first | refine callX_new (c4) rfl (by decide) ?_ | refine callY_new (c4) rfl ?_ | refine hE _ _ ret_ne ?_ | refine hE _ _ exit_ne ?_))<;>(try simp (disch:=first | omega | decide +kernel) only [q',hei,hl,ht,Int.toNat_natCast,go_sem,Qa,Qb,Qc,Qd,Qe,↓reduceIte,reduceCtorEq,Qf,Qg,Qh])<;>clear q') | refine hN _ ?_ ?_ Wk.kk | with_reducible refine And.intro ?_ ?_ | with_reducible omega | exact ok_ints | exact cells_ints | exact no_mem | with_reducible exact plain_ints | (refine le_maxLen ?_; omega) | (refine za9 ⟨?_,?_⟩) | (simp only [go_sem,Qc,Qb,zb1,zb2,forall_eq]; done)))
     all_goals (first | omega | exact hN () _ hlt trivial (by refine Wk.auto ?_ ?_<;>simp [extraK,lk,killL,St.kill,wipeO,wipeS,AV.has,AV.hasL,AO.wipe,List.map_set,updSt,insL,dropS,ins,Int.add_assoc]))
 . obtain rfl : i=n + 1:=by omega
   simp (disch:=first | omega | decide +kernel) only [hl,go_sem,Qa,Qb,Qc,Qd,Qe,↓reduceIte,reduceCtorEq,Qf,Qg,Qh]
   (repeat' (first | ((first | (refine gsel_split (fun q' => ?_) (fun q' => ?_)<;>(have h':=q')<;>(try simp only [za1,za2,Ba,Bb,za3,ne_eq,za4,za5,za6,Ia,Ib,Ic,Ie,Da,Bc,Bd,Be,za7,za8] at h')<;>try (exfalso; omega)) | (have q':=trivial; first | refine hE _ _ ret_ne ?_ | refine hE _ _ exit_ne ?_))<;>(try simp (disch:=first | omega | decide +kernel) only [q',hl,go_sem,Qa,Qb,Qc,Qd,Qe,↓reduceIte,reduceCtorEq,Qf,Qg,Qh])<;>clear q') | refine hN _ ?_ ?_ Wk.kk | with_reducible refine And.intro ?_ ?_ | with_reducible omega | exact ok_ints | exact cells_ints | exact no_mem | with_reducible exact plain_ints | (refine le_maxLen ?_; omega) | (refine za9 ⟨?_,?_⟩) | (simp only [go_sem,Qc,Qb,zb1,zb2,forall_eq]; done)))
end Abs.Y
