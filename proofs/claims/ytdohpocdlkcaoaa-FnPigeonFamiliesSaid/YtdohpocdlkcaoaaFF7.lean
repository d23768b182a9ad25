/- What functions of this program compute, over plain data. No condition. -/
import Derived.Test.YtdohpocdlkcaoaaFF6
set_option linter.all false
namespace Abs.Y
open Go Go.Proofs Abs
open Nat renaming reduceEqDiff -> Qa, reduceLT -> Qb, reduceAdd -> Qc, reduceMul -> Qd, reduceSub -> Qe, reduceLeDiff -> Qf, reduceSubDiff -> Qg, reduceBEq -> Qh
open Bool renaming not_eq_true' -> Ba, not_eq_false' -> Bb, and_eq_true -> Bc, or_eq_true -> Bd, or_eq_false_iff -> Be
open Int renaming ofNat_lt -> Ia, ofNat_le -> Ib, not_lt -> Ic, not_le -> Ie
open Decidable renaming not_not -> Da
set_option maxRecDepth 100000

theorem sBits_no (n : Int) (h : List Int) (hl : h.length<=1000) (hb : (decide (1<=n) && decide (n<=3))=false∨(h.length : Int) ≠ n + 1∨h.any (badJ n)=true) :
 Ctr Try.prog 44 [.int .i64 n,.ints h] false (.tup [.d (.int .i64 0),.d (.bool false)]) []:=by
 have c1:=l17Holes_ok n
 cases h1 : (decide (1<=n) && decide (n<=3)) with
 | false =>
   rw [h1] at c1
   refine Ctr.of (n:=45) (rs:=[.tmp 4,.tmp 5]) Try.func44 rfl rfl Try.ntmps44 rfl rfl (by kernel_rfl) Try.checked.mixed ?_
   simp (disch:=first | omega | decide +kernel) only [D.ints,go_sem,Qa,Qb,Qc,Qd,Qe,↓reduceIte,reduceCtorEq,Qf,Qg,Qh]
   (repeat' (first | ((first | (refine gsel_split (fun q' => ?_) (fun q' => ?_)<;>(have h':=q')<;>(try simp only [za1,za2,Ba,Bb,za3,ne_eq,za4,za5,za6,Ia,Ib,Ic,Ie,Da,Bc,Bd,Be,za7,za8] at h')<;>try (exfalso; omega)) | (have q':=trivial; first | refine callX_new (c1) rfl (by decide) ?_ | refine callY_new (c1) rfl ?_ | refine hE _ _ ret_ne ?_ | refine hE _ _ exit_ne ?_))<;>(try simp (disch:=first | omega | decide +kernel) only [q',D.ints,go_sem,Qa,Qb,Qc,Qd,Qe,↓reduceIte,reduceCtorEq,Qf,Qg,Qh])<;>clear q') | refine hN _ ?_ ?_ Wk.kk | with_reducible refine And.intro ?_ ?_ | with_reducible omega | exact ok_ints | exact cells_ints | exact no_mem | with_reducible exact plain_ints | (refine le_maxLen ?_; omega) | (refine za9 ⟨?_,?_⟩) | (simp only [go_sem,Qc,Qb,zb1,zb2,forall_eq]; done)))
   all_goals trace_state
 | true =>
   have h1':=h1
   simp only [Bc,decide_eq_true_eq] at h1'
   rw [h1] at c1 hb
   by_cases h2 : (h.length : Int)=n + 1
   . obtain h3 : h.any (badJ n)=true:=by
      rcases hb with hb | hb | hb
      . cases hb
      . exact absurd h2 hb
      . exact hb
     clear hb h1
     obtain ⟨n,rfl⟩ : ∃ m : Nat,n=m:=⟨n.toNat,by omega⟩
     have hn : 1<=n∧n<=3:=by omega
     have hb0 : bmB n h 0=0:=rfl
     refine Ctr.of (n:=45) (rs:=[.tmp 4,.tmp 5]) Try.func44 rfl rfl Try.ntmps44 rfl rfl (by kernel_rfl) Try.checked.mixed ?_
     simp (disch:=first | omega | decide +kernel) only [D.ints,go_sem,Qa,Qb,Qc,Qd,Qe,↓reduceIte,reduceCtorEq,Qf,Qg,Qh]
     (repeat' (first | ((first | (refine gsel_split (fun q' => ?_) (fun q' => ?_)<;>(have h':=q')<;>(try simp only [za1,za2,Ba,Bb,za3,ne_eq,za4,za5,za6,Ia,Ib,Ic,Ie,Da,Bc,Bd,Be,za7,za8] at h')<;>try (exfalso; omega)) | (have q':=trivial; first | refine callX_new (c1) rfl (by decide) ?_ | refine callY_new (c1) rfl ?_ | refine hE _ _ ret_ne ?_ | refine hE _ _ exit_ne ?_))<;>(try simp (disch:=first | omega | decide +kernel) only [q',D.ints,go_sem,Qa,Qb,Qc,Qd,Qe,↓reduceIte,reduceCtorEq,Qf,Qg,Qh])<;>clear q') | refine hN _ ?_ ?_ Wk.kk | with_reducible refine And.intro ?_ ?_ | with_reducible omega | exact ok_ints | exact cells_ints | exact no_mem | with_reducible exact plain_ints | (refine le_maxLen ?_; omega) | (refine za9 ⟨?_,?_⟩) | (simp only [go_sem,Qc,Qb,zb1,zb2,forall_eq]; done)))
     all_goals (try exact absurd trivial h')
     refine Ok.loopN [44,43,42,41,40,39,38,37,36,35,34,33,32,31,30,29,28,27,26,25,24,23,22,21,20,19,18,17,16,15,14,13,12,11,10,9,8,7,6,5,4,3,2] (fun i (_ : Unit) => [(7,.d (.int .i64 (1 + (i : Nat)))),(6,.d (.int .i64 (bmB n h i : Nat)))]) (fun _ _ => []) (n + 1) (fun i _ => ∀ k,k < i->badJ n (h.getD k 0)=false) () (by simp) (by refine Wk.auto ?_ ?_<;>simp [extraK,lk,killL,St.kill,wipeO,wipeS,AV.has,AV.hasL,AO.wipe,List.map_set,updSt,insL,dropS,ins,hb0]) ?_
     rintro R i _ hN hE hi hI
     by_cases hlt : i < n + 1
     . have hei:=el_ints (xs:=h) (i:=i) (by omega)
       have hbl:=bmB_lt (h:=h) hn i (by omega) hI
       have c4:=l1In_ok (h.getD i 0) 0 n
       have ht : 1 + (i : Int) - 1=((i : Nat) : Int):=by omega
       cases hbj : badJ n (h.getD i 0) with
       | true =>
         have hbi:=hbj
         unfold badJ at hbi
         rw [Ba] at hbi
         rw [hbi] at c4
         simp (disch:=first | omega | decide +kernel) only [hei,ht,Int.toNat_natCast,go_sem,Qa,Qb,Qc,Qd,Qe,↓reduceIte,reduceCtorEq,Qf,Qg,Qh]
         (repeat' (first | ((first | (refine gsel_split (fun q' => ?_) (fun q' => ?_)<;>(have h':=q')<;>(try simp only [za1,za2,Ba,Bb,za3,ne_eq,za4,za5,za6,Ia,Ib,Ic,Ie,Da,Bc,Bd,Be,za7,za8] at h')<;>try (exfalso; omega)) | (have q':=trivial; first | refine callX_new (c4) rfl (by decide) ?_ | refine callY_new (c4) rfl ?_ | refine hE _ _ ret_ne ?_ | refine hE _ _ exit_ne ?_))<;>(try simp (disch:=first | omega | decide +kernel) only [q',hei,ht,Int.toNat_natCast,go_sem,Qa,Qb,Qc,Qd,Qe,↓reduceIte,reduceCtorEq,Qf,Qg,Qh])<;>clear q') | refine hN _ ?_ ?_ Wk.kk | with_reducible refine And.intro ?_ ?_ | with_reducible omega | exact ok_ints | exact cells_ints | exact no_mem | with_reducible exact plain_ints | (refine le_maxLen ?_; omega) | (refine za9 ⟨?_,?_⟩) | (simp only [go_sem,Qc,Qb,zb1,zb2,forall_eq]; done)))
         all_goals (first | omega)
       | false =>
         have hbi:=hbj
         have hI' : ∀ k,k < i + 1->badJ n (h.getD k 0)=false:=fun k hk => by
          rcases (by omega : k < i∨k=i) with hk | rfl
          . exact hI k hk
          . exact hbj
         unfold badJ at hbi
         rw [Bb] at hbi
         rw [hbi] at c4
         simp only [Bc,decide_eq_true_eq] at hbi
         have hs : bmB n h (i + 1)=if 0 < h.getD i 0 then bmB n h i ||| 2 ^ (i * n + (h.getD i 0).toNat - 1) else bmB n h i:=rfl
         clear hI hbj
         generalize h.getD i 0=j at *
         generalize bmB n h i=B at *
         generalize bmB n h (i + 1)=B' at *
         by_cases hj : 0 < j
         . rw [if_pos hj] at hs
           obtain ⟨b1,b2⟩:=bm_p hn (i:=i) (j:=j.toNat) (by omega) (by omega)
           have c3:=l17Var_ok n (i + 1) j.toNat hn.2 (by omega) (by omega)
           rw [show ((i + 1 : Nat) : Int)=1 + (i : Int) by omega,Int.toNat_of_nonneg (by omega)] at c3
           have hx : pvar n (i + 1) j.toNat - 1=((i * n + j.toNat - 1 : Nat) : Int):=by
            have : ((i + 1 : Nat) : Int) - 1=(i : Int):=by omega
            have e : (i : Int) * (n : Int)=((i * n : Nat) : Int):=by simp
            unfold pvar
            rw [this,e]; omega
           have hx2 : pvar n (i + 1) j.toNat<=100∧-100<=pvar n (i + 1) j.toNat:=by omega
           generalize pvar n (i + 1) j.toNat=x at *
           generalize i * n + j.toNat - 1=p at *
           have e1 : IntKind.wrap .i64 (1 * 2 ^ min p 64)=((2 ^ p : Nat) : Int):=shl_one (by omega)
           have hq : 2 ^ p<=2 ^ 11:=Nat.pow_le_pow_right (by decide) b1
           generalize 2 ^ p=q at *
           have e2 : bitV .or .i64 (B : Nat) (q : Nat)=((B ||| q : Nat) : Int):=bitV_or (by omega) (by omega)
           rw [← hs] at e2
           clear hs c1
           simp (disch:=first | omega | decide +kernel) only [hei,ht,hx,e1,e2,Int.toNat_natCast,go_sem,Qa,Qb,Qc,Qd,Qe,↓reduceIte,reduceCtorEq,Qf,Qg,Qh]
           (repeat' (first | ((first | (refine gsel_split (fun q' => ?_) (fun q' => ?_)<;>(have h':=q')<;>(try simp only [za1,za2,Ba,Bb,za3,ne_eq,za4,za5,za6,Ia,Ib,Ic,Ie,Da,Bc,Bd,Be,za7,za8] at h')<;>try (exfalso; omega)) | (have q':=trivial; first | refine callX_new (c4) rfl (by decide) ?_ | refine callY_new (c4) rfl ?_ | refine callX_new (c3) rfl (by decide) ?_ | refine callY_new (c3) rfl ?_ | refine hE _ _ ret_ne ?_ | refine hE _ _ exit_ne ?_))<;>(try simp (disch:=first | omega | decide +kernel) only [q',hei,ht,hx,e1,e2,Int.toNat_natCast,go_sem,Qa,Qb,Qc,Qd,Qe,↓reduceIte,reduceCtorEq,Qf,Qg,Qh])<;>clear q') | refine hN _ ?_ ?_ Wk.kk | with_reducible refine And.intro ?_ ?_ | with_reducible omega | exact ok_ints | exact cells_ints | exact no_mem | with_reducible exact plain_ints | (refine le_maxLen ?_; omega) | (refine za9 ⟨?_,?_⟩) | (simp only [go_sem,Qc,Qb,zb1,zb2,forall_eq]; done)))
           all_goals (first | omega | exact hN () _ hlt hI' (by refine Wk.auto ?_ ?_<;>simp [extraK,lk,killL,St.kill,wipeO,wipeS,AV.has,AV.hasL,AO.wipe,List.map_set,updSt,insL,dropS,ins,Int.add_assoc]))
         . rw [if_neg hj] at hs
           subst hs
           simp (disch:=first | omega | decide +kernel) only [hei,ht,Int.toNat_natCast,go_sem,Qa,Qb,Qc,Qd,Qe,↓reduceIte,reduceCtorEq,Qf,Qg,Qh]
           (repeat' (first | ((first | (refine gsel_split (fun q' => ?_) (fun q' => ?_)<;>(have h':=q')<;>(try simp only [za1,za2,Ba,Bb,za3,ne_eq,za4,za5,za6,Ia,Ib,Ic,Ie,Da,Bc,Bd,Be,za7,za8] at h')<;>try (exfalso; omega)) | (have q':=trivial; first | refine callX_new (c4) rfl (by decide) ?_ | refine callY_new (c4) rfl ?_ | refine hE _ _ ret_ne ?_ | refine hE _ _ exit_ne ?_))<;>(try simp (disch:=first | omega | decide +kernel) only [q',hei,ht,Int.toNat_natCast,go_sem,Qa,Qb,Qc,Qd,Qe,↓reduceIte,reduceCtorEq,Qf,Qg,Qh])<;>clear q') | refine hN _ ?_ ?_ Wk.kk | with_reducible refine And.intro ?_ ?_ | with_reducible omega | exact ok_ints | exact cells_ints | exact no_mem | with_reducible exact plain_ints | (refine le_maxLen ?_; omega) | (refine za9 ⟨?_,?_⟩) | (simp only [go_sem,Qc,Qb,zb1,zb2,forall_eq]; done)))
           all_goals (first | omega | exact hN () _ hlt hI' (by refine Wk.auto ?_ ?_<;>simp [extraK,lk,killL,St.kill,wipeO,wipeS,AV.has,AV.hasL,AO.wipe,List.map_set,updSt,insL,dropS,ins,Int.add_assoc]))
     . exfalso
       obtain rfl : i=n + 1:=by omega
       obtain ⟨x,hx,hx'⟩:=List.any_eq_true.1 h3
       obtain ⟨k,hk,rfl⟩:=List.getElem_of_mem hx
       have:=hI k (by omega)
       rw [List.getD_eq_getElem?_getD,List.getElem?_eq_getElem hk,Option.getD_some,hx'] at this
       cases this
   . refine Ctr.of (n:=45) (rs:=[.tmp 4,.tmp 5]) Try.func44 rfl rfl Try.ntmps44 rfl rfl (by kernel_rfl) Try.checked.mixed ?_
     simp (disch:=first | omega | decide +kernel) only [D.ints,go_sem,Qa,Qb,Qc,Qd,Qe,↓reduceIte,reduceCtorEq,Qf,Qg,Qh]
     (repeat' (first | ((first | (refine gsel_split (fun q' => ?_) (fun q' => ?_)<;>(have h':=q')<;>(try simp only [za1,za2,Ba,Bb,za3,ne_eq,za4,za5,za6,Ia,Ib,Ic,Ie,Da,Bc,Bd,Be,za7,za8] at h')<;>try (exfalso; omega)) | (have q':=trivial; first | refine callX_new (c1) rfl (by decide) ?_ | refine callY_new (c1) rfl ?_ | refine hE _ _ ret_ne ?_ | refine hE _ _ exit_ne ?_))<;>(try simp (disch:=first | omega | decide +kernel) only [q',D.ints,go_sem,Qa,Qb,Qc,Qd,Qe,↓reduceIte,reduceCtorEq,Qf,Qg,Qh])<;>clear q') | refine hN _ ?_ ?_ Wk.kk | with_reducible refine And.intro ?_ ?_ | with_reducible omega | exact ok_ints | exact cells_ints | exact no_mem | with_reducible exact plain_ints | (refine le_maxLen ?_; omega) | (refine za9 ⟨?_,?_⟩) | (simp only [go_sem,Qc,Qb,zb1,zb2,forall_eq]; done)))
     all_goals (first | omega)
def plOK (n i j : Int) : Bool:=decide (1<=n) && decide (n<=3) && (decide (1<=i) && decide (i<=n + 1)) && (decide (1<=j) && decide (j<=n))
theorem pigeonVariable_yes (n i j : Nat) (h : plOK n i j=true) : Ctr Try.prog 130 [.int .i64 (n : Nat),.int .i64 (i : Nat),.int .i64 (j : Nat)] false (.tup [.d (.int .i64 (pvar n i j)),.d (.bool true)]) []:=by
 simp only [plOK,Bc,decide_eq_true_eq] at h
 have c1:=holesOk_ok n
 rw [show (decide ((1 : Int)<=(n : Int)) && decide ((n : Int)<=3))=true by simp; omega] at c1
 have c2:=within_ok i 1 ((n : Int) + 1)
 rw [show (decide ((1 : Int)<=(i : Int)) && decide ((i : Int)<=(n : Int) + 1))=true by simp; omega] at c2
 have c3:=within_ok j 1 n
 rw [show (decide ((1 : Int)<=(j : Int)) && decide ((j : Int)<=(n : Int)))=true by simp; omega] at c3
 have h1:=pvar_bd (n:=n) (i:=i) (j:=j) (by omega) (by omega) (by omega)
 unfold pvar
 refine Ctr.of (n:=30) (rs:=[.tmp 6,.tmp 7]) Try.func130 rfl rfl Try.ntmps130 rfl rfl (by kernel_rfl) Try.checked.mixed ?_
 simp (disch:=first | omega | decide +kernel) only [go_sem,Qa,Qb,Qc,Qd,Qe,↓reduceIte,reduceCtorEq,Qf,Qg,Qh]
 (repeat' (first | ((first | (refine gsel_split (fun q' => ?_) (fun q' => ?_)<;>(have h':=q')<;>(try simp only [za1,za2,Ba,Bb,za3,ne_eq,za4,za5,za6,Ia,Ib,Ic,Ie,Da,Bc,Bd,Be,za7,za8] at h')<;>try (exfalso; omega)) | (have q':=trivial; first | refine callX_new (c1) rfl (by decide) ?_ | refine callY_new (c1) rfl ?_ | refine callX_new (c2) rfl (by decide) ?_ | refine callY_new (c2) rfl ?_ | refine callX_new (c3) rfl (by decide) ?_ | refine callY_new (c3) rfl ?_ | refine hE _ _ ret_ne ?_ | refine hE _ _ exit_ne ?_))<;>(try simp (disch:=first | omega | decide +kernel) only [q',go_sem,Qa,Qb,Qc,Qd,Qe,↓reduceIte,reduceCtorEq,Qf,Qg,Qh])<;>clear q') | refine hN _ ?_ ?_ Wk.kk | with_reducible refine And.intro ?_ ?_ | with_reducible omega | exact ok_ints | exact cells_ints | exact no_mem | with_reducible exact plain_ints | (refine le_maxLen ?_; omega) | (refine za9 ⟨?_,?_⟩) | (simp only [go_sem,Qc,Qb,zb1,zb2,forall_eq]; done)))
 all_goals (first | omega)
theorem pigeonVariable_no (n i j : Int) (hb : -100<=n∧n<=100) (h : plOK n i j=false) : Ctr Try.prog 130 [.int .i64 n,.int .i64 i,.int .i64 j] false (.tup [.d (.int .i64 0),.d (.bool false)]) []:=by
 have c1:=holesOk_ok n
 have c2:=within_ok i 1 (n + 1)
 have c3:=within_ok j 1 n
 unfold plOK at h
 generalize (decide (1<=n) && decide (n<=3))=b1 at *
 generalize (decide (1<=i) && decide (i<=n + 1))=b2 at *
 generalize (decide (1<=j) && decide (j<=n))=b3 at *
 refine Ctr.of (n:=30) (rs:=[.tmp 6,.tmp 7]) Try.func130 rfl rfl Try.ntmps130 rfl rfl (by kernel_rfl) Try.checked.mixed ?_
 simp (disch:=first | omega | decide +kernel) only [go_sem,Qa,Qb,Qc,Qd,Qe,↓reduceIte,reduceCtorEq,Qf,Qg,Qh]
 cases b1<;>cases b2<;>cases b3<;>first | cases h | skip
 all_goals
  (repeat' (first | ((first | (refine gsel_split (fun q' => ?_) (fun q' => ?_)<;>(have h':=q')<;>(try simp only [za1,za2,Ba,Bb,za3,ne_eq,za4,za5,za6,Ia,Ib,Ic,Ie,Da,Bc,Bd,Be,za7,za8] at h')<;>try (exfalso; omega)) | (have q':=trivial; first | refine callX_new (c1) rfl (by decide) ?_ | refine callY_new (c1) rfl ?_ | refine callX_new (c2) rfl (by decide) ?_ | refine callY_new (c2) rfl ?_ | refine callX_new (c3) rfl (by decide) ?_ | refine callY_new (c3) rfl ?_ | refine hE _ _ ret_ne ?_ | refine hE _ _ exit_ne ?_))<;>(try simp (disch:=first | omega | decide +kernel) only [q',go_sem,Qa,Qb,Qc,Qd,Qe,↓reduceIte,reduceCtorEq,Qf,Qg,Qh])<;>clear q') | refine hN _ ?_ ?_ Wk.kk | with_reducible refine And.intro ?_ ?_ | with_reducible omega | exact ok_ints | exact cells_ints | exact no_mem | with_reducible exact plain_ints | (refine le_maxLen ?_; omega) | (refine za9 ⟨?_,?_⟩) | (simp only [go_sem,Qc,Qb,zb1,zb2,forall_eq]; done)))
 all_goals trace_state
theorem iPlace_no (n i j : Int) (hb : -100<=n∧n<=100) (h : plOK n i j=false) : Ctr Try.prog 48 [.int .i64 n,.int .i64 i,.int .i64 j] false (.tup [.sl 0,.d (.bool false)]) [(0,.arr 3 1 [])]:=by
 have c1:=pigeonVariable_no n i j hb h
 refine Ctr.of (n:=59) (rs:=[.tmp 6,.tmp 7]) Try.func48 rfl rfl Try.ntmps48 rfl rfl (by kernel_rfl) Try.checked.mixed ?_
 simp (disch:=first | omega | decide +kernel) only [go_sem,Qa,Qb,Qc,Qd,Qe,↓reduceIte,reduceCtorEq,Qf,Qg,Qh]
 (repeat' (first | ((first | (refine gsel_split (fun q' => ?_) (fun q' => ?_)<;>(have h':=q')<;>(try simp only [za1,za2,Ba,Bb,za3,ne_eq,za4,za5,za6,Ia,Ib,Ic,Ie,Da,Bc,Bd,Be,za7,za8] at h')<;>try (exfalso; omega)) | (have q':=trivial; first | refine callX_new (c1) rfl (by decide) ?_ | refine callY_new (c1) rfl ?_ | refine hE _ _ ret_ne ?_ | refine hE _ _ exit_ne ?_))<;>(try simp (disch:=first | omega | decide +kernel) only [q',go_sem,Qa,Qb,Qc,Qd,Qe,↓reduceIte,reduceCtorEq,Qf,Qg,Qh])<;>clear q') | refine hN _ ?_ ?_ Wk.kk | with_reducible refine And.intro ?_ ?_ | with_reducible omega | exact ok_ints | exact cells_ints | exact no_mem | with_reducible exact plain_ints | (refine le_maxLen ?_; omega) | (refine za9 ⟨?_,?_⟩) | (simp only [go_sem,Qc,Qb,zb1,zb2,forall_eq]; done)))
 all_goals (first | exact ret_sld 6 rfl rfl rfl no_mem rfl)
theorem sPlace_no (n i j : Int) (hb : -100<=n∧n<=100) (h : plOK n i j=false) : Ctr Try.prog 49 [.int .i64 n,.int .i64 i,.int .i64 j] false (.tup [.sl 0,.d (.bool false)]) [(0,.arr 3 1 [])]:=by
 have c1:=l17Holes_ok n
 have c2:=l1In_ok i 1 (n + 1)
 have c3:=l1In_ok j 1 n
 unfold plOK at h
 generalize (decide (1<=n) && decide (n<=3))=b1 at *
 generalize (decide (1<=i) && decide (i<=n + 1))=b2 at *
 generalize (decide (1<=j) && decide (j<=n))=b3 at *
 refine Ctr.of (n:=72) (rs:=[.tmp 6,.tmp 7]) Try.func49 rfl rfl Try.ntmps49 rfl rfl (by kernel_rfl) Try.checked.mixed ?_
 simp (disch:=first | omega | decide +kernel) only [go_sem,Qa,Qb,Qc,Qd,Qe,↓reduceIte,reduceCtorEq,Qf,Qg,Qh]
 cases b1<;>cases b2<;>cases b3<;>first | cases h | skip
 all_goals
  (repeat' (first | ((first | (refine gsel_split (fun q' => ?_) (fun q' => ?_)<;>(have h':=q')<;>(try simp only [za1,za2,Ba,Bb,za3,ne_eq,za4,za5,za6,Ia,Ib,Ic,Ie,Da,Bc,Bd,Be,za7,za8] at h')<;>try (exfalso; omega)) | (have q':=trivial; first | refine callX_new (c1) rfl (by decide) ?_ | refine callY_new (c1) rfl ?_ | refine callX_new (c2) rfl (by decide) ?_ | refine callY_new (c2) rfl ?_ | refine callX_new (c3) rfl (by decide) ?_ | refine callY_new (c3) rfl ?_ | refine hE _ _ ret_ne ?_ | refine hE _ _ exit_ne ?_))<;>(try simp (disch:=first | omega | decide +kernel) only [q',go_sem,Qa,Qb,Qc,Qd,Qe,↓reduceIte,reduceCtorEq,Qf,Qg,Qh])<;>clear q') | refine hN _ ?_ ?_ Wk.kk | with_reducible refine And.intro ?_ ?_ | with_reducible omega | exact ok_ints | exact cells_ints | exact no_mem | with_reducible exact plain_ints | (refine le_maxLen ?_; omega) | (refine za9 ⟨?_,?_⟩) | (simp only [go_sem,Qc,Qb,zb1,zb2,forall_eq]; done)))
 all_goals (first | exact ret_sld 11 rfl rfl rfl no_mem rfl)
def a1P (n i j : Nat) : Nat->List Int
 | 0 => [pvar n i j]
 | m + 1 => if m + 1=j then a1P n i j m else a1P n i j m++[-(pvar n i (m + 1))]
def a2P (n i j : Nat) : Nat->List Int
 | 0 => a1P n i j n
 | k + 1 => if k + 1=i then a2P n i j k else a2P n i j k++[-(pvar n (k + 1) j)]
def sR (n i j k : Nat) (l : List Int) : Nat->List Int
 | 0 => l
 | m + 1 => if k=i∧m + 1=j then sR n i j k l m++[pvar n k (m + 1)] else if k=i∨m + 1=j then sR n i j k l m++[-(pvar n k (m + 1))] else sR n i j k l m
def sPl (n i j : Nat) : Nat->List Int
 | 0 => []
 | k + 1 => sR n i j (k + 1) (sPl n i j k) n
def placeP (n i j : Nat) : List Int:=sPl n i j (n + 1)
theorem a1P_len (n i j : Nat) : ∀ m,(a1P n i j m).length<=m + 1
 | 0 => by simp [a1P]
 | m + 1 => by
   have:=a1P_len n i j m
   rw [a1P]; split
   . omega
   . rw [List.length_append]; simp; omega
theorem a2P_len (n i j : Nat) : ∀ m,(a2P n i j m).length<=n + 1 + m
 | 0 => a1P_len n i j n
 | m + 1 => by
   have:=a2P_len n i j m
   rw [a2P]; split
   . omega
   . rw [List.length_append]; simp; omega
theorem sR_len (n i j k : Nat) (l : List Int) : ∀ m,(sR n i j k l m).length<=l.length + m
 | 0 => Nat.le_refl _
 | m + 1 => by
   have:=sR_len n i j k l m
   rw [sR]; split
   . rw [List.length_append]; simp; omega
   . split
     . rw [List.length_append]; simp; omega
     . omega
theorem sPl_len (n i j : Nat) (hn : n<=3) : ∀ k,(sPl n i j k).length<=3 * k
 | 0 => by simp [sPl]
 | k + 1 => by
   have h1:=sPl_len n i j hn k
   have h2:=sR_len n i j (k + 1) (sPl n i j k) n
   rw [sPl]; omega
end Abs.Y
