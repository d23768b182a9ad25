/- What functions of this program compute, over plain data. No condition. -/
import Derived.Test.YtdohpocdlkcaoaaGreatR1b
set_option linter.all false
namespace Abs.Y
open Go Go.Proofs Abs
open Nat renaming reduceEqDiff -> Qa, reduceLT -> Qb, reduceAdd -> Qc, reduceMul -> Qd, reduceSub -> Qe, reduceLeDiff -> Qf, reduceSubDiff -> Qg, reduceBEq -> Qh
open Bool renaming not_eq_true' -> Ba, not_eq_false' -> Bb, and_eq_true -> Bc, or_eq_true -> Bd, or_eq_false_iff -> Be
open Int renaming ofNat_lt -> Ia, ofNat_le -> Ib, not_lt -> Ic, not_le -> Ie
open Decidable renaming not_not -> Da
set_option maxRecDepth 100000

theorem ppI_bd2 (n : Int) : (ppI n).length<=100∧∀ s ∈ ppI n,s.q.co.length<=12:=by
 unfold ppI
 split
 . rename_i h
   simp only [okPP,Bc,decide_eq_true_eq] at h
   obtain ⟨a,rfl⟩ : ∃ a : Nat,n=a:=⟨n.toNat,by omega⟩
   rw [Int.toNat_natCast]
   have:=len_all a (by omega)
   exact ⟨this.2.1.2,this.2.2⟩
 . exact ⟨by simp,fun s hs => nomatch hs⟩
theorem pp_facts : ∀ n : Nat,n < 4->1<=n->proofP ((n : Int) * (n + 1)) (cnfS n) (ppV n)=true∧absB ((ppV n).getD ((ppV n).length - 1) PSt.z).q=true∧tkP ((n : Int) * (n + 1)) (cnfS n) (ppV n)=true∧(ppV n).length<=60:=by decide +kernel
def hsN (n j : Nat) : List PSt:=hM ((n : Int) * (n + 1)) (cnfS n) n j [] (n - 1)
def hsF (n j : Nat) : Bool:=(proofP ((n : Int) * (n + 1)) (cnfS n) (hsN n j) && tkP ((n : Int) * (n + 1)) (cnfS n) (hsN n j)) && (decide (0 < (hsN n j).length) && decide (((hsN n j).getD ((hsN n j).length - 1) PSt.z).q=⟨hpC n j (n + 1),-1⟩))
theorem hs_facts : ∀ n : Nat,n < 4->∀ j : Nat,j < 4->1<=n->1<=j->j<=n->hsF n j=true:=by decide +kernel
theorem pigeonholeS_ok (n : Nat) (hn : 1<=n∧n<=3) : Ctr Tryz.prog 13 [.int .i64 ((n : Int) + 1),.int .i64 (n : Int)] true (.tup [.d (.agg [.int .i64 ((n : Int) * (n + 1)),.slice ((cnfS n).map D.ints)]),.d (.bool true)]) []:=by
 have h:=pigeonhole_ok n (by omega) (by rw [cnf_IS (by omega)]; exact cnf_ok n (by omega)) (fun j => by rw [cnf_IS (by omega)]; have:=getD_small (cnf_small n (by omega)) j; omega)
 rw [cnf_IS (by omega),show ((n + 1 : Nat) : Int) * n=(n : Int) * (n + 1) by rw [Int.mul_comm]; rfl] at h
 exact h
theorem specPigeonCnf_no (n : Int) (h : (decide (1<=n) && decide (n<=3))=false) : Ctr Tryz.prog 8 [.int .i64 n] true (.tup [.d (.agg [.int .i64 0,.slice []]),.d (.bool false)]) []:=by
 have c1:=l17Holes_ok n
 rw [h] at c1
 refine Ctr.of (n:=10) (rs:=[.cell 2 27,.tmp 3]) Tryz.func8 rfl rfl Tryz.ntmps8 rfl rfl (by kernel_rfl) Tryz.checked.mixed ?_
 simp (disch:=first | omega | decide +kernel) only [go_sem,Qa,Qb,Qc,Qd,Qe,↓reduceIte,reduceCtorEq,Qf,Qg,Qh]
 (repeat' (first | ((first | (refine gsel_split (fun q' => ?_) (fun q' => ?_)<;>(have h':=q')<;>(try simp only [za1,za2,Ba,Bb,za3,ne_eq,za4,za5,za6,Ia,Ib,Ic,Ie,Da,Bc,Bd,Be,za7,za8] at h')) | (have q':=trivial; first | refine callX_new (c1) rfl (by decide) ?_ | refine callY_new (c1) rfl ?_ | refine hE _ _ ret_ne ?_ | refine hE _ _ exit_ne ?_))<;>(try simp (disch:=first | omega | decide +kernel) only [q',go_sem,Qa,Qb,Qc,Qd,Qe,↓reduceIte,reduceCtorEq,Qf,Qg,Qh])<;>clear q') | refine hN _ ?_ ?_ Wk.kk | with_reducible refine And.intro ?_ ?_ | with_reducible omega | exact ok_ints | exact cells_ints | exact no_mem | with_reducible exact plain_ints | (refine le_maxLen ?_; omega) | (refine za9 ⟨?_,?_⟩) | (simp only [go_sem,Qc,Qb,zb1,zb2,forall_eq]; done)))
 all_goals (first | exact ret_scbd [] rfl rfl rfl (by simp only [go_sem]) (by simp only [go_sem,List.length_cons,List.length_nil]) rfl (by simp only [go_sem]))
theorem specPigeonCnf_ok (n : Nat) (hn : 1<=n∧n<=3) : Ctr Tryz.prog 8 [.int .i64 (n : Int)] true (.tup [.d (.agg [.int .i64 ((n : Int) * (n + 1)),.slice ((cnfS n).map D.ints)]),.d (.bool true)]) []:=by
 have c1:=l17Holes_ok n
 rw [show (decide ((1 : Int)<=(n : Int)) && decide ((n : Int)<=3))=true by simp; omega] at c1
 have c2:=l17Cnf_ok n (by omega)
 refine Ctr.of (n:=10) (rs:=[.cell 2 27,.tmp 3]) Tryz.func8 rfl rfl Tryz.ntmps8 rfl rfl (by kernel_rfl) Tryz.checked.mixed ?_
 simp (disch:=first | omega | decide +kernel) only [go_sem,Qa,Qb,Qc,Qd,Qe,↓reduceIte,reduceCtorEq,Qf,Qg,Qh]
 (repeat' (first | ((first | (refine gsel_split (fun q' => ?_) (fun q' => ?_)<;>(have h':=q')<;>(try simp only [za1,za2,Ba,Bb,za3,ne_eq,za4,za5,za6,Ia,Ib,Ic,Ie,Da,Bc,Bd,Be,za7,za8] at h')) | (have q':=trivial; first | refine callX_new (c1) rfl (by decide) ?_ | refine callY_new (c1) rfl ?_ | refine callX_shared (c2) rfl (by decide) ?_ | refine callY_shared (c2) rfl ?_ | refine hE _ _ ret_ne ?_ | refine hE _ _ exit_ne ?_))<;>(try simp (disch:=first | omega | decide +kernel) only [q',go_sem,Qa,Qb,Qc,Qd,Qe,↓reduceIte,reduceCtorEq,Qf,Qg,Qh])<;>clear q') | refine hN _ ?_ ?_ Wk.kk | with_reducible refine And.intro ?_ ?_ | with_reducible omega | exact ok_ints | exact cells_ints | exact no_mem | with_reducible exact plain_ints | (refine le_maxLen ?_; omega) | (refine za9 ⟨?_,?_⟩) | (simp only [go_sem,Qc,Qb,zb1,zb2,forall_eq]; done)))
 all_goals (first | exact ret_scbd [] rfl rfl rfl (by simp only [go_sem]) (by simp only [go_sem,List.length_cons,List.length_nil]) rfl (by simp only [go_sem]))
theorem szP_of {n : Nat} (hn : n < 4) {st : List PSt} (hl : st.length<=100) (hs : ∀ s ∈ st,s.q.co.length<=12) : SzP (cnfS n) st where
 hc:=by have:=(okCnf_vars (cnf_ok n hn)).2.1; omega
 hcx:=fun c hc => by have:=cnf_small n hn c hc; omega
 hl:=by omega
 hs:=fun j => by
  by_cases hj : j < st.length
  . have:=hs _ (getD_mem (z:=PSt.z) hj); omega
  . rw [List.getD_eq_getElem?_getD,List.getElem?_eq_none (by omega)]; decide
def pcV (n : Int) : Int:=if okPP n then n * (n + 1) else 0
def pcC (n : Int) : List (List Int):=if okPP n then cnfS n.toNat else []
theorem okPP_nat {n : Int} (h : okPP n=true) : ∃ a : Nat,n=a∧1<=a∧a<=3:=by
 simp only [okPP,Bc,decide_eq_true_eq] at h
 exact ⟨n.toNat,by omega,by omega,by omega⟩
theorem pigeonCnfG_ok (n : Int) : Ctr Tryz.prog 7 [.int .i64 n] true (.tup [.d (.agg [.int .i64 (pcV n),.slice ((pcC n).map D.ints)]),.d (.bool (okPP n))]) []:=by
 unfold pcV pcC
 cases h : okPP n with
 | false =>
   rw [if_neg (by decide),if_neg (by decide)]
   exact pigeonCnf_no n h
 | true =>
   rw [if_pos rfl,if_pos rfl]
   obtain ⟨a,rfl,ha⟩:=okPP_nat h
   exact pigeonCnfS_ok a ha
theorem specPigeonCnfG_ok (n : Int) : Ctr Tryz.prog 8 [.int .i64 n] true (.tup [.d (.agg [.int .i64 (pcV n),.slice ((pcC n).map D.ints)]),.d (.bool (okPP n))]) []:=by
 unfold pcV pcC
 cases h : okPP n with
 | false =>
   rw [if_neg (by decide),if_neg (by decide)]
   exact specPigeonCnf_no n h
 | true =>
   rw [if_pos rfl,if_pos rfl]
   obtain ⟨a,rfl,ha⟩:=okPP_nat h
   exact specPigeonCnf_ok a ha
theorem pcC_bd (n : Int) : (pcC n).length<=60∧∀ x ∈ pcC n,x.length<=3:=by
 unfold pcC
 cases h : okPP n with
 | false => rw [if_neg (by decide)]; exact ⟨by simp,fun x hx => nomatch hx⟩
 | true =>
   rw [if_pos rfl]
   obtain ⟨a,rfl,ha⟩:=okPP_nat h
   rw [Int.toNat_natCast]
   exact ⟨(okCnf_vars (cnf_ok a (by omega))).2.1,cnf_small a (by omega)⟩
set_option maxHeartbeats 16000000 in
theorem law_FnPigeonPlanes : ∀ xs,AllR [isSl isU8] xs->Ctr Tryz.prog 3 xs false (.d (.bool true)) []:=by
 intro xs hx
 obtain ⟨x0,ys,rfl,h0,hx⟩:=allR_cons hx
 obtain rfl:=allR_nil hx
 obtain ⟨code,rfl,hcb⟩:=r_bytes h0
 have c0:=rBig_ok code
 by_cases hbig : 65536 < code.length
 . rw [decide_eq_true hbig] at c0
   refine Ctr.of (n:=196) (rs:=[.tmp 2]) Tryz.func3 rfl rfl Tryz.ntmps3 rfl rfl (by kernel_rfl) Tryz.checked.mixed ?_
   simp (disch:=first | omega | decide +kernel) only [go_sem,Qa,Qb,Qc,Qd,Qe,↓reduceIte,reduceCtorEq,Qf,Qg,Qh]
   refine callX_new (c0) rfl (by decide) ?_
   simp (disch:=first | omega | decide +kernel) only [go_sem,Qa,Qb,Qc,Qd,Qe,↓reduceIte,reduceCtorEq,Qf,Qg,Qh]
 have hc : CodeOK code:=⟨by omega,hcb⟩
 rw [decide_eq_false hbig] at c0
 refine Ctr.ofK (n:=196) (rs:=[.tmp 2]) Tryz.func3 rfl rfl Tryz.ntmps3 rfl rfl (by kernel_rfl) Tryz.checked.mixed ?_
 refine Ok.seq (Ok.go ?_)
 simp (disch:=first | omega | decide +kernel) only [go_sem,Qa,Qb,Qc,Qd,Qe,↓reduceIte,reduceCtorEq,Qf,Qg,Qh]
 refine Ok.seq (Ok.go ?_)
 simp (disch:=first | omega | decide +kernel) only [go_sem,Qa,Qb,Qc,Qd,Qe,↓reduceIte,reduceCtorEq,Qf,Qg,Qh]
 (repeat' (first | ((first | (refine gsel_split (fun q' => ?_) (fun q' => ?_)<;>(have h':=q')<;>(try simp only [za1,za2,Ba,Bb,za3,ne_eq,za4,za5,za6,Ia,Ib,Ic,Ie,Da,Bc,Bd,Be,za7,za8] at h')<;>try (exfalso; omega)) | (have q':=trivial; first | refine callX_new (c0) rfl (by decide) ?_ | refine callY_new (c0) rfl ?_ | refine hE _ _ ret_ne ?_ | refine hE _ _ exit_ne ?_))<;>(try simp (disch:=first | omega | decide +kernel) only [q',go_sem,Qa,Qb,Qc,Qd,Qe,↓reduceIte,reduceCtorEq,Qf,Qg,Qh])<;>clear q') | refine hN _ ?_ ?_ Wk.kk | with_reducible refine And.intro ?_ ?_ | with_reducible omega | exact ok_ints | exact cells_ints | exact no_mem | with_reducible exact plain_ints | (refine le_maxLen ?_; omega) | (refine za9 ⟨?_,?_⟩) | (simp only [go_sem,Qc,Qb,zb1,zb2,forall_eq]; done)))
 refine Ok.seq (Ok.go ?_)
 simp (disch:=first | omega | decide +kernel) only [go_sem,Qa,Qb,Qc,Qd,Qe,↓reduceIte,reduceCtorEq,Qf,Qg,Qh]
 refine callX_rel [] [] [] (drawPigeonPlanes_ok hc) ⟨.inl rfl,trivial⟩ trivial (by simp [namesI,keysO]) (by simp [dstB]) ?_
 rintro _ _ ⟨n,rfl,rfl,hn1,hn2⟩
 refine ⟨by simp [namesOK,keysO],?_⟩
 simp (disch:=first | omega | decide +kernel) only [go_sem,Qa,Qb,Qc,Qd,Qe,↓reduceIte,reduceCtorEq,Qf,Qg,Qh]
 have c1:=pigeonCnfG_ok n
 have c2:=specPigeonCnfG_ok n
 have hcb2:=pcC_bd n
 have c3:=implPP_ok n
 have c4:=specPP_ok n
 have hpb:=ppI_bd2 n
 have c5:=rPlanes_self (ppI n) (by omega) fun s hs => by have:=hpb.2 s hs; omega
 have c6:=rCnf_self (pcV n) (pcC n) (by omega) fun x hx => by have:=hcb2.2 x hx; omega
 refine Ok.seq (Ok.go ?_)
 simp (disch:=first | omega | decide +kernel) only [go_sem,Qa,Qb,Qc,Qd,Qe,↓reduceIte,reduceCtorEq,Qf,Qg,Qh]
 (repeat' (first | ((first | (refine gsel_split (fun q' => ?_) (fun q' => ?_)<;>(have h':=q')<;>(try simp only [za1,za2,Ba,Bb,za3,ne_eq,za4,za5,za6,Ia,Ib,Ic,Ie,Da,Bc,Bd,Be,za7,za8] at h')<;>try (exfalso; omega)) | (have q':=trivial; first | refine callX_shared (c1) rfl (by decide) ?_ | refine callY_shared (c1) rfl ?_ | refine hE _ _ ret_ne ?_ | refine hE _ _ exit_ne ?_))<;>(try simp (disch:=first | omega | decide +kernel) only [q',go_sem,Qa,Qb,Qc,Qd,Qe,↓reduceIte,reduceCtorEq,Qf,Qg,Qh])<;>clear q') | refine hN _ ?_ ?_ Wk.kk | with_reducible refine And.intro ?_ ?_ | with_reducible omega | exact ok_ints | exact cells_ints | exact no_mem | with_reducible exact plain_ints | (refine le_maxLen ?_; omega) | (refine za9 ⟨?_,?_⟩) | (simp only [go_sem,Qc,Qb,zb1,zb2,forall_eq]; done)))
 refine Ok.seq (Ok.go ?_)
 simp (disch:=first | omega | decide +kernel) only [go_sem,Qa,Qb,Qc,Qd,Qe,↓reduceIte,reduceCtorEq,Qf,Qg,Qh]
 (repeat' (first | ((first | (refine gsel_split (fun q' => ?_) (fun q' => ?_)<;>(have h':=q')<;>(try simp only [za1,za2,Ba,Bb,za3,ne_eq,za4,za5,za6,Ia,Ib,Ic,Ie,Da,Bc,Bd,Be,za7,za8] at h')<;>try (exfalso; omega)) | (have q':=trivial; first | refine callX_shared (c2) rfl (by decide) ?_ | refine callY_shared (c2) rfl ?_ | refine callX_new (c6) rfl (by decide) ?_ | refine callY_new (c6) rfl ?_ | refine hE _ _ ret_ne ?_ | refine hE _ _ exit_ne ?_))<;>(try simp (disch:=first | omega | decide +kernel) only [q',go_sem,Qa,Qb,Qc,Qd,Qe,↓reduceIte,reduceCtorEq,Qf,Qg,Qh])<;>clear q') | refine hN _ ?_ ?_ Wk.kk | with_reducible refine And.intro ?_ ?_ | with_reducible omega | exact ok_ints | exact cells_ints | exact no_mem | with_reducible exact plain_ints | (refine le_maxLen ?_; omega) | (refine za9 ⟨?_,?_⟩) | (simp only [go_sem,Qc,Qb,zb1,zb2,forall_eq]; done)))
 all_goals (try (exact absurd trivial h'))
 refine Ok.seq (Ok.go ?_)
 simp (disch:=first | omega | decide +kernel) only [go_sem,Qa,Qb,Qc,Qd,Qe,↓reduceIte,reduceCtorEq,Qf,Qg,Qh]
 (repeat' (first | ((first | (refine gsel_split (fun q' => ?_) (fun q' => ?_)<;>(have h':=q')<;>(try simp only [za1,za2,Ba,Bb,za3,ne_eq,za4,za5,za6,Ia,Ib,Ic,Ie,Da,Bc,Bd,Be,za7,za8] at h')<;>try (exfalso; omega)) | (have q':=trivial; first | refine callX_new (c3) rfl (by decide) ?_ | refine callY_new (c3) rfl ?_ | refine hE _ _ ret_ne ?_ | refine hE _ _ exit_ne ?_))<;>(try simp (disch:=first | omega | decide +kernel) only [q',go_sem,Qa,Qb,Qc,Qd,Qe,↓reduceIte,reduceCtorEq,Qf,Qg,Qh])<;>clear q') | refine hN _ ?_ ?_ Wk.kk | with_reducible refine And.intro ?_ ?_ | with_reducible omega | exact ok_ints | exact cells_ints | exact no_mem | with_reducible exact plain_ints | (refine le_maxLen ?_; omega) | (refine za9 ⟨?_,?_⟩) | (simp only [go_sem,Qc,Qb,zb1,zb2,forall_eq]; done)))
 refine Ok.seq (Ok.go ?_)
 simp (disch:=first | omega | decide +kernel) only [go_sem,Qa,Qb,Qc,Qd,Qe,↓reduceIte,reduceCtorEq,Qf,Qg,Qh]
 (repeat' (first | ((first | (refine gsel_split (fun q' => ?_) (fun q' => ?_)<;>(have h':=q')<;>(try simp only [za1,za2,Ba,Bb,za3,ne_eq,za4,za5,za6,Ia,Ib,Ic,Ie,Da,Bc,Bd,Be,za7,za8] at h')<;>try (exfalso; omega)) | (have q':=trivial; first | refine callX_shared (c4) rfl (by decide) ?_ | refine callY_shared (c4) rfl ?_ | refine callX_new (c5) rfl (by decide) ?_ | refine callY_new (c5) rfl ?_ | refine hE _ _ ret_ne ?_ | refine hE _ _ exit_ne ?_))<;>(try simp (disch:=first | omega | decide +kernel) only [q',go_sem,Qa,Qb,Qc,Qd,Qe,↓reduceIte,reduceCtorEq,Qf,Qg,Qh])<;>clear q') | refine hN _ ?_ ?_ Wk.kk | with_reducible refine And.intro ?_ ?_ | with_reducible omega | exact ok_ints | exact cells_ints | exact no_mem | with_reducible exact plain_ints | (refine le_maxLen ?_; omega) | (refine za9 ⟨?_,?_⟩) | (simp only [go_sem,Qc,Qb,zb1,zb2,forall_eq]; done)))
 all_goals (try (exact absurd trivial h'))
 refine Ok.seqJ ⟨[(0,.d (D.bytes code))],[]⟩ ?_ (Ok.go ?_)
 rotate_left
 . cases hok : okPP n with
   | false =>
     simp (disch:=first | omega | decide +kernel) only [hok,go_sem,Qa,Qb,Qc,Qd,Qe,↓reduceIte,reduceCtorEq,Qf,Qg,Qh]
     (repeat' (first | ((first | (refine gsel_split (fun q' => ?_) (fun q' => ?_)<;>(have h':=q')<;>(try simp only [za1,za2,Ba,Bb,za3,ne_eq,za4,za5,za6,Ia,Ib,Ic,Ie,Da,Bc,Bd,Be,za7,za8] at h')<;>try (exfalso; omega)) | (have q':=trivial; first | refine hE _ _ ret_ne ?_ | refine hE _ _ exit_ne ?_))<;>(try simp (disch:=first | omega | decide +kernel) only [q',hok,go_sem,Qa,Qb,Qc,Qd,Qe,↓reduceIte,reduceCtorEq,Qf,Qg,Qh])<;>clear q') | refine hN _ ?_ ?_ Wk.kk | with_reducible refine And.intro ?_ ?_ | with_reducible omega | exact ok_ints | exact cells_ints | exact no_mem | with_reducible exact plain_ints | (refine le_maxLen ?_; omega) | (refine za9 ⟨?_,?_⟩) | (simp only [go_sem,Qc,Qb,zb1,zb2,forall_eq]; done)))
     exact (Wk.kk)
   | true =>
     obtain ⟨a,rfl,ha1,ha2⟩:=okPP_nat hok
     obtain ⟨p1,p2,p3,p4⟩:=pp_facts a (by omega) ha1
     have hpp : ppI a=ppV a:=by unfold ppI; rw [hok,if_pos rfl,Int.toNat_natCast]
     have hpc : pcC a=cnfS a:=by unfold pcC; rw [hok,if_pos rfl,Int.toNat_natCast]
     have hpv : pcV a=(a : Int) * (a + 1):=by unfold pcV; rw [hok,if_pos rfl]
     rw [hpc,hpv] at c6
     rw [hpp] at hpb
     rw [hpp,hpc,hpv]
     have d1:=pigeonholeS_ok a ⟨ha1,ha2⟩
     have d2:=isPlaneRefutation_ok ((a : Int) * (a + 1)) (cnfS a) (ppV a) (szP_of (by omega) hpb.1 hpb.2) p1 p2 p3
     simp (disch:=first | omega | decide +kernel) only [hok,List.length_map,go_sem,Qa,Qb,Qc,Qd,Qe,↓reduceIte,reduceCtorEq,Qf,Qg,Qh]
     (repeat' (first | ((first | (refine gsel_split (fun q' => ?_) (fun q' => ?_)<;>(have h':=q')<;>(try simp only [za1,za2,Ba,Bb,za3,ne_eq,za4,za5,za6,Ia,Ib,Ic,Ie,Da,Bc,Bd,Be,za7,za8] at h')<;>try (exfalso; omega)) | (have q':=trivial; first | refine callX_shared (d1) rfl (by decide) ?_ | refine callY_shared (d1) rfl ?_ | refine callX_new (d2) rfl (by decide) ?_ | refine callY_new (d2) rfl ?_ | refine callX_new (c6) rfl (by decide) ?_ | refine callY_new (c6) rfl ?_ | refine hE _ _ ret_ne ?_ | refine hE _ _ exit_ne ?_))<;>(try simp (disch:=first | omega | decide +kernel) only [q',hok,List.length_map,go_sem,Qa,Qb,Qc,Qd,Qe,↓reduceIte,reduceCtorEq,Qf,Qg,Qh])<;>clear q') | refine hN _ ?_ ?_ Wk.kk | with_reducible refine And.intro ?_ ?_ | with_reducible omega | exact ok_ints | exact cells_ints | exact no_mem | with_reducible exact plain_ints | (refine le_maxLen ?_; omega) | (refine za9 ⟨?_,?_⟩) | (simp only [go_sem,Qc,Qb,zb1,zb2,forall_eq]; done)))
     all_goals (first | exact absurd trivial h' | exact (Wk.kk))
 clear c1 c2 c3 c4 c5 c6 hcb2 hpb
 refine Ok.seq (Ok.go ?_)
 simp (disch:=first | omega | decide +kernel) only [go_sem,Qa,Qb,Qc,Qd,Qe,↓reduceIte,reduceCtorEq,Qf,Qg,Qh]
 refine callX_rel [] [] [] (drawHoleSteps_ok hc) ⟨.inl rfl,trivial⟩ trivial (by simp [namesI,keysO]) (by simp [dstB]) ?_
 rintro _ _ ⟨m,j,rfl,rfl,⟨hm1,hm2⟩,hj1,hj2⟩
 refine ⟨by simp [namesOK,keysO],?_⟩
 simp (disch:=first | omega | decide +kernel) only [go_sem,Qa,Qb,Qc,Qd,Qe,↓reduceIte,reduceCtorEq,Qf,Qg,Qh]
 have c1:=implHS_ok m j
 have c2:=specHS_ok m j
 have hpb:=hsV_bd m j
 have c5:=rPlanes_self (hsV m j) (by omega) fun s hs => by have:=hpb.2 s hs; omega
 refine Ok.seq (Ok.go ?_)
 simp (disch:=first | omega | decide +kernel) only [go_sem,Qa,Qb,Qc,Qd,Qe,↓reduceIte,reduceCtorEq,Qf,Qg,Qh]
 (repeat' (first | ((first | (refine gsel_split (fun q' => ?_) (fun q' => ?_)<;>(have h':=q')<;>(try simp only [za1,za2,Ba,Bb,za3,ne_eq,za4,za5,za6,Ia,Ib,Ic,Ie,Da,Bc,Bd,Be,za7,za8] at h')<;>try (exfalso; omega)) | (have q':=trivial; first | refine callX_new (c1) rfl (by decide) ?_ | refine callY_new (c1) rfl ?_ | refine hE _ _ ret_ne ?_ | refine hE _ _ exit_ne ?_))<;>(try simp (disch:=first | omega | decide +kernel) only [q',go_sem,Qa,Qb,Qc,Qd,Qe,↓reduceIte,reduceCtorEq,Qf,Qg,Qh])<;>clear q') | refine hN _ ?_ ?_ Wk.kk | with_reducible refine And.intro ?_ ?_ | with_reducible omega | exact ok_ints | exact cells_ints | exact no_mem | with_reducible exact plain_ints | (refine le_maxLen ?_; omega) | (refine za9 ⟨?_,?_⟩) | (simp only [go_sem,Qc,Qb,zb1,zb2,forall_eq]; done)))
 refine Ok.seq (Ok.go ?_)
 simp (disch:=first | omega | decide +kernel) only [go_sem,Qa,Qb,Qc,Qd,Qe,↓reduceIte,reduceCtorEq,Qf,Qg,Qh]
 (repeat' (first | ((first | (refine gsel_split (fun q' => ?_) (fun q' => ?_)<;>(have h':=q')<;>(try simp only [za1,za2,Ba,Bb,za3,ne_eq,za4,za5,za6,Ia,Ib,Ic,Ie,Da,Bc,Bd,Be,za7,za8] at h')<;>try (exfalso; omega)) | (have q':=trivial; first | refine callX_shared (c2) rfl (by decide) ?_ | refine callY_shared (c2) rfl ?_ | refine callX_new (c5) rfl (by decide) ?_ | refine callY_new (c5) rfl ?_ | refine hE _ _ ret_ne ?_ | refine hE _ _ exit_ne ?_))<;>(try simp (disch:=first | omega | decide +kernel) only [q',go_sem,Qa,Qb,Qc,Qd,Qe,↓reduceIte,reduceCtorEq,Qf,Qg,Qh])<;>clear q') | refine hN _ ?_ ?_ Wk.kk | with_reducible refine And.intro ?_ ?_ | with_reducible omega | exact ok_ints | exact cells_ints | exact no_mem | with_reducible exact plain_ints | (refine le_maxLen ?_; omega) | (refine za9 ⟨?_,?_⟩) | (simp only [go_sem,Qc,Qb,zb1,zb2,forall_eq]; done)))
 all_goals (try (exact absurd trivial h'))
 refine Ok.seqJ ⟨[(0,.d (D.bytes code))],[]⟩ ?_ ?_
 rotate_left
 . cases hok : okHS m j with
   | false =>
     refine Ok.go ?_
     simp (disch:=first | omega | decide +kernel) only [hok,go_sem,Qa,Qb,Qc,Qd,Qe,↓reduceIte,reduceCtorEq,Qf,Qg,Qh]
     (repeat' (first | ((first | (refine gsel_split (fun q' => ?_) (fun q' => ?_)<;>(have h':=q')<;>(try simp only [za1,za2,Ba,Bb,za3,ne_eq,za4,za5,za6,Ia,Ib,Ic,Ie,Da,Bc,Bd,Be,za7,za8] at h')<;>try (exfalso; omega)) | (have q':=trivial; first | refine hE _ _ ret_ne ?_ | refine hE _ _ exit_ne ?_))<;>(try simp (disch:=first | omega | decide +kernel) only [q',hok,go_sem,Qa,Qb,Qc,Qd,Qe,↓reduceIte,reduceCtorEq,Qf,Qg,Qh])<;>clear q') | refine hN _ ?_ ?_ Wk.kk | with_reducible refine And.intro ?_ ?_ | with_reducible omega | exact ok_ints | exact cells_ints | exact no_mem | with_reducible exact plain_ints | (refine le_maxLen ?_; omega) | (refine za9 ⟨?_,?_⟩) | (simp only [go_sem,Qc,Qb,zb1,zb2,forall_eq]; done)))
     exact (Wk.kk)
   | true =>
     have hok':=hok
     simp only [okHS,Bc,decide_eq_true_eq] at hok'
     obtain ⟨a,rfl⟩ : ∃ a : Nat,m=a:=⟨m.toNat,by omega⟩
     obtain ⟨b,rfl⟩ : ∃ b : Nat,j=b:=⟨j.toNat,by omega⟩
     have hf:=hs_facts a (by omega) b (by omega) (by omega) (by omega) (by omega)
     simp only [hsF,Bc,decide_eq_true_eq] at hf
     obtain ⟨⟨f1,f2⟩,f3,f4⟩:=hf
     have hv : hsV a b=hsN a b:=by unfold hsV hsN; rw [hok,if_pos rfl,Int.toNat_natCast]
     rw [hv] at hpb
     rw [hv]
     have d1:=pigeonCnfS_ok a (by omega)
     have d2:=isPlaneProof_ok ((a : Int) * (a + 1)) (cnfS a) (hsN a b) (szP_of (by omega) hpb.1 hpb.2) f1 f2
     have d3:=holePlane_ok a b (by omega) (by omega)
     have hln : (hpC a b (a + 1)).length<=4294967296:=by
      rw [hpC_len]; have:=(hp_bd (n:=a) (j:=b) (i:=0) (by omega) (by omega) (by omega)).2.1; omega
     have d4:=rInts_self (hpC a b (a + 1)) hln
     have hei:=el_pst (xs:=hsN a b) (i:=(hsN a b).length - 1) (by omega)
     have ht : (((hsN a b).length : Nat) : Int) - 1=(((hsN a b).length - 1 : Nat) : Int):=by omega
     generalize (hsN a b).getD ((hsN a b).length - 1) PSt.z=s at *
     obtain ⟨q,s1,s2,s3,s4⟩:=s
     simp only at f4
     subst f4
     generalize hpC a b (a + 1)=hp at *
     generalize hsN a b=st at *
     refine Ok.weak (Wk.data (j:=12000000) (es:=st.map D.pst) rfl rfl) (Ok.go ?_)
     simp (disch:=first | omega | decide +kernel) only [hok,go_sem,Qa,Qb,Qc,Qd,Qe,↓reduceIte,reduceCtorEq,Qf,Qg,Qh]
     (repeat' (first | ((first | (refine gsel_split (fun q' => ?_) (fun q' => ?_)<;>(have h':=q')<;>(try simp only [za1,za2,Ba,Bb,za3,ne_eq,za4,za5,za6,Ia,Ib,Ic,Ie,Da,Bc,Bd,Be,za7,za8] at h')<;>try (exfalso; omega)) | (have q':=trivial; first | refine callX_shared (d1) rfl (by decide) ?_ | refine callY_shared (d1) rfl ?_ | refine callX_new (d2) rfl (by decide) ?_ | refine callY_new (d2) rfl ?_ | refine callX_shared (d3) rfl (by decide) ?_ | refine callY_shared (d3) rfl ?_ | refine callX_new (d4) rfl (by decide) ?_ | refine callY_new (d4) rfl ?_ | refine hE _ _ ret_ne ?_ | refine hE _ _ exit_ne ?_))<;>(try simp (disch:=first | omega | decide +kernel) only [q',hok,ht,hei,D.pst,D.pl,List.length_map,go_sem,Qa,Qb,Qc,Qd,Qe,↓reduceIte,reduceCtorEq,Qf,Qg,Qh])<;>clear q') | refine hN _ ?_ ?_ Wk.kk | with_reducible refine And.intro ?_ ?_ | with_reducible omega | exact ok_ints | exact cells_ints | exact no_mem | with_reducible exact plain_ints | (refine le_maxLen ?_; omega) | (refine za9 ⟨?_,?_⟩) | (simp only [go_sem,Qc,Qb,zb1,zb2,forall_eq]; done)))
     all_goals (first | exact absurd trivial h' | exact (rfl : (D.ints hp).atom=true) | (exfalso; omega) | exact (Wk.kk))
 refine Ok.go ?_
 simp (disch:=first | omega | decide +kernel) only [go_sem,Qa,Qb,Qc,Qd,Qe,↓reduceIte,reduceCtorEq,Qf,Qg,Qh]
 (repeat' (first | ((first | (refine gsel_split (fun q' => ?_) (fun q' => ?_)<;>(have h':=q')<;>(try simp only [za1,za2,Ba,Bb,za3,ne_eq,za4,za5,za6,Ia,Ib,Ic,Ie,Da,Bc,Bd,Be,za7,za8] at h')<;>try (exfalso; omega)) | (have q':=trivial; first | refine hE _ _ ret_ne ?_ | refine hE _ _ exit_ne ?_))<;>(try simp (disch:=first | omega | decide +kernel) only [q',go_sem,Qa,Qb,Qc,Qd,Qe,↓reduceIte,reduceCtorEq,Qf,Qg,Qh])<;>clear q') | refine hN _ ?_ ?_ Wk.kk | with_reducible refine And.intro ?_ ?_ | with_reducible omega | exact ok_ints | exact cells_ints | exact no_mem | with_reducible exact plain_ints | (refine le_maxLen ?_; omega) | (refine za9 ⟨?_,?_⟩) | (simp only [go_sem,Qc,Qb,zb1,zb2,forall_eq]; done)))
end Abs.Y
