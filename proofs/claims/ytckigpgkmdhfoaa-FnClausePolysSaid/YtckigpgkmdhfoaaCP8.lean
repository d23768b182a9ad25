/- What functions of this program compute, over plain data. No condition. -/
import Derived.Test.YtckigpgkmdhfoaaFA5
set_option linter.all false
namespace Abs.Y
open Go Go.Proofs Abs
open Nat renaming reduceEqDiff -> Qa, reduceLT -> Qb, reduceAdd -> Qc, reduceMul -> Qd, reduceSub -> Qe, reduceLeDiff -> Qf, reduceSubDiff -> Qg, reduceBEq -> Qh
open Bool renaming not_eq_true' -> Ba, not_eq_false' -> Bb, and_eq_true -> Bc, or_eq_true -> Bh, or_eq_false_iff -> Be
open Int renaming ofNat_lt -> Ia, ofNat_le -> Ib, not_lt -> Ic, not_le -> Ie
open Decidable renaming not_not -> Da
set_option maxRecDepth 100000

theorem polys_no {p v : Int} {list : List (List (Int × Int))} (hpr : primeB p v=false) :
 Ctr Try.prog 63 [.int .i64 p,.int .i64 v,.slice (list.map D.tms)] true (.tup [.d (.agg [.int .i64 p,.int .i64 v]),.d (.slice []),.d (.bool false)]) []:=by
 have c1:=Ctr.tupN (ys:=[_,_]) (ringOf_ok p v)
 rw [hpr] at c1
 refine Ctr.of (n:=43) (rs:=[.cell 6 84,.tmp 7,.tmp 8]) Try.func63 rfl rfl Try.ntmps63 rfl rfl (by kernel_rfl) Try.checked.mixed ?_
 simp (disch:=first | omega | decide +kernel) only [go_sem,Qa,Qb,Qc,Qd,Qe,↓reduceIte,reduceCtorEq,Qf,Qg,Qh]
 (repeat' (first | ((first | (refine gsel_split (fun q' => ?_) (fun q' => ?_)<;>(have h':=q')<;>(try simp only [za1,za2,Ba,Bb,za3,ne_eq,za4,za5,za6,Ia,Ib,Ic,Ie,Da,Bc,Bh,Be,za7,za8] at h')<;>try (exfalso; omega)) | (have q':=trivial; first | refine callX_new (c1) rfl (by decide) ?_ | refine callY_new (c1) rfl ?_ | refine hE _ _ ret_ne ?_ | refine hE _ _ exit_ne ?_))<;>(try simp (disch:=first | omega | decide +kernel) only [q',go_sem,Qa,Qb,Qc,Qd,Qe,↓reduceIte,reduceCtorEq,Qf,Qg,Qh])<;>clear q') | refine hN _ ?_ ?_ Wk.kk | with_reducible refine And.intro ?_ ?_ | with_reducible omega | exact ok_ints | exact cells_ints | exact no_mem | with_reducible exact plain_ints | (refine le_maxLen ?_; omega) | (refine za9 ⟨?_,?_⟩) | (simp only [go_sem,Qc,Qb,zb1,zb2,forall_eq]; done)))
 all_goals (first | exact ret_scbdd [7] rfl rfl rfl rfl (by simp only [go_sem]) (by simp only [go_sem,List.length_cons,List.length_nil]) rfl (by simp only [go_sem]))
def okA (p v : Int) (cs : List (List Int)) (a b : List (Int × Int)) : Bool:=okCnf v cs && (primeB p v && (isT p (2 ^ v.toNat) a && isT p (2 ^ v.toNat) b))
def smA (p v : Int) (cs : List (List Int)) (a b : List (Int × Int)) : Bool:=smB p (2 ^ v.toNat) cs (dnT (2 ^ v.toNat) a) (dnT (2 ^ v.toNat) b)
set_option maxHeartbeats 4000000 in
theorem iAreSameOn_ok {p v : Int} {cs : List (List Int)} {a b : List (Int × Int)} (hl : cs.length<=1000) (hcl : ∀ c ∈ cs,c.length<=1000) (hal : a.length<=1000) (hbl : b.length<=1000) :
 Ctr Try.prog 26 [.int .i64 p,.agg [.int .i64 v,.slice (cs.map D.ints)],D.tms a,D.tms b] false (.tup [.d (.bool (okA p v cs a b && smA p v cs a b)),.d (.bool (okA p v cs a b))]) []:=by
 have c1:=isCnf_ok v cs (by omega) fun j => by have:=getD_small (B:=1000) hcl j; omega
 unfold okA
 cases h4 : okCnf v cs with
 | false =>
   rw [h4] at c1
   refine Ctr.of (n:=34) (rs:=[.tmp 8,.tmp 9]) Try.func26 rfl rfl Try.ntmps26 rfl rfl (by kernel_rfl) Try.checked.mixed ?_
   simp (disch:=first | omega | decide +kernel) only [go_sem,Qa,Qb,Qc,Qd,Qe,↓reduceIte,reduceCtorEq,Qf,Qg,Qh]
   (repeat' (first | ((first | (refine gsel_split (fun q' => ?_) (fun q' => ?_)<;>(have h':=q')<;>(try simp only [za1,za2,Ba,Bb,za3,ne_eq,za4,za5,za6,Ia,Ib,Ic,Ie,Da,Bc,Bh,Be,za7,za8] at h')<;>try (exfalso; omega)) | (have q':=trivial; first | refine callX_new (c1) rfl (by decide) ?_ | refine callY_new (c1) rfl ?_ | refine hE _ _ ret_ne ?_ | refine hE _ _ exit_ne ?_))<;>(try simp (disch:=first | omega | decide +kernel) only [q',go_sem,Qa,Qb,Qc,Qd,Qe,↓reduceIte,reduceCtorEq,Qf,Qg,Qh])<;>clear q') | refine hN _ ?_ ?_ Wk.kk | with_reducible refine And.intro ?_ ?_ | with_reducible omega | exact ok_ints | exact cells_ints | exact no_mem | with_reducible exact plain_ints | (refine le_maxLen ?_; omega) | (refine za9 ⟨?_,?_⟩) | (simp only [go_sem,Qc,Qb,zb1,zb2,forall_eq]; done)))
 | true =>
   rw [h4] at c1
   cases hpr : primeB p v with
   | false =>
     have c2:=Ctr.eat3 (e:=43) (k:=1) (Ctr.tupN (ys:=[_,_,_]) (polys_no (list:=[a,b]) hpr))
     simp only [List.map_cons,List.map_nil] at c2
     refine Ctr.of (n:=34) (rs:=[.tmp 8,.tmp 9]) Try.func26 rfl rfl Try.ntmps26 rfl rfl (by kernel_rfl) Try.checked.mixed ?_
     simp (disch:=first | omega | decide +kernel) only [go_sem,Qa,Qb,Qc,Qd,Qe,↓reduceIte,reduceCtorEq,Qf,Qg,Qh]
     (repeat' (first | ((first | (refine gsel_split (fun q' => ?_) (fun q' => ?_)<;>(have h':=q')<;>(try simp only [za1,za2,Ba,Bb,za3,ne_eq,za4,za5,za6,Ia,Ib,Ic,Ie,Da,Bc,Bh,Be,za7,za8] at h')<;>try (exfalso; omega)) | (have q':=trivial; first | refine callX_new (c1) rfl (by decide) ?_ | refine callY_new (c1) rfl ?_ | refine callX_mut [23] [23] [23] (c2) ⟨.inl rfl,.inl rfl,.inl rfl,trivial⟩ ⟨rfl,trivial⟩ rfl (by simp [dstB]) ?_ | refine hE _ _ ret_ne ?_ | refine hE _ _ exit_ne ?_))<;>(try simp (disch:=first | omega | decide +kernel) only [q',go_sem,Qa,Qb,Qc,Qd,Qe,↓reduceIte,reduceCtorEq,Qf,Qg,Qh])<;>clear q') | refine hN _ ?_ ?_ Wk.kk | with_reducible refine And.intro ?_ ?_ | with_reducible omega | exact ok_ints | exact cells_ints | exact no_mem | with_reducible exact plain_ints | (refine le_maxLen ?_; omega) | (refine za9 ⟨?_,?_⟩) | (simp only [go_sem,Qc,Qb,zb1,zb2,forall_eq]; done)))
     all_goals trace_state
   | true =>
     obtain ⟨hp,hu0,hu6⟩:=primeB_of hpr
     obtain ⟨u,rfl⟩:=Int.eq_ofNat_of_zero_le hu0
     rw [Int.toNat_natCast]
     have c2:=Ctr.tupN (ys:=[_,_,_]) (polys_ok hp (u:=u) (by omega) (list:=[a,b]) hpr (by simp) (fun j => by
      match j with
      | 0 => show a.length<=_; omega
      | 1 => show b.length<=_; omega
      | j + 2 => simp))
     simp only [List.all_cons,List.all_nil,Bool.and_true,List.map_cons,List.map_nil] at c2
     have c2:=Ctr.eat3 (e:=43) (k:=1) c2
     cases hT : (isT p (2 ^ u) a && isT p (2 ^ u) b) with
     | false =>
       rw [hT,if_neg (by decide)] at c2
       refine Ctr.of (n:=34) (rs:=[.tmp 8,.tmp 9]) Try.func26 rfl rfl Try.ntmps26 rfl rfl (by kernel_rfl) Try.checked.mixed ?_
       simp (disch:=first | omega | decide +kernel) only [go_sem,Qa,Qb,Qc,Qd,Qe,↓reduceIte,reduceCtorEq,Qf,Qg,Qh]
       (repeat' (first | ((first | (refine gsel_split (fun q' => ?_) (fun q' => ?_)<;>(have h':=q')<;>(try simp only [za1,za2,Ba,Bb,za3,ne_eq,za4,za5,za6,Ia,Ib,Ic,Ie,Da,Bc,Bh,Be,za7,za8] at h')<;>try (exfalso; omega)) | (have q':=trivial; first | refine callX_new (c1) rfl (by decide) ?_ | refine callY_new (c1) rfl ?_ | refine callX_mut [23] [23] [23] (c2) ⟨.inl rfl,.inl rfl,.inl rfl,trivial⟩ ⟨rfl,trivial⟩ rfl (by simp [dstB]) ?_ | refine hE _ _ ret_ne ?_ | refine hE _ _ exit_ne ?_))<;>(try simp (disch:=first | omega | decide +kernel) only [q',go_sem,Qa,Qb,Qc,Qd,Qe,↓reduceIte,reduceCtorEq,Qf,Qg,Qh])<;>clear q') | refine hN _ ?_ ?_ Wk.kk | with_reducible refine And.intro ?_ ?_ | with_reducible omega | exact ok_ints | exact cells_ints | exact no_mem | with_reducible exact plain_ints | (refine le_maxLen ?_; omega) | (refine za9 ⟨?_,?_⟩) | (simp only [go_sem,Qc,Qb,zb1,zb2,forall_eq]; done)))
       all_goals trace_state
     | true =>
       rw [hT,if_pos rfl] at c2
       rw [Bc] at hT
       have c3:=modelsSame_ok hp (u:=u) (by omega) (Vec.dn (p:=p) (by omega) (isT_tms hT.1)) (Vec.dn (p:=p) (by omega) (isT_tms hT.2)) cs (cls_of h4 fun c hc => by have:=hcl c hc; omega)
       unfold smA
       rw [Int.toNat_natCast]
       simp only [Bool.and_self,Bool.true_and]
       generalize smB p (2 ^ u) cs (dnT (2 ^ u) a) (dnT (2 ^ u) b)=B at *
       generalize dnT (2 ^ u) a=va at *
       generalize dnT (2 ^ u) b=vb at *
       simp only [D.ints] at c2 c3
       refine Ctr.of (n:=34) (rs:=[.tmp 8,.tmp 9]) Try.func26 rfl rfl Try.ntmps26 rfl rfl (by kernel_rfl) Try.checked.mixed ?_
       simp (disch:=first | omega | decide +kernel) only [go_sem,Qa,Qb,Qc,Qd,Qe,↓reduceIte,reduceCtorEq,Qf,Qg,Qh]
       (repeat' (first | ((first | (refine gsel_split (fun q' => ?_) (fun q' => ?_)<;>(have h':=q')<;>(try simp only [za1,za2,Ba,Bb,za3,ne_eq,za4,za5,za6,Ia,Ib,Ic,Ie,Da,Bc,Bh,Be,za7,za8] at h')<;>try (exfalso; omega)) | (have q':=trivial; first | refine callX_new (c1) rfl (by decide) ?_ | refine callY_new (c1) rfl ?_ | refine callX_mut [23] [23] [23] (c2) ⟨.inl rfl,.inl rfl,.inl rfl,trivial⟩ ⟨rfl,trivial⟩ rfl (by simp [dstB]) ?_ | refine callX_mut [10,11,13] [10,11,13] [] (c3) ⟨.inl rfl,.inl rfl,trivial⟩ ⟨rfl,rfl,rfl,trivial⟩ rfl (by simp [dstB]) ?_ | refine hE _ _ ret_ne ?_ | refine hE _ _ exit_ne ?_))<;>(try simp (disch:=first | omega | decide +kernel) only [q',go_sem,Qa,Qb,Qc,Qd,Qe,↓reduceIte,reduceCtorEq,Qf,Qg,Qh])<;>clear q') | refine hN _ ?_ ?_ Wk.kk | with_reducible refine And.intro ?_ ?_ | with_reducible omega | exact ok_ints | exact cells_ints | exact no_mem | with_reducible exact plain_ints | (refine le_maxLen ?_; omega) | (refine za9 ⟨?_,?_⟩) | (simp only [go_sem,Qc,Qb,zb1,zb2,forall_eq]; done)))
       all_goals trace_state
set_option maxHeartbeats 4000000 in
theorem sAreSameOn_ok {p v : Int} {cs : List (List Int)} {a b : List (Int × Int)} (hl : cs.length<=1000) (hcl : ∀ c ∈ cs,c.length<=1000) (hal : a.length<=1000) (hbl : b.length<=1000) :
 Ctr Try.prog 27 [.int .i64 p,.agg [.int .i64 v,.slice (cs.map D.ints)],D.tms a,D.tms b] false (.tup [.d (.bool (okA p v cs a b && smA p v cs a b)),.d (.bool (okA p v cs a b))]) []:=by
 have c1:=l2Good_ok v cs (by omega) fun j => by have:=getD_small (B:=1000) hcl j; omega
 have c2:=l18Two_ok p v a b hal hbl
 unfold okA
 cases h4 : okCnf v cs with
 | false =>
   rw [h4] at c1
   refine Ctr.of (n:=48) (rs:=[.tmp 8,.tmp 9]) Try.func27 rfl rfl Try.ntmps27 rfl rfl (by kernel_rfl) Try.checked.mixed ?_
   simp (disch:=first | omega | decide +kernel) only [go_sem,Qa,Qb,Qc,Qd,Qe,↓reduceIte,reduceCtorEq,Qf,Qg,Qh]
   (repeat' (first | ((first | (refine gsel_split (fun q' => ?_) (fun q' => ?_)<;>(have h':=q')<;>(try simp only [za1,za2,Ba,Bb,za3,ne_eq,za4,za5,za6,Ia,Ib,Ic,Ie,Da,Bc,Bh,Be,za7,za8] at h')<;>try (exfalso; omega)) | (have q':=trivial; first | refine callX_new (c1) rfl (by decide) ?_ | refine callY_new (c1) rfl ?_ | refine hE _ _ ret_ne ?_ | refine hE _ _ exit_ne ?_))<;>(try simp (disch:=first | omega | decide +kernel) only [q',go_sem,Qa,Qb,Qc,Qd,Qe,↓reduceIte,reduceCtorEq,Qf,Qg,Qh])<;>clear q') | refine hN _ ?_ ?_ Wk.kk | with_reducible refine And.intro ?_ ?_ | with_reducible omega | exact ok_ints | exact cells_ints | exact no_mem | with_reducible exact plain_ints | (refine le_maxLen ?_; omega) | (refine za9 ⟨?_,?_⟩) | (simp only [go_sem,Qc,Qb,zb1,zb2,forall_eq]; done)))
 | true =>
   rw [h4] at c1
   cases h5 : (primeB p v && (isT p (2 ^ v.toNat) a && isT p (2 ^ v.toNat) b)) with
   | false =>
     rw [h5] at c2
     refine Ctr.of (n:=48) (rs:=[.tmp 8,.tmp 9]) Try.func27 rfl rfl Try.ntmps27 rfl rfl (by kernel_rfl) Try.checked.mixed ?_
     simp (disch:=first | omega | decide +kernel) only [go_sem,Qa,Qb,Qc,Qd,Qe,↓reduceIte,reduceCtorEq,Qf,Qg,Qh]
     (repeat' (first | ((first | (refine gsel_split (fun q' => ?_) (fun q' => ?_)<;>(have h':=q')<;>(try simp only [za1,za2,Ba,Bb,za3,ne_eq,za4,za5,za6,Ia,Ib,Ic,Ie,Da,Bc,Bh,Be,za7,za8] at h')<;>try (exfalso; omega)) | (have q':=trivial; first | refine callX_new (c1) rfl (by decide) ?_ | refine callY_new (c1) rfl ?_ | refine callX_new (c2) rfl (by decide) ?_ | refine callY_new (c2) rfl ?_ | refine hE _ _ ret_ne ?_ | refine hE _ _ exit_ne ?_))<;>(try simp (disch:=first | omega | decide +kernel) only [q',go_sem,Qa,Qb,Qc,Qd,Qe,↓reduceIte,reduceCtorEq,Qf,Qg,Qh])<;>clear q') | refine hN _ ?_ ?_ Wk.kk | with_reducible refine And.intro ?_ ?_ | with_reducible omega | exact ok_ints | exact cells_ints | exact no_mem | with_reducible exact plain_ints | (refine le_maxLen ?_; omega) | (refine za9 ⟨?_,?_⟩) | (simp only [go_sem,Qc,Qb,zb1,zb2,forall_eq]; done)))
   | true =>
     rw [h5] at c2
     simp only [Bc] at h5
     obtain ⟨hpr,hTa,hTb⟩:=h5
     obtain ⟨hp,hu0,hu6⟩:=primeB_of hpr
     obtain ⟨u,rfl⟩:=Int.eq_ofNat_of_zero_le hu0
     rw [Int.toNat_natCast] at hTa hTb
     have h6:=pow_le6 (u:=u) (by omega)
     have e : IntKind.wrap .i64 (1 * 2 ^ min u 64)=((2 ^ u : Nat) : Int):=shl_one (by omega)
     have c3:=fun (x : Nat) (hx : x < 64) => l3Total_ok u x (by omega) (by omega)
     have c4:=fun (x : Nat) => l3CnfValue_ok (u : Int) cs (totI x u) ⟨hl,fun c hc => by have:=hcl c hc; omega,by rw [totI_len]; omega⟩ (lits3 h4)
     have c5:=fun (x : Nat) (hx : x < 64) => l18Value_ok hp (u:=u) (by omega) hal hTa (x:=x) hx
     have c6:=fun (x : Nat) (hx : x < 64) => l18Value_ok hp (u:=u) (by omega) hbl hTb (x:=x) hx
     have hmv : ∀ x,(mvI cs (totI x u) cs.length == 1)=tmod cs x:=fun x => by
      have:=mv_tot (x:=x) (u:=u) (cs:=cs) fun c hc l hl => by
       have h:=okCnf_allC h4 c hc
       exact ⟨((good_of_ok h).2 l hl).1,by have:=bd_of_ok h l hl; omega⟩
      rw [Bool.eq_iff_iff,beq_iff_eq]; exact this
     unfold smA
     rw [Int.toNat_natCast]
     simp only [Bool.and_self,Bool.true_and]
     have hno:=fun (i : Nat) => smB_no (p:=p) (n:=2 ^ u) (cs:=cs) (va:=dnT (2 ^ u) a) (vb:=dnT (2 ^ u) b) (i:=i)
     have hyes:=smB_yes (p:=p) (n:=2 ^ u) (cs:=cs) (va:=dnT (2 ^ u) a) (vb:=dnT (2 ^ u) b)
     simp only [D.ints] at c4
     generalize smB p (2 ^ u) cs (dnT (2 ^ u) a) (dnT (2 ^ u) b)=B at *
     generalize dnT (2 ^ u) a=va at *
     generalize dnT (2 ^ u) b=vb at *
     generalize 2 ^ u=n at *
     refine Ctr.of (n:=48) (rs:=[.tmp 8,.tmp 9]) Try.func27 rfl rfl Try.ntmps27 rfl rfl (by kernel_rfl) Try.checked.mixed ?_
     simp (disch:=first | omega | decide +kernel) only [go_sem,Qa,Qb,Qc,Qd,Qe,↓reduceIte,reduceCtorEq,Qf,Qg,Qh]
     (repeat' (first | ((first | (refine gsel_split (fun q' => ?_) (fun q' => ?_)<;>(have h':=q')<;>(try simp only [za1,za2,Ba,Bb,za3,ne_eq,za4,za5,za6,Ia,Ib,Ic,Ie,Da,Bc,Bh,Be,za7,za8] at h')<;>try (exfalso; omega)) | (have q':=trivial; first | refine callX_new (c1) rfl (by decide) ?_ | refine callY_new (c1) rfl ?_ | refine callX_new (c2) rfl (by decide) ?_ | refine callY_new (c2) rfl ?_ | refine hE _ _ ret_ne ?_ | refine hE _ _ exit_ne ?_))<;>(try simp (disch:=first | omega | decide +kernel) only [q',go_sem,Qa,Qb,Qc,Qd,Qe,↓reduceIte,reduceCtorEq,Qf,Qg,Qh])<;>clear q') | refine hN _ ?_ ?_ Wk.kk | with_reducible refine And.intro ?_ ?_ | with_reducible omega | exact ok_ints | exact cells_ints | exact no_mem | with_reducible exact plain_ints | (refine le_maxLen ?_; omega) | (refine za9 ⟨?_,?_⟩) | (simp only [go_sem,Qc,Qb,zb1,zb2,forall_eq]; done)))
     refine Ok.loopC [47,46,45,44,43,42,41,40,39,38,37,36,35,34,33,32,31,30,29,28,27,26,25,24,23,22,21,20,19,18,17,16,15,14,13,12,11,10,9,8,7,6,4,1] (fun i => [(10,.d (.int .i64 (i : Nat)))]) n (fun i => ∀ j,j < i->tmod cs j=true->(ev p va j == ev p vb j)=true) (fun j hj => absurd hj (by omega)) (Wk.kk) ?_
     intro R i hN hE hi hI
     by_cases hlt : i < n
     . have d3:=Ctr.data1 (c3 i (by omega))
       have d4:=c4 i
       have d5:=c5 i (by omega)
       have d6:=c6 i (by omega)
       have hm:=hmv i
       have hno:=hno i hlt
       have hI2 : (tmod cs i=true->(ev p va i == ev p vb i)=true)->∀ j,j < i + 1->tmod cs j=true->(ev p va j == ev p vb j)=true:=fun h j hj => by
        rcases (by omega : j < i∨j=i) with hj | rfl
        . exact hI j hj
        . exact h
       clear hyes c3 c4 c5 c6 hI hmv
       generalize mvI cs (totI i u) cs.length=mv at *
       generalize totI i u=T at *
       generalize tmod cs i=m at *
       subst hm
       generalize ev p va i=y at *
       generalize ev p vb i=z at *
       simp (disch:=first | omega | decide +kernel) only [e,Int.toNat_natCast,go_sem,Qa,Qb,Qc,Qd,Qe,↓reduceIte,reduceCtorEq,Qf,Qg,Qh]
       (repeat' (first | ((first | (refine gsel_split (fun q' => ?_) (fun q' => ?_)<;>(have h':=q')<;>(try simp only [za1,za2,Ba,Bb,za3,ne_eq,za4,za5,za6,Ia,Ib,Ic,Ie,Da,Bc,Bh,Be,za7,za8] at h')<;>try (exfalso; omega)) | (have q':=trivial; first | refine callX_shared (d3) rfl (by decide) ?_ | refine callY_shared (d3) rfl ?_ | refine callX_new (d4) rfl (by decide) ?_ | refine callY_new (d4) rfl ?_ | refine callX_new (d5) rfl (by decide) ?_ | refine callY_new (d5) rfl ?_ | refine callX_new (d6) rfl (by decide) ?_ | refine callY_new (d6) rfl ?_ | refine hE _ _ ret_ne ?_ | refine hE _ _ exit_ne ?_))<;>(try simp (disch:=first | omega | decide +kernel) only [q',e,Int.toNat_natCast,go_sem,Qa,Qb,Qc,Qd,Qe,↓reduceIte,reduceCtorEq,Qf,Qg,Qh])<;>clear q') | refine hN _ ?_ ?_ Wk.kk | with_reducible refine And.intro ?_ ?_ | with_reducible omega | exact ok_ints | exact cells_ints | exact no_mem | with_reducible exact plain_ints | (refine le_maxLen ?_; omega) | (refine za9 ⟨?_,?_⟩) | (simp only [go_sem,Qc,Qb,zb1,zb2,forall_eq]; done)))
       all_goals clear hN hE c1 c2 d3 d4 d5 d6
       all_goals (first | (rw [hno (by simp_all) (by simp_all)]; done) | exact hI2 (by simp_all))
     . obtain rfl : i=n:=by omega
       have hB:=hyes hI
       subst hB
       clear c3 c4 c5 c6
       simp (disch:=first | omega | decide +kernel) only [e,Int.toNat_natCast,go_sem,Qa,Qb,Qc,Qd,Qe,↓reduceIte,reduceCtorEq,Qf,Qg,Qh]
       (repeat' (first | ((first | (refine gsel_split (fun q' => ?_) (fun q' => ?_)<;>(have h':=q')<;>(try simp only [za1,za2,Ba,Bb,za3,ne_eq,za4,za5,za6,Ia,Ib,Ic,Ie,Da,Bc,Bh,Be,za7,za8] at h')<;>try (exfalso; omega)) | (have q':=trivial; first | refine hE _ _ ret_ne ?_ | refine hE _ _ exit_ne ?_))<;>(try simp (disch:=first | omega | decide +kernel) only [q',e,Int.toNat_natCast,go_sem,Qa,Qb,Qc,Qd,Qe,↓reduceIte,reduceCtorEq,Qf,Qg,Qh])<;>clear q') | refine hN _ ?_ ?_ Wk.kk | with_reducible refine And.intro ?_ ?_ | with_reducible omega | exact ok_ints | exact cells_ints | exact no_mem | with_reducible exact plain_ints | (refine le_maxLen ?_; omega) | (refine za9 ⟨?_,?_⟩) | (simp only [go_sem,Qc,Qb,zb1,zb2,forall_eq]; done)))
       all_goals trace_state
end Abs.Y
