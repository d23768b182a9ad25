/- What functions of this program compute, over plain data. No condition. -/
import Derived.Test.YtcpflbfcglcjfaaV14c
set_option linter.all false
namespace Abs
open Go Go.RowKit
theorem retQ_d4 {P : Program} {t1 t2 t3 t4 : Nat} {a b y z : D} {st : St} (js : List Nat) (h1 : lk t1 (frzs js st).s=some (.d a)) (h2 : lk t2 (frzs js st).s=some (.d b)) (h3 : lk t3 (frzs js st).s=some (.d y)) (h4 : lk t4 (frzs js st).s=some (.d z)) :
 retQ P [.tmp t1,.tmp t2,.tmp t3,.tmp t4] true (.tup [.d a,.d b,.d y,.d z]) [] .ret st:=by
 refine .inr ⟨rfl,js,?_⟩
 simp only [retO,resV,h1,h2,h3,h4]
 exact ⟨trivial,.nil rfl,.inl trivial⟩
end Abs
namespace Abs.Y
open Go Go.Proofs Abs
open Nat renaming reduceEqDiff -> Qa, reduceLT -> Qb, reduceAdd -> Qc, reduceMul -> Qd, reduceSub -> Qe, reduceLeDiff -> Qf, reduceSubDiff -> Qg, reduceBEq -> Qh
open Bool renaming not_eq_true' -> Ba, not_eq_false' -> Bb, and_eq_true -> Bc, or_eq_true -> Bd, or_eq_false_iff -> Be
open Int renaming ofNat_lt -> Ia, ofNat_le -> Ib, not_lt -> Ic, not_le -> Ie
open Decidable renaming not_not -> Da
set_option maxRecDepth 100000

theorem l10Find_ok (W : Wrk) (c : List Int) (at_ : Nat) (hat : at_ < W.list.length) (hc : W.list.getD at_ []=c) (hn : W.list.Nodup) (hl : W.list.length<=4096) (hx : ∀ x ∈ W.list,x.length<=12) :
 Ctr Try.prog 117 [D.wrk W,.ints c] false (.d (.int .i64 (at_ : Nat))) []:=by
 obtain ⟨l,rd,lf,rt,pv,so⟩:=W
 simp only at hat hc hn hl hx
 refine Ctr.of (n:=21) (rs:=[.tmp 4]) Try.func117 rfl rfl Try.ntmps117 rfl rfl (by kernel_rfl) Try.checked.mixed ?_
 simp (disch:=first | omega | decide +kernel) only [D.wrk,D.ints,go_sem,Qa,Qb,Qc,Qd,Qe,↓reduceIte,reduceCtorEq,Qf,Qg,Qh]
 refine Ok.loopC [20,19,18,17,16,15,14,13,12,11,10,9,8,7,6,5,4,3,0] (fun i => [(5,.d (.int .i64 (i : Nat)))]) l.length (fun i => i<=at_) (Nat.zero_le _) (Wk.kk) ?_
 intro R i hN hE hi hI
 have hlt : i < l.length:=by omega
 have el1 : el (l.map D.ints) i=D.ints (l.getD i []):=el_map (f:=D.ints) [] hlt
 have c1:=l1Same_ok (l.getD i []) c (by have:=hx _ (getD_mem (z:=([] : List Int)) hlt); omega)
 by_cases e : i=at_
 . subst e
   rw [decide_eq_true hc] at c1
   simp (disch:=first | omega | decide +kernel) only [el1,D.ints,List.length_map,go_sem,Qa,Qb,Qc,Qd,Qe,↓reduceIte,reduceCtorEq,Qf,Qg,Qh]
   (repeat' (first | ((first | (refine gsel_split (fun q' => ?_) (fun q' => ?_)<;>(have h':=q')<;>(try simp only [za1,za2,Ba,Bb,za3,ne_eq,za4,za5,za6,Ia,Ib,Ic,Ie,Da,Bc,Bd,Be,za7,za8] at h')<;>try (exfalso; omega)) | (have q':=trivial; first | refine callX_new (c1) rfl (by decide) ?_ | refine callY_new (c1) rfl ?_ | refine hE _ _ ret_ne ?_ | refine hE _ _ exit_ne ?_))<;>(try simp (disch:=first | omega | decide +kernel) only [q',el1,D.ints,List.length_map,go_sem,Qa,Qb,Qc,Qd,Qe,↓reduceIte,reduceCtorEq,Qf,Qg,Qh])<;>clear q') | refine hN _ ?_ ?_ Wk.kk | with_reducible refine And.intro ?_ ?_ | with_reducible omega | exact ok_ints | exact cells_ints | exact no_mem | with_reducible exact plain_ints | (refine le_maxLen ?_; omega) | (refine za9 ⟨?_,?_⟩) | (simp only [go_sem,Qc,Qb,zb1,zb2,forall_eq]; done)))
 . have hne : l.getD i [] ≠ c:=fun h => e (by
    rw [← hc] at h
    rw [List.getD_eq_getElem?_getD,List.getD_eq_getElem?_getD,List.getElem?_eq_getElem hlt,List.getElem?_eq_getElem hat,Option.getD_some,Option.getD_some] at h
    exact absurd h (List.pairwise_iff_getElem.1 hn i at_ hlt hat (by omega)))
   rw [decide_eq_false hne] at c1
   simp (disch:=first | omega | decide +kernel) only [el1,D.ints,List.length_map,go_sem,Qa,Qb,Qc,Qd,Qe,↓reduceIte,reduceCtorEq,Qf,Qg,Qh]
   (repeat' (first | ((first | (refine gsel_split (fun q' => ?_) (fun q' => ?_)<;>(have h':=q')<;>(try simp only [za1,za2,Ba,Bb,za3,ne_eq,za4,za5,za6,Ia,Ib,Ic,Ie,Da,Bc,Bd,Be,za7,za8] at h')<;>try (exfalso; omega)) | (have q':=trivial; first | refine callX_new (c1) rfl (by decide) ?_ | refine callY_new (c1) rfl ?_ | refine hE _ _ ret_ne ?_ | refine hE _ _ exit_ne ?_))<;>(try simp (disch:=first | omega | decide +kernel) only [q',el1,D.ints,List.length_map,go_sem,Qa,Qb,Qc,Qd,Qe,↓reduceIte,reduceCtorEq,Qf,Qg,Qh])<;>clear q') | refine hN _ ?_ ?_ Wk.kk | with_reducible refine And.intro ?_ ?_ | with_reducible omega | exact ok_ints | exact cells_ints | exact no_mem | with_reducible exact plain_ints | (refine le_maxLen ?_; omega) | (refine za9 ⟨?_,?_⟩) | (simp only [go_sem,Qc,Qb,zb1,zb2,forall_eq]; done)))
theorem l10FindN_ok (W : Wrk) (c : List Int) (hc : c ∉ W.list) (hl : W.list.length<=4096) (hx : ∀ x ∈ W.list,x.length<=12) :
 Ctr Try.prog 117 [D.wrk W,.ints c] false (.d (.int .i64 (-1))) []:=by
 obtain ⟨l,rd,lf,rt,pv,so⟩:=W
 simp only at hc hl hx
 refine Ctr.of (n:=21) (rs:=[.tmp 4]) Try.func117 rfl rfl Try.ntmps117 rfl rfl (by kernel_rfl) Try.checked.mixed ?_
 simp (disch:=first | omega | decide +kernel) only [D.wrk,D.ints,go_sem,Qa,Qb,Qc,Qd,Qe,↓reduceIte,reduceCtorEq,Qf,Qg,Qh]
 refine Ok.loopC [20,19,18,17,16,15,14,13,12,11,10,9,8,7,6,5,4,3,0] (fun i => [(5,.d (.int .i64 (i : Nat)))]) l.length (fun i => True) trivial (Wk.kk) ?_
 intro R i hN hE hi _
 by_cases hlt : i < l.length
 . have el1 : el (l.map D.ints) i=D.ints (l.getD i []):=el_map (f:=D.ints) [] hlt
   have c1:=l1Same_ok (l.getD i []) c (by have:=hx _ (getD_mem (z:=([] : List Int)) hlt); omega)
   rw [decide_eq_false fun h => hc (by rw [← h]; exact getD_mem hlt)] at c1
   simp (disch:=first | omega | decide +kernel) only [el1,D.ints,List.length_map,go_sem,Qa,Qb,Qc,Qd,Qe,↓reduceIte,reduceCtorEq,Qf,Qg,Qh]
   (repeat' (first | ((first | (refine gsel_split (fun q' => ?_) (fun q' => ?_)<;>(have h':=q')<;>(try simp only [za1,za2,Ba,Bb,za3,ne_eq,za4,za5,za6,Ia,Ib,Ic,Ie,Da,Bc,Bd,Be,za7,za8] at h')<;>try (exfalso; omega)) | (have q':=trivial; first | refine callX_new (c1) rfl (by decide) ?_ | refine callY_new (c1) rfl ?_ | refine hE _ _ ret_ne ?_ | refine hE _ _ exit_ne ?_))<;>(try simp (disch:=first | omega | decide +kernel) only [q',el1,D.ints,List.length_map,go_sem,Qa,Qb,Qc,Qd,Qe,↓reduceIte,reduceCtorEq,Qf,Qg,Qh])<;>clear q') | refine hN _ ?_ ?_ Wk.kk | with_reducible refine And.intro ?_ ?_ | with_reducible omega | exact ok_ints | exact cells_ints | exact no_mem | with_reducible exact plain_ints | (refine le_maxLen ?_; omega) | (refine za9 ⟨?_,?_⟩) | (simp only [go_sem,Qc,Qb,zb1,zb2,forall_eq]; done)))
 . simp (disch:=first | omega | decide +kernel) only [List.length_map,go_sem,Qa,Qb,Qc,Qd,Qe,↓reduceIte,reduceCtorEq,Qf,Qg,Qh]
   (repeat' (first | ((first | (refine gsel_split (fun q' => ?_) (fun q' => ?_)<;>(have h':=q')<;>(try simp only [za1,za2,Ba,Bb,za3,ne_eq,za4,za5,za6,Ia,Ib,Ic,Ie,Da,Bc,Bd,Be,za7,za8] at h')<;>try (exfalso; omega)) | (have q':=trivial; first | refine hE _ _ ret_ne ?_ | refine hE _ _ exit_ne ?_))<;>(try simp (disch:=first | omega | decide +kernel) only [q',List.length_map,go_sem,Qa,Qb,Qc,Qd,Qe,↓reduceIte,reduceCtorEq,Qf,Qg,Qh])<;>clear q') | refine hN _ ?_ ?_ Wk.kk | with_reducible refine And.intro ?_ ?_ | with_reducible omega | exact ok_ints | exact cells_ints | exact no_mem | with_reducible exact plain_ints | (refine le_maxLen ?_; omega) | (refine za9 ⟨?_,?_⟩) | (simp only [go_sem,Qc,Qb,zb1,zb2,forall_eq]; done)))
theorem res_v {a b c : List Int} (ga : G6 a) (gb : G6 b) {v w : Int} (hv : 1<=v) (hw : 1<=w) (h : resolveI a b v=some c) (g : resolveI a b w=some c) : v=w:=by
 obtain ⟨_,q2,q3,_⟩:=resolveI_some ga gb hv h
 obtain ⟨_,_,_,_,_,r6⟩:=resolveI_some ga gb hw g
 exact Classical.byContradiction fun e => r6 v e hv (.inl ⟨q2,q3⟩)
set_option maxHeartbeats 8000000 in
theorem specSrc_ok {v : Int} {cs : List (List Int)} {w : Int} {c : List Int} {k : Nat} (h : srcG v cs w c=true) (hc : NewC cs w.toNat (k + 1) c) {x y : List Int} {u : Int} (hs : SrcP cs w.toNat k c x y u) :
 Ctr Try.prog 40 [.agg [.int .i64 v,.slice (cs.map D.ints)],.int .i64 w,.ints c] true (.tup [.d (.ints x),.d (.ints y),.d (.int .i64 u),.d (.bool true)]) []:=by
 obtain ⟨hgd,gc⟩:=srcG_g6 h
 obtain ⟨g1,g2,g3,g4⟩:=good6 hgd
 have hb:=good_below hgd
 have hcx : ∀ j,(cs.getD j []).length<=100:=fun j => by
  by_cases hj : j < cs.length
  . have:=g6_len (g1 _ (getD_mem (z:=([] : List Int)) hj)); omega
  . rw [List.getD_eq_getElem?_getD,List.getElem?_eq_none (by omega)]; simp
 have c1:=l10Good_ok v cs (by omega) fun j => by have:=hcx j; omega
 have c2:=l10Width_ok w
 have h':=hgd
 rw [goodN,Bc,Bool.and_comm (okCnf v cs)] at h'
 rw [h'.1] at c1
 rw [h'.2] at c2
 have c3:=l2Clause_ok v c (by have:=g6_len gc; omega)
 rw [srcG,hgd,Bool.true_and] at h
 rw [h] at c3
 obtain ⟨w,rfl⟩ : ∃ n : Nat,w=n:=⟨w.toNat,by omega⟩
 obtain ⟨v,rfl⟩ : ∃ n : Nat,v=n:=⟨v.toNat,by omega⟩
 rw [Int.toNat_natCast] at *
 have c4:=l10Closure_ok g1 hb g2 (by omega) (show w<=6 by omega)
 refine Ctr.ofK (n:=72) (rs:=[.tmp 6,.tmp 7,.tmp 8,.tmp 9]) Try.func40 rfl rfl Try.ntmps40 rfl rfl (by kernel_rfl) Try.checked.mixed ?_
 refine Ok.seq (Ok.go ?_)
 simp (disch:=first | omega | decide +kernel) only [go_sem,Qa,Qb,Qc,Qd,Qe,↓reduceIte,reduceCtorEq,Qf,Qg,Qh]
 refine Ok.seq (Ok.go ?_)
 simp (disch:=first | omega | decide +kernel) only [go_sem,Qa,Qb,Qc,Qd,Qe,↓reduceIte,reduceCtorEq,Qf,Qg,Qh]
 (repeat' (first | ((first | (refine gsel_split (fun q' => ?_) (fun q' => ?_)<;>(have h':=q')<;>(try simp only [za1,za2,Ba,Bb,za3,ne_eq,za4,za5,za6,Ia,Ib,Ic,Ie,Da,Bc,Bd,Be,za7,za8] at h')<;>try (exfalso; omega)) | (have q':=trivial; first | refine callX_new (c1) rfl (by decide) ?_ | refine callY_new (c1) rfl ?_ | refine callX_new (c2) rfl (by decide) ?_ | refine callY_new (c2) rfl ?_ | refine callX_new (c3) rfl (by decide) ?_ | refine callY_new (c3) rfl ?_ | refine hE _ _ ret_ne ?_ | refine hE _ _ exit_ne ?_))<;>(try simp (disch:=first | omega | decide +kernel) only [q',go_sem,Qa,Qb,Qc,Qd,Qe,↓reduceIte,reduceCtorEq,Qf,Qg,Qh])<;>clear q') | refine hN _ ?_ ?_ Wk.kk | with_reducible refine And.intro ?_ ?_ | with_reducible omega | exact ok_ints | exact cells_ints | exact no_mem | with_reducible exact plain_ints | (refine le_maxLen ?_; omega) | (refine za9 ⟨?_,?_⟩) | (simp only [go_sem,Qc,Qb,zb1,zb2,forall_eq]; done)))
 refine Ok.seq (Ok.go ?_)
 simp (disch:=first | omega | decide +kernel) only [go_sem,Qa,Qb,Qc,Qd,Qe,↓reduceIte,reduceCtorEq,Qf,Qg,Qh]
 (repeat' (first | ((first | (refine gsel_split (fun q' => ?_) (fun q' => ?_)<;>(have h':=q')<;>(try simp only [za1,za2,Ba,Bb,za3,ne_eq,za4,za5,za6,Ia,Ib,Ic,Ie,Da,Bc,Bd,Be,za7,za8] at h')<;>try (exfalso; omega)) | (have q':=trivial; first | refine hE _ _ ret_ne ?_ | refine hE _ _ exit_ne ?_))<;>(try simp (disch:=first | omega | decide +kernel) only [q',go_sem,Qa,Qb,Qc,Qd,Qe,↓reduceIte,reduceCtorEq,Qf,Qg,Qh])<;>clear q') | refine hN _ ?_ ?_ Wk.kk | with_reducible refine And.intro ?_ ?_ | with_reducible omega | exact ok_ints | exact cells_ints | exact no_mem | with_reducible exact plain_ints | (refine le_maxLen ?_; omega) | (refine za9 ⟨?_,?_⟩) | (simp only [go_sem,Qc,Qb,zb1,zb2,forall_eq]; done)))
 refine callX_rel [] [] [] c4 ⟨.inl rfl,.inl rfl,trivial⟩ trivial (by simp [namesI,keysO]) (by simp [dstB]) ?_
 rintro _ _ ⟨W,r,hF,rfl,rfl⟩
 refine ⟨by simp [namesOK,keysO],?_⟩
 obtain ⟨t,p,q,u',x',y',a1,a2,a3,a4,a5,a6,a7,a8,a9,a10,a11⟩:=hF.src g1 hb hc
 have hux:=srcP_uniq g1 hs a11
 have c5:=l10Find_ok W c t a1 a2 hF.inv.ok.nd hF.inv.ok.len fun z hz => by have:=g6_len (hF.inv.ok.g6 z hz); omega
 have hll:=hF.inv.ok.len
 have hk1:=hF.inv.ok.rd
 have hk2:=hF.inv.ok.lf
 have hk3:=hF.inv.ok.rt
 have hk4:=hF.inv.ok.pv
 obtain ⟨ex,ey⟩:=hux
 subst ex
 subst ey
 have huu : u=(u' : Nat):=by
  obtain ⟨_,_,_,_,_,_,s5,s6,_⟩:=hs
  obtain ⟨_,_,z1,z2,z3,z4,z5,z6,_⟩:=a11
  have gx : G6 x:=by rw [← a9]; exact hF.inv.ok.getD p
  have gy : G6 y:=by rw [← a10]; exact hF.inv.ok.getD q
  exact res_v gx gy s5 z5 s6 z6
 have gx : G6 x:=by rw [← a9]; exact hF.inv.ok.getD p
 have gy : G6 y:=by rw [← a10]; exact hF.inv.ok.getD q
 have c6:=(l1Own_ok x (by have:=g6_len gx; omega)).data1
 have c7:=(l1Own_ok y (by have:=g6_len gy; omega)).data1
 obtain ⟨l,rd,lf,rt,pv,so⟩:=W
 simp only at a1 a2 a3 a4 a5 a6 a7 a8 a9 a10 hll hk1 hk2 hk3 hk4
 have f1 : el (rd.map (.int .i64)) t=.int .i64 ((k + 1 : Nat) : Int):=by rw [el_ints (by omega),a3]
 have f2 : el (lf.map (.int .i64)) t=.int .i64 (p : Nat):=by rw [el_ints (by omega),a4]
 have f3 : el (rt.map (.int .i64)) t=.int .i64 (q : Nat):=by rw [el_ints (by omega),a5]
 have f4 : el (pv.map (.int .i64)) t=.int .i64 (u' : Nat):=by rw [el_ints (by omega),a6]
 have f5 : el (l.map D.ints) p=D.ints x:=by rw [el_map (f:=D.ints) [] a7,a9]
 have f6 : el (l.map D.ints) q=D.ints y:=by rw [el_map (f:=D.ints) [] a8,a10]
 simp only [D.wrk] at c5
 simp (disch:=first | omega | decide +kernel) only [D.wrk,D.ints,go_sem,Qa,Qb,Qc,Qd,Qe,↓reduceIte,reduceCtorEq,Qf,Qg,Qh]
 (repeat' (first | ((first | (refine gsel_split (fun q' => ?_) (fun q' => ?_)<;>(have h':=q')<;>(try simp only [za1,za2,Ba,Bb,za3,ne_eq,za4,za5,za6,Ia,Ib,Ic,Ie,Da,Bc,Bd,Be,za7,za8] at h')<;>try (exfalso; omega)) | (have q':=trivial; first | refine hE _ _ ret_ne ?_ | refine hE _ _ exit_ne ?_))<;>(try simp (disch:=first | omega | decide +kernel) only [q',D.ints,go_sem,Qa,Qb,Qc,Qd,Qe,↓reduceIte,reduceCtorEq,Qf,Qg,Qh])<;>clear q') | refine hN _ ?_ ?_ Wk.kk | with_reducible refine And.intro ?_ ?_ | with_reducible omega | exact ok_ints | exact cells_ints | exact no_mem | with_reducible exact plain_ints | (refine le_maxLen ?_; omega) | (refine za9 ⟨?_,?_⟩) | (simp only [go_sem,Qc,Qb,zb1,zb2,forall_eq]; done)))
 refine Ok.seq (Ok.go ?_)
 simp (disch:=first | omega | decide +kernel) only [D.ints,go_sem,Qa,Qb,Qc,Qd,Qe,↓reduceIte,reduceCtorEq,Qf,Qg,Qh]
 (repeat' (first | ((first | (refine gsel_split (fun q' => ?_) (fun q' => ?_)<;>(have h':=q')<;>(try simp only [za1,za2,Ba,Bb,za3,ne_eq,za4,za5,za6,Ia,Ib,Ic,Ie,Da,Bc,Bd,Be,za7,za8] at h')<;>try (exfalso; omega)) | (have q':=trivial; first | refine callX_new (c5) rfl (by decide) ?_ | refine callY_new (c5) rfl ?_ | refine hE _ _ ret_ne ?_ | refine hE _ _ exit_ne ?_))<;>(try simp (disch:=first | omega | decide +kernel) only [q',D.ints,go_sem,Qa,Qb,Qc,Qd,Qe,↓reduceIte,reduceCtorEq,Qf,Qg,Qh])<;>clear q') | refine hN _ ?_ ?_ Wk.kk | with_reducible refine And.intro ?_ ?_ | with_reducible omega | exact ok_ints | exact cells_ints | exact no_mem | with_reducible exact plain_ints | (refine le_maxLen ?_; omega) | (refine za9 ⟨?_,?_⟩) | (simp only [go_sem,Qc,Qb,zb1,zb2,forall_eq]; done)))
 refine Ok.seq (Ok.go ?_)
 simp (disch:=first | omega | decide +kernel) only [D.ints,f1,List.length_map,Int.toNat_natCast,go_sem,Qa,Qb,Qc,Qd,Qe,↓reduceIte,reduceCtorEq,Qf,Qg,Qh]
 (repeat' (first | ((first | (refine gsel_split (fun q' => ?_) (fun q' => ?_)<;>(have h':=q')<;>(try simp only [za1,za2,Ba,Bb,za3,ne_eq,za4,za5,za6,Ia,Ib,Ic,Ie,Da,Bc,Bd,Be,za7,za8] at h')<;>try (exfalso; omega)) | (have q':=trivial; first | refine hE _ _ ret_ne ?_ | refine hE _ _ exit_ne ?_))<;>(try simp (disch:=first | omega | decide +kernel) only [q',D.ints,f1,List.length_map,Int.toNat_natCast,go_sem,Qa,Qb,Qc,Qd,Qe,↓reduceIte,reduceCtorEq,Qf,Qg,Qh])<;>clear q') | refine hN _ ?_ ?_ Wk.kk | with_reducible refine And.intro ?_ ?_ | with_reducible omega | exact ok_ints | exact cells_ints | exact no_mem | with_reducible exact plain_ints | (refine le_maxLen ?_; omega) | (refine za9 ⟨?_,?_⟩) | (simp only [go_sem,Qc,Qb,zb1,zb2,forall_eq]; done)))
 rw [huu]
 refine Ok.seq (Ok.go ?_)
 simp (disch:=first | omega | decide +kernel) only [D.ints,f2,f3,f4,f5,f6,List.length_map,Int.toNat_natCast,go_sem,Qa,Qb,Qc,Qd,Qe,↓reduceIte,reduceCtorEq,Qf,Qg,Qh]
 (repeat' (first | ((first | (refine gsel_split (fun q' => ?_) (fun q' => ?_)<;>(have h':=q')<;>(try simp only [za1,za2,Ba,Bb,za3,ne_eq,za4,za5,za6,Ia,Ib,Ic,Ie,Da,Bc,Bd,Be,za7,za8] at h')<;>try (exfalso; omega)) | (have q':=trivial; first | refine callX_shared (c6) rfl (by decide) ?_ | refine callY_shared (c6) rfl ?_ | refine callX_shared (c7) rfl (by decide) ?_ | refine callY_shared (c7) rfl ?_ | refine hE _ _ ret_ne ?_ | refine hE _ _ exit_ne ?_))<;>(try simp (disch:=first | omega | decide +kernel) only [q',D.ints,f2,f3,f4,f5,f6,List.length_map,Int.toNat_natCast,go_sem,Qa,Qb,Qc,Qd,Qe,↓reduceIte,reduceCtorEq,Qf,Qg,Qh])<;>clear q') | refine hN _ ?_ ?_ Wk.kk | with_reducible refine And.intro ?_ ?_ | with_reducible omega | exact ok_ints | exact cells_ints | exact no_mem | with_reducible exact plain_ints | (refine le_maxLen ?_; omega) | (refine za9 ⟨?_,?_⟩) | (simp only [go_sem,Qc,Qb,zb1,zb2,forall_eq]; done)))
 refine Ok.go ?_
 simp (disch:=first | omega | decide +kernel) only [go_sem,Qa,Qb,Qc,Qd,Qe,↓reduceIte,reduceCtorEq,Qf,Qg,Qh]
 exact retQ_d4 [] rfl rfl rfl rfl
set_option maxHeartbeats 8000000 in
theorem specSrcF_ok {v : Int} {cs : List (List Int)} {w : Int} {c : List Int} (h : ¬ (srcG v cs w c=true∧∃ k,NewC cs w.toNat (k + 1) c)) (hl : cs.length<=1048576) (hc : ∀ j,(cs.getD j []).length<=1048576) (hcl : c.length<=1048576) :
 Ctr Try.prog 40 [.agg [.int .i64 v,.slice (cs.map D.ints)],.int .i64 w,.ints c] true (.tup [.d (.slice []),.d (.slice []),.d (.int .i64 0),.d (.bool false)]) []:=by
 have c1:=l10Good_ok v cs (by omega) fun j => by have:=hc j; omega
 have c2:=l10Width_ok w
 have c3:=l2Clause_ok v c (by omega)
 cases hs : srcG v cs w c with
 | false =>
   rw [srcG,goodN,Bool.and_comm (okCnf v cs)] at hs
   refine Ctr.of (n:=72) (rs:=[.tmp 6,.tmp 7,.tmp 8,.tmp 9]) Try.func40 rfl rfl Try.ntmps40 rfl rfl (by kernel_rfl) Try.checked.mixed ?_
   generalize (decide (v<=6) && okCnf v cs)=b1 at *
   generalize (decide (0<=w) && decide (w<=6))=b2 at *
   cases b1<;>cases b2
   all_goals
    (first | rw [Bool.and_self,Bool.true_and] at hs; rw [hs] at c3 | skip)
    simp (disch:=first | omega | decide +kernel) only [D.ints,go_sem,Qa,Qb,Qc,Qd,Qe,↓reduceIte,reduceCtorEq,Qf,Qg,Qh]
    (repeat' (first | ((first | (refine gsel_split (fun q' => ?_) (fun q' => ?_)<;>(have h':=q')<;>(try simp only [za1,za2,Ba,Bb,za3,ne_eq,za4,za5,za6,Ia,Ib,Ic,Ie,Da,Bc,Bd,Be,za7,za8] at h')) | (have q':=trivial; first | refine callX_new (c1) rfl (by decide) ?_ | refine callY_new (c1) rfl ?_ | refine callX_new (c2) rfl (by decide) ?_ | refine callY_new (c2) rfl ?_ | refine callX_new (c3) rfl (by decide) ?_ | refine callY_new (c3) rfl ?_ | refine hE _ _ ret_ne ?_ | refine hE _ _ exit_ne ?_))<;>(try simp (disch:=first | omega | decide +kernel) only [q',D.ints,go_sem,Qa,Qb,Qc,Qd,Qe,↓reduceIte,reduceCtorEq,Qf,Qg,Qh])<;>clear q') | refine hN _ ?_ ?_ Wk.kk | with_reducible refine And.intro ?_ ?_ | with_reducible omega | exact ok_ints | exact cells_ints | exact no_mem | with_reducible exact plain_ints | (refine le_maxLen ?_; omega) | (refine za9 ⟨?_,?_⟩) | (simp only [go_sem,Qc,Qb,zb1,zb2,forall_eq]; done)))
    all_goals exact retQ_d4 [27,28] rfl rfl rfl rfl
 | true =>
   obtain ⟨hgd,gc⟩:=srcG_g6 hs
   obtain ⟨g1,g2,g3,g4⟩:=good6 hgd
   have hb:=good_below hgd
   have h':=hgd
   rw [goodN,Bc,Bool.and_comm (okCnf v cs)] at h'
   rw [h'.1] at c1
   rw [h'.2] at c2
   have hno : ∀ k,¬ NewC cs w.toNat (k + 1) c:=fun k hk => h ⟨hs,k,hk⟩
   rw [srcG,hgd,Bool.true_and] at hs
   rw [hs] at c3
   obtain ⟨w,rfl⟩ : ∃ n : Nat,w=n:=⟨w.toNat,by omega⟩
   obtain ⟨v,rfl⟩ : ∃ n : Nat,v=n:=⟨v.toNat,by omega⟩
   rw [Int.toNat_natCast] at *
   have c4:=l10Closure_ok g1 hb g2 (by omega) (show w<=6 by omega)
   refine Ctr.ofK (n:=72) (rs:=[.tmp 6,.tmp 7,.tmp 8,.tmp 9]) Try.func40 rfl rfl Try.ntmps40 rfl rfl (by kernel_rfl) Try.checked.mixed ?_
   refine Ok.seq (Ok.go ?_)
   simp (disch:=first | omega | decide +kernel) only [go_sem,Qa,Qb,Qc,Qd,Qe,↓reduceIte,reduceCtorEq,Qf,Qg,Qh]
   refine Ok.seq (Ok.go ?_)
   simp (disch:=first | omega | decide +kernel) only [go_sem,Qa,Qb,Qc,Qd,Qe,↓reduceIte,reduceCtorEq,Qf,Qg,Qh]
   (repeat' (first | ((first | (refine gsel_split (fun q' => ?_) (fun q' => ?_)<;>(have h':=q')<;>(try simp only [za1,za2,Ba,Bb,za3,ne_eq,za4,za5,za6,Ia,Ib,Ic,Ie,Da,Bc,Bd,Be,za7,za8] at h')<;>try (exfalso; omega)) | (have q':=trivial; first | refine callX_new (c1) rfl (by decide) ?_ | refine callY_new (c1) rfl ?_ | refine callX_new (c2) rfl (by decide) ?_ | refine callY_new (c2) rfl ?_ | refine callX_new (c3) rfl (by decide) ?_ | refine callY_new (c3) rfl ?_ | refine hE _ _ ret_ne ?_ | refine hE _ _ exit_ne ?_))<;>(try simp (disch:=first | omega | decide +kernel) only [q',go_sem,Qa,Qb,Qc,Qd,Qe,↓reduceIte,reduceCtorEq,Qf,Qg,Qh])<;>clear q') | refine hN _ ?_ ?_ Wk.kk | with_reducible refine And.intro ?_ ?_ | with_reducible omega | exact ok_ints | exact cells_ints | exact no_mem | with_reducible exact plain_ints | (refine le_maxLen ?_; omega) | (refine za9 ⟨?_,?_⟩) | (simp only [go_sem,Qc,Qb,zb1,zb2,forall_eq]; done)))
   refine Ok.seq (Ok.go ?_)
   simp (disch:=first | omega | decide +kernel) only [go_sem,Qa,Qb,Qc,Qd,Qe,↓reduceIte,reduceCtorEq,Qf,Qg,Qh]
   (repeat' (first | ((first | (refine gsel_split (fun q' => ?_) (fun q' => ?_)<;>(have h':=q')<;>(try simp only [za1,za2,Ba,Bb,za3,ne_eq,za4,za5,za6,Ia,Ib,Ic,Ie,Da,Bc,Bd,Be,za7,za8] at h')<;>try (exfalso; omega)) | (have q':=trivial; first | refine hE _ _ ret_ne ?_ | refine hE _ _ exit_ne ?_))<;>(try simp (disch:=first | omega | decide +kernel) only [q',go_sem,Qa,Qb,Qc,Qd,Qe,↓reduceIte,reduceCtorEq,Qf,Qg,Qh])<;>clear q') | refine hN _ ?_ ?_ Wk.kk | with_reducible refine And.intro ?_ ?_ | with_reducible omega | exact ok_ints | exact cells_ints | exact no_mem | with_reducible exact plain_ints | (refine le_maxLen ?_; omega) | (refine za9 ⟨?_,?_⟩) | (simp only [go_sem,Qc,Qb,zb1,zb2,forall_eq]; done)))
   refine callX_rel [] [] [] c4 ⟨.inl rfl,.inl rfl,trivial⟩ trivial (by simp [namesI,keysO]) (by simp [dstB]) ?_
   rintro _ _ ⟨W,r,hF,rfl,rfl⟩
   refine ⟨by simp [namesOK,keysO],?_⟩
   have hll:=hF.inv.ok.len
   have hk1:=hF.inv.ok.rd
   have hgl : ∀ z ∈ W.list,z.length<=12:=fun z hz => by have:=g6_len (hF.inv.ok.g6 z hz); omega
   by_cases hm : c ∈ W.list
   . obtain ⟨t,a1,e⟩:=List.getElem_of_mem hm
     have a2 : W.list.getD t []=c:=by rw [List.getD_eq_getElem?_getD,List.getElem?_eq_getElem a1,Option.getD_some,e]
     have c5:=l10Find_ok W c t a1 a2 hF.inv.ok.nd hll hgl
     have a3 : W.rd.getD t 0=0:=by
      obtain ⟨k,h1,_,h3⟩:=hF.inv.rd t a1
      rw [a2] at h3
      cases k with
      | zero => exact h1
      | succ k => exact absurd h3 (hno k)
     obtain ⟨l,rd,lf,rt,pv,so⟩:=W
     simp only at a1 a2 a3 hll hk1
     have f1 : el (rd.map (.int .i64)) t=.int .i64 0:=by rw [el_ints (by omega),a3]
     simp only [D.wrk] at c5
     simp (disch:=first | omega | decide +kernel) only [D.wrk,D.ints,go_sem,Qa,Qb,Qc,Qd,Qe,↓reduceIte,reduceCtorEq,Qf,Qg,Qh]
     (repeat' (first | ((first | (refine gsel_split (fun q' => ?_) (fun q' => ?_)<;>(have h':=q')<;>(try simp only [za1,za2,Ba,Bb,za3,ne_eq,za4,za5,za6,Ia,Ib,Ic,Ie,Da,Bc,Bd,Be,za7,za8] at h')<;>try (exfalso; omega)) | (have q':=trivial; first | refine hE _ _ ret_ne ?_ | refine hE _ _ exit_ne ?_))<;>(try simp (disch:=first | omega | decide +kernel) only [q',D.ints,go_sem,Qa,Qb,Qc,Qd,Qe,↓reduceIte,reduceCtorEq,Qf,Qg,Qh])<;>clear q') | refine hN _ ?_ ?_ Wk.kk | with_reducible refine And.intro ?_ ?_ | with_reducible omega | exact ok_ints | exact cells_ints | exact no_mem | with_reducible exact plain_ints | (refine le_maxLen ?_; omega) | (refine za9 ⟨?_,?_⟩) | (simp only [go_sem,Qc,Qb,zb1,zb2,forall_eq]; done)))
     refine Ok.seq (Ok.go ?_)
     simp (disch:=first | omega | decide +kernel) only [D.ints,go_sem,Qa,Qb,Qc,Qd,Qe,↓reduceIte,reduceCtorEq,Qf,Qg,Qh]
     (repeat' (first | ((first | (refine gsel_split (fun q' => ?_) (fun q' => ?_)<;>(have h':=q')<;>(try simp only [za1,za2,Ba,Bb,za3,ne_eq,za4,za5,za6,Ia,Ib,Ic,Ie,Da,Bc,Bd,Be,za7,za8] at h')<;>try (exfalso; omega)) | (have q':=trivial; first | refine callX_new (c5) rfl (by decide) ?_ | refine callY_new (c5) rfl ?_ | refine hE _ _ ret_ne ?_ | refine hE _ _ exit_ne ?_))<;>(try simp (disch:=first | omega | decide +kernel) only [q',D.ints,go_sem,Qa,Qb,Qc,Qd,Qe,↓reduceIte,reduceCtorEq,Qf,Qg,Qh])<;>clear q') | refine hN _ ?_ ?_ Wk.kk | with_reducible refine And.intro ?_ ?_ | with_reducible omega | exact ok_ints | exact cells_ints | exact no_mem | with_reducible exact plain_ints | (refine le_maxLen ?_; omega) | (refine za9 ⟨?_,?_⟩) | (simp only [go_sem,Qc,Qb,zb1,zb2,forall_eq]; done)))
     refine Ok.go ?_
     simp (disch:=first | omega | decide +kernel) only [D.ints,f1,List.length_map,Int.toNat_natCast,go_sem,Qa,Qb,Qc,Qd,Qe,↓reduceIte,reduceCtorEq,Qf,Qg,Qh]
     (repeat' (first | ((first | (refine gsel_split (fun q' => ?_) (fun q' => ?_)<;>(have h':=q')<;>(try simp only [za1,za2,Ba,Bb,za3,ne_eq,za4,za5,za6,Ia,Ib,Ic,Ie,Da,Bc,Bd,Be,za7,za8] at h')<;>try (exfalso; omega)) | (have q':=trivial; first | refine hE _ _ ret_ne ?_ | refine hE _ _ exit_ne ?_))<;>(try simp (disch:=first | omega | decide +kernel) only [q',D.ints,f1,List.length_map,Int.toNat_natCast,go_sem,Qa,Qb,Qc,Qd,Qe,↓reduceIte,reduceCtorEq,Qf,Qg,Qh])<;>clear q') | refine hN _ ?_ ?_ Wk.kk | with_reducible refine And.intro ?_ ?_ | with_reducible omega | exact ok_ints | exact cells_ints | exact no_mem | with_reducible exact plain_ints | (refine le_maxLen ?_; omega) | (refine za9 ⟨?_,?_⟩) | (simp only [go_sem,Qc,Qb,zb1,zb2,forall_eq]; done)))
     all_goals exact retQ_d4 [45,46] rfl rfl rfl rfl
   . have c5:=l10FindN_ok W c hm hll hgl
     obtain ⟨l,rd,lf,rt,pv,so⟩:=W
     simp only [D.wrk] at c5
     simp (disch:=first | omega | decide +kernel) only [D.wrk,D.ints,go_sem,Qa,Qb,Qc,Qd,Qe,↓reduceIte,reduceCtorEq,Qf,Qg,Qh]
     (repeat' (first | ((first | (refine gsel_split (fun q' => ?_) (fun q' => ?_)<;>(have h':=q')<;>(try simp only [za1,za2,Ba,Bb,za3,ne_eq,za4,za5,za6,Ia,Ib,Ic,Ie,Da,Bc,Bd,Be,za7,za8] at h')<;>try (exfalso; omega)) | (have q':=trivial; first | refine hE _ _ ret_ne ?_ | refine hE _ _ exit_ne ?_))<;>(try simp (disch:=first | omega | decide +kernel) only [q',D.ints,go_sem,Qa,Qb,Qc,Qd,Qe,↓reduceIte,reduceCtorEq,Qf,Qg,Qh])<;>clear q') | refine hN _ ?_ ?_ Wk.kk | with_reducible refine And.intro ?_ ?_ | with_reducible omega | exact ok_ints | exact cells_ints | exact no_mem | with_reducible exact plain_ints | (refine le_maxLen ?_; omega) | (refine za9 ⟨?_,?_⟩) | (simp only [go_sem,Qc,Qb,zb1,zb2,forall_eq]; done)))
     refine Ok.seq (Ok.go ?_)
     simp (disch:=first | omega | decide +kernel) only [D.ints,go_sem,Qa,Qb,Qc,Qd,Qe,↓reduceIte,reduceCtorEq,Qf,Qg,Qh]
     (repeat' (first | ((first | (refine gsel_split (fun q' => ?_) (fun q' => ?_)<;>(have h':=q')<;>(try simp only [za1,za2,Ba,Bb,za3,ne_eq,za4,za5,za6,Ia,Ib,Ic,Ie,Da,Bc,Bd,Be,za7,za8] at h')<;>try (exfalso; omega)) | (have q':=trivial; first | refine callX_new (c5) rfl (by decide) ?_ | refine callY_new (c5) rfl ?_ | refine hE _ _ ret_ne ?_ | refine hE _ _ exit_ne ?_))<;>(try simp (disch:=first | omega | decide +kernel) only [q',D.ints,go_sem,Qa,Qb,Qc,Qd,Qe,↓reduceIte,reduceCtorEq,Qf,Qg,Qh])<;>clear q') | refine hN _ ?_ ?_ Wk.kk | with_reducible refine And.intro ?_ ?_ | with_reducible omega | exact ok_ints | exact cells_ints | exact no_mem | with_reducible exact plain_ints | (refine le_maxLen ?_; omega) | (refine za9 ⟨?_,?_⟩) | (simp only [go_sem,Qc,Qb,zb1,zb2,forall_eq]; done)))
     refine Ok.go ?_
     simp (disch:=first | omega | decide +kernel) only [D.ints,List.length_map,go_sem,Qa,Qb,Qc,Qd,Qe,↓reduceIte,reduceCtorEq,Qf,Qg,Qh]
     (repeat' (first | ((first | (refine gsel_split (fun q' => ?_) (fun q' => ?_)<;>(have h':=q')<;>(try simp only [za1,za2,Ba,Bb,za3,ne_eq,za4,za5,za6,Ia,Ib,Ic,Ie,Da,Bc,Bd,Be,za7,za8] at h')<;>try (exfalso; omega)) | (have q':=trivial; first | refine hE _ _ ret_ne ?_ | refine hE _ _ exit_ne ?_))<;>(try simp (disch:=first | omega | decide +kernel) only [q',D.ints,List.length_map,go_sem,Qa,Qb,Qc,Qd,Qe,↓reduceIte,reduceCtorEq,Qf,Qg,Qh])<;>clear q') | refine hN _ ?_ ?_ Wk.kk | with_reducible refine And.intro ?_ ?_ | with_reducible omega | exact ok_ints | exact cells_ints | exact no_mem | with_reducible exact plain_ints | (refine le_maxLen ?_; omega) | (refine za9 ⟨?_,?_⟩) | (simp only [go_sem,Qc,Qb,zb1,zb2,forall_eq]; done)))
     all_goals exact retQ_d4 [45,46] rfl rfl rfl rfl
end Abs.Y
