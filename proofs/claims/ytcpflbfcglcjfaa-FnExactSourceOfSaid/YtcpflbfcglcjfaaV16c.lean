/- What functions of this program compute, over plain data. No condition. -/
import Derived.Test.YtcpflbfcglcjfaaV15c
import Derived.Test.YtcpflbfcglcjfaaE11
set_option linter.all false
namespace Abs.Y
open Go Go.Proofs Abs
open Nat renaming reduceEqDiff -> Qa, reduceLT -> Qb, reduceAdd -> Qc, reduceMul -> Qd, reduceSub -> Qe, reduceLeDiff -> Qf, reduceSubDiff -> Qg, reduceBEq -> Qh
open Bool renaming not_eq_true' -> Ba, not_eq_false' -> Bb, and_eq_true -> Bc, or_eq_true -> Bd, or_eq_false_iff -> Be
open Int renaming ofNat_lt -> Ia, ofNat_le -> Ib, not_lt -> Ic, not_le -> Ie
open Decidable renaming not_not -> Da
set_option maxRecDepth 100000

theorem src_ex {v : Int} {cs : List (List Int)} {w : Int} {c : List Int} (h : srcG v cs w c=true) {k : Nat} (hc : NewC cs w.toNat (k + 1) c) : ∃ x y u,SrcP cs w.toNat k c x y u∧x.length<=12∧y.length<=12:=by
 obtain ⟨hgd,gc⟩:=srcG_g6 h
 obtain ⟨g1,_⟩:=good6 hgd
 have hb:=good_below hgd
 obtain ⟨t,p,q,u,x,y,_,_,_,_,_,_,h7,h8,h9,h10,h11⟩:=(itW_inv (w:=w.toNat) g1 hb k).src g1 hb hc
 have ok:=(itW_inv (w:=w.toNat) (vars:=v.toNat) g1 hb k).ok
 exact ⟨x,y,u,h11,by rw [← h9]; exact g6_len (ok.getD p),by rw [← h10]; exact g6_len (ok.getD q)⟩
set_option maxHeartbeats 8000000 in
theorem law_SourceOf : ∀ xs,AllR [isSt [isI64,isSl (isSl isI64)],isI64,isSl isI64] xs->Ctr Try.prog 9 xs false (.d (.bool true)) []:=by
 intro xs hx
 obtain ⟨x0,ys,rfl,h0,hx⟩:=allR_cons hx
 obtain ⟨x1,ys,rfl,h1,hx⟩:=allR_cons hx
 obtain ⟨x2,ys,rfl,h2,hx⟩:=allR_cons hx
 obtain rfl:=allR_nil hx
 obtain ⟨v,cs,rfl,hcl,hcx⟩:=r_cnf h0
 obtain ⟨w,rfl,_⟩:=h1
 obtain ⟨c,rfl,hccl⟩:=r_ints h2
 by_cases hc0 : (1048576 : Int) < c.length
 . refine Ctr.of (n:=180) (rs:=[.tmp 6]) Try.func9 rfl rfl Try.ntmps9 rfl rfl (by kernel_rfl) Try.checked.mixed ?_
   simp (disch:=first | omega | decide +kernel) only [D.ints,List.length_map,go_sem,Qa,Qb,Qc,Qd,Qe,↓reduceIte,reduceCtorEq,Qf,Qg,Qh]
   (repeat' (first | ((first | (refine gsel_split (fun q' => ?_) (fun q' => ?_)<;>(have h':=q')<;>(try simp only [za1,za2,Ba,Bb,za3,ne_eq,za4,za5,za6,Ia,Ib,Ic,Ie,Da,Bc,Bd,Be,za7,za8] at h')<;>try (exfalso; omega)) | (have q':=trivial; first | refine hE _ _ ret_ne ?_ | refine hE _ _ exit_ne ?_))<;>(try simp (disch:=first | omega | decide +kernel) only [q',D.ints,List.length_map,go_sem,Qa,Qb,Qc,Qd,Qe,↓reduceIte,reduceCtorEq,Qf,Qg,Qh])<;>clear q') | refine hN _ ?_ ?_ Wk.kk | with_reducible refine And.intro ?_ ?_ | with_reducible omega | exact ok_ints | exact cells_ints | exact no_mem | with_reducible exact plain_ints | (refine le_maxLen ?_; omega) | (refine za9 ⟨?_,?_⟩) | (simp only [go_sem,Qc,Qb,zb1,zb2,forall_eq]; done)))
 have e1:=szS_szF szI_szF cs 1048576 (by omega)
 have s1:=szCnf_ok v cs 1048576 hcl hcx ⟨by omega,by omega⟩
 by_cases hz1 : szS szI cs 1048576 < 0
 . refine Ctr.of (n:=180) (rs:=[.tmp 6]) Try.func9 rfl rfl Try.ntmps9 rfl rfl (by kernel_rfl) Try.checked.mixed ?_
   simp (disch:=first | omega | decide +kernel) only [D.ints,List.length_map,go_sem,Qa,Qb,Qc,Qd,Qe,↓reduceIte,reduceCtorEq,Qf,Qg,Qh]
   (repeat' (first | ((first | (refine gsel_split (fun q' => ?_) (fun q' => ?_)<;>(have h':=q')<;>(try simp only [za1,za2,Ba,Bb,za3,ne_eq,za4,za5,za6,Ia,Ib,Ic,Ie,Da,Bc,Bd,Be,za7,za8] at h')<;>try (exfalso; omega)) | (have q':=trivial; first | refine callX_new (s1) rfl (by decide) ?_ | refine callY_new (s1) rfl ?_ | refine hE _ _ ret_ne ?_ | refine hE _ _ exit_ne ?_))<;>(try simp (disch:=first | omega | decide +kernel) only [q',D.ints,List.length_map,go_sem,Qa,Qb,Qc,Qd,Qe,↓reduceIte,reduceCtorEq,Qf,Qg,Qh])<;>clear q') | refine hN _ ?_ ?_ Wk.kk | with_reducible refine And.intro ?_ ?_ | with_reducible omega | exact ok_ints | exact cells_ints | exact no_mem | with_reducible exact plain_ints | (refine le_maxLen ?_; omega) | (refine za9 ⟨?_,?_⟩) | (simp only [go_sem,Qc,Qb,zb1,zb2,forall_eq]; done)))
 obtain ⟨l1,x1,hc⟩:=sz_cnf (cs:=cs) (by omega)
 have hcl' : cs.length<=4294967296:=by omega
 have hcs : ∀ x ∈ cs,x.length<=4294967296:=fun x hx => Nat.le_trans (x1 x hx) (by omega)
 have t1:=toCnf_ok v cs hcl' hcs
 have t2:=(toIntS_ok c (by omega)).data1
 have t3:=(toIntS_ok c (by omega)).deep (by rw [bare_ints]; trivial)
 have q1:=eqCnf_ok v v cs cs hcl' hcs
 have q2:=eqIntS_ok c c (by omega)
 have d1:=toCnfd_ok v cs hcl' hcs
 have hlen:=lenSS_bound (a:=cs) (B:=1048576) x1
 have m1:=fun τ => markCnf_ok τ v cs 1 (by omega) (by omega) hcl'
 have m2:=fun τ => markIntS_ok τ c (1 + (lenSS cs : Nat)) (by omega) (by omega)
 have key : ∃ (x y : List Int) (u : Int) (ok : Bool),x.length<=12∧y.length<=12∧Ctr Try.prog 40 [.agg [.int .i64 v,.slice (cs.map D.ints)],.int .i64 w,.ints c] true (.tup [.d (.ints x),.d (.ints y),.d (.int .i64 u),.d (.bool ok)]) [] ∧
  Ctr Try.prog 42 [.agg [.int .i64 v,.slice (cs.map D.ints)],.int .i64 w,.ints c] false (.tup [.sl 1,.sl 0,.d (.int .i64 u),.d (.bool ok)]) [(1,.dp none (x.map (.int .i64)) none),(0,.dp none (y.map (.int .i64)) none)]:=by
  by_cases h : srcG v cs w c=true∧∃ k,NewC cs w.toNat (k + 1) c
  . obtain ⟨h1,k,hk⟩:=h
    obtain ⟨x,y,u,h2,h3,h4⟩:=src_ex h1 hk
    exact ⟨x,y,u,true,h3,h4,specSrc_ok h1 hk h2,implSrc_ok h1 hk h2⟩
  . exact ⟨[],[],0,false,by simp,by simp,specSrcF_ok h l1 hc (by omega),implSrcF_ok h l1 hc (by omega)⟩
 obtain ⟨x,y,u,ok,hx12,hy12,c1,c2⟩:=key
 have p1:=eqIntS_ok x x (by omega)
 have p2:=eqIntS_ok y y (by omega)
 have m3:=fun τ => markIntS_ok τ x 1 (by omega) (by omega)
 have m4:=fun τ => markIntS_ok τ y (1 + (x.length : Nat)) (by omega) (by omega)
 have hh1:=heldIntS_ok x.length 1 (by omega) (by omega)
 have hh2:=heldIntS_ok y.length (1 + (x.length : Nat)) (by omega) (by omega)
 clear e1 h0 h2
 refine Ctr.ofK (n:=180) (rs:=[.tmp 6]) Try.func9 rfl rfl Try.ntmps9 rfl rfl (by kernel_rfl) Try.checked.mixed ?_
 refine Ok.seq (Ok.go ?_)
 simp (disch:=first | omega | decide +kernel) only [go_sem,Qa,Qb,Qc,Qd,Qe,↓reduceIte,reduceCtorEq,Qf,Qg,Qh]
 refine Ok.seq (Ok.go ?_)
 simp (disch:=first | omega | decide +kernel) only [D.ints,List.length_map,go_sem,Qa,Qb,Qc,Qd,Qe,↓reduceIte,reduceCtorEq,Qf,Qg,Qh]
 (repeat' (first | ((first | (refine gsel_split (fun q' => ?_) (fun q' => ?_)<;>(have h':=q')<;>(try simp only [za1,za2,Ba,Bb,za3,ne_eq,za4,za5,za6,Ia,Ib,Ic,Ie,Da,Bc,Bd,Be,za7,za8] at h')<;>try (exfalso; omega)) | (have q':=trivial; first | refine hE _ _ ret_ne ?_ | refine hE _ _ exit_ne ?_))<;>(try simp (disch:=first | omega | decide +kernel) only [q',D.ints,List.length_map,go_sem,Qa,Qb,Qc,Qd,Qe,↓reduceIte,reduceCtorEq,Qf,Qg,Qh])<;>clear q') | refine hN _ ?_ ?_ Wk.kk | with_reducible refine And.intro ?_ ?_ | with_reducible omega | exact ok_ints | exact cells_ints | exact no_mem | with_reducible exact plain_ints | (refine le_maxLen ?_; omega) | (refine za9 ⟨?_,?_⟩) | (simp only [go_sem,Qc,Qb,zb1,zb2,forall_eq]; done)))
 refine Ok.seq (Ok.go ?_)
 simp (disch:=first | omega | decide +kernel) only [go_sem,Qa,Qb,Qc,Qd,Qe,↓reduceIte,reduceCtorEq,Qf,Qg,Qh]
 (repeat' (first | ((first | (refine gsel_split (fun q' => ?_) (fun q' => ?_)<;>(have h':=q')<;>(try simp only [za1,za2,Ba,Bb,za3,ne_eq,za4,za5,za6,Ia,Ib,Ic,Ie,Da,Bc,Bd,Be,za7,za8] at h')<;>try (exfalso; omega)) | (have q':=trivial; first | refine hE _ _ ret_ne ?_ | refine hE _ _ exit_ne ?_))<;>(try simp (disch:=first | omega | decide +kernel) only [q',go_sem,Qa,Qb,Qc,Qd,Qe,↓reduceIte,reduceCtorEq,Qf,Qg,Qh])<;>clear q') | refine hN _ ?_ ?_ Wk.kk | with_reducible refine And.intro ?_ ?_ | with_reducible omega | exact ok_ints | exact cells_ints | exact no_mem | with_reducible exact plain_ints | (refine le_maxLen ?_; omega) | (refine za9 ⟨?_,?_⟩) | (simp only [go_sem,Qc,Qb,zb1,zb2,forall_eq]; done)))
 refine Ok.seq (Ok.go ?_)
 simp (disch:=first | omega | decide +kernel) only [go_sem,Qa,Qb,Qc,Qd,Qe,↓reduceIte,reduceCtorEq,Qf,Qg,Qh]
 (repeat' (first | ((first | (refine gsel_split (fun q' => ?_) (fun q' => ?_)<;>(have h':=q')<;>(try simp only [za1,za2,Ba,Bb,za3,ne_eq,za4,za5,za6,Ia,Ib,Ic,Ie,Da,Bc,Bd,Be,za7,za8] at h')<;>try (exfalso; omega)) | (have q':=trivial; first | refine callX_new (s1) rfl (by decide) ?_ | refine callY_new (s1) rfl ?_ | refine hE _ _ ret_ne ?_ | refine hE _ _ exit_ne ?_))<;>(try simp (disch:=first | omega | decide +kernel) only [q',go_sem,Qa,Qb,Qc,Qd,Qe,↓reduceIte,reduceCtorEq,Qf,Qg,Qh])<;>clear q') | refine hN _ ?_ ?_ Wk.kk | with_reducible refine And.intro ?_ ?_ | with_reducible omega | exact ok_ints | exact cells_ints | exact no_mem | with_reducible exact plain_ints | (refine le_maxLen ?_; omega) | (refine za9 ⟨?_,?_⟩) | (simp only [go_sem,Qc,Qb,zb1,zb2,forall_eq]; done)))
 refine Ok.seq (Ok.go ?_)
 simp (disch:=first | omega | decide +kernel) only [go_sem,Qa,Qb,Qc,Qd,Qe,↓reduceIte,reduceCtorEq,Qf,Qg,Qh]
 (repeat' (first | ((first | (refine gsel_split (fun q' => ?_) (fun q' => ?_)<;>(have h':=q')<;>(try simp only [za1,za2,Ba,Bb,za3,ne_eq,za4,za5,za6,Ia,Ib,Ic,Ie,Da,Bc,Bd,Be,za7,za8] at h')<;>try (exfalso; omega)) | (have q':=trivial; first | refine hE _ _ ret_ne ?_ | refine hE _ _ exit_ne ?_))<;>(try simp (disch:=first | omega | decide +kernel) only [q',go_sem,Qa,Qb,Qc,Qd,Qe,↓reduceIte,reduceCtorEq,Qf,Qg,Qh])<;>clear q') | refine hN _ ?_ ?_ Wk.kk | with_reducible refine And.intro ?_ ?_ | with_reducible omega | exact ok_ints | exact cells_ints | exact no_mem | with_reducible exact plain_ints | (refine le_maxLen ?_; omega) | (refine za9 ⟨?_,?_⟩) | (simp only [go_sem,Qc,Qb,zb1,zb2,forall_eq]; done)))
 clear hz1
 refine Ok.seq (Ok.go ?_)
 simp (disch:=first | omega | decide +kernel) only [D.ints,go_sem,Qa,Qb,Qc,Qd,Qe,↓reduceIte,reduceCtorEq,Qf,Qg,Qh]
 (repeat' (first | ((first | (refine gsel_split (fun q' => ?_) (fun q' => ?_)<;>(have h':=q')<;>(try simp only [za1,za2,Ba,Bb,za3,ne_eq,za4,za5,za6,Ia,Ib,Ic,Ie,Da,Bc,Bd,Be,za7,za8] at h')<;>try (exfalso; omega)) | (have q':=trivial; first | refine callX_shared (t1) rfl (by decide) ?_ | refine callY_shared (t1) rfl ?_ | refine callX_shared (t2) rfl (by decide) ?_ | refine callY_shared (t2) rfl ?_ | refine callX_shared (c1) rfl (by decide) ?_ | refine callY_shared (c1) rfl ?_ | refine hE _ _ ret_ne ?_ | refine hE _ _ exit_ne ?_))<;>(try simp (disch:=first | omega | decide +kernel) only [q',D.ints,go_sem,Qa,Qb,Qc,Qd,Qe,↓reduceIte,reduceCtorEq,Qf,Qg,Qh])<;>clear q') | refine hN _ ?_ ?_ Wk.kk | with_reducible refine And.intro ?_ ?_ | with_reducible omega | exact ok_ints | exact cells_ints | exact no_mem | with_reducible exact plain_ints | (refine le_maxLen ?_; omega) | (refine za9 ⟨?_,?_⟩) | (simp only [go_sem,Qc,Qb,zb1,zb2,forall_eq]; done)))
 refine Ok.go ?_
 simp (disch:=first | omega | decide +kernel) only [D.ints,go_sem,Qa,Qb,Qc,Qd,Qe,↓reduceIte,reduceCtorEq,Qf,Qg,Qh]
 (repeat' (first | ((first | (refine gsel_split (fun q' => ?_) (fun q' => ?_)<;>(have h':=q')<;>(try simp only [za1,za2,Ba,Bb,za3,ne_eq,za4,za5,za6,Ia,Ib,Ic,Ie,Da,Bc,Bd,Be,za7,za8] at h')) | (have q':=trivial; first | refine callX_new (d1) rfl (by decide) ?_ | refine callY_new (d1) rfl ?_ | refine callX_new (t3) rfl (by decide) ?_ | refine callY_new (t3) rfl ?_ | refine callX_new (c2) rfl (by decide) ?_ | refine callY_new (c2) rfl ?_ | refine callX_new (p1) rfl (by decide) ?_ | refine callY_new (p1) rfl ?_ | refine callX_new (p2) rfl (by decide) ?_ | refine callY_new (p2) rfl ?_ | refine callX_new (q1) rfl (by decide) ?_ | refine callY_new (q1) rfl ?_ | refine callX_new (q2) rfl (by decide) ?_ | refine callY_new (q2) rfl ?_ | refine callX_keep _ (m1 _) ⟨.inl rfl,.inl rfl,trivial⟩ rfl (by simp [dstB]) ?_ | refine callX_keep _ (m2 _) ⟨.inl rfl,.inl rfl,trivial⟩ rfl (by simp [dstB]) ?_ | refine callX_keep _ (m3 _) ⟨.inl rfl,.inl rfl,trivial⟩ rfl (by simp [dstB]) ?_ | refine callX_keep _ (m4 _) ⟨.inl rfl,.inl rfl,trivial⟩ rfl (by simp [dstB]) ?_ | refine callX_new (hh1) rfl (by decide) ?_ | refine callY_new (hh1) rfl ?_ | refine callX_new (hh2) rfl (by decide) ?_ | refine callY_new (hh2) rfl ?_ | refine callX_shared (t1) rfl (by decide) ?_ | refine callY_shared (t1) rfl ?_ | refine hE _ _ ret_ne ?_ | refine hE _ _ exit_ne ?_))<;>(try simp (disch:=first | omega | decide +kernel) only [q',D.ints,go_sem,Qa,Qb,Qc,Qd,Qe,↓reduceIte,reduceCtorEq,Qf,Qg,Qh])<;>clear q') | refine hN _ ?_ ?_ Wk.kk | with_reducible refine And.intro ?_ ?_ | with_reducible omega | exact ok_ints | exact cells_ints | exact no_mem | with_reducible exact plain_ints | (refine le_maxLen ?_; omega) | (refine za9 ⟨?_,?_⟩) | (simp only [go_sem,Qc,Qb,zb1,zb2,forall_eq]; done)))
 all_goals (first | exact absurd trivial h' | omega)
end Abs.Y
