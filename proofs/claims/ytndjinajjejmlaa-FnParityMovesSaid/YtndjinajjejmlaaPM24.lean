/- What functions of this program compute, over plain data. No condition. -/
import Derived.Test.YtndjinajjejmlaaPM15
set_option linter.all false
namespace Abs.Y
open Go Go.Proofs Abs
open Nat renaming reduceEqDiff -> Qa, reduceLT -> Qb, reduceAdd -> Qc, reduceMul -> Qd, reduceSub -> Qe, reduceLeDiff -> Qf, reduceSubDiff -> Qg, reduceBEq -> Qh
open Bool renaming not_eq_true' -> Ba, not_eq_false' -> Bb, and_eq_true -> Bc, or_eq_true -> Bh, or_eq_false_iff -> Be
open Int renaming ofNat_lt -> Ia, ofNat_le -> Ib, not_lt -> Ic, not_le -> Ie
open Decidable renaming not_not -> Da
set_option maxRecDepth 100000

theorem par_small {g : Chg} (hg : GoodP g) : ∀ c ∈ parI g,c.length<=1048576:=fun c hc => by
 unfold parI parT at hc
 obtain ⟨v,_,hc⟩:=List.mem_flatMap.1 hc
 have h1:=congrArg List.length (sgI_abs _ c (List.mem_filter.1 hc).1)
 rw [List.length_map,List.length_map,vs_len] at h1
 have h2:=edgesTo_len g v g.ed.length
 have h3:=hg.m
 unfold edgesAt at h1
 omega
theorem cmI_le (u : Nat) (cs : List (List Int)) (hu : u<=12) : cmI u cs<=4096:=by
 unfold cmI
 have h1:=List.length_filter_le (tmod cs) (List.range (2 ^ u))
 rw [List.length_range] at h1
 have h2 : 2 ^ u<=2 ^ 12:=Nat.pow_le_pow_right (by decide) hu
 omega
theorem flip_len (g : Chg) (k : Nat) : (flipG g k).ed.length=g.ed.length∧(flipG g k).ch.length=g.ch.length:=⟨rfl,flipC_len _ _⟩
def smN (a b : Nat) : Nat->Nat
 | 0 => 0
 | 1 => a
 | _ => a + b
set_option maxHeartbeats 16000000 in
theorem law_FnParityMoves : ∀ xs,AllR [isSl isU8] xs->Ctr Try.prog 3 xs false (.d (.bool true)) []:=by
 intro xs hx
 obtain ⟨x0,ys,rfl,h0,hx⟩:=allR_cons hx
 obtain rfl:=allR_nil hx
 obtain ⟨code,rfl,hcb⟩:=r_bytes h0
 have c0:=rBig_ok code
 by_cases hbig : 65536 < code.length
 . rw [decide_eq_true hbig] at c0
   refine Ctr.of (n:=217) (rs:=[.tmp 2]) Try.func3 rfl rfl Try.ntmps3 rfl rfl (by kernel_rfl) Try.checked.mixed ?_
   simp (disch:=first | omega | decide +kernel) only [go_sem,Qa,Qb,Qc,Qd,Qe,↓reduceIte,reduceCtorEq,Qf,Qg,Qh]
   refine callX_new (c0) rfl (by decide) ?_
   simp (disch:=first | omega | decide +kernel) only [go_sem,Qa,Qb,Qc,Qd,Qe,↓reduceIte,reduceCtorEq,Qf,Qg,Qh]
 have hc : CodeOK code:=⟨by omega,hcb⟩
 rw [decide_eq_false hbig] at c0
 refine Ctr.ofK (n:=217) (rs:=[.tmp 2]) Try.func3 rfl rfl Try.ntmps3 rfl rfl (by kernel_rfl) Try.checked.mixed ?_
 refine Ok.seq (Ok.go ?_)
 simp (disch:=first | omega | decide +kernel) only [go_sem,Qa,Qb,Qc,Qd,Qe,↓reduceIte,reduceCtorEq,Qf,Qg,Qh]
 refine Ok.seq (Ok.go ?_)
 simp (disch:=first | omega | decide +kernel) only [go_sem,Qa,Qb,Qc,Qd,Qe,↓reduceIte,reduceCtorEq,Qf,Qg,Qh]
 (repeat' (first | ((first | (refine gsel_split (fun q' => ?_) (fun q' => ?_)<;>(have h':=q')<;>(try simp only [za1,za2,Ba,Bb,za3,ne_eq,za4,za5,za6,Ia,Ib,Ic,Ie,Da,Bc,Bh,Be,za7,za8] at h')<;>try (exfalso; omega)) | (have q':=trivial; first | refine callX_new (c0) rfl (by decide) ?_ | refine callY_new (c0) rfl ?_))<;>(try simp (disch:=first | omega | decide +kernel) only [q',go_sem,Qa,Qb,Qc,Qd,Qe,↓reduceIte,reduceCtorEq,Qf,Qg,Qh])<;>clear q') | with_reducible refine And.intro ?_ ?_ | with_reducible omega | exact no_mem | (refine le_maxLen ?_; omega) | (refine za9 ⟨?_,?_⟩) | (simp only [go_sem,Qc,Qb,zb1,zb2,forall_eq]; done)))
 refine Ok.seq (Ok.go ?_)
 simp (disch:=first | omega | decide +kernel) only [go_sem,Qa,Qb,Qc,Qd,Qe,↓reduceIte,reduceCtorEq,Qf,Qg,Qh]
 refine callX_relT (drawMoveCharge_ok hc) ⟨.inl rfl,trivial⟩ (by simp [dstB]) ?_
 rintro _ ⟨⟨g,k⟩,rfl,hgl,hgc,hk1,hk2⟩
 dsimp only at hgl hgc hk1 hk2 ⊢
 have c1:=moveI_ok g k (by omega) (by omega)
 have c2:=moveS_ok g k (by omega) (by omega)
 have c3:=mergeI_ok g k (by omega) (by omega)
 have c4:=mergeS_ok g k (by omega) (by omega)
 cases hb : edB g k with
 | false =>
   have e1 : mvG g k=zC:=by unfold mvG; rw [hb]; rfl
   have e2 : mrB g k=false:=by unfold mrB; rw [hb]; rfl
   have e3 : mrG g k=zC:=by unfold mrG; rw [e2]; rfl
   have cR:=rCharged_self zC (by decide) (by decide)
   rw [e1,hb] at c1 c2
   rw [e2,e3] at c3 c4
   clear e1 e2 e3
   simp only [D.chg,D.ints] at c1 c2 c3 c4 cR
   simp (disch:=first | omega | decide +kernel) only [D.chg,D.ints,go_sem,Qa,Qb,Qc,Qd,Qe,↓reduceIte,reduceCtorEq,Qf,Qg,Qh]
   (repeat' (first | ((first | (refine gsel_split (fun q' => ?_) (fun q' => ?_)<;>(have h':=q')<;>(try simp only [za1,za2,Ba,Bb,za3,ne_eq,za4,za5,za6,Ia,Ib,Ic,Ie,Da,Bc,Bh,Be,za7,za8] at h')<;>try (exfalso; omega)))<;>(try simp (disch:=first | omega | decide +kernel) only [q',go_sem,Qa,Qb,Qc,Qd,Qe,↓reduceIte,reduceCtorEq,Qf,Qg,Qh])<;>clear q') | with_reducible refine And.intro ?_ ?_ | with_reducible omega | exact no_mem | (refine le_maxLen ?_; omega) | (refine za9 ⟨?_,?_⟩) | (simp only [go_sem,Qc,Qb,zb1,zb2,forall_eq]; done)))
   refine Ok.seq (Ok.go ?_)
   simp (disch:=first | omega | decide +kernel) only [go_sem,Qa,Qb,Qc,Qd,Qe,↓reduceIte,reduceCtorEq,Qf,Qg,Qh]
   (repeat' (first | ((first | (refine gsel_split (fun q' => ?_) (fun q' => ?_)<;>(have h':=q')<;>(try simp only [za1,za2,Ba,Bb,za3,ne_eq,za4,za5,za6,Ia,Ib,Ic,Ie,Da,Bc,Bh,Be,za7,za8] at h')<;>try (exfalso; omega)) | (have q':=trivial; first | refine callX_shared (c1) rfl (by decide) ?_ | refine callY_shared (c1) rfl ?_))<;>(try simp (disch:=first | omega | decide +kernel) only [q',go_sem,Qa,Qb,Qc,Qd,Qe,↓reduceIte,reduceCtorEq,Qf,Qg,Qh])<;>clear q') | with_reducible refine And.intro ?_ ?_ | with_reducible omega | exact no_mem | (refine le_maxLen ?_; omega) | (refine za9 ⟨?_,?_⟩) | (simp only [go_sem,Qc,Qb,zb1,zb2,forall_eq]; done)))
   all_goals (try (exact absurd trivial h'))
   refine Ok.seq (Ok.go ?_)
   simp (disch:=first | omega | decide +kernel) only [go_sem,Qa,Qb,Qc,Qd,Qe,↓reduceIte,reduceCtorEq,Qf,Qg,Qh]
   (repeat' (first | ((first | (refine gsel_split (fun q' => ?_) (fun q' => ?_)<;>(have h':=q')<;>(try simp only [za1,za2,Ba,Bb,za3,ne_eq,za4,za5,za6,Ia,Ib,Ic,Ie,Da,Bc,Bh,Be,za7,za8] at h')<;>try (exfalso; omega)) | (have q':=trivial; first | refine callX_shared (c2) rfl (by decide) ?_ | refine callY_shared (c2) rfl ?_ | refine callX_new (cR) rfl (by decide) ?_ | refine callY_new (cR) rfl ?_))<;>(try simp (disch:=first | omega | decide +kernel) only [q',go_sem,Qa,Qb,Qc,Qd,Qe,↓reduceIte,reduceCtorEq,Qf,Qg,Qh])<;>clear q') | with_reducible refine And.intro ?_ ?_ | with_reducible omega | exact no_mem | (refine le_maxLen ?_; omega) | (refine za9 ⟨?_,?_⟩) | (simp only [go_sem,Qc,Qb,zb1,zb2,forall_eq]; done)))
   all_goals (try (exact absurd trivial h'))
   refine Ok.seq (Ok.go ?_)
   simp (disch:=first | omega | decide +kernel) only [go_sem,Qa,Qb,Qc,Qd,Qe,↓reduceIte,reduceCtorEq,Qf,Qg,Qh]
   (repeat' (first | ((first | (refine gsel_split (fun q' => ?_) (fun q' => ?_)<;>(have h':=q')<;>(try simp only [za1,za2,Ba,Bb,za3,ne_eq,za4,za5,za6,Ia,Ib,Ic,Ie,Da,Bc,Bh,Be,za7,za8] at h')<;>try (exfalso; omega)) | (have q':=trivial; first | refine callX_shared (c3) rfl (by decide) ?_ | refine callY_shared (c3) rfl ?_))<;>(try simp (disch:=first | omega | decide +kernel) only [q',go_sem,Qa,Qb,Qc,Qd,Qe,↓reduceIte,reduceCtorEq,Qf,Qg,Qh])<;>clear q') | with_reducible refine And.intro ?_ ?_ | with_reducible omega | exact no_mem | (refine le_maxLen ?_; omega) | (refine za9 ⟨?_,?_⟩) | (simp only [go_sem,Qc,Qb,zb1,zb2,forall_eq]; done)))
   all_goals (try (exact absurd trivial h'))
   refine Ok.seq (Ok.go ?_)
   simp (disch:=first | omega | decide +kernel) only [go_sem,Qa,Qb,Qc,Qd,Qe,↓reduceIte,reduceCtorEq,Qf,Qg,Qh]
   (repeat' (first | ((first | (refine gsel_split (fun q' => ?_) (fun q' => ?_)<;>(have h':=q')<;>(try simp only [za1,za2,Ba,Bb,za3,ne_eq,za4,za5,za6,Ia,Ib,Ic,Ie,Da,Bc,Bh,Be,za7,za8] at h')<;>try (exfalso; omega)) | (have q':=trivial; first | refine callX_shared (c4) rfl (by decide) ?_ | refine callY_shared (c4) rfl ?_ | refine callX_new (cR) rfl (by decide) ?_ | refine callY_new (cR) rfl ?_))<;>(try simp (disch:=first | omega | decide +kernel) only [q',go_sem,Qa,Qb,Qc,Qd,Qe,↓reduceIte,reduceCtorEq,Qf,Qg,Qh])<;>clear q') | with_reducible refine And.intro ?_ ?_ | with_reducible omega | exact no_mem | (refine le_maxLen ?_; omega) | (refine za9 ⟨?_,?_⟩) | (simp only [go_sem,Qc,Qb,zb1,zb2,forall_eq]; done)))
   all_goals (try (exact absurd trivial h'))
   refine Ok.seq (Ok.go ?_)
   simp (disch:=first | omega | decide +kernel) only [go_sem,Qa,Qb,Qc,Qd,Qe,↓reduceIte,reduceCtorEq,Qf,Qg,Qh]
   (repeat' (first | ((first | (refine gsel_split (fun q' => ?_) (fun q' => ?_)<;>(have h':=q')<;>(try simp only [za1,za2,Ba,Bb,za3,ne_eq,za4,za5,za6,Ia,Ib,Ic,Ie,Da,Bc,Bh,Be,za7,za8] at h')<;>try (exfalso; omega)))<;>(try simp (disch:=first | omega | decide +kernel) only [q',go_sem,Qa,Qb,Qc,Qd,Qe,↓reduceIte,reduceCtorEq,Qf,Qg,Qh])<;>clear q') | with_reducible refine And.intro ?_ ?_ | with_reducible omega | (refine le_maxLen ?_; omega)))
   all_goals (try (exact absurd trivial h'))
 | true =>
   obtain ⟨hb1,hb2⟩:=Bool.and_eq_true_iff.1 hb
   have hg:=good_iff.1 hb1
   have hk:=inE_lt hb2
   have e1 : mvG g k=flipG g k.toNat:=by unfold mvG; rw [hb]; rfl
   have hlen:=flip_len g k.toNat
   have hfg:=flipG_good hg hk.2
   have hm:=hg.m
   have cR:=rCharged_self (flipG g k.toNat) (by omega) (by omega)
   have cM:=rCharged_self (mrG g k) (by
    unfold mrG; split
    . have:=mergeE_len (a:=(g.ed.getD k.toNat (0,0)).1) (b:=(g.ed.getD k.toNat (0,0)).2) (ed:=g.ed)
      show (mergeE _ _ g.ed).length<=_; omega
    . decide) (by
    unfold mrG; split
    . show (mergeC _ _ g.ch).length<=_
      unfold mergeC; simp; omega
    . decide)
   have p1:=parityCnf_ok g hg
   have p2:=parityCnf_ok _ hfg
   have n1:=countCnf_ok g.ed.length (parI g) (par_ok hg) (par_small hg)
   have n2:=countCnf_ok (flipG g k.toNat).ed.length (parI (flipG g k.toNat)) (par_ok hfg) (par_small hfg)
   have hcf:=cm_flip hg hk.2
   rw [hcf] at n2
   have hcr:=cm_rem hg hk.2
   have r1:=removeI1_ok g k hb
   have r0:=removeI0_ok g k hb
   have s1:=removeS1_ok g k hb
   have s0:=removeS0_ok g k hb
   have hg1:=remG_good hg hk.2 1
   have hg0:=remG_good hg hk.2 0
   have q1:=parityCnf_ok _ hg1
   have q0:=parityCnf_ok _ hg0
   have m1:=countCnf_ok _ _ (par_ok hg1) (par_small hg1)
   have m0:=countCnf_ok _ _ (par_ok hg0) (par_small hg0)
   have b1:=cmI_le _ (parI (remG g k.toNat 1)) hg1.m
   have b0:=cmI_le _ (parI (remG g k.toNat 0)) hg0.m
   have R1:=rCharged_self (remG g k.toNat 1) (by have:=hg1.m; omega) (by have:=hg1.c; have:=hg1.n1; omega)
   have R0:=rCharged_self (remG g k.toNat 0) (by have:=hg0.m; omega) (by have:=hg0.c; have:=hg0.n1; omega)
   have o1:=impl_OddParts_ok g (by omega) (by omega)
   have o2:=impl_OddParts_ok (flipG g k.toNat) (by omega) (by omega)
   have of1 : oddsB g=oddI g:=by unfold oddsB; rw [hb1]; rfl
   have of2 : oddsB (flipG g k.toNat)=oddI g:=by unfold oddsB; rw [good_iff.2 hfg,if_pos rfl,odd_flip hb1 hk.2]
   rw [of1,hb1] at o1
   rw [of2,good_iff.2 hfg] at o2
   have o3 : mrB g k=true->Ctr Try.prog 15 [D.chg (mrG g k)] false (.tup [.sl 0,.d (.bool true)]) [(0,.arr 3 1 ((oddI g).map (.int .i64)))]:=fun h => by
    have hm2 : goodC (mergeG g k.toNat)=true:=by unfold mrB at h; rw [hb,Bool.true_and] at h; exact h
    have e3 : mrG g k=mergeG g k.toNat:=by unfold mrG; rw [h]; rfl
    rw [e3]
    have h2:=good_iff.1 hm2
    have:=impl_OddParts_ok (mergeG g k.toNat) (by have:=h2.m; omega) (by have:=h2.c; have:=h2.n1; omega)
    have of3 : oddsB (mergeG g k.toNat)=oddI g:=by unfold oddsB; rw [hm2,if_pos rfl,odd_merge hb1 hk.2 hm2]
    rwa [of3,hm2] at this
   have hol : (oddI g).length<=8:=by have:=oddsB_len (g:=g); rwa [of1] at this
   have cI:=rInts_self (oddI g) (by omega)
   rw [e1,hb] at c1 c2
   clear e1 hfg hg1 hg0 of1 of2 hcf hg
   generalize cmI g.ed.length (parI g)=N at *
   generalize cmI (remG g k.toNat 1).ed.length (parI (remG g k.toNat 1))=N1 at *
   generalize cmI (remG g k.toNat 0).ed.length (parI (remG g k.toNat 0))=N0 at *
   generalize mrG g k=M at *
   generalize mrB g k=mB at *
   generalize parI g=P at *
   generalize parI (flipG g k.toNat)=P2 at *
   generalize parI (remG g k.toNat 1)=P3 at *
   generalize parI (remG g k.toNat 0)=P4 at *
   generalize flipG g k.toNat=H at *
   generalize remG g k.toNat 1=G1 at *
   generalize remG g k.toNat 0=G0 at *
   generalize oddI g=W at *
   simp only [D.chg,D.ints] at c1 c2 c3 c4 cR cM p1 p2 n1 n2 r1 r0 s1 s0 q1 q0 m1 m0 R1 R0 o1 o2 o3 cI
   simp (disch:=first | omega | decide +kernel) only [D.chg,D.ints,go_sem,Qa,Qb,Qc,Qd,Qe,↓reduceIte,reduceCtorEq,Qf,Qg,Qh]
   (repeat' (first | ((first | (refine gsel_split (fun q' => ?_) (fun q' => ?_)<;>(have h':=q')<;>(try simp only [za1,za2,Ba,Bb,za3,ne_eq,za4,za5,za6,Ia,Ib,Ic,Ie,Da,Bc,Bh,Be,za7,za8] at h')<;>try (exfalso; omega)))<;>(try simp (disch:=first | omega | decide +kernel) only [q',go_sem,Qa,Qb,Qc,Qd,Qe,↓reduceIte,reduceCtorEq,Qf,Qg,Qh])<;>clear q') | with_reducible refine And.intro ?_ ?_ | with_reducible omega | exact no_mem | (refine le_maxLen ?_; omega) | (refine za9 ⟨?_,?_⟩) | (simp only [go_sem,Qc,Qb,zb1,zb2,forall_eq]; done)))
   refine Ok.seq (Ok.go ?_)
   simp (disch:=first | omega | decide +kernel) only [go_sem,Qa,Qb,Qc,Qd,Qe,↓reduceIte,reduceCtorEq,Qf,Qg,Qh]
   (repeat' (first | ((first | (refine gsel_split (fun q' => ?_) (fun q' => ?_)<;>(have h':=q')<;>(try simp only [za1,za2,Ba,Bb,za3,ne_eq,za4,za5,za6,Ia,Ib,Ic,Ie,Da,Bc,Bh,Be,za7,za8] at h')<;>try (exfalso; omega)) | (have q':=trivial; first | refine callX_shared (c1) rfl (by decide) ?_ | refine callY_shared (c1) rfl ?_))<;>(try simp (disch:=first | omega | decide +kernel) only [q',go_sem,Qa,Qb,Qc,Qd,Qe,↓reduceIte,reduceCtorEq,Qf,Qg,Qh])<;>clear q') | with_reducible refine And.intro ?_ ?_ | with_reducible omega | exact no_mem | (refine le_maxLen ?_; omega) | (refine za9 ⟨?_,?_⟩) | (simp only [go_sem,Qc,Qb,zb1,zb2,forall_eq]; done)))
   all_goals (try (exact absurd trivial h'))
   refine Ok.seq (Ok.go ?_)
   simp (disch:=first | omega | decide +kernel) only [go_sem,Qa,Qb,Qc,Qd,Qe,↓reduceIte,reduceCtorEq,Qf,Qg,Qh]
   (repeat' (first | ((first | (refine gsel_split (fun q' => ?_) (fun q' => ?_)<;>(have h':=q')<;>(try simp only [za1,za2,Ba,Bb,za3,ne_eq,za4,za5,za6,Ia,Ib,Ic,Ie,Da,Bc,Bh,Be,za7,za8] at h')<;>try (exfalso; omega)) | (have q':=trivial; first | refine callX_shared (c2) rfl (by decide) ?_ | refine callY_shared (c2) rfl ?_ | refine callX_new (cR) rfl (by decide) ?_ | refine callY_new (cR) rfl ?_))<;>(try simp (disch:=first | omega | decide +kernel) only [q',go_sem,Qa,Qb,Qc,Qd,Qe,↓reduceIte,reduceCtorEq,Qf,Qg,Qh])<;>clear q') | with_reducible refine And.intro ?_ ?_ | with_reducible omega | exact no_mem | (refine le_maxLen ?_; omega) | (refine za9 ⟨?_,?_⟩) | (simp only [go_sem,Qc,Qb,zb1,zb2,forall_eq]; done)))
   all_goals (try (exact absurd trivial h'))
   refine Ok.seq (Ok.go ?_)
   simp (disch:=first | omega | decide +kernel) only [go_sem,Qa,Qb,Qc,Qd,Qe,↓reduceIte,reduceCtorEq,Qf,Qg,Qh]
   (repeat' (first | ((first | (refine gsel_split (fun q' => ?_) (fun q' => ?_)<;>(have h':=q')<;>(try simp only [za1,za2,Ba,Bb,za3,ne_eq,za4,za5,za6,Ia,Ib,Ic,Ie,Da,Bc,Bh,Be,za7,za8] at h')<;>try (exfalso; omega)) | (have q':=trivial; first | refine callX_shared (c3) rfl (by decide) ?_ | refine callY_shared (c3) rfl ?_))<;>(try simp (disch:=first | omega | decide +kernel) only [q',go_sem,Qa,Qb,Qc,Qd,Qe,↓reduceIte,reduceCtorEq,Qf,Qg,Qh])<;>clear q') | with_reducible refine And.intro ?_ ?_ | with_reducible omega | exact no_mem | (refine le_maxLen ?_; omega) | (refine za9 ⟨?_,?_⟩) | (simp only [go_sem,Qc,Qb,zb1,zb2,forall_eq]; done)))
   all_goals (try (exact absurd trivial h'))
   refine Ok.seq (Ok.go ?_)
   simp (disch:=first | omega | decide +kernel) only [go_sem,Qa,Qb,Qc,Qd,Qe,↓reduceIte,reduceCtorEq,Qf,Qg,Qh]
   (repeat' (first | ((first | (refine gsel_split (fun q' => ?_) (fun q' => ?_)<;>(have h':=q')<;>(try simp only [za1,za2,Ba,Bb,za3,ne_eq,za4,za5,za6,Ia,Ib,Ic,Ie,Da,Bc,Bh,Be,za7,za8] at h')<;>try (exfalso; omega)) | (have q':=trivial; first | refine callX_shared (c4) rfl (by decide) ?_ | refine callY_shared (c4) rfl ?_ | refine callX_new (cM) rfl (by decide) ?_ | refine callY_new (cM) rfl ?_))<;>(try simp (disch:=first | omega | decide +kernel) only [q',go_sem,Qa,Qb,Qc,Qd,Qe,↓reduceIte,reduceCtorEq,Qf,Qg,Qh])<;>clear q') | with_reducible refine And.intro ?_ ?_ | with_reducible omega | exact no_mem | (refine le_maxLen ?_; omega) | (refine za9 ⟨?_,?_⟩) | (simp only [go_sem,Qc,Qb,zb1,zb2,forall_eq]; done)))
   all_goals (try (exact absurd trivial h'))
   refine Ok.seq (Ok.go ?_)
   simp (disch:=first | omega | decide +kernel) only [go_sem,Qa,Qb,Qc,Qd,Qe,↓reduceIte,reduceCtorEq,Qf,Qg,Qh]
   (repeat' (first | ((first | (refine gsel_split (fun q' => ?_) (fun q' => ?_)<;>(have h':=q')<;>(try simp only [za1,za2,Ba,Bb,za3,ne_eq,za4,za5,za6,Ia,Ib,Ic,Ie,Da,Bc,Bh,Be,za7,za8] at h')<;>try (exfalso; omega)))<;>(try simp (disch:=first | omega | decide +kernel) only [q',go_sem,Qa,Qb,Qc,Qd,Qe,↓reduceIte,reduceCtorEq,Qf,Qg,Qh])<;>clear q') | with_reducible refine And.intro ?_ ?_ | with_reducible omega | exact no_mem | (refine le_maxLen ?_; omega) | (refine za9 ⟨?_,?_⟩) | (simp only [go_sem,Qc,Qb,zb1,zb2,forall_eq]; done)))
   all_goals (try (exact absurd trivial h'))
   refine Ok.seq (Ok.go ?_)
   simp (disch:=first | omega | decide +kernel) only [go_sem,Qa,Qb,Qc,Qd,Qe,↓reduceIte,reduceCtorEq,Qf,Qg,Qh]
   (repeat' (first | ((first | (refine gsel_split (fun q' => ?_) (fun q' => ?_)<;>(have h':=q')<;>(try simp only [za1,za2,Ba,Bb,za3,ne_eq,za4,za5,za6,Ia,Ib,Ic,Ie,Da,Bc,Bh,Be,za7,za8] at h')<;>try (exfalso; omega)) | (have q':=trivial; first | refine callX_shared (p1) rfl (by decide) ?_ | refine callY_shared (p1) rfl ?_))<;>(try simp (disch:=first | omega | decide +kernel) only [q',go_sem,Qa,Qb,Qc,Qd,Qe,↓reduceIte,reduceCtorEq,Qf,Qg,Qh])<;>clear q') | with_reducible refine And.intro ?_ ?_ | with_reducible omega | exact no_mem | (refine le_maxLen ?_; omega) | (refine za9 ⟨?_,?_⟩) | (simp only [go_sem,Qc,Qb,zb1,zb2,forall_eq]; done)))
   all_goals (try (exact absurd trivial h'))
   refine Ok.seq (Ok.go ?_)
   simp (disch:=first | omega | decide +kernel) only [go_sem,Qa,Qb,Qc,Qd,Qe,↓reduceIte,reduceCtorEq,Qf,Qg,Qh]
   (repeat' (first | ((first | (refine gsel_split (fun q' => ?_) (fun q' => ?_)<;>(have h':=q')<;>(try simp only [za1,za2,Ba,Bb,za3,ne_eq,za4,za5,za6,Ia,Ib,Ic,Ie,Da,Bc,Bh,Be,za7,za8] at h')<;>try (exfalso; omega)) | (have q':=trivial; first | refine callX_shared (p2) rfl (by decide) ?_ | refine callY_shared (p2) rfl ?_))<;>(try simp (disch:=first | omega | decide +kernel) only [q',go_sem,Qa,Qb,Qc,Qd,Qe,↓reduceIte,reduceCtorEq,Qf,Qg,Qh])<;>clear q') | with_reducible refine And.intro ?_ ?_ | with_reducible omega | exact no_mem | (refine le_maxLen ?_; omega) | (refine za9 ⟨?_,?_⟩) | (simp only [go_sem,Qc,Qb,zb1,zb2,forall_eq]; done)))
   all_goals (try (exact absurd trivial h'))
   refine Ok.seq (Ok.go ?_)
   simp (disch:=first | omega | decide +kernel) only [go_sem,Qa,Qb,Qc,Qd,Qe,↓reduceIte,reduceCtorEq,Qf,Qg,Qh]
   (repeat' (first | ((first | (refine gsel_split (fun q' => ?_) (fun q' => ?_)<;>(have h':=q')<;>(try simp only [za1,za2,Ba,Bb,za3,ne_eq,za4,za5,za6,Ia,Ib,Ic,Ie,Da,Bc,Bh,Be,za7,za8] at h')<;>try (exfalso; omega)) | (have q':=trivial; first | refine callX_new (n1) rfl (by decide) ?_ | refine callY_new (n1) rfl ?_))<;>(try simp (disch:=first | omega | decide +kernel) only [q',go_sem,Qa,Qb,Qc,Qd,Qe,↓reduceIte,reduceCtorEq,Qf,Qg,Qh])<;>clear q') | with_reducible refine And.intro ?_ ?_ | with_reducible omega | exact no_mem | (refine le_maxLen ?_; omega) | (refine za9 ⟨?_,?_⟩) | (simp only [go_sem,Qc,Qb,zb1,zb2,forall_eq]; done)))
   all_goals (try (exact absurd trivial h'))
   refine Ok.seq (Ok.go ?_)
   simp (disch:=first | omega | decide +kernel) only [go_sem,Qa,Qb,Qc,Qd,Qe,↓reduceIte,reduceCtorEq,Qf,Qg,Qh]
   (repeat' (first | ((first | (refine gsel_split (fun q' => ?_) (fun q' => ?_)<;>(have h':=q')<;>(try simp only [za1,za2,Ba,Bb,za3,ne_eq,za4,za5,za6,Ia,Ib,Ic,Ie,Da,Bc,Bh,Be,za7,za8] at h')<;>try (exfalso; omega)) | (have q':=trivial; first | refine callX_new (n2) rfl (by decide) ?_ | refine callY_new (n2) rfl ?_))<;>(try simp (disch:=first | omega | decide +kernel) only [q',go_sem,Qa,Qb,Qc,Qd,Qe,↓reduceIte,reduceCtorEq,Qf,Qg,Qh])<;>clear q') | with_reducible refine And.intro ?_ ?_ | with_reducible omega | exact no_mem | (refine le_maxLen ?_; omega) | (refine za9 ⟨?_,?_⟩) | (simp only [go_sem,Qc,Qb,zb1,zb2,forall_eq]; done)))
   all_goals (try (exact absurd trivial h'))
   refine Ok.seq (Ok.go ?_)
   simp (disch:=first | omega | decide +kernel) only [go_sem,Qa,Qb,Qc,Qd,Qe,↓reduceIte,reduceCtorEq,Qf,Qg,Qh]
   (repeat' (first | ((first | (refine gsel_split (fun q' => ?_) (fun q' => ?_)<;>(have h':=q')<;>(try simp only [za1,za2,Ba,Bb,za3,ne_eq,za4,za5,za6,Ia,Ib,Ic,Ie,Da,Bc,Bh,Be,za7,za8] at h')<;>try (exfalso; omega)))<;>(try simp (disch:=first | omega | decide +kernel) only [q',go_sem,Qa,Qb,Qc,Qd,Qe,↓reduceIte,reduceCtorEq,Qf,Qg,Qh])<;>clear q') | with_reducible refine And.intro ?_ ?_ | with_reducible omega | (refine le_maxLen ?_; omega)))
   all_goals (try (exact absurd trivial h'))
   refine Ok.seq (Ok.go ?_)
   simp (disch:=first | omega | decide +kernel) only [go_sem,Qa,Qb,Qc,Qd,Qe,↓reduceIte,reduceCtorEq,Qf,Qg,Qh]
   refine Ok.seq (Ok.seq (Ok.go ?_))
   simp (disch:=first | omega | decide +kernel) only [go_sem,Qa,Qb,Qc,Qd,Qe,↓reduceIte,reduceCtorEq,Qf,Qg,Qh]
   (repeat' (first | ((first | (refine gsel_split (fun q' => ?_) (fun q' => ?_)<;>(have h':=q')<;>(try simp only [za1,za2,Ba,Bb,za3,ne_eq,za4,za5,za6,Ia,Ib,Ic,Ie,Da,Bc,Bh,Be,za7,za8] at h')<;>try (exfalso; omega)))<;>(try simp (disch:=first | omega | decide +kernel) only [q',go_sem,Qa,Qb,Qc,Qd,Qe,↓reduceIte,reduceCtorEq,Qf,Qg,Qh])<;>clear q') | with_reducible refine And.intro ?_ ?_ | with_reducible omega | (refine le_maxLen ?_; omega)))
   refine Ok.block ?_
   clear c1 c2 c3 c4 cR cM p1 p2 n1 n2
   have r0' : Ctr Try.prog 13 [.agg [.int .i64 g.n,.slice (g.ed.map D.ed),.slice (g.ch.map (.int .i64))],.int .i64 k,.int .i64 ((0 : Nat) : Int)] true (.tup [.d (.agg [.int .i64 G0.n,.slice (G0.ed.map D.ed),.slice (G0.ch.map (.int .i64))]),.d (.bool true)]) []:=r0
   have r1' : Ctr Try.prog 13 [.agg [.int .i64 g.n,.slice (g.ed.map D.ed),.slice (g.ch.map (.int .i64))],.int .i64 k,.int .i64 ((1 : Nat) : Int)] true (.tup [.d (.agg [.int .i64 G1.n,.slice (G1.ed.map D.ed),.slice (G1.ch.map (.int .i64))]),.d (.bool true)]) []:=r1
   have s0' : Ctr Try.prog 14 [.agg [.int .i64 g.n,.slice (g.ed.map D.ed),.slice (g.ch.map (.int .i64))],.int .i64 k,.int .i64 ((0 : Nat) : Int)] true (.tup [.d (.agg [.int .i64 G0.n,.slice (G0.ed.map D.ed),.slice (G0.ch.map (.int .i64))]),.d (.bool true)]) []:=s0
   have s1' : Ctr Try.prog 14 [.agg [.int .i64 g.n,.slice (g.ed.map D.ed),.slice (g.ch.map (.int .i64))],.int .i64 k,.int .i64 ((1 : Nat) : Int)] true (.tup [.d (.agg [.int .i64 G1.n,.slice (G1.ed.map D.ed),.slice (G1.ch.map (.int .i64))]),.d (.bool true)]) []:=s1
   clear r0 r1 s0 s1
   refine Ok.loopNO [216,215,214,213,212,211,210,209,208,207,206,205,204,203,202,201,200,199,198,197,196,195,194,193,192,191,190,189,188,187,186,185,184,183,182,181,180,179,178,177,176,175,174,173,172,171,170,169,168,167,166,165,164,163,162,161,160,159,158,157,156,155,154,153,152,151,150,149,148,147,146,145,144,143,142,141,140,139,138,137,136,135,134,133,132,131,130,129,128,127,126,125,124,123,122,121,120,119,118,117,116,115,114,113,112,111,110,109,108,107,106,105,104,103,102,101,100,99,98,97,96,95,94,93,92,91,90,89,88,87,86,85,84,83,82,81,80,79,78,77,76,75,74,73,72,71,70,69,68,67,66,65,64,63,62,61,60,59,58,57,56,55,54,53,52,51,50,49,48,47,46,45,44,43,42,41,40,39,38,37,36,35,34,33,32,31,30,29,28,27,26,25,24,23,22,21,20,19,18,16,15,14,13,12,11,8,7,6,1] (fun i _ => [(22,.d (.int .i64 (i : Nat))),(21,.d (.int .i64 ((smN N0 N1 i : Nat) : Int)))]) (fun i (_ : Unit) => []) 2 (fun _ _ => True) () trivial (by refine Wk.auto ?_ ?_<;>simp [extraK,lk,killL,St.kill,wipeO,wipeS,AV.has,AV.hasL,AO.wipe,List.map_set,updSt,insL,dropS,ins,smN]) ?_
   rintro R i _ hN hE1 hi _
   by_cases hlt : i < 2
   . rcases (by omega : i=0∨i=1) with rfl | rfl
     . refine Ok.seq (Ok.go ?_)
       simp (disch:=first | omega | decide +kernel) only [go_sem,Qa,Qb,Qc,Qd,Qe,↓reduceIte,reduceCtorEq,Qf,Qg,Qh]
       (repeat' (first | ((first | (refine gsel_split (fun q' => ?_) (fun q' => ?_)<;>(have h':=q')<;>(try simp only [za1,za2,Ba,Bb,za3,ne_eq,za4,za5,za6,Ia,Ib,Ic,Ie,Da,Bc,Bh,Be,za7,za8] at h')<;>try (exfalso; omega)))<;>(try simp (disch:=first | omega | decide +kernel) only [q',go_sem,Qa,Qb,Qc,Qd,Qe,↓reduceIte,reduceCtorEq,Qf,Qg,Qh])<;>clear q') | with_reducible refine And.intro ?_ ?_ | with_reducible omega | (refine le_maxLen ?_; omega)))
       refine Ok.seq (Ok.block (Ok.seq (Ok.go ?_)))
       simp (disch:=first | omega | decide +kernel) only [go_sem,Qa,Qb,Qc,Qd,Qe,↓reduceIte,reduceCtorEq,Qf,Qg,Qh]
       (repeat' (first | ((first | (refine gsel_split (fun q' => ?_) (fun q' => ?_)<;>(have h':=q')<;>(try simp only [za1,za2,Ba,Bb,za3,ne_eq,za4,za5,za6,Ia,Ib,Ic,Ie,Da,Bc,Bh,Be,za7,za8] at h')<;>try (exfalso; omega)) | (have q':=trivial; first | refine callX_shared (r0') rfl (by decide) ?_ | refine callY_shared (r0') rfl ?_))<;>(try simp (disch:=first | omega | decide +kernel) only [q',go_sem,Qa,Qb,Qc,Qd,Qe,↓reduceIte,reduceCtorEq,Qf,Qg,Qh])<;>clear q') | with_reducible refine And.intro ?_ ?_ | with_reducible omega | exact no_mem | (refine le_maxLen ?_; omega) | (refine za9 ⟨?_,?_⟩) | (simp only [go_sem,Qc,Qb,zb1,zb2,forall_eq]; done)))
       refine Ok.seq (Ok.go ?_)
       simp (disch:=first | omega | decide +kernel) only [go_sem,Qa,Qb,Qc,Qd,Qe,↓reduceIte,reduceCtorEq,Qf,Qg,Qh]
       (repeat' (first | ((first | (refine gsel_split (fun q' => ?_) (fun q' => ?_)<;>(have h':=q')<;>(try simp only [za1,za2,Ba,Bb,za3,ne_eq,za4,za5,za6,Ia,Ib,Ic,Ie,Da,Bc,Bh,Be,za7,za8] at h')<;>try (exfalso; omega)) | (have q':=trivial; first | refine callX_shared (s0') rfl (by decide) ?_ | refine callY_shared (s0') rfl ?_ | refine callX_new (R0) rfl (by decide) ?_ | refine callY_new (R0) rfl ?_))<;>(try simp (disch:=first | omega | decide +kernel) only [q',go_sem,Qa,Qb,Qc,Qd,Qe,↓reduceIte,reduceCtorEq,Qf,Qg,Qh])<;>clear q') | with_reducible refine And.intro ?_ ?_ | with_reducible omega | exact no_mem | (refine le_maxLen ?_; omega) | (refine za9 ⟨?_,?_⟩) | (simp only [go_sem,Qc,Qb,zb1,zb2,forall_eq]; done)))
       all_goals (try (exact absurd trivial h'))
       refine Ok.seq (Ok.go ?_)
       simp (disch:=first | omega | decide +kernel) only [go_sem,Qa,Qb,Qc,Qd,Qe,↓reduceIte,reduceCtorEq,Qf,Qg,Qh]
       (repeat' (first | ((first | (refine gsel_split (fun q' => ?_) (fun q' => ?_)<;>(have h':=q')<;>(try simp only [za1,za2,Ba,Bb,za3,ne_eq,za4,za5,za6,Ia,Ib,Ic,Ie,Da,Bc,Bh,Be,za7,za8] at h')<;>try (exfalso; omega)) | (have q':=trivial; first | refine callX_shared (q0) rfl (by decide) ?_ | refine callY_shared (q0) rfl ?_))<;>(try simp (disch:=first | omega | decide +kernel) only [q',go_sem,Qa,Qb,Qc,Qd,Qe,↓reduceIte,reduceCtorEq,Qf,Qg,Qh])<;>clear q') | with_reducible refine And.intro ?_ ?_ | with_reducible omega | exact no_mem | (refine le_maxLen ?_; omega) | (refine za9 ⟨?_,?_⟩) | (simp only [go_sem,Qc,Qb,zb1,zb2,forall_eq]; done)))
       all_goals (try (exact absurd trivial h'))
       refine Ok.seq (Ok.go ?_)
       simp (disch:=first | omega | decide +kernel) only [go_sem,Qa,Qb,Qc,Qd,Qe,↓reduceIte,reduceCtorEq,Qf,Qg,Qh]
       (repeat' (first | ((first | (refine gsel_split (fun q' => ?_) (fun q' => ?_)<;>(have h':=q')<;>(try simp only [za1,za2,Ba,Bb,za3,ne_eq,za4,za5,za6,Ia,Ib,Ic,Ie,Da,Bc,Bh,Be,za7,za8] at h')<;>try (exfalso; omega)) | (have q':=trivial; first | refine callX_new (m0) rfl (by decide) ?_ | refine callY_new (m0) rfl ?_))<;>(try simp (disch:=first | omega | decide +kernel) only [q',go_sem,Qa,Qb,Qc,Qd,Qe,↓reduceIte,reduceCtorEq,Qf,Qg,Qh])<;>clear q') | with_reducible refine And.intro ?_ ?_ | with_reducible omega | exact no_mem | (refine le_maxLen ?_; omega) | (refine za9 ⟨?_,?_⟩) | (simp only [go_sem,Qc,Qb,zb1,zb2,forall_eq]; done)))
       all_goals (try (exact absurd trivial h'))
       refine Ok.seq (Ok.go ?_)
       simp (disch:=first | omega | decide +kernel) only [go_sem,Qa,Qb,Qc,Qd,Qe,↓reduceIte,reduceCtorEq,Qf,Qg,Qh]
       (repeat' (first | ((first | (refine gsel_split (fun q' => ?_) (fun q' => ?_)<;>(have h':=q')<;>(try simp only [za1,za2,Ba,Bb,za3,ne_eq,za4,za5,za6,Ia,Ib,Ic,Ie,Da,Bc,Bh,Be,za7,za8] at h')<;>try (exfalso; omega)))<;>(try simp (disch:=first | omega | decide +kernel) only [q',go_sem,Qa,Qb,Qc,Qd,Qe,↓reduceIte,reduceCtorEq,Qf,Qg,Qh])<;>clear q') | with_reducible refine And.intro ?_ ?_ | with_reducible omega | exact no_mem | (refine le_maxLen ?_; omega) | (refine za9 ⟨?_,?_⟩) | (simp only [go_sem,Qc,Qb,zb1,zb2,forall_eq]; done)))
       all_goals (try (exact absurd trivial h'))
       refine Ok.go ?_
       simp (disch:=first | omega | decide +kernel) only [smN,go_sem,Qa,Qb,Qc,Qd,Qe,↓reduceIte,reduceCtorEq,Qf,Qg,Qh]
       (repeat' (first | ((first | (refine gsel_split (fun q' => ?_) (fun q' => ?_)<;>(have h':=q')<;>(try simp only [za1,za2,Ba,Bb,za3,ne_eq,za4,za5,za6,Ia,Ib,Ic,Ie,Da,Bc,Bh,Be,za7,za8] at h')<;>try (exfalso; omega)))<;>(try simp (disch:=first | omega | decide +kernel) only [q',smN,go_sem,Qa,Qb,Qc,Qd,Qe,↓reduceIte,reduceCtorEq,Qf,Qg,Qh])<;>clear q') | with_reducible refine And.intro ?_ ?_ | with_reducible omega | (refine le_maxLen ?_; omega)))
       refine Ok.go ?_
       simp (disch:=first | omega | decide +kernel) only [smN,go_sem,Qa,Qb,Qc,Qd,Qe,↓reduceIte,reduceCtorEq,Qf,Qg,Qh]
       (repeat' (first | ((first | (refine gsel_split (fun q' => ?_) (fun q' => ?_)<;>(have h':=q')<;>(try simp only [za1,za2,Ba,Bb,za3,ne_eq,za4,za5,za6,Ia,Ib,Ic,Ie,Da,Bc,Bh,Be,za7,za8] at h')<;>try (exfalso; omega)))<;>(try simp (disch:=first | omega | decide +kernel) only [q',smN,go_sem,Qa,Qb,Qc,Qd,Qe,↓reduceIte,reduceCtorEq,Qf,Qg,Qh])<;>clear q') | with_reducible refine And.intro ?_ ?_ | with_reducible omega | (refine le_maxLen ?_; omega)))
       refine hN () _ (by decide) trivial ?_
       exact (by refine Wk.auto ?_ ?_<;>simp [extraK,lk,killL,St.kill,wipeO,wipeS,AV.has,AV.hasL,AO.wipe,List.map_set,updSt,insL,dropS,ins,smN])
     . refine Ok.seq (Ok.go ?_)
       simp (disch:=first | omega | decide +kernel) only [go_sem,Qa,Qb,Qc,Qd,Qe,↓reduceIte,reduceCtorEq,Qf,Qg,Qh]
       (repeat' (first | ((first | (refine gsel_split (fun q' => ?_) (fun q' => ?_)<;>(have h':=q')<;>(try simp only [za1,za2,Ba,Bb,za3,ne_eq,za4,za5,za6,Ia,Ib,Ic,Ie,Da,Bc,Bh,Be,za7,za8] at h')<;>try (exfalso; omega)))<;>(try simp (disch:=first | omega | decide +kernel) only [q',go_sem,Qa,Qb,Qc,Qd,Qe,↓reduceIte,reduceCtorEq,Qf,Qg,Qh])<;>clear q') | with_reducible refine And.intro ?_ ?_ | with_reducible omega | (refine le_maxLen ?_; omega)))
       refine Ok.seq (Ok.block (Ok.seq (Ok.go ?_)))
       simp (disch:=first | omega | decide +kernel) only [go_sem,Qa,Qb,Qc,Qd,Qe,↓reduceIte,reduceCtorEq,Qf,Qg,Qh]
       (repeat' (first | ((first | (refine gsel_split (fun q' => ?_) (fun q' => ?_)<;>(have h':=q')<;>(try simp only [za1,za2,Ba,Bb,za3,ne_eq,za4,za5,za6,Ia,Ib,Ic,Ie,Da,Bc,Bh,Be,za7,za8] at h')<;>try (exfalso; omega)) | (have q':=trivial; first | refine callX_shared (r1') rfl (by decide) ?_ | refine callY_shared (r1') rfl ?_))<;>(try simp (disch:=first | omega | decide +kernel) only [q',go_sem,Qa,Qb,Qc,Qd,Qe,↓reduceIte,reduceCtorEq,Qf,Qg,Qh])<;>clear q') | with_reducible refine And.intro ?_ ?_ | with_reducible omega | exact no_mem | (refine le_maxLen ?_; omega) | (refine za9 ⟨?_,?_⟩) | (simp only [go_sem,Qc,Qb,zb1,zb2,forall_eq]; done)))
       refine Ok.seq (Ok.go ?_)
       simp (disch:=first | omega | decide +kernel) only [go_sem,Qa,Qb,Qc,Qd,Qe,↓reduceIte,reduceCtorEq,Qf,Qg,Qh]
       (repeat' (first | ((first | (refine gsel_split (fun q' => ?_) (fun q' => ?_)<;>(have h':=q')<;>(try simp only [za1,za2,Ba,Bb,za3,ne_eq,za4,za5,za6,Ia,Ib,Ic,Ie,Da,Bc,Bh,Be,za7,za8] at h')<;>try (exfalso; omega)) | (have q':=trivial; first | refine callX_shared (s1') rfl (by decide) ?_ | refine callY_shared (s1') rfl ?_ | refine callX_new (R1) rfl (by decide) ?_ | refine callY_new (R1) rfl ?_))<;>(try simp (disch:=first | omega | decide +kernel) only [q',go_sem,Qa,Qb,Qc,Qd,Qe,↓reduceIte,reduceCtorEq,Qf,Qg,Qh])<;>clear q') | with_reducible refine And.intro ?_ ?_ | with_reducible omega | exact no_mem | (refine le_maxLen ?_; omega) | (refine za9 ⟨?_,?_⟩) | (simp only [go_sem,Qc,Qb,zb1,zb2,forall_eq]; done)))
       all_goals (try (exact absurd trivial h'))
       refine Ok.seq (Ok.go ?_)
       simp (disch:=first | omega | decide +kernel) only [go_sem,Qa,Qb,Qc,Qd,Qe,↓reduceIte,reduceCtorEq,Qf,Qg,Qh]
       (repeat' (first | ((first | (refine gsel_split (fun q' => ?_) (fun q' => ?_)<;>(have h':=q')<;>(try simp only [za1,za2,Ba,Bb,za3,ne_eq,za4,za5,za6,Ia,Ib,Ic,Ie,Da,Bc,Bh,Be,za7,za8] at h')<;>try (exfalso; omega)) | (have q':=trivial; first | refine callX_shared (q1) rfl (by decide) ?_ | refine callY_shared (q1) rfl ?_))<;>(try simp (disch:=first | omega | decide +kernel) only [q',go_sem,Qa,Qb,Qc,Qd,Qe,↓reduceIte,reduceCtorEq,Qf,Qg,Qh])<;>clear q') | with_reducible refine And.intro ?_ ?_ | with_reducible omega | exact no_mem | (refine le_maxLen ?_; omega) | (refine za9 ⟨?_,?_⟩) | (simp only [go_sem,Qc,Qb,zb1,zb2,forall_eq]; done)))
       all_goals (try (exact absurd trivial h'))
       refine Ok.seq (Ok.go ?_)
       simp (disch:=first | omega | decide +kernel) only [go_sem,Qa,Qb,Qc,Qd,Qe,↓reduceIte,reduceCtorEq,Qf,Qg,Qh]
       (repeat' (first | ((first | (refine gsel_split (fun q' => ?_) (fun q' => ?_)<;>(have h':=q')<;>(try simp only [za1,za2,Ba,Bb,za3,ne_eq,za4,za5,za6,Ia,Ib,Ic,Ie,Da,Bc,Bh,Be,za7,za8] at h')<;>try (exfalso; omega)) | (have q':=trivial; first | refine callX_new (m1) rfl (by decide) ?_ | refine callY_new (m1) rfl ?_))<;>(try simp (disch:=first | omega | decide +kernel) only [q',go_sem,Qa,Qb,Qc,Qd,Qe,↓reduceIte,reduceCtorEq,Qf,Qg,Qh])<;>clear q') | with_reducible refine And.intro ?_ ?_ | with_reducible omega | exact no_mem | (refine le_maxLen ?_; omega) | (refine za9 ⟨?_,?_⟩) | (simp only [go_sem,Qc,Qb,zb1,zb2,forall_eq]; done)))
       all_goals (try (exact absurd trivial h'))
       refine Ok.seq (Ok.go ?_)
       simp (disch:=first | omega | decide +kernel) only [go_sem,Qa,Qb,Qc,Qd,Qe,↓reduceIte,reduceCtorEq,Qf,Qg,Qh]
       (repeat' (first | ((first | (refine gsel_split (fun q' => ?_) (fun q' => ?_)<;>(have h':=q')<;>(try simp only [za1,za2,Ba,Bb,za3,ne_eq,za4,za5,za6,Ia,Ib,Ic,Ie,Da,Bc,Bh,Be,za7,za8] at h')<;>try (exfalso; omega)))<;>(try simp (disch:=first | omega | decide +kernel) only [q',go_sem,Qa,Qb,Qc,Qd,Qe,↓reduceIte,reduceCtorEq,Qf,Qg,Qh])<;>clear q') | with_reducible refine And.intro ?_ ?_ | with_reducible omega | exact no_mem | (refine le_maxLen ?_; omega) | (refine za9 ⟨?_,?_⟩) | (simp only [go_sem,Qc,Qb,zb1,zb2,forall_eq]; done)))
       all_goals (try (exact absurd trivial h'))
       refine Ok.go ?_
       simp (disch:=first | omega | decide +kernel) only [smN,go_sem,Qa,Qb,Qc,Qd,Qe,↓reduceIte,reduceCtorEq,Qf,Qg,Qh]
       (repeat' (first | ((first | (refine gsel_split (fun q' => ?_) (fun q' => ?_)<;>(have h':=q')<;>(try simp only [za1,za2,Ba,Bb,za3,ne_eq,za4,za5,za6,Ia,Ib,Ic,Ie,Da,Bc,Bh,Be,za7,za8] at h')<;>try (exfalso; omega)))<;>(try simp (disch:=first | omega | decide +kernel) only [q',smN,go_sem,Qa,Qb,Qc,Qd,Qe,↓reduceIte,reduceCtorEq,Qf,Qg,Qh])<;>clear q') | with_reducible refine And.intro ?_ ?_ | with_reducible omega | (refine le_maxLen ?_; omega)))
       refine Ok.go ?_
       simp (disch:=first | omega | decide +kernel) only [smN,go_sem,Qa,Qb,Qc,Qd,Qe,↓reduceIte,reduceCtorEq,Qf,Qg,Qh]
       (repeat' (first | ((first | (refine gsel_split (fun q' => ?_) (fun q' => ?_)<;>(have h':=q')<;>(try simp only [za1,za2,Ba,Bb,za3,ne_eq,za4,za5,za6,Ia,Ib,Ic,Ie,Da,Bc,Bh,Be,za7,za8] at h')<;>try (exfalso; omega)))<;>(try simp (disch:=first | omega | decide +kernel) only [q',smN,go_sem,Qa,Qb,Qc,Qd,Qe,↓reduceIte,reduceCtorEq,Qf,Qg,Qh])<;>clear q') | with_reducible refine And.intro ?_ ?_ | with_reducible omega | (refine le_maxLen ?_; omega)))
       refine hN () _ (by decide) trivial ?_
       exact (by refine Wk.auto ?_ ?_<;>simp [extraK,lk,killL,St.kill,wipeO,wipeS,AV.has,AV.hasL,AO.wipe,List.map_set,updSt,insL,dropS,ins,smN])
   . obtain rfl : i=2:=by omega
     have hsm : smN N0 N1 2=N:=hcr
     rw [hsm]
     refine Ok.go ?_
     simp (disch:=first | omega | decide +kernel) only [go_sem,Qa,Qb,Qc,Qd,Qe,↓reduceIte,reduceCtorEq,Qf,Qg,Qh]
     (repeat' (first | ((first | (refine gsel_split (fun q' => ?_) (fun q' => ?_)<;>(have h':=q')<;>(try simp only [za1,za2,Ba,Bb,za3,ne_eq,za4,za5,za6,Ia,Ib,Ic,Ie,Da,Bc,Bh,Be,za7,za8] at h')<;>try (exfalso; omega)))<;>(try simp (disch:=first | omega | decide +kernel) only [q',go_sem,Qa,Qb,Qc,Qd,Qe,↓reduceIte,reduceCtorEq,Qf,Qg,Qh])<;>clear q') | with_reducible refine And.intro ?_ ?_ | with_reducible omega | (refine le_maxLen ?_; omega)))
     refine hE1 _ _ exit_ne ?_
     simp (disch:=first | omega | decide +kernel) only [go_sem,Qa,Qb,Qc,Qd,Qe,↓reduceIte,reduceCtorEq,Qf,Qg,Qh]
     refine Ok.seq (Ok.go ?_)
     simp (disch:=first | omega | decide +kernel) only [go_sem,Qa,Qb,Qc,Qd,Qe,↓reduceIte,reduceCtorEq,Qf,Qg,Qh]
     (repeat' (first | ((first | (refine gsel_split (fun q' => ?_) (fun q' => ?_)<;>(have h':=q')<;>(try simp only [za1,za2,Ba,Bb,za3,ne_eq,za4,za5,za6,Ia,Ib,Ic,Ie,Da,Bc,Bh,Be,za7,za8] at h')<;>try (exfalso; omega)))<;>(try simp (disch:=first | omega | decide +kernel) only [q',go_sem,Qa,Qb,Qc,Qd,Qe,↓reduceIte,reduceCtorEq,Qf,Qg,Qh])<;>clear q') | with_reducible refine And.intro ?_ ?_ | with_reducible omega | exact no_mem | (refine le_maxLen ?_; omega) | (refine za9 ⟨?_,?_⟩) | (simp only [go_sem,Qc,Qb,zb1,zb2,forall_eq]; done)))
     all_goals (try (exact absurd trivial h'))
     refine Ok.seq (Ok.go ?_)
     simp (disch:=first | omega | decide +kernel) only [go_sem,Qa,Qb,Qc,Qd,Qe,↓reduceIte,reduceCtorEq,Qf,Qg,Qh]
     (repeat' (first | ((first | (refine gsel_split (fun q' => ?_) (fun q' => ?_)<;>(have h':=q')<;>(try simp only [za1,za2,Ba,Bb,za3,ne_eq,za4,za5,za6,Ia,Ib,Ic,Ie,Da,Bc,Bh,Be,za7,za8] at h')<;>try (exfalso; omega)) | (have q':=trivial; first | refine callX_new (o1) rfl (by decide) ?_ | refine callY_new (o1) rfl ?_))<;>(try simp (disch:=first | omega | decide +kernel) only [q',go_sem,Qa,Qb,Qc,Qd,Qe,↓reduceIte,reduceCtorEq,Qf,Qg,Qh])<;>clear q') | with_reducible refine And.intro ?_ ?_ | with_reducible omega | exact no_mem | (refine le_maxLen ?_; omega) | (refine za9 ⟨?_,?_⟩) | (simp only [go_sem,Qc,Qb,zb1,zb2,forall_eq]; done)))
     all_goals (try (exact absurd trivial h'))
     refine Ok.seq (Ok.go ?_)
     simp (disch:=first | omega | decide +kernel) only [go_sem,Qa,Qb,Qc,Qd,Qe,↓reduceIte,reduceCtorEq,Qf,Qg,Qh]
     (repeat' (first | ((first | (refine gsel_split (fun q' => ?_) (fun q' => ?_)<;>(have h':=q')<;>(try simp only [za1,za2,Ba,Bb,za3,ne_eq,za4,za5,za6,Ia,Ib,Ic,Ie,Da,Bc,Bh,Be,za7,za8] at h')<;>try (exfalso; omega)) | (have q':=trivial; first | refine callX_new (o2) rfl (by decide) ?_ | refine callY_new (o2) rfl ?_))<;>(try simp (disch:=first | omega | decide +kernel) only [q',go_sem,Qa,Qb,Qc,Qd,Qe,↓reduceIte,reduceCtorEq,Qf,Qg,Qh])<;>clear q') | with_reducible refine And.intro ?_ ?_ | with_reducible omega | exact no_mem | (refine le_maxLen ?_; omega) | (refine za9 ⟨?_,?_⟩) | (simp only [go_sem,Qc,Qb,zb1,zb2,forall_eq]; done)))
     all_goals (try (exact absurd trivial h'))
     refine Ok.seq (Ok.go ?_)
     simp (disch:=first | omega | decide +kernel) only [go_sem,Qa,Qb,Qc,Qd,Qe,↓reduceIte,reduceCtorEq,Qf,Qg,Qh]
     (repeat' (first | ((first | (refine gsel_split (fun q' => ?_) (fun q' => ?_)<;>(have h':=q')<;>(try simp only [za1,za2,Ba,Bb,za3,ne_eq,za4,za5,za6,Ia,Ib,Ic,Ie,Da,Bc,Bh,Be,za7,za8] at h')<;>try (exfalso; omega)) | (have q':=trivial; first | refine callX_new (cI) rfl (by decide) ?_ | refine callY_new (cI) rfl ?_))<;>(try simp (disch:=first | omega | decide +kernel) only [q',go_sem,Qa,Qb,Qc,Qd,Qe,↓reduceIte,reduceCtorEq,Qf,Qg,Qh])<;>clear q') | with_reducible refine And.intro ?_ ?_ | with_reducible omega | exact no_mem | (refine le_maxLen ?_; omega) | (refine za9 ⟨?_,?_⟩) | (simp only [go_sem,Qc,Qb,zb1,zb2,forall_eq]; done)))
     all_goals (try (exact absurd trivial h'))
     cases mB with
     | false =>
       refine Ok.seq (Ok.go ?_)
       simp (disch:=first | omega | decide +kernel) only [go_sem,Qa,Qb,Qc,Qd,Qe,↓reduceIte,reduceCtorEq,Qf,Qg,Qh]
       (repeat' (first | ((first | (refine gsel_split (fun q' => ?_) (fun q' => ?_)<;>(have h':=q')<;>(try simp only [za1,za2,Ba,Bb,za3,ne_eq,za4,za5,za6,Ia,Ib,Ic,Ie,Da,Bc,Bh,Be,za7,za8] at h')<;>try (exfalso; omega)))<;>(try simp (disch:=first | omega | decide +kernel) only [q',go_sem,Qa,Qb,Qc,Qd,Qe,↓reduceIte,reduceCtorEq,Qf,Qg,Qh])<;>clear q') | with_reducible refine And.intro ?_ ?_ | with_reducible omega | (refine le_maxLen ?_; omega)))
       refine Ok.go ?_
       simp (disch:=first | omega | decide +kernel) only [go_sem,Qa,Qb,Qc,Qd,Qe,↓reduceIte,reduceCtorEq,Qf,Qg,Qh]
       (repeat' (first | ((first | (refine gsel_split (fun q' => ?_) (fun q' => ?_)<;>(have h':=q')<;>(try simp only [za1,za2,Ba,Bb,za3,ne_eq,za4,za5,za6,Ia,Ib,Ic,Ie,Da,Bc,Bh,Be,za7,za8] at h')<;>try (exfalso; omega)))<;>(try simp (disch:=first | omega | decide +kernel) only [q',go_sem,Qa,Qb,Qc,Qd,Qe,↓reduceIte,reduceCtorEq,Qf,Qg,Qh])<;>clear q') | with_reducible refine And.intro ?_ ?_ | with_reducible omega | (refine le_maxLen ?_; omega)))
     | true =>
       have o4:=o3 rfl
       refine Ok.seq (Ok.go ?_)
       simp (disch:=first | omega | decide +kernel) only [List.length_map,go_sem,Qa,Qb,Qc,Qd,Qe,↓reduceIte,reduceCtorEq,Qf,Qg,Qh]
       (repeat' (first | ((first | (refine gsel_split (fun q' => ?_) (fun q' => ?_)<;>(have h':=q')<;>(try simp only [za1,za2,Ba,Bb,za3,ne_eq,za4,za5,za6,Ia,Ib,Ic,Ie,Da,Bc,Bh,Be,za7,za8] at h')<;>try (exfalso; omega)) | (have q':=trivial; first | refine callX_new (o4) rfl (by decide) ?_ | refine callY_new (o4) rfl ?_))<;>(try simp (disch:=first | omega | decide +kernel) only [q',List.length_map,go_sem,Qa,Qb,Qc,Qd,Qe,↓reduceIte,reduceCtorEq,Qf,Qg,Qh])<;>clear q') | with_reducible refine And.intro ?_ ?_ | with_reducible omega | exact no_mem | (refine le_maxLen ?_; omega) | (refine za9 ⟨?_,?_⟩) | (simp only [go_sem,Qc,Qb,zb1,zb2,forall_eq]; done)))
       all_goals (try (exact absurd trivial h'))
       refine Ok.go ?_
       simp (disch:=first | omega | decide +kernel) only [go_sem,Qa,Qb,Qc,Qd,Qe,↓reduceIte,reduceCtorEq,Qf,Qg,Qh]
       (repeat' (first | ((first | (refine gsel_split (fun q' => ?_) (fun q' => ?_)<;>(have h':=q')<;>(try simp only [za1,za2,Ba,Bb,za3,ne_eq,za4,za5,za6,Ia,Ib,Ic,Ie,Da,Bc,Bh,Be,za7,za8] at h')<;>try (exfalso; omega)))<;>(try simp (disch:=first | omega | decide +kernel) only [q',go_sem,Qa,Qb,Qc,Qd,Qe,↓reduceIte,reduceCtorEq,Qf,Qg,Qh])<;>clear q') | with_reducible refine And.intro ?_ ?_ | with_reducible omega | (refine le_maxLen ?_; omega)))
end Abs.Y
