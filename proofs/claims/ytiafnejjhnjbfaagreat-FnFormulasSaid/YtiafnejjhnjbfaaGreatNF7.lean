/- What functions of this program compute, over plain data. No condition. -/
import Derived.Test.YtiafnejjhnjbfaaGreatNF6
set_option linter.all false
namespace Abs.Y
open Go Go.Proofs Abs
open Nat renaming reduceEqDiff -> Qa, reduceLT -> Qb, reduceAdd -> Qc, reduceMul -> Qd, reduceSub -> Qe, reduceLeDiff -> Qf, reduceSubDiff -> Qg, reduceBEq -> Qh
open Bool renaming not_eq_true' -> Ba, not_eq_false' -> Bb, and_eq_true -> Bc, or_eq_true -> Bh, or_eq_false_iff -> Be
open Int renaming ofNat_lt -> Ia, ofNat_le -> Ib, not_lt -> Ic, not_le -> Ie
open Decidable renaming not_not -> Da
set_option maxRecDepth 100000

set_option maxHeartbeats 16000000 in
theorem law_FnFormulas : ∀ xs,AllR [isSl isU8] xs->Ctr Tryz.prog 3 xs false (.d (.bool true)) []:=by
 intro xs hx
 obtain ⟨x0,ys,rfl,h0,hx⟩:=allR_cons hx
 obtain rfl:=allR_nil hx
 obtain ⟨code,rfl,hcb⟩:=r_bytes h0
 have c0:=rBigN_ok code
 by_cases hbig : 65536 < code.length
 . rw [decide_eq_true hbig] at c0
   refine Ctr.of (n:=258) (rs:=[.tmp 2]) Tryz.func3 rfl rfl Tryz.ntmps3 rfl rfl (by kernel_rfl) Tryz.checked.mixed ?_
   simp (disch:=first | omega | decide +kernel) only [go_sem,Qa,Qb,Qc,Qd,Qe,↓reduceIte,reduceCtorEq,Qf,Qg,Qh]
   refine callX_new (c0) rfl (by decide) ?_
   simp (disch:=first | omega | decide +kernel) only [go_sem,Qa,Qb,Qc,Qd,Qe,↓reduceIte,reduceCtorEq,Qf,Qg,Qh]
 have hc : CodeOK code:=⟨by omega,hcb⟩
 rw [decide_eq_false hbig] at c0
 have d1:=drawNegationForm_ok hc
 have d2:=drawAreEquivalent_ok hc
 have d3:=drawIsTautology_ok hc
 simp only [D.bytes] at d1 d2 d3
 refine Ctr.ofK (n:=258) (rs:=[.tmp 2]) Tryz.func3 rfl rfl Tryz.ntmps3 rfl rfl (by kernel_rfl) Tryz.checked.mixed ?_
 refine Ok.seq (Ok.go ?_)
 simp (disch:=first | omega | decide +kernel) only [go_sem,Qa,Qb,Qc,Qd,Qe,↓reduceIte,reduceCtorEq,Qf,Qg,Qh]
 refine Ok.seq (Ok.go ?_)
 simp (disch:=first | omega | decide +kernel) only [go_sem,Qa,Qb,Qc,Qd,Qe,↓reduceIte,reduceCtorEq,Qf,Qg,Qh]
 (repeat' (first | ((first | (refine gsel_split (fun q' => ?_) (fun q' => ?_)<;>(have h':=q')<;>(try simp only [za1,za2,Ba,Bb,za3,ne_eq,za4,za5,za6,Ia,Ib,Ic,Ie,Da,Bc,Bh,Be,za7,za8] at h')<;>try (exfalso; omega)) | (have q':=trivial; first | refine callX_new (c0) rfl (by decide) ?_ | refine callY_new (c0) rfl ?_ | refine hE _ _ ret_ne ?_ | refine hE _ _ exit_ne ?_))<;>(try simp (disch:=first | omega | decide +kernel) only [q',go_sem,Qa,Qb,Qc,Qd,Qe,↓reduceIte,reduceCtorEq,Qf,Qg,Qh])<;>clear q') | refine hN _ ?_ ?_ Wk.kk | with_reducible refine And.intro ?_ ?_ | with_reducible omega | exact ok_ints | exact cells_ints | exact no_mem | with_reducible exact plain_ints | (refine le_maxLen ?_; omega) | (refine za9 ⟨?_,?_⟩) | (simp only [go_sem,Qc,Qb,zb1,zb2,forall_eq]; done)))
 clear c0
 refine Ok.seq (Ok.go ?_)
 simp (disch:=first | omega | decide +kernel) only [go_sem,Qa,Qb,Qc,Qd,Qe,↓reduceIte,reduceCtorEq,Qf,Qg,Qh]
 (repeat' (first | ((first | (refine gsel_split (fun q' => ?_) (fun q' => ?_)<;>(have h':=q')<;>(try simp only [za1,za2,Ba,Bb,za3,ne_eq,za4,za5,za6,Ia,Ib,Ic,Ie,Da,Bc,Bh,Be,za7,za8] at h')<;>try (exfalso; omega)) | (have q':=trivial; first | (refine callX_rels (d1) ⟨.inl rfl,trivial⟩ (by simp [dstB]) ?_; rintro _ ⟨xa,rfl,hxa⟩) | (refine callX_rels (d1) ⟨.inr ⟨rfl,_,rfl,rfl⟩,trivial⟩ (by simp [dstB]) ?_; rintro _ ⟨xa,rfl,hxa⟩) | refine hE _ _ ret_ne ?_ | refine hE _ _ exit_ne ?_))<;>(try simp (disch:=first | omega | decide +kernel) only [q',go_sem,Qa,Qb,Qc,Qd,Qe,↓reduceIte,reduceCtorEq,Qf,Qg,Qh])<;>clear q') | refine hN _ ?_ ?_ Wk.kk | with_reducible refine And.intro ?_ ?_ | with_reducible omega | exact ok_ints | exact cells_ints | exact no_mem | with_reducible exact plain_ints | (refine le_maxLen ?_; omega) | (refine za9 ⟨?_,?_⟩) | (simp only [go_sem,Qc,Qb,zb1,zb2,forall_eq]; done)))
 clear d1
 have c1:=NegationForm_ok xa (by omega)
 have c2:=NegationFormS_ok xa (by omega)
 have hlaw:=fun h => neg_law (s:=xa) h
 have c3:=fun (hz : (negS xa).size<=80) => AreEquivalent_ok xa (negS xa) (by omega) (by omega)
 have c4:=fun (hz : (negS xa).size<=80) => NegationForm_ok (negS xa) (by omega)
 have c5:=fun (hz : (negS xa).size<=80) => DualFormula_ok (negS xa) (by omega)
 generalize negS xa=form at *
 generalize negG xa=ng at *
 refine Ok.seq (Ok.go ?_)
 simp (disch:=first | omega | decide +kernel) only [go_sem,Qa,Qb,Qc,Qd,Qe,↓reduceIte,reduceCtorEq,Qf,Qg,Qh]
 (repeat' (first | ((first | (refine gsel_split (fun q' => ?_) (fun q' => ?_)<;>(have h':=q')<;>(try simp only [za1,za2,Ba,Bb,za3,ne_eq,za4,za5,za6,Ia,Ib,Ic,Ie,Da,Bc,Bh,Be,za7,za8] at h')<;>try (exfalso; omega)) | (have q':=trivial; first | refine callX_shared (c1) rfl (by decide) ?_ | refine callY_shared (c1) rfl ?_ | refine hE _ _ ret_ne ?_ | refine hE _ _ exit_ne ?_))<;>(try simp (disch:=first | omega | decide +kernel) only [q',go_sem,Qa,Qb,Qc,Qd,Qe,↓reduceIte,reduceCtorEq,Qf,Qg,Qh])<;>clear q') | refine hN _ ?_ ?_ Wk.kk | with_reducible refine And.intro ?_ ?_ | with_reducible omega | exact ok_ints | exact cells_ints | exact no_mem | with_reducible exact plain_ints | (refine le_maxLen ?_; omega) | (refine za9 ⟨?_,?_⟩) | (simp only [go_sem,Qc,Qb,zb1,zb2,forall_eq]; done)))
 refine Ok.seq (Ok.go ?_)
 simp (disch:=first | omega | decide +kernel) only [beq_self_eq_true,go_sem,Qa,Qb,Qc,Qd,Qe,↓reduceIte,reduceCtorEq,Qf,Qg,Qh]
 (repeat' (first | ((first | (refine gsel_split (fun q' => ?_) (fun q' => ?_)<;>(have h':=q')<;>(try simp only [za1,za2,Ba,Bb,za3,ne_eq,za4,za5,za6,Ia,Ib,Ic,Ie,Da,Bc,Bh,Be,za7,za8] at h')<;>try (exfalso; omega)) | (have q':=trivial; first | refine callX_shared (c2) rfl (by decide) ?_ | refine callY_shared (c2) rfl ?_ | refine hE _ _ ret_ne ?_ | refine hE _ _ exit_ne ?_))<;>(try simp (disch:=first | omega | decide +kernel) only [q',beq_self_eq_true,go_sem,Qa,Qb,Qc,Qd,Qe,↓reduceIte,reduceCtorEq,Qf,Qg,Qh])<;>clear q') | refine hN _ ?_ ?_ Wk.kk | with_reducible refine And.intro ?_ ?_ | with_reducible omega | exact ok_ints | exact cells_ints | exact no_mem | with_reducible exact plain_ints | (refine le_maxLen ?_; omega) | (refine za9 ⟨?_,?_⟩) | (simp only [go_sem,Qc,Qb,zb1,zb2,forall_eq]; done)))
 all_goals (try (exact absurd trivial h'))
 clear c1 c2
 refine Ok.seqJ ⟨[(2,.d (.bool false)),(0,.d (.slice (code.map (.int .u8))))],[]⟩ ?_ (Ok.go ?_)
 rotate_left
 . cases ng with
   | false =>
     simp (disch:=first | omega | decide +kernel) only [go_sem,Qa,Qb,Qc,Qd,Qe,↓reduceIte,reduceCtorEq,Qf,Qg,Qh]
     (repeat' (first | ((first | (refine gsel_split (fun q' => ?_) (fun q' => ?_)<;>(have h':=q')<;>(try simp only [za1,za2,Ba,Bb,za3,ne_eq,za4,za5,za6,Ia,Ib,Ic,Ie,Da,Bc,Bh,Be,za7,za8] at h')<;>try (exfalso; omega)) | (have q':=trivial; first | refine hE _ _ ret_ne ?_ | refine hE _ _ exit_ne ?_))<;>(try simp (disch:=first | omega | decide +kernel) only [q',go_sem,Qa,Qb,Qc,Qd,Qe,↓reduceIte,reduceCtorEq,Qf,Qg,Qh])<;>clear q') | refine hN _ ?_ ?_ Wk.kk | with_reducible refine And.intro ?_ ?_ | with_reducible omega | exact ok_ints | exact cells_ints | exact no_mem | with_reducible exact plain_ints | (refine le_maxLen ?_; omega) | (refine za9 ⟨?_,?_⟩) | (simp only [go_sem,Qc,Qb,zb1,zb2,forall_eq]; done)))
     all_goals (first | omega | exact absurd trivial ‹¬True› | exact (Wk.kk))
   | true =>
     obtain ⟨k1,k2,hz,e1,e2,e3,e4,h62,kd,hdz,hv⟩:=hlaw rfl
     have c3:=c3 hz
     have c4:=c4 hz
     have c5:=c5 hz k2 h62
     rw [e1,e2] at c3
     rw [e3,e4] at c4
     have c6:=fun m hm => FormulaValue_ok form m (by omega) hm k2
     generalize (⟨((BL form).map swp).toArray⟩ : ByteArray)=dual at *
     have c7:=fun m hm => FormulaValue_ok dual m (by omega) hm kd
     simp (disch:=first | omega | decide +kernel) only [beq_self_eq_true,go_sem,Qa,Qb,Qc,Qd,Qe,↓reduceIte,reduceCtorEq,Qf,Qg,Qh]
     (repeat' (first | ((first | (refine gsel_split (fun q' => ?_) (fun q' => ?_)<;>(have h':=q')<;>(try simp only [za1,za2,Ba,Bb,za3,ne_eq,za4,za5,za6,Ia,Ib,Ic,Ie,Da,Bc,Bh,Be,za7,za8] at h')<;>try (exfalso; omega)) | (have q':=trivial; first | refine callX_shared (c3) rfl (by decide) ?_ | refine callY_shared (c3) rfl ?_ | refine callX_shared (c4) rfl (by decide) ?_ | refine callY_shared (c4) rfl ?_ | refine callX_new (c5) rfl (by decide) ?_ | refine callY_new (c5) rfl ?_ | refine hE _ _ ret_ne ?_ | refine hE _ _ exit_ne ?_))<;>(try simp (disch:=first | omega | decide +kernel) only [q',beq_self_eq_true,go_sem,Qa,Qb,Qc,Qd,Qe,↓reduceIte,reduceCtorEq,Qf,Qg,Qh])<;>clear q') | refine hN _ ?_ ?_ Wk.kk | with_reducible refine And.intro ?_ ?_ | with_reducible omega | exact ok_ints | exact cells_ints | exact no_mem | with_reducible exact plain_ints | (refine le_maxLen ?_; omega) | (refine za9 ⟨?_,?_⟩) | (simp only [go_sem,Qc,Qb,zb1,zb2,forall_eq]; done)))
     all_goals (try (exact absurd trivial h'))
     refine Ok.loopN [257,256,255,254,253,252,251,250,249,248,247,246,245,244,243,242,241,240,239,238,237,236,235,234,233,232,231,230,229,228,227,226,225,224,223,222,221,220,219,218,217,216,215,214,213,212,211,210,209,208,207,206,205,204,203,202,201,200,199,198,197,196,195,194,193,192,191,190,189,188,187,186,185,184,183,182,181,180,179,178,177,176,175,174,173,172,171,170,169,168,167,166,165,164,163,162,161,160,159,158,157,156,155,154,153,152,151,150,149,148,147,146,145,144,143,142,141,140,139,138,137,136,135,134,133,132,131,130,129,128,127,126,125,124,123,122,121,120,119,118,117,116,115,114,113,112,111,110,109,108,107,106,105,104,103,102,101,100,99,98,97,96,95,94,93,92,91,90,89,88,87,86,85,84,83,82,81,80,79,78,77,76,75,74,73,72,71,70,69,68,67,66,65,64,63,62,61,60,59,58,57,56,55,54,53,52,51,50,49,48,47,46,45,44,43,42,41,40,39,38,37,36,35,34,33,32,31,30,29,28,27,26,25,24,23,22,21,20,19,18,17,16,15,14,13,11,10,9,8,7,6,5,3,1] (fun i (_ : Unit) => [(14,.d (.int .i64 (i : Nat)))]) (fun _ _ => []) 64 (fun _ _ => True) () trivial (Wk.kk) ?_
     rintro R i _ hN hE hi _
     by_cases hlt : i < 64
     . have g1:=c6 i hlt
       have g2:=c7 (63 - i) (by omega)
       have hvi:=hv i hlt
       change (fmS dual).vl (bitF (63 - i))=!(fmS form).vl (bitF i) at hvi
       rw [hvi] at g2
       have ei : (63 : Int) - (i : Nat)=((63 - i : Nat) : Int):=by omega
       clear hv c6 c7 hvi
       generalize (fmS form).vl (bitF i)=A at *
       generalize ((63 - i : Nat) : Int)=m2 at *
       cases A <;>
       . simp (disch:=first | omega | decide +kernel) only [ei,go_sem,Qa,Qb,Qc,Qd,Qe,↓reduceIte,reduceCtorEq,Qf,Qg,Qh]
         (repeat' (first | ((first | (refine gsel_split (fun q' => ?_) (fun q' => ?_)<;>(have h':=q')<;>(try simp only [za1,za2,Ba,Bb,za3,ne_eq,za4,za5,za6,Ia,Ib,Ic,Ie,Da,Bc,Bh,Be,za7,za8] at h')<;>try (exfalso; omega)) | (have q':=trivial; first | refine callX_shared (g1) rfl (by decide) ?_ | refine callY_shared (g1) rfl ?_ | refine callX_shared (g2) rfl (by decide) ?_ | refine callY_shared (g2) rfl ?_ | refine hE _ _ ret_ne ?_ | refine hE _ _ exit_ne ?_))<;>(try simp (disch:=first | omega | decide +kernel) only [q',ei,go_sem,Qa,Qb,Qc,Qd,Qe,↓reduceIte,reduceCtorEq,Qf,Qg,Qh])<;>clear q') | refine hN _ ?_ ?_ Wk.kk | with_reducible refine And.intro ?_ ?_ | with_reducible omega | exact ok_ints | exact cells_ints | exact no_mem | with_reducible exact plain_ints | (refine le_maxLen ?_; omega) | (refine za9 ⟨?_,?_⟩) | (simp only [go_sem,Qc,Qb,zb1,zb2,forall_eq]; done)))
         all_goals (first | omega | exact absurd trivial ‹¬True› | exact absurd h' (by decide) | exact hN () _ hlt trivial (by refine Wk.auto ?_ ?_<;>simp [extraK,lk,killL,St.kill,wipeO,wipeS,AV.has,AV.hasL,AO.wipe,List.map_set,updSt,insL,dropS,ins,]))
     . simp (disch:=first | omega | decide +kernel) only [go_sem,Qa,Qb,Qc,Qd,Qe,↓reduceIte,reduceCtorEq,Qf,Qg,Qh]
       (repeat' (first | ((first | (refine gsel_split (fun q' => ?_) (fun q' => ?_)<;>(have h':=q')<;>(try simp only [za1,za2,Ba,Bb,za3,ne_eq,za4,za5,za6,Ia,Ib,Ic,Ie,Da,Bc,Bh,Be,za7,za8] at h')<;>try (exfalso; omega)) | (have q':=trivial; first | refine hE _ _ ret_ne ?_ | refine hE _ _ exit_ne ?_))<;>(try simp (disch:=first | omega | decide +kernel) only [q',go_sem,Qa,Qb,Qc,Qd,Qe,↓reduceIte,reduceCtorEq,Qf,Qg,Qh])<;>clear q') | refine hN _ ?_ ?_ Wk.kk | with_reducible refine And.intro ?_ ?_ | with_reducible omega | exact ok_ints | exact cells_ints | exact no_mem | with_reducible exact plain_ints | (refine le_maxLen ?_; omega) | (refine za9 ⟨?_,?_⟩) | (simp only [go_sem,Qc,Qb,zb1,zb2,forall_eq]; done)))
       all_goals (first | omega | exact absurd trivial ‹¬True› | exact (Wk.kk))
 clear hlaw c3 c4 c5 hxa
 clear form ng xa
 refine Ok.seq (Ok.go ?_)
 simp (disch:=first | omega | decide +kernel) only [go_sem,Qa,Qb,Qc,Qd,Qe,↓reduceIte,reduceCtorEq,Qf,Qg,Qh]
 (repeat' (first | ((first | (refine gsel_split (fun q' => ?_) (fun q' => ?_)<;>(have h':=q')<;>(try simp only [za1,za2,Ba,Bb,za3,ne_eq,za4,za5,za6,Ia,Ib,Ic,Ie,Da,Bc,Bh,Be,za7,za8] at h')<;>try (exfalso; omega)) | (have q':=trivial; first | (refine callX_rels (d2) ⟨.inl rfl,trivial⟩ (by simp [dstB]) ?_; rintro _ ⟨xb,rfl,hxb⟩) | (refine callX_rels (d2) ⟨.inr ⟨rfl,_,rfl,rfl⟩,trivial⟩ (by simp [dstB]) ?_; rintro _ ⟨xb,rfl,hxb⟩) | refine hE _ _ ret_ne ?_ | refine hE _ _ exit_ne ?_))<;>(try simp (disch:=first | omega | decide +kernel) only [q',go_sem,Qa,Qb,Qc,Qd,Qe,↓reduceIte,reduceCtorEq,Qf,Qg,Qh])<;>clear q') | refine hN _ ?_ ?_ Wk.kk | with_reducible refine And.intro ?_ ?_ | with_reducible omega | exact ok_ints | exact cells_ints | exact no_mem | with_reducible exact plain_ints | (refine le_maxLen ?_; omega) | (refine za9 ⟨?_,?_⟩) | (simp only [go_sem,Qc,Qb,zb1,zb2,forall_eq]; done)))
 clear d2
 obtain ⟨x,y⟩:=xb
 dsimp only at hxb ⊢
 obtain ⟨hx1,hy1⟩:=hxb
 have c1:=AreEquivalent_ok x y (by omega) (by omega)
 have c2:=AreEquivalentS_ok x y (by omega) (by omega)
 have i1:=IsFormula_ok x (by omega)
 have i2:=IsFormula_ok y (by omega)
 have c3:=DoesImply_ok x y (by omega) (by omega)
 have c4:=DoesImply_ok y x (by omega) (by omega)
 have c5:=CountModels_ok x (by omega)
 have c6:=CountModels_ok y (by omega)
 have hlaw:=fun h => eqv_law (s:=x) (t:=y) h
 have hcm : cmG x y=(okS x && okS y):=rfl
 generalize impV x y=p at *
 generalize impV y x=q at *
 generalize cmG y x=cg' at *
 generalize cmG x y=cg at *
 generalize eqvV x y=ev at *
 generalize cntS x=n at *
 generalize cntS y=m at *
 refine Ok.seq (Ok.go ?_)
 simp (disch:=first | omega | decide +kernel) only [go_sem,Qa,Qb,Qc,Qd,Qe,↓reduceIte,reduceCtorEq,Qf,Qg,Qh]
 (repeat' (first | ((first | (refine gsel_split (fun q' => ?_) (fun q' => ?_)<;>(have h':=q')<;>(try simp only [za1,za2,Ba,Bb,za3,ne_eq,za4,za5,za6,Ia,Ib,Ic,Ie,Da,Bc,Bh,Be,za7,za8] at h')<;>try (exfalso; omega)) | (have q':=trivial; first | refine callX_shared (c1) rfl (by decide) ?_ | refine callY_shared (c1) rfl ?_ | refine hE _ _ ret_ne ?_ | refine hE _ _ exit_ne ?_))<;>(try simp (disch:=first | omega | decide +kernel) only [q',go_sem,Qa,Qb,Qc,Qd,Qe,↓reduceIte,reduceCtorEq,Qf,Qg,Qh])<;>clear q') | refine hN _ ?_ ?_ Wk.kk | with_reducible refine And.intro ?_ ?_ | with_reducible omega | exact ok_ints | exact cells_ints | exact no_mem | with_reducible exact plain_ints | (refine le_maxLen ?_; omega) | (refine za9 ⟨?_,?_⟩) | (simp only [go_sem,Qc,Qb,zb1,zb2,forall_eq]; done)))
 clear c1
 refine Ok.seqJ ⟨[(22,.d (.bool cg)),(21,.d (.bool ev)),(20,.d (.str y)),(19,.d (.str x)),(2,.d (.bool false)),(0,.d (.slice (code.map (.int .u8))))],[]⟩ ?_ (Ok.go ?_)
 rotate_left
 . clear c3 c4 c5 c6 hlaw d3
   generalize okS x=k1 at *
   generalize okS y=k2 at *
   cases k1<;>cases k2<;>cases cg<;>(first | exact absurd hcm (by decide) | skip)
   all_goals
    simp (disch:=first | omega | decide +kernel) only [beq_self_eq_true,go_sem,Qa,Qb,Qc,Qd,Qe,↓reduceIte,reduceCtorEq,Qf,Qg,Qh]
    (repeat' (first | ((first | (refine gsel_split (fun q' => ?_) (fun q' => ?_)<;>(have h':=q')<;>(try simp only [za1,za2,Ba,Bb,za3,ne_eq,za4,za5,za6,Ia,Ib,Ic,Ie,Da,Bc,Bh,Be,za7,za8] at h')<;>try (exfalso; omega)) | (have q':=trivial; first | refine callX_shared (c2) rfl (by decide) ?_ | refine callY_shared (c2) rfl ?_ | refine callX_new (i1) rfl (by decide) ?_ | refine callY_new (i1) rfl ?_ | refine callX_new (i2) rfl (by decide) ?_ | refine callY_new (i2) rfl ?_ | refine hE _ _ ret_ne ?_ | refine hE _ _ exit_ne ?_))<;>(try simp (disch:=first | omega | decide +kernel) only [q',beq_self_eq_true,go_sem,Qa,Qb,Qc,Qd,Qe,↓reduceIte,reduceCtorEq,Qf,Qg,Qh])<;>clear q') | refine hN _ ?_ ?_ Wk.kk | with_reducible refine And.intro ?_ ?_ | with_reducible omega | exact ok_ints | exact cells_ints | exact no_mem | with_reducible exact plain_ints | (refine le_maxLen ?_; omega) | (refine za9 ⟨?_,?_⟩) | (simp only [go_sem,Qc,Qb,zb1,zb2,forall_eq]; done)))
   all_goals (first | omega | exact absurd trivial ‹¬True› | exact (Wk.kk))
 clear c2 i1 i2
 refine Ok.seqJ ⟨[(2,.d (.bool false)),(0,.d (.slice (code.map (.int .u8))))],[]⟩ ?_ (Ok.go ?_)
 rotate_left
 . cases cg with
   | false =>
     simp (disch:=first | omega | decide +kernel) only [go_sem,Qa,Qb,Qc,Qd,Qe,↓reduceIte,reduceCtorEq,Qf,Qg,Qh]
     (repeat' (first | ((first | (refine gsel_split (fun q' => ?_) (fun q' => ?_)<;>(have h':=q')<;>(try simp only [za1,za2,Ba,Bb,za3,ne_eq,za4,za5,za6,Ia,Ib,Ic,Ie,Da,Bc,Bh,Be,za7,za8] at h')<;>try (exfalso; omega)) | (have q':=trivial; first | refine hE _ _ ret_ne ?_ | refine hE _ _ exit_ne ?_))<;>(try simp (disch:=first | omega | decide +kernel) only [q',go_sem,Qa,Qb,Qc,Qd,Qe,↓reduceIte,reduceCtorEq,Qf,Qg,Qh])<;>clear q') | refine hN _ ?_ ?_ Wk.kk | with_reducible refine And.intro ?_ ?_ | with_reducible omega | exact ok_ints | exact cells_ints | exact no_mem | with_reducible exact plain_ints | (refine le_maxLen ?_; omega) | (refine za9 ⟨?_,?_⟩) | (simp only [go_sem,Qc,Qb,zb1,zb2,forall_eq]; done)))
     all_goals (first | omega | exact absurd trivial ‹¬True› | exact (Wk.kk))
   | true =>
     obtain ⟨k1,k2,rfl,rfl,hpn,hqn⟩:=hlaw rfl
     rw [k1] at c5
     rw [k2] at c6
     clear hcm
     cases p<;>cases q
     . simp (disch:=first | omega | decide +kernel) only [Bool.false_and,go_sem,Qa,Qb,Qc,Qd,Qe,↓reduceIte,reduceCtorEq,Qf,Qg,Qh]
       (repeat' (first | ((first | (refine gsel_split (fun q' => ?_) (fun q' => ?_)<;>(have h':=q')<;>(try simp only [za1,za2,Ba,Bb,za3,ne_eq,za4,za5,za6,Ia,Ib,Ic,Ie,Da,Bc,Bh,Be,za7,za8] at h')<;>try (exfalso; omega)) | (have q':=trivial; first | refine callX_shared (c3) rfl (by decide) ?_ | refine callY_shared (c3) rfl ?_ | refine callX_shared (c4) rfl (by decide) ?_ | refine callY_shared (c4) rfl ?_ | refine callX_shared (c5) rfl (by decide) ?_ | refine callY_shared (c5) rfl ?_ | refine callX_shared (c6) rfl (by decide) ?_ | refine callY_shared (c6) rfl ?_ | refine hE _ _ ret_ne ?_ | refine hE _ _ exit_ne ?_))<;>(try simp (disch:=first | omega | decide +kernel) only [q',Bool.false_and,go_sem,Qa,Qb,Qc,Qd,Qe,↓reduceIte,reduceCtorEq,Qf,Qg,Qh])<;>clear q') | refine hN _ ?_ ?_ Wk.kk | with_reducible refine And.intro ?_ ?_ | with_reducible omega | exact ok_ints | exact cells_ints | exact no_mem | with_reducible exact plain_ints | (refine le_maxLen ?_; omega) | (refine za9 ⟨?_,?_⟩) | (simp only [go_sem,Qc,Qb,zb1,zb2,forall_eq]; done)))
       all_goals (first | omega | exact absurd trivial ‹¬True› | exact (Wk.kk))
     . simp (disch:=first | omega | decide +kernel) only [Bool.false_and,go_sem,Qa,Qb,Qc,Qd,Qe,↓reduceIte,reduceCtorEq,Qf,Qg,Qh]
       (repeat' (first | ((first | (refine gsel_split (fun q' => ?_) (fun q' => ?_)<;>(have h':=q')<;>(try simp only [za1,za2,Ba,Bb,za3,ne_eq,za4,za5,za6,Ia,Ib,Ic,Ie,Da,Bc,Bh,Be,za7,za8] at h')<;>try (exfalso; omega)) | (have q':=trivial; first | refine callX_shared (c3) rfl (by decide) ?_ | refine callY_shared (c3) rfl ?_ | refine callX_shared (c4) rfl (by decide) ?_ | refine callY_shared (c4) rfl ?_ | refine callX_shared (c5) rfl (by decide) ?_ | refine callY_shared (c5) rfl ?_ | refine callX_shared (c6) rfl (by decide) ?_ | refine callY_shared (c6) rfl ?_ | refine hE _ _ ret_ne ?_ | refine hE _ _ exit_ne ?_))<;>(try simp (disch:=first | omega | decide +kernel) only [q',Bool.false_and,go_sem,Qa,Qb,Qc,Qd,Qe,↓reduceIte,reduceCtorEq,Qf,Qg,Qh])<;>clear q') | refine hN _ ?_ ?_ Wk.kk | with_reducible refine And.intro ?_ ?_ | with_reducible omega | exact ok_ints | exact cells_ints | exact no_mem | with_reducible exact plain_ints | (refine le_maxLen ?_; omega) | (refine za9 ⟨?_,?_⟩) | (simp only [go_sem,Qc,Qb,zb1,zb2,forall_eq]; done)))
       all_goals (first | omega | exact absurd trivial ‹¬True› | exact (Wk.kk))
     . have h1:=hpn rfl
       have h2 : ¬ m < n:=by omega
       simp (disch:=first | omega | decide +kernel) only [Bool.and_false,h2,go_sem,Qa,Qb,Qc,Qd,Qe,↓reduceIte,reduceCtorEq,Qf,Qg,Qh]
       (repeat' (first | ((first | (refine gsel_split (fun q' => ?_) (fun q' => ?_)<;>(have h':=q')<;>(try simp only [za1,za2,Ba,Bb,za3,ne_eq,za4,za5,za6,Ia,Ib,Ic,Ie,Da,Bc,Bh,Be,za7,za8] at h')<;>try (exfalso; omega)) | (have q':=trivial; first | refine callX_shared (c3) rfl (by decide) ?_ | refine callY_shared (c3) rfl ?_ | refine callX_shared (c4) rfl (by decide) ?_ | refine callY_shared (c4) rfl ?_ | refine callX_shared (c5) rfl (by decide) ?_ | refine callY_shared (c5) rfl ?_ | refine callX_shared (c6) rfl (by decide) ?_ | refine callY_shared (c6) rfl ?_ | refine hE _ _ ret_ne ?_ | refine hE _ _ exit_ne ?_))<;>(try simp (disch:=first | omega | decide +kernel) only [q',Bool.and_false,h2,go_sem,Qa,Qb,Qc,Qd,Qe,↓reduceIte,reduceCtorEq,Qf,Qg,Qh])<;>clear q') | refine hN _ ?_ ?_ Wk.kk | with_reducible refine And.intro ?_ ?_ | with_reducible omega | exact ok_ints | exact cells_ints | exact no_mem | with_reducible exact plain_ints | (refine le_maxLen ?_; omega) | (refine za9 ⟨?_,?_⟩) | (simp only [go_sem,Qc,Qb,zb1,zb2,forall_eq]; done)))
       all_goals (first | omega | exact absurd trivial ‹¬True› | exact (Wk.kk))
     . have h1:=hpn rfl
       have h2:=hqn rfl
       obtain rfl : n=m:=by omega
       have h2 : ¬ n < n:=by omega
       simp (disch:=first | omega | decide +kernel) only [Bool.and_self,h2,beq_self_eq_true,go_sem,Qa,Qb,Qc,Qd,Qe,↓reduceIte,reduceCtorEq,Qf,Qg,Qh]
       (repeat' (first | ((first | (refine gsel_split (fun q' => ?_) (fun q' => ?_)<;>(have h':=q')<;>(try simp only [za1,za2,Ba,Bb,za3,ne_eq,za4,za5,za6,Ia,Ib,Ic,Ie,Da,Bc,Bh,Be,za7,za8] at h')<;>try (exfalso; omega)) | (have q':=trivial; first | refine callX_shared (c3) rfl (by decide) ?_ | refine callY_shared (c3) rfl ?_ | refine callX_shared (c4) rfl (by decide) ?_ | refine callY_shared (c4) rfl ?_ | refine callX_shared (c5) rfl (by decide) ?_ | refine callY_shared (c5) rfl ?_ | refine callX_shared (c6) rfl (by decide) ?_ | refine callY_shared (c6) rfl ?_ | refine hE _ _ ret_ne ?_ | refine hE _ _ exit_ne ?_))<;>(try simp (disch:=first | omega | decide +kernel) only [q',Bool.and_self,h2,beq_self_eq_true,go_sem,Qa,Qb,Qc,Qd,Qe,↓reduceIte,reduceCtorEq,Qf,Qg,Qh])<;>clear q') | refine hN _ ?_ ?_ Wk.kk | with_reducible refine And.intro ?_ ?_ | with_reducible omega | exact ok_ints | exact cells_ints | exact no_mem | with_reducible exact plain_ints | (refine le_maxLen ?_; omega) | (refine za9 ⟨?_,?_⟩) | (simp only [go_sem,Qc,Qb,zb1,zb2,forall_eq]; done)))
       all_goals (first | omega | exact absurd trivial ‹¬True› | exact (Wk.kk))
 clear hlaw hcm c3 c4 c5 c6 hx1 hy1
 clear p q cg cg' ev n m x y
 refine Ok.seq (Ok.go ?_)
 simp (disch:=first | omega | decide +kernel) only [go_sem,Qa,Qb,Qc,Qd,Qe,↓reduceIte,reduceCtorEq,Qf,Qg,Qh]
 (repeat' (first | ((first | (refine gsel_split (fun q' => ?_) (fun q' => ?_)<;>(have h':=q')<;>(try simp only [za1,za2,Ba,Bb,za3,ne_eq,za4,za5,za6,Ia,Ib,Ic,Ie,Da,Bc,Bh,Be,za7,za8] at h')<;>try (exfalso; omega)) | (have q':=trivial; first | (refine callX_rels (d3) ⟨.inl rfl,trivial⟩ (by simp [dstB]) ?_; rintro _ ⟨xa,rfl,hxa⟩) | (refine callX_rels (d3) ⟨.inr ⟨rfl,_,rfl,rfl⟩,trivial⟩ (by simp [dstB]) ?_; rintro _ ⟨xa,rfl,hxa⟩) | refine hE _ _ ret_ne ?_ | refine hE _ _ exit_ne ?_))<;>(try simp (disch:=first | omega | decide +kernel) only [q',go_sem,Qa,Qb,Qc,Qd,Qe,↓reduceIte,reduceCtorEq,Qf,Qg,Qh])<;>clear q') | refine hN _ ?_ ?_ Wk.kk | with_reducible refine And.intro ?_ ?_ | with_reducible omega | exact ok_ints | exact cells_ints | exact no_mem | with_reducible exact plain_ints | (refine le_maxLen ?_; omega) | (refine za9 ⟨?_,?_⟩) | (simp only [go_sem,Qc,Qb,zb1,zb2,forall_eq]; done)))
 clear d3
 have c1:=IsTautology_ok xa (by omega)
 have c2:=IsTautologyS_ok xa (by omega)
 have c3:=FirstFalsifying_ok xa (by omega)
 have hfv : falV xa=(if falG xa then ffI (vS xa) else 0):=rfl
 have hfg : falG xa=(okS xa && !decide (ffI (vS xa) < 0)):=rfl
 have htb : tautB xa=(okS xa && decide (ffI (vS xa) < 0)):=rfl
 rw [hfv,hfg] at c3
 rw [htb] at c1 c2
 generalize ffI (vS xa)=r at *
 generalize okS xa=ok at *
 clear hfv hfg htb
 refine Ok.seq (Ok.go ?_)
 simp (disch:=first | omega | decide +kernel) only [go_sem,Qa,Qb,Qc,Qd,Qe,↓reduceIte,reduceCtorEq,Qf,Qg,Qh]
 (repeat' (first | ((first | (refine gsel_split (fun q' => ?_) (fun q' => ?_)<;>(have h':=q')<;>(try simp only [za1,za2,Ba,Bb,za3,ne_eq,za4,za5,za6,Ia,Ib,Ic,Ie,Da,Bc,Bh,Be,za7,za8] at h')<;>try (exfalso; omega)) | (have q':=trivial; first | refine callX_shared (c1) rfl (by decide) ?_ | refine callY_shared (c1) rfl ?_ | refine hE _ _ ret_ne ?_ | refine hE _ _ exit_ne ?_))<;>(try simp (disch:=first | omega | decide +kernel) only [q',go_sem,Qa,Qb,Qc,Qd,Qe,↓reduceIte,reduceCtorEq,Qf,Qg,Qh])<;>clear q') | refine hN _ ?_ ?_ Wk.kk | with_reducible refine And.intro ?_ ?_ | with_reducible omega | exact ok_ints | exact cells_ints | exact no_mem | with_reducible exact plain_ints | (refine le_maxLen ?_; omega) | (refine za9 ⟨?_,?_⟩) | (simp only [go_sem,Qc,Qb,zb1,zb2,forall_eq]; done)))
 clear c1
 cases ok with
 | false =>
   simp only [Bool.false_and,Bool.false_eq_true,if_false] at c2 c3
   refine Ok.go ?_
   simp (disch:=first | omega | decide +kernel) only [Bool.false_and,beq_self_eq_true,go_sem,Qa,Qb,Qc,Qd,Qe,↓reduceIte,reduceCtorEq,Qf,Qg,Qh]
   (repeat' (first | ((first | (refine gsel_split (fun q' => ?_) (fun q' => ?_)<;>(have h':=q')<;>(try simp only [za1,za2,Ba,Bb,za3,ne_eq,za4,za5,za6,Ia,Ib,Ic,Ie,Da,Bc,Bh,Be,za7,za8] at h')<;>try (exfalso; omega)) | (have q':=trivial; first | refine callX_shared (c2) rfl (by decide) ?_ | refine callY_shared (c2) rfl ?_ | refine callX_shared (c3) rfl (by decide) ?_ | refine callY_shared (c3) rfl ?_ | refine hE _ _ ret_ne ?_ | refine hE _ _ exit_ne ?_))<;>(try simp (disch:=first | omega | decide +kernel) only [q',Bool.false_and,beq_self_eq_true,go_sem,Qa,Qb,Qc,Qd,Qe,↓reduceIte,reduceCtorEq,Qf,Qg,Qh])<;>clear q') | refine hN _ ?_ ?_ Wk.kk | with_reducible refine And.intro ?_ ?_ | with_reducible omega | exact ok_ints | exact cells_ints | exact no_mem | with_reducible exact plain_ints | (refine le_maxLen ?_; omega) | (refine za9 ⟨?_,?_⟩) | (simp only [go_sem,Qc,Qb,zb1,zb2,forall_eq]; done)))
   all_goals (first | omega | exact absurd trivial ‹¬True›)
 | true =>
   by_cases hr : r < 0
   . have hd : decide (r < 0)=true:=decide_eq_true hr
     simp only [hd,Bool.true_and,Bool.not_true,Bool.false_eq_true,if_false] at c2 c3
     refine Ok.go ?_
     simp (disch:=first | omega | decide +kernel) only [Bool.true_and,hd,beq_self_eq_true,go_sem,Qa,Qb,Qc,Qd,Qe,↓reduceIte,reduceCtorEq,Qf,Qg,Qh]
     (repeat' (first | ((first | (refine gsel_split (fun q' => ?_) (fun q' => ?_)<;>(have h':=q')<;>(try simp only [za1,za2,Ba,Bb,za3,ne_eq,za4,za5,za6,Ia,Ib,Ic,Ie,Da,Bc,Bh,Be,za7,za8] at h')<;>try (exfalso; omega)) | (have q':=trivial; first | refine callX_shared (c2) rfl (by decide) ?_ | refine callY_shared (c2) rfl ?_ | refine callX_shared (c3) rfl (by decide) ?_ | refine callY_shared (c3) rfl ?_ | refine hE _ _ ret_ne ?_ | refine hE _ _ exit_ne ?_))<;>(try simp (disch:=first | omega | decide +kernel) only [q',Bool.true_and,hd,beq_self_eq_true,go_sem,Qa,Qb,Qc,Qd,Qe,↓reduceIte,reduceCtorEq,Qf,Qg,Qh])<;>clear q') | refine hN _ ?_ ?_ Wk.kk | with_reducible refine And.intro ?_ ?_ | with_reducible omega | exact ok_ints | exact cells_ints | exact no_mem | with_reducible exact plain_ints | (refine le_maxLen ?_; omega) | (refine za9 ⟨?_,?_⟩) | (simp only [go_sem,Qc,Qb,zb1,zb2,forall_eq]; done)))
     all_goals (first | omega | exact absurd trivial ‹¬True› | exact absurd h' (by decide))
   . have hd : decide (r < 0)=false:=decide_eq_false hr
     simp only [hd,Bool.true_and,Bool.not_false,if_true] at c2 c3
     refine Ok.go ?_
     simp (disch:=first | omega | decide +kernel) only [Bool.true_and,hd,beq_self_eq_true,go_sem,Qa,Qb,Qc,Qd,Qe,↓reduceIte,reduceCtorEq,Qf,Qg,Qh]
     (repeat' (first | ((first | (refine gsel_split (fun q' => ?_) (fun q' => ?_)<;>(have h':=q')<;>(try simp only [za1,za2,Ba,Bb,za3,ne_eq,za4,za5,za6,Ia,Ib,Ic,Ie,Da,Bc,Bh,Be,za7,za8] at h')<;>try (exfalso; omega)) | (have q':=trivial; first | refine callX_shared (c2) rfl (by decide) ?_ | refine callY_shared (c2) rfl ?_ | refine callX_shared (c3) rfl (by decide) ?_ | refine callY_shared (c3) rfl ?_ | refine hE _ _ ret_ne ?_ | refine hE _ _ exit_ne ?_))<;>(try simp (disch:=first | omega | decide +kernel) only [q',Bool.true_and,hd,beq_self_eq_true,go_sem,Qa,Qb,Qc,Qd,Qe,↓reduceIte,reduceCtorEq,Qf,Qg,Qh])<;>clear q') | refine hN _ ?_ ?_ Wk.kk | with_reducible refine And.intro ?_ ?_ | with_reducible omega | exact ok_ints | exact cells_ints | exact no_mem | with_reducible exact plain_ints | (refine le_maxLen ?_; omega) | (refine za9 ⟨?_,?_⟩) | (simp only [go_sem,Qc,Qb,zb1,zb2,forall_eq]; done)))
     all_goals (first | omega | exact absurd trivial ‹¬True› | exact absurd h' (by decide))
end Abs.Y
