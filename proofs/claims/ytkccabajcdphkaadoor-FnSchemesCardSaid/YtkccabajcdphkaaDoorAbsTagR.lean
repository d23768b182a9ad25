/- What functions of this program compute, over plain data. No condition. -/
import Derived.Test.YtkccabajcdphkaaDoorFO8
import Derived.Test.YtkccabajcdphkaaDoorAbsBox
set_option linter.all false
open Nat renaming reduceEqDiff -> Qa, reduceLT -> Qb, reduceAdd -> Qc, reduceMul -> Qd, reduceSub -> Qe, reduceLeDiff -> Qf, reduceSubDiff -> Qg, reduceBEq -> Qh
open Bool renaming not_eq_true' -> Ba, not_eq_false' -> Bb, and_eq_true -> Bc, or_eq_true -> Bh, or_eq_false_iff -> Be
open Int renaming ofNat_lt -> Ia, ofNat_le -> Ib, not_lt -> Ic, not_le -> Ie
open Decidable renaming not_not -> Da
namespace Abs
open Go Go.Proofs
theorem Ctr.eat3 {P : Program} {f : FuncId} {x y r : D} {es : List D} {e : TypeId} {k : Nat} (h : Ctr P f [x,y,.slice es] true (.d r) []) : CtrM P f [.d x,.d y,.sl 0] [(0,.arr e k es)] [] true (.d r) []:=by
 refine ⟨h.1,fun S β φ w vs hl hr ho hd hG => ?_⟩
 have hb : ∀ g,φ 0 g->blocksOf φ [(0,AO.arr e k es)] g:=fun g hg => ⟨0,_,rfl,hg⟩
 refine (h.2 (fun g => S g∨φ 0 g) w vs (by simpa using hl) (fun i hi => ?_) (hG.sub (Nat.le_refl _) (fun _ _ h => h.elim) (fun _ _ _ h => .inl h) fun _ _ _ => rfl)).mono fun en w' ⟨v,he,hf,β',φ',h1,h2,h3,h4⟩ => ⟨v,he,⟨hf.os,hf.tape,hf.output,hf.le,hf.size,?_,?_⟩,β',φ',by simp,?_,by simp [lk],by simp [lk],by simp [lk]⟩
 . match i,hi with
   | 0, _ =>
     have:=hr 0 (by simp)
     simp only [List.getD_cons_zero] at this ⊢
     cases this with
     | d this => exact this.weaken fun g hg => .inl hg.1
   | 1, _ =>
     have:=hr 1 (by simp)
     simp only [List.getD_cons_zero,List.getD_cons_succ] at this ⊢
     cases this with
     | d this => exact this.weaken fun g hg => .inl hg.1
   | 2, _ =>
     have:=hr 2 (by simp)
     simp only [List.getD_cons_zero,List.getD_cons_succ] at this ⊢
     generalize vs.getD 2 Go.undef=y at *
     cases this
     exact rd_of_arr (ho 0 (.arr e k es) (by simp [lk])) (fun g hg _ => .inl hg.1) fun g hg => .inr hg
 . exact fun g hg _ => hf.block g hg fun h => h
 . exact hf.drawn
 . cases h1 with
   | d h1 =>
     refine .d (h1.weaken fun g hg => ⟨?_,by simp [lk]⟩)
     rcases hg.1 with h5 | ⟨_,h5 | h5⟩
     . exact .inl h5
     . exact .inr (.inr ⟨rfl,h5⟩)
     . exact .inr (.inl (hb g h5))
end Abs
namespace Abs.Y
open Go Go.Proofs Abs
set_option maxRecDepth 100000

theorem l24Is_ok (j : Nat) (hj : j < 10) (s : ByteArray) (hk : okS s=true) : Ctr Tryd.prog 119 [.int .i64 ((j + 1 : Nat) : Int),.str s] true (.d (.bool (isC j (fmS s)))) []:=by
 obtain ⟨hw,hsT,hs8⟩:=okS_spec hk
 have c1:=l24Schemes_ok
 have hz:=sch_sz j
 have c2:=l24Match_ok (sch j) (fmS s) (fun _ => none) (sch_wf j) (sch_abc j) hw (by omega) (by rw [← hsT]; omega) (by intro c z h; cases h)
 have hLn : By.L (fun _ => none)=[.str ⟨#[]⟩,.str ⟨#[]⟩,.str ⟨#[]⟩]:=rfl
 rw [hLn,← hsT] at c2
 rw [isC]
 have hg : el schemesD j=.str (sch j).T:=sch_el j hj
 have hgl : schemesD.length=10:=rfl
 have e1 : ((j + 1 : Nat) : Int) - 1=(j : Nat):=by omega
 generalize (mt (sch j) (fmS s) fun _ => none).2=fl at *
 generalize (mt (sch j) (fmS s) fun _ => none).1.L=L' at *
 generalize (sch j).T=t at *
 generalize hL : schemesD=L at *
 have c2:=Ctr.eat3 (e:=9) (k:=1) (Ctr.tupN (ys:=[_,_]) c2)
 refine Ctr.of (n:=19) (rs:=[.tmp 4]) Tryd.func119 rfl rfl Tryd.ntmps119 rfl rfl (by kernel_rfl) Tryd.checked.mixed ?_
 simp (disch:=first | omega | decide +kernel) only [e1,hg,hgl,Int.toNat_natCast,go_sem,Qa,Qb,Qc,Qd,Qe,↓reduceIte,reduceCtorEq,Qf,Qg,Qh]
 (repeat' (first | ((first | (refine gsel_split (fun q' => ?_) (fun q' => ?_)<;>(have h':=q')<;>(try simp only [za1,za2,Ba,Bb,za3,ne_eq,za4,za5,za6,Ia,Ib,Ic,Ie,Da,Bc,Bh,Be,za7,za8] at h')<;>try (exfalso; omega)) | (have q':=trivial; first | refine callX_shared (c1) rfl (by decide) ?_ | refine callY_shared (c1) rfl ?_ | refine callX_mut [14] [] [14] (c2) ⟨.inl rfl,.inl rfl,.inl rfl,trivial⟩ ⟨rfl,trivial⟩ rfl (by simp [dstB]) ?_ | refine hE _ _ ret_ne ?_ | refine hE _ _ exit_ne ?_))<;>(try simp (disch:=first | omega | decide +kernel) only [q',e1,hg,hgl,Int.toNat_natCast,go_sem,Qa,Qb,Qc,Qd,Qe,↓reduceIte,reduceCtorEq,Qf,Qg,Qh])<;>clear q') | refine hN _ ?_ ?_ Wk.kk | with_reducible refine And.intro ?_ ?_ | with_reducible omega | exact ok_ints | exact cells_ints | exact no_mem | with_reducible exact plain_ints | (refine le_maxLen ?_; omega) | (refine za9 ⟨?_,?_⟩) | (simp only [go_sem,Qc,Qb,zb1,zb2,forall_eq]; done)))
 all_goals (first | omega | assumption | rfl | exact ret_s1 [] rfl | exact absurd trivial ‹¬True›)
theorem l24Scheme_ok (k : Int) : Ctr Tryd.prog 110 [.int .i64 k] false (.d (.bool (decide (1<=k) && decide (k<=10)))) []:=by
 have c1:=l1In_ok k 1 10
 generalize (decide (1<=k) && decide (k<=10))=b at *
 refine Ctr.of (n:=5) (rs:=[.tmp 2]) Tryd.func110 rfl rfl Tryd.ntmps110 rfl rfl (by kernel_rfl) Tryd.checked.mixed ?_
 simp (disch:=first | omega | decide +kernel) only [go_sem,Qa,Qb,Qc,Qd,Qe,↓reduceIte,reduceCtorEq,Qf,Qg,Qh]
 (repeat' (first | ((first | (refine gsel_split (fun q' => ?_) (fun q' => ?_)<;>(have h':=q')<;>(try simp only [za1,za2,Ba,Bb,za3,ne_eq,za4,za5,za6,Ia,Ib,Ic,Ie,Da,Bc,Bh,Be,za7,za8] at h')<;>try (exfalso; omega)) | (have q':=trivial; first | refine callX_new (c1) rfl (by decide) ?_ | refine callY_new (c1) rfl ?_ | refine hE _ _ ret_ne ?_ | refine hE _ _ exit_ne ?_))<;>(try simp (disch:=first | omega | decide +kernel) only [q',go_sem,Qa,Qb,Qc,Qd,Qe,↓reduceIte,reduceCtorEq,Qf,Qg,Qh])<;>clear q') | refine hN _ ?_ ?_ Wk.kk | with_reducible refine And.intro ?_ ?_ | with_reducible omega | exact ok_ints | exact cells_ints | exact no_mem | with_reducible exact plain_ints | (refine le_maxLen ?_; omega) | (refine za9 ⟨?_,?_⟩) | (simp only [go_sem,Qc,Qb,zb1,zb2,forall_eq]; done)))
 all_goals (first | omega | assumption | rfl | exact absurd trivial ‹¬True›)
theorem SchemeOfS_ok (k : Int) : Ctr Tryd.prog 44 [.int .i64 k] true (.tup [.d (.str (schS k)),.d (.bool (decide (1<=k) && decide (k<=10)))]) []:=by
 have cw:=l24Scheme_ok k
 have c1:=l24Schemes_ok
 have hgl : schemesD.length=10:=rfl
 by_cases h : 1<=k∧k<=10
 . have hg : el schemesD (k - 1).toNat=.str (sch (k - 1).toNat).T:=sch_el (k - 1).toNat (by omega)
   rw [decide_eq_true h.1,decide_eq_true h.2] at cw ⊢
   rw [schS,if_pos h]
   generalize (sch (k - 1).toNat).T=t at *
   generalize hL : schemesD=L at *
   obtain ⟨h1,h2⟩:=h
   refine Ctr.of (n:=12) (rs:=[.tmp 2,.tmp 3]) Tryd.func44 rfl rfl Tryd.ntmps44 rfl rfl (by kernel_rfl) Tryd.checked.mixed ?_
   simp (disch:=first | omega | decide +kernel) only [hg,hgl,go_sem,Qa,Qb,Qc,Qd,Qe,↓reduceIte,reduceCtorEq,Qf,Qg,Qh]
   (repeat' (first | ((first | (refine gsel_split (fun q' => ?_) (fun q' => ?_)<;>(have h':=q')<;>(try simp only [za1,za2,Ba,Bb,za3,ne_eq,za4,za5,za6,Ia,Ib,Ic,Ie,Da,Bc,Bh,Be,za7,za8] at h')<;>try (exfalso; omega)) | (have q':=trivial; first | refine callX_new (cw) rfl (by decide) ?_ | refine callY_new (cw) rfl ?_ | refine callX_shared (c1) rfl (by decide) ?_ | refine callY_shared (c1) rfl ?_ | refine hE _ _ ret_ne ?_ | refine hE _ _ exit_ne ?_))<;>(try simp (disch:=first | omega | decide +kernel) only [q',hg,hgl,go_sem,Qa,Qb,Qc,Qd,Qe,↓reduceIte,reduceCtorEq,Qf,Qg,Qh])<;>clear q') | refine hN _ ?_ ?_ Wk.kk | with_reducible refine And.intro ?_ ?_ | with_reducible omega | exact ok_ints | exact cells_ints | exact no_mem | with_reducible exact plain_ints | (refine le_maxLen ?_; omega) | (refine za9 ⟨?_,?_⟩) | (simp only [go_sem,Qc,Qb,zb1,zb2,forall_eq]; done)))
   all_goals (first | omega | assumption | rfl | exact absurd trivial ‹¬True› | exact ret_s2 [] rfl rfl)
 . have hw : (decide (1<=k) && decide (k<=10))=false:=by
    rw [Bool.eq_false_iff]; intro h'
    simp only [Bc,decide_eq_true_eq] at h'
    exact h h'
   rw [schS,if_neg h]
   rw [hw] at cw ⊢
   refine Ctr.of (n:=12) (rs:=[.tmp 2,.tmp 3]) Tryd.func44 rfl rfl Tryd.ntmps44 rfl rfl (by kernel_rfl) Tryd.checked.mixed ?_
   simp (disch:=first | omega | decide +kernel) only [go_sem,Qa,Qb,Qc,Qd,Qe,↓reduceIte,reduceCtorEq,Qf,Qg,Qh]
   (repeat' (first | ((first | (refine gsel_split (fun q' => ?_) (fun q' => ?_)<;>(have h':=q')<;>(try simp only [za1,za2,Ba,Bb,za3,ne_eq,za4,za5,za6,Ia,Ib,Ic,Ie,Da,Bc,Bh,Be,za7,za8] at h')<;>try (exfalso; omega)) | (have q':=trivial; first | refine callX_new (cw) rfl (by decide) ?_ | refine callY_new (cw) rfl ?_ | refine hE _ _ ret_ne ?_ | refine hE _ _ exit_ne ?_))<;>(try simp (disch:=first | omega | decide +kernel) only [q',go_sem,Qa,Qb,Qc,Qd,Qe,↓reduceIte,reduceCtorEq,Qf,Qg,Qh])<;>clear q') | refine hN _ ?_ ?_ Wk.kk | with_reducible refine And.intro ?_ ?_ | with_reducible omega | exact ok_ints | exact cells_ints | exact no_mem | with_reducible exact plain_ints | (refine le_maxLen ?_; omega) | (refine za9 ⟨?_,?_⟩) | (simp only [go_sem,Qc,Qb,zb1,zb2,forall_eq]; done)))
   all_goals (first | omega | assumption | rfl | exact absurd trivial ‹¬True› | exact ret_s2 [] rfl rfl)
theorem sub_tl (a b c : ByteArray) (A B C : Fm) (ha : BL a=A.tl) (hb : BL b=B.tl) (hc : BL c=C.tl) : ∀ x : Fm,x.wf=true->x.abc=true->x.tl.flatMap (subL (BL a) (BL b) (BL c))=(x.sub (f3 A B C)).tl
 | .lf d, hw, hx => by
   rw [Fm.sub]
   split
   . rename_i hL
     rcases abc_let hx hL with rfl | rfl | rfl
     . simpa [Fm.tl,subL,f3] using ha
     . simpa [Fm.tl,subL,f3] using hb
     . simpa [Fm.tl,subL,f3] using hc
   . rename_i hL
     rcases lf_let hw (by simpa using hL) with rfl | rfl<;>rfl
 | .ng x, hw, hx => by
   rw [Fm.sub,Fm.tl,Fm.tl,List.flatMap_cons,sub_tl a b c A B C ha hb hc x hw hx]; rfl
 | .jn o x y, hw, hx => by
   have hw' : (isOp o && x.wf && y.wf)=true:=hw
   have hx' : (x.abc && y.abc)=true:=hx
   simp only [Bc] at hw' hx'
   have ho : subL (BL a) (BL b) (BL c) o=[o]:=by
    rcases of_decide_eq_true hw'.1.1 with e | e | e<;>rw [e]<;>rfl
   rw [Fm.sub,Fm.tl,Fm.tl,List.flatMap_cons,List.flatMap_append,List.flatMap_cons,List.flatMap_append,sub_tl a b c A B C ha hb hc x hw'.1.2 hx'.1,sub_tl a b c A B C ha hb hc y hw'.2 hx'.2,ho]
   rfl
theorem caseT_F {j : Nat} {a b c : ByteArray} (ha : okS a=true) (hb : okS b=true) (hc : okS c=true) : caseT j a b c=((sch j).sub (f3 (fmS a) (fmS b) (fmS c))).T:=by
 apply ext_BL
 have h:=fun {s} (h : okS s=true) => show BL s=(fmS s).tl by
  have:=(okS_spec h).2.1
  exact (congrArg BL this).trans (BL_T _)
 exact sub_tl a b c _ _ _ (h ha) (h hb) (h hc) (sch j) (sch_wf j) (sch_abc j)
set_option maxHeartbeats 8000000 in
theorem CaseOfS_ok (k : Int) (a b c : ByteArray) (ha : a.size<=1000) (hb : b.size<=1000) (hc : c.size<=1000) :
 Ctr Tryd.prog 38 [.int .i64 k,.str a,.str b,.str c] true (.tup [.d (.str (caseS k a b c)),.d (.bool (caseG k a b c))]) []:=by
 have cw:=l24Scheme_ok k
 have c1:=l22Good_ok a (by omega)
 have c2:=l22Good_ok b (by omega)
 have c3:=l22Good_ok c (by omega)
 by_cases hg : (1<=k∧k<=10)∧okS a=true∧okS b=true∧okS c=true
 . obtain ⟨⟨hk1,hk2⟩,oa,ob,oc⟩:=hg
   have c4:=l24Case_ok (k - 1).toNat (by omega) a b c ha hb hc
   rw [caseT_F oa ob oc,show (((k - 1).toNat + 1 : Nat) : Int)=k by omega] at c4
   have hS : caseS k a b c=if (caseF k a b c).T.size<=80 then (caseF k a b c).T else ⟨#[]⟩:=by
    rw [caseS,caseG,oa,ob,oc,decide_eq_true hk1,decide_eq_true hk2]
    simp
   have hG : caseG k a b c=decide ((caseF k a b c).T.size<=80):=by
    rw [caseG,oa,ob,oc,decide_eq_true hk1,decide_eq_true hk2]; rfl
   rw [hS,hG,caseF]
   rw [oa] at c1
   rw [ob] at c2
   rw [oc] at c3
   rw [decide_eq_true hk1,decide_eq_true hk2] at cw
   generalize ((sch (k - 1).toNat).sub (f3 (fmS a) (fmS b) (fmS c))).T=z at *
   by_cases hz : z.size<=80
   . rw [if_pos hz,decide_eq_true hz]
     refine Ctr.of (n:=38) (rs:=[.tmp 8,.tmp 9]) Tryd.func38 rfl rfl Tryd.ntmps38 rfl rfl (by kernel_rfl) Tryd.checked.mixed ?_
     simp (disch:=first | omega | decide +kernel) only [Bool.and_self,Bool.not_true,go_sem,Qa,Qb,Qc,Qd,Qe,↓reduceIte,reduceCtorEq,Qf,Qg,Qh]
     (repeat' (first | ((first | (refine gsel_split (fun q' => ?_) (fun q' => ?_)<;>(have h':=q')<;>(try simp only [za1,za2,Ba,Bb,za3,ne_eq,za4,za5,za6,Ia,Ib,Ic,Ie,Da,Bc,Bh,Be,za7,za8] at h')<;>try (exfalso; omega)) | (have q':=trivial; first | refine callX_new (c1) rfl (by decide) ?_ | refine callY_new (c1) rfl ?_ | refine callX_new (c2) rfl (by decide) ?_ | refine callY_new (c2) rfl ?_ | refine callX_new (c3) rfl (by decide) ?_ | refine callY_new (c3) rfl ?_ | refine callX_new (cw) rfl (by decide) ?_ | refine callY_new (cw) rfl ?_ | refine callX_new (c4) rfl (by decide) ?_ | refine callY_new (c4) rfl ?_ | refine hE _ _ ret_ne ?_ | refine hE _ _ exit_ne ?_))<;>(try simp (disch:=first | omega | decide +kernel) only [q',Bool.and_self,Bool.not_true,go_sem,Qa,Qb,Qc,Qd,Qe,↓reduceIte,reduceCtorEq,Qf,Qg,Qh])<;>clear q') | refine hN _ ?_ ?_ Wk.kk | with_reducible refine And.intro ?_ ?_ | with_reducible omega | exact ok_ints | exact cells_ints | exact no_mem | with_reducible exact plain_ints | (refine le_maxLen ?_; omega) | (refine za9 ⟨?_,?_⟩) | (simp only [go_sem,Qc,Qb,zb1,zb2,forall_eq]; done)))
     all_goals (first | omega | assumption | rfl | exact absurd trivial ‹¬True› | exact ret_s2 [] rfl rfl)
   . rw [if_neg hz,decide_eq_false hz]
     refine Ctr.of (n:=38) (rs:=[.tmp 8,.tmp 9]) Tryd.func38 rfl rfl Tryd.ntmps38 rfl rfl (by kernel_rfl) Tryd.checked.mixed ?_
     simp (disch:=first | omega | decide +kernel) only [Bool.and_self,Bool.not_true,go_sem,Qa,Qb,Qc,Qd,Qe,↓reduceIte,reduceCtorEq,Qf,Qg,Qh]
     (repeat' (first | ((first | (refine gsel_split (fun q' => ?_) (fun q' => ?_)<;>(have h':=q')<;>(try simp only [za1,za2,Ba,Bb,za3,ne_eq,za4,za5,za6,Ia,Ib,Ic,Ie,Da,Bc,Bh,Be,za7,za8] at h')<;>try (exfalso; omega)) | (have q':=trivial; first | refine callX_new (c1) rfl (by decide) ?_ | refine callY_new (c1) rfl ?_ | refine callX_new (c2) rfl (by decide) ?_ | refine callY_new (c2) rfl ?_ | refine callX_new (c3) rfl (by decide) ?_ | refine callY_new (c3) rfl ?_ | refine callX_new (cw) rfl (by decide) ?_ | refine callY_new (cw) rfl ?_ | refine callX_new (c4) rfl (by decide) ?_ | refine callY_new (c4) rfl ?_ | refine hE _ _ ret_ne ?_ | refine hE _ _ exit_ne ?_))<;>(try simp (disch:=first | omega | decide +kernel) only [q',Bool.and_self,Bool.not_true,go_sem,Qa,Qb,Qc,Qd,Qe,↓reduceIte,reduceCtorEq,Qf,Qg,Qh])<;>clear q') | refine hN _ ?_ ?_ Wk.kk | with_reducible refine And.intro ?_ ?_ | with_reducible omega | exact ok_ints | exact cells_ints | exact no_mem | with_reducible exact plain_ints | (refine le_maxLen ?_; omega) | (refine za9 ⟨?_,?_⟩) | (simp only [go_sem,Qc,Qb,zb1,zb2,forall_eq]; done)))
     all_goals (first | omega | assumption | rfl | exact absurd trivial ‹¬True› | exact ret_s2 [] rfl rfl)
 . have hw : (decide (1<=k) && decide (k<=10) && okS a && okS b && okS c)=false:=by
    rw [Bool.eq_false_iff]; intro h
    simp only [Bc,decide_eq_true_eq] at h
    exact hg ⟨h.1.1.1,h.1.1.2,h.1.2,h.2⟩
   have hG : caseG k a b c=false:=by rw [caseG,hw]; rfl
   have hS : caseS k a b c=⟨#[]⟩:=by rw [caseS,hG]; rfl
   rw [hS,hG]
   generalize (decide (1<=k) && decide (k<=10))=wi at *
   generalize okS a=oa at *
   generalize okS b=ob at *
   generalize okS c=oc at *
   clear hg hG hS
   cases wi<;>cases oa<;>cases ob<;>cases oc<;>first
   | exact absurd hw (by decide)
   | (refine Ctr.of (n := 38) (rs := [.tmp 8, .tmp 9]) Tryd.func38 rfl rfl Tryd.ntmps38 rfl rfl (by kernel_rfl) Tryd.checked.mixed ?_
      simp (disch:=first | omega | decide +kernel) only [Bool.not_true,Bool.not_false,go_sem,Qa,Qb,Qc,Qd,Qe,↓reduceIte,reduceCtorEq,Qf,Qg,Qh]
      (repeat' (first | ((first | (refine gsel_split (fun q' => ?_) (fun q' => ?_)<;>(have h':=q')<;>(try simp only [za1,za2,Ba,Bb,za3,ne_eq,za4,za5,za6,Ia,Ib,Ic,Ie,Da,Bc,Bh,Be,za7,za8] at h')<;>try (exfalso; omega)) | (have q':=trivial; first | refine callX_new (c1) rfl (by decide) ?_ | refine callY_new (c1) rfl ?_ | refine callX_new (c2) rfl (by decide) ?_ | refine callY_new (c2) rfl ?_ | refine callX_new (c3) rfl (by decide) ?_ | refine callY_new (c3) rfl ?_ | refine callX_new (cw) rfl (by decide) ?_ | refine callY_new (cw) rfl ?_ | refine hE _ _ ret_ne ?_ | refine hE _ _ exit_ne ?_))<;>(try simp (disch:=first | omega | decide +kernel) only [q',Bool.not_true,Bool.not_false,go_sem,Qa,Qb,Qc,Qd,Qe,↓reduceIte,reduceCtorEq,Qf,Qg,Qh])<;>clear q') | refine hN _ ?_ ?_ Wk.kk | with_reducible refine And.intro ?_ ?_ | with_reducible omega | exact ok_ints | exact cells_ints | exact no_mem | with_reducible exact plain_ints | (refine le_maxLen ?_; omega) | (refine za9 ⟨?_,?_⟩) | (simp only [go_sem,Qc,Qb,zb1,zb2,forall_eq]; done)))
      all_goals (first | omega | assumption | rfl | exact absurd trivial ‹¬True› | exact ret_s2 [] rfl rfl))
end Abs.Y

namespace Abs
open Go Go.RowKit

theorem Ok.go {P : Program} {N : Nat} {c : Code} {Q : Exit->St->Prop} {st : St} (h : Awp P N c Q st) : Ok P N c Q st:=by
 rw [Awp_eq] at h; exact ok_of_awp _ _ _ h
theorem Ok.seq {P : Program} {N : Nat} {x y : Code} {Q : Exit->St->Prop} {st : St} (h : Ok P N x (seqQ (fun st => Ok P N y Q st) Q) st) : Ok P N (.seq x y) Q st:=fun h1 h2 Z B M w0 a w hs => by
 simp only [codeOK,Bc] at h1
 refine sw_mono x (h h1.1 h2 Z B M w0 a w hs) fun e a' w' hl => ?_
 cases e with
 | normal =>
   simp only [lift] at hl
   obtain ⟨st1,hs1,hy⟩:=hl
   exact hy h1.2 h2 Z B M w0 a' w' hs1
 | exit id => exact hl
 | ret => exact hl
 | _ => exact hl
def tagC (u : Value) : D->D
 | .slice (x :: r) => .tag u (x :: r)
 | c => c
def D.unt : D->D
 | .tag _ es => .slice es
 | c => c
def mapCells (f : Nat->D->D) (k : Nat) (es : List D) : List D:=es.zipIdx.map fun p => match p.1 with
 | .agg cs => .agg (cs.zipIdx.map fun q => f (p.2 * k + q.2) q.1)
 | c => f (p.2 * k) c
def tagE (us : Nat->Value) (k : Nat) (es : List D) : List D:=mapCells (fun i c => tagC (us i) c) k es
def resOf (us : Nat->Value) (es : List D) : List (Value × List D):=(flat es).zipIdx.map fun p => match p.1 with
 | .slice (x :: r) => (us p.2,x :: r)
 | _ => (.slice none 0 0,[])
abbrev Tg:=Value × List Int
def D.tg (p : Tg) : D:=tagC p.1 (.slice (p.2.map (.int .i64)))
def resP (p : Tg) : Value × List D:=match p.2 with
 | [] => (.slice none 0 0,[])
 | x :: r => (p.1,(x :: r).map (.int .i64))
def tgs (us : Nat->Value) (cs : List (List Int)) : List Tg:=cs.zipIdx.map fun p => (us p.2,p.1)
mutual
def D.strip : D->D
 | .tag _ es => .slice es
 | .agg cs => .agg (D.stripL cs)
 | x => x
def D.stripL : List D->List D
 | [] => []
 | x :: r => x.strip :: D.stripL r
end
end Abs

namespace Abs
open Go Go.RowKit

theorem getD_app {α : Type} (z : α) (a b : List α) (i : Nat) : (a++b).getD i z=if i < a.length then a.getD i z else b.getD (i - a.length) z:=by
 simp only [List.getD_eq_getElem?_getD,List.getElem?_append]
 split<;>rfl
end Abs
