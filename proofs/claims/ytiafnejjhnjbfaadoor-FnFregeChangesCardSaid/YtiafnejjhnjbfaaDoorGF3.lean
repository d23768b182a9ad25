/- What functions of this program compute, over plain data. No condition. -/
import Derived.Test.YtiafnejjhnjbfaaDoorFS5
import Derived.Test.YtiafnejjhnjbfaaDoorFO8
import Derived.Test.YtiafnejjhnjbfaaDoorGF2
set_option linter.all false
open Nat renaming reduceEqDiff -> Qa, reduceLT -> Qb, reduceAdd -> Qc, reduceMul -> Qd, reduceSub -> Qe, reduceLeDiff -> Qf, reduceSubDiff -> Qg, reduceBEq -> Qh
open Bool renaming not_eq_true' -> Ba, not_eq_false' -> Bb, and_eq_true -> Bc, or_eq_true -> Bh, or_eq_false_iff -> Be
open Int renaming ofNat_lt -> Ia, ofNat_le -> Ib, not_lt -> Ic, not_le -> Ie
open Decidable renaming not_not -> Da
namespace Abs
open Go Go.Proofs
theorem Ctr.eat3 {P : Program} {f : FuncId} {x y r : D} {es : List D} {e : TypeId} {k : Nat} (h : Ctr P f [x,y,.slice es] true (.d r) []) : CtrM P f [.d x,.d y,.sl 0] [(0,.arr e k es)] [] true (.d r) []:=by
 refine ⟨h.1,fun S β φ w vs hl hr ho hd hG => ?_⟩
 have hb : ∀ g,φ 0 g->blocksOf φ [(0,AO.arr e k es)] g:=fun g hg => ⟨0,_,rfl,hg⟩
 refine (h.2 (fun g => S g∨φ 0 g) w vs (by simpa using hl) (fun i hi => ?_) (hG.sub (Nat.le_refl _) (fun _ _ h => h.elim) (fun _ _ _ h => .inl h) fun _ _ _ => rfl)).mono fun en w' ⟨v,he,hf,β',φ',h1,h2,h3,h4⟩ => ⟨v,he,⟨hf.os,hf.tape,hf.output,hf.le,hf.size,?_,?_⟩,β',φ',by simp,?_,by simp [lk],by simp [lk],by simp [lk]⟩
 . match i,hi with
   | 0, _ =>
     have:=hr 0 (by simp)
     simp only [List.getD_cons_zero] at this ⊢
     cases this with
     | d this => exact this.weaken fun g hg => .inl hg.1
   | 1, _ =>
     have:=hr 1 (by simp)
     simp only [List.getD_cons_zero,List.getD_cons_succ] at this ⊢
     cases this with
     | d this => exact this.weaken fun g hg => .inl hg.1
   | 2, _ =>
     have:=hr 2 (by simp)
     simp only [List.getD_cons_zero,List.getD_cons_succ] at this ⊢
     generalize vs.getD 2 Go.undef=y at *
     cases this
     exact rd_of_arr (ho 0 (.arr e k es) (by simp [lk])) (fun g hg _ => .inl hg.1) fun g hg => .inr hg
 . exact fun g hg _ => hf.block g hg fun h => h
 . exact hf.drawn
 . cases h1 with
   | d h1 =>
     refine .d (h1.weaken fun g hg => ⟨?_,by simp [lk]⟩)
     rcases hg.1 with h5 | ⟨_,h5 | h5⟩
     . exact .inl h5
     . exact .inr (.inr ⟨rfl,h5⟩)
     . exact .inr (.inl (hb g h5))
end Abs
namespace Abs.Y
open Go Go.Proofs Abs
set_option maxRecDepth 100000

theorem l24Is_ok (j : Nat) (hj : j < 10) (s : ByteArray) (hk : okS s=true) : Ctr Tryd.prog 92 [.int .i64 ((j + 1 : Nat) : Int),.str s] true (.d (.bool (isC j (fmS s)))) []:=by
 obtain ⟨hw,hsT,hs8⟩:=okS_spec hk
 have c1:=l24Schemes_ok
 have hz:=sch_sz j
 have c2:=l24Match_ok (sch j) (fmS s) (fun _ => none) (sch_wf j) (sch_abc j) hw (by omega) (by rw [← hsT]; omega) (by intro c z h; cases h)
 have hLn : By.L (fun _ => none)=[.str ⟨#[]⟩,.str ⟨#[]⟩,.str ⟨#[]⟩]:=rfl
 rw [hLn,← hsT] at c2
 rw [isC]
 have hg : el schemesD j=.str (sch j).T:=sch_el j hj
 have hgl : schemesD.length=10:=rfl
 have e1 : ((j + 1 : Nat) : Int) - 1=(j : Nat):=by omega
 generalize (mt (sch j) (fmS s) fun _ => none).2=fl at *
 generalize (mt (sch j) (fmS s) fun _ => none).1.L=L' at *
 generalize (sch j).T=t at *
 generalize hL : schemesD=L at *
 have c2:=Ctr.eat3 (e:=9) (k:=1) (Ctr.tupN (ys:=[_,_]) c2)
 refine Ctr.of (n:=19) (rs:=[.tmp 4]) Tryd.func92 rfl rfl Tryd.ntmps92 rfl rfl (by kernel_rfl) Tryd.checked.mixed ?_
 simp (disch:=first | omega | decide +kernel) only [e1,hg,hgl,Int.toNat_natCast,go_sem,Qa,Qb,Qc,Qd,Qe,↓reduceIte,reduceCtorEq,Qf,Qg,Qh]
 (repeat' (first | ((first | (refine gsel_split (fun q' => ?_) (fun q' => ?_)<;>(have h':=q')<;>(try simp only [za1,za2,Ba,Bb,za3,ne_eq,za4,za5,za6,Ia,Ib,Ic,Ie,Da,Bc,Bh,Be,za7,za8] at h')<;>try (exfalso; omega)) | (have q':=trivial; first | refine callX_shared (c1) rfl (by decide) ?_ | refine callY_shared (c1) rfl ?_ | refine callX_mut [14] [] [14] (c2) ⟨.inl rfl,.inl rfl,.inl rfl,trivial⟩ ⟨rfl,trivial⟩ rfl (by simp [dstB]) ?_ | refine hE _ _ ret_ne ?_ | refine hE _ _ exit_ne ?_))<;>(try simp (disch:=first | omega | decide +kernel) only [q',e1,hg,hgl,Int.toNat_natCast,go_sem,Qa,Qb,Qc,Qd,Qe,↓reduceIte,reduceCtorEq,Qf,Qg,Qh])<;>clear q') | refine hN _ ?_ ?_ Wk.kk | with_reducible refine And.intro ?_ ?_ | with_reducible omega | exact ok_ints | exact cells_ints | exact no_mem | with_reducible exact plain_ints | (refine le_maxLen ?_; omega) | (refine za9 ⟨?_,?_⟩) | (simp only [go_sem,Qc,Qb,zb1,zb2,forall_eq]; done)))
 all_goals (first | omega | assumption | rfl | exact ret_s1 [] rfl | exact absurd trivial ‹¬True›)
theorem l24Scheme_ok (k : Int) : Ctr Tryd.prog 91 [.int .i64 k] false (.d (.bool (decide (1<=k) && decide (k<=10)))) []:=by
 have c1:=l1In_ok k 1 10
 generalize (decide (1<=k) && decide (k<=10))=b at *
 refine Ctr.of (n:=5) (rs:=[.tmp 2]) Tryd.func91 rfl rfl Tryd.ntmps91 rfl rfl (by kernel_rfl) Tryd.checked.mixed ?_
 simp (disch:=first | omega | decide +kernel) only [go_sem,Qa,Qb,Qc,Qd,Qe,↓reduceIte,reduceCtorEq,Qf,Qg,Qh]
 (repeat' (first | ((first | (refine gsel_split (fun q' => ?_) (fun q' => ?_)<;>(have h':=q')<;>(try simp only [za1,za2,Ba,Bb,za3,ne_eq,za4,za5,za6,Ia,Ib,Ic,Ie,Da,Bc,Bh,Be,za7,za8] at h')<;>try (exfalso; omega)) | (have q':=trivial; first | refine callX_new (c1) rfl (by decide) ?_ | refine callY_new (c1) rfl ?_ | refine hE _ _ ret_ne ?_ | refine hE _ _ exit_ne ?_))<;>(try simp (disch:=first | omega | decide +kernel) only [q',go_sem,Qa,Qb,Qc,Qd,Qe,↓reduceIte,reduceCtorEq,Qf,Qg,Qh])<;>clear q') | refine hN _ ?_ ?_ Wk.kk | with_reducible refine And.intro ?_ ?_ | with_reducible omega | exact ok_ints | exact cells_ints | exact no_mem | with_reducible exact plain_ints | (refine le_maxLen ?_; omega) | (refine za9 ⟨?_,?_⟩) | (simp only [go_sem,Qc,Qb,zb1,zb2,forall_eq]; done)))
 all_goals (first | omega | assumption | rfl | exact absurd trivial ‹¬True›)
theorem sub_tl (a b c : ByteArray) (A B C : Fm) (ha : BL a=A.tl) (hb : BL b=B.tl) (hc : BL c=C.tl) : ∀ x : Fm,x.wf=true->x.abc=true->x.tl.flatMap (subL (BL a) (BL b) (BL c))=(x.sub (f3 A B C)).tl
 | .lf d, hw, hx => by
   rw [Fm.sub]
   split
   . rename_i hL
     rcases abc_let hx hL with rfl | rfl | rfl
     . simpa [Fm.tl,subL,f3] using ha
     . simpa [Fm.tl,subL,f3] using hb
     . simpa [Fm.tl,subL,f3] using hc
   . rename_i hL
     rcases lf_let hw (by simpa using hL) with rfl | rfl<;>rfl
 | .ng x, hw, hx => by
   rw [Fm.sub,Fm.tl,Fm.tl,List.flatMap_cons,sub_tl a b c A B C ha hb hc x hw hx]; rfl
 | .jn o x y, hw, hx => by
   have hw' : (isOp o && x.wf && y.wf)=true:=hw
   have hx' : (x.abc && y.abc)=true:=hx
   simp only [Bc] at hw' hx'
   have ho : subL (BL a) (BL b) (BL c) o=[o]:=by
    rcases of_decide_eq_true hw'.1.1 with e | e | e<;>rw [e]<;>rfl
   rw [Fm.sub,Fm.tl,Fm.tl,List.flatMap_cons,List.flatMap_append,List.flatMap_cons,List.flatMap_append,sub_tl a b c A B C ha hb hc x hw'.1.2 hx'.1,sub_tl a b c A B C ha hb hc y hw'.2 hx'.2,ho]
   rfl
theorem caseT_F {j : Nat} {a b c : ByteArray} (ha : okS a=true) (hb : okS b=true) (hc : okS c=true) : caseT j a b c=((sch j).sub (f3 (fmS a) (fmS b) (fmS c))).T:=by
 apply ext_BL
 have h:=fun {s} (h : okS s=true) => show BL s=(fmS s).tl by
  have:=(okS_spec h).2.1
  exact (congrArg BL this).trans (BL_T _)
 exact sub_tl a b c _ _ _ (h ha) (h hb) (h hc) (sch j) (sch_wf j) (sch_abc j)
end Abs.Y

namespace Abs.Y
open Go Go.Proofs Abs
set_option maxRecDepth 100000

theorem l24Implies_ok (x y : ByteArray) (hx : x.size<=100000) (hy : y.size<=100000) : Ctr Tryd.prog 94 [.str x,.str y] false (.d (.str (impS x y))) []:=by
 have y1 : (ByteArray.mk #[40]).size=1:=rfl
 have y2 : (ByteArray.mk #[62]).size=1:=rfl
 have y3 : (ByteArray.mk #[41]).size=1:=rfl
 rw [impS]
 refine Ctr.of (n:=11) (rs:=[.tmp 4]) Tryd.func94 rfl rfl Tryd.ntmps94 rfl rfl (by kernel_rfl) Tryd.checked.mixed ?_
 simp (disch:=first | omega | decide +kernel) only [go_sem,Qa,Qb,Qc,Qd,Qe,↓reduceIte,reduceCtorEq,Qf,Qg,Qh]
 (repeat' (first | ((first | (refine gsel_split (fun q' => ?_) (fun q' => ?_)<;>(have h':=q')<;>(try simp only [za1,za2,Ba,Bb,za3,ne_eq,za4,za5,za6,Ia,Ib,Ic,Ie,Da,Bc,Bh,Be,za7,za8] at h')<;>try (exfalso; omega)) | (have q':=trivial; first | refine hE _ _ ret_ne ?_ | refine hE _ _ exit_ne ?_))<;>(try simp (disch:=first | omega | decide +kernel) only [q',y1,y2,y3,ByteArray.size_append,go_sem,Qa,Qb,Qc,Qd,Qe,↓reduceIte,reduceCtorEq,Qf,Qg,Qh])<;>clear q') | refine hN _ ?_ ?_ Wk.kk | with_reducible refine And.intro ?_ ?_ | with_reducible omega | exact ok_ints | exact cells_ints | exact no_mem | with_reducible exact plain_ints | (refine le_maxLen ?_; omega) | (refine za9 ⟨?_,?_⟩) | (simp only [go_sem,Qc,Qb,zb1,zb2,forall_eq]; done)))
 all_goals (first | omega | rfl | exact absurd trivial ‹¬True›)
set_option maxHeartbeats 16000000 in
theorem l24Correct_ok (gs : List ByteArray) (ss : List Fs) (k : Nat) (hk : k < ss.length) (z : SzF gs ss) :
 Ctr Tryd.prog 81 [.slice (gs.map .str),.slice (ss.map fsD),.int .i64 k] false (.d (.bool (corB false gs ss k (ss.getD k Fs.z)))) []:=by
 have hel:=el_fs (xs:=ss) hk
 have hgl:=z.gl
 have hsl:=z.sl
 have hz:=z.sz k
 have hfs:=fun (i : Nat) (h : i < ss.length) => el_fs (xs:=ss) h
 have hgs:=fun (i : Nat) (h : i < gs.length) => el_gs (xs:=gs) h
 have hzs:=z.sz
 generalize hs : ss.getD k Fs.z=s at *
 obtain ⟨f,r,a,b⟩:=s
 dsimp only at hel hz
 have c1:=l22Good_ok f (by omega)
 have cw1:=l24Scheme_ok r
 cases hok : okS f with
 | false =>
   rw [hok] at c1
   have hres : corB false gs ss k ⟨f,r,a,b⟩=false:=by rw [corB,hok]; rfl
   rw [hres]
   refine Ctr.of (n:=94) (rs:=[.tmp 6]) Tryd.func81 rfl rfl Tryd.ntmps81 rfl rfl (by kernel_rfl) Tryd.checked.mixed ?_
   simp (disch:=first | omega | decide +kernel) only [hel,go_sem,Qa,Qb,Qc,Qd,Qe,↓reduceIte,reduceCtorEq,Qf,Qg,Qh]
   (repeat' (first | ((first | (refine gsel_split (fun q' => ?_) (fun q' => ?_)<;>(have h':=q')<;>(try simp only [za1,za2,Ba,Bb,za3,ne_eq,za4,za5,za6,Ia,Ib,Ic,Ie,Da,Bc,Bh,Be,za7,za8] at h')<;>try (exfalso; omega)) | (have q':=trivial; first | refine callX_new (c1) rfl (by decide) ?_ | refine callY_new (c1) rfl ?_ | refine hE _ _ ret_ne ?_ | refine hE _ _ exit_ne ?_))<;>(try simp (disch:=first | omega | decide +kernel) only [q',hel,go_sem,Qa,Qb,Qc,Qd,Qe,↓reduceIte,reduceCtorEq,Qf,Qg,Qh])<;>clear q') | refine hN _ ?_ ?_ Wk.kk | with_reducible refine And.intro ?_ ?_ | with_reducible omega | exact ok_ints | exact cells_ints | exact no_mem | with_reducible exact plain_ints | (refine le_maxLen ?_; omega) | (refine za9 ⟨?_,?_⟩) | (simp only [go_sem,Qc,Qb,zb1,zb2,forall_eq]; done)))
   all_goals (first | omega | assumption | rfl | exact absurd trivial ‹¬True›)
 | true =>
   rw [hok] at c1
   by_cases q1 : 1<=r∧r<=10
   . obtain ⟨j,hj,hj10⟩ : ∃ j : Nat,r=((j + 1 : Nat) : Int)∧j < 10:=⟨(r - 1).toNat,by omega,by omega⟩
     have c2:=l24Is_ok j hj10 f hok
     rw [← hj] at c2
     rw [decide_eq_true q1.1,decide_eq_true q1.2] at cw1
     have hres : corB false gs ss k ⟨f,r,a,b⟩=(decide (a=0) && decide (b=0) && isC j (fmS f)):=by
      rw [corB,hok,Bool.true_and]
      dsimp only
      rw [if_pos q1,show (r - 1).toNat=j by omega]
     rw [hres]
     clear hres
     generalize isC j (fmS f)=ic at *
     by_cases ha : a=0<;>by_cases hb : b=0
     all_goals
      refine Ctr.of (n:=94) (rs:=[.tmp 6]) Tryd.func81 rfl rfl Tryd.ntmps81 rfl rfl (by kernel_rfl) Tryd.checked.mixed ?_
      simp (disch:=first | omega | decide +kernel) only [hel,Bool.and_self,ha,hb,decide_true,decide_false,Bool.true_and,Bool.false_and,Bool.and_false,go_sem,Qa,Qb,Qc,Qd,Qe,↓reduceIte,reduceCtorEq,Qf,Qg,Qh]
      (repeat' (first | ((first | (refine gsel_split (fun q' => ?_) (fun q' => ?_)<;>(have h':=q')<;>(try simp only [za1,za2,Ba,Bb,za3,ne_eq,za4,za5,za6,Ia,Ib,Ic,Ie,Da,Bc,Bh,Be,za7,za8] at h')<;>try (exfalso; omega)) | (have q':=trivial; first | refine callX_new (c1) rfl (by decide) ?_ | refine callY_new (c1) rfl ?_ | refine callX_new (cw1) rfl (by decide) ?_ | refine callY_new (cw1) rfl ?_ | refine callX_shared (c2) rfl (by decide) ?_ | refine callY_shared (c2) rfl ?_ | refine hE _ _ ret_ne ?_ | refine hE _ _ exit_ne ?_))<;>(try simp (disch:=first | omega | decide +kernel) only [q',hel,Bool.and_self,ha,hb,decide_true,decide_false,Bool.true_and,Bool.false_and,Bool.and_false,go_sem,Qa,Qb,Qc,Qd,Qe,↓reduceIte,reduceCtorEq,Qf,Qg,Qh])<;>clear q') | refine hN _ ?_ ?_ Wk.kk | with_reducible refine And.intro ?_ ?_ | with_reducible omega | exact ok_ints | exact cells_ints | exact no_mem | with_reducible exact plain_ints | (refine le_maxLen ?_; omega) | (refine za9 ⟨?_,?_⟩) | (simp only [go_sem,Qc,Qb,zb1,zb2,forall_eq]; done)))
     all_goals (first | omega | assumption | rfl | exact absurd trivial ‹¬True› | (simp [ha,hb]; done))
   . have hr0 : (decide (1<=r) && decide (r<=10))=false:=by
      rw [← Bool.decide_and]; exact decide_eq_false q1
     rw [hr0] at cw1
     by_cases q2 : r=0
     . have cw2:=l1In_ok a 0 ((gs.length : Int) - 1)
       have hres : corB false gs ss k ⟨f,r,a,b⟩=(decide (b=0) && (decide (0<=a) && decide (a<=(gs.length : Int) - 1)) && decide (gs.getD a.toNat nilB=f)):=by
        rw [corB,hok,Bool.true_and]
        dsimp only
        rw [if_neg q1,if_pos q2]
       rw [hres]
       clear hres
       subst q2
       by_cases hr : 0<=a∧a<=(gs.length : Int) - 1
       . rw [decide_eq_true hr.1,decide_eq_true hr.2] at cw2 ⊢
         have hg:=hgs a.toNat (by omega)
         generalize gs.getD a.toNat nilB=g at *
         by_cases hb : b=0
         all_goals
          refine Ctr.of (n:=94) (rs:=[.tmp 6]) Tryd.func81 rfl rfl Tryd.ntmps81 rfl rfl (by kernel_rfl) Tryd.checked.mixed ?_
          simp (disch:=first | omega | decide +kernel) only [hel,hg,hb,beq_str,Bool.and_self,decide_true,decide_false,Bool.true_and,Bool.false_and,go_sem,Qa,Qb,Qc,Qd,Qe,↓reduceIte,reduceCtorEq,Qf,Qg,Qh]
          (repeat' (first | ((first | (refine gsel_split (fun q' => ?_) (fun q' => ?_)<;>(have h':=q')<;>(try simp only [za1,za2,Ba,Bb,za3,ne_eq,za4,za5,za6,Ia,Ib,Ic,Ie,Da,Bc,Bh,Be,za7,za8] at h')<;>try (exfalso; omega)) | (have q':=trivial; first | refine callX_new (c1) rfl (by decide) ?_ | refine callY_new (c1) rfl ?_ | refine callX_new (cw1) rfl (by decide) ?_ | refine callY_new (cw1) rfl ?_ | refine callX_new (cw2) rfl (by decide) ?_ | refine callY_new (cw2) rfl ?_ | refine hE _ _ ret_ne ?_ | refine hE _ _ exit_ne ?_))<;>(try simp (disch:=first | omega | decide +kernel) only [q',hel,hg,hb,beq_str,Bool.and_self,List.length_map,decide_true,decide_false,Bool.true_and,Bool.false_and,go_sem,Qa,Qb,Qc,Qd,Qe,↓reduceIte,reduceCtorEq,Qf,Qg,Qh])<;>clear q') | refine hN _ ?_ ?_ Wk.kk | with_reducible refine And.intro ?_ ?_ | with_reducible omega | exact ok_ints | exact cells_ints | exact no_mem | with_reducible exact plain_ints | (refine le_maxLen ?_; omega) | (refine za9 ⟨?_,?_⟩) | (simp only [go_sem,Qc,Qb,zb1,zb2,forall_eq]; done)))
         all_goals (first | omega | assumption | rfl | exact absurd trivial ‹¬True› | (simp [hb]; done))
       . have hd : (decide (0<=a) && decide (a<=(gs.length : Int) - 1))=false:=by
          rw [← Bool.decide_and]; exact decide_eq_false hr
         rw [hd] at cw2 ⊢
         by_cases hb : b=0
         all_goals
          refine Ctr.of (n:=94) (rs:=[.tmp 6]) Tryd.func81 rfl rfl Tryd.ntmps81 rfl rfl (by kernel_rfl) Tryd.checked.mixed ?_
          simp (disch:=first | omega | decide +kernel) only [hel,hb,Bool.and_false,Bool.false_and,decide_true,decide_false,go_sem,Qa,Qb,Qc,Qd,Qe,↓reduceIte,reduceCtorEq,Qf,Qg,Qh]
          (repeat' (first | ((first | (refine gsel_split (fun q' => ?_) (fun q' => ?_)<;>(have h':=q')<;>(try simp only [za1,za2,Ba,Bb,za3,ne_eq,za4,za5,za6,Ia,Ib,Ic,Ie,Da,Bc,Bh,Be,za7,za8] at h')<;>try (exfalso; omega)) | (have q':=trivial; first | refine callX_new (c1) rfl (by decide) ?_ | refine callY_new (c1) rfl ?_ | refine callX_new (cw1) rfl (by decide) ?_ | refine callY_new (cw1) rfl ?_ | refine callX_new (cw2) rfl (by decide) ?_ | refine callY_new (cw2) rfl ?_ | refine hE _ _ ret_ne ?_ | refine hE _ _ exit_ne ?_))<;>(try simp (disch:=first | omega | decide +kernel) only [q',hel,hb,List.length_map,Bool.and_false,Bool.false_and,decide_true,decide_false,go_sem,Qa,Qb,Qc,Qd,Qe,↓reduceIte,reduceCtorEq,Qf,Qg,Qh])<;>clear q') | refine hN _ ?_ ?_ Wk.kk | with_reducible refine And.intro ?_ ?_ | with_reducible omega | exact ok_ints | exact cells_ints | exact no_mem | with_reducible exact plain_ints | (refine le_maxLen ?_; omega) | (refine za9 ⟨?_,?_⟩) | (simp only [go_sem,Qc,Qb,zb1,zb2,forall_eq]; done)))
         all_goals (first | omega | assumption | rfl | exact absurd trivial ‹¬True› | (simp [hb]; done))
     . by_cases q3 : r=-1
       . have cwa:=l1In_ok a 0 ((k : Int) - 1)
         have cwb:=l1In_ok b 0 ((k : Int) - 1)
         have hres : corB false gs ss k ⟨f,r,a,b⟩=((decide (0<=a) && decide (a<=(k : Int) - 1)) && (decide (0<=b) && decide (b<=(k : Int) - 1)) && decide ((ss.getD b.toNat Fs.z).f=impS (ss.getD a.toNat Fs.z).f f)):=by
          rw [corB,hok,Bool.true_and]
          dsimp only
          rw [if_neg q1,if_neg q2,if_pos q3]
          simp
         rw [hres]
         clear hres
         subst q3
         by_cases hra : 0<=a∧a<=(k : Int) - 1
         . rw [decide_eq_true hra.1,decide_eq_true hra.2] at cwa ⊢
           by_cases hrb : 0<=b∧b<=(k : Int) - 1
           . rw [decide_eq_true hrb.1,decide_eq_true hrb.2] at cwb ⊢
             have ha:=hfs a.toNat (by omega)
             have hb:=hfs b.toNat (by omega)
             have za:=hzs a.toNat
             have ci:=l24Implies_ok (ss.getD a.toNat Fs.z).f f (by omega) (by omega)
             generalize ss.getD a.toNat Fs.z=sa at *
             generalize ss.getD b.toNat Fs.z=sb at *
             obtain ⟨fa,_,_,_⟩:=sa
             obtain ⟨fb,_,_,_⟩:=sb
             dsimp only at ha hb za ci ⊢
             generalize impS fa f=im at *
             refine Ctr.of (n:=94) (rs:=[.tmp 6]) Tryd.func81 rfl rfl Tryd.ntmps81 rfl rfl (by kernel_rfl) Tryd.checked.mixed ?_
             simp (disch:=first | omega | decide +kernel) only [hel,ha,hb,beq_str,Bool.and_self,Bool.true_and,Bool.false_and,Bool.and_false,go_sem,Qa,Qb,Qc,Qd,Qe,↓reduceIte,reduceCtorEq,Qf,Qg,Qh]
             (repeat' (first | ((first | (refine gsel_split (fun q' => ?_) (fun q' => ?_)<;>(have h':=q')<;>(try simp only [za1,za2,Ba,Bb,za3,ne_eq,za4,za5,za6,Ia,Ib,Ic,Ie,Da,Bc,Bh,Be,za7,za8] at h')<;>try (exfalso; omega)) | (have q':=trivial; first | refine callX_new (c1) rfl (by decide) ?_ | refine callY_new (c1) rfl ?_ | refine callX_new (cw1) rfl (by decide) ?_ | refine callY_new (cw1) rfl ?_ | refine callX_new (cwa) rfl (by decide) ?_ | refine callY_new (cwa) rfl ?_ | refine callX_new (cwb) rfl (by decide) ?_ | refine callY_new (cwb) rfl ?_ | refine callX_new (ci) rfl (by decide) ?_ | refine callY_new (ci) rfl ?_ | refine hE _ _ ret_ne ?_ | refine hE _ _ exit_ne ?_))<;>(try simp (disch:=first | omega | decide +kernel) only [q',hel,ha,hb,beq_str,Bool.and_self,Bool.true_and,Bool.false_and,Bool.and_false,go_sem,Qa,Qb,Qc,Qd,Qe,↓reduceIte,reduceCtorEq,Qf,Qg,Qh])<;>clear q') | refine hN _ ?_ ?_ Wk.kk | with_reducible refine And.intro ?_ ?_ | with_reducible omega | exact ok_ints | exact cells_ints | exact no_mem | with_reducible exact plain_ints | (refine le_maxLen ?_; omega) | (refine za9 ⟨?_,?_⟩) | (simp only [go_sem,Qc,Qb,zb1,zb2,forall_eq]; done)))
             all_goals (first | omega | assumption | rfl | exact absurd trivial ‹¬True›)
           . have hd : (decide (0<=b) && decide (b<=(k : Int) - 1))=false:=by
              rw [← Bool.decide_and]; exact decide_eq_false hrb
             rw [hd] at cwb ⊢
             refine Ctr.of (n:=94) (rs:=[.tmp 6]) Tryd.func81 rfl rfl Tryd.ntmps81 rfl rfl (by kernel_rfl) Tryd.checked.mixed ?_
             simp (disch:=first | omega | decide +kernel) only [hel,Bool.and_false,Bool.false_and,Bool.and_self,go_sem,Qa,Qb,Qc,Qd,Qe,↓reduceIte,reduceCtorEq,Qf,Qg,Qh]
             (repeat' (first | ((first | (refine gsel_split (fun q' => ?_) (fun q' => ?_)<;>(have h':=q')<;>(try simp only [za1,za2,Ba,Bb,za3,ne_eq,za4,za5,za6,Ia,Ib,Ic,Ie,Da,Bc,Bh,Be,za7,za8] at h')<;>try (exfalso; omega)) | (have q':=trivial; first | refine callX_new (c1) rfl (by decide) ?_ | refine callY_new (c1) rfl ?_ | refine callX_new (cw1) rfl (by decide) ?_ | refine callY_new (cw1) rfl ?_ | refine callX_new (cwa) rfl (by decide) ?_ | refine callY_new (cwa) rfl ?_ | refine callX_new (cwb) rfl (by decide) ?_ | refine callY_new (cwb) rfl ?_ | refine hE _ _ ret_ne ?_ | refine hE _ _ exit_ne ?_))<;>(try simp (disch:=first | omega | decide +kernel) only [q',hel,Bool.and_false,Bool.false_and,Bool.and_self,go_sem,Qa,Qb,Qc,Qd,Qe,↓reduceIte,reduceCtorEq,Qf,Qg,Qh])<;>clear q') | refine hN _ ?_ ?_ Wk.kk | with_reducible refine And.intro ?_ ?_ | with_reducible omega | exact ok_ints | exact cells_ints | exact no_mem | with_reducible exact plain_ints | (refine le_maxLen ?_; omega) | (refine za9 ⟨?_,?_⟩) | (simp only [go_sem,Qc,Qb,zb1,zb2,forall_eq]; done)))
             all_goals (first | omega | assumption | rfl | exact absurd trivial ‹¬True›)
         . have hd : (decide (0<=a) && decide (a<=(k : Int) - 1))=false:=by
            rw [← Bool.decide_and]; exact decide_eq_false hra
           rw [hd] at cwa ⊢
           refine Ctr.of (n:=94) (rs:=[.tmp 6]) Tryd.func81 rfl rfl Tryd.ntmps81 rfl rfl (by kernel_rfl) Tryd.checked.mixed ?_
           simp (disch:=first | omega | decide +kernel) only [hel,Bool.and_false,Bool.false_and,go_sem,Qa,Qb,Qc,Qd,Qe,↓reduceIte,reduceCtorEq,Qf,Qg,Qh]
           (repeat' (first | ((first | (refine gsel_split (fun q' => ?_) (fun q' => ?_)<;>(have h':=q')<;>(try simp only [za1,za2,Ba,Bb,za3,ne_eq,za4,za5,za6,Ia,Ib,Ic,Ie,Da,Bc,Bh,Be,za7,za8] at h')<;>try (exfalso; omega)) | (have q':=trivial; first | refine callX_new (c1) rfl (by decide) ?_ | refine callY_new (c1) rfl ?_ | refine callX_new (cw1) rfl (by decide) ?_ | refine callY_new (cw1) rfl ?_ | refine callX_new (cwa) rfl (by decide) ?_ | refine callY_new (cwa) rfl ?_ | refine hE _ _ ret_ne ?_ | refine hE _ _ exit_ne ?_))<;>(try simp (disch:=first | omega | decide +kernel) only [q',hel,Bool.and_false,Bool.false_and,go_sem,Qa,Qb,Qc,Qd,Qe,↓reduceIte,reduceCtorEq,Qf,Qg,Qh])<;>clear q') | refine hN _ ?_ ?_ Wk.kk | with_reducible refine And.intro ?_ ?_ | with_reducible omega | exact ok_ints | exact cells_ints | exact no_mem | with_reducible exact plain_ints | (refine le_maxLen ?_; omega) | (refine za9 ⟨?_,?_⟩) | (simp only [go_sem,Qc,Qb,zb1,zb2,forall_eq]; done)))
           all_goals (first | omega | assumption | rfl | exact absurd trivial ‹¬True›)
       . have hres : corB false gs ss k ⟨f,r,a,b⟩=false:=by
          rw [corB,hok,Bool.true_and]
          dsimp only
          rw [if_neg q1,if_neg q2,if_neg q3]
         rw [hres]
         refine Ctr.of (n:=94) (rs:=[.tmp 6]) Tryd.func81 rfl rfl Tryd.ntmps81 rfl rfl (by kernel_rfl) Tryd.checked.mixed ?_
         simp (disch:=first | omega | decide +kernel) only [hel,q1,q2,q3,go_sem,Qa,Qb,Qc,Qd,Qe,↓reduceIte,reduceCtorEq,Qf,Qg,Qh]
         (repeat' (first | ((first | (refine gsel_split (fun q' => ?_) (fun q' => ?_)<;>(have h':=q')<;>(try simp only [za1,za2,Ba,Bb,za3,ne_eq,za4,za5,za6,Ia,Ib,Ic,Ie,Da,Bc,Bh,Be,za7,za8] at h')<;>try (exfalso; omega)) | (have q':=trivial; first | refine callX_new (c1) rfl (by decide) ?_ | refine callY_new (c1) rfl ?_ | refine callX_new (cw1) rfl (by decide) ?_ | refine callY_new (cw1) rfl ?_ | refine hE _ _ ret_ne ?_ | refine hE _ _ exit_ne ?_))<;>(try simp (disch:=first | omega | decide +kernel) only [q',hel,q1,q2,q3,go_sem,Qa,Qb,Qc,Qd,Qe,↓reduceIte,reduceCtorEq,Qf,Qg,Qh])<;>clear q') | refine hN _ ?_ ?_ Wk.kk | with_reducible refine And.intro ?_ ?_ | with_reducible omega | exact ok_ints | exact cells_ints | exact no_mem | with_reducible exact plain_ints | (refine le_maxLen ?_; omega) | (refine za9 ⟨?_,?_⟩) | (simp only [go_sem,Qc,Qb,zb1,zb2,forall_eq]; done)))
         all_goals (first | omega | assumption | rfl | exact absurd trivial ‹¬True›)
theorem firstWrongFrege_ok (gs : List ByteArray) (ss : List Fs) (z : SzF gs ss) :
 Ctr Tryd.prog 50 [.slice (gs.map .str),.slice (ss.map fsD)] false (.d (.int .i64 (wrongF true gs ss))) []:=by
 have hl:=z.sl
 have hc:=fun i h => fregeCorrect_ok gs ss i h z
 have hW : wrongF true gs ss=idxR (fun k => !corB true gs ss k (ss.getD k Fs.z)) ss.length:=rfl
 generalize hP : (fun k => corB true gs ss k (ss.getD k Fs.z))=P at *
 have hc : ∀ i,i < ss.length->Ctr Tryd.prog 69 [.slice (gs.map .str),.slice (ss.map fsD),.int .i64 (i : Nat)] false (.d (.bool (P i))) []:=fun i h => by rw [← hP]; exact hc i h
 have hW : wrongF true gs ss=idxR (fun k => !P k) ss.length:=by rw [hW,← hP]
 rw [hW]
 clear hW hP
 refine Ctr.of (n:=18) (rs:=[.tmp 4]) Tryd.func50 rfl rfl Tryd.ntmps50 rfl rfl (by kernel_rfl) Tryd.checked.mixed ?_
 simp (disch:=first | omega | decide +kernel) only [List.length_map,go_sem,Qa,Qb,Qc,Qd,Qe,↓reduceIte,reduceCtorEq,Qf,Qg,Qh]
 refine Ok.loopC [17,16,15,14,13,12,11,10,9,8,6,5,4,3,2] (fun i => [(8,.d (.int .i64 (i : Nat)))]) ss.length (fun i => ∀ j,j < i->(!P j)=false) (by simp) (Wk.kk) ?_
 intro R i hN hE hi hI
 by_cases hlt : i < ss.length
 . have c1:=hc i hlt
   cases hb : P i with
   | true =>
     rw [hb] at c1
     simp (disch:=first | omega | decide +kernel) only [List.length_map,go_sem,Qa,Qb,Qc,Qd,Qe,↓reduceIte,reduceCtorEq,Qf,Qg,Qh]
     (repeat' (first | ((first | (refine gsel_split (fun q' => ?_) (fun q' => ?_)<;>(have h':=q')<;>(try simp only [za1,za2,Ba,Bb,za3,ne_eq,za4,za5,za6,Ia,Ib,Ic,Ie,Da,Bc,Bh,Be,za7,za8] at h')) | (have q':=trivial; first | refine callX_new (c1) rfl (by decide) ?_ | refine callY_new (c1) rfl ?_ | refine hE _ _ ret_ne ?_ | refine hE _ _ exit_ne ?_))<;>(try simp (disch:=first | omega | decide +kernel) only [q',List.length_map,go_sem,Qa,Qb,Qc,Qd,Qe,↓reduceIte,reduceCtorEq,Qf,Qg,Qh])<;>clear q') | refine hN _ ?_ ?_ Wk.kk | with_reducible refine And.intro ?_ ?_ | with_reducible omega | exact ok_ints | exact cells_ints | exact no_mem | with_reducible exact plain_ints | (refine le_maxLen ?_; omega) | (refine za9 ⟨?_,?_⟩) | (simp only [go_sem,Qc,Qb,zb1,zb2,forall_eq]; done)))
     all_goals (first | omega | assumption | exact absurd trivial ‹¬True› | exact all_succ hI (by rw [hb]; rfl))
   | false =>
     rw [hb] at c1
     have hr : idxR (fun k => !P k) ss.length=(i : Nat):=idxR_some hlt (by rw [hb]; rfl) hI
     rw [hr] at hE
     simp (disch:=first | omega | decide +kernel) only [List.length_map,go_sem,Qa,Qb,Qc,Qd,Qe,↓reduceIte,reduceCtorEq,Qf,Qg,Qh]
     (repeat' (first | ((first | (refine gsel_split (fun q' => ?_) (fun q' => ?_)<;>(have h':=q')<;>(try simp only [za1,za2,Ba,Bb,za3,ne_eq,za4,za5,za6,Ia,Ib,Ic,Ie,Da,Bc,Bh,Be,za7,za8] at h')) | (have q':=trivial; first | refine callX_new (c1) rfl (by decide) ?_ | refine callY_new (c1) rfl ?_ | refine hE _ _ ret_ne ?_ | refine hE _ _ exit_ne ?_))<;>(try simp (disch:=first | omega | decide +kernel) only [q',List.length_map,go_sem,Qa,Qb,Qc,Qd,Qe,↓reduceIte,reduceCtorEq,Qf,Qg,Qh])<;>clear q') | refine hN _ ?_ ?_ Wk.kk | with_reducible refine And.intro ?_ ?_ | with_reducible omega | exact ok_ints | exact cells_ints | exact no_mem | with_reducible exact plain_ints | (refine le_maxLen ?_; omega) | (refine za9 ⟨?_,?_⟩) | (simp only [go_sem,Qc,Qb,zb1,zb2,forall_eq]; done)))
     all_goals (first | omega | assumption | rfl | exact absurd trivial ‹¬True›)
 . have hr : idxR (fun k => !P k) ss.length=-1:=idxR_none fun j hj => hI j (by omega)
   simp (disch:=first | omega | decide +kernel) only [List.length_map,go_sem,Qa,Qb,Qc,Qd,Qe,↓reduceIte,reduceCtorEq,Qf,Qg,Qh]
   (repeat' (first | ((first | (refine gsel_split (fun q' => ?_) (fun q' => ?_)<;>(have h':=q')<;>(try simp only [za1,za2,Ba,Bb,za3,ne_eq,za4,za5,za6,Ia,Ib,Ic,Ie,Da,Bc,Bh,Be,za7,za8] at h')) | (have q':=trivial; first | refine hE _ _ ret_ne ?_ | refine hE _ _ exit_ne ?_))<;>(try simp (disch:=first | omega | decide +kernel) only [q',List.length_map,go_sem,Qa,Qb,Qc,Qd,Qe,↓reduceIte,reduceCtorEq,Qf,Qg,Qh])<;>clear q') | refine hN _ ?_ ?_ Wk.kk | with_reducible refine And.intro ?_ ?_ | with_reducible omega | exact ok_ints | exact cells_ints | exact no_mem | with_reducible exact plain_ints | (refine le_maxLen ?_; omega) | (refine za9 ⟨?_,?_⟩) | (simp only [go_sem,Qc,Qb,zb1,zb2,forall_eq]; done)))
   all_goals (first | omega | assumption | (rw [hr]; done) | exact absurd trivial ‹¬True› | trivial)
theorem l24Wrong_ok (gs : List ByteArray) (ss : List Fs) (z : SzF gs ss) :
 Ctr Tryd.prog 65 [.slice (gs.map .str),.slice (ss.map fsD)] false (.d (.int .i64 (wrongF true gs ss))) []:=by
 have hl:=z.sl
 have hc:=fun i h => l24Correct_ok gs ss i h z
 have hW : wrongF true gs ss=idxR (fun k => !corB false gs ss k (ss.getD k Fs.z)) ss.length:=wrong_eq gs ss
 generalize hP : (fun k => corB false gs ss k (ss.getD k Fs.z))=P at *
 have hc : ∀ i,i < ss.length->Ctr Tryd.prog 81 [.slice (gs.map .str),.slice (ss.map fsD),.int .i64 (i : Nat)] false (.d (.bool (P i))) []:=fun i h => by rw [← hP]; exact hc i h
 have hW : wrongF true gs ss=idxR (fun k => !P k) ss.length:=by rw [hW,← hP]
 rw [hW]
 clear hW hP
 refine Ctr.of (n:=18) (rs:=[.tmp 4]) Tryd.func65 rfl rfl Tryd.ntmps65 rfl rfl (by kernel_rfl) Tryd.checked.mixed ?_
 simp (disch:=first | omega | decide +kernel) only [List.length_map,go_sem,Qa,Qb,Qc,Qd,Qe,↓reduceIte,reduceCtorEq,Qf,Qg,Qh]
 refine Ok.loopC [17,16,15,14,13,12,11,10,9,8,7,6,5,4,3,2] (fun i => [(5,.d (.int .i64 (i : Nat)))]) ss.length (fun i => ∀ j,j < i->(!P j)=false) (by simp) (Wk.kk) ?_
 intro R i hN hE hi hI
 by_cases hlt : i < ss.length
 . have c1:=hc i hlt
   cases hb : P i with
   | true =>
     rw [hb] at c1
     simp (disch:=first | omega | decide +kernel) only [List.length_map,go_sem,Qa,Qb,Qc,Qd,Qe,↓reduceIte,reduceCtorEq,Qf,Qg,Qh]
     (repeat' (first | ((first | (refine gsel_split (fun q' => ?_) (fun q' => ?_)<;>(have h':=q')<;>(try simp only [za1,za2,Ba,Bb,za3,ne_eq,za4,za5,za6,Ia,Ib,Ic,Ie,Da,Bc,Bh,Be,za7,za8] at h')) | (have q':=trivial; first | refine callX_new (c1) rfl (by decide) ?_ | refine callY_new (c1) rfl ?_ | refine hE _ _ ret_ne ?_ | refine hE _ _ exit_ne ?_))<;>(try simp (disch:=first | omega | decide +kernel) only [q',List.length_map,go_sem,Qa,Qb,Qc,Qd,Qe,↓reduceIte,reduceCtorEq,Qf,Qg,Qh])<;>clear q') | refine hN _ ?_ ?_ Wk.kk | with_reducible refine And.intro ?_ ?_ | with_reducible omega | exact ok_ints | exact cells_ints | exact no_mem | with_reducible exact plain_ints | (refine le_maxLen ?_; omega) | (refine za9 ⟨?_,?_⟩) | (simp only [go_sem,Qc,Qb,zb1,zb2,forall_eq]; done)))
     all_goals (first | omega | assumption | exact absurd trivial ‹¬True› | exact all_succ hI (by rw [hb]; rfl))
   | false =>
     rw [hb] at c1
     have hr : idxR (fun k => !P k) ss.length=(i : Nat):=idxR_some hlt (by rw [hb]; rfl) hI
     rw [hr] at hE
     simp (disch:=first | omega | decide +kernel) only [List.length_map,go_sem,Qa,Qb,Qc,Qd,Qe,↓reduceIte,reduceCtorEq,Qf,Qg,Qh]
     (repeat' (first | ((first | (refine gsel_split (fun q' => ?_) (fun q' => ?_)<;>(have h':=q')<;>(try simp only [za1,za2,Ba,Bb,za3,ne_eq,za4,za5,za6,Ia,Ib,Ic,Ie,Da,Bc,Bh,Be,za7,za8] at h')) | (have q':=trivial; first | refine callX_new (c1) rfl (by decide) ?_ | refine callY_new (c1) rfl ?_ | refine hE _ _ ret_ne ?_ | refine hE _ _ exit_ne ?_))<;>(try simp (disch:=first | omega | decide +kernel) only [q',List.length_map,go_sem,Qa,Qb,Qc,Qd,Qe,↓reduceIte,reduceCtorEq,Qf,Qg,Qh])<;>clear q') | refine hN _ ?_ ?_ Wk.kk | with_reducible refine And.intro ?_ ?_ | with_reducible omega | exact ok_ints | exact cells_ints | exact no_mem | with_reducible exact plain_ints | (refine le_maxLen ?_; omega) | (refine za9 ⟨?_,?_⟩) | (simp only [go_sem,Qc,Qb,zb1,zb2,forall_eq]; done)))
     all_goals (first | omega | assumption | rfl | exact absurd trivial ‹¬True›)
 . have hr : idxR (fun k => !P k) ss.length=-1:=idxR_none fun j hj => hI j (by omega)
   simp (disch:=first | omega | decide +kernel) only [List.length_map,go_sem,Qa,Qb,Qc,Qd,Qe,↓reduceIte,reduceCtorEq,Qf,Qg,Qh]
   (repeat' (first | ((first | (refine gsel_split (fun q' => ?_) (fun q' => ?_)<;>(have h':=q')<;>(try simp only [za1,za2,Ba,Bb,za3,ne_eq,za4,za5,za6,Ia,Ib,Ic,Ie,Da,Bc,Bh,Be,za7,za8] at h')) | (have q':=trivial; first | refine hE _ _ ret_ne ?_ | refine hE _ _ exit_ne ?_))<;>(try simp (disch:=first | omega | decide +kernel) only [q',List.length_map,go_sem,Qa,Qb,Qc,Qd,Qe,↓reduceIte,reduceCtorEq,Qf,Qg,Qh])<;>clear q') | refine hN _ ?_ ?_ Wk.kk | with_reducible refine And.intro ?_ ?_ | with_reducible omega | exact ok_ints | exact cells_ints | exact no_mem | with_reducible exact plain_ints | (refine le_maxLen ?_; omega) | (refine za9 ⟨?_,?_⟩) | (simp only [go_sem,Qc,Qb,zb1,zb2,forall_eq]; done)))
   all_goals (first | omega | assumption | (rw [hr]; done) | exact absurd trivial ‹¬True› | trivial)
end Abs.Y
