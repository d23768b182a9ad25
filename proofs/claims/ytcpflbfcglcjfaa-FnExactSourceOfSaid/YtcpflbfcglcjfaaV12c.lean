/- What functions of this program compute, over plain data. No condition. -/
import Derived.Test.YtcpflbfcglcjfaaU14
import Derived.Test.YtcpflbfcglcjfaaV10c
set_option linter.all false
namespace Abs.Y
open Go Go.Proofs Abs
open Nat renaming reduceEqDiff -> Qa, reduceLT -> Qb, reduceAdd -> Qc, reduceMul -> Qd, reduceSub -> Qe, reduceLeDiff -> Qf, reduceSubDiff -> Qg, reduceBEq -> Qh
open Bool renaming not_eq_true' -> Ba, not_eq_false' -> Bb, and_eq_true -> Bc, or_eq_true -> Bd, or_eq_false_iff -> Be
open Int renaming ofNat_lt -> Ia, ofNat_le -> Ib, not_lt -> Ic, not_le -> Ie
open Decidable renaming not_not -> Da
set_option maxRecDepth 100000

theorem getD_ins {α : Type} (z x : α) {l : List α} {k : Nat} (hk : k<=l.length) (i : Nat) : (l.take k++x :: l.drop k).getD i z=if i < k then l.getD i z else if i=k then x else l.getD (i - 1) z:=by
 have hl : (l.take k).length=k:=by rw [List.length_take]; omega
 by_cases h : i < k
 . rw [if_pos h,List.getD_eq_getElem?_getD,List.getElem?_append_left (by omega),List.getElem?_take_of_lt h,← List.getD_eq_getElem?_getD]
 . rw [if_neg h,List.getD_eq_getElem?_getD,List.getElem?_append_right (by omega),hl]
   by_cases e : i=k
   . subst e; simp
   . rw [if_neg e]
     obtain ⟨j,rfl⟩ : ∃ j,i=k + (j + 1):=⟨i - k - 1,by omega⟩
     rw [show k + (j + 1) - k=j + 1 by omega,List.getElem?_cons_succ,List.getElem?_drop,← List.getD_eq_getElem?_getD]
     congr 1
def HasF (f : Fnd) (c : List Int) (a b v : Int) : Prop:=∃ i,i < f.so.length∧f.so.getD i []=c∧f.lf.getD i 0=a∧f.rt.getD i 0=b∧f.pv.getD i 0=v
theorem HasF.put {f : Fnd} (h : FOK f) {c : List Int} (hn : c ∉ f.so) (a b v : Int) : HasF ⟨insI f.so c,insAt f.lf (plI f.so c) a,insAt f.rt (plI f.so c) b,insAt f.pv (plI f.so c) v⟩ c a b v:=by
 have hp:=pl_le f.so c
 have h1:=h.lf
 have h2:=h.rt
 have h3:=h.pv
 refine ⟨plI f.so c,?_,?_,?_,?_,?_⟩
 . rw [insI_new hn]; simp [List.length_take,List.length_drop]; omega
 . simp only; rw [insI_new hn,getD_ins _ _ hp,if_neg (by omega),if_pos rfl]
 . simp only [insAt]; rw [getD_ins _ _ (by omega),if_neg (by omega),if_pos rfl]
 . simp only [insAt]; rw [getD_ins _ _ (by omega),if_neg (by omega),if_pos rfl]
 . simp only [insAt]; rw [getD_ins _ _ (by omega),if_neg (by omega),if_pos rfl]
theorem HasF.keep {f : Fnd} (h : FOK f) {c : List Int} (hn : c ∉ f.so) (a b v : Int) {d : List Int} {p q s : Int} (hd : HasF f d p q s) : HasF ⟨insI f.so c,insAt f.lf (plI f.so c) a,insAt f.rt (plI f.so c) b,insAt f.pv (plI f.so c) v⟩ d p q s:=by
 have hp:=pl_le f.so c
 have h1:=h.lf
 have h2:=h.rt
 have h3:=h.pv
 obtain ⟨i,hi,e0,e1,e2,e3⟩:=hd
 have hlen : (insI f.so c).length=f.so.length + 1:=by rw [insI_new hn]; simp [List.length_take,List.length_drop]; omega
 by_cases hk : i < plI f.so c
 . refine ⟨i,by simp only; omega,?_,?_,?_,?_⟩
   . simp only; rw [insI_new hn,getD_ins _ _ hp,if_pos hk,e0]
   . simp only [insAt]; rw [getD_ins _ _ (by omega),if_pos hk,e1]
   . simp only [insAt]; rw [getD_ins _ _ (by omega),if_pos hk,e2]
   . simp only [insAt]; rw [getD_ins _ _ (by omega),if_pos hk,e3]
 . refine ⟨i + 1,by simp only; omega,?_,?_,?_,?_⟩
   . simp only; rw [insI_new hn,getD_ins _ _ hp,if_neg (by omega),if_neg (by omega),Nat.add_sub_cancel,e0]
   . simp only [insAt]; rw [getD_ins _ _ (by omega),if_neg (by omega),if_neg (by omega),Nat.add_sub_cancel,e1]
   . simp only [insAt]; rw [getD_ins _ _ (by omega),if_neg (by omega),if_neg (by omega),Nat.add_sub_cancel,e2]
   . simp only [insAt]; rw [getD_ins _ _ (by omega),if_neg (by omega),if_neg (by omega),Nat.add_sub_cancel,e3]
section
variable (w : Wrk) (width vars : Nat) (round : Int) (o : List Nat)
def OkP (a b : Nat) : Prop:=(oldW w round (o.getD a 0) && oldW w round (o.getD b 0))=false
def Ear (a b a' b' : Nat) : Prop:=(a' < a∧b' < o.length)∨(a'=a∧b' < b)
structure Fst (a b : Nat) (c : List Int) : Prop where
 ha : a < o.length
 hb : b < o.length
 first : ∀ a' b',Ear o a b a' b'->OkP w round o a' b'->¬ PairC w width vars (o.getD a' 0) (o.getD b' 0) c
def SrcF (f : Fnd) : Prop:=∀ c ∈ f.so,∃ a b v,Fst w width vars round o a b c∧1<=v∧v<=vars∧resolveI (w.list.getD (o.getD a 0) []) (w.list.getD (o.getD b 0) []) ((v : Nat) : Int)=some c∧HasF f c (o.getD a 0 : Nat) (o.getD b 0 : Nat) (v : Nat)
end
section
variable {w : Wrk} {width vars : Nat} {round : Int} {o : List Nat}
theorem SrcF.stepV (hw : ∀ i,G6 (w.list.getD i [])) {a b : Nat} (ha : a < o.length) (hb : b < o.length) {f : Fnd} (hf : FOK f)
 (hn : ∀ c,c ∉ f.so->∀ a' b',Ear o a b a' b'->OkP w round o a' b'->¬ PairC w width vars (o.getD a' 0) (o.getD b' 0) c) (h : SrcF w width vars round o f) : ∀ n,n<=vars->SrcF w width vars round o (fndV w width (o.getD a 0) (o.getD b 0) f n)
 | 0,_ => h
 | n + 1, hle => by
   have ih:=SrcF.stepV hw ha hb hf hn h n (by omega)
   have hF:=FOK.stepV (width:=width) hw hf (o.getD a 0) (o.getD b 0) n
   have hmm:=fun c => fndV_mem (width:=width) hw hf (o.getD a 0) (o.getD b 0) c n
   rw [fndV]
   generalize fndV w width (o.getD a 0) (o.getD b 0) f n=g at *
   unfold fndS
   split
   . rename_i c hc
     split
     . rename_i hif
       intro d hd
       have gc:=(resolveI_some (hw (o.getD a 0)) (hw (o.getD b 0)) (by omega) hc).2.2.2.1
       rcases ((insI_srt hF.so (g6_sm gc)).2 d).1 hd with rfl | hd
       . refine ⟨a,b,n + 1,⟨ha,hb,hn d fun hm => hif.2.2 ((hmm d).2 (.inl hm))⟩,by omega,hle,hc,HasF.put hF hif.2.2 _ _ _⟩
       . obtain ⟨a',b',v,h1,h2,h3,h4,h5⟩:=ih d hd
         exact ⟨a',b',v,h1,h2,h3,h4,h5.keep hF hif.2.2 _ _ _⟩
     . exact ih
   . exact ih
theorem SrcF.stepB (hw : ∀ i,G6 (w.list.getD i [])) {a : Nat} (ha : a < o.length) {f : Fnd} (hf : FOK f)
 (hn : ∀ c,c ∉ f.so->∀ a' b',a' < a->b' < o.length->OkP w round o a' b'->¬ PairC w width vars (o.getD a' 0) (o.getD b' 0) c) (h : SrcF w width vars round o f) : ∀ n,n<=o.length->SrcF w width vars round o (fndB w width vars round o (o.getD a 0) f n)
 | 0,_ => h
 | n + 1, hle => by
   have ih:=SrcF.stepB hw ha hf hn h n (by omega)
   rw [fndB]
   split
   . exact ih
   . refine SrcF.stepV hw ha (by omega) (FOK.stepB hw hf _ n) (fun c hc a' b' he ho hp => ?_) ih vars (Nat.le_refl _)
     rw [fndB_mem hw hf] at hc
     rcases he with ⟨h1,h2⟩ | ⟨rfl,h2⟩
     . exact hn c (fun hm => hc (.inl hm)) a' b' h1 h2 ho hp
     . exact hc (.inr ⟨b',h2,ho,hp⟩)
theorem SrcF.stepA (hw : ∀ i,G6 (w.list.getD i [])) : ∀ n,n<=o.length->SrcF w width vars round o (fndA w width vars round o n)
 | 0,_ => fun c hc => by simp [fndA] at hc
 | n + 1, hle => by
   rw [fndA]
   refine SrcF.stepB hw (by omega) (FOK.stepA hw n) (fun c hc a' b' h1 h2 ho hp => ?_) (SrcF.stepA hw n (by omega)) o.length (Nat.le_refl _)
   rw [fndA_mem hw] at hc
   exact hc ⟨a',b',h1,h2,ho,hp⟩
end
def SrcP (cs : List (List Int)) (w k : Nat) (c x y : List Int) (v : Int) : Prop :=
 ∃ a b : Nat,a < (srtV (Cl cs w k)).length∧b < (srtV (Cl cs w k)).length∧(srtV (Cl cs w k)).getD a []=x∧(srtV (Cl cs w k)).getD b []=y∧1<=v∧resolveI x y v=some c ∧
  ∀ a' b' : Nat,(a' < a∧b' < (srtV (Cl cs w k)).length)∨(a'=a∧b' < b)->∀ v' : Int,1<=v'->resolveI ((srtV (Cl cs w k)).getD a' []) ((srtV (Cl cs w k)).getD b' []) v' ≠ some c
section
variable {cs : List (List Int)} {w vars r : Nat} {W : Wrk}
theorem InvW.src (hg : ∀ c ∈ cs,G6 c) (hb : ∀ c ∈ cs,Below vars c) (h : InvW cs w r W) {c : List Int} (hc : NewC cs w (r + 1) c) :
 ∃ (at_ p q v : Nat) (x y : List Int),at_ < (roundI W w vars ((r + 1 : Nat) : Int)).list.length∧(roundI W w vars ((r + 1 : Nat) : Int)).list.getD at_ []=c∧(roundI W w vars ((r + 1 : Nat) : Int)).rd.getD at_ 0=((r + 1 : Nat) : Int) ∧
  (roundI W w vars ((r + 1 : Nat) : Int)).lf.getD at_ 0=(p : Int)∧(roundI W w vars ((r + 1 : Nat) : Int)).rt.getD at_ 0=(q : Int)∧(roundI W w vars ((r + 1 : Nat) : Int)).pv.getD at_ 0=(v : Int) ∧
  p < W.list.length∧q < W.list.length∧W.list.getD p []=x∧W.list.getD q []=y∧SrcP cs w r c x y v:=by
 have hw:=h.ok
 have hmem:=(h.new hg hb (vars:=vars) c).2 hc
 have hf : FOK (fndR W w vars ((r + 1 : Nat) : Int)):=hw.fok
 obtain ⟨⟨s1,s2⟩,hp⟩:=ord_all (fun x hx => g6_sm (hw.g6 x hx)) hw.nd W.list.length (Nat.le_refl _)
 have hS:=SrcF.stepA (width:=w) (vars:=vars) (round:=((r + 1 : Nat) : Int)) (o:=ordI W.list W.list.length) hw.getD _ (Nat.le_refl _) c hmem
 obtain ⟨a,b,v,⟨ha,hb',hfst⟩,hv1,hv2,hres,⟨i,hi,e0,e1,e2,e3⟩⟩:=hS
 have hB : srtV (Cl cs w r)=gN W.list (ordI W.list W.list.length):=srtV_eq s1 fun x => by rw [s2,List.take_length,h.mem]
 generalize hO : ordI W.list W.list.length=o at *
 have hgl : (gN W.list o).length=o.length:=List.length_map _
 have hgd : ∀ j,j < o.length->(gN W.list o).getD j []=W.list.getD (o.getD j 0) []:=fun j hj => by simp [gN,List.getD_eq_getElem?_getD,hj]
 have hlt : ∀ j,j < o.length->o.getD j 0 < W.list.length:=fun j hj => List.mem_range.1 (hp.mem_iff.1 (getD_mem (z:=0) hj))
 have hfR : fndA W w vars ((r + 1 : Nat) : Int) o o.length=fndR W w vars ((r + 1 : Nat) : Int):=by rw [fndR,hO]
 rw [hfR] at hi e0 e1 e2 e3
 refine ⟨W.list.length + i,o.getD a 0,o.getD b 0,v,_,_,?_,?_,?_,?_,?_,?_,hlt a ha,hlt b hb',rfl,rfl,a,b,by rw [hB,hgl]; exact ha,by rw [hB,hgl]; exact hb',by rw [hB,hgd a ha],by rw [hB,hgd b hb'],by omega,hres,fun a' b' he v' hv' hr' => ?_⟩
 . simp only [roundI,List.length_append]; omega
 . simp only [roundI]; rw [getD_app,if_neg (by omega),Nat.add_sub_cancel_left,e0]
 . simp only [roundI]; rw [getD_app,hw.rd,if_neg (by omega),Nat.add_sub_cancel_left,List.getD_eq_getElem?_getD,List.getElem?_replicate,if_pos hi,Option.getD_some]
 . simp only [roundI]; rw [getD_app,hw.lf,if_neg (by omega),Nat.add_sub_cancel_left,e1]
 . simp only [roundI]; rw [getD_app,hw.rt,if_neg (by omega),Nat.add_sub_cancel_left,e2]
 . simp only [roundI]; rw [getD_app,hw.pv,if_neg (by omega),Nat.add_sub_cancel_left,e3]
 . rw [hB,hgl] at he
   have ha' : a' < o.length:=by rcases he with he | he<;>omega
   have hb'' : b' < o.length:=by rcases he with he | he<;>omega
   rw [hB,hgd a' ha',hgd b' hb''] at hr'
   have ca:=(h.mem _).1 (getD_mem (z:=([] : List Int)) (hlt a' ha'))
   have cb:=(h.mem _).1 (getD_mem (z:=([] : List Int)) (hlt b' hb''))
   have hva:=(resolveI_some (cl_g6 hg r _ ca) (cl_g6 hg r _ cb) hv' hr').2.1
   have hvb:=cl_below hg hb r _ ca v' hva
   have hl:=cl_len _ _ hc.1
   refine hfst a' b' he ?_ ⟨⟨v'.toNat,by omega,by omega,by rw [Int.toNat_of_nonneg (by omega)]; exact hr'⟩,hl,fun hs => hc.2 ((h.mem c).1 ((h.ok.mem c).1 hs))⟩
   unfold OkP
   rw [Bool.eq_false_iff]
   intro ho
   simp only [oldW,Bc,decide_eq_true_eq] at ho
   obtain ⟨k1,f1,_,n1⟩:=h.rd _ (hlt a' ha')
   obtain ⟨k2,f2,_,n2⟩:=h.rd _ (hlt b' hb'')
   obtain ⟨s,rfl⟩ : ∃ s,r=s + 1:=⟨r - 1,by omega⟩
   exact hc.2 (.inr ⟨hl,_,_,v',hv',cl_mono (show k1<=s by omega) (new_cl n1),cl_mono (show k2<=s by omega) (new_cl n2),hr'⟩)
structure Ext (U W : Wrk) : Prop where
 len : U.list.length<=W.list.length
 at_ : ∀ i,i < U.list.length->W.list.getD i []=U.list.getD i []∧W.rd.getD i 0=U.rd.getD i 0∧W.lf.getD i 0=U.lf.getD i 0∧W.rt.getD i 0=U.rt.getD i 0∧W.pv.getD i 0=U.pv.getD i 0
theorem Ext.refl {U : Wrk} : Ext U U:=⟨Nat.le_refl _,fun i _ => ⟨rfl,rfl,rfl,rfl,rfl⟩⟩
theorem Ext.trans {U V W : Wrk} (h : Ext U V) (g : Ext V W) : Ext U W:=⟨Nat.le_trans h.len g.len,fun i hi => by
 obtain ⟨a1,a2,a3,a4,a5⟩:=h.at_ i hi
 obtain ⟨b1,b2,b3,b4,b5⟩:=g.at_ i (Nat.lt_of_lt_of_le hi h.len)
 exact ⟨b1.trans a1,b2.trans a2,b3.trans a3,b4.trans a4,b5.trans a5⟩⟩
theorem WOK.ext {U : Wrk} (h : WOK U) {round : Int} : Ext U (roundI U w vars round):=by
 refine ⟨by simp [roundI],fun i hi => ?_⟩
 simp only [roundI]
 rw [getD_app,getD_app,getD_app,getD_app,getD_app,h.rd,h.lf,h.rt,h.pv]
 simp only [hi,if_true,and_self]
theorem itW_ext (hg : ∀ c ∈ cs,G6 c) (hb : ∀ c ∈ cs,Below vars c) {k : Nat} : ∀ {s : Nat},k<=s->Ext (itW cs w vars k) (itW cs w vars s):=by
 intro s hs
 induction hs with
 | refl => exact Ext.refl
 | step _ ih => exact ih.trans (itW_inv (w:=w) hg hb _).ok.ext
theorem FinW.src (hg : ∀ c ∈ cs,G6 c) (hb : ∀ c ∈ cs,Below vars c) (h : FinW cs w vars W r) {k : Nat} {c : List Int} (hc : NewC cs w (k + 1) c) :
 ∃ (at_ p q v : Nat) (x y : List Int),at_ < W.list.length∧W.list.getD at_ []=c∧W.rd.getD at_ 0=((k + 1 : Nat) : Int)∧W.lf.getD at_ 0=(p : Int)∧W.rt.getD at_ 0=(q : Int)∧W.pv.getD at_ 0=(v : Int) ∧
  p < W.list.length∧q < W.list.length∧W.list.getD p []=x∧W.list.getD q []=y∧SrcP cs w k c x y v:=by
 have hkr : k < r:=by
  apply Nat.lt_of_not_le
  intro hle
  rcases Nat.lt_or_eq_of_le hle with h1 | h1
  . exact new_stop h.stop (k + 1) c (by omega) hc
  . subst h1; exact h.stop c hc
 obtain ⟨t,p,q,v,x,y,h1,h2,h3,h4,h5,h6,h7,h8,h9,h10,h11⟩:=(itW_inv (w:=w) hg hb k).src hg hb hc
 have e1 : Ext (itW cs w vars (k + 1)) W:=h.eq ▸ itW_ext hg hb (by omega)
 have e2 : Ext (itW cs w vars k) W:=h.eq ▸ itW_ext hg hb (by omega)
 obtain ⟨a1,a2,a3,a4,a5⟩:=e1.at_ t h1
 obtain ⟨b1,_⟩:=e2.at_ p h7
 obtain ⟨b2,_⟩:=e2.at_ q h8
 exact ⟨t,p,q,v,x,y,Nat.lt_of_lt_of_le h1 e1.len,a1.trans h2,a2.trans h3,a3.trans h4,a4.trans h5,a5.trans h6,Nat.lt_of_lt_of_le h7 e2.len,Nat.lt_of_lt_of_le h8 e2.len,b1.trans h9,b2.trans h10,h11⟩
theorem srcP_uniq {k : Nat} {c x y x' y' : List Int} {v v' : Int} (hg : ∀ c ∈ cs,G6 c) (h : SrcP cs w k c x y v) (g : SrcP cs w k c x' y' v') : x=x'∧y=y':=by
 obtain ⟨a,b,h1,h2,h3,h4,h5,h6,h7⟩:=h
 obtain ⟨a',b',g1,g2,g3,g4,g5,g6,g7⟩:=g
 have ea : a=a':=by
  rcases Nat.lt_trichotomy a a' with hlt | he | hlt
  . exact absurd (by rw [h3,h4]; exact h6) (g7 a b (.inl ⟨hlt,h2⟩) v h5)
  . exact he
  . exact absurd (by rw [g3,g4]; exact g6) (h7 a' b' (.inl ⟨hlt,g2⟩) v' g5)
 subst ea
 have eb : b=b':=by
  rcases Nat.lt_trichotomy b b' with hlt | he | hlt
  . exact absurd (by rw [h3,h4]; exact h6) (g7 a b (.inr ⟨rfl,hlt⟩) v h5)
  . exact he
  . exact absurd (by rw [g3,g4]; exact g6) (h7 a b' (.inr ⟨rfl,hlt⟩) v' g5)
 subst eb
 exact ⟨h3.symm.trans g3,h4.symm.trans g4⟩
end
end Abs.Y

namespace Abs
open Go Go.RowKit
theorem emptyS_of {S : Nat->Prop} {w : World} {v : Value} (h : Rd S w (.slice []) v) : EmptyS v:=by
 cases h with
 | nil a => exact .nil a
 | slice vs hk hcap hc hr => exact .some _ _ _
theorem dp_res {S : Nat->Prop} {w : World} {p : Tg} {v : Value} {F : Nat->Prop} (h : Rd S w (D.tg p) v) (hd : Dp w (.slice (resP p).2) (resP p).1 F) : Dp w (.slice (p.2.map (.int .i64))) v F:=by
 obtain ⟨u,c⟩:=p
 cases c with
 | nil => exact .nil _ _ (emptyS_of h)
 | cons x r =>
   cases h with
   | tag h => exact hd
theorem Wk.thawP {N : Nat} {S S' : List (Nat × AV)} {O : List (Nat × AO)} (r t1 t2 k1 k2 : Nat) {ps : List Tg} {p1 p2 : Tg} {z : Tg} (hr : lk r O=some (.res (ps.map resP))) (i1 i2 : Nat) (h1 : i1 < ps.length) (h2 : i2 < ps.length) (h12 : i1 ≠ i2) (hk : k1 ≠ k2)
 (e1 : ps.getD i1 z=p1) (e2 : ps.getD i2 z=p2) (hs1 : lk t1 S=some (.d (D.tg p1))) (hs2 : lk t2 S=some (.d (D.tg p2)))
 (hS : ∀ p ∈ S',(p.1=t1∧p.2=.sl k1)∨(p.1=t2∧p.2=.sl k2)∨(lk p.1 S=some p.2∧∃ d,p.2=.d d∧d.plain=true)) :
 Wk N ⟨S,O⟩ ⟨S',[(k1,.dp none (p1.2.map (.int .i64)) none),(k2,.dp none (p2.2.map (.int .i64)) none)]⟩:=fun Z β φ B M w0 a w hs => by
 have hOr:=hs.objs r _ hr
 have g1 : (ps.map resP).getD i1 (.slice none 0 0,[])=resP p1:=by rw [← e1]; simp [List.getD_eq_getElem?_getD,h1]
 have g2 : (ps.map resP).getD i2 (.slice none 0 0,[])=resP p2:=by rw [← e2]; simp [List.getD_eq_getElem?_getD,h2]
 have s1:=hs.slots t1 _ hs1
 have s2:=hs.slots t2 _ hs2
 cases hOr with
 | res hv hcc fr hfr hff hfd =>
   have d1:=hfr i1 (by rw [List.length_map]; exact h1)
   have d2:=hfr i2 (by rw [List.length_map]; exact h2)
   rw [g1] at d1
   rw [g2] at d2
   have hx1 : Rd (free Z φ O) w (D.tg p1) (a.tmps.getD t1 Go.undef):=by cases s1 with | d h => exact h
   have hx2 : Rd (free Z φ O) w (D.tg p2) (a.tmps.getD t2 Go.undef):=by cases s2 with | d h => exact h
   have D1:=dp_res hx1 d1
   have D2:=dp_res hx2 d2
   generalize hX1 : a.tmps.getD t1 Go.undef=x1 at *
   generalize hX2 : a.tmps.getD t2 Go.undef=x2 at *
   let β' : Nat->Value:=fun j => if j=k1 then x1 else if j=k2 then x2 else β j
   let φ' : Nat->Nat->Prop:=fun j => if j=k1 then fr i1 else if j=k2 then fr i2 else fun _ => False
   have b1 : β' k1=x1:=if_pos rfl
   have b2 : β' k2=x2:=by show (if k2=k1 then x1 else if k2=k2 then x2 else β k2)=x2; rw [if_neg (fun e => hk e.symm),if_pos rfl]
   have f1 : φ' k1=fr i1:=if_pos rfl
   have f2 : φ' k2=fr i2:=by show (if k2=k1 then fr i1 else if k2=k2 then fr i2 else fun _ => False)=fr i2; rw [if_neg (fun e => hk e.symm),if_pos rfl]
   have hko : ∀ {i x},lk i [(k1,AO.dp none (p1.2.map (D.int .i64)) none),(k2,AO.dp none (p2.2.map (D.int .i64)) none)]=some x->(i=k1∧x=.dp none (p1.2.map (.int .i64)) none)∨(i=k2∧x=.dp none (p2.2.map (.int .i64)) none):=fun {i x} h => by
    have:=lk_some_mem h
    simp only [List.mem_cons,List.not_mem_nil,or_false,Prod.mk.injEq] at this
    exact this
   have hlt : ∀ i g,fr i g->g < w.heap.size:=fun i g hg => by
    obtain ⟨_,_,_,h7⟩:=hcc g (hff i g hg)
    exact (Array.getElem?_eq_some_iff.1 h7).1
   have hfr' : ∀ {i x g},lk i [(k1,AO.dp none (p1.2.map (D.int .i64)) none),(k2,AO.dp none (p2.2.map (D.int .i64)) none)]=some x->φ' i g->φ r g:=fun {i x g} h hg => by
    rcases hko h with ⟨rfl,_⟩ | ⟨rfl,_⟩
    . rw [f1] at hg; exact hff _ _ hg
    . rw [f2] at hg; exact hff _ _ hg
   refine ⟨β',φ',⟨fun d hd => ?_,hs.nd.apart⟩,hs.size,fun i av hi => ?_,fun i x hi => ?_,fun i x g hi hg => hs.own r _ g hr (hfr' hi hg),fun i i' x x' g hi hi' hg hg' => ?_,hs.fr,hs.z⟩
   . obtain ⟨D0,q1,q2,q3,q4⟩:=hs.nd.each d hd
     refine ⟨D0,q1,⟨q2.1,fun i x hi hx hg => ?_⟩,q3,q4⟩
     obtain ⟨_,_,_,h7⟩:=hcc _ (hfr' hi hg)
     rw [q4] at h7; cases h7
   . rcases hS _ (lk_some_mem hi) with ⟨h3,h4⟩ | ⟨h3,h4⟩ | ⟨h3,d,h4,h5⟩
     . simp only at h3 h4
       subst h3; subst h4
       rw [hX1,← b1]; exact .sl _
     . simp only at h3 h4
       subst h3; subst h4
       rw [hX2,← b2]; exact .sl _
     . simp only at h3 h4
       subst h4
       have h6:=hs.slots i _ h3
       cases h6 with
       | d h6 =>
         have h7:=(Rel.d (β:=β) h6).plain (S':=free Z φ' [(k1,AO.dp none (p1.2.map (D.int .i64)) none),(k2,AO.dp none (p2.2.map (D.int .i64)) none)]) h5
         cases h7 with
         | d h7 => exact .d h7
   . rcases hko hi with ⟨rfl,rfl⟩ | ⟨rfl,rfl⟩
     . rw [b1,f1]; exact .dp (hlt i1) (DpO.of D1)
     . rw [b2,f2]; exact .dp (hlt i2) (DpO.of D2)
   . rcases hko hi with ⟨rfl,rfl⟩ | ⟨rfl,rfl⟩<;>rcases hko hi' with ⟨rfl,rfl⟩ | ⟨rfl,rfl⟩
     . rfl
     . rw [f1] at hg; rw [f2] at hg'; exact absurd (hfd _ _ g hg hg') h12
     . rw [f2] at hg; rw [f1] at hg'; exact absurd (hfd _ _ g hg' hg) h12
     . rfl
end Abs
