/- What functions of this program compute, over plain data. No condition. -/
import Derived.Test.YtkccabajcdphkaaDoorPO5
import Derived.Test.YtkccabajcdphkaaDoorR7
set_option linter.all false
open Nat renaming reduceEqDiff -> Qa, reduceLT -> Qb, reduceAdd -> Qc, reduceMul -> Qd, reduceSub -> Qe, reduceLeDiff -> Qf, reduceSubDiff -> Qg, reduceBEq -> Qh
open Bool renaming not_eq_true' -> Ba, not_eq_false' -> Bb, and_eq_true -> Bc, or_eq_true -> Bh, or_eq_false_iff -> Be
open Int renaming ofNat_lt -> Ia, ofNat_le -> Ib, not_lt -> Ic, not_le -> Ie
open Decidable renaming not_not -> Da
namespace Abs
open Go Go.RowKit
theorem Ctr.eat1 {P : Program} {f : FuncId} {r : D} {es : List D} {e : TypeId} {k : Nat} (h : Ctr P f [.slice es] true (.d r) []) : CtrM P f [.sl 0] [(0,.arr e k es)] [] true (.d r) []:=by
 refine ⟨h.1,fun S β φ w vs hl hr ho hd hG => ?_⟩
 have hb : ∀ g,φ 0 g->blocksOf φ [(0,AO.arr e k es)] g:=fun g hg => ⟨0,_,rfl,hg⟩
 refine (h.2 (fun g => S g∨φ 0 g) w vs (by simpa using hl) (fun i hi => ?_) (hG.sub (Nat.le_refl _) (fun _ _ h => h.elim) (fun _ _ _ h => .inl h) fun _ _ _ => rfl)).mono fun en w' ⟨v,he,hf,β',φ',h1,h2,h3,h4⟩ => ⟨v,he,⟨hf.os,hf.tape,hf.output,hf.le,hf.size,?_,?_⟩,β',φ',by simp,?_,by simp [lk],by simp [lk],by simp [lk]⟩
 . match i,hi with
   | 0, _ =>
     have:=hr 0 (by simp)
     simp only [List.getD_cons_zero] at this ⊢
     generalize vs.getD 0 Go.undef=y at *
     cases this
     exact rd_of_arr (ho 0 (.arr e k es) (by simp [lk])) (fun g hg _ => .inl hg.1) fun g hg => .inr hg
 . exact fun g hg _ => hf.block g hg fun h => h
 . exact hf.drawn
 . cases h1 with
   | d h1 =>
     refine .d (h1.weaken fun g hg => ⟨?_,by simp [lk]⟩)
     rcases hg.1 with h5 | ⟨_,h5 | h5⟩
     . exact .inl h5
     . exact .inr (.inr ⟨rfl,h5⟩)
     . exact .inr (.inl (hb g h5))
end Abs
namespace Abs.Y
open Go Go.Proofs Abs
set_option maxRecDepth 100000

theorem and_zero : ∀ m,m < 64->∀ k,k < 6->(m &&& 2 ^ k=0↔m.testBit k=false):=by decide +kernel
theorem clB_sub : ∀ m,m < 64->∀ k,k < 6->m.testBit k=true->clB m k=m - 2 ^ k∧2 ^ k<=m:=by decide +kernel
theorem clB_lt64 : ∀ m,m < 64->∀ k,k < 6->m.testBit k=false->clB m k=m:=by decide +kernel
def okL (p v : Int) (a : List (Int × Int)) (l : Int) : Bool:=ok1 p v a && okLit v l
def setR (p v : Int) (a : List (Int × Int)) (l : Int) : List (Int × Int):=if okL p v a l then spT (setV p (nV v) (l.natAbs - 1) (decide (0 < l)) a) else []
theorem setL_step {k : Nat} {pos : Bool} {a : List (Int × Int)} {i : Nat} (hi : i < a.length) : setL k pos (a.take (i + 1)) =
 if pos || !((a.getD i (0,0)).1.toNat.testBit k) then setL k pos (a.take i)++[(((clB (a.getD i (0,0)).1.toNat k : Nat) : Int),(a.getD i (0,0)).2)] else setL k pos (a.take i):=by
 unfold setL
 rw [take_succ (0,0) a i hi,List.filter_append,List.map_append,List.filter_cons,List.filter_nil]
 split
 . rfl
 . simp
theorem lit_of {u : Nat} {l : Int} (hu : u<=6) (h : okLit u l=true) : l ≠ 0∧l.natAbs<=u:=by
 have e : IntKind.i64.wrap (0 - (u : Int))=0 - u:=wrap_of (by omega)
 simp only [okLit,e,Bc,decide_eq_true_eq] at h
 omega
set_option maxHeartbeats 4000000 in
theorem iSet_ok (p v : Int) (a : List (Int × Int)) (l : Int) (hal : a.length<=1000) (hlb : -100000000<=l∧l<=100000000) :
 Ctr Tryd.prog 24 [.int .i64 p,.int .i64 v,D.tms a,.int .i64 l] true (.tup [.d (D.tms (setR p v a l)),.d (.bool (okL p v a l))]) []:=by
 have c1:=Ctr.tupN (ys:=[_,_]) (ringOf_ok p v)
 have c3:=isLiteral_ok v l
 unfold setR okL
 cases hpr : primeB p v with
 | false =>
   rw [hpr] at c1
   have e : ok1 p v a=false:=by rw [ok1,hpr]; rfl
   rw [e]
   simp only [Bool.false_and,Bool.false_eq_true,if_false]
   refine Ctr.of (n:=78) (rs:=[.tmp 8,.tmp 9]) Tryd.func24 rfl rfl Tryd.ntmps24 rfl rfl (by kernel_rfl) Tryd.checked.mixed ?_
   simp (disch:=first | omega | decide +kernel) only [go_sem,Qa,Qb,Qc,Qd,Qe,↓reduceIte,reduceCtorEq,Qf,Qg,Qh]
   (repeat' (first | ((first | (refine gsel_split (fun q' => ?_) (fun q' => ?_)<;>(have h':=q')<;>(try simp only [za1,za2,Ba,Bb,za3,ne_eq,za4,za5,za6,Ia,Ib,Ic,Ie,Da,Bc,Bh,Be,za7,za8] at h')<;>try (exfalso; omega)) | (have q':=trivial; first | refine callX_new (c1) rfl (by decide) ?_ | refine callY_new (c1) rfl ?_ | refine hE _ _ ret_ne ?_ | refine hE _ _ exit_ne ?_))<;>(try simp (disch:=first | omega | decide +kernel) only [q',go_sem,Qa,Qb,Qc,Qd,Qe,↓reduceIte,reduceCtorEq,Qf,Qg,Qh])<;>clear q') | refine hN _ ?_ ?_ Wk.kk | with_reducible refine And.intro ?_ ?_ | with_reducible omega | exact ok_ints | exact cells_ints | exact no_mem | with_reducible exact plain_ints | (refine le_maxLen ?_; omega) | (refine za9 ⟨?_,?_⟩) | (simp only [go_sem,Qc,Qb,zb1,zb2,forall_eq]; done)))
   all_goals (first | exact ret_s2 [8] rfl rfl)
 | true =>
   rw [hpr] at c1
   obtain ⟨hp,hu0,hu6⟩:=primeB_of hpr
   obtain ⟨u,rfl⟩:=Int.eq_ofNat_of_zero_le hu0
   have e : ok1 p (u : Int) a=isT p (2 ^ u) a:=by rw [ok1,hpr]; rfl
   have e2 : nV (u : Int)=2 ^ u:=rfl
   have c2 : Ctr Tryd.prog 66 [D.ring p u,D.tms a] false (.d (.bool (isT p (2 ^ u) a))) []:=is_ok hp (by omega) (by omega)
   rw [e,e2]
   cases hT : isT p (2 ^ u) a with
   | false =>
     rw [hT] at c2
     simp only [Bool.false_and,Bool.false_eq_true,if_false]
     refine Ctr.of (n:=78) (rs:=[.tmp 8,.tmp 9]) Tryd.func24 rfl rfl Tryd.ntmps24 rfl rfl (by kernel_rfl) Tryd.checked.mixed ?_
     simp (disch:=first | omega | decide +kernel) only [go_sem,Qa,Qb,Qc,Qd,Qe,↓reduceIte,reduceCtorEq,Qf,Qg,Qh]
     (repeat' (first | ((first | (refine gsel_split (fun q' => ?_) (fun q' => ?_)<;>(have h':=q')<;>(try simp only [za1,za2,Ba,Bb,za3,ne_eq,za4,za5,za6,Ia,Ib,Ic,Ie,Da,Bc,Bh,Be,za7,za8] at h')<;>try (exfalso; omega)) | (have q':=trivial; first | refine callX_new (c1) rfl (by decide) ?_ | refine callY_new (c1) rfl ?_ | refine callX_new (c2) rfl (by decide) ?_ | refine callY_new (c2) rfl ?_ | refine hE _ _ ret_ne ?_ | refine hE _ _ exit_ne ?_))<;>(try simp (disch:=first | omega | decide +kernel) only [q',go_sem,Qa,Qb,Qc,Qd,Qe,↓reduceIte,reduceCtorEq,Qf,Qg,Qh])<;>clear q') | refine hN _ ?_ ?_ Wk.kk | with_reducible refine And.intro ?_ ?_ | with_reducible omega | exact ok_ints | exact cells_ints | exact no_mem | with_reducible exact plain_ints | (refine le_maxLen ?_; omega) | (refine za9 ⟨?_,?_⟩) | (simp only [go_sem,Qc,Qb,zb1,zb2,forall_eq]; done)))
     all_goals (first | exact ret_s2 [8] rfl rfl)
   | true =>
     rw [hT] at c2
     cases hL : okLit (u : Int) l with
     | false =>
       rw [hL] at c3
       simp only [Bool.and_false,Bool.false_eq_true,if_false]
       refine Ctr.of (n:=78) (rs:=[.tmp 8,.tmp 9]) Tryd.func24 rfl rfl Tryd.ntmps24 rfl rfl (by kernel_rfl) Tryd.checked.mixed ?_
       simp (disch:=first | omega | decide +kernel) only [go_sem,Qa,Qb,Qc,Qd,Qe,↓reduceIte,reduceCtorEq,Qf,Qg,Qh]
       (repeat' (first | ((first | (refine gsel_split (fun q' => ?_) (fun q' => ?_)<;>(have h':=q')<;>(try simp only [za1,za2,Ba,Bb,za3,ne_eq,za4,za5,za6,Ia,Ib,Ic,Ie,Da,Bc,Bh,Be,za7,za8] at h')<;>try (exfalso; omega)) | (have q':=trivial; first | refine callX_new (c1) rfl (by decide) ?_ | refine callY_new (c1) rfl ?_ | refine callX_new (c2) rfl (by decide) ?_ | refine callY_new (c2) rfl ?_ | refine callX_new (c3) rfl (by decide) ?_ | refine callY_new (c3) rfl ?_ | refine hE _ _ ret_ne ?_ | refine hE _ _ exit_ne ?_))<;>(try simp (disch:=first | omega | decide +kernel) only [q',go_sem,Qa,Qb,Qc,Qd,Qe,↓reduceIte,reduceCtorEq,Qf,Qg,Qh])<;>clear q') | refine hN _ ?_ ?_ Wk.kk | with_reducible refine And.intro ?_ ?_ | with_reducible omega | exact ok_ints | exact cells_ints | exact no_mem | with_reducible exact plain_ints | (refine le_maxLen ?_; omega) | (refine za9 ⟨?_,?_⟩) | (simp only [go_sem,Qc,Qb,zb1,zb2,forall_eq]; done)))
       all_goals (first | exact ret_s2 [8] rfl rfl)
     | true =>
       rw [hL] at c3
       obtain ⟨hl0,hlu⟩:=lit_of (by omega) hL
       have hTm:=isT_tms hT
       have h6:=pow_le6 (u:=u) (by omega)
       have c4:=abs_ok l
       rw [absI_eq (by omega)] at c4
       have c5:=zero_ok hp (u:=u) (by omega)
       simp only [Bool.and_self,if_true]
       have hk : ∃ k,k=l.natAbs - 1:=⟨_,rfl⟩
       obtain ⟨k,hkd⟩:=hk
       have hln : (l.natAbs : Int)=(k : Int) + 1:=by omega
       have hk5 : k<=5:=by omega
       rw [hln] at c4
       rw [← hkd]
       have e1 : IntKind.wrap .i64 (1 * 2 ^ min (((k : Nat) : Int) + 1 - 1).toNat 64)=((2 ^ k : Nat) : Int):=by
        rw [show (((k : Nat) : Int) + 1 - 1).toNat=k by omega]; exact shl_one (by omega)
       have hk32 : 2 ^ k<=32:=Nat.pow_le_pow_right (n:=2) (by decide) hk5
       have hst:=fun i (hi : i < a.length) => setL_step (k:=k) (pos:=decide (0 < l)) (a:=a) hi
       have hvl:=fun i => Vec.sumP (p:=p) (by omega) (2 ^ u) (setL k (decide (0 < l)) (a.take i))
       have hfs:=fun i (q : Int × Int) => show sumP p (2 ^ u) (setL k (decide (0 < l)) (a.take i)++[q])=stP p (sumP p (2 ^ u) (setL k (decide (0 < l)) (a.take i))) q.1.toNat q.2 by rw [sumP,List.foldl_append]; rfl
       have h0 : sumP p (2 ^ u) (setL k (decide (0 < l)) (a.take 0))=List.replicate (2 ^ u) 0:=rfl
       have hfin : sumP p (2 ^ u) (setL k (decide (0 < l)) (a.take a.length))=setV p (2 ^ u) k (decide (0 < l)) a:=by rw [List.take_length]; rfl
       have hmem:=fun i (hi : i < a.length) => mem_tms hTm hi
       have c6:=termsP_ok (v:=setV p (2 ^ u) k (decide (0 < l)) a) (by rw [← hfin]; have:=(hvl a.length).1; omega)
       unfold D.spP at c6
       generalize setV p (2 ^ u) k (decide (0 < l)) a=G at *
       rw [← h0] at c5
       clear h0 hTm hT hL hlu e
       have hp6 : 2 ^ u<=64:=h6
       generalize 2 ^ u=n at *
       obtain ⟨f,hf⟩ : ∃ f : Nat->List Int,∀ i,f i=sumP p n (setL k (decide (0 < l)) (a.take i)):=⟨_,fun _ => rfl⟩
       have hstep : ∀ i,i < a.length->f (i + 1)=if decide (0 < l) || !((a.getD i (0,0)).1.toNat.testBit k) then (f i).set (clB (a.getD i (0,0)).1.toNat k) (((f i).getD (clB (a.getD i (0,0)).1.toNat k) 0 + (a.getD i (0,0)).2) % p) else f i:=fun i hi => by
        rw [hf,hf,hst i hi]
        split
        . rw [hfs,stP,Int.toNat_natCast]
        . rfl
       simp only [← hf] at hvl hfin c5
       clear hst hfs hf
       subst hfin
       simp only [D.ints] at c6
       refine Ctr.of (n:=78) (rs:=[.tmp 8,.tmp 9]) Tryd.func24 rfl rfl Tryd.ntmps24 rfl rfl (by kernel_rfl) Tryd.checked.mixed ?_
       simp (disch:=first | omega | decide +kernel) only [e1,go_sem,Qa,Qb,Qc,Qd,Qe,↓reduceIte,reduceCtorEq,Qf,Qg,Qh]
       (repeat' (first | ((first | (refine gsel_split (fun q' => ?_) (fun q' => ?_)<;>(have h':=q')<;>(try simp only [za1,za2,Ba,Bb,za3,ne_eq,za4,za5,za6,Ia,Ib,Ic,Ie,Da,Bc,Bh,Be,za7,za8] at h')<;>try (exfalso; omega)) | (have q':=trivial; first | refine callX_new (c1) rfl (by decide) ?_ | refine callY_new (c1) rfl ?_ | refine callX_new (c2) rfl (by decide) ?_ | refine callY_new (c2) rfl ?_ | refine callX_new (c3) rfl (by decide) ?_ | refine callY_new (c3) rfl ?_ | refine callX_new (c4) rfl (by decide) ?_ | refine callY_new (c4) rfl ?_ | refine callX_new (c5) rfl (by decide) ?_ | refine callY_new (c5) rfl ?_ | refine hE _ _ ret_ne ?_ | refine hE _ _ exit_ne ?_))<;>(try simp (disch:=first | omega | decide +kernel) only [q',e1,go_sem,Qa,Qb,Qc,Qd,Qe,↓reduceIte,reduceCtorEq,Qf,Qg,Qh])<;>clear q') | refine hN _ ?_ ?_ Wk.kk | with_reducible refine And.intro ?_ ?_ | with_reducible omega | exact ok_ints | exact cells_ints | exact no_mem | with_reducible exact plain_ints | (refine le_maxLen ?_; omega) | (refine za9 ⟨?_,?_⟩) | (simp only [go_sem,Qc,Qb,zb1,zb2,forall_eq]; done)))
       all_goals (first | omega | skip)
       refine Ok.loopN [75,74,73,72,71,70,69,68,67,66,65,64,63,62,61,60,59,58,57,56,55,54,53,52,51,50,49,48,47,46,45,44,41,40,39,38,37,36,35,34,33,32,31,30,29,28,27,26,25,24,23,22,21,20,19,18,17,16,15,14,7,6,5,4] (fun i (_ : Unit) => [(44,.d (.int .i64 (i : Nat)))]) (fun i (_ : Unit) => [(4200000,.arr 3 1 ((f i).map (.int .i64)))]) a.length (fun _ _ => True) () trivial (Wk.kk) ?_
       rintro R i ⟨⟩ hN hE hi _
       by_cases hlt : i < a.length
       . have hes:=el_tm hlt
         obtain ⟨m,hm,hm1,hc⟩:=hmem i hlt
         have hs:=hstep i hlt
         rw [hm1,Int.toNat_natCast] at hs
         rw [hm1] at hes
         have hv:=hvl i
         have hand:=bitV_and (a:=m) (b:=2 ^ k) (by omega) (by omega)
         have hcl:=bitV_andC (a:=m) (e:=k) (by omega) (by omega)
         have hz:=and_zero m (by omega) k (by omega)
         have hle:=clB_le m k
         have hck:=hv.2 (clB m k)
         have hvn:=hv.1
         clear hstep hvl hmem c1 c2 c3 c4 c5 c6
         generalize (a.getD i (0,0)).2=c at *
         generalize clB m k=o at *
         have em : ((f i).getD o 0 + c).tmod p=((f i).getD o 0 + c) % p:=Int.tmod_eq_emod_of_nonneg (by omega)
         have hp0 : ¬ p=0:=by omega
         by_cases hpos : 0 < l
         . rw [decide_eq_true hpos,Bool.true_or,if_pos rfl] at hs
           generalize f i=w at *
           generalize f (i + 1)=w' at *
           simp (disch:=first | omega | decide +kernel) only [hes,hcl,em,go_sem,Qa,Qb,Qc,Qd,Qe,↓reduceIte,reduceCtorEq,Qf,Qg,Qh]
           (repeat' (first | ((first | (refine gsel_split (fun q' => ?_) (fun q' => ?_)<;>(have h':=q')<;>(try simp only [za1,za2,Ba,Bb,za3,ne_eq,za4,za5,za6,Ia,Ib,Ic,Ie,Da,Bc,Bh,Be,za7,za8] at h')<;>try (exfalso; omega)) | (have q':=trivial; first | refine hE _ _ ret_ne ?_ | refine hE _ _ exit_ne ?_))<;>(try simp (disch:=first | omega | decide +kernel) only [q',hes,hcl,em,go_sem,Qa,Qb,Qc,Qd,Qe,↓reduceIte,reduceCtorEq,Qf,Qg,Qh])<;>clear q') | refine hN _ ?_ ?_ Wk.kk | with_reducible refine And.intro ?_ ?_ | with_reducible omega | exact ok_ints | exact cells_ints | exact no_mem | with_reducible exact plain_ints | (refine le_maxLen ?_; omega) | (refine za9 ⟨?_,?_⟩) | (simp only [go_sem,Qc,Qb,zb1,zb2,forall_eq]; done)))
           all_goals (first | omega | (subst hs; exact hN () _ hlt trivial (by refine Wk.auto ?_ ?_<;>simp [extraK,lk,killL,St.kill,wipeO,wipeS,AV.has,AV.hasL,AO.wipe,List.map_set,updSt,insL,dropS,ins,List.map_set])))
         . rw [decide_eq_false hpos,Bool.false_or] at hs
           cases hb : m.testBit k with
           | false =>
             have h0:=hz.2 hb
             rw [hb,Bool.not_false,if_pos rfl] at hs
             rw [h0] at hand
             generalize f i=w at *
             generalize f (i + 1)=w' at *
             simp (disch:=first | omega | decide +kernel) only [hes,hcl,em,hand,go_sem,Qa,Qb,Qc,Qd,Qe,↓reduceIte,reduceCtorEq,Qf,Qg,Qh]
             (repeat' (first | ((first | (refine gsel_split (fun q' => ?_) (fun q' => ?_)<;>(have h':=q')<;>(try simp only [za1,za2,Ba,Bb,za3,ne_eq,za4,za5,za6,Ia,Ib,Ic,Ie,Da,Bc,Bh,Be,za7,za8] at h')<;>try (exfalso; omega)) | (have q':=trivial; first | refine hE _ _ ret_ne ?_ | refine hE _ _ exit_ne ?_))<;>(try simp (disch:=first | omega | decide +kernel) only [q',hes,hcl,em,hand,go_sem,Qa,Qb,Qc,Qd,Qe,↓reduceIte,reduceCtorEq,Qf,Qg,Qh])<;>clear q') | refine hN _ ?_ ?_ Wk.kk | with_reducible refine And.intro ?_ ?_ | with_reducible omega | exact ok_ints | exact cells_ints | exact no_mem | with_reducible exact plain_ints | (refine le_maxLen ?_; omega) | (refine za9 ⟨?_,?_⟩) | (simp only [go_sem,Qc,Qb,zb1,zb2,forall_eq]; done)))
             all_goals (first | omega | (subst hs; exact hN () _ hlt trivial (by refine Wk.auto ?_ ?_<;>simp [extraK,lk,killL,St.kill,wipeO,wipeS,AV.has,AV.hasL,AO.wipe,List.map_set,updSt,insL,dropS,ins,List.map_set])))
           | true =>
             have h0 : ¬ m &&& 2 ^ k=0:=fun h => by have:=hz.1 h; rw [hb] at this; cases this
             rw [hb,Bool.not_true,if_neg (by simp)] at hs
             generalize m &&& 2 ^ k=z at *
             generalize f i=w at *
             generalize f (i + 1)=w' at *
             simp (disch:=first | omega | decide +kernel) only [hes,hcl,em,hand,go_sem,Qa,Qb,Qc,Qd,Qe,↓reduceIte,reduceCtorEq,Qf,Qg,Qh]
             (repeat' (first | ((first | (refine gsel_split (fun q' => ?_) (fun q' => ?_)<;>(have h':=q')<;>(try simp only [za1,za2,Ba,Bb,za3,ne_eq,za4,za5,za6,Ia,Ib,Ic,Ie,Da,Bc,Bh,Be,za7,za8] at h')<;>try (exfalso; omega)) | (have q':=trivial; first | refine hE _ _ ret_ne ?_ | refine hE _ _ exit_ne ?_))<;>(try simp (disch:=first | omega | decide +kernel) only [q',hes,hcl,em,hand,go_sem,Qa,Qb,Qc,Qd,Qe,↓reduceIte,reduceCtorEq,Qf,Qg,Qh])<;>clear q') | refine hN _ ?_ ?_ Wk.kk | with_reducible refine And.intro ?_ ?_ | with_reducible omega | exact ok_ints | exact cells_ints | exact no_mem | with_reducible exact plain_ints | (refine le_maxLen ?_; omega) | (refine za9 ⟨?_,?_⟩) | (simp only [go_sem,Qc,Qb,zb1,zb2,forall_eq]; done)))
             all_goals (first | omega | (subst hs; exact hN () _ hlt trivial (by refine Wk.auto ?_ ?_<;>simp [extraK,lk,killL,St.kill,wipeO,wipeS,AV.has,AV.hasL,AO.wipe,List.map_set,updSt,insL,dropS,ins,])))
       . obtain rfl : i=a.length:=by omega
         have c6:=Ctr.eat1 (e:=3) (k:=1) c6
         simp (disch:=first | omega | decide +kernel) only [go_sem,Qa,Qb,Qc,Qd,Qe,↓reduceIte,reduceCtorEq,Qf,Qg,Qh]
         (repeat' (first | ((first | (refine gsel_split (fun q' => ?_) (fun q' => ?_)<;>(have h':=q')<;>(try simp only [za1,za2,Ba,Bb,za3,ne_eq,za4,za5,za6,Ia,Ib,Ic,Ie,Da,Bc,Bh,Be,za7,za8] at h')<;>try (exfalso; omega)) | (have q':=trivial; first | refine callX_mut [4200000] [4200000] [4200000] (c6) ⟨.inl rfl,trivial⟩ ⟨rfl,trivial⟩ rfl (by simp [dstB]) ?_ | refine hE _ _ ret_ne ?_ | refine hE _ _ exit_ne ?_))<;>(try simp (disch:=first | omega | decide +kernel) only [q',go_sem,Qa,Qb,Qc,Qd,Qe,↓reduceIte,reduceCtorEq,Qf,Qg,Qh])<;>clear q') | refine hN _ ?_ ?_ Wk.kk | with_reducible refine And.intro ?_ ?_ | with_reducible omega | exact ok_ints | exact cells_ints | exact no_mem | with_reducible exact plain_ints | (refine le_maxLen ?_; omega) | (refine za9 ⟨?_,?_⟩) | (simp only [go_sem,Qc,Qb,zb1,zb2,forall_eq]; done)))
         all_goals (first | omega | exact ret_s2 [] rfl rfl)
set_option maxHeartbeats 4000000 in
theorem sSet_ok (p v : Int) (a : List (Int × Int)) (l : Int) (hal : a.length<=1000) (hlb : -100000000<=l∧l<=100000000) :
 Ctr Tryd.prog 25 [.int .i64 p,.int .i64 v,D.tms a,.int .i64 l] true (.tup [.d (D.tms (setR p v a l)),.d (.bool (okL p v a l))]) []:=by
 have c1:=l18Good1_ok p v a hal
 have c3:=l2Lit_ok v l
 unfold setR okL
 cases h1 : ok1 p v a with
 | false =>
   rw [h1] at c1
   simp only [Bool.false_and,Bool.false_eq_true,if_false]
   refine Ctr.of (n:=99) (rs:=[.tmp 8,.tmp 9]) Tryd.func25 rfl rfl Tryd.ntmps25 rfl rfl (by kernel_rfl) Tryd.checked.mixed ?_
   simp (disch:=first | omega | decide +kernel) only [go_sem,Qa,Qb,Qc,Qd,Qe,↓reduceIte,reduceCtorEq,Qf,Qg,Qh]
   (repeat' (first | ((first | (refine gsel_split (fun q' => ?_) (fun q' => ?_)<;>(have h':=q')<;>(try simp only [za1,za2,Ba,Bb,za3,ne_eq,za4,za5,za6,Ia,Ib,Ic,Ie,Da,Bc,Bh,Be,za7,za8] at h')<;>try (exfalso; omega)) | (have q':=trivial; first | refine callX_new (c1) rfl (by decide) ?_ | refine callY_new (c1) rfl ?_ | refine hE _ _ ret_ne ?_ | refine hE _ _ exit_ne ?_))<;>(try simp (disch:=first | omega | decide +kernel) only [q',go_sem,Qa,Qb,Qc,Qd,Qe,↓reduceIte,reduceCtorEq,Qf,Qg,Qh])<;>clear q') | refine hN _ ?_ ?_ Wk.kk | with_reducible refine And.intro ?_ ?_ | with_reducible omega | exact ok_ints | exact cells_ints | exact no_mem | with_reducible exact plain_ints | (refine le_maxLen ?_; omega) | (refine za9 ⟨?_,?_⟩) | (simp only [go_sem,Qc,Qb,zb1,zb2,forall_eq]; done)))
   all_goals (first | exact ret_s2 [24] rfl rfl)
 | true =>
   rw [h1] at c1
   obtain ⟨u,g,hn,hT⟩:=ok1_of h1
   obtain rfl:=g.hv
   have hp:=g.hp
   have hu:=g.hu
   have e2 : nV (u : Int)=2 ^ u:=rfl
   rw [e2]
   cases hL : okLit (u : Int) l with
   | false =>
     rw [hL] at c3
     simp only [Bool.and_false,Bool.false_eq_true,if_false]
     refine Ctr.of (n:=99) (rs:=[.tmp 8,.tmp 9]) Tryd.func25 rfl rfl Tryd.ntmps25 rfl rfl (by kernel_rfl) Tryd.checked.mixed ?_
     simp (disch:=first | omega | decide +kernel) only [go_sem,Qa,Qb,Qc,Qd,Qe,↓reduceIte,reduceCtorEq,Qf,Qg,Qh]
     (repeat' (first | ((first | (refine gsel_split (fun q' => ?_) (fun q' => ?_)<;>(have h':=q')<;>(try simp only [za1,za2,Ba,Bb,za3,ne_eq,za4,za5,za6,Ia,Ib,Ic,Ie,Da,Bc,Bh,Be,za7,za8] at h')<;>try (exfalso; omega)) | (have q':=trivial; first | refine callX_new (c1) rfl (by decide) ?_ | refine callY_new (c1) rfl ?_ | refine callX_new (c3) rfl (by decide) ?_ | refine callY_new (c3) rfl ?_ | refine hE _ _ ret_ne ?_ | refine hE _ _ exit_ne ?_))<;>(try simp (disch:=first | omega | decide +kernel) only [q',go_sem,Qa,Qb,Qc,Qd,Qe,↓reduceIte,reduceCtorEq,Qf,Qg,Qh])<;>clear q') | refine hN _ ?_ ?_ Wk.kk | with_reducible refine And.intro ?_ ?_ | with_reducible omega | exact ok_ints | exact cells_ints | exact no_mem | with_reducible exact plain_ints | (refine le_maxLen ?_; omega) | (refine za9 ⟨?_,?_⟩) | (simp only [go_sem,Qc,Qb,zb1,zb2,forall_eq]; done)))
     all_goals (first | exact ret_s2 [24] rfl rfl)
   | true =>
     rw [hL] at c3
     obtain ⟨hl0,hlu⟩:=lit_of (by omega) hL
     have hTm:=isT_tms hT
     have h6:=pow_le6 (u:=u) (by omega)
     have h61 : 1<=2 ^ u:=Nat.one_le_two_pow
     have c4:=l2Var_ok l
     have ev : varI l=l.natAbs:=by
      unfold varI
      split
      . rw [wrap_of (by omega)]; omega
      . omega
     rw [ev] at c4
     simp only [Bool.and_self,if_true]
     have hk : ∃ k,k=l.natAbs - 1:=⟨_,rfl⟩
     obtain ⟨k,hkd⟩:=hk
     have hln : (l.natAbs : Int)=(k : Int) + 1:=by omega
     have hk5 : k<=5:=by omega
     rw [hln] at c4
     rw [← hkd]
     have e1 : IntKind.wrap .i64 (1 * 2 ^ min u 64)=((2 ^ u : Nat) : Int):=shl_one (by omega)
     have e1k : IntKind.wrap .i64 (1 * 2 ^ min (((k : Nat) : Int) + 1 - 1).toNat 64)=((2 ^ k : Nat) : Int):=by
      rw [show (((k : Nat) : Int) + 1 - 1).toNat=k by omega]; exact shl_one (by omega)
     have hk32 : 2 ^ k<=32:=Nat.pow_le_pow_right (n:=2) (by decide) hk5
     have hst:=fun i (hi : i < a.length) => setL_step (k:=k) (pos:=decide (0 < l)) (a:=a) hi
     have hfs:=fun i (q : Int × Int) => show sumT (2 ^ u) (setL k (decide (0 < l)) (a.take i)++[q])=(sumT (2 ^ u) (setL k (decide (0 < l)) (a.take i))).set q.1.toNat ((sumT (2 ^ u) (setL k (decide (0 < l)) (a.take i))).getD q.1.toNat 0 + q.2) by rw [sumT,List.foldl_append]; rfl
     have h0 : sumT (2 ^ u) (setL k (decide (0 < l)) (a.take 0))=List.replicate (2 ^ u) 0:=rfl
     have hfin : (sumT (2 ^ u) (setL k (decide (0 < l)) (a.take a.length))).map (fun x => x % p)=setV p (2 ^ u) k (decide (0 < l)) a:=by rw [List.take_length,sum_mod]; rfl
     have hmem:=fun i (hi : i < a.length) => mem_tms hTm hi
     have hal6 : a.length<=64:=by
      have h7:=sp_dn hT
      have h8:=sp_len (dnT (2 ^ u) a)
      rw [h7,dnT_len] at h8
      omega
     have hbd : ∀ i,∀ k',0<=(sumT (2 ^ u) (setL k (decide (0 < l)) (a.take i))).getD k' 0∧(sumT (2 ^ u) (setL k (decide (0 < l)) (a.take i))).getD k' 0<=256:=fun i k' => by
      have h1 : ∀ t ∈ setL k (decide (0 < l)) (a.take i),0<=t.2∧t.2<=4:=fun t ht => by
       obtain ⟨s,hs,rfl⟩:=List.mem_map.1 ht
       have:=(hTm s (List.mem_of_mem_take (List.mem_filter.1 hs).1)).2
       dsimp only
       omega
      have:=sumT_bd (n:=2 ^ u) (c:=4) (K:=0) _ (List.replicate (2 ^ u) 0) h1 (by decide) (fun k => by rw [getD_zero]; omega) k'
      have h2:=setL_len k (decide (0 < l)) (a.take i)
      rw [List.length_take] at h2
      unfold sumT
      omega
     have hlen : ∀ i,(sumT (2 ^ u) (setL k (decide (0 < l)) (a.take i))).length=2 ^ u:=fun i => sumT_len _ _
     have c5:=l18Sparse_ok (p:=p) hp (u:=u) (by omega) (v:=sumT (2 ^ u) (setL k (decide (0 < l)) (a.take a.length))) (by rw [hlen]; omega) (fun k' => by have:=hbd a.length k'; omega)
     rw [hfin] at c5
     have hz : List.replicate (2 ^ u) (D.int .i64 0)=(List.replicate (2 ^ u) (0 : Int)).map (.int .i64):=by rw [List.map_replicate]
     generalize spT (setV p (2 ^ u) k (decide (0 < l)) a)=T at *
     rw [← h0] at hz
     clear h0 hTm hT hL hlu hfin
     generalize 2 ^ u=n at *
     obtain ⟨f,hf⟩ : ∃ f : Nat->List Int,∀ i,f i=sumT n (setL k (decide (0 < l)) (a.take i)):=⟨_,fun _ => rfl⟩
     have hstep : ∀ i,i < a.length->f (i + 1)=if decide (0 < l) || !((a.getD i (0,0)).1.toNat.testBit k) then (f i).set (clB (a.getD i (0,0)).1.toNat k) ((f i).getD (clB (a.getD i (0,0)).1.toNat k) 0 + (a.getD i (0,0)).2) else f i:=fun i hi => by
      rw [hf,hf,hst i hi]
      split
      . rw [hfs,Int.toNat_natCast]
      . rfl
     simp only [← hf] at hbd hlen c5 hz
     clear hst hfs hf
     simp only [D.ints] at c5
     refine Ctr.of (n:=99) (rs:=[.tmp 8,.tmp 9]) Tryd.func25 rfl rfl Tryd.ntmps25 rfl rfl (by kernel_rfl) Tryd.checked.mixed ?_
     simp (disch:=first | omega | decide +kernel) only [e1,e1k,go_sem,Qa,Qb,Qc,Qd,Qe,↓reduceIte,reduceCtorEq,Qf,Qg,Qh]
     (repeat' (first | ((first | (refine gsel_split (fun q' => ?_) (fun q' => ?_)<;>(have h':=q')<;>(try simp only [za1,za2,Ba,Bb,za3,ne_eq,za4,za5,za6,Ia,Ib,Ic,Ie,Da,Bc,Bh,Be,za7,za8] at h')<;>try (exfalso; omega)) | (have q':=trivial; first | refine callX_new (c1) rfl (by decide) ?_ | refine callY_new (c1) rfl ?_ | refine callX_new (c3) rfl (by decide) ?_ | refine callY_new (c3) rfl ?_ | refine callX_new (c4) rfl (by decide) ?_ | refine callY_new (c4) rfl ?_ | refine hE _ _ ret_ne ?_ | refine hE _ _ exit_ne ?_))<;>(try simp (disch:=first | omega | decide +kernel) only [q',e1,e1k,go_sem,Qa,Qb,Qc,Qd,Qe,↓reduceIte,reduceCtorEq,Qf,Qg,Qh])<;>clear q') | refine hN _ ?_ ?_ Wk.kk | with_reducible refine And.intro ?_ ?_ | with_reducible omega | exact ok_ints | exact cells_ints | exact no_mem | with_reducible exact plain_ints | (refine le_maxLen ?_; omega) | (refine za9 ⟨?_,?_⟩) | (simp only [go_sem,Qc,Qb,zb1,zb2,forall_eq]; done)))
     all_goals (first | omega | skip)
     rw [hz]
     refine Ok.loopN [95,94,93,92,91,90,89,88,87,86,85,84,83,82,81,80,79,78,77,76,75,74,73,72,71,70,69,68,67,66,65,64,63,62,61,60,59,58,57,56,55,54,53,52,51,50,49,48,47,46,45,44,43,42,41,40,39,38,37,36,35,34,33,32,31,30,29,28,27,26,25,24,23,22,21,20,19,18,17,16,15,14,13,12,7,6,5,4] (fun i (_ : Unit) => [(12,.d (.int .i64 (i : Nat)))]) (fun i (_ : Unit) => [(27,.arr 3 1 ((f i).map (.int .i64)))]) a.length (fun _ _ => True) () trivial (Wk.kk) ?_
     rintro R i ⟨⟩ hN hE hi _
     by_cases hlt : i < a.length
     . have hes:=el_tm hlt
       obtain ⟨m,hm,hm1,hc⟩:=hmem i hlt
       have hs:=hstep i hlt
       rw [hm1,Int.toNat_natCast] at hs
       rw [hm1] at hes
       have hvn:=hlen i
       have hand:=bitV_and (a:=m) (b:=2 ^ k) (by omega) (by omega)
       have hzz:=and_zero m (by omega) k (by omega)
       have hsub:=clB_sub m (by omega) k (by omega)
       have hno:=clB_lt64 m (by omega) k (by omega)
       have hle:=clB_le m k
       have hck:=hbd i (clB m k)
       clear hstep hbd hlen hmem c1 c3 c4 c5 hz
       generalize (a.getD i (0,0)).2=c at *
       cases hb : m.testBit k with
       | false =>
         have h0:=hzz.2 hb
         rw [hno hb] at hs hck
         rw [hb,Bool.not_false,Bool.or_true,if_pos rfl] at hs
         rw [h0] at hand
         generalize f i=w at *
         generalize f (i + 1)=w' at *
         simp (disch:=first | omega | decide +kernel) only [hes,hand,go_sem,Qa,Qb,Qc,Qd,Qe,↓reduceIte,reduceCtorEq,Qf,Qg,Qh]
         (repeat' (first | ((first | (refine gsel_split (fun q' => ?_) (fun q' => ?_)<;>(have h':=q')<;>(try simp only [za1,za2,Ba,Bb,za3,ne_eq,za4,za5,za6,Ia,Ib,Ic,Ie,Da,Bc,Bh,Be,za7,za8] at h')<;>try (exfalso; omega)) | (have q':=trivial; first | refine hE _ _ ret_ne ?_ | refine hE _ _ exit_ne ?_))<;>(try simp (disch:=first | omega | decide +kernel) only [q',hes,hand,go_sem,Qa,Qb,Qc,Qd,Qe,↓reduceIte,reduceCtorEq,Qf,Qg,Qh])<;>clear q') | refine hN _ ?_ ?_ Wk.kk | with_reducible refine And.intro ?_ ?_ | with_reducible omega | exact ok_ints | exact cells_ints | exact no_mem | with_reducible exact plain_ints | (refine le_maxLen ?_; omega) | (refine za9 ⟨?_,?_⟩) | (simp only [go_sem,Qc,Qb,zb1,zb2,forall_eq]; done)))
         all_goals (first | omega | (subst hs; exact hN () _ hlt trivial (by refine Wk.auto ?_ ?_<;>simp [extraK,lk,killL,St.kill,wipeO,wipeS,AV.has,AV.hasL,AO.wipe,List.map_set,updSt,insL,dropS,ins,List.map_set])))
       | true =>
         have h0 : ¬ m &&& 2 ^ k=0:=fun h => by have:=hzz.1 h; rw [hb] at this; cases this
         obtain ⟨hs1,hs2⟩:=hsub hb
         have hm2 : (m : Int) - ((2 ^ k : Nat) : Int)=((clB m k : Nat) : Int):=by rw [hs1]; omega
         rw [hb,Bool.not_true,Bool.or_false] at hs
         generalize m &&& 2 ^ k=z at *
         generalize clB m k=o at *
         generalize 2 ^ k=q at *
         by_cases hpos : 0 < l
         . rw [decide_eq_true hpos,if_pos rfl] at hs
           generalize f i=w at *
           generalize f (i + 1)=w' at *
           simp (disch:=first | omega | decide +kernel) only [hes,hand,hm2,go_sem,Qa,Qb,Qc,Qd,Qe,↓reduceIte,reduceCtorEq,Qf,Qg,Qh]
           (repeat' (first | ((first | (refine gsel_split (fun q' => ?_) (fun q' => ?_)<;>(have h':=q')<;>(try simp only [za1,za2,Ba,Bb,za3,ne_eq,za4,za5,za6,Ia,Ib,Ic,Ie,Da,Bc,Bh,Be,za7,za8] at h')<;>try (exfalso; omega)) | (have q':=trivial; first | refine hE _ _ ret_ne ?_ | refine hE _ _ exit_ne ?_))<;>(try simp (disch:=first | omega | decide +kernel) only [q',hes,hand,hm2,go_sem,Qa,Qb,Qc,Qd,Qe,↓reduceIte,reduceCtorEq,Qf,Qg,Qh])<;>clear q') | refine hN _ ?_ ?_ Wk.kk | with_reducible refine And.intro ?_ ?_ | with_reducible omega | exact ok_ints | exact cells_ints | exact no_mem | with_reducible exact plain_ints | (refine le_maxLen ?_; omega) | (refine za9 ⟨?_,?_⟩) | (simp only [go_sem,Qc,Qb,zb1,zb2,forall_eq]; done)))
           all_goals (first | omega | (subst hs; exact hN () _ hlt trivial (by refine Wk.auto ?_ ?_<;>simp [extraK,lk,killL,St.kill,wipeO,wipeS,AV.has,AV.hasL,AO.wipe,List.map_set,updSt,insL,dropS,ins,List.map_set])))
         . rw [decide_eq_false hpos,if_neg (by simp)] at hs
           generalize f i=w at *
           generalize f (i + 1)=w' at *
           simp (disch:=first | omega | decide +kernel) only [hes,hand,go_sem,Qa,Qb,Qc,Qd,Qe,↓reduceIte,reduceCtorEq,Qf,Qg,Qh]
           (repeat' (first | ((first | (refine gsel_split (fun q' => ?_) (fun q' => ?_)<;>(have h':=q')<;>(try simp only [za1,za2,Ba,Bb,za3,ne_eq,za4,za5,za6,Ia,Ib,Ic,Ie,Da,Bc,Bh,Be,za7,za8] at h')<;>try (exfalso; omega)) | (have q':=trivial; first | refine hE _ _ ret_ne ?_ | refine hE _ _ exit_ne ?_))<;>(try simp (disch:=first | omega | decide +kernel) only [q',hes,hand,go_sem,Qa,Qb,Qc,Qd,Qe,↓reduceIte,reduceCtorEq,Qf,Qg,Qh])<;>clear q') | refine hN _ ?_ ?_ Wk.kk | with_reducible refine And.intro ?_ ?_ | with_reducible omega | exact ok_ints | exact cells_ints | exact no_mem | with_reducible exact plain_ints | (refine le_maxLen ?_; omega) | (refine za9 ⟨?_,?_⟩) | (simp only [go_sem,Qc,Qb,zb1,zb2,forall_eq]; done)))
           all_goals (first | omega | (subst hs; exact hN () _ hlt trivial (by refine Wk.auto ?_ ?_<;>simp [extraK,lk,killL,St.kill,wipeO,wipeS,AV.has,AV.hasL,AO.wipe,List.map_set,updSt,insL,dropS,ins,])))
     . obtain rfl : i=a.length:=by omega
       simp (disch:=first | omega | decide +kernel) only [go_sem,Qa,Qb,Qc,Qd,Qe,↓reduceIte,reduceCtorEq,Qf,Qg,Qh]
       (repeat' (first | ((first | (refine gsel_split (fun q' => ?_) (fun q' => ?_)<;>(have h':=q')<;>(try simp only [za1,za2,Ba,Bb,za3,ne_eq,za4,za5,za6,Ia,Ib,Ic,Ie,Da,Bc,Bh,Be,za7,za8] at h')<;>try (exfalso; omega)) | (have q':=trivial; first | refine callX_new (c5) rfl (by decide) ?_ | refine callY_new (c5) rfl ?_ | refine hE _ _ ret_ne ?_ | refine hE _ _ exit_ne ?_))<;>(try simp (disch:=first | omega | decide +kernel) only [q',go_sem,Qa,Qb,Qc,Qd,Qe,↓reduceIte,reduceCtorEq,Qf,Qg,Qh])<;>clear q') | refine hN _ ?_ ?_ Wk.kk | with_reducible refine And.intro ?_ ?_ | with_reducible omega | exact ok_ints | exact cells_ints | exact no_mem | with_reducible exact plain_ints | (refine le_maxLen ?_; omega) | (refine za9 ⟨?_,?_⟩) | (simp only [go_sem,Qc,Qb,zb1,zb2,forall_eq]; done)))
       all_goals (first | omega | exact ret_s2 [9900000] rfl rfl)
end Abs.Y

namespace Abs.Y
open Go Go.Proofs Abs
set_option maxRecDepth 100000

theorem retR_d3 {P : Program} {a b c : Nat} {x y z : D} {st : St} {u : Nat->Value} {R : AV->List (Nat × AO)->Prop} (h1 : lk a st.s=some (.d x)) (h2 : lk b st.s=some (.d y)) (h3 : lk c st.s=some (.d z)) (hR : R (.tup [.d x,.d y,.d z]) []) : retR P [.tmp a,.tmp b,.tmp c] u [] true R .ret st:=by
 refine ⟨_,_,hR,?_⟩
 simp only [retM,resV,h1,h2,h3]
 exact ⟨trivial,⟨fun q => q,rfl,by simp,by simp,trivial⟩,.inl trivial⟩
theorem retR_d4 {P : Program} {a b c d : Nat} {x y z w : D} {st : St} {u : Nat->Value} {R : AV->List (Nat × AO)->Prop} (h1 : lk a st.s=some (.d x)) (h2 : lk b st.s=some (.d y)) (h3 : lk c st.s=some (.d z)) (h4 : lk d st.s=some (.d w)) (hR : R (.tup [.d x,.d y,.d z,.d w]) []) : retR P [.tmp a,.tmp b,.tmp c,.tmp d] u [] true R .ret st:=by
 refine ⟨_,_,hR,?_⟩
 simp only [retM,resV,h1,h2,h3,h4]
 exact ⟨trivial,⟨fun q => q,rfl,by simp,by simp,trivial⟩,.inl trivial⟩
abbrev T2:=List (Int × Int)
@[reducible] def QP2 : AV -> Prop := fun r => ∃ x : (Int × Int) × (T2 × T2), r = .tup [.d (.int .i64 x.1.1), .d (.int .i64 x.1.2), .d (D.tms x.2.1), .d (D.tms x.2.2)] ∧
  (2<=x.1.1∧x.1.1<=7∧-1<=x.1.2∧x.1.2<=7)∧x.2.1.length<=70∧x.2.2.length<=70
@[reducible] def QP1 : AV -> Prop := fun r => ∃ x : (Int × Int) × (T2 × Int), r = .tup [.d (.int .i64 x.1.1), .d (.int .i64 x.1.2), .d (D.tms x.2.1), .d (.int .i64 x.2.2)] ∧
  (2<=x.1.1∧x.1.1<=7∧-1<=x.1.2∧x.1.2<=7)∧x.2.1.length<=70∧-1000001<=x.2.2∧x.2.2<=1000001
@[reducible] def QP0 : AV -> Prop := fun r => ∃ x : (Int × Int) × T2, r = .tup [.d (.int .i64 x.1.1), .d (.int .i64 x.1.2), .d (D.tms x.2)] ∧
  (2<=x.1.1∧x.1.1<=7∧-1<=x.1.2∧x.1.2<=7)∧x.2.length<=200
theorem drawAdd_ok {code : List Int} (hc : CodeOK code) : CtrR Tryd.prog 57 [.d (D.bytes code)] [] [] true fun r oo => oo=[]∧QP2 r:=by
 have c1:=prime18_ok hc
 have c3:=fun (p v : Int) h => poly_ok hc p v h
 refine CtrR.ofO (n:=27) (rs:=[.tmp 2,.tmp 3,.tmp 4,.tmp 5]) Tryd.func57 rfl rfl Tryd.ntmps57 rfl rfl (by kernel_rfl) Tryd.checked.mixed ?_; intro u
 refine Ok.endsW ?_
 refine Ok.go ?_
 simp (disch:=first | omega | decide +kernel) only [curO,curB,D.bytes,go_sem,Qa,Qb,Qc,Qd,Qe,↓reduceIte,reduceCtorEq,Qf,Qg,Qh]
 (repeat' (first | ((first | (refine gsel_split (fun q' => ?_) (fun q' => ?_)<;>(have h':=q')<;>(try simp only [za1,za2,Ba,Bb,za3,ne_eq,za4,za5,za6,Ia,Ib,Ic,Ie,Da,Bc,Bh,Be,za7,za8] at h')<;>try (exfalso; omega)) | (have q':=trivial; first | (refine callX_draw (at_:=0) _ (c1) ⟨.inl rfl,trivial⟩ rfl (by simp [dstB]) (by omega) (by omega) (by omega) ?_; rintro _ ata sda hata1 hata2 hsda1 hsda2 ⟨xa,rfl,hxa⟩) | (refine callX_drawR _ (c3 _ _ (by omega)) ⟨.inl rfl,.inl rfl,.inl rfl,trivial⟩ rfl (by decide) (by omega) (by omega) (by omega) (by omega) ?_; rintro atc sdc _ hatc1 hatc2 hsdc1 hsdc2 ⟨xc,rfl,hxc⟩) | refine hE _ _ ret_ne ?_ | refine hE _ _ exit_ne ?_))<;>(try simp (disch:=first | omega | decide +kernel) only [q',curO,curB,D.bytes,go_sem,Qa,Qb,Qc,Qd,Qe,↓reduceIte,reduceCtorEq,Qf,Qg,Qh])<;>clear q') | refine hN _ ?_ ?_ Wk.kk | with_reducible refine And.intro ?_ ?_ | with_reducible omega | exact ok_ints | exact cells_ints | exact no_mem | with_reducible exact plain_ints | (refine le_maxLen ?_; omega) | (refine za9 ⟨?_,?_⟩) | (simp only [go_sem,Qc,Qb,zb1,zb2,forall_eq]; done)))
 rename_i xz hxz
 refine endF [2300000,2700000] ?_
 exact retR_d4 rfl rfl rfl rfl ⟨rfl,((xa.1,xa.2),(xz,xc)),rfl,hxa,hxz,hxc⟩
theorem drawMul_ok {code : List Int} (hc : CodeOK code) : CtrR Tryd.prog 8 [.d (D.bytes code)] [] [] true fun r oo => oo=[]∧QP2 r:=by
 have c1:=drawAdd_ok hc
 refine CtrR.ofO (n:=12) (rs:=[.tmp 2,.tmp 3,.tmp 4,.tmp 5]) Tryd.func8 rfl rfl Tryd.ntmps8 rfl rfl (by kernel_rfl) Tryd.checked.mixed ?_; intro u
 refine Ok.endsW ?_
 refine Ok.go ?_
 simp (disch:=first | omega | decide +kernel) only [D.bytes,go_sem,Qa,Qb,Qc,Qd,Qe,↓reduceIte,reduceCtorEq,Qf,Qg,Qh]
 (repeat' (first | ((first | (refine gsel_split (fun q' => ?_) (fun q' => ?_)<;>(have h':=q')<;>(try simp only [za1,za2,Ba,Bb,za3,ne_eq,za4,za5,za6,Ia,Ib,Ic,Ie,Da,Bc,Bh,Be,za7,za8] at h')<;>try (exfalso; omega)) | (have q':=trivial; first | (refine callX_rels (c1) ⟨.inl rfl,trivial⟩ (by simp [dstB]) ?_; rintro _ ⟨xa,rfl,hxa⟩) | (refine callX_rels (c1) ⟨.inr ⟨rfl,_,rfl,rfl⟩,trivial⟩ (by simp [dstB]) ?_; rintro _ ⟨xa,rfl,hxa⟩) | refine hE _ _ ret_ne ?_ | refine hE _ _ exit_ne ?_))<;>(try simp (disch:=first | omega | decide +kernel) only [q',D.bytes,go_sem,Qa,Qb,Qc,Qd,Qe,↓reduceIte,reduceCtorEq,Qf,Qg,Qh])<;>clear q') | refine hN _ ?_ ?_ Wk.kk | with_reducible refine And.intro ?_ ?_ | with_reducible omega | exact ok_ints | exact cells_ints | exact no_mem | with_reducible exact plain_ints | (refine le_maxLen ?_; omega) | (refine za9 ⟨?_,?_⟩) | (simp only [go_sem,Qc,Qb,zb1,zb2,forall_eq]; done)))
 refine endF [] ?_
 exact retR_d4 rfl rfl rfl rfl ⟨rfl,xa,rfl,hxa⟩
theorem drawScale_ok {code : List Int} (hc : CodeOK code) : CtrR Tryd.prog 16 [.d (D.bytes code)] [] [] true fun r oo => oo=[]∧QP1 r:=by
 have c1:=prime18_ok hc
 have c3:=fun (p v : Int) h => poly_ok hc p v h
 have c4:=fun (p : Int) (h : 2<=p∧p<=7) => amongB_ok hc [0,1,2,p - 1,p,-1] (-1) 7 (by simp) (by simp; omega)
 simp only [List.map_cons,List.map_nil] at c4
 refine CtrR.ofO (n:=29) (rs:=[.tmp 2,.tmp 3,.tmp 4,.tmp 5]) Tryd.func16 rfl rfl Tryd.ntmps16 rfl rfl (by kernel_rfl) Tryd.checked.mixed ?_; intro u
 refine Ok.endsW ?_
 refine Ok.go ?_
 simp (disch:=first | omega | decide +kernel) only [curO,curB,D.bytes,go_sem,Qa,Qb,Qc,Qd,Qe,↓reduceIte,reduceCtorEq,Qf,Qg,Qh]
 (repeat' (first | ((first | (refine gsel_split (fun q' => ?_) (fun q' => ?_)<;>(have h':=q')<;>(try simp only [za1,za2,Ba,Bb,za3,ne_eq,za4,za5,za6,Ia,Ib,Ic,Ie,Da,Bc,Bh,Be,za7,za8] at h')<;>try (exfalso; omega)) | (have q':=trivial; first | (refine callX_draw (at_:=0) _ (c1) ⟨.inl rfl,trivial⟩ rfl (by simp [dstB]) (by omega) (by omega) (by omega) ?_; rintro _ ata sda hata1 hata2 hsda1 hsda2 ⟨xa,rfl,hxa⟩) | (refine callX_drawR _ (c3 _ _ (by omega)) ⟨.inl rfl,.inl rfl,.inl rfl,trivial⟩ rfl (by decide) (by omega) (by omega) (by omega) (by omega) ?_; rintro atc sdc _ hatc1 hatc2 hsdc1 hsdc2 ⟨xc,rfl,hxc⟩) | (refine callX_drawL _ _ (c4 _ (by omega)) ⟨.inl rfl,.inl rfl,trivial⟩ rfl rfl (by decide) (by simp [dstB]) (by omega) (by omega) (by omega) ?_; rintro _ at1 sd1 hat1 hat2 hsd1 hsd2 ⟨x1,rfl,hx1⟩) | refine hE _ _ ret_ne ?_ | refine hE _ _ exit_ne ?_))<;>(try simp (disch:=first | omega | decide +kernel) only [q',curO,curB,D.bytes,go_sem,Qa,Qb,Qc,Qd,Qe,↓reduceIte,reduceCtorEq,Qf,Qg,Qh])<;>clear q') | refine hN _ ?_ ?_ Wk.kk | with_reducible refine And.intro ?_ ?_ | with_reducible omega | exact ok_ints | exact cells_ints | exact no_mem | with_reducible exact plain_ints | (refine le_maxLen ?_; omega) | (refine za9 ⟨?_,?_⟩) | (simp only [go_sem,Qc,Qb,zb1,zb2,forall_eq]; done)))
 refine endF [2300000] ?_
 exact retR_d4 rfl rfl rfl rfl ⟨rfl,((xa.1,xa.2),(xc,x1)),rfl,hxa,hxc,by dsimp only; omega⟩
theorem drawSet_ok {code : List Int} (hc : CodeOK code) : CtrR Tryd.prog 23 [.d (D.bytes code)] [] [] true fun r oo => oo=[]∧QP1 r:=by
 have c1:=prime18_ok hc
 have c3:=fun (p v : Int) h => poly_ok hc p v h
 have c4:=fun (v : Int) h => lit_ok hc v h
 refine CtrR.ofO (n:=26) (rs:=[.tmp 2,.tmp 3,.tmp 4,.tmp 5]) Tryd.func23 rfl rfl Tryd.ntmps23 rfl rfl (by kernel_rfl) Tryd.checked.mixed ?_; intro u
 refine Ok.endsW ?_
 refine Ok.go ?_
 simp (disch:=first | omega | decide +kernel) only [curO,curB,D.bytes,go_sem,Qa,Qb,Qc,Qd,Qe,↓reduceIte,reduceCtorEq,Qf,Qg,Qh]
 (repeat' (first | ((first | (refine gsel_split (fun q' => ?_) (fun q' => ?_)<;>(have h':=q')<;>(try simp only [za1,za2,Ba,Bb,za3,ne_eq,za4,za5,za6,Ia,Ib,Ic,Ie,Da,Bc,Bh,Be,za7,za8] at h')<;>try (exfalso; omega)) | (have q':=trivial; first | (refine callX_draw (at_:=0) _ (c1) ⟨.inl rfl,trivial⟩ rfl (by simp [dstB]) (by omega) (by omega) (by omega) ?_; rintro _ ata sda hata1 hata2 hsda1 hsda2 ⟨xa,rfl,hxa⟩) | (refine callX_drawR _ (c3 _ _ (by omega)) ⟨.inl rfl,.inl rfl,.inl rfl,trivial⟩ rfl (by decide) (by omega) (by omega) (by omega) (by omega) ?_; rintro atc sdc _ hatc1 hatc2 hsdc1 hsdc2 ⟨xc,rfl,hxc⟩) | (refine callX_draw _ (c4 _ (by omega)) ⟨.inl rfl,.inl rfl,trivial⟩ rfl (by simp [dstB]) (by omega) (by omega) (by omega) ?_; rintro _ atd sdd hatd1 hatd2 hsdd1 hsdd2 ⟨xd,rfl,hxd⟩) | refine hE _ _ ret_ne ?_ | refine hE _ _ exit_ne ?_))<;>(try simp (disch:=first | omega | decide +kernel) only [q',curO,curB,D.bytes,go_sem,Qa,Qb,Qc,Qd,Qe,↓reduceIte,reduceCtorEq,Qf,Qg,Qh])<;>clear q') | refine hN _ ?_ ?_ Wk.kk | with_reducible refine And.intro ?_ ?_ | with_reducible omega | exact ok_ints | exact cells_ints | exact no_mem | with_reducible exact plain_ints | (refine le_maxLen ?_; omega) | (refine za9 ⟨?_,?_⟩) | (simp only [go_sem,Qc,Qb,zb1,zb2,forall_eq]; done)))
 refine endF [2300000] ?_
 exact retR_d4 rfl rfl rfl rfl ⟨rfl,((xa.1,xa.2),(xc,xd)),rfl,hxa,hxc,hxd⟩
end Abs.Y
