/- What functions of this program compute, over plain data. No condition. -/
import Derived.Test.YtiafnejjhnjbfaaGreatFacts
import Derived.Test.YtiafnejjhnjbfaaGreatAbsRow
set_option linter.all false
open Nat renaming reduceEqDiff -> Qa, reduceLT -> Qb, reduceAdd -> Qc, reduceMul -> Qd, reduceSub -> Qe, reduceLeDiff -> Qf, reduceSubDiff -> Qg, reduceBEq -> Qh
open Bool renaming not_eq_true' -> Ba, not_eq_false' -> Bb, and_eq_true -> Bc, or_eq_true -> Bh, or_eq_false_iff -> Be
open Int renaming ofNat_lt -> Ia, ofNat_le -> Ib, not_lt -> Ic, not_le -> Ie
open Decidable renaming not_not -> Da
namespace Abs.Y
open Go Go.Proofs Abs
set_option maxRecDepth 100000

inductive Fm where
 | lf (c : UInt8)
 | ng (a : Fm)
 | jn (o : UInt8) (a b : Fm)
deriving DecidableEq
def isLet (c : UInt8) : Bool:=decide (97<=c∧c<=102)
def isLf (c : UInt8) : Bool:=decide (c=48∨c=49) || isLet c
def isOp (c : UInt8) : Bool:=decide (c=38∨c=124∨c=62)
def Fm.wf : Fm->Bool
 | .lf c => isLf c
 | .ng a => a.wf
 | .jn o a b => isOp o && a.wf && b.wf
def Fm.tl : Fm->List UInt8
 | .lf c => [c]
 | .ng a => 126 :: a.tl
 | .jn o a b => 40 :: (a.tl++o :: (b.tl++[41]))
def Fm.T (x : Fm) : ByteArray:=⟨x.tl.toArray⟩
def Par (l : List UInt8) (x : Fm) (r : List UInt8) : Prop:=x.wf=true∧l=x.tl++r
theorem lf_ne {c : UInt8} (h : isLf c=true) : c ≠ 126∧c ≠ 40:=by
 refine ⟨fun e => ?_,fun e => ?_⟩<;>(subst e; revert h; decide)
theorem tl_ne (x : Fm) : x.tl ≠ []:=by cases x<;>simp [Fm.tl]
theorem par_uniq : ∀ (x y : Fm) (r q : List UInt8),x.wf=true->y.wf=true->x.tl++r=y.tl++q->x=y∧r=q
 | .lf c, .lf d, r, q, _, _, h => by
   simp only [Fm.tl,List.cons_append,List.nil_append,List.cons.injEq] at h
   exact ⟨by rw [h.1],h.2⟩
 | .lf c, .ng b, r, q, hx, _, h => by
   simp only [Fm.tl,List.cons_append,List.nil_append,List.cons.injEq] at h
   exact absurd h.1 (lf_ne hx).1
 | .lf c, .jn o a b, r, q, hx, _, h => by
   simp only [Fm.tl,List.cons_append,List.nil_append,List.cons.injEq] at h
   exact absurd h.1 (lf_ne hx).2
 | .ng a, .lf c, r, q, _, hy, h => by
   simp only [Fm.tl,List.cons_append,List.nil_append,List.cons.injEq] at h
   exact absurd h.1.symm (lf_ne hy).1
 | .jn o a b, .lf c, r, q, _, hy, h => by
   simp only [Fm.tl,List.cons_append,List.nil_append,List.cons.injEq] at h
   exact absurd h.1.symm (lf_ne hy).2
 | .ng a, .ng b, r, q, hx, hy, h => by
   simp only [Fm.tl,List.cons_append,List.cons.injEq] at h
   obtain ⟨e1,e2⟩:=par_uniq a b r q hx hy h.2
   exact ⟨by rw [e1],e2⟩
 | .ng a, .jn o b c, r, q, _, _, h => by
   simp only [Fm.tl,List.cons_append,List.cons.injEq] at h
   exact absurd h.1 (by decide)
 | .jn o b c, .ng a, r, q, _, _, h => by
   simp only [Fm.tl,List.cons_append,List.cons.injEq] at h
   exact absurd h.1 (by decide)
 | .jn o a b, .jn o' a' b', r, q, hx, hy, h => by
   simp only [Fm.tl,List.cons_append,List.append_assoc,List.cons.injEq,true_and] at h
   simp only [Fm.wf,Bc] at hx hy
   obtain ⟨e1,e2⟩:=par_uniq a a' _ _ hx.1.2 hy.1.2 h
   simp only [List.cons.injEq] at e2
   obtain ⟨e3,e4⟩:=par_uniq b b' _ _ hx.2 hy.2 e2.2
   simp only [List.cons_append,List.nil_append,List.cons.injEq,true_and] at e4
   exact ⟨by rw [e1,e2.1,e3],e4⟩
open Classical in
noncomputable def prs (l : List UInt8) : Option (Fm × List UInt8):=if h : ∃ p : Fm × List UInt8,Par l p.1 p.2 then some (Classical.choose h) else none
theorem prs_of {l x r} (h : Par l x r) : prs l=some (x,r):=by
 have h' : ∃ p : Fm × List UInt8,Par l p.1 p.2:=⟨(x,r),h⟩
 rw [prs,dif_pos h']
 have hc:=Classical.choose_spec h'
 obtain ⟨e1,e2⟩:=par_uniq _ _ _ _ hc.1 h.1 (hc.2.symm.trans h.2)
 congr 1
 exact Prod.ext e1 e2
theorem prs_some {l x r} (h : prs l=some (x,r)) : Par l x r:=by
 rw [prs] at h
 split at h
 . rename_i h'
   have hc:=Classical.choose_spec h'
   rw [Option.some.inj h] at hc
   exact hc
 . cases h
theorem prs_no {l} (h : ∀ x r,¬ Par l x r) : prs l=none:=by
 rw [prs,dif_neg fun ⟨p,hp⟩ => h _ _ hp]
theorem prs_none {l} (h : prs l=none) (x r) : ¬ Par l x r:=fun hp => by rw [prs_of hp] at h; cases h
theorem prs_nil : prs []=none:=prs_no fun x r h => tl_ne x (List.append_eq_nil_iff.1 h.2.symm).1
theorem prs_lf {c l} (h : isLf c=true) : prs (c :: l)=some (.lf c,l):=prs_of ⟨h,rfl⟩
theorem prs_ng {l} : prs (126 :: l)=(prs l).map fun p => (.ng p.1,p.2):=by
 cases h : prs l with
 | some p => exact prs_of ⟨(prs_some h).1,by rw [(prs_some h).2]; rfl⟩
 | none =>
   refine prs_no fun x r hp => ?_
   cases x with
   | lf c => have:=hp.2; simp only [Fm.tl,List.cons_append,List.cons.injEq] at this; exact (lf_ne hp.1).1 this.1.symm
   | ng a => have:=hp.2; simp only [Fm.tl,List.cons_append,List.cons.injEq,true_and] at this; exact prs_none h a r ⟨hp.1,this⟩
   | jn o a b => have:=hp.2; simp only [Fm.tl,List.cons_append,List.cons.injEq] at this; exact absurd this.1 (by decide)
theorem prs_other {c l} (h1 : isLf c=false) (h2 : c ≠ 126) (h3 : c ≠ 40) : prs (c :: l)=none:=by
 refine prs_no fun x r hp => ?_
 cases x with
 | lf d =>
   have:=hp.2
   simp only [Fm.tl,List.cons_append,List.cons.injEq] at this
   have h4:=hp.1
   rw [Fm.wf,← this.1,h1] at h4
   cases h4
 | ng a => have:=hp.2; simp only [Fm.tl,List.cons_append,List.cons.injEq] at this; exact h2 this.1
 | jn o a b => have:=hp.2; simp only [Fm.tl,List.cons_append,List.cons.injEq] at this; exact h3 this.1
theorem par_jn {l x r} : Par (40 :: l) x r↔∃ o a b r1,x=.jn o a b∧isOp o=true∧Par l a (o :: r1)∧Par r1 b (41 :: r):=by
 constructor
 . intro hp
   cases x with
   | lf d => have:=hp.2; simp only [Fm.tl,List.cons_append,List.cons.injEq] at this; exact absurd this.1.symm (lf_ne hp.1).2
   | ng a => have:=hp.2; simp only [Fm.tl,List.cons_append,List.cons.injEq] at this; exact absurd this.1 (by decide)
   | jn o a b =>
     have h1:=hp.1
     have:=hp.2
     simp only [Fm.wf,Bc] at h1
     simp only [Fm.tl,List.cons_append,List.append_assoc,List.cons.injEq,true_and,List.nil_append] at this
     exact ⟨o,a,b,b.tl++41 :: r,rfl,h1.1.1,⟨h1.1.2,this⟩,h1.2,rfl⟩
 . rintro ⟨o,a,b,r1,rfl,ho,h1,h2⟩
   refine ⟨by simp only [Fm.wf,ho,h1.1,h2.1,Bool.and_self],?_⟩
   rw [h1.2,h2.2]
   simp only [Fm.tl,List.cons_append,List.append_assoc,List.nil_append]
theorem prs_jn1 {l} (h : prs l=none) : prs (40 :: l)=none:=prs_no fun _ _ hp => by
 obtain ⟨o,a,b,r1,_,_,h1,_⟩:=par_jn.1 hp
 exact prs_none h _ _ h1
theorem prs_jn2 {l a} (h : prs l=some (a,[])) : prs (40 :: l)=none:=prs_no fun _ _ hp => by
 obtain ⟨o,a',b,r1,_,_,h1,_⟩:=par_jn.1 hp
 rw [prs_of h1] at h
 simp at h
theorem prs_jn3 {l a o r1} (h : prs l=some (a,o :: r1)) (ho : isOp o=false) : prs (40 :: l)=none:=prs_no fun _ _ hp => by
 obtain ⟨o',a',b,r1',_,h2,h1,_⟩:=par_jn.1 hp
 rw [prs_of h1] at h
 simp only [Option.some.injEq,Prod.mk.injEq,List.cons.injEq] at h
 rw [h.2.1,ho] at h2
 cases h2
theorem prs_jn4 {l a o r1} (h : prs l=some (a,o :: r1)) (h' : prs r1=none) : prs (40 :: l)=none:=prs_no fun _ _ hp => by
 obtain ⟨o',a',b,r1',_,h2,h1,h3⟩:=par_jn.1 hp
 rw [prs_of h1] at h
 simp only [Option.some.injEq,Prod.mk.injEq,List.cons.injEq] at h
 rw [h.2.2] at h3
 exact prs_none h' _ _ h3
theorem prs_jn5 {l a o r1 b r2} (h : prs l=some (a,o :: r1)) (h' : prs r1=some (b,r2)) (h2 : r2.head? ≠ some 41) : prs (40 :: l)=none:=prs_no fun _ _ hp => by
 obtain ⟨o',a',b',r1',_,_,h1,h3⟩:=par_jn.1 hp
 rw [prs_of h1] at h
 simp only [Option.some.injEq,Prod.mk.injEq,List.cons.injEq] at h
 rw [h.2.2] at h3
 rw [prs_of h3] at h'
 simp only [Option.some.injEq,Prod.mk.injEq] at h'
 rw [← h'.2] at h2
 exact h2 rfl
theorem prs_jn6 {l a o r1 b r} (h : prs l=some (a,o :: r1)) (ho : isOp o=true) (h' : prs r1=some (b,41 :: r)) : prs (40 :: l)=some (.jn o a b,r) :=
 prs_of (par_jn.2 ⟨o,a,b,r1,rfl,ho,prs_some h,prs_some h'⟩)
theorem prs_len {l x r} (h : prs l=some (x,r)) : r.length < l.length:=by
 rw [(prs_some h).2,List.length_append]
 have:=List.length_pos_iff.2 (tl_ne x)
 omega

abbrev BL (s : ByteArray) : List UInt8:=s.data.toList
noncomputable def okS (s : ByteArray) : Bool:=decide (s.size<=80) && (match prs (BL s) with | some (_,[]) => true | _ => false)
noncomputable def fmS (s : ByteArray) : Fm:=((prs (BL s)).map (·.1)).getD (.lf 48)
theorem ext_BL {s t : ByteArray} (h : BL s=BL t) : s=t:=by
 cases s; cases t; simp only [BL] at h; congr 1; exact Array.ext' h
theorem BL_T (x : Fm) : BL x.T=x.tl:=rfl
theorem size_BL (s : ByteArray) : s.size=(BL s).length:=rfl
theorem okS_spec {s} (h : okS s=true) : (fmS s).wf=true∧s=(fmS s).T∧s.size<=80:=by
 rw [okS,Bc,decide_eq_true_eq] at h
 rw [fmS]
 split at h
 . rename_i x hx
   have hp:=prs_some hx
   rw [hx]
   refine ⟨hp.1,ext_BL ?_,h.1⟩
   rw [hp.2,List.append_nil]; rfl
 . exact absurd h.2 (by simp)
theorem prs_T {x : Fm} (h : x.wf=true) : prs (BL x.T)=some (x,[]):=prs_of ⟨h,by rw [BL_T,List.append_nil]⟩
theorem okS_T {x : Fm} (h : x.wf=true) (hs : x.T.size<=80) : okS x.T=true:=by
 rw [okS,prs_T h]; simp [hs]
theorem fmS_T {x : Fm} (h : x.wf=true) : fmS x.T=x:=by rw [fmS,prs_T h]; rfl

def Fm.vl (v : UInt8->Bool) : Fm->Bool
 | .lf c => if c=48 then false else if c=49 then true else v c
 | .ng a => !a.vl v
 | .jn o a b => if o=38 then a.vl v && b.vl v else if o=124 then a.vl v || b.vl v else !a.vl v || b.vl v
def bitF (m : Nat) (c : UInt8) : Bool:=m.testBit (c.toNat - 97)
def Fm.sub (f : UInt8->Fm) : Fm->Fm
 | .lf c => if isLet c then f c else .lf c
 | .ng a => .ng (a.sub f)
 | .jn o a b => .jn o (a.sub f) (b.sub f)
theorem let_ne {c : UInt8} (h : isLet c=true) : c ≠ 48∧c ≠ 49:=by
 refine ⟨fun e => ?_,fun e => ?_⟩<;>(subst e; revert h; decide)
end Abs.Y

namespace Abs.Y
open Go Go.Proofs Abs
set_option maxRecDepth 100000

def fA : Fm:=.lf 97
def fB : Fm:=.lf 98
def fC : Fm:=.lf 99
def imp (a b : Fm) : Fm:=.jn 62 a b
def andF (a b : Fm) : Fm:=.jn 38 a b
def orF (a b : Fm) : Fm:=.jn 124 a b
def sch : Nat->Fm
 | 0 => imp fA (imp fB fA)
 | 1 => imp (imp fA (imp fB fC)) (imp (imp fA fB) (imp fA fC))
 | 2 => imp (imp (.ng fA) (.ng fB)) (imp fB fA)
 | 3 => imp (andF fA fB) fA
 | 4 => imp (andF fA fB) fB
 | 5 => imp fA (imp fB (andF fA fB))
 | 6 => imp fA (orF fA fB)
 | 7 => imp fB (orF fA fB)
 | 8 => imp (imp fA fC) (imp (imp fB fC) (imp (orF fA fB) fC))
 | _ => .lf 49
def Fm.abc : Fm->Bool
 | .lf c => decide (c=97∨c=98∨c=99) || decide (c=48∨c=49)
 | .ng a => a.abc
 | .jn _ a b => a.abc && b.abc
abbrev By:=UInt8->Option Fm
def By.set (by_ : By) (c : UInt8) (y : Fm) : By:=fun d => if d=c then some y else by_ d
def mt : Fm->Fm->By->By × Bool
 | .lf c,y,b => if isLet c then (match b c with | none => (b.set c y,true) | some o => (b,decide (o=y))) else (b,decide (y=.lf c))
 | .ng a,.ng a',b => mt a a' b
 | .jn o a1 a2,.jn o' b1 b2,b => if o=o' then (if (mt a1 b1 b).2 then mt a2 b2 (mt a1 b1 b).1 else ((mt a1 b1 b).1,false)) else (b,false)
 | .ng _,.lf _,b => (b,false)
 | .ng _,.jn _ _ _,b => (b,false)
 | .jn _ _ _,.lf _,b => (b,false)
 | .jn _ _ _,.ng _,b => (b,false)
def By.le (b : By) (f : UInt8->Fm) : Prop:=∀ c x,b c=some x->f c=x
def By.sb (b d : By) : Prop:=∀ c x,b c=some x->d c=some x
def isC (k : Nat) (y : Fm) : Bool:=(mt (sch k) y fun _ => none).2
end Abs.Y

namespace Abs.Y
open Go Go.Proofs Abs
set_option maxRecDepth 100000

theorem within_ok (n lo hi : Int) : Ctr Tryz.prog 32 [.int .i64 n,.int .i64 lo,.int .i64 hi] false (.d (.bool (decide (lo<=n) && decide (n<=hi)))) []:=by
 refine Ctr.of (n:=15) (rs:=[.tmp 6]) Tryz.func32 rfl rfl Tryz.ntmps32 rfl rfl (by kernel_rfl) Tryz.checked.mixed ?_
 simp (disch:=first | omega | decide +kernel) only [go_sem,Qa,Qb,Qc,Qd,Qe,↓reduceIte,reduceCtorEq,Qf,Qg,Qh]
 (repeat' (first | ((first | (refine gsel_split (fun q' => ?_) (fun q' => ?_)<;>(have h':=q')<;>(try simp only [za1,za2,Ba,Bb,za3,ne_eq,za4,za5,za6,Ia,Ib,Ic,Ie,Da,Bc,Bh,Be,za7,za8] at h')<;>try (exfalso; omega)) | (have q':=trivial; first | refine hE _ _ ret_ne ?_ | refine hE _ _ exit_ne ?_))<;>(try simp (disch:=first | omega | decide +kernel) only [q',go_sem,Qa,Qb,Qc,Qd,Qe,↓reduceIte,reduceCtorEq,Qf,Qg,Qh])<;>clear q') | with_reducible refine And.intro ?_ ?_ | with_reducible omega | (refine le_maxLen ?_; omega)))
def absI (n : Int) : Int:=if IntKind.i64.wrap (0 - n) > n then IntKind.i64.wrap (0 - n) else n
def varI (n : Int) : Int:=if n < 0 then IntKind.i64.wrap (0 - n) else n
def okVars (v : Int) : Bool:=decide (0<=v) && decide (v<=12)
def okLit (v l : Int) : Bool:=decide (l ≠ 0) && (decide (IntKind.i64.wrap (0 - v)<=l) && decide (l<=v))
def okAt (v : Int) (c : List Int) (j : Nat) : Prop:=(c.getD j 0 ≠ 0∧-v<=c.getD j 0∧c.getD j 0<=v)∧(0 < j->(c.getD (j - 1) 0).natAbs < (c.getD j 0).natAbs)
instance (v c j) : Decidable (okAt v c j):=by unfold okAt; infer_instance
def okClause (v : Int) (c : List Int) : Bool:=okVars v && decide (∀ j,j < c.length->okAt v c j)
end Abs.Y

namespace Abs
open Go Go.RowKit

def cntI (k : Int) : Nat->List Int
 | 0 => []
 | n + 1 => k :: cntI (k + 1) n
end Abs
namespace Abs
end Abs
namespace Abs
def cntSS : List (List Int)->Int->List (List Int)
 | [],_ => []
 | x :: r,k => cntI k x.length :: cntSS r (k + x.length)
def lenSS : List (List Int)->Nat
 | [] => 0
 | x :: r => x.length + lenSS r
def offSS (a : List (List Int)) (k : Int) (i : Nat) : Int:=k + (lenSS (a.take i) : Nat)
def lenST : List Step->Nat
 | [] => 0
 | s :: r => s.c.length + 3 + lenST r
def cntST1 (s : Step) (k : Int) : Step:=⟨cntI k s.c.length,k + s.c.length,k + s.c.length + 1,k + s.c.length + 2⟩
def cntST : List Step->Int->List Step
 | [],_ => []
 | s :: r,k => cntST1 s k :: cntST r (k + s.c.length + 3)
def offST (a : List Step) (k : Int) (i : Nat) : Int:=k + (lenST (a.take i) : Nat)
end Abs
namespace Abs
end Abs
namespace Abs
end Abs
namespace Abs
end Abs
namespace Abs
open Go Go.RowKit
end Abs

namespace Abs
open Go Go.RowKit

mutual
def AV.bfz (j : Nat) (x : D) : AV->AV
 | .sl i => if i=j then .undef else .sl i
 | .p i o => if i=j then (if o=0 then .d (.ptr x) else .undef) else .p i o
 | .pe i k n o => if i=j then .undef else .pe i k n o
 | .mq i => if i=j then .undef else .mq i
 | .sf i k l => if i=j then .undef else .sf i k l
 | .vw i q n k => if q=j then .undef else .vw i q n k
 | .pv i q k n o => if q=j then .undef else .pv i q k n o
 | .tup xs => .tup (AV.bfzL j x xs)
 | .st xs => .st (AV.bfzL j x xs)
 | .fn f cs => .fn f (AV.bfzL j x cs)
 | y => y
def AV.bfzL (j : Nat) (x : D) : List AV->List AV
 | [] => []
 | y :: r => y.bfz j x :: AV.bfzL j x r
end
theorem bfzL_length {j x} : ∀ xs : List AV,(AV.bfzL j x xs).length=xs.length
 | [] => rfl
 | y :: r => by simp [AV.bfzL,bfzL_length r]
theorem bfzL_getD {j x} : ∀ (xs : List AV) (i : Nat),(AV.bfzL j x xs).getD i .undef=(xs.getD i .undef).bfz j x
 | [],i => by simp [AV.bfzL,AV.bfz]
 | y :: r,0 => by simp [AV.bfzL]
 | y :: r,i + 1 => by simpa [AV.bfzL] using bfzL_getD r i
def bfzS (j : Nat) (x : D) : List (Nat × AV)->List (Nat × AV)
 | [] => []
 | (k,v) :: r => (k,v.bfz j x) :: bfzS j x r
def AO.bfz (j : Nat) (x : D) : AO->AO
 | .box e cells => .box e (AV.bfzL j x cells)
 | .dp t xs (some (c,some d)) => .dp t xs (if d=j then some (c,none) else some (c,some d))
 | y => y
def bfzO (j : Nat) (x : D) : List (Nat × AO)->List (Nat × AO)
 | [] => []
 | (k,v) :: r => if k=j then bfzO j x r else (k,v.bfz j x) :: bfzO j x r
theorem lk_bfzS {i j x} : ∀ {l : List (Nat × AV)} {v},lk i (bfzS j x l)=some v->∃ u,lk i l=some u∧v=u.bfz j x
 | [],_,h => by simp [bfzS,lk] at h
 | (k, u) :: r, v, h => by
   simp only [bfzS,lk] at h
   simp only [lk]
   split at h
   . rename_i e; rw [if_pos e]; cases h; exact ⟨u,rfl,rfl⟩
   . rename_i e; rw [if_neg e]; exact lk_bfzS h
theorem lk_bfzO {i j x} : ∀ {l : List (Nat × AO)} {o},lk i (bfzO j x l)=some o->i ≠ j∧∃ o',lk i l=some o'∧o=o'.bfz j x
 | [],_,h => by simp [bfzO,lk] at h
 | (k, v) :: r, o, h => by
   simp only [bfzO] at h
   split at h
   . rename_i hk
     obtain ⟨h1,o',h2,h3⟩:=lk_bfzO h
     exact ⟨h1,o',by simp only [lk]; rw [if_neg (by omega)]; exact h2,h3⟩
   . rename_i hk
     simp only [lk] at h
     split at h
     . rename_i e; subst e; cases h; exact ⟨hk,v,by simp [lk],rfl⟩
     . rename_i e
       obtain ⟨h1,o',h2,h3⟩:=lk_bfzO h
       exact ⟨h1,o',by simp only [lk]; rw [if_neg e]; exact h2,h3⟩
theorem Rel.bfz {β S w j x b n c} (hb : β j=.slice (some ⟨b,0,none⟩) n c) (hr : Rd S w (.ptr x) (.pointer (some ⟨b,0,none⟩))) : ∀ {av v},Rel β S w av v->Rel β S w (av.bfz j x) v:=by
 intro av v h
 induction h with
 | undef v => exact .undef v
 | d h => exact .d h
 | sl i =>
   simp only [AV.bfz]; split
   . exact .undef _
   . exact .sl i
 | p h =>
   simp only [AV.bfz]; split
   . rename_i e; subst e
     rw [hb] at h; cases h
     split
     . rename_i e0; subst e0; exact .d hr
     . exact .undef _
   . exact .p h
 | pe h =>
   simp only [AV.bfz]; split
   . exact .undef _
   . exact .pe h
 | mq h =>
   simp only [AV.bfz]; split
   . exact .undef _
   . exact .mq h
 | sf h hl =>
   simp only [AV.bfz]; split
   . exact .undef _
   . exact .sf h hl
 | vw h =>
   simp only [AV.bfz]; split
   . exact .undef _
   . exact .vw h
 | pv h =>
   simp only [AV.bfz]; split
   . exact .undef _
   . exact .pv h
 | tup hl _ ih => exact .tup (by rw [bfzL_length]; exact hl) fun i hi => by rw [bfzL_length] at hi; rw [bfzL_getD]; exact ih i hi
 | fn hl _ ih => exact .fn (by rw [bfzL_length]; exact hl) fun i hi => by rw [bfzL_length] at hi; rw [bfzL_getD]; exact ih i hi
 | e0n => exact .e0n
 | e0s ad => exact .e0s ad
 | hdr h => exact .hdr h
 | nilS => exact .nilS
 | st hl _ ih => exact .st (by rw [bfzL_length]; exact hl) fun i hi => by rw [bfzL_length] at hi; rw [bfzL_getD]; exact ih i hi
theorem OK.bfz {β S w j x b n c o v F} (hb : β j=.slice (some ⟨b,0,none⟩) n c) (hr : Rd S w (.ptr x) (.pointer (some ⟨b,0,none⟩))) (h : OK β S w o v F) : OK β S w (o.bfz j x) v F:=by
 cases h with
 | box hF xs hv hw hrel =>
   exact .box hF xs hv (by rw [bfzL_length]; exact hw) fun i hi => by rw [bfzL_length] at hi; rw [bfzL_getD]; exact (hrel i hi).bfz hb hr
 | arr hF xs hk0 hk hw hrel => exact .arr hF xs hk0 hk hw hrel
 | arv hF xs hv hk0 hk hw hrel => exact .arv hF xs hv hk0 hk hw hrel
 | mp b ms c hF hv hbb he => exact .mp b ms c hF hv hbb he
 | res hv hlt fs hr2 hf hd => exact .res hv hlt fs hr2 hf hd
 | arw hlt xs hk0 hk hw hbb hr2 hv => exact .arw hlt xs hk0 hk hw hbb hr2 hv
 | view hF b c hv => exact .view hF b c hv
 | d1 hlt h => exact .d1 hlt h
 | dp hlt h =>
   rename_i t xs ho
   rcases h with ⟨rfl,rfl,rfl,h⟩ | ⟨e,k,ys,fs,ht,h⟩
   . exact .dp hlt (.inl ⟨rfl,rfl,rfl,h⟩)
   . rcases ho with _ | ⟨c',_ | d⟩
     . exact .dp hlt (.inr ⟨e,k,ys,fs,ht,h⟩)
     . exact .dp hlt (.inr ⟨e,k,ys,fs,ht,h⟩)
     . simp only [AO.bfz]
       split
       . exact .dp hlt (.inr ⟨e,k,ys,fs,ht,{ h with hr:=fun i hi hn => h.hr i hi fun c' d' e => by cases e; exact hn _ none rfl,hh:=fun _ _ h => by cases h }⟩)
       . exact .dp hlt (.inr ⟨e,k,ys,fs,ht,h⟩)
theorem bfz_res {j x} {o : AO} (h : (o.bfz j x).isRes=false) : o.isRes=false:=by
 cases o<;>first | rfl | exact h
theorem Wk.bfz {N} {S : List (Nat × AV)} {O : List (Nat × AO)} (j : Nat) (x : D) {e : TypeId} {cells : List AV} (hj : lk j O=some (.box e cells)) (hx : cells=x.cells.map .d) : Wk N ⟨S,O⟩ ⟨bfzS j x S,bfzO j x O⟩:=fun Z β φ B M w0 a w h => by
 subst hx
 have hO:=h.objs j _ hj
 have hS : ∀ g,free Z φ O g->g < w.heap.size->free Z φ (bfzO j x O) g∧w.heap[g]? = w.heap[g]? := fun g hg _ => by
  refine ⟨⟨hg.1,fun i y hi hy => ?_⟩,rfl⟩
  obtain ⟨hne,o',ho',rfl⟩:=lk_bfzO hi
  exact hg.2 i o' ho' (bfz_res hy)
 obtain ⟨b,c,hb,hr⟩ : ∃ b c,β j=.slice (some ⟨b,0,none⟩) 1 c∧Rd (free Z φ (bfzO j x O)) w (.ptr x) (.pointer (some ⟨b,0,none⟩)):=by
  have hdis : ∀ g,φ j g->free Z φ (bfzO j x O) g:=fun g hg => ⟨h.z g (h.own j _ g hj hg),fun i y hi _ hgi => by
   obtain ⟨hne,o',ho',_⟩:=lk_bfzO hi
   exact hne (h.disj i j o' _ g ho' hj hgi hg)⟩
  generalize φ j=F at *
  generalize β j=v at *
  cases hO with
  | box hF xs hv hw hrel =>
    have hw':=hw
    rcases hw.2 with ⟨h1,_⟩ | ⟨g,cap,cur,h1,_,h3,h4,_⟩
    . exact absurd h1 hv
    . subst h1
      refine ⟨g,cap,rfl,.ptr (fun i => xs.getD i Go.undef) (fun i hi => ⟨hdis g (by rw [hF]; rfl),?_⟩) fun i hi => ?_⟩
      . have h9 : i < xs.length:=by rw [hw'.1,Nat.one_mul,List.length_map]; exact hi
        have h10:=ownsRow_cell hw' rfl h9
        rwa [Nat.zero_add]
      . have h5:=hrel i (by simpa using hi)
        have h6 : (x.cells.map AV.d).getD i .undef=.d (x.cells.getD i .nilptr):=by
         simp [List.getD_eq_getElem?_getD,hi]
        rw [h6] at h5
        cases h5 with
        | d h5 => exact h5.move hS
 refine ⟨β,φ,h.nd.move hS,h.size,fun i av hi => ?_,fun i o hi => ?_,fun i o g hi hg => ?_,fun i i' o o' g hi hi' hg hg' => ?_,h.fr,h.z,h.gw⟩
 . obtain ⟨u,hu,rfl⟩:=lk_bfzS hi
   exact ((h.slots i u hu).move hS).bfz hb hr
 . obtain ⟨hne,o',ho',rfl⟩:=lk_bfzO hi
   exact ((h.objs i o' ho').move hS (Nat.le_refl _) (fun _ _ => rfl)).bfz hb hr
 . obtain ⟨hne,o',ho',_⟩:=lk_bfzO hi
   exact h.own i o' g ho' hg
 . obtain ⟨hne,y,hy,_⟩:=lk_bfzO hi
   obtain ⟨hne',y',hy',_⟩:=lk_bfzO hi'
   exact h.disj i i' y y' g hy hy' hg hg'
def cutQ (P : Program) (N : Nat) (y : Code) (Q : Exit->St->Prop) (st : St) : Prop:=∃ st',Wk N st st'∧Awp P N y Q st'
theorem Ctr.tupN {P : Program} {f : FuncId} {xs ys : List D} {sh : Bool} (h : Ctr P f xs sh (.tup (ys.map .d)) []) : Ctr P f xs sh (.d (.tup ys)) []:=by
 refine ⟨h.1,fun S w vs hvl hvr hG => (h.2 S w vs hvl hvr hG).mono fun e w' ⟨v,he,hF,β,φ,hR,h1,h2,h3⟩ => ⟨v,he,hF,β,φ,?_,h1,h2,h3⟩⟩
 cases hR with
 | tup hl hr =>
   refine .d (.tup (by simpa using hl) fun i hi => ?_)
   have:=hr i (by simpa using hi)
   have e : (ys.map AV.d).getD i .undef=.d (ys.getD i .nilptr):=by simp [List.getD_eq_getElem?_getD,hi]
   rw [e] at this
   cases this with
   | d h => exact h
end Abs
