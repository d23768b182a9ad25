/- What functions of this program compute, over plain data. No condition. -/
import Derived.Test.YtiafnejjhnjbfaaDoorAbsRow
import Derived.Test.YtiafnejjhnjbfaaDoorChecked
set_option linter.all false
namespace Abs.Y.Ty
open Go Go.Proofs Abs
open Nat renaming reduceEqDiff -> Qa, reduceLT -> Qb, reduceAdd -> Qc, reduceMul -> Qd, reduceSub -> Qe, reduceLeDiff -> Qf, reduceSubDiff -> Qg, reduceBEq -> Qh
open Bool renaming not_eq_true' -> Ba, not_eq_false' -> Bb, and_eq_true -> Bc, or_eq_true -> Bh, or_eq_false_iff -> Be
open Int renaming ofNat_lt -> Ia, ofNat_le -> Ib, not_lt -> Ic, not_le -> Ie
open Decidable renaming not_not -> Da
theorem c2 : Tryd.prog.cellsOf 2=1:=by kernel_rfl
theorem b2 : Tryd.prog.bytesOf 2=8:=by kernel_rfl
theorem a2 : aggT Tryd.prog 2=false:=by kernel_rfl
theorem s2 : elemSl Tryd.prog 2=none:=by kernel_rfl
theorem k2 : Tryd.prog.underlying 2=some (.int .i64):=by kernel_rfl
theorem z2 : zeroD Tryd.prog 2=some (.int .i64 0):=by kernel_rfl
theorem c3 : Tryd.prog.cellsOf 3=1:=by kernel_rfl
theorem b3 : Tryd.prog.bytesOf 3=8:=by kernel_rfl
theorem a3 : aggT Tryd.prog 3=false:=by kernel_rfl
theorem s3 : elemSl Tryd.prog 3=none:=by kernel_rfl
theorem it3 : isIntT Tryd.prog 3=true:=by kernel_rfl
theorem k3 : Tryd.prog.underlying 3=some (.int .i64):=by kernel_rfl
theorem z3 : zeroD Tryd.prog 3=some (.int .i64 0):=by kernel_rfl
theorem c4 : Tryd.prog.cellsOf 4=1:=by kernel_rfl
theorem b4 : Tryd.prog.bytesOf 4=1:=by kernel_rfl
theorem a4 : aggT Tryd.prog 4=false:=by kernel_rfl
theorem s4 : elemSl Tryd.prog 4=none:=by kernel_rfl
theorem bo4 : isBoolT Tryd.prog 4=true:=by kernel_rfl
theorem z4 : zeroD Tryd.prog 4=some (.bool false):=by kernel_rfl
theorem c5 : Tryd.prog.cellsOf 5=1:=by kernel_rfl
theorem a5 : aggT Tryd.prog 5=false:=by kernel_rfl
theorem k5 : Tryd.prog.underlying 5=some (.int .u8):=by kernel_rfl
theorem z5 : zeroD Tryd.prog 5=some (.int .u8 0):=by kernel_rfl
theorem c6 : Tryd.prog.cellsOf 6=1:=by kernel_rfl
theorem c7 : Tryd.prog.cellsOf 7=4:=by kernel_rfl
theorem c8 : Tryd.prog.cellsOf 8=4:=by kernel_rfl
theorem c9 : Tryd.prog.cellsOf 9=1:=by kernel_rfl
theorem b9 : Tryd.prog.bytesOf 9=16:=by kernel_rfl
theorem a9 : aggT Tryd.prog 9=false:=by kernel_rfl
theorem us9 : (Tryd.prog.underlying 9).isSome=true:=by kernel_rfl
theorem st9 : isStrT Tryd.prog 9=true:=by kernel_rfl
theorem z9 : zeroD Tryd.prog 9=some (.str ByteArray.empty):=by kernel_rfl
theorem c10 : Tryd.prog.cellsOf 10=1:=by kernel_rfl
theorem c12 : Tryd.prog.cellsOf 12=1:=by kernel_rfl
theorem c13 : Tryd.prog.cellsOf 13=2:=by kernel_rfl
theorem a21 : aggT Tryd.prog 21=false:=by kernel_rfl
theorem z21 : zeroD Tryd.prog 21=some (.int .i32 0):=by kernel_rfl
theorem c22 : Tryd.prog.cellsOf 22=1:=by kernel_rfl
theorem a22 : aggT Tryd.prog 22=false:=by kernel_rfl
theorem us22 : (Tryd.prog.underlying 22).isSome=true:=by kernel_rfl
theorem s22 : elemSl Tryd.prog 22=some 5:=by kernel_rfl
theorem s34 : elemSl Tryd.prog 34=some 9:=by kernel_rfl
theorem s35 : elemSl Tryd.prog 35=some 67:=by kernel_rfl
theorem a46 : aggT Tryd.prog 46=false:=by kernel_rfl
theorem z46 : zeroD Tryd.prog 46=some .nilptr:=by kernel_rfl
theorem c47 : Tryd.prog.cellsOf 47=1:=by kernel_rfl
theorem a47 : aggT Tryd.prog 47=false:=by kernel_rfl
theorem k47 : Tryd.prog.underlying 47=some (.int .u64):=by kernel_rfl
theorem ar49 : elemAr Tryd.prog 49=none:=by kernel_rfl
theorem z49 : zeroD Tryd.prog 49=some (.agg [(.slice []),(.int .i64 0),(.int .u64 0)]):=by kernel_rfl
theorem f49_0 : fieldOf Tryd.prog 49 0=some (0,22):=by kernel_rfl
theorem p49_0 : places Tryd.prog 49 0=some (0,1):=by kernel_rfl
theorem f49_1 : fieldOf Tryd.prog 49 1=some (1,3):=by kernel_rfl
theorem f49_2 : fieldOf Tryd.prog 49 2=some (2,47):=by kernel_rfl
theorem pu49 : partsU Tryd.prog 49=true:=by kernel_rfl
theorem c57 : Tryd.prog.cellsOf 57=1:=by kernel_rfl
theorem a57 : aggT Tryd.prog 57=false:=by kernel_rfl
theorem us57 : (Tryd.prog.underlying 57).isSome=true:=by kernel_rfl
theorem c67 : Tryd.prog.cellsOf 67=4:=by kernel_rfl
theorem b67 : Tryd.prog.bytesOf 67=40:=by kernel_rfl
theorem a67 : aggT Tryd.prog 67=true:=by kernel_rfl
theorem us67 : (Tryd.prog.underlying 67).isSome=true:=by kernel_rfl
theorem ar67 : elemAr Tryd.prog 67=none:=by kernel_rfl
theorem z67 : zeroD Tryd.prog 67=some (.agg [(.str ByteArray.empty),(.int .i64 0),(.int .i64 0),(.int .i64 0)]):=by kernel_rfl
theorem f67_0 : fieldOf Tryd.prog 67 0=some (0,9):=by kernel_rfl
theorem p67_0 : places Tryd.prog 67 0=some (0,1):=by kernel_rfl
theorem f67_1 : fieldOf Tryd.prog 67 1=some (1,3):=by kernel_rfl
theorem p67_1 : places Tryd.prog 67 1=some (1,1):=by kernel_rfl
theorem f67_2 : fieldOf Tryd.prog 67 2=some (2,3):=by kernel_rfl
theorem p67_2 : places Tryd.prog 67 2=some (2,1):=by kernel_rfl
theorem f67_3 : fieldOf Tryd.prog 67 3=some (3,3):=by kernel_rfl
theorem p67_3 : places Tryd.prog 67 3=some (3,1):=by kernel_rfl
theorem es67 : eqShape Tryd.prog 67=some [(0,9),(1,3),(2,3),(3,3)]:=by kernel_rfl
theorem pu67 : partsU Tryd.prog 67=true:=by kernel_rfl
theorem a70 : aggT Tryd.prog 70=true:=by kernel_rfl
theorem z70 : zeroD Tryd.prog 70=some (.agg [(.int .u8 0),.nilptr,.nilptr,(.str ByteArray.empty)]):=by kernel_rfl
theorem ar71 : elemAr Tryd.prog 71=none:=by kernel_rfl
theorem z71 : zeroD Tryd.prog 71=some (.agg [(.int .u8 0),.nilptr,.nilptr,(.str ByteArray.empty)]):=by kernel_rfl
theorem f71_0 : fieldOf Tryd.prog 71 0=some (0,5):=by kernel_rfl
theorem p71_0 : places Tryd.prog 71 0=some (0,1):=by kernel_rfl
theorem f71_1 : fieldOf Tryd.prog 71 1=some (1,57):=by kernel_rfl
theorem p71_1 : places Tryd.prog 71 1=some (1,1):=by kernel_rfl
theorem f71_2 : fieldOf Tryd.prog 71 2=some (2,57):=by kernel_rfl
theorem p71_2 : places Tryd.prog 71 2=some (2,1):=by kernel_rfl
theorem f71_3 : fieldOf Tryd.prog 71 3=some (3,9):=by kernel_rfl
theorem p71_3 : places Tryd.prog 71 3=some (3,1):=by kernel_rfl
theorem pu71 : partsU Tryd.prog 71=true:=by kernel_rfl
theorem a75 : aggT Tryd.prog 75=false:=by kernel_rfl
theorem s75 : elemSl Tryd.prog 75=some 3:=by kernel_rfl
theorem z75 : zeroD Tryd.prog 75=some (.slice []):=by kernel_rfl
theorem s113 : elemSl Tryd.prog 113=none:=by kernel_rfl
theorem ar113 : elemAr Tryd.prog 113=some (10,9):=by kernel_rfl
theorem s116 : elemSl Tryd.prog 116=none:=by kernel_rfl
theorem ar116 : elemAr Tryd.prog 116=some (3,57):=by kernel_rfl
theorem z116 : zeroD Tryd.prog 116=some (.agg [.nilptr,.nilptr,.nilptr]):=by kernel_rfl
theorem pu116 : partsU Tryd.prog 116=true:=by kernel_rfl
theorem a138 : aggT Tryd.prog 138=false:=by kernel_rfl
theorem z138 : zeroD Tryd.prog 138=some (.int .i32 0):=by kernel_rfl
theorem a139 : aggT Tryd.prog 139=false:=by kernel_rfl
theorem z139 : zeroD Tryd.prog 139=some (.int .i32 0):=by kernel_rfl
attribute [go_sem] c2 b2 a2 s2 k2 z2 c3 b3 a3 s3 it3 k3 z3 c4 b4 a4 s4 bo4 z4 c5 a5 k5 z5 c6
attribute [go_sem] c7 c8 c9 b9 a9 us9
attribute [go_sem] st9 z9 c10 c12 c13
attribute [go_sem] a21 z21 c22 a22 us22 s22 s34
attribute [go_sem] s35 a46 z46 c47 a47 k47 ar49
attribute [go_sem] z49 f49_0 p49_0 f49_1 f49_2 pu49 c57 a57 us57 c67 b67 a67 us67 ar67 z67 f67_0 p67_0
attribute [go_sem] f67_1 p67_1 f67_2 p67_2 f67_3 p67_3 es67 pu67 a70 z70 ar71 z71 f71_0 p71_0 f71_1 p71_1 f71_2 p71_2 f71_3 p71_3 pu71
attribute [go_sem] a75 s75 z75
attribute [go_sem] s113 ar113 s116 ar116 z116 pu116
attribute [go_sem] a138 z138 a139 z139
end Abs.Y.Ty

namespace Abs.Y
open Go Go.Proofs Abs
open Nat renaming reduceEqDiff -> Qa, reduceLT -> Qb, reduceAdd -> Qc, reduceMul -> Qd, reduceSub -> Qe, reduceLeDiff -> Qf, reduceSubDiff -> Qg, reduceBEq -> Qh
open Bool renaming not_eq_true' -> Ba, not_eq_false' -> Bb, and_eq_true -> Bc, or_eq_true -> Bh, or_eq_false_iff -> Be
open Int renaming ofNat_lt -> Ia, ofNat_le -> Ib, not_lt -> Ic, not_le -> Ie
open Decidable renaming not_not -> Da
set_option maxRecDepth 100000

inductive Fm where
 | lf (c : UInt8)
 | ng (a : Fm)
 | jn (o : UInt8) (a b : Fm)
deriving DecidableEq
def isLet (c : UInt8) : Bool:=decide (97<=c∧c<=102)
def isLf (c : UInt8) : Bool:=decide (c=48∨c=49) || isLet c
def isOp (c : UInt8) : Bool:=decide (c=38∨c=124∨c=62)
def Fm.wf : Fm->Bool
 | .lf c => isLf c
 | .ng a => a.wf
 | .jn o a b => isOp o && a.wf && b.wf
def Fm.tl : Fm->List UInt8
 | .lf c => [c]
 | .ng a => 126 :: a.tl
 | .jn o a b => 40 :: (a.tl++o :: (b.tl++[41]))
def Fm.T (x : Fm) : ByteArray:=⟨x.tl.toArray⟩
def Par (l : List UInt8) (x : Fm) (r : List UInt8) : Prop:=x.wf=true∧l=x.tl++r
theorem lf_ne {c : UInt8} (h : isLf c=true) : c ≠ 126∧c ≠ 40:=by
 refine ⟨fun e => ?_,fun e => ?_⟩<;>(subst e; revert h; decide)
theorem tl_ne (x : Fm) : x.tl ≠ []:=by cases x<;>simp [Fm.tl]
theorem par_uniq : ∀ (x y : Fm) (r q : List UInt8),x.wf=true->y.wf=true->x.tl++r=y.tl++q->x=y∧r=q
 | .lf c, .lf d, r, q, _, _, h => by
   simp only [Fm.tl,List.cons_append,List.nil_append,List.cons.injEq] at h
   exact ⟨by rw [h.1],h.2⟩
 | .lf c, .ng b, r, q, hx, _, h => by
   simp only [Fm.tl,List.cons_append,List.nil_append,List.cons.injEq] at h
   exact absurd h.1 (lf_ne hx).1
 | .lf c, .jn o a b, r, q, hx, _, h => by
   simp only [Fm.tl,List.cons_append,List.nil_append,List.cons.injEq] at h
   exact absurd h.1 (lf_ne hx).2
 | .ng a, .lf c, r, q, _, hy, h => by
   simp only [Fm.tl,List.cons_append,List.nil_append,List.cons.injEq] at h
   exact absurd h.1.symm (lf_ne hy).1
 | .jn o a b, .lf c, r, q, _, hy, h => by
   simp only [Fm.tl,List.cons_append,List.nil_append,List.cons.injEq] at h
   exact absurd h.1.symm (lf_ne hy).2
 | .ng a, .ng b, r, q, hx, hy, h => by
   simp only [Fm.tl,List.cons_append,List.cons.injEq] at h
   obtain ⟨e1,e2⟩:=par_uniq a b r q hx hy h.2
   exact ⟨by rw [e1],e2⟩
 | .ng a, .jn o b c, r, q, _, _, h => by
   simp only [Fm.tl,List.cons_append,List.cons.injEq] at h
   exact absurd h.1 (by decide)
 | .jn o b c, .ng a, r, q, _, _, h => by
   simp only [Fm.tl,List.cons_append,List.cons.injEq] at h
   exact absurd h.1 (by decide)
 | .jn o a b, .jn o' a' b', r, q, hx, hy, h => by
   simp only [Fm.tl,List.cons_append,List.append_assoc,List.cons.injEq,true_and] at h
   simp only [Fm.wf,Bc] at hx hy
   obtain ⟨e1,e2⟩:=par_uniq a a' _ _ hx.1.2 hy.1.2 h
   simp only [List.cons.injEq] at e2
   obtain ⟨e3,e4⟩:=par_uniq b b' _ _ hx.2 hy.2 e2.2
   simp only [List.cons_append,List.nil_append,List.cons.injEq,true_and] at e4
   exact ⟨by rw [e1,e2.1,e3],e4⟩
open Classical in
noncomputable def prs (l : List UInt8) : Option (Fm × List UInt8):=if h : ∃ p : Fm × List UInt8,Par l p.1 p.2 then some (Classical.choose h) else none
theorem prs_of {l x r} (h : Par l x r) : prs l=some (x,r):=by
 have h' : ∃ p : Fm × List UInt8,Par l p.1 p.2:=⟨(x,r),h⟩
 rw [prs,dif_pos h']
 have hc:=Classical.choose_spec h'
 obtain ⟨e1,e2⟩:=par_uniq _ _ _ _ hc.1 h.1 (hc.2.symm.trans h.2)
 congr 1
 exact Prod.ext e1 e2
theorem prs_some {l x r} (h : prs l=some (x,r)) : Par l x r:=by
 rw [prs] at h
 split at h
 . rename_i h'
   have hc:=Classical.choose_spec h'
   rw [Option.some.inj h] at hc
   exact hc
 . cases h
theorem prs_no {l} (h : ∀ x r,¬ Par l x r) : prs l=none:=by
 rw [prs,dif_neg fun ⟨p,hp⟩ => h _ _ hp]
theorem prs_none {l} (h : prs l=none) (x r) : ¬ Par l x r:=fun hp => by rw [prs_of hp] at h; cases h
theorem prs_nil : prs []=none:=prs_no fun x r h => tl_ne x (List.append_eq_nil_iff.1 h.2.symm).1
theorem prs_lf {c l} (h : isLf c=true) : prs (c :: l)=some (.lf c,l):=prs_of ⟨h,rfl⟩
theorem prs_ng {l} : prs (126 :: l)=(prs l).map fun p => (.ng p.1,p.2):=by
 cases h : prs l with
 | some p => exact prs_of ⟨(prs_some h).1,by rw [(prs_some h).2]; rfl⟩
 | none =>
   refine prs_no fun x r hp => ?_
   cases x with
   | lf c => have:=hp.2; simp only [Fm.tl,List.cons_append,List.cons.injEq] at this; exact (lf_ne hp.1).1 this.1.symm
   | ng a => have:=hp.2; simp only [Fm.tl,List.cons_append,List.cons.injEq,true_and] at this; exact prs_none h a r ⟨hp.1,this⟩
   | jn o a b => have:=hp.2; simp only [Fm.tl,List.cons_append,List.cons.injEq] at this; exact absurd this.1 (by decide)
theorem prs_other {c l} (h1 : isLf c=false) (h2 : c ≠ 126) (h3 : c ≠ 40) : prs (c :: l)=none:=by
 refine prs_no fun x r hp => ?_
 cases x with
 | lf d =>
   have:=hp.2
   simp only [Fm.tl,List.cons_append,List.cons.injEq] at this
   have h4:=hp.1
   rw [Fm.wf,← this.1,h1] at h4
   cases h4
 | ng a => have:=hp.2; simp only [Fm.tl,List.cons_append,List.cons.injEq] at this; exact h2 this.1
 | jn o a b => have:=hp.2; simp only [Fm.tl,List.cons_append,List.cons.injEq] at this; exact h3 this.1
theorem par_jn {l x r} : Par (40 :: l) x r↔∃ o a b r1,x=.jn o a b∧isOp o=true∧Par l a (o :: r1)∧Par r1 b (41 :: r):=by
 constructor
 . intro hp
   cases x with
   | lf d => have:=hp.2; simp only [Fm.tl,List.cons_append,List.cons.injEq] at this; exact absurd this.1.symm (lf_ne hp.1).2
   | ng a => have:=hp.2; simp only [Fm.tl,List.cons_append,List.cons.injEq] at this; exact absurd this.1 (by decide)
   | jn o a b =>
     have h1:=hp.1
     have:=hp.2
     simp only [Fm.wf,Bc] at h1
     simp only [Fm.tl,List.cons_append,List.append_assoc,List.cons.injEq,true_and,List.nil_append] at this
     exact ⟨o,a,b,b.tl++41 :: r,rfl,h1.1.1,⟨h1.1.2,this⟩,h1.2,rfl⟩
 . rintro ⟨o,a,b,r1,rfl,ho,h1,h2⟩
   refine ⟨by simp only [Fm.wf,ho,h1.1,h2.1,Bool.and_self],?_⟩
   rw [h1.2,h2.2]
   simp only [Fm.tl,List.cons_append,List.append_assoc,List.nil_append]
theorem prs_jn1 {l} (h : prs l=none) : prs (40 :: l)=none:=prs_no fun _ _ hp => by
 obtain ⟨o,a,b,r1,_,_,h1,_⟩:=par_jn.1 hp
 exact prs_none h _ _ h1
theorem prs_jn2 {l a} (h : prs l=some (a,[])) : prs (40 :: l)=none:=prs_no fun _ _ hp => by
 obtain ⟨o,a',b,r1,_,_,h1,_⟩:=par_jn.1 hp
 rw [prs_of h1] at h
 simp at h
theorem prs_jn3 {l a o r1} (h : prs l=some (a,o :: r1)) (ho : isOp o=false) : prs (40 :: l)=none:=prs_no fun _ _ hp => by
 obtain ⟨o',a',b,r1',_,h2,h1,_⟩:=par_jn.1 hp
 rw [prs_of h1] at h
 simp only [Option.some.injEq,Prod.mk.injEq,List.cons.injEq] at h
 rw [h.2.1,ho] at h2
 cases h2
theorem prs_jn4 {l a o r1} (h : prs l=some (a,o :: r1)) (h' : prs r1=none) : prs (40 :: l)=none:=prs_no fun _ _ hp => by
 obtain ⟨o',a',b,r1',_,h2,h1,h3⟩:=par_jn.1 hp
 rw [prs_of h1] at h
 simp only [Option.some.injEq,Prod.mk.injEq,List.cons.injEq] at h
 rw [h.2.2] at h3
 exact prs_none h' _ _ h3
theorem prs_jn5 {l a o r1 b r2} (h : prs l=some (a,o :: r1)) (h' : prs r1=some (b,r2)) (h2 : r2.head? ≠ some 41) : prs (40 :: l)=none:=prs_no fun _ _ hp => by
 obtain ⟨o',a',b',r1',_,_,h1,h3⟩:=par_jn.1 hp
 rw [prs_of h1] at h
 simp only [Option.some.injEq,Prod.mk.injEq,List.cons.injEq] at h
 rw [h.2.2] at h3
 rw [prs_of h3] at h'
 simp only [Option.some.injEq,Prod.mk.injEq] at h'
 rw [← h'.2] at h2
 exact h2 rfl
theorem prs_jn6 {l a o r1 b r} (h : prs l=some (a,o :: r1)) (ho : isOp o=true) (h' : prs r1=some (b,41 :: r)) : prs (40 :: l)=some (.jn o a b,r) :=
 prs_of (par_jn.2 ⟨o,a,b,r1,rfl,ho,prs_some h,prs_some h'⟩)
theorem prs_len {l x r} (h : prs l=some (x,r)) : r.length < l.length:=by
 rw [(prs_some h).2,List.length_append]
 have:=List.length_pos_iff.2 (tl_ne x)
 omega

abbrev BL (s : ByteArray) : List UInt8:=s.data.toList
noncomputable def okS (s : ByteArray) : Bool:=decide (s.size<=80) && (match prs (BL s) with | some (_,[]) => true | _ => false)
noncomputable def fmS (s : ByteArray) : Fm:=((prs (BL s)).map (·.1)).getD (.lf 48)
theorem ext_BL {s t : ByteArray} (h : BL s=BL t) : s=t:=by
 cases s; cases t; simp only [BL] at h; congr 1; exact Array.ext' h
theorem BL_T (x : Fm) : BL x.T=x.tl:=rfl
theorem size_BL (s : ByteArray) : s.size=(BL s).length:=rfl
theorem okS_spec {s} (h : okS s=true) : (fmS s).wf=true∧s=(fmS s).T∧s.size<=80:=by
 rw [okS,Bc,decide_eq_true_eq] at h
 rw [fmS]
 split at h
 . rename_i x hx
   have hp:=prs_some hx
   rw [hx]
   refine ⟨hp.1,ext_BL ?_,h.1⟩
   rw [hp.2,List.append_nil]; rfl
 . exact absurd h.2 (by simp)
theorem prs_T {x : Fm} (h : x.wf=true) : prs (BL x.T)=some (x,[]):=prs_of ⟨h,by rw [BL_T,List.append_nil]⟩
theorem okS_T {x : Fm} (h : x.wf=true) (hs : x.T.size<=80) : okS x.T=true:=by
 rw [okS,prs_T h]; simp [hs]
theorem fmS_T {x : Fm} (h : x.wf=true) : fmS x.T=x:=by rw [fmS,prs_T h]; rfl

def Fm.vl (v : UInt8->Bool) : Fm->Bool
 | .lf c => if c=48 then false else if c=49 then true else v c
 | .ng a => !a.vl v
 | .jn o a b => if o=38 then a.vl v && b.vl v else if o=124 then a.vl v || b.vl v else !a.vl v || b.vl v
def bitF (m : Nat) (c : UInt8) : Bool:=m.testBit (c.toNat - 97)
def Fm.sub (f : UInt8->Fm) : Fm->Fm
 | .lf c => if isLet c then f c else .lf c
 | .ng a => .ng (a.sub f)
 | .jn o a b => .jn o (a.sub f) (b.sub f)
theorem lf_let {c : UInt8} (h : isLf c=true) (h' : isLet c=false) : c=48∨c=49:=by
 rw [isLf,h',Bool.or_false,decide_eq_true_eq] at h; exact h
theorem let_ne {c : UInt8} (h : isLet c=true) : c ≠ 48∧c ≠ 49:=by
 refine ⟨fun e => ?_,fun e => ?_⟩<;>(subst e; revert h; decide)
theorem wf_sub {f : UInt8->Fm} (hf : ∀ c,(f c).wf=true) : ∀ x : Fm,x.wf=true->(x.sub f).wf=true
 | .lf c,h => by rw [Fm.sub]; split; exact hf c; exact h
 | .ng a,h => by rw [Fm.sub,Fm.wf]; exact wf_sub hf a h
 | .jn o a b, h => by
   simp only [Fm.wf,Bc] at h
   rw [Fm.sub,Fm.wf,wf_sub hf a h.1.2,wf_sub hf b h.2,h.1.1]; rfl
end Abs.Y
