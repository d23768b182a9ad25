/- What functions of this program compute, over plain data. No condition. -/
import Derived.Test.YtndjinajjejmlaaAbsRow
import Derived.Test.YtndjinajjejmlaaChecked
set_option linter.all false
open Nat renaming reduceEqDiff -> Qa, reduceLT -> Qb, reduceAdd -> Qc, reduceMul -> Qd, reduceSub -> Qe, reduceLeDiff -> Qf, reduceSubDiff -> Qg, reduceBEq -> Qh
open Bool renaming not_eq_true' -> Ba, not_eq_false' -> Bb, and_eq_true -> Bc, or_eq_true -> Bh, or_eq_false_iff -> Be
open Int renaming ofNat_lt -> Ia, ofNat_le -> Ib, not_lt -> Ic, not_le -> Ie
open Decidable renaming not_not -> Da
namespace Abs.Y.Ty
open Go Go.Proofs Abs
theorem c2 : Try.prog.cellsOf 2=1:=by kernel_rfl
theorem b2 : Try.prog.bytesOf 2=8:=by kernel_rfl
theorem a2 : aggT Try.prog 2=false:=by kernel_rfl
theorem s2 : elemSl Try.prog 2=none:=by kernel_rfl
theorem k2 : Try.prog.underlying 2=some (.int .i64):=by kernel_rfl
theorem z2 : zeroD Try.prog 2=some (.int .i64 0):=by kernel_rfl
theorem c3 : Try.prog.cellsOf 3=1:=by kernel_rfl
theorem b3 : Try.prog.bytesOf 3=8:=by kernel_rfl
theorem a3 : aggT Try.prog 3=false:=by kernel_rfl
theorem s3 : elemSl Try.prog 3=none:=by kernel_rfl
theorem ar3 : elemAr Try.prog 3=none:=by kernel_rfl
theorem k3 : Try.prog.underlying 3=some (.int .i64):=by kernel_rfl
theorem z3 : zeroD Try.prog 3=some (.int .i64 0):=by kernel_rfl
theorem c4 : Try.prog.cellsOf 4=1:=by kernel_rfl
theorem b4 : Try.prog.bytesOf 4=1:=by kernel_rfl
theorem a4 : aggT Try.prog 4=false:=by kernel_rfl
theorem us4 : (Try.prog.underlying 4).isSome=true:=by kernel_rfl
theorem s4 : elemSl Try.prog 4=none:=by kernel_rfl
theorem bo4 : isBoolT Try.prog 4=true:=by kernel_rfl
theorem z4 : zeroD Try.prog 4=some (.bool false):=by kernel_rfl
theorem c5 : Try.prog.cellsOf 5=1:=by kernel_rfl
theorem a5 : aggT Try.prog 5=false:=by kernel_rfl
theorem k5 : Try.prog.underlying 5=some (.int .u8):=by kernel_rfl
theorem z5 : zeroD Try.prog 5=some (.int .u8 0):=by kernel_rfl
theorem c6 : Try.prog.cellsOf 6=1:=by kernel_rfl
theorem a8 : aggT Try.prog 8=true:=by kernel_rfl
theorem a9 : aggT Try.prog 9=false:=by kernel_rfl
theorem z9 : zeroD Try.prog 9=some (.str ByteArray.empty):=by kernel_rfl
theorem c22 : Try.prog.cellsOf 22=1:=by kernel_rfl
theorem a22 : aggT Try.prog 22=false:=by kernel_rfl
theorem us22 : (Try.prog.underlying 22).isSome=true:=by kernel_rfl
theorem s22 : elemSl Try.prog 22=some 5:=by kernel_rfl
theorem z22 : zeroD Try.prog 22=some (.slice []):=by kernel_rfl
theorem c24 : Try.prog.cellsOf 24=1:=by kernel_rfl
theorem a24 : aggT Try.prog 24=false:=by kernel_rfl
theorem us24 : (Try.prog.underlying 24).isSome=true:=by kernel_rfl
theorem s24 : elemSl Try.prog 24=some 55:=by kernel_rfl
theorem c25 : Try.prog.cellsOf 25=1:=by kernel_rfl
theorem b25 : Try.prog.bytesOf 25=24:=by kernel_rfl
theorem a25 : aggT Try.prog 25=false:=by kernel_rfl
theorem us25 : (Try.prog.underlying 25).isSome=true:=by kernel_rfl
theorem s25 : elemSl Try.prog 25=some 3:=by kernel_rfl
theorem z25 : zeroD Try.prog 25=some (.slice []):=by kernel_rfl
theorem c27 : Try.prog.cellsOf 27=3:=by kernel_rfl
theorem a27 : aggT Try.prog 27=true:=by kernel_rfl
theorem us27 : (Try.prog.underlying 27).isSome=true:=by kernel_rfl
theorem ar27 : elemAr Try.prog 27=none:=by kernel_rfl
theorem z27 : zeroD Try.prog 27=some (.agg [(.int .i64 0),(.slice []),(.slice [])]):=by kernel_rfl
theorem f27_0 : fieldOf Try.prog 27 0=some (0,3):=by kernel_rfl
theorem p27_0 : places Try.prog 27 0=some (0,1):=by kernel_rfl
theorem f27_1 : fieldOf Try.prog 27 1=some (1,24):=by kernel_rfl
theorem p27_1 : places Try.prog 27 1=some (1,1):=by kernel_rfl
theorem f27_2 : fieldOf Try.prog 27 2=some (2,25):=by kernel_rfl
theorem p27_2 : places Try.prog 27 2=some (2,1):=by kernel_rfl
theorem pu27 : partsU Try.prog 27=true:=by kernel_rfl
theorem c33 : Try.prog.cellsOf 33=1:=by kernel_rfl
theorem a33 : aggT Try.prog 33=false:=by kernel_rfl
theorem us33 : (Try.prog.underlying 33).isSome=true:=by kernel_rfl
theorem s33 : elemSl Try.prog 33=some 25:=by kernel_rfl
theorem c35 : Try.prog.cellsOf 35=2:=by kernel_rfl
theorem a35 : aggT Try.prog 35=true:=by kernel_rfl
theorem us35 : (Try.prog.underlying 35).isSome=true:=by kernel_rfl
theorem ar35 : elemAr Try.prog 35=none:=by kernel_rfl
theorem z35 : zeroD Try.prog 35=some (.agg [(.int .i64 0),(.slice [])]):=by kernel_rfl
theorem f35_0 : fieldOf Try.prog 35 0=some (0,3):=by kernel_rfl
theorem p35_0 : places Try.prog 35 0=some (0,1):=by kernel_rfl
theorem f35_1 : fieldOf Try.prog 35 1=some (1,33):=by kernel_rfl
theorem p35_1 : places Try.prog 35 1=some (1,1):=by kernel_rfl
theorem pu35 : partsU Try.prog 35=true:=by kernel_rfl
theorem a44 : aggT Try.prog 44=false:=by kernel_rfl
theorem z44 : zeroD Try.prog 44=some .nilptr:=by kernel_rfl
theorem c45 : Try.prog.cellsOf 45=1:=by kernel_rfl
theorem a45 : aggT Try.prog 45=false:=by kernel_rfl
theorem k45 : Try.prog.underlying 45=some (.int .u64):=by kernel_rfl
theorem a46 : aggT Try.prog 46=true:=by kernel_rfl
theorem z46 : zeroD Try.prog 46=some (.agg [(.slice []),(.int .i64 0),(.int .u64 0)]):=by kernel_rfl
theorem ar47 : elemAr Try.prog 47=none:=by kernel_rfl
theorem z47 : zeroD Try.prog 47=some (.agg [(.slice []),(.int .i64 0),(.int .u64 0)]):=by kernel_rfl
theorem f47_0 : fieldOf Try.prog 47 0=some (0,22):=by kernel_rfl
theorem p47_0 : places Try.prog 47 0=some (0,1):=by kernel_rfl
theorem f47_1 : fieldOf Try.prog 47 1=some (1,3):=by kernel_rfl
theorem f47_2 : fieldOf Try.prog 47 2=some (2,45):=by kernel_rfl
theorem pu47 : partsU Try.prog 47=true:=by kernel_rfl
theorem c55 : Try.prog.cellsOf 55=2:=by kernel_rfl
theorem b55 : Try.prog.bytesOf 55=16:=by kernel_rfl
theorem a55 : aggT Try.prog 55=true:=by kernel_rfl
theorem us55 : (Try.prog.underlying 55).isSome=true:=by kernel_rfl
theorem s55 : elemSl Try.prog 55=none:=by kernel_rfl
theorem ar55 : elemAr Try.prog 55=some (2,3):=by kernel_rfl
theorem z55 : zeroD Try.prog 55=some (.agg [(.int .i64 0),(.int .i64 0)]):=by kernel_rfl
theorem es55 : eqShape Try.prog 55=some [(0,3),(1,3)]:=by kernel_rfl
theorem pu55 : partsU Try.prog 55=true:=by kernel_rfl
theorem ar61 : elemAr Try.prog 61=none:=by kernel_rfl
theorem z61 : zeroD Try.prog 61=some (.agg [(.int .i64 0),(.slice [])]):=by kernel_rfl
theorem f61_0 : fieldOf Try.prog 61 0=some (0,3):=by kernel_rfl
theorem p61_0 : places Try.prog 61 0=some (0,1):=by kernel_rfl
theorem f61_1 : fieldOf Try.prog 61 1=some (1,33):=by kernel_rfl
theorem pu61 : partsU Try.prog 61=true:=by kernel_rfl
theorem s87 : elemSl Try.prog 87=some 89:=by kernel_rfl
theorem c89 : Try.prog.cellsOf 89=1:=by kernel_rfl
theorem b89 : Try.prog.bytesOf 89=24:=by kernel_rfl
theorem a89 : aggT Try.prog 89=false:=by kernel_rfl
theorem us89 : (Try.prog.underlying 89).isSome=true:=by kernel_rfl
theorem s89 : elemSl Try.prog 89=some 91:=by kernel_rfl
theorem z89 : zeroD Try.prog 89=some (.slice []):=by kernel_rfl
theorem c91 : Try.prog.cellsOf 91=2:=by kernel_rfl
theorem b91 : Try.prog.bytesOf 91=16:=by kernel_rfl
theorem a91 : aggT Try.prog 91=true:=by kernel_rfl
theorem us91 : (Try.prog.underlying 91).isSome=true:=by kernel_rfl
theorem ar91 : elemAr Try.prog 91=none:=by kernel_rfl
theorem z91 : zeroD Try.prog 91=some (.agg [(.int .i64 0),(.int .i64 0)]):=by kernel_rfl
theorem f91_0 : fieldOf Try.prog 91 0=some (0,3):=by kernel_rfl
theorem p91_0 : places Try.prog 91 0=some (0,1):=by kernel_rfl
theorem p91_1 : places Try.prog 91 1=some (1,1):=by kernel_rfl
theorem pu91 : partsU Try.prog 91=true:=by kernel_rfl
theorem s96 : elemSl Try.prog 96=none:=by kernel_rfl
theorem ar96 : elemAr Try.prog 96=some (8,4):=by kernel_rfl
theorem z96 : zeroD Try.prog 96=some (.agg [(.bool false),(.bool false),(.bool false),(.bool false),(.bool false),(.bool false),(.bool false),(.bool false)]):=by kernel_rfl
attribute [go_sem] c2 b2 a2 s2 k2 z2 c3 b3 a3 s3 ar3 k3 z3 c4 b4 a4 us4 s4 bo4 z4 c5 a5 k5 z5 c6
attribute [go_sem] a8 a9 z9
attribute [go_sem] c22 a22 us22 s22 z22 c24 a24 us24 s24 c25 b25 a25 us25 s25 z25
attribute [go_sem] c27 a27 us27 ar27 z27 f27_0 p27_0 f27_1 p27_1 f27_2 p27_2 pu27 c33 a33 us33 s33
attribute [go_sem] c35 a35 us35 ar35 z35 f35_0 p35_0 f35_1 p35_1 pu35 a44 z44 c45 a45 k45 a46 z46
attribute [go_sem] ar47 z47 f47_0 p47_0 f47_1 f47_2 pu47 c55 b55 a55 us55 s55 ar55 z55 es55 pu55
attribute [go_sem] ar61 z61 f61_0 p61_0 f61_1 pu61 s87 c89 b89 a89 us89 s89 z89
attribute [go_sem] c91 b91 a91 us91 ar91 z91 f91_0 p91_0 p91_1 pu91 s96 ar96 z96
end Abs.Y.Ty

namespace Abs.Y
open Go Go.Proofs Abs
set_option maxRecDepth 100000

theorem within_ok (n lo hi : Int) : Ctr Try.prog 35 [.int .i64 n,.int .i64 lo,.int .i64 hi] false (.d (.bool (decide (lo<=n) && decide (n<=hi)))) []:=by
 refine Ctr.of (n:=15) (rs:=[.tmp 6]) Try.func35 rfl rfl Try.ntmps35 rfl rfl (by kernel_rfl) Try.checked.mixed ?_
 simp (disch:=first | omega | decide +kernel) only [go_sem,Qa,Qb,Qc,Qd,Qe,↓reduceIte,reduceCtorEq,Qf,Qg,Qh]
 (repeat' (first | ((first | (refine gsel_split (fun q' => ?_) (fun q' => ?_)<;>(have h':=q')<;>(try simp only [za1,za2,Ba,Bb,za3,ne_eq,za4,za5,za6,Ia,Ib,Ic,Ie,Da,Bc,Bh,Be,za7,za8] at h')) | (have q':=trivial; first | refine hE _ _ ret_ne ?_ | refine hE _ _ exit_ne ?_))<;>(try simp (disch:=first | omega | decide +kernel) only [q',go_sem,Qa,Qb,Qc,Qd,Qe,↓reduceIte,reduceCtorEq,Qf,Qg,Qh])<;>clear q') | refine hN _ ?_ ?_ Wk.kk | with_reducible refine And.intro ?_ ?_ | with_reducible omega | exact ok_ints | exact cells_ints | exact no_mem | with_reducible exact plain_ints | (refine le_maxLen ?_; omega) | (refine za9 ⟨?_,?_⟩) | (simp only [go_sem,Qc,Qb,zb1,zb2,forall_eq]; done)))
theorem l1In_ok (x a b : Int) : Ctr Try.prog 38 [.int .i64 x,.int .i64 a,.int .i64 b] false (.d (.bool (decide (a<=x) && decide (x<=b)))) []:=by
 refine Ctr.of (n:=15) (rs:=[.tmp 6]) Try.func38 rfl rfl Try.ntmps38 rfl rfl (by kernel_rfl) Try.checked.mixed ?_
 simp (disch:=first | omega | decide +kernel) only [go_sem,Qa,Qb,Qc,Qd,Qe,↓reduceIte,reduceCtorEq,Qf,Qg,Qh]
 (repeat' (first | ((first | (refine gsel_split (fun q' => ?_) (fun q' => ?_)<;>(have h':=q')<;>(try simp only [za1,za2,Ba,Bb,za3,ne_eq,za4,za5,za6,Ia,Ib,Ic,Ie,Da,Bc,Bh,Be,za7,za8] at h')) | (have q':=trivial; first | refine hE _ _ ret_ne ?_ | refine hE _ _ exit_ne ?_))<;>(try simp (disch:=first | omega | decide +kernel) only [q',go_sem,Qa,Qb,Qc,Qd,Qe,↓reduceIte,reduceCtorEq,Qf,Qg,Qh])<;>clear q') | refine hN _ ?_ ?_ Wk.kk | with_reducible refine And.intro ?_ ?_ | with_reducible omega | exact ok_ints | exact cells_ints | exact no_mem | with_reducible exact plain_ints | (refine le_maxLen ?_; omega) | (refine za9 ⟨?_,?_⟩) | (simp only [go_sem,Qc,Qb,zb1,zb2,forall_eq]; done)))
def absI (n : Int) : Int:=if IntKind.i64.wrap (0 - n) > n then IntKind.i64.wrap (0 - n) else n
theorem abs_ok (n : Int) : Ctr Try.prog 58 [.int .i64 n] false (.d (.int .i64 (absI n))) []:=by
 refine Ctr.of (n:=7) (rs:=[.tmp 2]) Try.func58 rfl rfl Try.ntmps58 rfl rfl (by kernel_rfl) Try.checked.mixed ?_
 simp (disch:=first | omega | decide +kernel) only [go_sem,Qa,Qb,Qc,Qd,Qe,↓reduceIte,reduceCtorEq,Qf,Qg,Qh]
 simp [absI]
def varI (n : Int) : Int:=if n < 0 then IntKind.i64.wrap (0 - n) else n
def okVars (v : Int) : Bool:=decide (0<=v) && decide (v<=12)
theorem varsOk_ok (v : Int) : Ctr Try.prog 51 [.int .i64 v] false (.d (.bool (okVars v))) []:=by
 refine Ctr.of (n:=5) (rs:=[.tmp 2]) Try.func51 rfl rfl Try.ntmps51 rfl rfl (by kernel_rfl) Try.checked.mixed ?_
 simp (disch:=first | omega | decide +kernel) only [go_sem,Qa,Qb,Qc,Qd,Qe,↓reduceIte,reduceCtorEq,Qf,Qg,Qh]
 (repeat' (first | ((first | (refine gsel_split (fun q' => ?_) (fun q' => ?_)<;>(have h':=q')<;>(try simp only [za1,za2,Ba,Bb,za3,ne_eq,za4,za5,za6,Ia,Ib,Ic,Ie,Da,Bc,Bh,Be,za7,za8] at h')) | (have q':=trivial; first | refine callX_new (within_ok _ _ _) rfl (by decide) ?_ | refine callY_new (within_ok _ _ _) rfl ?_ | refine hE _ _ ret_ne ?_ | refine hE _ _ exit_ne ?_))<;>(try simp (disch:=first | omega | decide +kernel) only [q',go_sem,Qa,Qb,Qc,Qd,Qe,↓reduceIte,reduceCtorEq,Qf,Qg,Qh])<;>clear q') | refine hN _ ?_ ?_ Wk.kk | with_reducible refine And.intro ?_ ?_ | with_reducible omega | exact ok_ints | exact cells_ints | exact no_mem | with_reducible exact plain_ints | (refine le_maxLen ?_; omega) | (refine za9 ⟨?_,?_⟩) | (simp only [go_sem,Qc,Qb,zb1,zb2,forall_eq]; done)))
 rfl
def okLit (v l : Int) : Bool:=decide (l ≠ 0) && (decide (IntKind.i64.wrap (0 - v)<=l) && decide (l<=v))
theorem isLiteral_ok (v l : Int) : Ctr Try.prog 57 [.int .i64 v,.int .i64 l] false (.d (.bool (okLit v l))) []:=by
 refine Ctr.of (n:=14) (rs:=[.tmp 4]) Try.func57 rfl rfl Try.ntmps57 rfl rfl (by kernel_rfl) Try.checked.mixed ?_
 simp (disch:=first | omega | decide +kernel) only [go_sem,Qa,Qb,Qc,Qd,Qe,↓reduceIte,reduceCtorEq,Qf,Qg,Qh]
 (repeat' (first | ((first | (refine gsel_split (fun q' => ?_) (fun q' => ?_)<;>(have h':=q')<;>(try simp only [za1,za2,Ba,Bb,za3,ne_eq,za4,za5,za6,Ia,Ib,Ic,Ie,Da,Bc,Bh,Be,za7,za8] at h')) | (have q':=trivial; first | refine callX_new (within_ok _ _ _) rfl (by decide) ?_ | refine callY_new (within_ok _ _ _) rfl ?_ | refine hE _ _ ret_ne ?_ | refine hE _ _ exit_ne ?_))<;>(try simp (disch:=first | omega | decide +kernel) only [q',go_sem,Qa,Qb,Qc,Qd,Qe,↓reduceIte,reduceCtorEq,Qf,Qg,Qh])<;>clear q') | refine hN _ ?_ ?_ Wk.kk | with_reducible refine And.intro ?_ ?_ | with_reducible omega | exact ok_ints | exact cells_ints | exact no_mem | with_reducible exact plain_ints | (refine le_maxLen ?_; omega) | (refine za9 ⟨?_,?_⟩) | (simp only [go_sem,Qc,Qb,zb1,zb2,forall_eq]; done)))
 . simp [okLit,h']
 . simp [okLit,h']
def okAt (v : Int) (c : List Int) (j : Nat) : Prop:=(c.getD j 0 ≠ 0∧-v<=c.getD j 0∧c.getD j 0<=v)∧(0 < j->(c.getD (j - 1) 0).natAbs < (c.getD j 0).natAbs)
instance (v c j) : Decidable (okAt v c j):=by unfold okAt; infer_instance
def okClause (v : Int) (c : List Int) : Bool:=okVars v && decide (∀ j,j < c.length->okAt v c j)
theorem okVars_iff {v : Int} : okVars v=true↔0<=v∧v<=12:=by simp [okVars]
theorem okLit_iff {v l : Int} (h : okVars v=true) : okLit v l=true↔l ≠ 0∧-v<=l∧l<=v:=by
 rw [okVars_iff] at h
 simp only [okLit,wrap_of (n:=0 - v) (by omega)]; simp
theorem absI_eq {n : Int} (h : -9223372036854775807<=n∧n<=9223372036854775807) : absI n=n.natAbs:=by
 rw [absI,wrap_of (n:=0 - n) (by omega)]; split<;>omega
theorem okClause_false {v : Int} {c : List Int} {i : Nat} (hi : i < c.length) (h : okVars v=true->¬ okAt v c i) : okClause v c=false:=by
 cases hv : okVars v with
 | false => simp [okClause,hv]
 | true =>
   have : ¬ ∀ j,j < c.length->okAt v c j:=fun hh => h hv (hh i hi)
   simp only [okClause,this,decide_false,Bool.and_false]
theorem okClause_true {v : Int} {c : List Int} (h : okVars v=true->∀ j,j < c.length->okAt v c j) : okClause v c=okVars v:=by
 cases hv : okVars v with
 | false => simp [okClause,hv]
 | true =>
   have:=decide_eq_true (h hv)
   rw [okClause,this,hv,Bool.and_true]
theorem okAt_small {v : Int} {c : List Int} {j : Nat} (hv : okVars v=true) (h : okAt v c j) : -12<=c.getD j 0∧c.getD j 0<=12:=by
 rw [okVars_iff] at hv; obtain ⟨⟨_,_,_⟩,_⟩:=h; omega
theorem okAt_abs {v : Int} {c : List Int} {i : Nat} (f : Int->Int) (hf : ∀ n,-9223372036854775807<=n∧n<=9223372036854775807->f n=n.natAbs) (hv : okVars v=true) (hI : ∀ j,j < i->okAt v c j) (hl : okLit v (c.getD i 0)=true) :
 okAt v c i↔(0 < i->f (c.getD (i - 1) 0) < f (c.getD i 0)):=by
 rw [okLit_iff hv] at hl
 have hv':=okVars_iff.1 hv
 rw [okAt,and_iff_right hl]
 refine imp_congr_right fun h0 => ?_
 have h1:=okAt_small hv (hI (i - 1) (by omega))
 rw [hf _ (by omega),hf (c.getD i 0) (by omega)]
 omega
theorem isClause_ok (v : Int) (c : List Int) (hl : c.length<=4294967296) : Ctr Try.prog 50 [.int .i64 v,.ints c] false (.d (.bool (okClause v c))) []:=by
 refine Ctr.of (n:=36) (rs:=[.tmp 4]) Try.func50 rfl rfl Try.ntmps50 rfl rfl (by kernel_rfl) Try.checked.mixed ?_
 simp (disch:=first | omega | decide +kernel) only [D.ints,go_sem,Qa,Qb,Qc,Qd,Qe,↓reduceIte,reduceCtorEq,Qf,Qg,Qh]
 refine Ok.loopC [33,32,31,30,29,28,27,26,25,24,23,22,21,20,19,18,17,16,15,14,13,12,11,10,9,6,5,4,3,2] (fun i => [(9,.d (.int .i64 (i : Nat)))]) c.length (fun i => okVars v=true->∀ j,j < i->okAt v c j) (by simp) (Wk.kk) ?_
 intro R i hN hE hi hI
 simp (disch:=first | omega | decide +kernel) only [go_sem,Qa,Qb,Qc,Qd,Qe,↓reduceIte,reduceCtorEq,Qf,Qg,Qh]
 (repeat' (first | ((first | (refine gsel_split (fun q' => ?_) (fun q' => ?_)<;>(have h':=q')<;>(try simp only [za1,za2,Ba,Bb,za3,ne_eq,za4,za5,za6,Ia,Ib,Ic,Ie,Da,Bc,Bh,Be,za7,za8] at h')) | (have q':=trivial; first | refine callX_new (isLiteral_ok _ _) rfl (by decide) ?_ | refine callY_new (isLiteral_ok _ _) rfl ?_ | refine callX_new (abs_ok _) rfl (by decide) ?_ | refine callY_new (abs_ok _) rfl ?_ | refine callX_new (varsOk_ok _) rfl (by decide) ?_ | refine callY_new (varsOk_ok _) rfl ?_ | refine hE _ _ ret_ne ?_ | refine hE _ _ exit_ne ?_))<;>(try simp (disch:=first | omega | decide +kernel) only [q',go_sem,Qa,Qb,Qc,Qd,Qe,↓reduceIte,reduceCtorEq,Qf,Qg,Qh])<;>clear q') | refine hN _ ?_ ?_ Wk.kk | with_reducible refine And.intro ?_ ?_ | with_reducible omega | exact ok_ints | exact cells_ints | exact no_mem | with_reducible exact plain_ints | (refine le_maxLen ?_; omega) | (refine za9 ⟨?_,?_⟩) | (simp only [go_sem,Qc,Qb,zb1,zb2,forall_eq]; done)))
 . rename_i h1
   rw [okClause_false h1 fun hv h => by rw [(okLit_iff hv).2 h.1] at h'; cases h']
 . rename_i h1 h2 h3
   rw [okClause_false h1 fun hv h => by rw [okAt_abs absI (fun n => absI_eq) hv (hI hv) h2] at h; omega]
 . rename_i h1 h2 h3
   exact fun hv => all_succ (hI hv) ((okAt_abs absI (fun n => absI_eq) hv (hI hv) h2).2 fun _ => h')
 . rename_i h1 h2
   exact fun hv => all_succ (hI hv) ⟨(okLit_iff hv).1 h2,fun h => by omega⟩
 . rw [okClause_true fun hv j hj => hI hv j (by omega)]
end Abs.Y

namespace Abs.Y
open Go Go.Proofs Abs
set_option maxRecDepth 100000

def idxI (p : Int->Bool) (xs : List Int) : Int:=match xs.findIdx? p with | some i => (i : Nat) | none => -1
theorem idxI_some {p : Int->Bool} {xs : List Int} {i : Nat} (h : i < xs.length) (hp : p (xs.getD i 0)=true) (hn : ∀ j,j < i->p (xs.getD j 0)=false) : idxI p xs=i:=by
 have : xs.findIdx? p=some i:=by
  rw [List.findIdx?_eq_some_iff_getElem]
  refine ⟨h,by simpa [List.getD_eq_getElem?_getD,h] using hp,fun j hj => ?_⟩
  have h2 : j < xs.length:=by omega
  simpa [List.getD_eq_getElem?_getD,h2] using hn j hj
 rw [idxI,this]
theorem idxI_none {p : Int->Bool} {xs : List Int} (hn : ∀ j,j < xs.length->p (xs.getD j 0)=false) : idxI p xs=-1:=by
 have : xs.findIdx? p=none:=by
  rw [List.findIdx?_eq_none_iff]
  intro x hx
  obtain ⟨j,hj,rfl⟩:=List.getElem_of_mem hx
  have:=hn j hj
  simpa [List.getD_eq_getElem?_getD,hj] using this
 rw [idxI,this]
theorem idxI_ge {p : Int->Bool} {xs : List Int} : decide (0<=idxI p xs)=xs.any p:=by
 unfold idxI
 cases h : xs.findIdx? p with
 | none =>
   rw [List.findIdx?_eq_none_iff] at h
   have : xs.any p=false:=by rw [List.any_eq_false]; exact fun x hx => by simp [h x hx]
   rw [this]; rfl
 | some i =>
   obtain ⟨h1,h2,_⟩:=List.findIdx?_eq_some_iff_getElem.1 h
   have : xs.any p=true:=List.any_eq_true.2 ⟨_,List.getElem_mem h1,h2⟩
   rw [this]; simp
def subI (a b : List Int) : Bool:=!(a.any fun x => !(b.any (· == x)))
end Abs.Y

namespace Abs

def szL {α : Type} (f : α->Int->Int) : List α->Int->Int
 | [],left => left
 | x :: r,left => if f x left < 0 then -1 else szL f r (f x left)
def szS {α : Type} (f : α->Int->Int) (a : List α) (left : Int) : Int:=if left - a.length < 0 then -1 else szL f a (left - a.length)
def szI (a : List Int) (left : Int) : Int:=if left - a.length < 0 then -1 else left - a.length
def SzF {α : Type} (f : α->Int->Int) : Prop:=∀ x left,0<=left->f x left=-1∨(0<=f x left∧f x left<=left)
end Abs
