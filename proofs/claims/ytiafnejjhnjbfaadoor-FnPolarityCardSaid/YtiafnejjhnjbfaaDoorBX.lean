/- What functions of this program compute, over plain data. No condition. -/
import Derived.Test.YtiafnejjhnjbfaaDoorFO1
import Derived.Test.YtiafnejjhnjbfaaDoorAbsRow
set_option linter.all false
open Nat renaming reduceEqDiff -> Qa, reduceLT -> Qb, reduceAdd -> Qc, reduceMul -> Qd, reduceSub -> Qe, reduceLeDiff -> Qf, reduceSubDiff -> Qg, reduceBEq -> Qh
open Bool renaming not_eq_true' -> Ba, not_eq_false' -> Bb, and_eq_true -> Bc, or_eq_true -> Bh, or_eq_false_iff -> Be
open Int renaming ofNat_lt -> Ia, ofNat_le -> Ib, not_lt -> Ic, not_le -> Ie
open Decidable renaming not_not -> Da
namespace Abs.Y
open Go Go.Proofs Abs
set_option maxRecDepth 100000

def fA : Fm:=.lf 97
def fB : Fm:=.lf 98
def fC : Fm:=.lf 99
def imp (a b : Fm) : Fm:=.jn 62 a b
def andF (a b : Fm) : Fm:=.jn 38 a b
def orF (a b : Fm) : Fm:=.jn 124 a b
def sch : Nat->Fm
 | 0 => imp fA (imp fB fA)
 | 1 => imp (imp fA (imp fB fC)) (imp (imp fA fB) (imp fA fC))
 | 2 => imp (imp (.ng fA) (.ng fB)) (imp fB fA)
 | 3 => imp (andF fA fB) fA
 | 4 => imp (andF fA fB) fB
 | 5 => imp fA (imp fB (andF fA fB))
 | 6 => imp fA (orF fA fB)
 | 7 => imp fB (orF fA fB)
 | 8 => imp (imp fA fC) (imp (imp fB fC) (imp (orF fA fB) fC))
 | _ => .lf 49
def Fm.abc : Fm->Bool
 | .lf c => decide (c=97∨c=98∨c=99) || decide (c=48∨c=49)
 | .ng a => a.abc
 | .jn _ a b => a.abc && b.abc
abbrev By:=UInt8->Option Fm
def By.set (by_ : By) (c : UInt8) (y : Fm) : By:=fun d => if d=c then some y else by_ d
def mt : Fm->Fm->By->By × Bool
 | .lf c,y,b => if isLet c then (match b c with | none => (b.set c y,true) | some o => (b,decide (o=y))) else (b,decide (y=.lf c))
 | .ng a,.ng a',b => mt a a' b
 | .jn o a1 a2,.jn o' b1 b2,b => if o=o' then (if (mt a1 b1 b).2 then mt a2 b2 (mt a1 b1 b).1 else ((mt a1 b1 b).1,false)) else (b,false)
 | .ng _,.lf _,b => (b,false)
 | .ng _,.jn _ _ _,b => (b,false)
 | .jn _ _ _,.lf _,b => (b,false)
 | .jn _ _ _,.ng _,b => (b,false)
def By.le (b : By) (f : UInt8->Fm) : Prop:=∀ c x,b c=some x->f c=x
def By.sb (b d : By) : Prop:=∀ c x,b c=some x->d c=some x
def isC (k : Nat) (y : Fm) : Bool:=(mt (sch k) y fun _ => none).2
end Abs.Y

namespace Abs.Y
open Go Go.Proofs Abs
set_option maxRecDepth 100000

theorem within_ok (n lo hi : Int) : Ctr Tryd.prog 33 [.int .i64 n,.int .i64 lo,.int .i64 hi] false (.d (.bool (decide (lo<=n) && decide (n<=hi)))) []:=by
 refine Ctr.of (n:=15) (rs:=[.tmp 6]) Tryd.func33 rfl rfl Tryd.ntmps33 rfl rfl (by kernel_rfl) Tryd.checked.mixed ?_
 simp (disch:=first | omega | decide +kernel) only [go_sem,Qa,Qb,Qc,Qd,Qe,↓reduceIte,reduceCtorEq,Qf,Qg,Qh]
 (repeat' (first | ((first | (refine gsel_split (fun q' => ?_) (fun q' => ?_)<;>(have h':=q')<;>(try simp only [za1,za2,Ba,Bb,za3,ne_eq,za4,za5,za6,Ia,Ib,Ic,Ie,Da,Bc,Bh,Be,za7,za8] at h')<;>try (exfalso; omega)) | (have q':=trivial; first | refine hE _ _ ret_ne ?_ | refine hE _ _ exit_ne ?_))<;>(try simp (disch:=first | omega | decide +kernel) only [q',go_sem,Qa,Qb,Qc,Qd,Qe,↓reduceIte,reduceCtorEq,Qf,Qg,Qh])<;>clear q') | with_reducible refine And.intro ?_ ?_ | with_reducible omega | (refine le_maxLen ?_; omega)))
def absI (n : Int) : Int:=if IntKind.i64.wrap (0 - n) > n then IntKind.i64.wrap (0 - n) else n
def varI (n : Int) : Int:=if n < 0 then IntKind.i64.wrap (0 - n) else n
def okVars (v : Int) : Bool:=decide (0<=v) && decide (v<=12)
def okLit (v l : Int) : Bool:=decide (l ≠ 0) && (decide (IntKind.i64.wrap (0 - v)<=l) && decide (l<=v))
def okAt (v : Int) (c : List Int) (j : Nat) : Prop:=(c.getD j 0 ≠ 0∧-v<=c.getD j 0∧c.getD j 0<=v)∧(0 < j->(c.getD (j - 1) 0).natAbs < (c.getD j 0).natAbs)
instance (v c j) : Decidable (okAt v c j):=by unfold okAt; infer_instance
def okClause (v : Int) (c : List Int) : Bool:=okVars v && decide (∀ j,j < c.length->okAt v c j)
end Abs.Y

namespace Abs
open Go Go.RowKit

theorem Wk.data {N st j o es} (hj : lk j st.o=some o) (ho : rowOf o=some es) : Wk N st (st.frz j es):=fun _ β φ _ _ _ _ _ hs => ⟨β,φ,hs.frz' hj ho⟩

def cntI (k : Int) : Nat->List Int
 | 0 => []
 | n + 1 => k :: cntI (k + 1) n
end Abs
namespace Abs
end Abs
namespace Abs
def cntSS : List (List Int)->Int->List (List Int)
 | [],_ => []
 | x :: r,k => cntI k x.length :: cntSS r (k + x.length)
def lenSS : List (List Int)->Nat
 | [] => 0
 | x :: r => x.length + lenSS r
def offSS (a : List (List Int)) (k : Int) (i : Nat) : Int:=k + (lenSS (a.take i) : Nat)
def lenST : List Step->Nat
 | [] => 0
 | s :: r => s.c.length + 3 + lenST r
def cntST1 (s : Step) (k : Int) : Step:=⟨cntI k s.c.length,k + s.c.length,k + s.c.length + 1,k + s.c.length + 2⟩
def cntST : List Step->Int->List Step
 | [],_ => []
 | s :: r,k => cntST1 s k :: cntST r (k + s.c.length + 3)
def offST (a : List Step) (k : Int) (i : Nat) : Int:=k + (lenST (a.take i) : Nat)
end Abs
namespace Abs
end Abs
namespace Abs
end Abs
namespace Abs
end Abs
namespace Abs
open Go Go.RowKit
end Abs

namespace Abs
open Go Go.RowKit

mutual
def AV.bfz (j : Nat) (x : D) : AV->AV
 | .sl i => if i=j then .undef else .sl i
 | .p i o => if i=j then (if o=0 then .d (.ptr x) else .undef) else .p i o
 | .pe i k n o => if i=j then .undef else .pe i k n o
 | .mq i => if i=j then .undef else .mq i
 | .sf i k l => if i=j then .undef else .sf i k l
 | .vw i q n k => if q=j then .undef else .vw i q n k
 | .pv i q k n o => if q=j then .undef else .pv i q k n o
 | .tup xs => .tup (AV.bfzL j x xs)
 | .st xs => .st (AV.bfzL j x xs)
 | .fn f cs => .fn f (AV.bfzL j x cs)
 | y => y
def AV.bfzL (j : Nat) (x : D) : List AV->List AV
 | [] => []
 | y :: r => y.bfz j x :: AV.bfzL j x r
end
def bfzS (j : Nat) (x : D) : List (Nat × AV)->List (Nat × AV)
 | [] => []
 | (k,v) :: r => (k,v.bfz j x) :: bfzS j x r
def AO.bfz (j : Nat) (x : D) : AO->AO
 | .box e cells => .box e (AV.bfzL j x cells)
 | .dp t xs (some (c,some d)) => .dp t xs (if d=j then some (c,none) else some (c,some d))
 | y => y
def bfzO (j : Nat) (x : D) : List (Nat × AO)->List (Nat × AO)
 | [] => []
 | (k,v) :: r => if k=j then bfzO j x r else (k,v.bfz j x) :: bfzO j x r
def cutQ (P : Program) (N : Nat) (y : Code) (Q : Exit->St->Prop) (st : St) : Prop:=∃ st',Wk N st st'∧Awp P N y Q st'
theorem Ctr.tupN {P : Program} {f : FuncId} {xs ys : List D} {sh : Bool} (h : Ctr P f xs sh (.tup (ys.map .d)) []) : Ctr P f xs sh (.d (.tup ys)) []:=by
 refine ⟨h.1,fun S w vs hvl hvr hG => (h.2 S w vs hvl hvr hG).mono fun e w' ⟨v,he,hF,β,φ,hR,h1,h2,h3⟩ => ⟨v,he,hF,β,φ,?_,h1,h2,h3⟩⟩
 cases hR with
 | tup hl hr =>
   refine .d (.tup (by simpa using hl) fun i hi => ?_)
   have:=hr i (by simpa using hi)
   have e : (ys.map AV.d).getD i .undef=.d (ys.getD i .nilptr):=by simp [List.getD_eq_getElem?_getD,hi]
   rw [e] at this
   cases this with
   | d h => exact h
end Abs

namespace Abs
open Go Go.RowKit
def cellD (v : AV) (x : D) : Prop:=v=.d x∨(v=.nilS∧x=.slice [])
def cellsD : List AV->List D->Prop
 | [],[] => True
 | v :: r,x :: s => cellD v x∧cellsD r s
 | _,_ => False
theorem cellsD_at : ∀ {vs : List AV} {xs : List D},cellsD vs xs->vs.length=xs.length∧∀ i,i < xs.length->cellD (vs.getD i .undef) (xs.getD i .nilptr)
 | [],[],_ => ⟨rfl,fun i hi => by simp at hi⟩
 | [],_ :: _,h => h.elim
 | _ :: _,[],h => h.elim
 | v :: r, x :: s, h => by
   have ih:=cellsD_at h.2
   refine ⟨by simp [ih.1],fun i hi => ?_⟩
   cases i with
   | zero => exact h.1
   | succ i => exact ih.2 i (by simpa using hi)
theorem rd_of_box {β : Nat->Value} {S S' : Nat->Prop} {w : World} {e : TypeId} {x : D} {cells : List AV} {v : Value} {F : Nat->Prop} (h : OK β S w (.box e cells) v F) (hc : cellsD cells x.cells) (hS : ∀ g,S g->g < w.heap.size->S' g) (hg : ∀ g,F g->S' g) :
 ∃ b c,v=.slice (some ⟨b,0,none⟩) 1 c∧Rd S' w (.ptr x) (.pointer (some ⟨b,0,none⟩)):=by
 obtain ⟨hlen,hcd⟩:=cellsD_at hc
 cases h with
 | box hF xs hv hw hrel =>
   have hw':=hw
   rcases hw.2 with ⟨h1,_⟩ | ⟨g,cap,cur,h1,_,h3,h4,_⟩
   . exact absurd h1 hv
   . subst h1
     refine ⟨g,cap,rfl,.ptr (fun i => xs.getD i Go.undef) (fun i hi => ⟨hg g (by rw [hF]; rfl),?_⟩) fun i hi => ?_⟩
     . have h9 : i < xs.length:=by rw [hw'.1,Nat.one_mul,hlen]; exact hi
       have h10:=ownsRow_cell hw' rfl h9
       rwa [Nat.zero_add]
     . have h5:=hrel i (by omega)
       rcases hcd i hi with h6 | ⟨h6,h7⟩
       . rw [h6] at h5
         cases h5 with
         | d h5 => exact h5.move fun g hg hl => ⟨hS g hg hl,rfl⟩
       . rw [h6] at h5
         rw [h7]
         generalize xs.getD i Go.undef=q at *
         cases h5 with
         | nilS => exact .nil _
theorem Ctr.boxD1 {P : Program} {f : FuncId} {xs : List D} {e : TypeId} {x : D} {cells : List AV} (hc : cellsD cells x.cells) (h : Ctr P f xs true (.p 0 0) [(0,.box e cells)]) : Ctr P f xs true (.d (.ptr x)) []:=by
 refine ⟨h.1,fun S w vs hl hr hG => (h.2 S w vs hl hr hG).mono fun en w' ⟨v,he,hf,β,φ,hrel,hobj,hown,hdis⟩ => ⟨v,he,hf,β,φ,?_,by simp [lk],by simp [lk],by simp [lk]⟩⟩
 obtain ⟨b,c,hb,hrd⟩:=rd_of_box (S':=free (fun g => w.heap.size<=g∨(true=true∧S g)) φ []) (hobj 0 (.box e cells) (by simp [lk])) hc (fun g hg _ => ⟨hg.1,by simp [lk]⟩) fun g hg => ⟨.inl (hown 0 (.box e cells) g (by simp [lk]) hg),by simp [lk]⟩
 cases hrel with
 | p h => rw [hb] at h; cases h; exact .d (by simpa using hrd)
theorem ret_p1 {P : Program} {t j : Nat} {e : TypeId} {cells : List AV} {st : St} (js : List Nat) (h : lk t (frzs js st).s=some (.p j 0)) (hj : lk j (frzs js st).o=some (.box e cells)) (hc : AV.renL (fun _ => j) cells=cells) :
 retQ P [.tmp t] true (.p 0 0) [(0,.box e cells)] .ret st:=by
 refine .inr ⟨rfl,js,?_⟩
 simp only [retO,resV,h]
 exact ⟨trivial,.one j rfl (by rw [hj,AO.ren,hc]),.inl trivial⟩
theorem ret_f3 {P : Program} {a b c : Nat} {x y z : D} {st : St} (js : List Nat) (h1 : lk a (frzs js st).s=some (.d x)) (h2 : lk b (frzs js st).s=some (.d y)) (h3 : lk c (frzs js st).s=some (.d z)) : retQ P [.tmp a,.tmp b,.tmp c] true (.tup [.d x,.d y,.d z]) [] .ret st:=by
 refine .inr ⟨rfl,js,?_⟩
 simp only [retO,resV,h1,h2,h3]
 exact ⟨trivial,⟨fun q => q,rfl,by simp,by simp⟩,.inl trivial⟩
end Abs
