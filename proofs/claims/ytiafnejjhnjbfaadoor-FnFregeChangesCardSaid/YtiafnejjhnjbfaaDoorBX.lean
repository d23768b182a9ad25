/- What functions of this program compute, over plain data. No condition. -/
import Derived.Test.YtiafnejjhnjbfaaDoorFO1
import Derived.Test.YtiafnejjhnjbfaaDoorAbsRow
set_option linter.all false
open Nat renaming reduceEqDiff -> Qa, reduceLT -> Qb, reduceAdd -> Qc, reduceMul -> Qd, reduceSub -> Qe, reduceLeDiff -> Qf, reduceSubDiff -> Qg, reduceBEq -> Qh
open Bool renaming not_eq_true' -> Ba, not_eq_false' -> Bb, and_eq_true -> Bc, or_eq_true -> Bh, or_eq_false_iff -> Be
open Int renaming ofNat_lt -> Ia, ofNat_le -> Ib, not_lt -> Ic, not_le -> Ie
open Decidable renaming not_not -> Da
namespace Abs.Y
open Go Go.Proofs Abs
set_option maxRecDepth 100000

def fA : Fm:=.lf 97
def fB : Fm:=.lf 98
def fC : Fm:=.lf 99
def imp (a b : Fm) : Fm:=.jn 62 a b
def andF (a b : Fm) : Fm:=.jn 38 a b
def orF (a b : Fm) : Fm:=.jn 124 a b
def sch : Nat->Fm
 | 0 => imp fA (imp fB fA)
 | 1 => imp (imp fA (imp fB fC)) (imp (imp fA fB) (imp fA fC))
 | 2 => imp (imp (.ng fA) (.ng fB)) (imp fB fA)
 | 3 => imp (andF fA fB) fA
 | 4 => imp (andF fA fB) fB
 | 5 => imp fA (imp fB (andF fA fB))
 | 6 => imp fA (orF fA fB)
 | 7 => imp fB (orF fA fB)
 | 8 => imp (imp fA fC) (imp (imp fB fC) (imp (orF fA fB) fC))
 | _ => .lf 49
def Fm.abc : Fm->Bool
 | .lf c => decide (c=97∨c=98∨c=99) || decide (c=48∨c=49)
 | .ng a => a.abc
 | .jn _ a b => a.abc && b.abc
theorem sch_abc : ∀ k,(sch k).abc=true
 | 0 | 1 | 2 | 3 | 4 | 5 | 6 | 7 | 8 => rfl
 | _ + 9 => rfl
theorem sch_wf : ∀ k,(sch k).wf=true
 | 0 | 1 | 2 | 3 | 4 | 5 | 6 | 7 | 8 => rfl
 | _ + 9 => rfl

abbrev By:=UInt8->Option Fm
def By.set (by_ : By) (c : UInt8) (y : Fm) : By:=fun d => if d=c then some y else by_ d
def mt : Fm->Fm->By->By × Bool
 | .lf c,y,b => if isLet c then (match b c with | none => (b.set c y,true) | some o => (b,decide (o=y))) else (b,decide (y=.lf c))
 | .ng a,.ng a',b => mt a a' b
 | .jn o a1 a2,.jn o' b1 b2,b => if o=o' then (if (mt a1 b1 b).2 then mt a2 b2 (mt a1 b1 b).1 else ((mt a1 b1 b).1,false)) else (b,false)
 | .ng _,.lf _,b => (b,false)
 | .ng _,.jn _ _ _,b => (b,false)
 | .jn _ _ _,.lf _,b => (b,false)
 | .jn _ _ _,.ng _,b => (b,false)
def By.le (b : By) (f : UInt8->Fm) : Prop:=∀ c x,b c=some x->f c=x
def By.sb (b d : By) : Prop:=∀ c x,b c=some x->d c=some x
theorem By.sb_refl (b : By) : b.sb b:=fun _ _ h => h
theorem By.sb_trans {a b c : By} (h : a.sb b) (h' : b.sb c) : a.sb c:=fun x y hh => h' _ _ (h _ _ hh)
theorem mt_case (f : UInt8->Fm) : ∀ (x : Fm) (b : By),x.wf=true->b.le f->(mt x (x.sub f) b).2=true∧(mt x (x.sub f) b).1.le f
 | .lf c, b, h, hb => by
   rw [Fm.sub,mt]
   split
   . cases hc : b c with
     | none =>
       refine ⟨rfl,fun d y hd => ?_⟩
       dsimp only [By.set] at hd
       split at hd
       . rename_i e; subst e; exact Option.some.inj hd
       . exact hb _ _ hd
     | some o => exact ⟨decide_eq_true (hb _ _ hc).symm,hb⟩
   . exact ⟨decide_eq_true rfl,hb⟩
 | .ng a,b,h,hb => by rw [Fm.sub,mt]; exact mt_case f a b h hb
 | .jn o a1 a2, b, h, hb => by
   simp only [Fm.wf,Bc] at h
   obtain ⟨h1,h2⟩:=mt_case f a1 b h.1.2 hb
   rw [Fm.sub,mt,if_pos rfl,if_pos h1]
   exact mt_case f a2 _ h.2 h2
theorem mt_sb : ∀ (x y : Fm) (b : By),b.sb (mt x y b).1
 | .lf c, y, b => by
   rw [mt]
   split
   . cases hc : b c with
     | none =>
       refine fun d z hd => ?_
       dsimp only [By.set]
       split
       . rename_i e; subst e; rw [hc] at hd; cases hd
       . exact hd
     | some o => exact b.sb_refl
   . exact b.sb_refl
 | .ng a,.ng a',b => by rw [mt]; exact mt_sb a a' b
 | .jn o a1 a2, .jn o' b1 b2, b => by
   rw [mt]
   split
   . split
     . exact By.sb_trans (mt_sb a1 b1 b) (mt_sb a2 b2 _)
     . exact mt_sb a1 b1 b
   . exact b.sb_refl
 | .ng _,.lf _,b => b.sb_refl
 | .ng _,.jn _ _ _,b => b.sb_refl
 | .jn _ _ _,.lf _,b => b.sb_refl
 | .jn _ _ _,.ng _,b => b.sb_refl
theorem mt_found (f : UInt8->Fm) : ∀ (x y : Fm) (b : By),(mt x y b).2=true->(∀ c z,(mt x y b).1 c=some z->f c=z)->y=x.sub f
 | .lf c, y, b => by
   rw [mt,Fm.sub]
   split
   . cases hc : b c with
     | none => exact fun _ h => (h c y (if_pos rfl)).symm
     | some o => exact fun h h' => by rw [← of_decide_eq_true h]; exact (h' _ _ hc).symm
   . exact fun h _ => of_decide_eq_true h
 | .ng a,.ng a',b => by rw [mt,Fm.sub]; exact fun h h' => by rw [mt_found f a a' b h h']
 | .jn o a1 a2, .jn o' b1 b2, b => by
   rw [mt,Fm.sub]
   split
   . rename_i e
     subst e
     split
     . rename_i h1
       intro h h'
       rw [mt_found f a1 b1 b h1 (fun c z hz => h' c z (mt_sb a2 b2 _ c z hz)),mt_found f a2 b2 _ h h']
     . exact fun h => nomatch h
   . exact fun h => nomatch h
 | .ng _,.lf _,b => fun h => nomatch h
 | .ng _,.jn _ _ _,b => fun h => nomatch h
 | .jn _ _ _,.lf _,b => fun h => nomatch h
 | .jn _ _ _,.ng _,b => fun h => nomatch h
def isC (k : Nat) (y : Fm) : Bool:=(mt (sch k) y fun _ => none).2
theorem isC_sub (k : Nat) (f : UInt8->Fm) : isC k ((sch k).sub f)=true:=(mt_case f (sch k) _ (sch_wf k) (by intro c x h; cases h)).1
end Abs.Y

namespace Abs.Y
open Go Go.Proofs Abs
set_option maxRecDepth 100000

theorem within_ok (n lo hi : Int) : Ctr Tryd.prog 33 [.int .i64 n,.int .i64 lo,.int .i64 hi] false (.d (.bool (decide (lo<=n) && decide (n<=hi)))) []:=by
 refine Ctr.of (n:=15) (rs:=[.tmp 6]) Tryd.func33 rfl rfl Tryd.ntmps33 rfl rfl (by kernel_rfl) Tryd.checked.mixed ?_
 simp (disch:=first | omega | decide +kernel) only [go_sem,Qa,Qb,Qc,Qd,Qe,↓reduceIte,reduceCtorEq,Qf,Qg,Qh]
 (repeat' (first | ((first | (refine gsel_split (fun q' => ?_) (fun q' => ?_)<;>(have h':=q')<;>(try simp only [za1,za2,Ba,Bb,za3,ne_eq,za4,za5,za6,Ia,Ib,Ic,Ie,Da,Bc,Bh,Be,za7,za8] at h')<;>try (exfalso; omega)) | (have q':=trivial; first | refine hE _ _ ret_ne ?_ | refine hE _ _ exit_ne ?_))<;>(try simp (disch:=first | omega | decide +kernel) only [q',go_sem,Qa,Qb,Qc,Qd,Qe,↓reduceIte,reduceCtorEq,Qf,Qg,Qh])<;>clear q') | with_reducible refine And.intro ?_ ?_ | with_reducible omega | (refine le_maxLen ?_; omega)))
theorem l1In_ok (x a b : Int) : Ctr Tryd.prog 93 [.int .i64 x,.int .i64 a,.int .i64 b] false (.d (.bool (decide (a<=x) && decide (x<=b)))) []:=by
 refine Ctr.of (n:=15) (rs:=[.tmp 6]) Tryd.func93 rfl rfl Tryd.ntmps93 rfl rfl (by kernel_rfl) Tryd.checked.mixed ?_
 simp (disch:=first | omega | decide +kernel) only [go_sem,Qa,Qb,Qc,Qd,Qe,↓reduceIte,reduceCtorEq,Qf,Qg,Qh]
 (repeat' (first | ((first | (refine gsel_split (fun q' => ?_) (fun q' => ?_)<;>(have h':=q')<;>(try simp only [za1,za2,Ba,Bb,za3,ne_eq,za4,za5,za6,Ia,Ib,Ic,Ie,Da,Bc,Bh,Be,za7,za8] at h')<;>try (exfalso; omega)) | (have q':=trivial; first | refine hE _ _ ret_ne ?_ | refine hE _ _ exit_ne ?_))<;>(try simp (disch:=first | omega | decide +kernel) only [q',go_sem,Qa,Qb,Qc,Qd,Qe,↓reduceIte,reduceCtorEq,Qf,Qg,Qh])<;>clear q') | with_reducible refine And.intro ?_ ?_ | with_reducible omega | (refine le_maxLen ?_; omega)))
def absI (n : Int) : Int:=if IntKind.i64.wrap (0 - n) > n then IntKind.i64.wrap (0 - n) else n
def varI (n : Int) : Int:=if n < 0 then IntKind.i64.wrap (0 - n) else n
def okVars (v : Int) : Bool:=decide (0<=v) && decide (v<=12)
def okLit (v l : Int) : Bool:=decide (l ≠ 0) && (decide (IntKind.i64.wrap (0 - v)<=l) && decide (l<=v))
def okAt (v : Int) (c : List Int) (j : Nat) : Prop:=(c.getD j 0 ≠ 0∧-v<=c.getD j 0∧c.getD j 0<=v)∧(0 < j->(c.getD (j - 1) 0).natAbs < (c.getD j 0).natAbs)
instance (v c j) : Decidable (okAt v c j):=by unfold okAt; infer_instance
def okClause (v : Int) (c : List Int) : Bool:=okVars v && decide (∀ j,j < c.length->okAt v c j)
end Abs.Y

namespace Abs
open Go Go.RowKit

theorem Wk.obj {N} {st : St} (j : Nat) {o o1 : AO} (hj : lk j st.o=some o) (h : ∀ β S w v F,OK β S w o v F->OK β S w o1 v F) (h0 : o.isRes=false:=by rfl) : Wk N st ⟨st.s,ins j o1 st.o⟩:=fun Z β φ B M w0 a w hs => by
 have hk : ∀ i x,lk i (ins j o1 st.o)=some x->(i=j∧x=o1)∨(i ≠ j∧lk i st.o=some x):=fun i x hi => by
  rw [lk_ins] at hi
  split at hi
  . rename_i e; cases hi; exact .inl ⟨e,rfl⟩
  . rename_i e; exact .inr ⟨e,hi⟩
 have he : ∀ i x,lk i (ins j o1 st.o)=some x->∃ y,lk i st.o=some y∧(x.isRes=false->y.isRes=false):=fun i x hi => by
  rcases hk i x hi with ⟨rfl,_⟩ | ⟨_,h2⟩
  . exact ⟨o,hj,fun _ => h0⟩
  . exact ⟨x,h2,id⟩
 have hS : ∀ g,free Z φ st.o g->g < w.heap.size->free Z φ (ins j o1 st.o) g∧w.heap[g]? = w.heap[g]? := fun g hg _ => ⟨⟨hg.1,fun i x hi hx => by
  obtain ⟨y,hy,hyr⟩:=he i x hi; exact hg.2 i y hy (hyr hx)⟩,rfl⟩
 refine ⟨β,φ,hs.nd.move hS,hs.size,fun i av hi => (hs.slots i av hi).move hS,fun i x hi => ?_,fun i x g hi hg => ?_,fun i i' x x' g hi hi' hg hg' => ?_,hs.fr,hs.z,hs.gw⟩
 . rcases hk i x hi with ⟨rfl,rfl⟩ | ⟨_,h2⟩
   . exact h _ _ _ _ _ ((hs.objs i o hj).move hS (Nat.le_refl _) fun _ _ => rfl)
   . exact (hs.objs i x h2).move hS (Nat.le_refl _) fun _ _ => rfl
 . obtain ⟨y,hy,_⟩:=he i x hi; exact hs.own i y g hy hg
 . obtain ⟨y,hy,_⟩:=he i x hi
   obtain ⟨y',hy',_⟩:=he i' x' hi'
   exact hs.disj i i' y y' g hy hy' hg hg'
theorem Wk.data {N st j o es} (hj : lk j st.o=some o) (ho : rowOf o=some es) : Wk N st (st.frz j es):=fun _ β φ _ _ _ _ _ hs => ⟨β,φ,hs.frz' hj ho⟩

theorem ret_c1 {P : Program} {a : Nat} {t : TypeId} {c : Prop} {x : D} {st : St} (h : (lk a st.s).bind (loadV P st.o t)=some (c,.d x)) (hc : c) (hu : (P.underlying t).isSome=true) : retQ P [.cell a t] true (.d x) [] .ret st:=by
 refine .inl ?_
 simp only [retO,resV,h]
 exact ⟨⟨hu,hc,trivial⟩,.nil rfl,.inl trivial⟩
theorem ret_cb {P : Program} {a j : Nat} {t e : TypeId} {cells : List AV} {ds : List D} {st : St} (h : lk a st.s=some (.p j 0)) (hj : lk j st.o=some (.box e cells)) (hag : aggT P t=true) (hn : P.cellsOf t=cells.length) (hd : allD cells=some ds) (hu : (P.underlying t).isSome=true) :
 retQ P [.cell a t] true (.d (.agg ds)) [] .ret st:=by
 refine ret_c1 (c:=0 + P.cellsOf t<=cells.length∧(P.underlying t).isSome=true) ?_ ⟨by omega,hu⟩ hu
 rw [h,Option.bind_some,loadV,hj]
 simp only [hag,if_true,List.drop_zero,hn,List.take_length,hd]

theorem lk_one {α : Type} {j : Nat} {a b : α} (h : lk j [(0,a)]=some b) : j=0∧b=a:=by
 simp only [lk] at h
 split at h
 . rename_i e; cases h; exact ⟨e,rfl⟩
 . cases h
theorem free_one {T : Nat->Prop} {φ : Nat->Nat->Prop} {a b : AO} {g : Nat} (h0 : a.isRes=false) (h : free T φ [(0,a)] g) : free T φ [(0,b)] g:=⟨h.1,fun j x hj _ => by
 obtain ⟨rfl,rfl⟩:=lk_one hj; exact h.2 0 a (by simp [lk]) h0⟩
theorem Ctr.obj {P : Program} {f : FuncId} {xs : List D} {sh : Bool} {res : AV} {o o1 : AO} (h : ∀ β S w v F,OK β S w o v F->OK β S w o1 v F) (hc : Ctr P f xs sh res [(0,o)]) (h0 : o.isRes=false:=by rfl) : Ctr P f xs sh res [(0,o1)]:=by
 refine ⟨hc.1,fun S w vs hl hr hG => (hc.2 S w vs hl hr hG).mono fun en w' ⟨v,he,hf,β,φ,h1,h2,h3,h4⟩ => ⟨v,he,hf,β,φ,h1.move fun g hg _ => ⟨free_one h0 hg,rfl⟩,fun j x hj => ?_,fun j x g hj hg => ?_,fun j j' x x' g hj hj' _ _ => ?_⟩⟩
 . obtain ⟨rfl,rfl⟩:=lk_one hj
   exact h _ _ _ _ _ ((h2 0 o (by simp [lk])).move (fun g hg _ => ⟨free_one h0 hg,rfl⟩) (Nat.le_refl _) fun _ _ => rfl)
 . obtain ⟨rfl,rfl⟩:=lk_one hj
   exact h3 0 o g (by simp [lk]) hg
 . rw [(lk_one hj).1,(lk_one hj').1]
theorem CtrM.obj {P : Program} {f : FuncId} {avs : List AV} {oi : List (Nat × AO)} {keep : List Nat} {sh : Bool} {res : AV} {o o1 : AO} (h : ∀ β S w v F,OK β S w o v F->OK β S w o1 v F) (hc : CtrM P f avs oi keep sh res [(0,o)]) (hr0 : o.isRes=false:=by rfl) : CtrM P f avs oi keep sh res [(0,o1)]:=by
 refine ⟨hc.1,fun S β φ w vs hl hr hO hD hG => (hc.2 S β φ w vs hl hr hO hD hG).mono fun en w' ⟨v,he,hf,β',φ',h0,h1,h2,h3,h4⟩ => ⟨v,he,hf,β',φ',h0,h1.move fun g hg _ => ⟨free_one hr0 hg,rfl⟩,fun j x hj => ?_,fun j x g hj hg => ?_,fun j j' x x' g hj hj' _ _ => ?_⟩⟩
 . obtain ⟨rfl,rfl⟩:=lk_one hj
   exact h _ _ _ _ _ ((h2 0 o (by simp [lk])).move (fun g hg _ => ⟨free_one hr0 hg,rfl⟩) (Nat.le_refl _) fun _ _ => rfl)
 . obtain ⟨rfl,rfl⟩:=lk_one hj
   exact h3 0 o g (by simp [lk]) hg
 . rw [(lk_one hj).1,(lk_one hj').1]
def cntI (k : Int) : Nat->List Int
 | 0 => []
 | n + 1 => k :: cntI (k + 1) n
end Abs
namespace Abs
end Abs
namespace Abs
def cntSS : List (List Int)->Int->List (List Int)
 | [],_ => []
 | x :: r,k => cntI k x.length :: cntSS r (k + x.length)
def lenSS : List (List Int)->Nat
 | [] => 0
 | x :: r => x.length + lenSS r
def offSS (a : List (List Int)) (k : Int) (i : Nat) : Int:=k + (lenSS (a.take i) : Nat)
def lenST : List Step->Nat
 | [] => 0
 | s :: r => s.c.length + 3 + lenST r
def cntST1 (s : Step) (k : Int) : Step:=⟨cntI k s.c.length,k + s.c.length,k + s.c.length + 1,k + s.c.length + 2⟩
def cntST : List Step->Int->List Step
 | [],_ => []
 | s :: r,k => cntST1 s k :: cntST r (k + s.c.length + 3)
def offST (a : List Step) (k : Int) (i : Nat) : Int:=k + (lenST (a.take i) : Nat)
end Abs
namespace Abs
end Abs
namespace Abs
end Abs
namespace Abs
end Abs
namespace Abs
open Go Go.RowKit
end Abs

namespace Abs
open Go Go.RowKit

mutual
def AV.bfz (j : Nat) (x : D) : AV->AV
 | .sl i => if i=j then .undef else .sl i
 | .p i o => if i=j then (if o=0 then .d (.ptr x) else .undef) else .p i o
 | .pe i k n o => if i=j then .undef else .pe i k n o
 | .mq i => if i=j then .undef else .mq i
 | .sf i k l => if i=j then .undef else .sf i k l
 | .vw i q n k => if q=j then .undef else .vw i q n k
 | .pv i q k n o => if q=j then .undef else .pv i q k n o
 | .tup xs => .tup (AV.bfzL j x xs)
 | .st xs => .st (AV.bfzL j x xs)
 | .fn f cs => .fn f (AV.bfzL j x cs)
 | y => y
def AV.bfzL (j : Nat) (x : D) : List AV->List AV
 | [] => []
 | y :: r => y.bfz j x :: AV.bfzL j x r
end
def bfzS (j : Nat) (x : D) : List (Nat × AV)->List (Nat × AV)
 | [] => []
 | (k,v) :: r => (k,v.bfz j x) :: bfzS j x r
def AO.bfz (j : Nat) (x : D) : AO->AO
 | .box e cells => .box e (AV.bfzL j x cells)
 | .dp t xs (some (c,some d)) => .dp t xs (if d=j then some (c,none) else some (c,some d))
 | y => y
def bfzO (j : Nat) (x : D) : List (Nat × AO)->List (Nat × AO)
 | [] => []
 | (k,v) :: r => if k=j then bfzO j x r else (k,v.bfz j x) :: bfzO j x r
def cutQ (P : Program) (N : Nat) (y : Code) (Q : Exit->St->Prop) (st : St) : Prop:=∃ st',Wk N st st'∧Awp P N y Q st'
theorem Ctr.tupN {P : Program} {f : FuncId} {xs ys : List D} {sh : Bool} (h : Ctr P f xs sh (.tup (ys.map .d)) []) : Ctr P f xs sh (.d (.tup ys)) []:=by
 refine ⟨h.1,fun S w vs hvl hvr hG => (h.2 S w vs hvl hvr hG).mono fun e w' ⟨v,he,hF,β,φ,hR,h1,h2,h3⟩ => ⟨v,he,hF,β,φ,?_,h1,h2,h3⟩⟩
 cases hR with
 | tup hl hr =>
   refine .d (.tup (by simpa using hl) fun i hi => ?_)
   have:=hr i (by simpa using hi)
   have e : (ys.map AV.d).getD i .undef=.d (ys.getD i .nilptr):=by simp [List.getD_eq_getElem?_getD,hi]
   rw [e] at this
   cases this with
   | d h => exact h
end Abs

namespace Abs
open Go Go.RowKit
def cellD (v : AV) (x : D) : Prop:=v=.d x∨(v=.nilS∧x=.slice [])
def cellsD : List AV->List D->Prop
 | [],[] => True
 | v :: r,x :: s => cellD v x∧cellsD r s
 | _,_ => False
theorem cellsD_at : ∀ {vs : List AV} {xs : List D},cellsD vs xs->vs.length=xs.length∧∀ i,i < xs.length->cellD (vs.getD i .undef) (xs.getD i .nilptr)
 | [],[],_ => ⟨rfl,fun i hi => by simp at hi⟩
 | [],_ :: _,h => h.elim
 | _ :: _,[],h => h.elim
 | v :: r, x :: s, h => by
   have ih:=cellsD_at h.2
   refine ⟨by simp [ih.1],fun i hi => ?_⟩
   cases i with
   | zero => exact h.1
   | succ i => exact ih.2 i (by simpa using hi)
theorem rd_of_box {β : Nat->Value} {S S' : Nat->Prop} {w : World} {e : TypeId} {x : D} {cells : List AV} {v : Value} {F : Nat->Prop} (h : OK β S w (.box e cells) v F) (hc : cellsD cells x.cells) (hS : ∀ g,S g->g < w.heap.size->S' g) (hg : ∀ g,F g->S' g) :
 ∃ b c,v=.slice (some ⟨b,0,none⟩) 1 c∧Rd S' w (.ptr x) (.pointer (some ⟨b,0,none⟩)):=by
 obtain ⟨hlen,hcd⟩:=cellsD_at hc
 cases h with
 | box hF xs hv hw hrel =>
   have hw':=hw
   rcases hw.2 with ⟨h1,_⟩ | ⟨g,cap,cur,h1,_,h3,h4,_⟩
   . exact absurd h1 hv
   . subst h1
     refine ⟨g,cap,rfl,.ptr (fun i => xs.getD i Go.undef) (fun i hi => ⟨hg g (by rw [hF]; rfl),?_⟩) fun i hi => ?_⟩
     . have h9 : i < xs.length:=by rw [hw'.1,Nat.one_mul,hlen]; exact hi
       have h10:=ownsRow_cell hw' rfl h9
       rwa [Nat.zero_add]
     . have h5:=hrel i (by omega)
       rcases hcd i hi with h6 | ⟨h6,h7⟩
       . rw [h6] at h5
         cases h5 with
         | d h5 => exact h5.move fun g hg hl => ⟨hS g hg hl,rfl⟩
       . rw [h6] at h5
         rw [h7]
         generalize xs.getD i Go.undef=q at *
         cases h5 with
         | nilS => exact .nil _
theorem Ctr.boxD1 {P : Program} {f : FuncId} {xs : List D} {e : TypeId} {x : D} {cells : List AV} (hc : cellsD cells x.cells) (h : Ctr P f xs true (.p 0 0) [(0,.box e cells)]) : Ctr P f xs true (.d (.ptr x)) []:=by
 refine ⟨h.1,fun S w vs hl hr hG => (h.2 S w vs hl hr hG).mono fun en w' ⟨v,he,hf,β,φ,hrel,hobj,hown,hdis⟩ => ⟨v,he,hf,β,φ,?_,by simp [lk],by simp [lk],by simp [lk]⟩⟩
 obtain ⟨b,c,hb,hrd⟩:=rd_of_box (S':=free (fun g => w.heap.size<=g∨(true=true∧S g)) φ []) (hobj 0 (.box e cells) (by simp [lk])) hc (fun g hg _ => ⟨hg.1,by simp [lk]⟩) fun g hg => ⟨.inl (hown 0 (.box e cells) g (by simp [lk]) hg),by simp [lk]⟩
 cases hrel with
 | p h => rw [hb] at h; cases h; exact .d (by simpa using hrd)
theorem ret_p1 {P : Program} {t j : Nat} {e : TypeId} {cells : List AV} {st : St} (js : List Nat) (h : lk t (frzs js st).s=some (.p j 0)) (hj : lk j (frzs js st).o=some (.box e cells)) (hc : AV.renL (fun _ => j) cells=cells) :
 retQ P [.tmp t] true (.p 0 0) [(0,.box e cells)] .ret st:=by
 refine .inr ⟨rfl,js,?_⟩
 simp only [retO,resV,h]
 exact ⟨trivial,.one j rfl (by rw [hj,AO.ren,hc]),.inl trivial⟩
theorem ret_f3 {P : Program} {a b c : Nat} {x y z : D} {st : St} (js : List Nat) (h1 : lk a (frzs js st).s=some (.d x)) (h2 : lk b (frzs js st).s=some (.d y)) (h3 : lk c (frzs js st).s=some (.d z)) : retQ P [.tmp a,.tmp b,.tmp c] true (.tup [.d x,.d y,.d z]) [] .ret st:=by
 refine .inr ⟨rfl,js,?_⟩
 simp only [retO,resV,h1,h2,h3]
 exact ⟨trivial,⟨fun q => q,rfl,by simp,by simp⟩,.inl trivial⟩
end Abs
