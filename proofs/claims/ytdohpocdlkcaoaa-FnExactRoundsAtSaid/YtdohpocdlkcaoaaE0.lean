/- What functions of this program compute, over plain data. No condition. -/
import Derived.Test.YtdohpocdlkcaoaaG5b
import Derived.Test.YtdohpocdlkcaoaaL1
import Derived.Test.YtdohpocdlkcaoaaAbsRow
import Derived.Test.YtdohpocdlkcaoaaG3
import Derived.Test.YtdohpocdlkcaoaaG1
set_option linter.all false
open Nat renaming reduceEqDiff -> Qa, reduceLT -> Qb, reduceAdd -> Qc, reduceMul -> Qd, reduceSub -> Qe, reduceLeDiff -> Qf, reduceSubDiff -> Qg, reduceBEq -> Qh
open Bool renaming not_eq_true' -> Ba, not_eq_false' -> Bb, and_eq_true -> Bc, or_eq_true -> Bd, or_eq_false_iff -> Be
open Int renaming ofNat_lt -> Ia, ofNat_le -> Ib, not_lt -> Ic, not_le -> Ie
open Decidable renaming not_not -> Da
namespace Abs.Y
open Go Go.Proofs Abs
set_option maxRecDepth 100000
def noPair (s : List Int) : Prop:=∀ j,j < s.length->0 < j->s.getD j 0 ≠ IntKind.i64.wrap (0 - s.getD (j - 1) 0)
instance (s) : Decidable (noPair s):=by unfold noPair; infer_instance
def clauseI (xs : List Int) : Option (List Int):=if noPair (compL (sortL xs)) then some (compL (sortL xs)) else none
def resolveP (a b : List Int) (v : Int) : Option (List Int) :=
 if (a.any (· == v) && b.any (· == IntKind.i64.wrap (0 - v)))=true then clauseI ((a.filter fun l => !(mI l == v))++(b.filter fun l => !(mI l == v))) else none
end Abs.Y

namespace Abs.Y
open Go Go.Proofs Abs Go.Sort Go.Lib
set_option maxRecDepth 100000

def Good (l : List Int) : Prop:=l.Pairwise (fun x y => x.natAbs < y.natAbs)∧∀ x ∈ l,x ≠ 0∧x.natAbs<=12
theorem good_uniq : ∀ {l1 l2 : List Int},Good l1->Good l2->(∀ x,x ∈ l1↔x ∈ l2)->l1=l2
 | [],[],_,_,_ => rfl
 | [],y :: s,_,_,h => absurd ((h y).2 (by simp)) (by simp)
 | x :: r,[],_,_,h => absurd ((h x).1 (by simp)) (by simp)
 | x :: r, y :: s, g1, g2, h => by
   have p1:=List.pairwise_cons.1 g1.1
   have p2:=List.pairwise_cons.1 g2.1
   have hxy : x=y:=by
    rcases List.mem_cons.1 ((h x).1 (by simp)) with e | hx
    . exact e
    . rcases List.mem_cons.1 ((h y).2 (by simp)) with e | hy
      . exact e.symm
      . have:=p2.1 x hx; have:=p1.1 y hy; omega
   subst hxy
   rw [good_uniq (l1:=r) (l2:=s) ⟨p1.2,fun z hz => g1.2 z (by simp [hz])⟩ ⟨p2.2,fun z hz => g2.2 z (by simp [hz])⟩ fun z => ?_]
   constructor
   . intro hz
     rcases List.mem_cons.1 ((h z).1 (by simp [hz])) with rfl | h'
     . have:=p1.1 z hz; omega
     . exact h'
   . intro hz
     rcases List.mem_cons.1 ((h z).2 (by simp [hz])) with rfl | h'
     . have:=p2.1 z hz; omega
     . exact h'
theorem good_neg {l : List Int} (g : Good l) {x : Int} (h1 : x ∈ l) (h2 : -x ∈ l) : False:=by
 have h0:=g.2 x h1
 have key : ∀ {l : List Int},l.Pairwise (fun x y => x.natAbs < y.natAbs)->x ∈ l->-x ∈ l->False:=by
  intro l
  induction l with
  | nil => intro _ h; cases h
  | cons y r ih =>
    intro p h1 h2
    have p:=List.pairwise_cons.1 p
    rcases List.mem_cons.1 h1 with e1 | h1<;>rcases List.mem_cons.1 h2 with e2 | h2
    . omega
    . have:=p.1 _ h2; omega
    . have:=p.1 _ h1; omega
    . exact ih p.2 h1 h2
 exact key g.1 h1 h2
theorem varI_small {x : Int} (h : x.natAbs<=12) : varI x=x.natAbs:=varI_eq (by omega)
theorem neg_small {x : Int} (h : x.natAbs<=12) : IntKind.i64.wrap (0 - x)=-x:=by rw [wrap_of (by omega)]; omega

theorem mem_putI {c : List Int} {l x : Int} : x ∈ putI c l↔x=l∨x ∈ c:=by
 have h : c.takeWhile (fun x => decide (varI x < varI l))++c.dropWhile (fun x => decide (varI x < varI l))=c:=List.takeWhile_append_dropWhile
 rw [putI,List.mem_append,List.mem_cons]
 have h2 : x ∈ c↔x ∈ c.takeWhile (fun x => decide (varI x < varI l))∨x ∈ c.dropWhile (fun x => decide (varI x < varI l)):=by rw [← List.mem_append,h]
 rw [h2]
 constructor
 . rintro (h | h | h)
   . exact .inr (.inl h)
   . exact .inl h
   . exact .inr (.inr h)
 . rintro (h | h | h)
   . exact .inr (.inl h)
   . exact .inl h
   . exact .inr (.inr h)
theorem good_putI : ∀ {c : List Int} {l : Int},Good c->l ≠ 0->l.natAbs<=12->(∀ x ∈ c,x.natAbs ≠ l.natAbs)->Good (putI c l)
 | [],l,_,h0,h1,_ => ⟨by simp [putI],by simp [putI]; exact ⟨h0,h1⟩⟩
 | x :: r, l, g, h0, h1, hne => by
   have p:=List.pairwise_cons.1 g.1
   have hx:=g.2 x (by simp)
   have hgr : Good r:=⟨p.2,fun z hz => g.2 z (by simp [hz])⟩
   by_cases hlt : varI x < varI l
   . have e : putI (x :: r) l=x :: putI r l:=by simp [putI,hlt]
     have ih:=good_putI hgr h0 h1 fun z hz => hne z (by simp [hz])
     rw [e]
     refine ⟨List.pairwise_cons.2 ⟨fun z hz => ?_,ih.1⟩,fun z hz => ?_⟩
     . rcases mem_putI.1 hz with rfl | hz
       . rw [varI_small hx.2,varI_small h1] at hlt; omega
       . exact p.1 z hz
     . rcases List.mem_cons.1 hz with rfl | hz
       . exact hx
       . exact ih.2 z hz
   . have e : putI (x :: r) l=l :: x :: r:=by simp [putI,hlt]
     rw [e]
     rw [varI_small hx.2,varI_small h1] at hlt
     have hne':=hne x (by simp)
     refine ⟨List.pairwise_cons.2 ⟨fun z hz => ?_,g.1⟩,fun z hz => ?_⟩
     . rcases List.mem_cons.1 hz with rfl | hz
       . omega
       . have:=p.1 z hz; omega
     . rcases List.mem_cons.1 hz with rfl | hz
       . exact ⟨h0,h1⟩
       . exact g.2 z hz
theorem any_eq {l : List Int} {x : Int} : (l.any (· == x))=true↔x ∈ l:=by simp
theorem joinI_spec : ∀ {b a : List Int},Good a->(∀ x ∈ b,x ≠ 0∧x.natAbs<=12) ->
 (∀ c,joinI a b=some c->Good c∧∀ x,x ∈ c↔x ∈ a∨x ∈ b)∧(joinI a b=none->∃ x,(x ∈ a∨x ∈ b)∧(-x ∈ a∨-x ∈ b))
 | [],a,g,_ => ⟨fun c hc => by simp only [joinI,Option.some.injEq] at hc; subst hc; exact ⟨g,by simp⟩,fun h => by simp [joinI] at h⟩
 | y :: r, a, g, hb => by
   have hy:=hb y (by simp)
   rw [joinI,neg_small hy.2]
   by_cases h1 : (a.any (· == -y))=true
   . rw [if_pos h1]
     exact ⟨fun c hc => (by cases hc),fun _ => ⟨y,.inr (by simp),.inl (any_eq.1 h1)⟩⟩
   . rw [if_neg h1]
     have hny : -y ∉ a:=fun h => h1 (any_eq.2 h)
     have hmem : ∀ x,x ∈ (if (a.any (· == y))=true then a else putI a y)↔x=y∨x ∈ a:=fun x => by
      split
      . rename_i h2
        exact ⟨.inr,fun h => h.elim (fun e => e ▸ any_eq.1 h2) id⟩
      . exact mem_putI
     have hg : Good (if (a.any (· == y))=true then a else putI a y):=by
      split
      . exact g
      . rename_i h2
        refine good_putI g hy.1 hy.2 fun x hx e => ?_
        have : x=y∨x=-y:=by omega
        rcases this with rfl | rfl
        . exact h2 (any_eq.2 hx)
        . exact hny hx
     obtain ⟨i1,i2⟩:=joinI_spec (b:=r) hg fun x hx => hb x (by simp [hx])
     refine ⟨fun c hc => ⟨(i1 c hc).1,fun x => ?_⟩,fun hn => ?_⟩
     . rw [(i1 c hc).2,hmem,List.mem_cons]
       constructor
       . rintro ((h | h) | h)
         . exact .inr (.inl h)
         . exact .inl h
         . exact .inr (.inr h)
       . rintro (h | h | h)
         . exact .inl (.inr h)
         . exact .inl (.inl h)
         . exact .inr h
     . obtain ⟨x,h2,h3⟩:=i2 hn
       rw [hmem] at h2 h3
       refine ⟨x,?_,?_⟩
       . rcases h2 with (h | h) | h
         . exact .inr (by simp [h])
         . exact .inl h
         . exact .inr (by simp [h])
       . rcases h3 with (h | h) | h
         . exact .inr (by simp [h])
         . exact .inl h
         . exact .inr (by simp [h])

theorem good_of_ok {v : Int} {c : List Int} (h : okClause v c=true) : Good c:=by
 simp only [okClause,Bc,decide_eq_true_eq] at h
 obtain ⟨hv,hc⟩:=h
 rw [okVars_iff] at hv
 have hlt : ∀ j,j < c.length->∀ i,i < j->(c.getD i 0).natAbs < (c.getD j 0).natAbs:=by
  intro j
  induction j with
  | zero => intro _ i hi; omega
  | succ j ih =>
    intro hj i hi
    have h1:=(hc (j + 1) hj).2 (by omega)
    rw [Nat.add_sub_cancel] at h1
    by_cases e : i=j
    . subst e; exact h1
    . have:=ih (by omega) i (by omega); omega
 refine ⟨List.pairwise_iff_getElem.2 fun i j hi hj hij => ?_,fun x hx => ?_⟩
 . have:=hlt j hj i hij
   simpa [List.getD_eq_getElem?_getD,hi,hj] using this
 . obtain ⟨j,hj,rfl⟩:=mem_getD 0 hx
   have:=(hc j hj).1
   omega
theorem good_filter {c : List Int} (g : Good c) (p : Int->Bool) : Good (c.filter p):=⟨g.1.filter p,fun x hx => g.2 x (List.mem_filter.1 hx).1⟩
end Abs.Y

namespace Abs.Y
open Go Go.Proofs Abs
set_option maxRecDepth 100000

theorem Ctr.data2 {P : Program} {f : FuncId} {xs : List D} {e : TypeId} {k : Nat} {es : List D} {y : D} (h : Ctr P f xs false (.tup [.sl 0,.d y]) [(0,.arr e k es)]) : Ctr P f xs true (.d (.tup [.slice es,y])) []:=by
 refine ⟨h.1,fun S w vs hl hr => (h.2 S w vs hl hr).mono fun en w' ⟨v,he,hf,β,φ,hrel,hobj,hown,hdis⟩ => ⟨v,he,hf,β,φ,.d ?_,by simp [lk],by simp [lk],by simp [lk]⟩⟩
 cases hrel with
 | tup hl' hr' =>
   rename_i us
   match us,hl' with
   | [u0, u1], _ =>
     have h0:=hr' 0 (by simp)
     have h1:=hr' 1 (by simp)
     simp only [List.getD_cons_zero,List.getD_cons_succ] at h0 h1
     cases h0
     cases h1 with
     | d h1 =>
       refine Rd.tup rfl fun i hi => ?_
       match i,hi with
       | 0, _ =>
         simp only [List.getD_cons_zero]
         exact rd_of_arr (hobj 0 (.arr e k es) (by simp [lk])) (fun g hg _ => ⟨hg.1.imp id fun h => (by simp at h),by simp [lk]⟩) fun g hg => ⟨.inl (hown 0 (.arr e k es) g (by simp [lk]) hg),by simp [lk]⟩
       | 1, _ =>
         simp only [List.getD_cons_zero,List.getD_cons_succ]
         exact h1.weaken fun g hg => ⟨hg.1.imp id fun h => (by simp at h),by simp [lk]⟩

def correctI (v : Int) (cs : List (List Int)) (steps : List Step) (k : Nat) : Bool :=
 okClause v (steps.getD k Step.z).c &&
 (if (steps.getD k Step.z).l = -1 then decide ((steps.getD k Step.z).p = 0) && (decide (0 <= (steps.getD k Step.z).r) && decide ((steps.getD k Step.z).r <= cs.length - 1)) && decide (cs.getD (steps.getD k Step.z).r.toNat [] = (steps.getD k Step.z).c)
  else okEarlier v steps k (steps.getD k Step.z).l &&
   (if (steps.getD k Step.z).r = -1 then decide ((steps.getD k Step.z).p = 0) && subI (steps.getD (steps.getD k Step.z).l.toNat Step.z).c (steps.getD k Step.z).c
    else (okEarlier v steps k (steps.getD k Step.z).r && (decide (1<=(steps.getD k Step.z).p) && decide ((steps.getD k Step.z).p<=v))) &&
     ((resolveI (steps.getD (steps.getD k Step.z).l.toNat Step.z).c (steps.getD (steps.getD k Step.z).r.toNat Step.z).c (steps.getD k Step.z).p).isSome &&
       decide (optL (resolveI (steps.getD (steps.getD k Step.z).l.toNat Step.z).c (steps.getD (steps.getD k Step.z).r.toNat Step.z).c (steps.getD k Step.z).p)=(steps.getD k Step.z).c))))
end Abs.Y

namespace Abs.Y
open Go Go.Proofs Abs
set_option maxRecDepth 100000

end Abs.Y

namespace Abs.Y
open Go Go.Proofs Abs
set_option maxRecDepth 100000

def wrongI (v : Int) (cs : List (List Int)) (steps : List Step) : Int:=idxR (fun k => !correctI v cs steps k) steps.length
structure Sz (cs : List (List Int)) (steps : List Step) : Prop where
 hl : steps.length<=1048576
 hs : ∀ j,(steps.getD j Step.z).c.length<=1048576
 hcl : cs.length<=1048576
 hc : ∀ j,(cs.getD j []).length<=1048576
def askedI (v : Int) (cs : List (List Int)) (steps : List Step) : Bool:=decide (steps.length<=200) && okCnf v cs
def goodI (v : Int) (cs : List (List Int)) (steps : List Step) : Bool:=askedI v cs steps && decide (wrongI v cs steps < 0)
end Abs.Y

namespace Abs.Y
open Go Go.Proofs Abs
set_option maxRecDepth 100000

theorem map_ex {α : Type} (f : α->D) {es : List D} {R : D->Prop} {Q : α->Prop} (h : ∀ e ∈ es,R e) (hR : ∀ e,R e->∃ x,e=f x∧Q x) : ∃ xs : List α,es=xs.map f∧∀ x ∈ xs,Q x:=by
 induction es with
 | nil => exact ⟨[],rfl,by simp⟩
 | cons e r ih =>
   obtain ⟨x,hx,hq⟩:=hR e (h e (by simp))
   obtain ⟨xs,hxs,hqs⟩:=ih fun e he => h e (by simp [he])
   exact ⟨x :: xs,by simp [hx,hxs],fun y hy => by
    rcases List.mem_cons.1 hy with rfl | hy
    . exact hq
    . exact hqs y hy⟩
theorem maxLen_eq : maxLen=9223372036854775807:=rfl
theorem r_ints {x : D} (h : isSl isI64 x) : ∃ a : List Int,x=D.ints a∧a.length<=9223372036854775807:=by
 obtain ⟨es,rfl,hl,he⟩:=h
 obtain ⟨a,rfl,_⟩:=map_ex (D.int .i64) (Q:=fun _ => True) he fun e ⟨n,hn,_⟩ => ⟨n,hn,trivial⟩
 exact ⟨a,rfl,by rw [maxLen_eq] at hl; simpa using hl⟩
theorem r_intss {x : D} (h : isSl (isSl isI64) x) : ∃ a : List (List Int),x=.slice (a.map D.ints)∧a.length<=9223372036854775807∧∀ y ∈ a,y.length<=9223372036854775807:=by
 obtain ⟨es,rfl,hl,he⟩:=h
 obtain ⟨a,rfl,ha⟩:=map_ex D.ints he fun e h => r_ints h
 exact ⟨a,rfl,by rw [maxLen_eq] at hl; simpa using hl,ha⟩
end Abs.Y

namespace Abs.Y
open Go Go.Proofs Abs
set_option maxRecDepth 100000

theorem r_cnf {x : D} (h : isSt [isI64,isSl (isSl isI64)] x) : ∃ (v : Int) (a : List (List Int)),x=.agg [.int .i64 v,.slice (a.map D.ints)]∧a.length<=9223372036854775807∧∀ y ∈ a,y.length<=9223372036854775807:=by
 obtain ⟨es,rfl,hl,he⟩:=h
 match es,hl with
 | [e0, e1], _ =>
   obtain ⟨v,hv,_⟩:=he 0 (by simp)
   obtain ⟨a,ha,h1,h2⟩:=r_intss (he 1 (by simp))
   simp only [List.getD_cons_zero,List.getD_cons_succ] at hv ha
   subst hv; subst ha
   exact ⟨v,a,rfl,h1,h2⟩
def stepF (s : Step) (left : Int) : Int:=szI s.c left
end Abs.Y

namespace Abs.Y
open Go Go.Proofs Abs
set_option maxRecDepth 100000

def cmpI (x y : Int) : Int:=if x < y then -1 else if y < x then 1 else 0
def orI (x y : Int) : Int:=if x ≠ 0 then x else y
theorem isNaN_ok (x : Int) : Ctr Try.prog 227 [.int .i64 x] false (.d (.bool false)) []:=by
 refine Ctr.of (n:=6) (rs:=[.tmp 2]) Try.func227 rfl rfl Try.ntmps227 rfl rfl (by kernel_rfl) Try.checked.mixed ?_
 simp (disch:=first | omega | decide +kernel) only [go_sem,Qa,Qb,Qc,Qd,Qe,↓reduceIte,reduceCtorEq,Qf,Qg,Qh]
 (repeat' (first | ((first | (refine gsel_split (fun q' => ?_) (fun q' => ?_)<;>(have h':=q')<;>(try simp only [za1,za2,Ba,Bb,za3,ne_eq,za4,za5,za6,Ia,Ib,Ic,Ie,Da,Bc,Bd,Be,za7,za8] at h')) | (have q':=trivial; first | refine hE _ _ ret_ne ?_ | refine hE _ _ exit_ne ?_))<;>(try simp (disch:=first | omega | decide +kernel) only [q',go_sem,Qa,Qb,Qc,Qd,Qe,↓reduceIte,reduceCtorEq,Qf,Qg,Qh])<;>clear q') | refine hN _ ?_ ?_ Wk.kk | with_reducible refine And.intro ?_ ?_ | with_reducible omega | exact ok_ints | exact cells_ints | exact no_mem | with_reducible exact plain_ints | (refine le_maxLen ?_; omega) | (refine za9 ⟨?_,?_⟩) | (simp only [go_sem,Qc,Qb,zb1,zb2,forall_eq]; done)))
 all_goals (first | (simp; done))
theorem compare_ok (x y : Int) : Ctr Try.prog 186 [.int .i64 x,.int .i64 y] false (.d (.int .i64 (cmpI x y))) []:=by
 have c1:=fun x => isNaN_ok x
 unfold cmpI
 refine Ctr.of (n:=20) (rs:=[.tmp 4]) Try.func186 rfl rfl Try.ntmps186 rfl rfl (by kernel_rfl) Try.checked.mixed ?_
 simp (disch:=first | omega | decide +kernel) only [go_sem,Qa,Qb,Qc,Qd,Qe,↓reduceIte,reduceCtorEq,Qf,Qg,Qh]
 (repeat' (first | ((first | (refine gsel_split (fun q' => ?_) (fun q' => ?_)<;>(have h':=q')<;>(try simp only [za1,za2,Ba,Bb,za3,ne_eq,za4,za5,za6,Ia,Ib,Ic,Ie,Da,Bc,Bd,Be,za7,za8] at h')) | (have q':=trivial; first | refine callX_new (c1 _) rfl (by decide) ?_ | refine callY_new (c1 _) rfl ?_ | refine hE _ _ ret_ne ?_ | refine hE _ _ exit_ne ?_))<;>(try simp (disch:=first | omega | decide +kernel) only [q',go_sem,Qa,Qb,Qc,Qd,Qe,↓reduceIte,reduceCtorEq,Qf,Qg,Qh])<;>clear q') | refine hN _ ?_ ?_ Wk.kk | with_reducible refine And.intro ?_ ?_ | with_reducible omega | exact ok_ints | exact cells_ints | exact no_mem | with_reducible exact plain_ints | (refine le_maxLen ?_; omega) | (refine za9 ⟨?_,?_⟩) | (simp only [go_sem,Qc,Qb,zb1,zb2,forall_eq]; done)))
 all_goals (first | (simp_all [D.plain]; done) | (split<;>first | omega | (split<;>first | omega | rfl) | rfl))
theorem orL_ok (xs : List Int) (hl : xs.length<=4294967296) : Ctr Try.prog 185 [.ints xs] false (.d (.int .i64 ((xs.find? (fun x => decide (x ≠ 0))).getD 0))) []:=by
 refine Ctr.of (n:=18) (rs:=[.tmp 2]) Try.func185 rfl rfl Try.ntmps185 rfl rfl (by kernel_rfl) Try.checked.mixed ?_
 simp (disch:=first | omega | decide +kernel) only [D.ints,go_sem,Qa,Qb,Qc,Qd,Qe,↓reduceIte,reduceCtorEq,Qf,Qg,Qh]
 refine Ok.loopC [16,15,14,13,12,11,10,9,8,5,4,2,1,0] (fun i => [(8,.d (.int .i64 (i : Nat)))]) xs.length (fun i => (xs.drop i).find? (fun x => decide (x ≠ 0))=xs.find? (fun x => decide (x ≠ 0))) rfl (Wk.kk) ?_
 intro R i hN hE hi hI
 by_cases hlt : i < xs.length
 . rw [drop_cons 0 xs i hlt,List.find?_cons] at hI
   simp (disch:=first | omega | decide +kernel) only [D.ints,go_sem,Qa,Qb,Qc,Qd,Qe,↓reduceIte,reduceCtorEq,Qf,Qg,Qh]
   (repeat' (first | ((first | (refine gsel_split (fun q' => ?_) (fun q' => ?_)<;>(have h':=q')<;>(try simp only [za1,za2,Ba,Bb,za3,ne_eq,za4,za5,za6,Ia,Ib,Ic,Ie,Da,Bc,Bd,Be,za7,za8] at h')) | (have q':=trivial; first | refine hE _ _ ret_ne ?_ | refine hE _ _ exit_ne ?_))<;>(try simp (disch:=first | omega | decide +kernel) only [q',go_sem,Qa,Qb,Qc,Qd,Qe,↓reduceIte,reduceCtorEq,Qf,Qg,Qh])<;>clear q') | refine hN _ ?_ ?_ Wk.kk | with_reducible refine And.intro ?_ ?_ | with_reducible omega | exact ok_ints | exact cells_ints | exact no_mem | with_reducible exact plain_ints | (refine le_maxLen ?_; omega) | (refine za9 ⟨?_,?_⟩) | (simp only [go_sem,Qc,Qb,zb1,zb2,forall_eq]; done)))
   . rw [decide_eq_true h'] at hI
     rw [← hI]; rfl
   . rw [decide_eq_false (fun h => h h')] at hI
     exact hI
 . rw [List.drop_eq_nil_of_le (by omega)] at hI
   simp (disch:=first | omega | decide +kernel) only [D.ints,go_sem,Qa,Qb,Qc,Qd,Qe,↓reduceIte,reduceCtorEq,Qf,Qg,Qh]
   (repeat' (first | ((first | (refine gsel_split (fun q' => ?_) (fun q' => ?_)<;>(have h':=q')<;>(try simp only [za1,za2,Ba,Bb,za3,ne_eq,za4,za5,za6,Ia,Ib,Ic,Ie,Da,Bc,Bd,Be,za7,za8] at h')) | (have q':=trivial; first | refine hE _ _ ret_ne ?_ | refine hE _ _ exit_ne ?_))<;>(try simp (disch:=first | omega | decide +kernel) only [q',go_sem,Qa,Qb,Qc,Qd,Qe,↓reduceIte,reduceCtorEq,Qf,Qg,Qh])<;>clear q') | refine hN _ ?_ ?_ Wk.kk | with_reducible refine And.intro ?_ ?_ | with_reducible omega | exact ok_ints | exact cells_ints | exact no_mem | with_reducible exact plain_ints | (refine le_maxLen ?_; omega) | (refine za9 ⟨?_,?_⟩) | (simp only [go_sem,Qc,Qb,zb1,zb2,forall_eq]; done)))
   rw [← hI]; rfl
theorem or_ok (x y : Int) : Ctr Try.prog 185 [.slice [.int .i64 x,.int .i64 y]] false (.d (.int .i64 (orI x y))) []:=by
 have h:=orL_ok [x,y] (by simp)
 have e : ([x,y].find? (fun x => decide (x ≠ 0))).getD 0=orI x y:=by
  unfold orI
  by_cases h1 : x=0<;>by_cases h2 : y=0<;>simp [h1,h2]
 rw [e] at h
 exact h
end Abs.Y
