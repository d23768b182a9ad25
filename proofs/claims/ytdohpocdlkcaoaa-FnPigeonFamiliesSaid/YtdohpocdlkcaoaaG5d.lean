/- What functions of this program compute, over plain data. No condition. -/
import Derived.Test.YtdohpocdlkcaoaaG5b
set_option linter.all false
open Nat renaming reduceEqDiff -> Qa, reduceLT -> Qb, reduceAdd -> Qc, reduceMul -> Qd, reduceSub -> Qe, reduceLeDiff -> Qf, reduceSubDiff -> Qg, reduceBEq -> Qh
open Bool renaming not_eq_true' -> Ba, not_eq_false' -> Bb, and_eq_true -> Bc, or_eq_true -> Bd, or_eq_false_iff -> Be
open Int renaming ofNat_lt -> Ia, ofNat_le -> Ib, not_lt -> Ic, not_le -> Ie
open Decidable renaming not_not -> Da
namespace Abs.Y
open Go Go.Proofs Abs
set_option maxRecDepth 100000
def noPair (s : List Int) : Prop:=∀ j,j < s.length->0 < j->s.getD j 0 ≠ IntKind.i64.wrap (0 - s.getD (j - 1) 0)
instance (s) : Decidable (noPair s):=by unfold noPair; infer_instance
def clauseI (xs : List Int) : Option (List Int):=if noPair (compL (sortL xs)) then some (compL (sortL xs)) else none
theorem compL_length (xs : List Int) : (compL xs).length<=xs.length:=Lib.compact_length_le xs
theorem clause_ok (xs : List Int) (hl : xs.length<=4194304) : Ctr Try.prog 110 [.ints xs] false (.tup [.sl 0,.d (.bool (clauseI xs).isSome)]) [(0,.arr 3 1 ((optL (clauseI xs)).map (.int .i64)))]:=by
 refine Ctr.of (n:=30) (rs:=[.tmp 2,.tmp 3]) Try.func110 rfl rfl Try.ntmps110 rfl rfl (by kernel_rfl) Try.checked.mixed ?_
 simp (disch:=first | omega | decide +kernel) only [D.ints,go_sem,Qa,Qb,Qc,Qd,Qe,↓reduceIte,reduceCtorEq,Qf,Qg,Qh]
 (repeat' (first | ((first | (refine gsel_split (fun q' => ?_) (fun q' => ?_)<;>(have h':=q')<;>(try simp only [za1,za2,Ba,Bb,za3,ne_eq,za4,za5,za6,Ia,Ib,Ic,Ie,Da,Bc,Bd,Be,za7,za8] at h')) | (have q':=trivial; first | refine callX_new (clone_ok xs (by omega)) rfl (by decide) ?_ | refine callY_new (clone_ok xs (by omega)) rfl ?_ | refine hE _ _ ret_ne ?_ | refine hE _ _ exit_ne ?_))<;>(try simp (disch:=first | omega | decide +kernel) only [q',go_sem,Qa,Qb,Qc,Qd,Qe,↓reduceIte,reduceCtorEq,Qf,Qg,Qh])<;>clear q') | refine hN _ ?_ ?_ Wk.kk | with_reducible refine And.intro ?_ ?_ | with_reducible omega | exact ok_ints | exact cells_ints | exact no_mem | with_reducible exact plain_ints | (refine le_maxLen ?_; omega) | (refine za9 ⟨?_,?_⟩) | (simp only [go_sem,Qc,Qb,zb1,zb2,forall_eq]; done)))
 refine callX_mut [800000] [800000] [] (sort_ok xs (by omega)) ⟨.inl rfl,.inl rfl,trivial⟩ ⟨rfl,trivial⟩ rfl (by simp [dstB]) ?_
 simp (disch:=first | omega | decide +kernel) only [go_sem,Qa,Qb,Qc,Qd,Qe,↓reduceIte,reduceCtorEq,Qf,Qg,Qh]
 refine callX_mut [800000] [1200000] [800000,1200000] (compact_ok (sortL xs) (by rw [sortL_length]; omega)) ⟨.inl rfl,trivial⟩ ⟨rfl,trivial⟩ rfl (by simp [dstB]) ?_
 simp (disch:=first | omega | decide +kernel) only [go_sem,Qa,Qb,Qc,Qd,Qe,↓reduceIte,reduceCtorEq,Qf,Qg,Qh]
 have hlen : (compL (sortL xs)).length<=4194304:=Nat.le_trans (compL_length _) (by rw [sortL_length]; exact hl)
 generalize hs : compL (sortL xs)=s at *
 refine Ok.loopU [28,27,26,25,24,23,22,21,20,19,18,17,16,15,14,13,12,11,10,9,8,7,6,5,3,2,1,0] (fun (i : Nat) => [(5,.d (.int .i64 (i : Nat)))]) (fun _ => []) (fun n i => n=s.length - i∧1<=i∧∀ j,j < i->0 < j->s.getD j 0 ≠ IntKind.i64.wrap (0 - s.getD (j - 1) 0)) (s.length - 1) 1 ⟨rfl,by omega,by omega⟩ (Wk.kk) ?_
 rintro R n i hN hE ⟨rfl,hi,hI⟩
 simp (disch:=first | omega | decide +kernel) only [go_sem,Qa,Qb,Qc,Qd,Qe,↓reduceIte,reduceCtorEq,Qf,Qg,Qh]
 (repeat' (first | ((first | (refine gsel_split (fun q' => ?_) (fun q' => ?_)<;>(have h':=q')<;>(try simp only [za1,za2,Ba,Bb,za3,ne_eq,za4,za5,za6,Ia,Ib,Ic,Ie,Da,Bc,Bd,Be,za7,za8] at h')) | (have q':=trivial; first | refine hE _ _ ret_ne ?_ | refine hE _ _ exit_ne ?_))<;>(try simp (disch:=first | omega | decide +kernel) only [q',go_sem,Qa,Qb,Qc,Qd,Qe,↓reduceIte,reduceCtorEq,Qf,Qg,Qh])<;>clear q') | refine hN _ ?_ ?_ Wk.kk | with_reducible refine And.intro ?_ ?_ | with_reducible omega | exact ok_ints | exact cells_ints | exact no_mem | with_reducible exact plain_ints | (refine le_maxLen ?_; omega) | (refine za9 ⟨?_,?_⟩) | (simp only [go_sem,Qc,Qb,zb1,zb2,forall_eq]; done)))
 . rename_i h1
   rw [show clauseI xs=none by rw [clauseI,hs,if_neg fun h => h i h1 (by omega) h']]
   exact ret_sld 2 rfl rfl rfl no_mem rfl
 . rename_i h1
   refine hN (s.length - (i + 1)) (i + 1) _ (by omega) ⟨rfl,by omega,all_succ hI fun _ => h'⟩ (Wk.kk)
 . rw [show clauseI xs=some s by rw [clauseI,hs,if_pos (show noPair s from fun j hj h0 => hI j (by omega) h0)]]
   exact ret_sld 1200000 rfl rfl rfl plain_ints rfl
def resolveP (a b : List Int) (v : Int) : Option (List Int) :=
 if (a.any (· == v) && b.any (· == IntKind.i64.wrap (0 - v)))=true then clauseI ((a.filter fun l => !(mI l == v))++(b.filter fun l => !(mI l == v))) else none
end Abs.Y

namespace Abs.Y
open Go Go.Proofs Abs Go.Sort Go.Lib
set_option maxRecDepth 100000

def Good (l : List Int) : Prop:=l.Pairwise (fun x y => x.natAbs < y.natAbs)∧∀ x ∈ l,x ≠ 0∧x.natAbs<=12
theorem good_uniq : ∀ {l1 l2 : List Int},Good l1->Good l2->(∀ x,x ∈ l1↔x ∈ l2)->l1=l2
 | [],[],_,_,_ => rfl
 | [],y :: s,_,_,h => absurd ((h y).2 (by simp)) (by simp)
 | x :: r,[],_,_,h => absurd ((h x).1 (by simp)) (by simp)
 | x :: r, y :: s, g1, g2, h => by
   have p1:=List.pairwise_cons.1 g1.1
   have p2:=List.pairwise_cons.1 g2.1
   have hxy : x=y:=by
    rcases List.mem_cons.1 ((h x).1 (by simp)) with e | hx
    . exact e
    . rcases List.mem_cons.1 ((h y).2 (by simp)) with e | hy
      . exact e.symm
      . have:=p2.1 x hx; have:=p1.1 y hy; omega
   subst hxy
   rw [good_uniq (l1:=r) (l2:=s) ⟨p1.2,fun z hz => g1.2 z (by simp [hz])⟩ ⟨p2.2,fun z hz => g2.2 z (by simp [hz])⟩ fun z => ?_]
   constructor
   . intro hz
     rcases List.mem_cons.1 ((h z).1 (by simp [hz])) with rfl | h'
     . have:=p1.1 z hz; omega
     . exact h'
   . intro hz
     rcases List.mem_cons.1 ((h z).2 (by simp [hz])) with rfl | h'
     . have:=p2.1 z hz; omega
     . exact h'
theorem good_neg {l : List Int} (g : Good l) {x : Int} (h1 : x ∈ l) (h2 : -x ∈ l) : False:=by
 have h0:=g.2 x h1
 have key : ∀ {l : List Int},l.Pairwise (fun x y => x.natAbs < y.natAbs)->x ∈ l->-x ∈ l->False:=by
  intro l
  induction l with
  | nil => intro _ h; cases h
  | cons y r ih =>
    intro p h1 h2
    have p:=List.pairwise_cons.1 p
    rcases List.mem_cons.1 h1 with e1 | h1<;>rcases List.mem_cons.1 h2 with e2 | h2
    . omega
    . have:=p.1 _ h2; omega
    . have:=p.1 _ h1; omega
    . exact ih p.2 h1 h2
 exact key g.1 h1 h2
theorem mI_small {x : Int} (h : x.natAbs<=12) : mI x=x.natAbs:=by rw [← mI_absI,absI_eq (by omega)]
theorem neg_small {x : Int} (h : x.natAbs<=12) : IntKind.i64.wrap (0 - x)=-x:=by rw [wrap_of (by omega)]; omega

theorem comp_inv (d : Array Int) (hs : ∀ i j,i < j->j < d.size->ltOf cmpLit d[j]! d[i]! = false) : ∀ m,m<=d.size ->
 (∀ x,x ∈ compactUpTo d m↔∃ j,j < m∧d[j]! = x)∧(compactUpTo d m).Pairwise fun x y => ltOf cmpLit x y=true:=by
 intro m
 induction m with
 | zero => intro _; simp [compactUpTo]
 | succ m ih =>
   intro hm
   obtain ⟨h1,h2⟩:=ih (by omega)
   rw [compactUpTo_succ]
   cases hk : keeps d m with
   | false =>
     simp only [Bool.false_eq_true,if_false,List.append_nil]
     refine ⟨fun x => ?_,h2⟩
     rw [h1]
     simp only [keeps,decide_eq_false_iff_not,not_or,Da] at hk
     constructor
     . rintro ⟨j,hj,e⟩; exact ⟨j,by omega,e⟩
     . rintro ⟨j,hj,e⟩
       by_cases hjm : j=m
       . subst hjm; exact ⟨j - 1,by omega,by rw [← hk.2,e]⟩
       . exact ⟨j,by omega,e⟩
   | true =>
     simp only [if_true]
     simp only [keeps,decide_eq_true_eq] at hk
     refine ⟨fun x => ?_,List.pairwise_append.2 ⟨h2,by simp,fun x hx y hy => ?_⟩⟩
     . rw [List.mem_append,h1]
       constructor
       . rintro (⟨j,hj,e⟩ | h)
         . exact ⟨j,by omega,e⟩
         . exact ⟨m,by omega,(by simpa using h : x=d[m]!).symm⟩
       . rintro ⟨j,hj,e⟩
         by_cases hjm : j=m
         . subst hjm; exact .inr (by simp [e])
         . exact .inl ⟨j,by omega,e⟩
     . obtain rfl : y=d[m]! := by simpa using hy
       obtain ⟨j,hj,rfl⟩:=(h1 x).1 hx
       have h3:=hs j m hj (by omega)
       cases h4 : ltOf cmpLit d[j]! d[m]! with
       | true => rfl
       | false =>
         have e:=cmpLit_total _ _ h4 h3
         exfalso
         have hm0 : m ≠ 0:=by omega
         have hk:=hk.resolve_left hm0
         by_cases hj1 : j=m - 1
         . subst hj1; exact hk e.symm
         . have h5:=hs j (m - 1) (by omega) (by omega)
           have h6:=hs (m - 1) m (by omega) (by omega)
           rw [← e] at h6 hk
           exact hk (cmpLit_total _ _ h6 h5)
theorem sortL_sorted (xs : List Int) : ∀ i j,i < j->j < (sortL xs).toArray.size->ltOf cmpLit (sortL xs).toArray[j]! (sortL xs).toArray[i]! = false:=by
 have h : (sortL xs).Pairwise fun x y => (!(ltOf cmpLit y x))=true:=by
  refine List.pairwise_mergeSort (fun a b c h1 h2 => ?_) (fun a b => ?_) xs
  . simp only [Ba] at *
    exact cmpLit_swo.ntrans _ _ _ h2 h1
  . rw [cmpLit_lt,cmpLit_lt]; simp; omega
 rw [List.pairwise_iff_getElem] at h
 intro i j hij hj
 have hj' : j < (sortL xs).length:=by simpa using hj
 have:=h i j (by omega) hj' hij
 simpa [getElem!_pos,hj',show i < (sortL xs).length by omega] using this
theorem clauseI_spec {xs : List Int} (hx : ∀ x ∈ xs,x ≠ 0∧x.natAbs<=12) : (∀ c,clauseI xs=some c->Good c∧∀ x,x ∈ c↔x ∈ xs)∧(clauseI xs=none->∃ x ∈ xs,-x ∈ xs):=by
 obtain ⟨h1,h2⟩:=comp_inv (sortL xs).toArray (sortL_sorted xs) (sortL xs).length (by simp)
 have hmem : ∀ x,x ∈ compL (sortL xs)↔x ∈ xs:=fun x => by
  rw [compL,compact,h1]
  have : x ∈ sortL xs↔x ∈ xs:=List.mem_mergeSort
  rw [← this]
  constructor
  . rintro ⟨j,hj,e⟩
    have : (sortL xs).toArray[j]! = (sortL xs)[j]:=by simp [hj]
    rw [this] at e; rw [← e]; exact List.getElem_mem hj
  . intro h
    obtain ⟨j,hj,e⟩:=List.getElem_of_mem h
    exact ⟨j,hj,by simp [hj,e]⟩
 have hp : (compL (sortL xs)).Pairwise fun x y => ltOf cmpLit x y=true:=h2
 unfold clauseI
 generalize compL (sortL xs)=s at *
 have hs : ∀ x ∈ s,x ≠ 0∧x.natAbs<=12:=fun x h => hx x ((hmem x).1 h)
 have hgd : ∀ {j},j < s.length->s.getD j 0 ∈ s:=fun hj => getD_mem hj
 have hlt : ∀ i j,i < j->j < s.length->(s.getD i 0).natAbs < (s.getD j 0).natAbs∨((s.getD i 0).natAbs=(s.getD j 0).natAbs∧s.getD j 0 < s.getD i 0):=fun i j hij hj => by
  have:=List.pairwise_iff_getElem.1 hp i j (by omega) hj hij
  rw [cmpLit_lt,mI_small (hs _ (List.getElem_mem _)).2,mI_small (hs _ (List.getElem_mem _)).2] at this
  have e1 : s.getD i 0=s[i]:=by simp [List.getD_eq_getElem?_getD,show i < s.length by omega]
  have e2 : s.getD j 0=s[j]:=by simp [List.getD_eq_getElem?_getD,hj]
  rw [e1,e2]
  simp at this; omega
 by_cases hn : noPair s
 . rw [if_pos hn]
   refine ⟨fun c hc => ?_,fun h => by cases h⟩
   cases hc
   refine ⟨⟨List.pairwise_iff_getElem.2 fun i j hi hj hij => ?_,hs⟩,hmem⟩
   have e1 : s.getD i 0=s[i]:=by simp [List.getD_eq_getElem?_getD,hi]
   have e2 : s.getD j 0=s[j]:=by simp [List.getD_eq_getElem?_getD,hj]
   rw [← e1,← e2]
   rcases hlt i j hij hj with h | ⟨h,h'⟩
   . exact h
   . exfalso
     have h3:=hn (i + 1) (by omega) (by omega)
     rw [Nat.add_sub_cancel,neg_small (hs _ (hgd hi)).2] at h3
     have h4:=hlt i (i + 1) (by omega) (by omega)
     by_cases hj1 : j=i + 1
     . subst hj1; omega
     . have h5:=hlt (i + 1) j (by omega) hj
       omega
 . rw [if_neg hn]
   refine ⟨fun c hc => (by cases hc),fun _ => ?_⟩
   have : ∃ j,j < s.length∧0 < j∧s.getD j 0=IntKind.i64.wrap (0 - s.getD (j - 1) 0):=by
    refine Classical.byContradiction fun hno => hn fun j hj h0 e => hno ⟨j,hj,h0,e⟩
   obtain ⟨j,hj,h0,e⟩:=this
   have h1 : s.getD (j - 1) 0 ∈ s:=hgd (by omega)
   rw [neg_small (hs _ h1).2] at e
   exact ⟨_,(hmem _).1 h1,by rw [← e]; exact (hmem _).1 (hgd hj)⟩

theorem good_of_ok {v : Int} {c : List Int} (h : okClause v c=true) : Good c:=by
 simp only [okClause,Bc,decide_eq_true_eq] at h
 obtain ⟨hv,hc⟩:=h
 rw [okVars_iff] at hv
 have hlt : ∀ j,j < c.length->∀ i,i < j->(c.getD i 0).natAbs < (c.getD j 0).natAbs:=by
  intro j
  induction j with
  | zero => intro _ i hi; omega
  | succ j ih =>
    intro hj i hi
    have h1:=(hc (j + 1) hj).2 (by omega)
    rw [Nat.add_sub_cancel] at h1
    by_cases e : i=j
    . subst e; exact h1
    . have:=ih (by omega) i (by omega); omega
 refine ⟨List.pairwise_iff_getElem.2 fun i j hi hj hij => ?_,fun x hx => ?_⟩
 . have:=hlt j hj i hij
   simpa [List.getD_eq_getElem?_getD,hi,hj] using this
 . obtain ⟨j,hj,rfl⟩:=mem_getD 0 hx
   have:=(hc j hj).1
   omega
end Abs.Y
