/- What functions of this program compute, over plain data. No condition. -/
import Derived.Test.YtdohpocdlkcaoaaAbsLaws
import Derived.Test.YtdohpocdlkcaoaaE3
import Derived.Test.YtdohpocdlkcaoaaL3
import Derived.Test.YtdohpocdlkcaoaaAbsRow
set_option linter.all false
namespace Abs.Y
open Go Go.Proofs Abs
open Nat renaming reduceEqDiff -> Qa, reduceLT -> Qb, reduceAdd -> Qc, reduceMul -> Qd, reduceSub -> Qe, reduceLeDiff -> Qf, reduceSubDiff -> Qg, reduceBEq -> Qh
open Bool renaming not_eq_true' -> Ba, not_eq_false' -> Bb, and_eq_true -> Bc, or_eq_true -> Bd, or_eq_false_iff -> Be
open Int renaming ofNat_lt -> Ia, ofNat_le -> Ib, not_lt -> Ic, not_le -> Ie
open Decidable renaming not_not -> Da
set_option maxRecDepth 100000

def tlit (x : Nat) (l : Int) : Bool:=x.testBit (l.natAbs - 1) == decide (0 < l)
def tcl (x : Nat) (c : List Int) : Bool:=c.any (tlit x)
def tmod (cs : List (List Int)) (x : Nat) : Bool:=!(cs.any fun c => !(tcl x c))
def tsat (u : Nat) (cs : List (List Int)) : Bool:=(List.range (2 ^ u)).any (tmod cs)
def timp (u : Nat) (cs : List (List Int)) (c : List Int) : Bool:=!(tsat u (cs++c.map fun l => [-l]))
theorem tlit_neg {x : Nat} {l : Int} (h : l ≠ 0) : tlit x (-l)=!(tlit x l):=by
 unfold tlit
 rw [Int.natAbs_neg]
 by_cases h0 : 0 < l
 . rw [decide_eq_false (show ¬ 0 < -l by omega),decide_eq_true h0]
   cases x.testBit (l.natAbs - 1)<;>rfl
 . rw [decide_eq_true (show 0 < -l by omega),decide_eq_false h0]
   cases x.testBit (l.natAbs - 1)<;>rfl
theorem tcl_iff {x : Nat} {c : List Int} : tcl x c=true↔∃ l ∈ c,tlit x l=true:=List.any_eq_true
theorem tmod_iff {x : Nat} {cs : List (List Int)} : tmod cs x=true↔∀ c ∈ cs,tcl x c=true:=by
 simp only [tmod,Ba,List.any_eq_false,Ba,Bool.not_eq_false]
theorem timp_of {u : Nat} {cs : List (List Int)} {c : List Int} (h0 : ∀ l ∈ c,l ≠ 0) (h : ∀ x,(∀ d ∈ cs,tcl x d=true)->tcl x c=true) : timp u cs c=true:=by
 rw [timp,Ba,tsat,List.any_eq_false]
 intro x _ hm
 rw [tmod_iff] at hm
 obtain ⟨l,hl,ht⟩:=tcl_iff.1 (h x fun d hd => hm d (List.mem_append.2 (.inl hd)))
 obtain ⟨l',hl',ht'⟩:=tcl_iff.1 (hm [-l] (List.mem_append.2 (.inr (List.mem_map.2 ⟨l,hl,rfl⟩))))
 rw [List.mem_singleton] at hl'
 subst hl'
 rw [tlit_neg (h0 l hl),ht] at ht'
 cases ht'
theorem getD_eq {c : List Int} {j : Nat} (hj : j < c.length) : c.getD j 0=c[j]:=by simp [List.getD_eq_getElem?_getD,hj]
theorem ok_of_good {u : Int} {c : List Int} (hu : okVars u=true) (g : Good c) (hb : ∀ l ∈ c,(l.natAbs : Int)<=u) : okClause u c=true:=by
 simp only [okClause,Bc,decide_eq_true_eq]
 refine ⟨hu,fun j hj => ?_⟩
 have hm : c.getD j 0 ∈ c:=getD_mem hj
 have h1:=(g.2 _ hm).1
 have h2:=hb _ hm
 refine ⟨⟨h1,by omega,by omega⟩,fun h0 => ?_⟩
 have:=List.pairwise_iff_getElem.1 g.1 (j - 1) j (by omega) hj (by omega)
 rwa [← getD_eq,← getD_eq] at this
theorem bd_of_ok {u : Int} {c : List Int} (h : okClause u c=true) : ∀ l ∈ c,(l.natAbs : Int)<=u:=by
 intro l hl
 simp only [okClause,Bc,decide_eq_true_eq] at h
 obtain ⟨j,hj,rfl⟩:=mem_getD 0 hl
 have:=(h.2 j hj).1
 omega
theorem vars_of_ok {u : Int} {c : List Int} (h : okClause u c=true) : okVars u=true:=by
 simp only [okClause,Bc] at h; exact h.1
theorem res_spec {u : Int} {a b c : List Int} {v : Int} (oa : okClause u a=true) (ob : okClause u b=true) (hv : 1<=v) (h : resolveI a b v=some c) :
 okClause u c=true∧v ∉ c∧-v ∉ c∧(∀ l,l ∈ c↔(l ∈ a∨l ∈ b)∧l.natAbs ≠ v.natAbs)∧v ∈ a∧-v ∈ b:=by
 have ga:=good_of_ok oa
 have gb:=good_of_ok ob
 unfold resolveI at h
 split at h
 . rename_i hc
   simp only [Bc,any_eq] at hc
   have hva:=hc.1
   have hv2:=(ga.2 v hva).2
   have hvb:=hc.2
   rw [neg_small hv2] at hvb
   obtain ⟨g,hm⟩:=(joinI_spec (good_filter ga _) fun x hx => gb.2 x (List.mem_filter.1 hx).1).1 c h
   have hm2 : ∀ l,l ∈ c↔(l ∈ a∨l ∈ b)∧l.natAbs ≠ v.natAbs:=fun l => by
    rw [hm,List.mem_filter,List.mem_filter]
    have key : ∀ l : Int,l.natAbs<=12->((varI l != v)=true↔l.natAbs ≠ v.natAbs):=fun l hl => by
     rw [varI_small hl,bne_iff_ne]; omega
    constructor
    . rintro (⟨h1,h2⟩ | ⟨h1,h2⟩)
      . exact ⟨.inl h1,(key l (ga.2 l h1).2).1 h2⟩
      . exact ⟨.inr h1,(key l (gb.2 l h1).2).1 h2⟩
    . rintro ⟨h1 | h1,h2⟩
      . exact .inl ⟨h1,(key l (ga.2 l h1).2).2 h2⟩
      . exact .inr ⟨h1,(key l (gb.2 l h1).2).2 h2⟩
   refine ⟨ok_of_good (vars_of_ok oa) g fun l hl => ?_,fun h => ((hm2 v).1 h).2 rfl,fun h => ((hm2 (-v)).1 h).2 (Int.natAbs_neg v),hm2,hva,hvb⟩
   rcases ((hm2 l).1 hl).1 with h1 | h1
   . exact bd_of_ok oa l h1
   . exact bd_of_ok ob l h1
 . cases h
theorem good_uniqAbs {a : List Int} (g : Good a) {l v : Int} (hl : l ∈ a) (hv : v ∈ a) (h : l.natAbs=v.natAbs) : l=v:=by
 rcases Int.natAbs_eq_natAbs_iff.1 h with e | e
 . exact e
 . subst e
   exact (good_neg g hv hl).elim
theorem res_follows {u : Int} {a b c : List Int} {v : Int} (oa : okClause u a=true) (ob : okClause u b=true) (hv : 1<=v) (h : resolveI a b v=some c) (n : Nat) : timp n [a,b] c=true:=by
 obtain ⟨oc,_,_,hm,hva,hvb⟩:=res_spec oa ob hv h
 refine timp_of (fun l hl => ((good_of_ok oc).2 l hl).1) fun x hx => ?_
 obtain ⟨l,hl,tl⟩:=tcl_iff.1 (hx a (by simp))
 obtain ⟨k,hk,tk⟩:=tcl_iff.1 (hx b (by simp))
 by_cases e1 : l.natAbs=v.natAbs
 . by_cases e2 : k.natAbs=v.natAbs
   . have e3:=good_uniqAbs (good_of_ok oa) hl hva e1
     have e4:=good_uniqAbs (good_of_ok ob) hk hvb (by rw [Int.natAbs_neg]; exact e2)
     subst e3; subst e4
     rw [tlit_neg (by omega),tl] at tk
     cases tk
   . exact tcl_iff.2 ⟨k,(hm k).2 ⟨.inr hk,e2⟩,tk⟩
 . exact tcl_iff.2 ⟨l,(hm l).2 ⟨.inl hl,e1⟩,tl⟩
theorem subI_iff {a b : List Int} : subI a b=true↔∀ l ∈ a,l ∈ b:=by
 simp [subI]
theorem part_follows {u : Int} {a b : List Int} (ob : okClause u b=true) (h : subI a b=true) (n : Nat) : timp n [a] b=true:=by
 refine timp_of (fun l hl => ((good_of_ok ob).2 l hl).1) fun x hx => ?_
 obtain ⟨l,hl,tl⟩:=tcl_iff.1 (hx a (by simp))
 exact tcl_iff.2 ⟨l,subI_iff.1 h l hl,tl⟩
theorem cmpI_neg (x y : Int) : cmpI y x=-(cmpI x y):=by
 unfold cmpI
 repeat' split
 all_goals omega
theorem orI_neg (x y : Int) : orI (-x) (-y)=-(orI x y):=by
 unfold orI
 repeat' split
 all_goals omega
theorem cmpLI_neg (x y : Int) : cmpLI y x=-(cmpLI x y):=by
 unfold cmpLI
 rw [cmpI_neg (absI x),cmpI_neg y x,orI_neg]
theorem lexI_neg : ∀ a b : List Int,lexI b a=-(lexI a b)
 | [],[] => rfl
 | [],_ :: _ => rfl
 | _ :: _,[] => rfl
 | x :: r, y :: s => by
   rw [lexI,lexI,lexI_neg r s,cmpLI_neg x y]
   by_cases h : cmpLI x y=0
   . rw [if_neg (by omega),if_neg (by omega)]
   . rw [if_pos (by omega),if_pos (by omega)]
theorem cmpCI_neg (a b : List Int) : cmpCI b a=-(cmpCI a b):=by
 unfold cmpCI
 rw [cmpI_neg,lexI_neg a b,orI_neg]
theorem cmpI_rng (x y : Int) : cmpI x y=-1∨cmpI x y=0∨cmpI x y=1:=by
 unfold cmpI
 repeat' split
 all_goals omega
theorem cmpLI_rng (x y : Int) : cmpLI x y=-1∨cmpLI x y=0∨cmpLI x y=1:=by
 unfold cmpLI orI
 have h1:=cmpI_rng (absI x) (absI y)
 have h2:=cmpI_rng y x
 split<;>omega
theorem lexI_rng : ∀ a b : List Int,lexI a b=-1∨lexI a b=0∨lexI a b=1
 | [],[] => .inr (.inl rfl)
 | [],_ :: _ => .inl rfl
 | _ :: _,[] => .inr (.inr rfl)
 | x :: r, y :: s => by
   rw [lexI]
   split
   . exact cmpLI_rng x y
   . exact lexI_rng r s
theorem cmpCI_rng (a b : List Int) : cmpCI a b=-1∨cmpCI a b=0∨cmpCI a b=1:=by
 unfold cmpCI orI
 have h1:=cmpI_rng a.length b.length
 have h2:=lexI_rng a b
 split<;>omega
theorem cmpCI_bef (a b : List Int) : cmpCI a b=if befI a b=true then -1 else if befI b a=true then 1 else 0:=by
 have h1:=cmpCI_rng a b
 have h2:=cmpCI_neg a b
 unfold befI
 rw [h2]
 simp only [decide_eq_true_eq]
 split
 . omega
 . split<;>omega
theorem cmpCI_zero {a b : List Int} (sa : Sm a) (sb : Sm b) : cmpCI a b=0↔a=b:=by
 constructor
 . intro h
   have h2:=cmpCI_neg a b
   rcases bef_total sa sb with h1 | h1 | h1
   . simp only [befI,decide_eq_true_eq] at h1; omega
   . simp only [befI,decide_eq_true_eq] at h1; omega
   . exact h1
 . rintro rfl
   have h2:=cmpCI_neg a a
   omega
theorem sm_ok {u : Int} {c : List Int} (h : okClause u c=true) : Sm c:=fun x hx => by
 have:=((good_of_ok h).2 x hx).2; omega
def ofI (l : List Int) : Option (List Int):=l.foldl (fun o x => o.bind fun a => joinI a [x]) (some [])
theorem ofI_snoc (l : List Int) (x : Int) : ofI (l++[x])=(ofI l).bind fun a => joinI a [x]:=by
 unfold ofI; rw [List.foldl_append]; rfl
theorem good_nil : Good []:=⟨.nil,fun _ h => by cases h⟩
theorem ofI_spec : ∀ (n : Nat) (l : List Int),l.length=n->(∀ x ∈ l,x ≠ 0∧x.natAbs<=12)->(∀ c,ofI l=some c->Good c∧∀ x,x ∈ c↔x ∈ l)∧(ofI l=none->∃ x ∈ l,-x ∈ l)
 | 0, l, hl, _ => by
   obtain rfl:=List.eq_nil_of_length_eq_zero hl
   refine ⟨fun c hc => ?_,fun h => by cases h⟩
   cases hc
   exact ⟨good_nil,fun x => Iff.rfl⟩
 | n + 1, l, hl, hb => by
   have hne : l ≠ []:=by rintro rfl; simp at hl
   obtain ⟨q,y,rfl⟩ : ∃ q y,l=q++[y]:=⟨l.dropLast,l.getLast hne,(List.dropLast_concat_getLast hne).symm⟩
   have hq : ∀ x ∈ q,x ≠ 0∧x.natAbs<=12:=fun x hx => hb x (by simp [hx])
   obtain ⟨s1,s2⟩:=ofI_spec n q (by simpa using hl) hq
   rw [ofI_snoc]
   cases ho : ofI q with
   | none =>
     refine ⟨fun c hc => by simp at hc,fun _ => ?_⟩
     obtain ⟨x,h1,h2⟩:=s2 ho
     exact ⟨x,by simp [h1],by simp [h2]⟩
   | some a =>
     obtain ⟨ga,ma⟩:=s1 a ho
     obtain ⟨j1,j2⟩:=joinI_spec (b:=[y]) ga fun x hx => by
      rw [List.mem_singleton] at hx; subst hx; exact hb x (by simp)
     refine ⟨fun c hc => ?_,fun h => ?_⟩
     . obtain ⟨gc,mc⟩:=j1 c hc
       exact ⟨gc,fun x => by rw [mc,ma,List.mem_append]⟩
     . obtain ⟨x,h1,h2⟩:=j2 h
       rw [ma] at h1 h2
       exact ⟨x,List.mem_append.2 h1,List.mem_append.2 h2⟩
theorem clauseI_ofI {l : List Int} (hb : ∀ x ∈ l,x ≠ 0∧x.natAbs<=12) : clauseI l=ofI l:=by
 obtain ⟨s1,s2⟩:=ofI_spec _ l rfl hb
 obtain ⟨c1,c2⟩:=clauseI_spec hb
 cases h1 : clauseI l with
 | none =>
   obtain ⟨x,hx,hx'⟩:=c2 h1
   cases h2 : ofI l with
   | none => rfl
   | some c =>
     obtain ⟨g,hm⟩:=s1 c h2
     exact (good_neg g ((hm x).2 hx) ((hm _).2 hx')).elim
 | some a =>
   obtain ⟨ga,ma⟩:=c1 a h1
   cases h2 : ofI l with
   | none =>
     obtain ⟨x,hx,hx'⟩:=s2 h2
     exact (good_neg ga ((ma x).2 hx) ((ma _).2 hx')).elim
   | some c =>
     obtain ⟨g,hm⟩:=s1 c h2
     rw [good_uniq ga g fun x => by rw [ma,hm]]
end Abs.Y

namespace Abs.Y
open Go Go.Proofs Abs
open Nat renaming reduceEqDiff -> Qa, reduceLT -> Qb, reduceAdd -> Qc, reduceMul -> Qd, reduceSub -> Qe, reduceLeDiff -> Qf, reduceSubDiff -> Qg, reduceBEq -> Qh
open Bool renaming not_eq_true' -> Ba, not_eq_false' -> Bb, and_eq_true -> Bc, or_eq_true -> Bd, or_eq_false_iff -> Be
open Int renaming ofNat_lt -> Ia, ofNat_le -> Ib, not_lt -> Ic, not_le -> Ie
open Decidable renaming not_not -> Da
set_option maxRecDepth 100000

def resOK (u : Int) (a b : List Int) (v : Int) : Bool:=okClause u a && (okClause u b && (decide (1<=v) && decide (v<=u)))
def resI (u : Int) (a b : List Int) (v : Int) : List Int:=if resOK u a b v then optL (resolveI a b v) else []
def resB (u : Int) (a b : List Int) (v : Int) : Bool:=resOK u a b v && (resolveI a b v).isSome
theorem resI_len (u : Int) {a b : List Int} (v : Int) (ha : a.length<=1048576) (hb : b.length<=1048576) : (resI u a b v).length<=4294967296:=by
 have:=resolveI_length a b v
 unfold resI; split
 . omega
 . simp
theorem resolveOn_ok (u : Int) (a b : List Int) (v : Int) (ha : a.length<=1048576) (hb : b.length<=1048576) :
 Ctr Try.prog 19 [.int .i64 u,.ints a,.ints b,.int .i64 v] false (.tup [.sl 0,.d (.bool (resB u a b v))]) [(0,.arr 3 1 ((resI u a b v).map (.int .i64)))]:=by
 have c1:=isClause_ok u a (by omega)
 have c2:=isClause_ok u b (by omega)
 have c3:=isVar_ok u v
 have c4:=fun h1 h2 => resolve_ok (u:=u) (u':=u) a b v ha hb h1 h2
 unfold resB resI resOK
 cases h1 : okClause u a with
 | false =>
   rw [h1] at c1
   refine Ctr.of (n:=32) (rs:=[.tmp 8,.tmp 9]) Try.func19 rfl rfl Try.ntmps19 rfl rfl (by kernel_rfl) Try.checked.mixed ?_
   simp (disch:=first | omega | decide +kernel) only [D.ints,go_sem,Qa,Qb,Qc,Qd,Qe,↓reduceIte,reduceCtorEq,Qf,Qg,Qh]
   (repeat' (first | ((first | (refine gsel_split (fun q' => ?_) (fun q' => ?_)<;>(have h':=q')<;>(try simp only [za1,za2,Ba,Bb,za3,ne_eq,za4,za5,za6,Ia,Ib,Ic,Ie,Da,Bc,Bd,Be,za7,za8] at h')) | (have q':=trivial; first | refine callX_new (c1) rfl (by decide) ?_ | refine callY_new (c1) rfl ?_ | refine callX_new (c2) rfl (by decide) ?_ | refine callY_new (c2) rfl ?_ | refine callX_new (c3) rfl (by decide) ?_ | refine callY_new (c3) rfl ?_ | refine hE _ _ ret_ne ?_ | refine hE _ _ exit_ne ?_))<;>(try simp (disch:=first | omega | decide +kernel) only [q',D.ints,go_sem,Qa,Qb,Qc,Qd,Qe,↓reduceIte,reduceCtorEq,Qf,Qg,Qh])<;>clear q') | refine hN _ ?_ ?_ Wk.kk | with_reducible refine And.intro ?_ ?_ | with_reducible omega | exact ok_ints | exact cells_ints | exact no_mem | with_reducible exact plain_ints | (refine le_maxLen ?_; omega) | (refine za9 ⟨?_,?_⟩) | (simp only [go_sem,Qc,Qb,zb1,zb2,forall_eq]; done)))
   (first | exact ret_sld _ rfl rfl rfl plain_ints rfl | exact ret_sld _ rfl rfl rfl no_mem rfl)
 | true =>
   cases h2 : okClause u b with
   | false =>
     rw [h1] at c1; rw [h2] at c2
     refine Ctr.of (n:=32) (rs:=[.tmp 8,.tmp 9]) Try.func19 rfl rfl Try.ntmps19 rfl rfl (by kernel_rfl) Try.checked.mixed ?_
     simp (disch:=first | omega | decide +kernel) only [D.ints,go_sem,Qa,Qb,Qc,Qd,Qe,↓reduceIte,reduceCtorEq,Qf,Qg,Qh]
     (repeat' (first | ((first | (refine gsel_split (fun q' => ?_) (fun q' => ?_)<;>(have h':=q')<;>(try simp only [za1,za2,Ba,Bb,za3,ne_eq,za4,za5,za6,Ia,Ib,Ic,Ie,Da,Bc,Bd,Be,za7,za8] at h')) | (have q':=trivial; first | refine callX_new (c1) rfl (by decide) ?_ | refine callY_new (c1) rfl ?_ | refine callX_new (c2) rfl (by decide) ?_ | refine callY_new (c2) rfl ?_ | refine callX_new (c3) rfl (by decide) ?_ | refine callY_new (c3) rfl ?_ | refine hE _ _ ret_ne ?_ | refine hE _ _ exit_ne ?_))<;>(try simp (disch:=first | omega | decide +kernel) only [q',D.ints,go_sem,Qa,Qb,Qc,Qd,Qe,↓reduceIte,reduceCtorEq,Qf,Qg,Qh])<;>clear q') | refine hN _ ?_ ?_ Wk.kk | with_reducible refine And.intro ?_ ?_ | with_reducible omega | exact ok_ints | exact cells_ints | exact no_mem | with_reducible exact plain_ints | (refine le_maxLen ?_; omega) | (refine za9 ⟨?_,?_⟩) | (simp only [go_sem,Qc,Qb,zb1,zb2,forall_eq]; done)))
     (first | exact ret_sld _ rfl rfl rfl plain_ints rfl | exact ret_sld _ rfl rfl rfl no_mem rfl)
   | true =>
     rw [h1] at c1; rw [h2] at c2
     have c5:=c4 h1 h2
     cases h3 : decide (1<=v) && decide (v<=u) with
     | false =>
       rw [h3] at c3
       refine Ctr.of (n:=32) (rs:=[.tmp 8,.tmp 9]) Try.func19 rfl rfl Try.ntmps19 rfl rfl (by kernel_rfl) Try.checked.mixed ?_
       simp (disch:=first | omega | decide +kernel) only [D.ints,go_sem,Qa,Qb,Qc,Qd,Qe,↓reduceIte,reduceCtorEq,Qf,Qg,Qh]
       (repeat' (first | ((first | (refine gsel_split (fun q' => ?_) (fun q' => ?_)<;>(have h':=q')<;>(try simp only [za1,za2,Ba,Bb,za3,ne_eq,za4,za5,za6,Ia,Ib,Ic,Ie,Da,Bc,Bd,Be,za7,za8] at h')) | (have q':=trivial; first | refine callX_new (c1) rfl (by decide) ?_ | refine callY_new (c1) rfl ?_ | refine callX_new (c2) rfl (by decide) ?_ | refine callY_new (c2) rfl ?_ | refine callX_new (c3) rfl (by decide) ?_ | refine callY_new (c3) rfl ?_ | refine hE _ _ ret_ne ?_ | refine hE _ _ exit_ne ?_))<;>(try simp (disch:=first | omega | decide +kernel) only [q',D.ints,go_sem,Qa,Qb,Qc,Qd,Qe,↓reduceIte,reduceCtorEq,Qf,Qg,Qh])<;>clear q') | refine hN _ ?_ ?_ Wk.kk | with_reducible refine And.intro ?_ ?_ | with_reducible omega | exact ok_ints | exact cells_ints | exact no_mem | with_reducible exact plain_ints | (refine le_maxLen ?_; omega) | (refine za9 ⟨?_,?_⟩) | (simp only [go_sem,Qc,Qb,zb1,zb2,forall_eq]; done)))
       (first | exact ret_sld _ rfl rfl rfl plain_ints rfl | exact ret_sld _ rfl rfl rfl no_mem rfl)
     | true =>
       rw [h3] at c3
       refine Ctr.of (n:=32) (rs:=[.tmp 8,.tmp 9]) Try.func19 rfl rfl Try.ntmps19 rfl rfl (by kernel_rfl) Try.checked.mixed ?_
       simp (disch:=first | omega | decide +kernel) only [D.ints,go_sem,Qa,Qb,Qc,Qd,Qe,↓reduceIte,reduceCtorEq,Qf,Qg,Qh]
       (repeat' (first | ((first | (refine gsel_split (fun q' => ?_) (fun q' => ?_)<;>(have h':=q')<;>(try simp only [za1,za2,Ba,Bb,za3,ne_eq,za4,za5,za6,Ia,Ib,Ic,Ie,Da,Bc,Bd,Be,za7,za8] at h')) | (have q':=trivial; first | refine callX_new (c1) rfl (by decide) ?_ | refine callY_new (c1) rfl ?_ | refine callX_new (c2) rfl (by decide) ?_ | refine callY_new (c2) rfl ?_ | refine callX_new (c3) rfl (by decide) ?_ | refine callY_new (c3) rfl ?_ | refine callX_new (c5) rfl (by decide) ?_ | refine callY_new (c5) rfl ?_ | refine hE _ _ ret_ne ?_ | refine hE _ _ exit_ne ?_))<;>(try simp (disch:=first | omega | decide +kernel) only [q',D.ints,go_sem,Qa,Qb,Qc,Qd,Qe,↓reduceIte,reduceCtorEq,Qf,Qg,Qh])<;>clear q') | refine hN _ ?_ ?_ Wk.kk | with_reducible refine And.intro ?_ ?_ | with_reducible omega | exact ok_ints | exact cells_ints | exact no_mem | with_reducible exact plain_ints | (refine le_maxLen ?_; omega) | (refine za9 ⟨?_,?_⟩) | (simp only [go_sem,Qc,Qb,zb1,zb2,forall_eq]; done)))
       (first | exact ret_sld _ rfl rfl rfl plain_ints rfl | exact ret_sld _ rfl rfl rfl no_mem rfl)
theorem specResolveOn_ok (u : Int) (a b : List Int) (v : Int) (ha : a.length<=1048576) (hb : b.length<=1048576) :
 Ctr Try.prog 20 [.int .i64 u,.ints a,.ints b,.int .i64 v] false (.tup [.sl 0,.d (.bool (resB u a b v))]) [(0,.arr 3 1 ((resI u a b v).map (.int .i64)))]:=by
 have c1:=l2Clause_ok u a (by omega)
 have c2:=l2Clause_ok u b (by omega)
 have c3:=l1In_ok v 1 u
 have c5:=l2Resolve_ok a b v ha hb
 unfold resB resI resOK
 cases h1 : okClause u a with
 | false =>
   rw [h1] at c1
   refine Ctr.of (n:=33) (rs:=[.tmp 8,.tmp 9]) Try.func20 rfl rfl Try.ntmps20 rfl rfl (by kernel_rfl) Try.checked.mixed ?_
   simp (disch:=first | omega | decide +kernel) only [D.ints,go_sem,Qa,Qb,Qc,Qd,Qe,↓reduceIte,reduceCtorEq,Qf,Qg,Qh]
   (repeat' (first | ((first | (refine gsel_split (fun q' => ?_) (fun q' => ?_)<;>(have h':=q')<;>(try simp only [za1,za2,Ba,Bb,za3,ne_eq,za4,za5,za6,Ia,Ib,Ic,Ie,Da,Bc,Bd,Be,za7,za8] at h')) | (have q':=trivial; first | refine callX_new (c1) rfl (by decide) ?_ | refine callY_new (c1) rfl ?_ | refine callX_new (c2) rfl (by decide) ?_ | refine callY_new (c2) rfl ?_ | refine callX_new (c3) rfl (by decide) ?_ | refine callY_new (c3) rfl ?_ | refine hE _ _ ret_ne ?_ | refine hE _ _ exit_ne ?_))<;>(try simp (disch:=first | omega | decide +kernel) only [q',D.ints,go_sem,Qa,Qb,Qc,Qd,Qe,↓reduceIte,reduceCtorEq,Qf,Qg,Qh])<;>clear q') | refine hN _ ?_ ?_ Wk.kk | with_reducible refine And.intro ?_ ?_ | with_reducible omega | exact ok_ints | exact cells_ints | exact no_mem | with_reducible exact plain_ints | (refine le_maxLen ?_; omega) | (refine za9 ⟨?_,?_⟩) | (simp only [go_sem,Qc,Qb,zb1,zb2,forall_eq]; done)))
   (first | exact ret_sld _ rfl rfl rfl plain_ints rfl | exact ret_sld _ rfl rfl rfl no_mem rfl)
 | true =>
   cases h2 : okClause u b with
   | false =>
     rw [h1] at c1; rw [h2] at c2
     refine Ctr.of (n:=33) (rs:=[.tmp 8,.tmp 9]) Try.func20 rfl rfl Try.ntmps20 rfl rfl (by kernel_rfl) Try.checked.mixed ?_
     simp (disch:=first | omega | decide +kernel) only [D.ints,go_sem,Qa,Qb,Qc,Qd,Qe,↓reduceIte,reduceCtorEq,Qf,Qg,Qh]
     (repeat' (first | ((first | (refine gsel_split (fun q' => ?_) (fun q' => ?_)<;>(have h':=q')<;>(try simp only [za1,za2,Ba,Bb,za3,ne_eq,za4,za5,za6,Ia,Ib,Ic,Ie,Da,Bc,Bd,Be,za7,za8] at h')) | (have q':=trivial; first | refine callX_new (c1) rfl (by decide) ?_ | refine callY_new (c1) rfl ?_ | refine callX_new (c2) rfl (by decide) ?_ | refine callY_new (c2) rfl ?_ | refine callX_new (c3) rfl (by decide) ?_ | refine callY_new (c3) rfl ?_ | refine hE _ _ ret_ne ?_ | refine hE _ _ exit_ne ?_))<;>(try simp (disch:=first | omega | decide +kernel) only [q',D.ints,go_sem,Qa,Qb,Qc,Qd,Qe,↓reduceIte,reduceCtorEq,Qf,Qg,Qh])<;>clear q') | refine hN _ ?_ ?_ Wk.kk | with_reducible refine And.intro ?_ ?_ | with_reducible omega | exact ok_ints | exact cells_ints | exact no_mem | with_reducible exact plain_ints | (refine le_maxLen ?_; omega) | (refine za9 ⟨?_,?_⟩) | (simp only [go_sem,Qc,Qb,zb1,zb2,forall_eq]; done)))
     (first | exact ret_sld _ rfl rfl rfl plain_ints rfl | exact ret_sld _ rfl rfl rfl no_mem rfl)
   | true =>
     rw [h1] at c1; rw [h2] at c2
     cases h3 : decide (1<=v) && decide (v<=u) with
     | false =>
       rw [h3] at c3
       refine Ctr.of (n:=33) (rs:=[.tmp 8,.tmp 9]) Try.func20 rfl rfl Try.ntmps20 rfl rfl (by kernel_rfl) Try.checked.mixed ?_
       simp (disch:=first | omega | decide +kernel) only [D.ints,go_sem,Qa,Qb,Qc,Qd,Qe,↓reduceIte,reduceCtorEq,Qf,Qg,Qh]
       (repeat' (first | ((first | (refine gsel_split (fun q' => ?_) (fun q' => ?_)<;>(have h':=q')<;>(try simp only [za1,za2,Ba,Bb,za3,ne_eq,za4,za5,za6,Ia,Ib,Ic,Ie,Da,Bc,Bd,Be,za7,za8] at h')) | (have q':=trivial; first | refine callX_new (c1) rfl (by decide) ?_ | refine callY_new (c1) rfl ?_ | refine callX_new (c2) rfl (by decide) ?_ | refine callY_new (c2) rfl ?_ | refine callX_new (c3) rfl (by decide) ?_ | refine callY_new (c3) rfl ?_ | refine hE _ _ ret_ne ?_ | refine hE _ _ exit_ne ?_))<;>(try simp (disch:=first | omega | decide +kernel) only [q',D.ints,go_sem,Qa,Qb,Qc,Qd,Qe,↓reduceIte,reduceCtorEq,Qf,Qg,Qh])<;>clear q') | refine hN _ ?_ ?_ Wk.kk | with_reducible refine And.intro ?_ ?_ | with_reducible omega | exact ok_ints | exact cells_ints | exact no_mem | with_reducible exact plain_ints | (refine le_maxLen ?_; omega) | (refine za9 ⟨?_,?_⟩) | (simp only [go_sem,Qc,Qb,zb1,zb2,forall_eq]; done)))
       (first | exact ret_sld _ rfl rfl rfl plain_ints rfl | exact ret_sld _ rfl rfl rfl no_mem rfl)
     | true =>
       rw [h3] at c3
       refine Ctr.of (n:=33) (rs:=[.tmp 8,.tmp 9]) Try.func20 rfl rfl Try.ntmps20 rfl rfl (by kernel_rfl) Try.checked.mixed ?_
       simp (disch:=first | omega | decide +kernel) only [D.ints,go_sem,Qa,Qb,Qc,Qd,Qe,↓reduceIte,reduceCtorEq,Qf,Qg,Qh]
       (repeat' (first | ((first | (refine gsel_split (fun q' => ?_) (fun q' => ?_)<;>(have h':=q')<;>(try simp only [za1,za2,Ba,Bb,za3,ne_eq,za4,za5,za6,Ia,Ib,Ic,Ie,Da,Bc,Bd,Be,za7,za8] at h')) | (have q':=trivial; first | refine callX_new (c1) rfl (by decide) ?_ | refine callY_new (c1) rfl ?_ | refine callX_new (c2) rfl (by decide) ?_ | refine callY_new (c2) rfl ?_ | refine callX_new (c3) rfl (by decide) ?_ | refine callY_new (c3) rfl ?_ | refine callX_new (c5) rfl (by decide) ?_ | refine callY_new (c5) rfl ?_ | refine hE _ _ ret_ne ?_ | refine hE _ _ exit_ne ?_))<;>(try simp (disch:=first | omega | decide +kernel) only [q',D.ints,go_sem,Qa,Qb,Qc,Qd,Qe,↓reduceIte,reduceCtorEq,Qf,Qg,Qh])<;>clear q') | refine hN _ ?_ ?_ Wk.kk | with_reducible refine And.intro ?_ ?_ | with_reducible omega | exact ok_ints | exact cells_ints | exact no_mem | with_reducible exact plain_ints | (refine le_maxLen ?_; omega) | (refine za9 ⟨?_,?_⟩) | (simp only [go_sem,Qc,Qb,zb1,zb2,forall_eq]; done)))
       (first | exact ret_sld _ rfl rfl rfl plain_ints rfl | exact ret_sld _ rfl rfl rfl no_mem rfl)
end Abs.Y

namespace Abs
open Go Go.RowKit

theorem ofInt_nat (a : Nat) : BitVec.ofInt 64 (a : Int)=BitVec.ofNat 64 a:=by
 apply BitVec.eq_of_toNat_eq; simp [BitVec.toNat_ofInt]
theorem bitV_and {a b : Nat} (ha : a < 2 ^ 63) (hb : b < 2 ^ 63) : bitV .and .i64 a b=((a &&& b : Nat) : Int):=by
 have h : a &&& b < 2 ^ 63:=Nat.and_lt_two_pow _ hb
 show IntKind.wrap .i64 (((BitVec.ofInt 64 (a : Int)) &&& (BitVec.ofInt 64 (b : Int))).toNat : Nat)=_
 rw [ofInt_nat,ofInt_nat,BitVec.toNat_and,BitVec.toNat_ofNat,BitVec.toNat_ofNat,Nat.mod_eq_of_lt (by omega),Nat.mod_eq_of_lt (by omega),wrap_of (by omega)]
theorem shl_one {e : Nat} (he : e<=62) : IntKind.wrap .i64 (1 * 2 ^ min e (IntKind.bits .i64))=((2 ^ e : Nat) : Int):=by
 have h : 2 ^ e<=2 ^ 62:=Nat.pow_le_pow_right (by decide) he
 rw [show min e (IntKind.bits .i64)=e by simp [IntKind.bits]; omega,Int.one_mul]
 have e1 : ((2 : Int) ^ e)=((2 ^ e : Nat) : Int):=by simp
 rw [e1]
 generalize 2 ^ e=x at *
 rw [wrap_of (by omega)]
theorem shr_nat {b e : Nat} (he : e<=62) : (b : Int).fdiv (2 ^ min e (IntKind.bits .i64))=((b >>> e : Nat) : Int):=by
 rw [show min e (IntKind.bits .i64)=e by simp [IntKind.bits]; omega]
 have e1 : ((2 : Int) ^ e)=((2 ^ e : Nat) : Int):=by simp
 rw [e1,Nat.shiftRight_eq_div_pow]
 rw [Int.fdiv_eq_ediv_of_nonneg _ (Int.natCast_nonneg _)]; simp
def bitI (b k : Nat) : Int:=if b.testBit k then 1 else 0
theorem bit_of {b k : Nat} (hk : k<=62) (hb : b < 2 ^ 63) : bitV .and .i64 ((b : Int).fdiv (2 ^ min k (IntKind.bits .i64))) 1=bitI b k:=by
 rw [shr_nat hk]
 have h : b >>> k < 2 ^ 63:=Nat.lt_of_le_of_lt (Nat.shiftRight_le b k) hb
 have:=bitV_and h (b:=1) (by decide)
 rw [show ((1 : Nat) : Int)=1 from rfl] at this
 rw [this,Nat.and_one_is_mod]
 unfold bitI
 rw [Nat.testBit,Nat.one_and_eq_mod_two,bne]
 rcases Nat.mod_two_eq_zero_or_one (b >>> k) with h | h<;>simp [h]
end Abs

namespace Abs
open Go Go.RowKit

mutual
def AV.bfz (j : Nat) (x : D) : AV->AV
 | .sl i => if i=j then .undef else .sl i
 | .p i o => if i=j then (if o=0 then .d (.ptr x) else .undef) else .p i o
 | .pe i k n o => if i=j then .undef else .pe i k n o
 | .mq i => if i=j then .undef else .mq i
 | .sf i k l => if i=j then .undef else .sf i k l
 | .vw i q n k => if q=j then .undef else .vw i q n k
 | .pv i q k n o => if q=j then .undef else .pv i q k n o
 | .tup xs => .tup (AV.bfzL j x xs)
 | .st xs => .st (AV.bfzL j x xs)
 | .fn f cs => .fn f (AV.bfzL j x cs)
 | y => y
def AV.bfzL (j : Nat) (x : D) : List AV->List AV
 | [] => []
 | y :: r => y.bfz j x :: AV.bfzL j x r
end
def bfzS (j : Nat) (x : D) : List (Nat × AV)->List (Nat × AV)
 | [] => []
 | (k,v) :: r => (k,v.bfz j x) :: bfzS j x r
def AO.bfz (j : Nat) (x : D) : AO->AO
 | .box e cells => .box e (AV.bfzL j x cells)
 | .dp t xs (some (c,some d)) => .dp t xs (if d=j then some (c,none) else some (c,some d))
 | y => y
def bfzO (j : Nat) (x : D) : List (Nat × AO)->List (Nat × AO)
 | [] => []
 | (k,v) :: r => if k=j then bfzO j x r else (k,v.bfz j x) :: bfzO j x r
def cutQ (P : Program) (N : Nat) (y : Code) (Q : Exit->St->Prop) (st : St) : Prop:=∃ st',Wk N st st'∧Awp P N y Q st'
theorem retM_u {P : Program} {u : Nat->Value} {sh : Bool} {ob : AO} {st : St} (ho : lk 0 st.o=some ob) (hk : lk 1000000000 st.s=some (.hdr 0 (u 0))) (hr : ob.ren (fun j => j)=ob) (hs : sh=true∨ob.plain) : retM P [] u [0] sh (.tup []) [(0,ob)] .ret st:=by
 simp only [retM,resV]
 refine ⟨trivial,⟨fun j => j,rfl,by simpa [hr] using ho,by simp,⟨rfl,hk,trivial⟩⟩,?_⟩
 rcases hs with rfl | hs
 . exact .inl rfl
 . exact .inr ⟨trivial,hs,trivial⟩
theorem retM_n {P : Program} {u : Nat->Value} {sh : Bool} {ob : AO} {st : St} (ho : lk 0 st.o=some ob) (hk : lk 1000000000 st.s=some (.hdr 0 (u 0))) (hr : ob.ren (fun j => j)=ob) (hs : sh=true∨ob.plain) : retM P [] u [0] sh (.tup []) [(0,ob)] .normal st :=
 retM_u (P:=P) ho hk hr hs
end Abs
