/- What functions of this program compute, over plain data. No condition. -/
import Derived.Test.YtdohpocdlkcaoaaFF13
set_option linter.all false
namespace Abs.Y
open Go Go.Proofs Abs
open Nat renaming reduceEqDiff -> Qa, reduceLT -> Qb, reduceAdd -> Qc, reduceMul -> Qd, reduceSub -> Qe, reduceLeDiff -> Qf, reduceSubDiff -> Qg, reduceBEq -> Qh
open Bool renaming not_eq_true' -> Ba, not_eq_false' -> Bb, and_eq_true -> Bc, or_eq_true -> Bd, or_eq_false_iff -> Be
open Int renaming ofNat_lt -> Ia, ofNat_le -> Ib, not_lt -> Ic, not_le -> Ie
open Decidable renaming not_not -> Da
set_option maxRecDepth 100000

def okPP (n : Int) : Bool:=decide (1<=n) && decide (n<=3)
def pcV (n : Int) : Int:=if okPP n then n * (n + 1) else 0
def fuC (n : Int) : List (List Int):=if okPP n then funS n.toNat else []
def onC (n : Int) : List (List Int):=if okPP n then ontoS n.toNat else []
theorem okPP_nat {n : Int} (h : okPP n=true) : ∃ a : Nat,n=a∧1<=a∧a<=3:=by
 simp only [okPP,Bc,decide_eq_true_eq] at h
 exact ⟨n.toNat,by omega,by omega,by omega⟩
theorem all4 {L : List (List Int)} (h : (L.all fun c => decide (c.length<=4))=true) : ∀ x ∈ L,x.length<=4:=fun x hx => by
 have:=List.all_eq_true.1 h x hx
 simpa using this
theorem onC_bd (n : Int) : (onC n).length<=60∧∀ x ∈ onC n,x.length<=4:=by
 unfold onC
 cases h : okPP n with
 | false => rw [if_neg (by decide)]; exact ⟨by simp,fun x hx => nomatch hx⟩
 | true =>
   rw [if_pos rfl]
   obtain ⟨a,rfl,ha⟩:=okPP_nat h
   rw [Int.toNat_natCast]
   obtain ⟨_,h2,_,h4,_⟩:=ff_cnf a (by omega) ha.1
   exact ⟨(okCnf_all h2).2.1,all4 h4⟩
theorem fuC_bd (n : Int) : (fuC n).length<=60∧∀ x ∈ fuC n,x.length<=4:=by
 unfold fuC
 cases h : okPP n with
 | false => rw [if_neg (by decide)]; exact ⟨by simp,fun x hx => nomatch hx⟩
 | true =>
   rw [if_pos rfl]
   obtain ⟨a,rfl,ha⟩:=okPP_nat h
   rw [Int.toNat_natCast]
   obtain ⟨h2,_,_,_,h4,_⟩:=ff_cnf a (by omega) ha.1
   exact ⟨(okCnf_all h2).2.1,all4 h4⟩
theorem sOntoG_ok (n : Int) : Ctr Try.prog 37 [.int .i64 n] true (.tup [.d (.agg [.int .i64 (pcV n),.slice ((onC n).map D.ints)]),.d (.bool (okPP n))]) []:=by
 unfold pcV onC
 cases h : okPP n with
 | false =>
   rw [if_neg (by decide),if_neg (by decide)]
   exact sOnto_no n h
 | true =>
   rw [if_pos rfl,if_pos rfl]
   obtain ⟨a,rfl,ha⟩:=okPP_nat h
   exact sOnto_ok a ha
theorem sFunG_ok (n : Int) : Ctr Try.prog 40 [.int .i64 n] true (.tup [.d (.agg [.int .i64 (pcV n),.slice ((fuC n).map D.ints)]),.d (.bool (okPP n))]) []:=by
 unfold pcV fuC
 cases h : okPP n with
 | false =>
   rw [if_neg (by decide),if_neg (by decide)]
   exact sFunctional_no n h
 | true =>
   rw [if_pos rfl,if_pos rfl]
   obtain ⟨a,rfl,ha⟩:=okPP_nat h
   exact sFunctional_ok a ha
def okB (m : Int) (h : List Int) : Bool:=okPP m && decide ((h.length : Int)=m + 1) && !(h.any (badJ m))
def bV (m : Int) (h : List Int) : Int:=if okB m h then ((bmB m.toNat h (m.toNat + 1) : Nat) : Int) else 0
theorem okB_yes {m : Int} {h : List Int} (hb : okB m h=true) : ∃ a : Nat,m=a∧(1<=a∧a<=3)∧h.length=a + 1∧h.any (badJ a)=false:=by
 simp only [okB,Bc,decide_eq_true_eq,Ba] at hb
 obtain ⟨⟨h1,h2⟩,h3⟩:=hb
 obtain ⟨a,rfl,ha⟩:=okPP_nat h1
 exact ⟨a,rfl,ha,by omega,h3⟩
theorem okB_no {m : Int} {h : List Int} (hb : okB m h=false) : (decide (1<=m) && decide (m<=3))=false∨(h.length : Int) ≠ m + 1∨h.any (badJ m)=true:=by
 by_cases h1 : okPP m=true
 . by_cases h2 : (h.length : Int)=m + 1
   . refine .inr (.inr ?_)
     unfold okB at hb
     rw [h1,decide_eq_true h2] at hb
     simpa using hb
   . exact .inr (.inl h2)
 . exact .inl (by unfold okPP at h1; simpa using h1)
theorem iBitsG_ok (m : Int) (h : List Int) (hl : h.length<=1000) : Ctr Try.prog 43 [.int .i64 m,.ints h] false (.tup [.d (.int .i64 (bV m h)),.d (.bool (okB m h))]) []:=by
 unfold bV
 cases hb : okB m h with
 | false => rw [if_neg (by decide)]; exact iBits_no m h hl (okB_no hb)
 | true =>
   rw [if_pos rfl]
   obtain ⟨a,rfl,ha,h1,h2⟩:=okB_yes hb
   exact iBits_yes a h ha h1 h2
theorem sBitsG_ok (m : Int) (h : List Int) (hl : h.length<=1000) : Ctr Try.prog 44 [.int .i64 m,.ints h] false (.tup [.d (.int .i64 (bV m h)),.d (.bool (okB m h))]) []:=by
 unfold bV
 cases hb : okB m h with
 | false => rw [if_neg (by decide)]; exact sBits_no m h hl (okB_no hb)
 | true =>
   rw [if_pos rfl]
   obtain ⟨a,rfl,ha,h1,h2⟩:=okB_yes hb
   exact sBits_yes a h ha h1 h2
theorem prJ_bd (h : List Int) (i : Nat) (p : Int) : ∀ j : Nat,p<=prJ h i p j∧prJ h i p j<=p + j
 | 0 => by simp [prJ]
 | j + 1 => by
   have:=prJ_bd h i p j
   rw [prJ]; split<;>omega
theorem prI_bd (h : List Int) : ∀ i : Nat,i<=4->0<=prI h i∧prI h i<=4 * i
 | 0,_ => by simp [prI]
 | i + 1, hi => by
   have h1:=prI_bd h i (by omega)
   have h2:=prJ_bd h i (prI h i) i
   rw [prI]; omega
theorem noI_bd (h : List Int) : ∀ i : Nat,0<=noI h i∧noI h i<=i
 | 0 => by simp [noI]
 | i + 1 => by
   have h1:=noI_bd h i
   rw [noI]; split<;>omega
theorem mustI_place {xs c : List Int} (g : Good c) (hm : ∀ l,l ∈ c↔l ∈ xs) : mustI xs=c:=by
 have h:=clauseI_spec (xs:=xs) fun x hx => g.2 x ((hm x).2 hx)
 unfold mustI
 cases hc : clauseI xs with
 | some d => exact good_uniq (h.1 d hc).1 g fun x => ((h.1 d hc).2 x).trans (hm x).symm
 | none =>
   obtain ⟨x,h1,h2⟩:=h.2 hc
   exact (good_neg g ((hm x).2 h1) ((hm _).2 h2)).elim
def plC (n i j : Int) : List Int:=if plOK n i j then placeP n.toNat i.toNat j.toNat else []
theorem plOK_nat {n i j : Int} (h : plOK n i j=true) : ∃ a b c : Nat,n=a∧i=(b + 1 : Nat)∧j=(c + 1 : Nat)∧(1<=a∧a<=3)∧b < a + 1∧c < a:=by
 simp only [plOK,Bc,decide_eq_true_eq] at h
 exact ⟨n.toNat,i.toNat - 1,j.toNat - 1,by omega,by omega,by omega,by omega,by omega,by omega⟩
theorem iPlaceG_ok (n i j : Int) (hb : -100<=n∧n<=100) : Ctr Try.prog 48 [.int .i64 n,.int .i64 i,.int .i64 j] false (.tup [.sl 0,.d (.bool (plOK n i j))]) [(0,.arr 3 1 ((plC n i j).map (.int .i64)))]:=by
 unfold plC
 cases h : plOK n i j with
 | false => rw [if_neg (by decide)]; exact iPlace_no n i j hb h
 | true =>
   rw [if_pos rfl]
   obtain ⟨a,b,c,rfl,rfl,rfl,ha,hb,hc⟩:=plOK_nat h
   simp only [Int.toNat_natCast]
   obtain ⟨g1,g2,_⟩:=place_good a (by omega) b hb c hc
   rw [← mustI_place g1 g2]
   exact iPlace_yes a (b + 1) (c + 1) h
theorem sPlaceG_ok (n i j : Int) (hb : -100<=n∧n<=100) : Ctr Try.prog 49 [.int .i64 n,.int .i64 i,.int .i64 j] false (.tup [.sl 0,.d (.bool (plOK n i j))]) [(0,.arr 3 1 ((plC n i j).map (.int .i64)))]:=by
 unfold plC
 cases h : plOK n i j with
 | false => rw [if_neg (by decide)]; exact sPlace_no n i j hb h
 | true =>
   rw [if_pos rfl]
   obtain ⟨a,b,c,rfl,rfl,rfl,ha,hb,hc⟩:=plOK_nat h
   simp only [Int.toNat_natCast]
   exact sPlace_yes a (b + 1) (c + 1) h
theorem plC_len (n i j : Int) : (plC n i j).length<=12:=by
 unfold plC
 cases h : plOK n i j with
 | false => rw [if_neg (by decide)]; simp
 | true =>
   rw [if_pos rfl]
   obtain ⟨a,b,c,rfl,rfl,rfl,ha,hb,hc⟩:=plOK_nat h
   simp only [Int.toNat_natCast]
   have:=ff_place a (by omega) ha.1 b hb c hc
   simp only [plF,Bc,decide_eq_true_eq] at this
   exact this.2
end Abs.Y
