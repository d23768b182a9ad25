/- What functions of this program compute, over plain data. No condition. -/
import Derived.Test.YtdohpocdlkcaoaaU14
import Derived.Test.YtdohpocdlkcaoaaE11
import Derived.Test.YtdohpocdlkcaoaaE12
set_option linter.all false
namespace Abs.Y
open Go Go.Proofs Abs
open Nat renaming reduceEqDiff -> Qa, reduceLT -> Qb, reduceAdd -> Qc, reduceMul -> Qd, reduceSub -> Qe, reduceLeDiff -> Qf, reduceSubDiff -> Qg, reduceBEq -> Qh
open Bool renaming not_eq_true' -> Ba, not_eq_false' -> Bb, and_eq_true -> Bc, or_eq_true -> Bd, or_eq_false_iff -> Be
open Int renaming ofNat_lt -> Ia, ofNat_le -> Ib, not_lt -> Ic, not_le -> Ie
open Decidable renaming not_not -> Da
set_option maxRecDepth 100000

def minI (l : List (List Int)) : List (List Int):=l.filter fun c => !(l.any fun d => decide (d.length < c.length) && subI d c)
def minS (l : List (List Int)) : Nat->List (List Int)
 | 0 => []
 | i + 1 => if (minS l i).any (fun d => subI d (l.getD i [])) then minS l i else minS l i++[l.getD i []]
theorem nodup_sub : ∀ (d : List Int) (x : List Int),d.Nodup->(∀ y ∈ d,y ∈ x)->d.length<=x.length
 | [],x,_,_ => Nat.zero_le _
 | y :: d, x, hn, h => by
   have hn':=List.nodup_cons.1 hn
   have hy:=h y (by simp)
   have:=nodup_sub d (x.erase y) hn'.2 (fun z hz => by
    have hne : z ≠ y:=fun e => hn'.1 (e ▸ hz)
    exact (List.mem_erase_of_ne hne).2 (h z (by simp [hz])))
   rw [List.length_erase_of_mem hy] at this
   have hp:=List.length_pos_of_mem hy
   rw [List.length_cons]; omega
end Abs.Y

namespace Abs
open Go Go.RowKit
theorem Ctr.read {P : Program} {f : FuncId} {xs ys : List D} {sh : Bool} {res : AV} {oo : List (Nat × AO)} (h : Ctr P f xs sh res oo) (hl : ys.length=xs.length) (hy : ∀ (S : Nat->Prop) w i v,i < ys.length->Rd S w (ys.getD i .nilptr) v->Rd S w (xs.getD i .nilptr) v) : Ctr P f ys sh res oo :=
 ⟨h.1,fun S w vs hl' hr => h.2 S w vs (by rw [← hl]; exact hl') fun i hi => hy _ _ _ _ (by rw [hl]; exact hi) (hr i (by rw [hl]; exact hi))⟩
end Abs
namespace Abs.Y
open Go Go.Proofs Abs
open Nat renaming reduceEqDiff -> Qa, reduceLT -> Qb, reduceAdd -> Qc, reduceMul -> Qd, reduceSub -> Qe, reduceLeDiff -> Qf, reduceSubDiff -> Qg, reduceBEq -> Qh
open Bool renaming not_eq_true' -> Ba, not_eq_false' -> Bb, and_eq_true -> Bc, or_eq_true -> Bd, or_eq_false_iff -> Be
open Int renaming ofNat_lt -> Ia, ofNat_le -> Ib, not_lt -> Ic, not_le -> Ie
open Decidable renaming not_not -> Da
set_option maxRecDepth 100000

noncomputable def minC (v : Int) (cs : List (List Int)) (w : Int) : List (List Int):=if goodN v cs w then minI (closV cs w.toNat) else []
end Abs.Y

namespace Abs.Y
open Go Go.Proofs Abs
open Nat renaming reduceEqDiff -> Qa, reduceLT -> Qb, reduceAdd -> Qc, reduceMul -> Qd, reduceSub -> Qe, reduceLeDiff -> Qf, reduceSubDiff -> Qg, reduceBEq -> Qh
open Bool renaming not_eq_true' -> Ba, not_eq_false' -> Bb, and_eq_true -> Bc, or_eq_true -> Bd, or_eq_false_iff -> Be
open Int renaming ofNat_lt -> Ia, ofNat_le -> Ib, not_lt -> Ic, not_le -> Ie
open Decidable renaming not_not -> Da
set_option maxRecDepth 100000

def IsLast (cs : List (List Int)) (w r : Nat) : Prop:=(∃ c,NewC cs w r c)∧∀ c,¬ NewC cs w (r + 1) c
open Classical in
noncomputable def roundsV (cs : List (List Int)) (w : Nat) : List (List (List Int)):=if h : ∃ r,IsLast cs w r then (List.range (h.choose + 1)).map fun k => srtV (NewC cs w k) else []
section
variable {cs : List (List Int)} {w vars r : Nat}
theorem isLast_uniq {r s : Nat} (h : IsLast cs w r) (g : IsLast cs w s) : r=s:=by
 obtain ⟨⟨c,hc⟩,h2⟩:=h
 obtain ⟨⟨d,hd⟩,g2⟩:=g
 rcases Nat.lt_trichotomy r s with h3 | h3 | h3
 . exact absurd hd (new_stop h2 s d h3)
 . exact h3
 . exact absurd hc (new_stop g2 r c h3)
theorem roundsV_eq (h : IsLast cs w r) : roundsV cs w=(List.range (r + 1)).map fun k => srtV (NewC cs w k):=by
 have hex : ∃ r,IsLast cs w r:=⟨r,h⟩
 unfold roundsV
 rw [dif_pos hex,isLast_uniq hex.choose_spec h]
theorem roundsV_nil (h : ∀ c,¬ NewC cs w 0 c) : roundsV cs w=[]:=by
 unfold roundsV
 rw [dif_neg]
 rintro ⟨r,⟨c,hc⟩,_⟩
 exact new_none h r c hc
def grpI (l : List (List Int)) (rd : List Int) : Nat->List (List (List Int))
 | 0 => []
 | i + 1 => if i=0∨rd.getD i 0 ≠ rd.getD (i - 1) 0 then grpI l rd i++[[l.getD i []]] else (grpI l rd i).dropLast++[(grpI l rd i).getLastD []++[l.getD i []]]
theorem grp_pre {l m : List (List Int)} {rd rs : List Int} (hl : rd.length=l.length) : ∀ i,i<=l.length->grpI (l++m) (rd++rs) i=grpI l rd i
 | 0,_ => rfl
 | i + 1, hi => by
   rw [grpI,grpI,grp_pre hl i (by omega),getD_app,getD_app,getD_app,if_pos (show i < l.length by omega),if_pos (show i < rd.length by omega),if_pos (show i - 1 < rd.length by omega)]
theorem grp_app {l m : List (List Int)} {rd : List Int} {k : Int} (hl : rd.length=l.length) (hk : ∀ i,i < rd.length->rd.getD i 0 ≠ k) : ∀ j,j<=m.length->grpI (l++m) (rd++List.replicate m.length k) (l.length + j)=grpI l rd l.length++(if j=0 then [] else [m.take j])
 | 0,_ => by rw [Nat.add_zero,grp_pre hl _ (Nat.le_refl _),if_pos rfl,List.append_nil]
 | j + 1, hj => by
   have ih:=grp_app (m:=m) hl hk j (by omega)
   have rr : ∀ i,i < m.length->(List.replicate m.length k).getD i 0=k:=fun i hi => by rw [List.getD_eq_getElem?_getD,List.getElem?_replicate,if_pos hi,Option.getD_some]
   rw [← Nat.add_assoc,grpI,ih,getD_app,getD_app,getD_app,if_neg (show ¬ l.length + j < l.length by omega),if_neg (show ¬ l.length + j < rd.length by omega),show l.length + j - l.length=j by omega,hl,show l.length + j - l.length=j by omega,rr j (by omega),if_neg (Nat.succ_ne_zero j)]
   by_cases h0 : j=0
   . subst h0
     rw [if_pos rfl,List.append_nil,if_pos]
     . rw [take_succ [] m 0 (by omega)]; rfl
     . by_cases hl0 : l.length=0
       . exact .inl (by omega)
       . refine .inr ?_
         rw [if_pos (by omega)]
         exact (hk _ (by omega)).symm
   . rw [if_neg h0,if_neg]
     . rw [List.dropLast_concat,List.getLastD_concat,take_succ [] m j (by omega)]
     . rintro (h | h)
       . omega
       . rw [if_neg (by omega),show l.length + j - 1 - l.length=j - 1 by omega,rr _ (by omega)] at h
         exact h rfl
theorem itW_rows (hg : ∀ c ∈ cs,G6 c) (hb : ∀ c ∈ cs,Below vars c) (h0 : firstC cs w ≠ []) : ∀ r,(∀ k,k < r->(fndR (itW cs w vars k) w vars ((k + 1 : Nat) : Int)).so ≠ []) ->
 grpI (itW cs w vars r).list (itW cs w vars r).rd (itW cs w vars r).list.length=(List.range (r + 1)).map fun k => srtV (NewC cs w k)
 | 0, _ => by
   obtain ⟨h1,h2⟩:=firstC_ok (w:=w) hg
   have:=grp_app (l:=[]) (rd:=[]) (m:=firstC cs w) (k:=0) rfl (fun i hi => by simp at hi) (firstC cs w).length (Nat.le_refl _)
   simp only [List.length_nil,Nat.zero_add,List.nil_append] at this
   rw [if_neg (fun h => h0 (List.length_eq_zero_iff.1 h)),List.take_length] at this
   simp only [itW,startW]
   rw [this]
   simp only [grpI,List.nil_append]
   show _=[srtV (NewC cs w 0)]
   rw [srtV_eq (S:=NewC cs w 0) h1 h2]
 | r + 1, hf => by
   have ih:=itW_rows hg hb h0 r fun k hk => hf k (by omega)
   have hI:=itW_inv (w:=w) hg hb r
   have hn:=fun c => hI.new hg hb c
   have hS:=srtV_eq (S:=NewC cs w (r + 1)) (hI.ok.fok (width:=w) (vars:=vars) (round:=((r + 1 : Nat) : Int))).so hn
   have hne:=hf r (by omega)
   rw [itW,roundI]
   simp only [List.length_append]
   generalize hW : itW cs w vars r=W at *
   rw [grp_app hI.ok.rd (fun i hi e => by
    rw [hI.ok.rd] at hi
    obtain ⟨k,h1,h2,_⟩:=hI.rd i hi
    omega) _ (Nat.le_refl _),if_neg (fun h => hne (List.length_eq_zero_iff.1 h)),List.take_length,ih,List.range_succ (n:=r + 1),List.map_append,← hS]
   rfl
theorem FinW.rows {W : Wrk} (hg : ∀ c ∈ cs,G6 c) (hb : ∀ c ∈ cs,Below vars c) (h : FinW cs w vars W r) : grpI W.list W.rd W.list.length=roundsV cs w:=by
 obtain ⟨h1,h2⟩:=firstC_ok (w:=w) hg
 have hI:=itW_inv (w:=w) hg hb r
 have he : (fndR (itW cs w vars r) w vars ((r + 1 : Nat) : Int)).so=[]:=by
  refine List.eq_nil_iff_forall_not_mem.2 fun c hc => h.stop c ((hI.new hg hb c).1 hc)
 have hW : W.list=(itW cs w vars r).list∧W.rd=(itW cs w vars r).rd:=by
  rw [h.eq,itW,roundI]
  simp only [he,List.append_nil,List.length_nil,List.replicate_zero,and_self]
 by_cases h0 : firstC cs w=[]
 . have hn : ∀ c,¬ NewC cs w 0 c:=fun c hc => by
    have:=(h2 c).2 hc
    rw [h0] at this
    cases this
   have hl : W.list=[]:=List.eq_nil_iff_forall_not_mem.2 fun c hc => by
    obtain ⟨k,hk⟩:=(h.clo c).1 hc
    exact new_none hn k c hk
   rw [hl,roundsV_nil hn]
   rfl
 . rw [hW.1,hW.2,itW_rows hg hb h0 r h.fresh,roundsV_eq]
   refine ⟨?_,h.stop⟩
   cases r with
   | zero =>
     obtain ⟨c,hc⟩:=List.exists_mem_of_ne_nil _ h0
     exact ⟨c,(h2 c).1 hc⟩
   | succ r =>
     obtain ⟨c,hc⟩:=List.exists_mem_of_ne_nil _ (h.fresh r (by omega))
     exact ⟨c,((itW_inv (w:=w) hg hb r).new hg hb c).1 hc⟩
end
end Abs.Y
