/- What functions of this program compute, over plain data. No condition. -/
import Derived.Test.YtdohpocdlkcaoaaAbsRow
import Derived.Shelf.SlSortCmp.NoneTotal
import Derived.Shelf.SlicesE.DeleteFunc
import Derived.Shelf.Slices.CompactI
import Derived.Shelf.Spec.SlicesGrow
import Derived.Test.YtdohpocdlkcaoaaW1
import Derived.Lib.RowBridge
set_option linter.all false
open Nat renaming reduceEqDiff -> Qa, reduceLT -> Qb, reduceAdd -> Qc, reduceMul -> Qd, reduceSub -> Qe, reduceLeDiff -> Qf, reduceSubDiff -> Qg, reduceBEq -> Qh
open Bool renaming not_eq_true' -> Ba, not_eq_false' -> Bb, and_eq_true -> Bc, or_eq_true -> Bd, or_eq_false_iff -> Be
open Int renaming ofNat_lt -> Ia, ofNat_le -> Ib, not_lt -> Ic, not_le -> Ie
open Decidable renaming not_not -> Da
namespace Abs
open Go Go.RowKit Go.Sort Go.Proofs Go.Shelf

theorem flat_ints {k : IntKind} : ∀ xs : List Int,flat (xs.map (D.int k))=xs.map (D.int k)
 | [] => rfl
 | x :: r => by
   have:=flat_ints (k:=k) r
   simp only [flat,List.map_cons,List.flatMap_cons] at this ⊢
   rw [this]; rfl

theorem arr_open {β S w e xs v F} (h : OK β S w (.arr e 1 (xs.map (.int .i64))) v F) : (v=.slice none 0 0∧xs=[]) ∨
 ∃ g cap cur,v=.slice (some ⟨g,0,none⟩) xs.length cap∧w.heap[g]? = some (.cells cur e (0,0))∧xs.length<=cap∧cap<=maxLen∧cur.size=cap∧cur.toList.take xs.length=xs.map (Value.int .i64):=by
 cases h with
 | arr hF vs hk0 hk hw hr =>
   have hvs : vs=xs.map (Value.int .i64):=by
    have hl : vs.length=xs.length:=by have:=hw.1; simpa using this
    apply List.ext_getElem (by simpa using hl)
    intro i h1 h2
    have h3:=hr i (by rw [flat_ints]; simpa using h2)
    rw [flat_ints] at h3
    have hi : i < xs.length:=by simpa using h2
    simp only [List.getD_eq_getElem?_getD,List.getElem?_map,List.getElem?_eq_getElem hi,List.getElem?_eq_getElem h1,Option.map_some,Option.getD_some] at h3
    cases h3'' : vs[i] with
    | int k n => rw [h3''] at h3; cases h3; simp
    | _ => rw [h3''] at h3; cases h3
   rcases hw.2 with ⟨h1,h2⟩ | ⟨g,cap,cur,h1,_,h3,h4,h5,h6,h7⟩
   . exact .inl ⟨h1,by simpa using h2⟩
   . refine .inr ⟨g,cap,cur,by simpa using h1,h3,by simpa using h4,h5,by simpa using h6,?_⟩
     rw [← hvs]; simpa using h7

theorem arr_close {β' S' w' e g cap} {cur' : Array Value} {ys : List Int} (hb : w'.heap[g]? = some (.cells cur' e (0,0))) (hcap : ys.length<=cap) (hm : cap<=maxLen) (hsz : cur'.size=cap) (ht : cur'.toList.take ys.length=ys.map (Value.int .i64)) :
 OK β' S' w' (.arr e 1 (ys.map (.int .i64))) (.slice (some ⟨g,0,none⟩) ys.length cap) (ownS (.slice (some ⟨g,0,none⟩) ys.length cap)):=by
 refine .arr rfl (ys.map (Value.int .i64)) (by omega) (fun x hx => ?_) ⟨by simp,.inr ⟨g,cap,cur',by simp,Nat.zero_le _,hb,by simpa using hcap,hm,by simpa using hsz,by simpa using ht⟩⟩ fun i hi => ?_
 . obtain ⟨y,_,rfl⟩:=List.mem_map.1 hx; rfl
 . rw [flat_ints] at hi ⊢
   have hi' : i < ys.length:=by simpa using hi
   simp only [List.getD_eq_getElem?_getD,List.getElem?_map,List.getElem?_eq_getElem hi',Option.map_some,Option.getD_some]
   exact .int _ _
theorem arr_nil {β' S' w' e} : OK β' S' w' (.arr e 1 ([].map (D.int .i64))) (.slice none 0 0) (ownS (.slice none 0 0)) :=
 .arr rfl [] (by omega) (by simp) ⟨by simp,.inl ⟨rfl,by simp⟩⟩ (by simp [flat])

theorem holds_of {w : World} {g : Nat} {cur : Array Value} {e : TypeId} {xs : List Int} (hb : w.heap[g]? = some (.cells cur e (0,0))) (ht : cur.toList.take xs.length=xs.map (Value.int .i64)) : Holds (Value.int .i64) w g 0 xs.toArray:=by
 intro j hj
 have hj' : j < xs.length:=by simpa using hj
 refine ⟨?_,by simp [World.frozen?, hb]⟩
 have h1:=congrArg (fun l : List Value => l[j]?) ht
 simp only [List.getElem?_take,if_pos hj',List.getElem?_map,List.getElem?_eq_getElem hj',Option.map_some] at h1
 have h2 : cur[j]? = some (Value.int .i64 xs[j]):=by rw [← h1]; simp
 simp [World.cell?, hb,h2,hj']

theorem putRow_block {w : World} {g : Nat} {cur : Array Value} {e : TypeId} (d : Array Int) (hb : w.heap[g]? = some (.cells cur e (0,0))) :
 (putRow (Value.int .i64) w g 0 d).heap[g]? = some (.cells (putCells (Value.int .i64) 0 d cur) e (0,0)):=by
 simp [putRow,mapBlock,Array.getElem?_modify,hb,onCells]
theorem putRow_other {w : World} {g k : Nat} (d : Array Int) (h : k ≠ g) : (putRow (Value.int .i64) w g 0 d).heap[k]? = w.heap[k]? := by
 simp only [putRow,mapBlock,Array.getElem?_modify]
 rw [if_neg (Ne.symm h)]
theorem putCells_take (d : Array Int) (cur : Array Value) (k : Nat) (hk : k<=d.size) (hd : d.size<=cur.size) : (putCells (Value.int .i64) 0 d cur).toList.take k=(d.toList.take k).map (Value.int .i64):=by
 apply List.ext_getElem?
 intro i
 simp only [List.getElem?_take,List.getElem?_map,putCells]
 split
 . rename_i hi
   have h1 : i < cur.size:=by omega
   have h2 : i < d.size:=by omega
   simp [h1,h2]
 . rfl

theorem sortWorld_fr {w : World} {g m : Nat} {d : Array Int} {os : Array Obj} {M : Nat->Prop} (hM : M g) : Fr w.heap.size M w (sortWorld (Value.int .i64) w g 0 m d os):=by
 refine ⟨rfl,rfl,rfl,?_,?_,fun k hk hkM => ?_,Nat.le_add_right _ _⟩
 . show w.heap.size<=((putRow _ (ahead w m) g 0 d).heap++os).size
   rw [Array.size_append,Go.Sort.size_putRow]; simp
 . show w.heap.size<=((putRow _ (ahead w m) g 0 d).heap++os).size
   rw [Array.size_append,Go.Sort.size_putRow]; simp
 . have hne : k ≠ g:=fun e => hkM (e ▸ hM)
   show ((putRow _ (ahead w m) g 0 d).heap++os)[k]? = _
   rw [Array.getElem?_append_left (by rw [Go.Sort.size_putRow]; exact hk),putRow_other _ hne]; rfl
theorem sortWorld_block {w : World} {g m : Nat} {d : Array Int} {os : Array Obj} {cur : Array Value} {e : TypeId} (hb : w.heap[g]? = some (.cells cur e (0,0))) :
 (sortWorld (Value.int .i64) w g 0 m d os).heap[g]? = some (.cells (putCells (Value.int .i64) 0 d cur) e (0,0)):=by
 have hlt : g < w.heap.size:=(Array.getElem?_eq_some_iff.1 hb).1
 show ((putRow _ (ahead w m) g 0 d).heap++os)[g]? = _
 rw [Array.getElem?_append_left (by rw [Go.Sort.size_putRow]; exact hlt)]
 exact putRow_block d hb

theorem CtrM.inPlace {P : Program} {f : FuncId} {rest : List AV} {e : TypeId} {xs ys : List Int} (hent : Enters P f) (hl : ys.length=xs.length) (hx : xs.length<=4294967296)
 (h : ∀ (S : Nat->Prop) (β : Nat->Value) (w : World) (rv : List Value),rv.length=rest.length->(∀ i,i < rest.length->Rel β S w (rest.getD i .undef) (rv.getD i Go.undef)) ->
  (xs=[]->∀ a cap,Calls P f (.slice a 0 cap :: rv).toArray w fun en w' => en=.returned (.tuple #[])∧w'=w) ∧
  (∀ g cap,Holds (Value.int .i64) w g 0 xs.toArray->g < w.heap.size->Calls P f (.slice (some ⟨g,0,none⟩) xs.length cap :: rv).toArray w fun en w' => en=.returned (.tuple #[])∧∃ m os,w'=sortWorld (Value.int .i64) w g 0 m ys.toArray os)) :
 CtrM P f (.sl 0 :: rest) [(0,.arr e 1 (xs.map (.int .i64)))] [0] false (.tup []) [(0,.arr e 1 (ys.map (.int .i64)))]:=by
 refine ⟨hent,fun S β φ w vs hvl hvr hO hD => ?_⟩
 cases vs with
 | nil => simp at hvl
 | cons v rv =>
   obtain ⟨h1,h2⟩:=h (free S φ [(0,.arr e 1 (xs.map (.int .i64)))]) β w rv (by simpa using hvl) fun i hi => by simpa using hvr (i + 1) (by simpa using hi)
   have hv : v=β 0:=by
    have:=hvr 0 (by simp)
    simp only [List.getD_cons_zero] at this
    cases this; rfl
   have hOk:=hO 0 (.arr e 1 (xs.map (.int .i64))) (by simp [lk])
   have hFo : φ 0=ownS (β 0):=by
    generalize β 0=v0 at *
    generalize φ 0=F0 at *
    cases hOk with | arr hF => exact hF
   have one : ∀ {j : Nat} {o : AO} {l : List Int},lk j [(0,AO.arr e 1 (l.map (D.int .i64)))]=some o->j=0∧o=.arr e 1 (l.map (.int .i64)):=fun hj => by
    simp only [lk] at hj
    split at hj
    . rename_i e'; cases hj; exact ⟨e',rfl⟩
    . cases hj
   rcases arr_open hOk with ⟨h3,rfl⟩ | ⟨g,cap,cur,h3,h4,h5,h6,h7,h8⟩
   . obtain rfl : ys=[]:=by simpa using hl
     rw [hv,h3]
     refine (h1 rfl none 0).mono fun en w' ⟨he,hw⟩ => ⟨_,he,?_,?_⟩
     . subst hw; exact ⟨rfl,rfl,rfl,Nat.le_refl _,Nat.le_refl _,fun _ _ _ => rfl,Nat.le_refl _⟩
     . subst hw
       refine ⟨β,φ,fun _ _ => rfl,Rel.tup (xs:=[]) (vs:=[]) rfl (by simp),fun j o hj => ?_,fun j o g hj hg => ?_,fun j j' o o' g hj hj' _ _ => ?_⟩
       . obtain ⟨rfl,rfl⟩:=one (l:=[]) hj
         rw [hFo,h3]; exact arr_nil
       . obtain ⟨rfl,rfl⟩:=one (l:=[]) hj
         rw [hFo,h3] at hg; cases hg
       . rw [(one (l:=[]) hj).1,(one (l:=[]) hj').1]
   . have hlt : g < w.heap.size:=(Array.getElem?_eq_some_iff.1 h4).1
     have hM : blocksOf φ [(0,AO.arr e 1 (xs.map (D.int .i64)))] g:=⟨0,.arr e 1 (xs.map (.int .i64)),by simp [lk],by rw [hFo,h3]; rfl⟩
     rw [hv,h3]
     refine (h2 g cap (holds_of h4 h8) hlt).mono fun en w' ⟨he,m,os,hw⟩ => ⟨_,he,?_,?_⟩
     . subst hw; exact sortWorld_fr hM
     . subst hw
       refine ⟨β,φ,fun _ _ => rfl,Rel.tup (xs:=[]) (vs:=[]) rfl (by simp),fun j o hj => ?_,fun j o g' hj hg => ?_,fun j j' o o' g hj hj' _ _ => ?_⟩
       . obtain ⟨rfl,rfl⟩:=one (l:=ys) hj
         rw [hFo,h3,← hl]
         refine arr_close (sortWorld_block h4) (by omega) h6 (by simp [putCells,h7]) ?_
         have:=putCells_take ys.toArray cur ys.length (by simp) (by simp; omega)
         simpa using this
       . obtain ⟨rfl,rfl⟩:=one (l:=ys) hj
         rw [hFo,h3] at hg
         cases hg
         exact .inr hM
       . rw [(one (l:=ys) hj).1,(one (l:=ys) hj').1]

theorem CtrM.cutPlace {P : Program} {f : FuncId} {rest : List AV} {e : TypeId} {xs ys : List Int} (hent : Enters P f) (hl : ys.length<=xs.length) (hx : xs.length<=4294967296)
 (h : ∀ (S : Nat->Prop) (β : Nat->Value) (w : World) (rv : List Value),rv.length=rest.length->(∀ i,i < rest.length->Rel β S w (rest.getD i .undef) (rv.getD i Go.undef))->(∀ g,S g->(β 0).ownBlock ≠ some g) ->
  (xs=[]->Calls P f (.slice none 0 0 :: rv).toArray w fun en w' => en=.returned (.slice none 0 0)∧w'=w) ∧
  (∀ g cap,β 0=.slice (some ⟨g,0,none⟩) xs.length cap->Holds (Value.int .i64) w g 0 xs.toArray->g < w.heap.size->xs.length<=cap->Calls P f (.slice (some ⟨g,0,none⟩) xs.length cap :: rv).toArray w fun en w' => en=.returned (.slice (some ⟨g,0,none⟩) ys.length cap) ∧
   ∃ (m : Nat) (zs : List Int) (os : Array Obj),zs.length<=xs.length∧zs.take ys.length=ys∧ys.length<=zs.length∧w'=sortWorld (Value.int .i64) w g 0 m zs.toArray os)) :
 CtrM P f (.sl 0 :: rest) [(0,.arr e 1 (xs.map (.int .i64)))] [] false (.sl 0) [(0,.arr e 1 (ys.map (.int .i64)))]:=by
 refine ⟨hent,fun S β φ w vs hvl hvr hO hD => ?_⟩
 cases vs with
 | nil => simp at hvl
 | cons v rv =>
   have one : ∀ {j : Nat} {o : AO} {l : List Int},lk j [(0,AO.arr e 1 (l.map (D.int .i64)))]=some o->j=0∧o=.arr e 1 (l.map (.int .i64)):=fun hj => by
    simp only [lk] at hj
    split at hj
    . rename_i e'; cases hj; exact ⟨e',rfl⟩
    . cases hj
   have hOk:=hO 0 (.arr e 1 (xs.map (.int .i64))) (by simp [lk])
   have hFo : φ 0=ownS (β 0):=by
    generalize β 0=v0 at *
    generalize φ 0=F0 at *
    cases hOk with | arr hF => exact hF
   obtain ⟨h1,h2⟩:=h (free S φ [(0,.arr e 1 (xs.map (.int .i64)))]) β w rv (by simpa using hvl) (fun i hi => by simpa using hvr (i + 1) (by simpa using hi)) fun g hg hb => hg.2 0 (.arr e 1 (xs.map (.int .i64))) (by simp [lk]) rfl (by rw [hFo]; exact hb)
   have hv : v=β 0:=by
    have:=hvr 0 (by simp)
    simp only [List.getD_cons_zero] at this
    cases this; rfl
   rcases arr_open hOk with ⟨h3,rfl⟩ | ⟨g,cap,cur,h3,h4,h5,h6,h7,h8⟩
   . obtain rfl : ys=[]:=by simpa using hl
     rw [hv,h3]
     refine (h1 rfl).mono fun en w' ⟨he,hw⟩ => ⟨_,he,?_,?_⟩
     . subst hw; exact ⟨rfl,rfl,rfl,Nat.le_refl _,Nat.le_refl _,fun _ _ _ => rfl,Nat.le_refl _⟩
     . subst hw
       refine ⟨β,φ,by simp,by rw [← h3]; exact .sl 0,fun j o hj => ?_,fun j o g hj hg => ?_,fun j j' o o' g hj hj' _ _ => ?_⟩
       . obtain ⟨rfl,rfl⟩:=one (l:=[]) hj
         rw [hFo,h3]; exact arr_nil
       . obtain ⟨rfl,rfl⟩:=one (l:=[]) hj
         rw [hFo,h3] at hg; cases hg
       . rw [(one (l:=[]) hj).1,(one (l:=[]) hj').1]
   . have hlt : g < w.heap.size:=(Array.getElem?_eq_some_iff.1 h4).1
     have hM : blocksOf φ [(0,AO.arr e 1 (xs.map (D.int .i64)))] g:=⟨0,.arr e 1 (xs.map (.int .i64)),by simp [lk],by rw [hFo,h3]; rfl⟩
     rw [hv,h3]
     refine (h2 g cap h3 (holds_of h4 h8) hlt h5).mono fun en w' ⟨he,m,zs,os,hz1,hz2,hz3,hw⟩ => ⟨_,he,?_,?_⟩
     . subst hw; exact sortWorld_fr hM
     . subst hw
       refine ⟨fun _ => .slice (some ⟨g,0,none⟩) ys.length cap,fun _ => ownS (.slice (some ⟨g,0,none⟩) ys.length cap),by simp,?_,fun j o hj => ?_,fun j o g' hj hg => ?_,fun j j' o o' g hj hj' _ _ => ?_⟩
       . exact Rel.sl (β:=fun _ => Value.slice (some ⟨g,0,none⟩) ys.length cap) 0
       . obtain ⟨rfl,rfl⟩:=one (l:=ys) hj
         refine arr_close (sortWorld_block h4) (by omega) h6 (by simp [putCells,h7]) ?_
         have:=putCells_take zs.toArray cur ys.length (by simpa using hz3) (by simp; omega)
         rw [this]; simp [hz2]
       . obtain ⟨rfl,rfl⟩:=one (l:=ys) hj
         cases hg
         exact .inr hM
       . rw [(one (l:=ys) hj).1,(one (l:=ys) hj').1]

end Abs

namespace Abs.Y
open Go Go.Proofs Abs Go.Sort Go.Shelf Go.Lib Go.RowKit
set_option maxRecDepth 100000

def mI (a : Int) : Int:=max a (wrap64 (-a))
theorem cmpLit_lt (a b : Int) : ltOf cmpLit a b=decide (mI a < mI b∨(mI a=mI b∧b < a)):=by
 unfold ltOf cmpLit Lib.compareInt
 show decide ((if (if mI a < mI b then (-1 : Int) else if mI b < mI a then 1 else 0) ≠ 0 then (if mI a < mI b then (-1 : Int) else if mI b < mI a then 1 else 0) else if b < a then (-1 : Int) else if a < b then 1 else 0) < 0)=_
 generalize mI a=x
 generalize mI b=y
 by_cases h1 : x < y
 . simp [h1]
 . by_cases h2 : y < x
   . simp [h1,h2]; omega
   . have : x=y:=by omega
     subst this
     by_cases h3 : b < a
     . simp [h3]
     . by_cases h4 : a < b<;>simp [h3,h4]
theorem cmpLit_swo : SWO (ltOf cmpLit) where
 irrefl x:=by rw [cmpLit_lt]; simp
 trans x y z h1 h2:=by rw [cmpLit_lt] at *; simp at *; omega
 ntrans x y z h1 h2:=by rw [cmpLit_lt] at *; simp at *; omega
theorem cmpLit_total (x y : Int) (h1 : ltOf cmpLit x y=false) (h2 : ltOf cmpLit y x=false) : x=y:=by
 rw [cmpLit_lt] at *; simp at *; omega
def sortL (xs : List Int) : List Int:=xs.mergeSort fun x y => !(ltOf cmpLit y x)
theorem sortL_length (xs : List Int) : (sortL xs).length=xs.length:=by simp [sortL]
theorem cmp_lays {blk off size : Nat} {w : World} : CmpLays1 Try.prog 188 #[] (Value.int .i64) cmpLit blk off size w:=fun m os dk _ x y =>
 (Try.cmpLit_w x y _).mono fun _ _ ⟨he,q,os',hw⟩ => ⟨he,q,os',hw⟩
theorem sort_ok (xs : List Int) (hx : xs.length<=4294967296) : CtrM Try.prog 193 [.sl 0,.fn (.func 188) []] [(0,.arr 3 1 (xs.map (.int .i64)))] [0] false (.tup []) [(0,.arr 3 1 ((sortL xs).map (.int .i64)))]:=by
 refine CtrM.inPlace ⟨_,Try.func193,by kernel_rfl,by kernel_rfl⟩ (sortL_length xs) hx fun S β w rv hl hr => ?_
 obtain ⟨v,rfl⟩ : ∃ v,rv=[v]:=by
  match rv,hl with
  | [a],_ => exact ⟨a,rfl⟩
 have hv : v=.func (.func 188) #[] #[]:=by
  have:=hr 0 (by simp)
  simp only [List.getD_cons_zero] at this
  cases this with
  | fn h1 h2 => obtain rfl:=List.eq_nil_of_length_eq_zero h1; rfl
 subst hv
 refine ⟨fun _ a cap => ?_,fun g cap hH hg => ?_⟩
 . exact AnyF.slices_SortFunc_none { Try.layS with } a cap _ w
 . have eg : ∀ args w,(callFunc 188 args).run Try.prog w=.ok (.enter 188 args) w:=enters_of Try.func188 (by kernel_rfl) rfl
   have h:=Any.slices_SortFunc_total Try.layS (Value.int .i64) (fun _ => rfl) cmpLit cmpLit_swo 188 #[] g 0 cap xs.toArray w eg cmp_lays hH hg (by simp; omega) cmpLit_total
   simp only [List.size_toArray] at h
   refine h.mono fun en w' ⟨he,n,os,hw⟩ => ⟨he,n,os,?_⟩
   rw [hw]; rfl
def compL (xs : List Int) : List Int:=Lib.compact xs
theorem compact_ok (xs : List Int) (hx : xs.length<=4294967296) : CtrM Try.prog 194 [.sl 0] [(0,.arr 3 1 (xs.map (.int .i64)))] [] false (.sl 0) [(0,.arr 3 1 ((compL xs).map (.int .i64)))]:=by
 have hle : (Lib.compact xs).length<=xs.length:=compact_length_le xs
 refine CtrM.cutPlace ⟨_,Try.func194,by kernel_rfl,by kernel_rfl⟩ hle hx fun S β w rv hl hr _ => ?_
 obtain rfl : rv=[]:=by simpa using hl
 refine ⟨fun _ => Any.slices_Compact_int_empty Try.layC none 0 w,fun g cap _ hH hg hcap => ?_⟩
 have h:=Any.slices_Compact_int Try.layC g 0 cap xs w hH (by omega) hcap
 refine Calls.mono h fun en w' ⟨he,q,hw⟩ => ?_
 refine ⟨he,q,Lib.compact xs++List.replicate (xs.length - (Lib.compact xs).length) 0,#[],?_,?_,?_,?_⟩
 . simp; omega
 . simp [compL]
 . simp [compL]
 . rw [hw]; unfold sortWorld; rw [grow_empty]
theorem mI_absI (n : Int) : absI n=mI n:=by
 rw [absI,mI,show IntKind.i64.wrap (0 - n)=wrap64 (-n) by rw [Int.zero_sub,IntKind.wrap_i64]; unfold wrap64; omega]
 split<;>omega
end Abs.Y

namespace Abs.Y
open Go Go.Proofs Abs
set_option maxRecDepth 100000
end Abs.Y
