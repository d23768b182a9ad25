/- What functions of this program compute, over plain data. No condition. -/
import Derived.Test.YtdohpocdlkcaoaaGreatAbsRow
import Derived.Shelf.SlSortCmp.NoneTotal
import Derived.Shelf.SlicesE.DeleteFunc
import Derived.Shelf.Slices.CompactI
import Derived.Shelf.Spec.SlicesGrow
import Derived.Test.YtdohpocdlkcaoaaGreatW1
import Derived.Lib.RowBridge
set_option linter.all false
open Nat renaming reduceEqDiff -> Qa, reduceLT -> Qb, reduceAdd -> Qc, reduceMul -> Qd, reduceSub -> Qe, reduceLeDiff -> Qf, reduceSubDiff -> Qg, reduceBEq -> Qh
open Bool renaming not_eq_true' -> Ba, not_eq_false' -> Bb, and_eq_true -> Bc, or_eq_true -> Bd, or_eq_false_iff -> Be
open Int renaming ofNat_lt -> Ia, ofNat_le -> Ib, not_lt -> Ic, not_le -> Ie
open Decidable renaming not_not -> Da
namespace Abs
open Go Go.RowKit Go.Sort Go.Proofs Go.Shelf

theorem flat_ints {k : IntKind} : ∀ xs : List Int,flat (xs.map (D.int k))=xs.map (D.int k)
 | [] => rfl
 | x :: r => by
   have:=flat_ints (k:=k) r
   simp only [flat,List.map_cons,List.flatMap_cons] at this ⊢
   rw [this]; rfl

theorem arr_open {β S w e xs v F} (h : OK β S w (.arr e 1 (xs.map (.int .i64))) v F) : (v=.slice none 0 0∧xs=[]) ∨
 ∃ g cap cur,v=.slice (some ⟨g,0,none⟩) xs.length cap∧w.heap[g]? = some (.cells cur e (0,0))∧xs.length<=cap∧cap<=maxLen∧cur.size=cap∧cur.toList.take xs.length=xs.map (Value.int .i64):=by
 cases h with
 | arr hF vs hk0 hk hw hr =>
   have hvs : vs=xs.map (Value.int .i64):=by
    have hl : vs.length=xs.length:=by have:=hw.1; simpa using this
    apply List.ext_getElem (by simpa using hl)
    intro i h1 h2
    have h3:=hr i (by rw [flat_ints]; simpa using h2)
    rw [flat_ints] at h3
    have hi : i < xs.length:=by simpa using h2
    simp only [List.getD_eq_getElem?_getD,List.getElem?_map,List.getElem?_eq_getElem hi,List.getElem?_eq_getElem h1,Option.map_some,Option.getD_some] at h3
    cases h3'' : vs[i] with
    | int k n => rw [h3''] at h3; cases h3; simp
    | _ => rw [h3''] at h3; cases h3
   rcases hw.2 with ⟨h1,h2⟩ | ⟨g,cap,cur,h1,_,h3,h4,h5,h6,h7⟩
   . exact .inl ⟨h1,by simpa using h2⟩
   . refine .inr ⟨g,cap,cur,by simpa using h1,h3,by simpa using h4,h5,by simpa using h6,?_⟩
     rw [← hvs]; simpa using h7

theorem arr_close {β' S' w' e g cap} {cur' : Array Value} {ys : List Int} (hb : w'.heap[g]? = some (.cells cur' e (0,0))) (hcap : ys.length<=cap) (hm : cap<=maxLen) (hsz : cur'.size=cap) (ht : cur'.toList.take ys.length=ys.map (Value.int .i64)) :
 OK β' S' w' (.arr e 1 (ys.map (.int .i64))) (.slice (some ⟨g,0,none⟩) ys.length cap) (ownS (.slice (some ⟨g,0,none⟩) ys.length cap)):=by
 refine .arr rfl (ys.map (Value.int .i64)) (by omega) (fun x hx => ?_) ⟨by simp,.inr ⟨g,cap,cur',by simp,Nat.zero_le _,hb,by simpa using hcap,hm,by simpa using hsz,by simpa using ht⟩⟩ fun i hi => ?_
 . obtain ⟨y,_,rfl⟩:=List.mem_map.1 hx; rfl
 . rw [flat_ints] at hi ⊢
   have hi' : i < ys.length:=by simpa using hi
   simp only [List.getD_eq_getElem?_getD,List.getElem?_map,List.getElem?_eq_getElem hi',Option.map_some,Option.getD_some]
   exact .int _ _
theorem arr_nil {β' S' w' e} : OK β' S' w' (.arr e 1 ([].map (D.int .i64))) (.slice none 0 0) (ownS (.slice none 0 0)) :=
 .arr rfl [] (by omega) (by simp) ⟨by simp,.inl ⟨rfl,by simp⟩⟩ (by simp [flat])

theorem holds_of {w : World} {g : Nat} {cur : Array Value} {e : TypeId} {xs : List Int} (hb : w.heap[g]? = some (.cells cur e (0,0))) (ht : cur.toList.take xs.length=xs.map (Value.int .i64)) : Holds (Value.int .i64) w g 0 xs.toArray:=by
 intro j hj
 have hj' : j < xs.length:=by simpa using hj
 refine ⟨?_,by simp [World.frozen?, hb]⟩
 have h1:=congrArg (fun l : List Value => l[j]?) ht
 simp only [List.getElem?_take,if_pos hj',List.getElem?_map,List.getElem?_eq_getElem hj',Option.map_some] at h1
 have h2 : cur[j]? = some (Value.int .i64 xs[j]):=by rw [← h1]; simp
 simp [World.cell?, hb,h2,hj']

theorem putRow_block {w : World} {g : Nat} {cur : Array Value} {e : TypeId} (d : Array Int) (hb : w.heap[g]? = some (.cells cur e (0,0))) :
 (putRow (Value.int .i64) w g 0 d).heap[g]? = some (.cells (putCells (Value.int .i64) 0 d cur) e (0,0)):=by
 simp [putRow,mapBlock,Array.getElem?_modify,hb,onCells]
theorem putRow_other {w : World} {g k : Nat} (d : Array Int) (h : k ≠ g) : (putRow (Value.int .i64) w g 0 d).heap[k]? = w.heap[k]? := by
 simp only [putRow,mapBlock,Array.getElem?_modify]
 rw [if_neg (Ne.symm h)]
theorem putCells_take (d : Array Int) (cur : Array Value) (k : Nat) (hk : k<=d.size) (hd : d.size<=cur.size) : (putCells (Value.int .i64) 0 d cur).toList.take k=(d.toList.take k).map (Value.int .i64):=by
 apply List.ext_getElem?
 intro i
 simp only [List.getElem?_take,List.getElem?_map,putCells]
 split
 . rename_i hi
   have h1 : i < cur.size:=by omega
   have h2 : i < d.size:=by omega
   simp [h1,h2]
 . rfl

theorem sortWorld_fr {w : World} {g m : Nat} {d : Array Int} {os : Array Obj} {M : Nat->Prop} (hM : M g) : Fr w.heap.size M w (sortWorld (Value.int .i64) w g 0 m d os):=by
 refine ⟨rfl,rfl,rfl,?_,?_,fun k hk hkM => ?_,Nat.le_add_right _ _⟩
 . show w.heap.size<=((putRow _ (ahead w m) g 0 d).heap++os).size
   rw [Array.size_append,Go.Sort.size_putRow]; simp
 . show w.heap.size<=((putRow _ (ahead w m) g 0 d).heap++os).size
   rw [Array.size_append,Go.Sort.size_putRow]; simp
 . have hne : k ≠ g:=fun e => hkM (e ▸ hM)
   show ((putRow _ (ahead w m) g 0 d).heap++os)[k]? = _
   rw [Array.getElem?_append_left (by rw [Go.Sort.size_putRow]; exact hk),putRow_other _ hne]; rfl
theorem sortWorld_block {w : World} {g m : Nat} {d : Array Int} {os : Array Obj} {cur : Array Value} {e : TypeId} (hb : w.heap[g]? = some (.cells cur e (0,0))) :
 (sortWorld (Value.int .i64) w g 0 m d os).heap[g]? = some (.cells (putCells (Value.int .i64) 0 d cur) e (0,0)):=by
 have hlt : g < w.heap.size:=(Array.getElem?_eq_some_iff.1 hb).1
 show ((putRow _ (ahead w m) g 0 d).heap++os)[g]? = _
 rw [Array.getElem?_append_left (by rw [Go.Sort.size_putRow]; exact hlt)]
 exact putRow_block d hb

theorem CtrM.inPlace {P : Program} {f : FuncId} {rest : List AV} {e : TypeId} {xs ys : List Int} (hent : Enters P f) (hl : ys.length=xs.length) (hx : xs.length<=4294967296)
 (h : ∀ (S : Nat->Prop) (β : Nat->Value) (w : World) (rv : List Value),rv.length=rest.length->(∀ i,i < rest.length->Rel β S w (rest.getD i .undef) (rv.getD i Go.undef)) ->
  (xs=[]->∀ a cap,Calls P f (.slice a 0 cap :: rv).toArray w fun en w' => en=.returned (.tuple #[])∧w'=w) ∧
  (∀ g cap,Holds (Value.int .i64) w g 0 xs.toArray->g < w.heap.size->Calls P f (.slice (some ⟨g,0,none⟩) xs.length cap :: rv).toArray w fun en w' => en=.returned (.tuple #[])∧∃ m os,w'=sortWorld (Value.int .i64) w g 0 m ys.toArray os)) :
 CtrM P f (.sl 0 :: rest) [(0,.arr e 1 (xs.map (.int .i64)))] [0] false (.tup []) [(0,.arr e 1 (ys.map (.int .i64)))]:=by
 refine ⟨hent,fun S β φ w vs hvl hvr hO hD => ?_⟩
 cases vs with
 | nil => simp at hvl
 | cons v rv =>
   obtain ⟨h1,h2⟩:=h (free S φ [(0,.arr e 1 (xs.map (.int .i64)))]) β w rv (by simpa using hvl) fun i hi => by simpa using hvr (i + 1) (by simpa using hi)
   have hv : v=β 0:=by
    have:=hvr 0 (by simp)
    simp only [List.getD_cons_zero] at this
    cases this; rfl
   have hOk:=hO 0 (.arr e 1 (xs.map (.int .i64))) (by simp [lk])
   have hFo : φ 0=ownS (β 0):=by
    generalize β 0=v0 at *
    generalize φ 0=F0 at *
    cases hOk with | arr hF => exact hF
   have one : ∀ {j : Nat} {o : AO} {l : List Int},lk j [(0,AO.arr e 1 (l.map (D.int .i64)))]=some o->j=0∧o=.arr e 1 (l.map (.int .i64)):=fun hj => by
    simp only [lk] at hj
    split at hj
    . rename_i e'; cases hj; exact ⟨e',rfl⟩
    . cases hj
   rcases arr_open hOk with ⟨h3,rfl⟩ | ⟨g,cap,cur,h3,h4,h5,h6,h7,h8⟩
   . obtain rfl : ys=[]:=by simpa using hl
     rw [hv,h3]
     refine (h1 rfl none 0).mono fun en w' ⟨he,hw⟩ => ⟨_,he,?_,?_⟩
     . subst hw; exact ⟨rfl,rfl,rfl,Nat.le_refl _,Nat.le_refl _,fun _ _ _ => rfl,Nat.le_refl _⟩
     . subst hw
       refine ⟨β,φ,fun _ _ => rfl,Rel.tup (xs:=[]) (vs:=[]) rfl (by simp),fun j o hj => ?_,fun j o g hj hg => ?_,fun j j' o o' g hj hj' _ _ => ?_⟩
       . obtain ⟨rfl,rfl⟩:=one (l:=[]) hj
         rw [hFo,h3]; exact arr_nil
       . obtain ⟨rfl,rfl⟩:=one (l:=[]) hj
         rw [hFo,h3] at hg; cases hg
       . rw [(one (l:=[]) hj).1,(one (l:=[]) hj').1]
   . have hlt : g < w.heap.size:=(Array.getElem?_eq_some_iff.1 h4).1
     have hM : blocksOf φ [(0,AO.arr e 1 (xs.map (D.int .i64)))] g:=⟨0,.arr e 1 (xs.map (.int .i64)),by simp [lk],by rw [hFo,h3]; rfl⟩
     rw [hv,h3]
     refine (h2 g cap (holds_of h4 h8) hlt).mono fun en w' ⟨he,m,os,hw⟩ => ⟨_,he,?_,?_⟩
     . subst hw; exact sortWorld_fr hM
     . subst hw
       refine ⟨β,φ,fun _ _ => rfl,Rel.tup (xs:=[]) (vs:=[]) rfl (by simp),fun j o hj => ?_,fun j o g' hj hg => ?_,fun j j' o o' g hj hj' _ _ => ?_⟩
       . obtain ⟨rfl,rfl⟩:=one (l:=ys) hj
         rw [hFo,h3,← hl]
         refine arr_close (sortWorld_block h4) (by omega) h6 (by simp [putCells,h7]) ?_
         have:=putCells_take ys.toArray cur ys.length (by simp) (by simp; omega)
         simpa using this
       . obtain ⟨rfl,rfl⟩:=one (l:=ys) hj
         rw [hFo,h3] at hg
         cases hg
         exact .inr hM
       . rw [(one (l:=ys) hj).1,(one (l:=ys) hj').1]

theorem CtrM.cutPlace {P : Program} {f : FuncId} {rest : List AV} {e : TypeId} {xs ys : List Int} (hent : Enters P f) (hl : ys.length<=xs.length) (hx : xs.length<=4294967296)
 (h : ∀ (S : Nat->Prop) (β : Nat->Value) (w : World) (rv : List Value),rv.length=rest.length->(∀ i,i < rest.length->Rel β S w (rest.getD i .undef) (rv.getD i Go.undef))->(∀ g,S g->(β 0).ownBlock ≠ some g) ->
  (xs=[]->Calls P f (.slice none 0 0 :: rv).toArray w fun en w' => en=.returned (.slice none 0 0)∧w'=w) ∧
  (∀ g cap,β 0=.slice (some ⟨g,0,none⟩) xs.length cap->Holds (Value.int .i64) w g 0 xs.toArray->g < w.heap.size->xs.length<=cap->Calls P f (.slice (some ⟨g,0,none⟩) xs.length cap :: rv).toArray w fun en w' => en=.returned (.slice (some ⟨g,0,none⟩) ys.length cap) ∧
   ∃ (m : Nat) (zs : List Int) (os : Array Obj),zs.length<=xs.length∧zs.take ys.length=ys∧ys.length<=zs.length∧w'=sortWorld (Value.int .i64) w g 0 m zs.toArray os)) :
 CtrM P f (.sl 0 :: rest) [(0,.arr e 1 (xs.map (.int .i64)))] [] false (.sl 0) [(0,.arr e 1 (ys.map (.int .i64)))]:=by
 refine ⟨hent,fun S β φ w vs hvl hvr hO hD => ?_⟩
 cases vs with
 | nil => simp at hvl
 | cons v rv =>
   have one : ∀ {j : Nat} {o : AO} {l : List Int},lk j [(0,AO.arr e 1 (l.map (D.int .i64)))]=some o->j=0∧o=.arr e 1 (l.map (.int .i64)):=fun hj => by
    simp only [lk] at hj
    split at hj
    . rename_i e'; cases hj; exact ⟨e',rfl⟩
    . cases hj
   have hOk:=hO 0 (.arr e 1 (xs.map (.int .i64))) (by simp [lk])
   have hFo : φ 0=ownS (β 0):=by
    generalize β 0=v0 at *
    generalize φ 0=F0 at *
    cases hOk with | arr hF => exact hF
   obtain ⟨h1,h2⟩:=h (free S φ [(0,.arr e 1 (xs.map (.int .i64)))]) β w rv (by simpa using hvl) (fun i hi => by simpa using hvr (i + 1) (by simpa using hi)) fun g hg hb => hg.2 0 (.arr e 1 (xs.map (.int .i64))) (by simp [lk]) rfl (by rw [hFo]; exact hb)
   have hv : v=β 0:=by
    have:=hvr 0 (by simp)
    simp only [List.getD_cons_zero] at this
    cases this; rfl
   rcases arr_open hOk with ⟨h3,rfl⟩ | ⟨g,cap,cur,h3,h4,h5,h6,h7,h8⟩
   . obtain rfl : ys=[]:=by simpa using hl
     rw [hv,h3]
     refine (h1 rfl).mono fun en w' ⟨he,hw⟩ => ⟨_,he,?_,?_⟩
     . subst hw; exact ⟨rfl,rfl,rfl,Nat.le_refl _,Nat.le_refl _,fun _ _ _ => rfl,Nat.le_refl _⟩
     . subst hw
       refine ⟨β,φ,by simp,by rw [← h3]; exact .sl 0,fun j o hj => ?_,fun j o g hj hg => ?_,fun j j' o o' g hj hj' _ _ => ?_⟩
       . obtain ⟨rfl,rfl⟩:=one (l:=[]) hj
         rw [hFo,h3]; exact arr_nil
       . obtain ⟨rfl,rfl⟩:=one (l:=[]) hj
         rw [hFo,h3] at hg; cases hg
       . rw [(one (l:=[]) hj).1,(one (l:=[]) hj').1]
   . have hlt : g < w.heap.size:=(Array.getElem?_eq_some_iff.1 h4).1
     have hM : blocksOf φ [(0,AO.arr e 1 (xs.map (D.int .i64)))] g:=⟨0,.arr e 1 (xs.map (.int .i64)),by simp [lk],by rw [hFo,h3]; rfl⟩
     rw [hv,h3]
     refine (h2 g cap h3 (holds_of h4 h8) hlt h5).mono fun en w' ⟨he,m,zs,os,hz1,hz2,hz3,hw⟩ => ⟨_,he,?_,?_⟩
     . subst hw; exact sortWorld_fr hM
     . subst hw
       refine ⟨fun _ => .slice (some ⟨g,0,none⟩) ys.length cap,fun _ => ownS (.slice (some ⟨g,0,none⟩) ys.length cap),by simp,?_,fun j o hj => ?_,fun j o g' hj hg => ?_,fun j j' o o' g hj hj' _ _ => ?_⟩
       . exact Rel.sl (β:=fun _ => Value.slice (some ⟨g,0,none⟩) ys.length cap) 0
       . obtain ⟨rfl,rfl⟩:=one (l:=ys) hj
         refine arr_close (sortWorld_block h4) (by omega) h6 (by simp [putCells,h7]) ?_
         have:=putCells_take zs.toArray cur ys.length (by simpa using hz3) (by simp; omega)
         rw [this]; simp [hz2]
       . obtain ⟨rfl,rfl⟩:=one (l:=ys) hj
         cases hg
         exact .inr hM
       . rw [(one (l:=ys) hj).1,(one (l:=ys) hj').1]

end Abs

namespace Abs.Y
open Go Go.Proofs Abs Go.Sort Go.Shelf Go.Lib Go.RowKit
set_option maxRecDepth 100000

def mI (a : Int) : Int:=max a (wrap64 (-a))
theorem cmpLit_lt (a b : Int) : ltOf cmpLit a b=decide (mI a < mI b∨(mI a=mI b∧b < a)):=by
 unfold ltOf cmpLit Lib.compareInt
 show decide ((if (if mI a < mI b then (-1 : Int) else if mI b < mI a then 1 else 0) ≠ 0 then (if mI a < mI b then (-1 : Int) else if mI b < mI a then 1 else 0) else if b < a then (-1 : Int) else if a < b then 1 else 0) < 0)=_
 generalize mI a=x
 generalize mI b=y
 by_cases h1 : x < y
 . simp [h1]
 . by_cases h2 : y < x
   . simp [h1,h2]; omega
   . have : x=y:=by omega
     subst this
     by_cases h3 : b < a
     . simp [h3]
     . by_cases h4 : a < b<;>simp [h3,h4]
theorem cmpLit_swo : SWO (ltOf cmpLit) where
 irrefl x:=by rw [cmpLit_lt]; simp
 trans x y z h1 h2:=by rw [cmpLit_lt] at *; simp at *; omega
 ntrans x y z h1 h2:=by rw [cmpLit_lt] at *; simp at *; omega
theorem cmpLit_total (x y : Int) (h1 : ltOf cmpLit x y=false) (h2 : ltOf cmpLit y x=false) : x=y:=by
 rw [cmpLit_lt] at *; simp at *; omega
def sortL (xs : List Int) : List Int:=xs.mergeSort fun x y => !(ltOf cmpLit y x)
theorem sortL_length (xs : List Int) : (sortL xs).length=xs.length:=by simp [sortL]
theorem cmp_lays {blk off size : Nat} {w : World} : CmpLays1 Tryz.prog 139 #[] (Value.int .i64) cmpLit blk off size w:=fun m os dk _ x y =>
 (Tryz.cmpLit_w x y _).mono fun _ _ ⟨he,q,os',hw⟩ => ⟨he,q,os',hw⟩
theorem sort_ok (xs : List Int) (hx : xs.length<=4294967296) : CtrM Tryz.prog 138 [.sl 0,.fn (.func 139) []] [(0,.arr 3 1 (xs.map (.int .i64)))] [0] false (.tup []) [(0,.arr 3 1 ((sortL xs).map (.int .i64)))]:=by
 refine CtrM.inPlace ⟨_,Tryz.func138,by kernel_rfl,by kernel_rfl⟩ (sortL_length xs) hx fun S β w rv hl hr => ?_
 obtain ⟨v,rfl⟩ : ∃ v,rv=[v]:=by
  match rv,hl with
  | [a],_ => exact ⟨a,rfl⟩
 have hv : v=.func (.func 139) #[] #[]:=by
  have:=hr 0 (by simp)
  simp only [List.getD_cons_zero] at this
  cases this with
  | fn h1 h2 => obtain rfl:=List.eq_nil_of_length_eq_zero h1; rfl
 subst hv
 refine ⟨fun _ a cap => ?_,fun g cap hH hg => ?_⟩
 . exact AnyF.slices_SortFunc_none { Tryz.layS with } a cap _ w
 . have eg : ∀ args w,(callFunc 139 args).run Tryz.prog w=.ok (.enter 139 args) w:=enters_of Tryz.func139 (by kernel_rfl) rfl
   have h:=Any.slices_SortFunc_total Tryz.layS (Value.int .i64) (fun _ => rfl) cmpLit cmpLit_swo 139 #[] g 0 cap xs.toArray w eg cmp_lays hH hg (by simp; omega) cmpLit_total
   simp only [List.size_toArray] at h
   refine h.mono fun en w' ⟨he,n,os,hw⟩ => ⟨he,n,os,?_⟩
   rw [hw]; rfl
def compL (xs : List Int) : List Int:=Lib.compact xs
theorem compact_ok (xs : List Int) (hx : xs.length<=4294967296) : CtrM Tryz.prog 140 [.sl 0] [(0,.arr 3 1 (xs.map (.int .i64)))] [] false (.sl 0) [(0,.arr 3 1 ((compL xs).map (.int .i64)))]:=by
 have hle : (Lib.compact xs).length<=xs.length:=compact_length_le xs
 refine CtrM.cutPlace ⟨_,Tryz.func140,by kernel_rfl,by kernel_rfl⟩ hle hx fun S β w rv hl hr _ => ?_
 obtain rfl : rv=[]:=by simpa using hl
 refine ⟨fun _ => Any.slices_Compact_int_empty Tryz.layC none 0 w,fun g cap _ hH hg hcap => ?_⟩
 have h:=Any.slices_Compact_int Tryz.layC g 0 cap xs w hH (by omega) hcap
 refine Calls.mono h fun en w' ⟨he,q,hw⟩ => ?_
 refine ⟨he,q,Lib.compact xs++List.replicate (xs.length - (Lib.compact xs).length) 0,#[],?_,?_,?_,?_⟩
 . simp; omega
 . simp [compL]
 . simp [compL]
 . rw [hw]; unfold sortWorld; rw [grow_empty]
theorem mI_absI (n : Int) : absI n=mI n:=by
 rw [absI,mI,show IntKind.i64.wrap (0 - n)=wrap64 (-n) by rw [Int.zero_sub,IntKind.wrap_i64]; unfold wrap64; omega]
 split<;>omega
end Abs.Y

namespace Abs.Y
open Go Go.Proofs Abs
set_option maxRecDepth 100000
end Abs.Y

namespace Abs.Y
open Go Go.Proofs Abs
set_option maxRecDepth 100000
def noPair (s : List Int) : Prop:=∀ j,j < s.length->0 < j->s.getD j 0 ≠ IntKind.i64.wrap (0 - s.getD (j - 1) 0)
instance (s) : Decidable (noPair s):=by unfold noPair; infer_instance
def clauseI (xs : List Int) : Option (List Int):=if noPair (compL (sortL xs)) then some (compL (sortL xs)) else none
theorem compL_length (xs : List Int) : (compL xs).length<=xs.length:=Lib.compact_length_le xs
theorem clause_ok (xs : List Int) (hl : xs.length<=4194304) : Ctr Tryz.prog 120 [.ints xs] false (.tup [.sl 0,.d (.bool (clauseI xs).isSome)]) [(0,.arr 3 1 ((optL (clauseI xs)).map (.int .i64)))]:=by
 refine Ctr.of (n:=30) (rs:=[.tmp 2,.tmp 3]) Tryz.func120 rfl rfl Tryz.ntmps120 rfl rfl (by kernel_rfl) Tryz.checked.mixed ?_
 simp (disch:=first | omega | decide +kernel) only [D.ints,go_sem,Qa,Qb,Qc,Qd,Qe,↓reduceIte,reduceCtorEq,Qf,Qg,Qh]
 (repeat' (first | ((first | (refine gsel_split (fun q' => ?_) (fun q' => ?_)<;>(have h':=q')<;>(try simp only [za1,za2,Ba,Bb,za3,ne_eq,za4,za5,za6,Ia,Ib,Ic,Ie,Da,Bc,Bd,Be,za7,za8] at h')) | (have q':=trivial; first | refine callX_new (clone_ok xs (by omega)) rfl (by decide) ?_ | refine callY_new (clone_ok xs (by omega)) rfl ?_ | refine hE _ _ ret_ne ?_ | refine hE _ _ exit_ne ?_))<;>(try simp (disch:=first | omega | decide +kernel) only [q',go_sem,Qa,Qb,Qc,Qd,Qe,↓reduceIte,reduceCtorEq,Qf,Qg,Qh])<;>clear q') | refine hN _ ?_ ?_ Wk.kk | with_reducible refine And.intro ?_ ?_ | with_reducible omega | exact ok_ints | exact cells_ints | exact no_mem | with_reducible exact plain_ints | (refine le_maxLen ?_; omega) | (refine za9 ⟨?_,?_⟩) | (simp only [go_sem,Qc,Qb,zb1,zb2,forall_eq]; done)))
 refine callX_mut [800000] [800000] [] (sort_ok xs (by omega)) ⟨.inl rfl,.inl rfl,trivial⟩ ⟨rfl,trivial⟩ rfl (by simp [dstB]) ?_
 simp (disch:=first | omega | decide +kernel) only [go_sem,Qa,Qb,Qc,Qd,Qe,↓reduceIte,reduceCtorEq,Qf,Qg,Qh]
 refine callX_mut [800000] [1200000] [800000,1200000] (compact_ok (sortL xs) (by rw [sortL_length]; omega)) ⟨.inl rfl,trivial⟩ ⟨rfl,trivial⟩ rfl (by simp [dstB]) ?_
 simp (disch:=first | omega | decide +kernel) only [go_sem,Qa,Qb,Qc,Qd,Qe,↓reduceIte,reduceCtorEq,Qf,Qg,Qh]
 have hlen : (compL (sortL xs)).length<=4194304:=Nat.le_trans (compL_length _) (by rw [sortL_length]; exact hl)
 generalize hs : compL (sortL xs)=s at *
 refine Ok.loopU [28,27,26,25,24,23,22,21,20,19,18,17,16,15,14,13,12,11,10,9,8,7,6,5,3,2,1,0] (fun (i : Nat) => [(5,.d (.int .i64 (i : Nat)))]) (fun _ => []) (fun n i => n=s.length - i∧1<=i∧∀ j,j < i->0 < j->s.getD j 0 ≠ IntKind.i64.wrap (0 - s.getD (j - 1) 0)) (s.length - 1) 1 ⟨rfl,by omega,by omega⟩ (Wk.kk) ?_
 rintro R n i hN hE ⟨rfl,hi,hI⟩
 simp (disch:=first | omega | decide +kernel) only [go_sem,Qa,Qb,Qc,Qd,Qe,↓reduceIte,reduceCtorEq,Qf,Qg,Qh]
 (repeat' (first | ((first | (refine gsel_split (fun q' => ?_) (fun q' => ?_)<;>(have h':=q')<;>(try simp only [za1,za2,Ba,Bb,za3,ne_eq,za4,za5,za6,Ia,Ib,Ic,Ie,Da,Bc,Bd,Be,za7,za8] at h')) | (have q':=trivial; first | refine hE _ _ ret_ne ?_ | refine hE _ _ exit_ne ?_))<;>(try simp (disch:=first | omega | decide +kernel) only [q',go_sem,Qa,Qb,Qc,Qd,Qe,↓reduceIte,reduceCtorEq,Qf,Qg,Qh])<;>clear q') | refine hN _ ?_ ?_ Wk.kk | with_reducible refine And.intro ?_ ?_ | with_reducible omega | exact ok_ints | exact cells_ints | exact no_mem | with_reducible exact plain_ints | (refine le_maxLen ?_; omega) | (refine za9 ⟨?_,?_⟩) | (simp only [go_sem,Qc,Qb,zb1,zb2,forall_eq]; done)))
 . rename_i h1
   rw [show clauseI xs=none by rw [clauseI,hs,if_neg fun h => h i h1 (by omega) h']]
   exact ret_sld 2 rfl rfl rfl no_mem rfl
 . rename_i h1
   refine hN (s.length - (i + 1)) (i + 1) _ (by omega) ⟨rfl,by omega,all_succ hI fun _ => h'⟩ (Wk.kk)
 . rw [show clauseI xs=some s by rw [clauseI,hs,if_pos (show noPair s from fun j hj h0 => hI j (by omega) h0)]]
   exact ret_sld 1200000 rfl rfl rfl plain_ints rfl
def resolveP (a b : List Int) (v : Int) : Option (List Int) :=
 if (a.any (· == v) && b.any (· == IntKind.i64.wrap (0 - v)))=true then clauseI ((a.filter fun l => !(mI l == v))++(b.filter fun l => !(mI l == v))) else none
end Abs.Y

namespace Abs.Y
open Go Go.Proofs Abs Go.Sort Go.Lib
set_option maxRecDepth 100000

def Good (l : List Int) : Prop:=l.Pairwise (fun x y => x.natAbs < y.natAbs)∧∀ x ∈ l,x ≠ 0∧x.natAbs<=12
theorem good_uniq : ∀ {l1 l2 : List Int},Good l1->Good l2->(∀ x,x ∈ l1↔x ∈ l2)->l1=l2
 | [],[],_,_,_ => rfl
 | [],y :: s,_,_,h => absurd ((h y).2 (by simp)) (by simp)
 | x :: r,[],_,_,h => absurd ((h x).1 (by simp)) (by simp)
 | x :: r, y :: s, g1, g2, h => by
   have p1:=List.pairwise_cons.1 g1.1
   have p2:=List.pairwise_cons.1 g2.1
   have hxy : x=y:=by
    rcases List.mem_cons.1 ((h x).1 (by simp)) with e | hx
    . exact e
    . rcases List.mem_cons.1 ((h y).2 (by simp)) with e | hy
      . exact e.symm
      . have:=p2.1 x hx; have:=p1.1 y hy; omega
   subst hxy
   rw [good_uniq (l1:=r) (l2:=s) ⟨p1.2,fun z hz => g1.2 z (by simp [hz])⟩ ⟨p2.2,fun z hz => g2.2 z (by simp [hz])⟩ fun z => ?_]
   constructor
   . intro hz
     rcases List.mem_cons.1 ((h z).1 (by simp [hz])) with rfl | h'
     . have:=p1.1 z hz; omega
     . exact h'
   . intro hz
     rcases List.mem_cons.1 ((h z).2 (by simp [hz])) with rfl | h'
     . have:=p2.1 z hz; omega
     . exact h'
theorem good_neg {l : List Int} (g : Good l) {x : Int} (h1 : x ∈ l) (h2 : -x ∈ l) : False:=by
 have h0:=g.2 x h1
 have key : ∀ {l : List Int},l.Pairwise (fun x y => x.natAbs < y.natAbs)->x ∈ l->-x ∈ l->False:=by
  intro l
  induction l with
  | nil => intro _ h; cases h
  | cons y r ih =>
    intro p h1 h2
    have p:=List.pairwise_cons.1 p
    rcases List.mem_cons.1 h1 with e1 | h1<;>rcases List.mem_cons.1 h2 with e2 | h2
    . omega
    . have:=p.1 _ h2; omega
    . have:=p.1 _ h1; omega
    . exact ih p.2 h1 h2
 exact key g.1 h1 h2
theorem mI_small {x : Int} (h : x.natAbs<=12) : mI x=x.natAbs:=by rw [← mI_absI,absI_eq (by omega)]
theorem neg_small {x : Int} (h : x.natAbs<=12) : IntKind.i64.wrap (0 - x)=-x:=by rw [wrap_of (by omega)]; omega

theorem comp_inv (d : Array Int) (hs : ∀ i j,i < j->j < d.size->ltOf cmpLit d[j]! d[i]! = false) : ∀ m,m<=d.size ->
 (∀ x,x ∈ compactUpTo d m↔∃ j,j < m∧d[j]! = x)∧(compactUpTo d m).Pairwise fun x y => ltOf cmpLit x y=true:=by
 intro m
 induction m with
 | zero => intro _; simp [compactUpTo]
 | succ m ih =>
   intro hm
   obtain ⟨h1,h2⟩:=ih (by omega)
   rw [compactUpTo_succ]
   cases hk : keeps d m with
   | false =>
     simp only [Bool.false_eq_true,if_false,List.append_nil]
     refine ⟨fun x => ?_,h2⟩
     rw [h1]
     simp only [keeps,decide_eq_false_iff_not,not_or,Da] at hk
     constructor
     . rintro ⟨j,hj,e⟩; exact ⟨j,by omega,e⟩
     . rintro ⟨j,hj,e⟩
       by_cases hjm : j=m
       . subst hjm; exact ⟨j - 1,by omega,by rw [← hk.2,e]⟩
       . exact ⟨j,by omega,e⟩
   | true =>
     simp only [if_true]
     simp only [keeps,decide_eq_true_eq] at hk
     refine ⟨fun x => ?_,List.pairwise_append.2 ⟨h2,by simp,fun x hx y hy => ?_⟩⟩
     . rw [List.mem_append,h1]
       constructor
       . rintro (⟨j,hj,e⟩ | h)
         . exact ⟨j,by omega,e⟩
         . exact ⟨m,by omega,(by simpa using h : x=d[m]!).symm⟩
       . rintro ⟨j,hj,e⟩
         by_cases hjm : j=m
         . subst hjm; exact .inr (by simp [e])
         . exact .inl ⟨j,by omega,e⟩
     . obtain rfl : y=d[m]! := by simpa using hy
       obtain ⟨j,hj,rfl⟩:=(h1 x).1 hx
       have h3:=hs j m hj (by omega)
       cases h4 : ltOf cmpLit d[j]! d[m]! with
       | true => rfl
       | false =>
         have e:=cmpLit_total _ _ h4 h3
         exfalso
         have hm0 : m ≠ 0:=by omega
         have hk:=hk.resolve_left hm0
         by_cases hj1 : j=m - 1
         . subst hj1; exact hk e.symm
         . have h5:=hs j (m - 1) (by omega) (by omega)
           have h6:=hs (m - 1) m (by omega) (by omega)
           rw [← e] at h6 hk
           exact hk (cmpLit_total _ _ h6 h5)
theorem sortL_sorted (xs : List Int) : ∀ i j,i < j->j < (sortL xs).toArray.size->ltOf cmpLit (sortL xs).toArray[j]! (sortL xs).toArray[i]! = false:=by
 have h : (sortL xs).Pairwise fun x y => (!(ltOf cmpLit y x))=true:=by
  refine List.pairwise_mergeSort (fun a b c h1 h2 => ?_) (fun a b => ?_) xs
  . simp only [Ba] at *
    exact cmpLit_swo.ntrans _ _ _ h2 h1
  . rw [cmpLit_lt,cmpLit_lt]; simp; omega
 rw [List.pairwise_iff_getElem] at h
 intro i j hij hj
 have hj' : j < (sortL xs).length:=by simpa using hj
 have:=h i j (by omega) hj' hij
 simpa [getElem!_pos,hj',show i < (sortL xs).length by omega] using this
theorem clauseI_spec {xs : List Int} (hx : ∀ x ∈ xs,x ≠ 0∧x.natAbs<=12) : (∀ c,clauseI xs=some c->Good c∧∀ x,x ∈ c↔x ∈ xs)∧(clauseI xs=none->∃ x ∈ xs,-x ∈ xs):=by
 obtain ⟨h1,h2⟩:=comp_inv (sortL xs).toArray (sortL_sorted xs) (sortL xs).length (by simp)
 have hmem : ∀ x,x ∈ compL (sortL xs)↔x ∈ xs:=fun x => by
  rw [compL,compact,h1]
  have : x ∈ sortL xs↔x ∈ xs:=List.mem_mergeSort
  rw [← this]
  constructor
  . rintro ⟨j,hj,e⟩
    have : (sortL xs).toArray[j]! = (sortL xs)[j]:=by simp [hj]
    rw [this] at e; rw [← e]; exact List.getElem_mem hj
  . intro h
    obtain ⟨j,hj,e⟩:=List.getElem_of_mem h
    exact ⟨j,hj,by simp [hj,e]⟩
 have hp : (compL (sortL xs)).Pairwise fun x y => ltOf cmpLit x y=true:=h2
 unfold clauseI
 generalize compL (sortL xs)=s at *
 have hs : ∀ x ∈ s,x ≠ 0∧x.natAbs<=12:=fun x h => hx x ((hmem x).1 h)
 have hgd : ∀ {j},j < s.length->s.getD j 0 ∈ s:=fun hj => getD_mem hj
 have hlt : ∀ i j,i < j->j < s.length->(s.getD i 0).natAbs < (s.getD j 0).natAbs∨((s.getD i 0).natAbs=(s.getD j 0).natAbs∧s.getD j 0 < s.getD i 0):=fun i j hij hj => by
  have:=List.pairwise_iff_getElem.1 hp i j (by omega) hj hij
  rw [cmpLit_lt,mI_small (hs _ (List.getElem_mem _)).2,mI_small (hs _ (List.getElem_mem _)).2] at this
  have e1 : s.getD i 0=s[i]:=by simp [List.getD_eq_getElem?_getD,show i < s.length by omega]
  have e2 : s.getD j 0=s[j]:=by simp [List.getD_eq_getElem?_getD,hj]
  rw [e1,e2]
  simp at this; omega
 by_cases hn : noPair s
 . rw [if_pos hn]
   refine ⟨fun c hc => ?_,fun h => by cases h⟩
   cases hc
   refine ⟨⟨List.pairwise_iff_getElem.2 fun i j hi hj hij => ?_,hs⟩,hmem⟩
   have e1 : s.getD i 0=s[i]:=by simp [List.getD_eq_getElem?_getD,hi]
   have e2 : s.getD j 0=s[j]:=by simp [List.getD_eq_getElem?_getD,hj]
   rw [← e1,← e2]
   rcases hlt i j hij hj with h | ⟨h,h'⟩
   . exact h
   . exfalso
     have h3:=hn (i + 1) (by omega) (by omega)
     rw [Nat.add_sub_cancel,neg_small (hs _ (hgd hi)).2] at h3
     have h4:=hlt i (i + 1) (by omega) (by omega)
     by_cases hj1 : j=i + 1
     . subst hj1; omega
     . have h5:=hlt (i + 1) j (by omega) hj
       omega
 . rw [if_neg hn]
   refine ⟨fun c hc => (by cases hc),fun _ => ?_⟩
   have : ∃ j,j < s.length∧0 < j∧s.getD j 0=IntKind.i64.wrap (0 - s.getD (j - 1) 0):=by
    refine Classical.byContradiction fun hno => hn fun j hj h0 e => hno ⟨j,hj,h0,e⟩
   obtain ⟨j,hj,h0,e⟩:=this
   have h1 : s.getD (j - 1) 0 ∈ s:=hgd (by omega)
   rw [neg_small (hs _ h1).2] at e
   exact ⟨_,(hmem _).1 h1,by rw [← e]; exact (hmem _).1 (hgd hj)⟩

end Abs.Y
