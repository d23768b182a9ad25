/- What functions of this program compute, over plain data. No condition. -/
import Derived.Test.YtdohpocdlkcaoaaAbsRow
import Derived.Shelf.SlSortCmp.NoneTotal
import Derived.Shelf.SlicesE.DeleteFunc
import Derived.Shelf.Slices.CompactI
import Derived.Shelf.Spec.SlicesGrow
import Derived.Test.YtdohpocdlkcaoaaW1
import Derived.Lib.RowBridge
set_option linter.all false
open Nat renaming reduceEqDiff -> Qa, reduceLT -> Qb, reduceAdd -> Qc, reduceMul -> Qd, reduceSub -> Qe, reduceLeDiff -> Qf, reduceSubDiff -> Qg, reduceBEq -> Qh
open Bool renaming not_eq_true' -> Ba, not_eq_false' -> Bb, and_eq_true -> Bc, or_eq_true -> Bd, or_eq_false_iff -> Be
open Int renaming ofNat_lt -> Ia, ofNat_le -> Ib, not_lt -> Ic, not_le -> Ie
open Decidable renaming not_not -> Da
namespace Abs
open Go Go.RowKit Go.Sort Go.Proofs Go.Shelf

theorem flat_ints {k : IntKind} : ∀ xs : List Int,flat (xs.map (D.int k))=xs.map (D.int k)
 | [] => rfl
 | x :: r => by
   have:=flat_ints (k:=k) r
   simp only [flat,List.map_cons,List.flatMap_cons] at this ⊢
   rw [this]; rfl

theorem arr_open {β S w e xs v F} (h : OK β S w (.arr e 1 (xs.map (.int .i64))) v F) : (v=.slice none 0 0∧xs=[]) ∨
 ∃ g cap cur,v=.slice (some ⟨g,0,none⟩) xs.length cap∧w.heap[g]? = some (.cells cur e (0,0))∧xs.length<=cap∧cap<=maxLen∧cur.size=cap∧cur.toList.take xs.length=xs.map (Value.int .i64):=by
 cases h with
 | arr hF vs hk0 hk hw hr =>
   have hvs : vs=xs.map (Value.int .i64):=by
    have hl : vs.length=xs.length:=by have:=hw.1; simpa using this
    apply List.ext_getElem (by simpa using hl)
    intro i h1 h2
    have h3:=hr i (by rw [flat_ints]; simpa using h2)
    rw [flat_ints] at h3
    have hi : i < xs.length:=by simpa using h2
    simp only [List.getD_eq_getElem?_getD,List.getElem?_map,List.getElem?_eq_getElem hi,List.getElem?_eq_getElem h1,Option.map_some,Option.getD_some] at h3
    cases h3'' : vs[i] with
    | int k n => rw [h3''] at h3; cases h3; simp
    | _ => rw [h3''] at h3; cases h3
   rcases hw.2 with ⟨h1,h2⟩ | ⟨g,cap,cur,h1,_,h3,h4,h5,h6,h7⟩
   . exact .inl ⟨h1,by simpa using h2⟩
   . refine .inr ⟨g,cap,cur,by simpa using h1,h3,by simpa using h4,h5,by simpa using h6,?_⟩
     rw [← hvs]; simpa using h7

theorem arr_close {β' S' w' e g cap} {cur' : Array Value} {ys : List Int} (hb : w'.heap[g]? = some (.cells cur' e (0,0))) (hcap : ys.length<=cap) (hm : cap<=maxLen) (hsz : cur'.size=cap) (ht : cur'.toList.take ys.length=ys.map (Value.int .i64)) :
 OK β' S' w' (.arr e 1 (ys.map (.int .i64))) (.slice (some ⟨g,0,none⟩) ys.length cap) (ownS (.slice (some ⟨g,0,none⟩) ys.length cap)):=by
 refine .arr rfl (ys.map (Value.int .i64)) (by omega) (fun x hx => ?_) ⟨by simp,.inr ⟨g,cap,cur',by simp,Nat.zero_le _,hb,by simpa using hcap,hm,by simpa using hsz,by simpa using ht⟩⟩ fun i hi => ?_
 . obtain ⟨y,_,rfl⟩:=List.mem_map.1 hx; rfl
 . rw [flat_ints] at hi ⊢
   have hi' : i < ys.length:=by simpa using hi
   simp only [List.getD_eq_getElem?_getD,List.getElem?_map,List.getElem?_eq_getElem hi',Option.map_some,Option.getD_some]
   exact .int _ _
theorem arr_nil {β' S' w' e} : OK β' S' w' (.arr e 1 ([].map (D.int .i64))) (.slice none 0 0) (ownS (.slice none 0 0)) :=
 .arr rfl [] (by omega) (by simp) ⟨by simp,.inl ⟨rfl,by simp⟩⟩ (by simp [flat])

theorem holds_of {w : World} {g : Nat} {cur : Array Value} {e : TypeId} {xs : List Int} (hb : w.heap[g]? = some (.cells cur e (0,0))) (ht : cur.toList.take xs.length=xs.map (Value.int .i64)) : Holds (Value.int .i64) w g 0 xs.toArray:=by
 intro j hj
 have hj' : j < xs.length:=by simpa using hj
 refine ⟨?_,by simp [World.frozen?, hb]⟩
 have h1:=congrArg (fun l : List Value => l[j]?) ht
 simp only [List.getElem?_take,if_pos hj',List.getElem?_map,List.getElem?_eq_getElem hj',Option.map_some] at h1
 have h2 : cur[j]? = some (Value.int .i64 xs[j]):=by rw [← h1]; simp
 simp [World.cell?, hb,h2,hj']

theorem putRow_block {w : World} {g : Nat} {cur : Array Value} {e : TypeId} (d : Array Int) (hb : w.heap[g]? = some (.cells cur e (0,0))) :
 (putRow (Value.int .i64) w g 0 d).heap[g]? = some (.cells (putCells (Value.int .i64) 0 d cur) e (0,0)):=by
 simp [putRow,mapBlock,Array.getElem?_modify,hb,onCells]
theorem putRow_other {w : World} {g k : Nat} (d : Array Int) (h : k ≠ g) : (putRow (Value.int .i64) w g 0 d).heap[k]? = w.heap[k]? := by
 simp only [putRow,mapBlock,Array.getElem?_modify]
 rw [if_neg (Ne.symm h)]
theorem putCells_take (d : Array Int) (cur : Array Value) (k : Nat) (hk : k<=d.size) (hd : d.size<=cur.size) : (putCells (Value.int .i64) 0 d cur).toList.take k=(d.toList.take k).map (Value.int .i64):=by
 apply List.ext_getElem?
 intro i
 simp only [List.getElem?_take,List.getElem?_map,putCells]
 split
 . rename_i hi
   have h1 : i < cur.size:=by omega
   have h2 : i < d.size:=by omega
   simp [h1,h2]
 . rfl

theorem sortWorld_fr {w : World} {g m : Nat} {d : Array Int} {os : Array Obj} {M : Nat->Prop} (hM : M g) : Fr w.heap.size M w (sortWorld (Value.int .i64) w g 0 m d os):=by
 refine ⟨rfl,rfl,rfl,?_,?_,fun k hk hkM => ?_,Nat.le_add_right _ _⟩
 . show w.heap.size<=((putRow _ (ahead w m) g 0 d).heap++os).size
   rw [Array.size_append,Go.Sort.size_putRow]; simp
 . show w.heap.size<=((putRow _ (ahead w m) g 0 d).heap++os).size
   rw [Array.size_append,Go.Sort.size_putRow]; simp
 . have hne : k ≠ g:=fun e => hkM (e ▸ hM)
   show ((putRow _ (ahead w m) g 0 d).heap++os)[k]? = _
   rw [Array.getElem?_append_left (by rw [Go.Sort.size_putRow]; exact hk),putRow_other _ hne]; rfl
theorem sortWorld_block {w : World} {g m : Nat} {d : Array Int} {os : Array Obj} {cur : Array Value} {e : TypeId} (hb : w.heap[g]? = some (.cells cur e (0,0))) :
 (sortWorld (Value.int .i64) w g 0 m d os).heap[g]? = some (.cells (putCells (Value.int .i64) 0 d cur) e (0,0)):=by
 have hlt : g < w.heap.size:=(Array.getElem?_eq_some_iff.1 hb).1
 show ((putRow _ (ahead w m) g 0 d).heap++os)[g]? = _
 rw [Array.getElem?_append_left (by rw [Go.Sort.size_putRow]; exact hlt)]
 exact putRow_block d hb

theorem CtrM.inPlace {P : Program} {f : FuncId} {rest : List AV} {e : TypeId} {xs ys : List Int} (hent : Enters P f) (hl : ys.length=xs.length) (hx : xs.length<=4294967296)
 (h : ∀ (S : Nat->Prop) (β : Nat->Value) (w : World) (rv : List Value),rv.length=rest.length->(∀ i,i < rest.length->Rel β S w (rest.getD i .undef) (rv.getD i Go.undef)) ->
  (xs=[]->∀ a cap,Calls P f (.slice a 0 cap :: rv).toArray w fun en w' => en=.returned (.tuple #[])∧w'=w) ∧
  (∀ g cap,Holds (Value.int .i64) w g 0 xs.toArray->g < w.heap.size->Calls P f (.slice (some ⟨g,0,none⟩) xs.length cap :: rv).toArray w fun en w' => en=.returned (.tuple #[])∧∃ m os,w'=sortWorld (Value.int .i64) w g 0 m ys.toArray os)) :
 CtrM P f (.sl 0 :: rest) [(0,.arr e 1 (xs.map (.int .i64)))] [0] false (.tup []) [(0,.arr e 1 (ys.map (.int .i64)))]:=by
 refine ⟨hent,fun S β φ w vs hvl hvr hO hD => ?_⟩
 cases vs with
 | nil => simp at hvl
 | cons v rv =>
   obtain ⟨h1,h2⟩:=h (free S φ [(0,.arr e 1 (xs.map (.int .i64)))]) β w rv (by simpa using hvl) fun i hi => by simpa using hvr (i + 1) (by simpa using hi)
   have hv : v=β 0:=by
    have:=hvr 0 (by simp)
    simp only [List.getD_cons_zero] at this
    cases this; rfl
   have hOk:=hO 0 (.arr e 1 (xs.map (.int .i64))) (by simp [lk])
   have hFo : φ 0=ownS (β 0):=by
    generalize β 0=v0 at *
    generalize φ 0=F0 at *
    cases hOk with | arr hF => exact hF
   have one : ∀ {j : Nat} {o : AO} {l : List Int},lk j [(0,AO.arr e 1 (l.map (D.int .i64)))]=some o->j=0∧o=.arr e 1 (l.map (.int .i64)):=fun hj => by
    simp only [lk] at hj
    split at hj
    . rename_i e'; cases hj; exact ⟨e',rfl⟩
    . cases hj
   rcases arr_open hOk with ⟨h3,rfl⟩ | ⟨g,cap,cur,h3,h4,h5,h6,h7,h8⟩
   . obtain rfl : ys=[]:=by simpa using hl
     rw [hv,h3]
     refine (h1 rfl none 0).mono fun en w' ⟨he,hw⟩ => ⟨_,he,?_,?_⟩
     . subst hw; exact ⟨rfl,rfl,rfl,Nat.le_refl _,Nat.le_refl _,fun _ _ _ => rfl,Nat.le_refl _⟩
     . subst hw
       refine ⟨β,φ,fun _ _ => rfl,Rel.tup (xs:=[]) (vs:=[]) rfl (by simp),fun j o hj => ?_,fun j o g hj hg => ?_,fun j j' o o' g hj hj' _ _ => ?_⟩
       . obtain ⟨rfl,rfl⟩:=one (l:=[]) hj
         rw [hFo,h3]; exact arr_nil
       . obtain ⟨rfl,rfl⟩:=one (l:=[]) hj
         rw [hFo,h3] at hg; cases hg
       . rw [(one (l:=[]) hj).1,(one (l:=[]) hj').1]
   . have hlt : g < w.heap.size:=(Array.getElem?_eq_some_iff.1 h4).1
     have hM : blocksOf φ [(0,AO.arr e 1 (xs.map (D.int .i64)))] g:=⟨0,.arr e 1 (xs.map (.int .i64)),by simp [lk],by rw [hFo,h3]; rfl⟩
     rw [hv,h3]
     refine (h2 g cap (holds_of h4 h8) hlt).mono fun en w' ⟨he,m,os,hw⟩ => ⟨_,he,?_,?_⟩
     . subst hw; exact sortWorld_fr hM
     . subst hw
       refine ⟨β,φ,fun _ _ => rfl,Rel.tup (xs:=[]) (vs:=[]) rfl (by simp),fun j o hj => ?_,fun j o g' hj hg => ?_,fun j j' o o' g hj hj' _ _ => ?_⟩
       . obtain ⟨rfl,rfl⟩:=one (l:=ys) hj
         rw [hFo,h3,← hl]
         refine arr_close (sortWorld_block h4) (by omega) h6 (by simp [putCells,h7]) ?_
         have:=putCells_take ys.toArray cur ys.length (by simp) (by simp; omega)
         simpa using this
       . obtain ⟨rfl,rfl⟩:=one (l:=ys) hj
         rw [hFo,h3] at hg
         cases hg
         exact .inr hM
       . rw [(one (l:=ys) hj).1,(one (l:=ys) hj').1]

theorem CtrM.cutPlace {P : Program} {f : FuncId} {rest : List AV} {e : TypeId} {xs ys : List Int} (hent : Enters P f) (hl : ys.length<=xs.length) (hx : xs.length<=4294967296)
 (h : ∀ (S : Nat->Prop) (β : Nat->Value) (w : World) (rv : List Value),rv.length=rest.length->(∀ i,i < rest.length->Rel β S w (rest.getD i .undef) (rv.getD i Go.undef))->(∀ g,S g->(β 0).ownBlock ≠ some g) ->
  (xs=[]->Calls P f (.slice none 0 0 :: rv).toArray w fun en w' => en=.returned (.slice none 0 0)∧w'=w) ∧
  (∀ g cap,β 0=.slice (some ⟨g,0,none⟩) xs.length cap->Holds (Value.int .i64) w g 0 xs.toArray->g < w.heap.size->xs.length<=cap->Calls P f (.slice (some ⟨g,0,none⟩) xs.length cap :: rv).toArray w fun en w' => en=.returned (.slice (some ⟨g,0,none⟩) ys.length cap) ∧
   ∃ (m : Nat) (zs : List Int) (os : Array Obj),zs.length<=xs.length∧zs.take ys.length=ys∧ys.length<=zs.length∧w'=sortWorld (Value.int .i64) w g 0 m zs.toArray os)) :
 CtrM P f (.sl 0 :: rest) [(0,.arr e 1 (xs.map (.int .i64)))] [] false (.sl 0) [(0,.arr e 1 (ys.map (.int .i64)))]:=by
 refine ⟨hent,fun S β φ w vs hvl hvr hO hD => ?_⟩
 cases vs with
 | nil => simp at hvl
 | cons v rv =>
   have one : ∀ {j : Nat} {o : AO} {l : List Int},lk j [(0,AO.arr e 1 (l.map (D.int .i64)))]=some o->j=0∧o=.arr e 1 (l.map (.int .i64)):=fun hj => by
    simp only [lk] at hj
    split at hj
    . rename_i e'; cases hj; exact ⟨e',rfl⟩
    . cases hj
   have hOk:=hO 0 (.arr e 1 (xs.map (.int .i64))) (by simp [lk])
   have hFo : φ 0=ownS (β 0):=by
    generalize β 0=v0 at *
    generalize φ 0=F0 at *
    cases hOk with | arr hF => exact hF
   obtain ⟨h1,h2⟩:=h (free S φ [(0,.arr e 1 (xs.map (.int .i64)))]) β w rv (by simpa using hvl) (fun i hi => by simpa using hvr (i + 1) (by simpa using hi)) fun g hg hb => hg.2 0 (.arr e 1 (xs.map (.int .i64))) (by simp [lk]) rfl (by rw [hFo]; exact hb)
   have hv : v=β 0:=by
    have:=hvr 0 (by simp)
    simp only [List.getD_cons_zero] at this
    cases this; rfl
   rcases arr_open hOk with ⟨h3,rfl⟩ | ⟨g,cap,cur,h3,h4,h5,h6,h7,h8⟩
   . obtain rfl : ys=[]:=by simpa using hl
     rw [hv,h3]
     refine (h1 rfl).mono fun en w' ⟨he,hw⟩ => ⟨_,he,?_,?_⟩
     . subst hw; exact ⟨rfl,rfl,rfl,Nat.le_refl _,Nat.le_refl _,fun _ _ _ => rfl,Nat.le_refl _⟩
     . subst hw
       refine ⟨β,φ,by simp,by rw [← h3]; exact .sl 0,fun j o hj => ?_,fun j o g hj hg => ?_,fun j j' o o' g hj hj' _ _ => ?_⟩
       . obtain ⟨rfl,rfl⟩:=one (l:=[]) hj
         rw [hFo,h3]; exact arr_nil
       . obtain ⟨rfl,rfl⟩:=one (l:=[]) hj
         rw [hFo,h3] at hg; cases hg
       . rw [(one (l:=[]) hj).1,(one (l:=[]) hj').1]
   . have hlt : g < w.heap.size:=(Array.getElem?_eq_some_iff.1 h4).1
     have hM : blocksOf φ [(0,AO.arr e 1 (xs.map (D.int .i64)))] g:=⟨0,.arr e 1 (xs.map (.int .i64)),by simp [lk],by rw [hFo,h3]; rfl⟩
     rw [hv,h3]
     refine (h2 g cap h3 (holds_of h4 h8) hlt h5).mono fun en w' ⟨he,m,zs,os,hz1,hz2,hz3,hw⟩ => ⟨_,he,?_,?_⟩
     . subst hw; exact sortWorld_fr hM
     . subst hw
       refine ⟨fun _ => .slice (some ⟨g,0,none⟩) ys.length cap,fun _ => ownS (.slice (some ⟨g,0,none⟩) ys.length cap),by simp,?_,fun j o hj => ?_,fun j o g' hj hg => ?_,fun j j' o o' g hj hj' _ _ => ?_⟩
       . exact Rel.sl (β:=fun _ => Value.slice (some ⟨g,0,none⟩) ys.length cap) 0
       . obtain ⟨rfl,rfl⟩:=one (l:=ys) hj
         refine arr_close (sortWorld_block h4) (by omega) h6 (by simp [putCells,h7]) ?_
         have:=putCells_take zs.toArray cur ys.length (by simpa using hz3) (by simp; omega)
         rw [this]; simp [hz2]
       . obtain ⟨rfl,rfl⟩:=one (l:=ys) hj
         cases hg
         exact .inr hM
       . rw [(one (l:=ys) hj).1,(one (l:=ys) hj').1]

theorem CtrM.growNil {P : Program} {ρ : Ren} (L : Lays8.n4 P ρ) (i0 : TypeInfo) (hi0 : P.info? (ρ.t 25)=some i0) (hz0 : i0.zero=some (.int .i64 0)) (hs0 : i0.size=1) (hb : i0.bytes=8) (hent : Enters P (ρ.f 4)) (n : Nat) (hn : n<=4294967296) :
 CtrM P (ρ.f 4) [.nilS,.d (.int .i64 n)] [] [] false (.sl 0) [(0,.arr (ρ.t 25) 1 [])]:=by
 refine ⟨hent,fun S β φ w vs hvl hvr hO hD => ?_⟩
 have one : ∀ {j : Nat} {o : AO},lk j [(0,AO.arr (ρ.t 25) 1 [])]=some o->j=0∧o=.arr (ρ.t 25) 1 ([].map (D.int .i64)):=fun hj => by
  simp only [lk] at hj
  split at hj
  . rename_i e'; cases hj; exact ⟨e',rfl⟩
  . cases hj
 obtain ⟨v0,v1,rfl⟩ : ∃ v0 v1,vs=[v0,v1]:=by
  match vs,hvl with
  | [a,b],_ => exact ⟨a,b,rfl⟩
 have h0:=hvr 0 (by simp)
 have h1:=hvr 1 (by simp)
 simp only [List.getD_cons_zero,List.getD_cons_succ] at h0 h1
 cases h0
 cases h1 with
 | d h1 =>
   cases h1
   by_cases hn0 : n=0
   . subst hn0
     refine (Any8.slices_Grow_room L none 0 0 0 w (Nat.le_refl _) (by omega) (by omega) (by omega)).mono fun en w' ⟨he,hw⟩ => ⟨_,he,?_,?_⟩
     . subst hw; exact ⟨rfl,rfl,rfl,Nat.le_refl _,Nat.le_refl _,fun _ _ _ => rfl,Nat.le_refl _⟩
     . subst hw
       refine ⟨fun _ => .slice none 0 0,fun _ => ownS (.slice none 0 0),by simp,Rel.sl (β:=fun _ => Value.slice none 0 0) 0,fun j o hj => ?_,fun j o g hj hg => ?_,fun j j' o o' g hj hj' _ _ => ?_⟩
       . obtain ⟨rfl,rfl⟩:=one hj; exact arr_nil
       . cases hg
       . rw [(one hj).1,(one hj').1]
   . refine (Any8.slices_Grow_grow L i0 (.int .i64 0) hi0 hz0 (by omega) none 0 0 n [] w (Nat.le_refl _) (by omega) (by rw [hb]; omega) (by omega) (by simp) (fun _ => rfl) (by simp)).mono fun en w' ⟨he,hw⟩ => ⟨_,he,?_,?_⟩
     . subst hw
       refine ⟨rfl,rfl,rfl,?_,?_,fun k hk _ => ?_,?_⟩
       . show w.heap.size<=(w.heap.push _).size; simp
       . show w.heap.size<=(w.heap.push _).size; simp
       . show (w.heap.push _)[k]? = _
         rw [Array.getElem?_push,if_neg (by omega)]
       . first | exact Nat.le_refl _ | exact Nat.le_succ _
     . subst hw
       generalize hG : grownCap w (0 + n) 0 (ρ.t 25)=G
       have hG1 : 0 + n<=G:=by rw [← hG]; exact grownCap_ge _ _ _ _
       have hG2 : G<=maxLen:=by rw [← hG]; exact grownCap_le_maxLen _ _ _ _ (by unfold maxLen; omega)
       refine ⟨fun _ => .slice (some ⟨w.heap.size,0,none⟩) 0 G,fun _ => ownS (.slice (some ⟨w.heap.size,0,none⟩) 0 G),by simp,Rel.sl (β:=fun _ => Value.slice (some ⟨w.heap.size,0,none⟩) 0 G) 0,fun j o hj => ?_,fun j o g hj hg => ?_,fun j j' o o' g hj hj' _ _ => ?_⟩
       . obtain ⟨rfl,rfl⟩:=one hj
         refine arr_close (ys:=[]) (g:=w.heap.size) (cur':=#[]++Builtin.zeroCells (Value.int IntKind.i64 0).cells (0 + n - 0)++Builtin.zeroCells (Value.int IntKind.i64 0).cells (G - (0 + n))) ?_ (Nat.zero_le _) hG2 ?_ (by simp)
         . show (w.heap.push _)[w.heap.size]? = _
           rw [Array.getElem?_push_size]
         . have hc : (Value.int IntKind.i64 0).cells.size=1:=rfl
           simp only [Array.size_append,size_zeroCells,hc]
           simp; omega
       . obtain ⟨rfl,rfl⟩:=one hj
         cases hg; exact .inl (Nat.le_refl _)
       . rw [(one hj).1,(one hj').1]
end Abs

namespace Abs.Y
open Go Go.Proofs Abs Go.Sort Go.Shelf Go.Lib Go.RowKit
set_option maxRecDepth 100000

def mI (a : Int) : Int:=max a (wrap64 (-a))
theorem cmpLit_lt (a b : Int) : ltOf cmpLit a b=decide (mI a < mI b∨(mI a=mI b∧b < a)):=by
 unfold ltOf cmpLit Lib.compareInt
 show decide ((if (if mI a < mI b then (-1 : Int) else if mI b < mI a then 1 else 0) ≠ 0 then (if mI a < mI b then (-1 : Int) else if mI b < mI a then 1 else 0) else if b < a then (-1 : Int) else if a < b then 1 else 0) < 0)=_
 generalize mI a=x
 generalize mI b=y
 by_cases h1 : x < y
 . simp [h1]
 . by_cases h2 : y < x
   . simp [h1,h2]; omega
   . have : x=y:=by omega
     subst this
     by_cases h3 : b < a
     . simp [h3]
     . by_cases h4 : a < b<;>simp [h3,h4]
theorem cmpLit_swo : SWO (ltOf cmpLit) where
 irrefl x:=by rw [cmpLit_lt]; simp
 trans x y z h1 h2:=by rw [cmpLit_lt] at *; simp at *; omega
 ntrans x y z h1 h2:=by rw [cmpLit_lt] at *; simp at *; omega
theorem cmpLit_total (x y : Int) (h1 : ltOf cmpLit x y=false) (h2 : ltOf cmpLit y x=false) : x=y:=by
 rw [cmpLit_lt] at *; simp at *; omega
def sortL (xs : List Int) : List Int:=xs.mergeSort fun x y => !(ltOf cmpLit y x)
theorem sortL_length (xs : List Int) : (sortL xs).length=xs.length:=by simp [sortL]
theorem cmp_lays {blk off size : Nat} {w : World} : CmpLays1 Try.prog 188 #[] (Value.int .i64) cmpLit blk off size w:=fun m os dk _ x y =>
 (Try.cmpLit_w x y _).mono fun _ _ ⟨he,q,os',hw⟩ => ⟨he,q,os',hw⟩
theorem sort_ok (xs : List Int) (hx : xs.length<=4294967296) : CtrM Try.prog 193 [.sl 0,.fn (.func 188) []] [(0,.arr 3 1 (xs.map (.int .i64)))] [0] false (.tup []) [(0,.arr 3 1 ((sortL xs).map (.int .i64)))]:=by
 refine CtrM.inPlace ⟨_,Try.func193,by kernel_rfl,by kernel_rfl⟩ (sortL_length xs) hx fun S β w rv hl hr => ?_
 obtain ⟨v,rfl⟩ : ∃ v,rv=[v]:=by
  match rv,hl with
  | [a],_ => exact ⟨a,rfl⟩
 have hv : v=.func (.func 188) #[] #[]:=by
  have:=hr 0 (by simp)
  simp only [List.getD_cons_zero] at this
  cases this with
  | fn h1 h2 => obtain rfl:=List.eq_nil_of_length_eq_zero h1; rfl
 subst hv
 refine ⟨fun _ a cap => ?_,fun g cap hH hg => ?_⟩
 . exact AnyF.slices_SortFunc_none { Try.layS with } a cap _ w
 . have eg : ∀ args w,(callFunc 188 args).run Try.prog w=.ok (.enter 188 args) w:=enters_of Try.func188 (by kernel_rfl) rfl
   have h:=Any.slices_SortFunc_total Try.layS (Value.int .i64) (fun _ => rfl) cmpLit cmpLit_swo 188 #[] g 0 cap xs.toArray w eg cmp_lays hH hg (by simp; omega) cmpLit_total
   simp only [List.size_toArray] at h
   refine h.mono fun en w' ⟨he,n,os,hw⟩ => ⟨he,n,os,?_⟩
   rw [hw]; rfl
def compL (xs : List Int) : List Int:=Lib.compact xs
theorem compact_ok (xs : List Int) (hx : xs.length<=4294967296) : CtrM Try.prog 194 [.sl 0] [(0,.arr 3 1 (xs.map (.int .i64)))] [] false (.sl 0) [(0,.arr 3 1 ((compL xs).map (.int .i64)))]:=by
 have hle : (Lib.compact xs).length<=xs.length:=compact_length_le xs
 refine CtrM.cutPlace ⟨_,Try.func194,by kernel_rfl,by kernel_rfl⟩ hle hx fun S β w rv hl hr _ => ?_
 obtain rfl : rv=[]:=by simpa using hl
 refine ⟨fun _ => Any.slices_Compact_int_empty Try.layC none 0 w,fun g cap _ hH hg hcap => ?_⟩
 have h:=Any.slices_Compact_int Try.layC g 0 cap xs w hH (by omega) hcap
 refine Calls.mono h fun en w' ⟨he,q,hw⟩ => ?_
 refine ⟨he,q,Lib.compact xs++List.replicate (xs.length - (Lib.compact xs).length) 0,#[],?_,?_,?_,?_⟩
 . simp; omega
 . simp [compL]
 . simp [compL]
 . rw [hw]; unfold sortWorld; rw [grow_empty]
theorem grow_ok (n : Nat) (hn : n<=4294967296) : CtrM Try.prog 223 [.nilS,.d (.int .i64 n)] [] [] false (.sl 0) [(0,.arr 3 1 [])] :=
 CtrM.growNil Try.layG _ rfl rfl rfl rfl ⟨_,Try.func223,by kernel_rfl,by kernel_rfl⟩ n hn
theorem mI_absI (n : Int) : absI n=mI n:=by
 rw [absI,mI,show IntKind.i64.wrap (0 - n)=wrap64 (-n) by rw [Int.zero_sub,IntKind.wrap_i64]; unfold wrap64; omega]
 split<;>omega
theorem wv_ok (l v : Int) : Ctr Try.prog 225 [.int .i64 l,.ptr (.int .i64 v)] false (.d (.bool (mI l == v))) []:=by
 refine Ctr.of (n:=8) (rs:=[.tmp 3]) Try.func225 rfl rfl Try.ntmps225 rfl rfl (by kernel_rfl) Try.checked.mixed ?_
 simp (disch:=first | omega | decide +kernel) only [go_sem,Qa,Qb,Qc,Qd,Qe,↓reduceIte,reduceCtorEq,Qf,Qg,Qh]
 (repeat' (first | ((first | (refine gsel_split (fun q' => ?_) (fun q' => ?_)<;>(have h':=q')<;>(try simp only [za1,za2,Ba,Bb,za3,ne_eq,za4,za5,za6,Ia,Ib,Ic,Ie,Da,Bc,Bd,Be,za7,za8] at h')) | (have q':=trivial; first | refine callX_new (abs_ok _) rfl (by decide) ?_ | refine callY_new (abs_ok _) rfl ?_ | refine hE _ _ ret_ne ?_ | refine hE _ _ exit_ne ?_))<;>(try simp (disch:=first | omega | decide +kernel) only [q',go_sem,Qa,Qb,Qc,Qd,Qe,↓reduceIte,reduceCtorEq,Qf,Qg,Qh])<;>clear q') | refine hN _ ?_ ?_ Wk.kk | with_reducible refine And.intro ?_ ?_ | with_reducible omega | exact ok_ints | exact cells_ints | exact no_mem | with_reducible exact plain_ints | (refine le_maxLen ?_; omega) | (refine za9 ⟨?_,?_⟩) | (simp only [go_sem,Qc,Qb,zb1,zb2,forall_eq]; done)))
 rw [mI_absI]
theorem delete_nil (v : Int) : CtrM Try.prog 224 [.sl 0,.d (.fn (.func 225) [] [.ptr (.int .i64 v)])] [(0,.arr 3 1 [])] [] false (.sl 0)
 [(0,.arr 3 1 [])]:=by
 refine CtrM.of (n:=42) (rs:=[.tmp 4]) Try.func224 rfl rfl Try.ntmps224 rfl rfl (by kernel_rfl) Try.checked.mixed ?_; intro u
 simp (disch:=first | omega | decide +kernel) only [go_sem,Qa,Qb,Qc,Qd,Qe,↓reduceIte,reduceCtorEq,Qf,Qg,Qh]
 (repeat' (first | ((first | (refine gsel_split (fun q' => ?_) (fun q' => ?_)<;>(have h':=q')<;>(try simp only [za1,za2,Ba,Bb,za3,ne_eq,za4,za5,za6,Ia,Ib,Ic,Ie,Da,Bc,Bd,Be,za7,za8] at h')) | (have q':=trivial; first | refine callX_new (indexFunc1_ok List.nil _ _ _ (by simp) fun x => wv_ok x v) rfl (by decide) ?_ | refine callY_new (indexFunc1_ok List.nil _ _ _ (by simp) fun x => wv_ok x v) rfl ?_ | refine hE _ _ ret_ne ?_ | refine hE _ _ exit_ne ?_))<;>(try simp (disch:=first | omega | decide +kernel) only [q',go_sem,Qa,Qb,Qc,Qd,Qe,↓reduceIte,reduceCtorEq,Qf,Qg,Qh])<;>clear q') | refine hN _ ?_ ?_ Wk.kk | with_reducible refine And.intro ?_ ?_ | with_reducible omega | exact ok_ints | exact cells_ints | exact no_mem | with_reducible exact plain_ints | (refine le_maxLen ?_; omega) | (refine za9 ⟨?_,?_⟩) | (simp only [go_sem,Qc,Qb,zb1,zb2,forall_eq]; done)))
 . exact retM_sl 0 rfl rfl no_mem
 . exact absurd rfl h'
theorem delete_ok (xs : List Int) (v : Int) (hx : xs.length<=4294967296) : CtrM Try.prog 224 [.sl 0,.d (.fn (.func 225) [] [.ptr (.int .i64 v)])] [(0,.arr 3 1 (xs.map (.int .i64)))] [] false (.sl 0)
 [(0,.arr 3 1 ((xs.filter fun l => !(mI l == v)).map (.int .i64)))]:=by
 have hle:=List.length_filter_le (fun l => !(mI l == v)) xs
 have eg : ∀ args w,(callFunc 225 args).run Try.prog w=.ok (.enter 225 args) w:=enters_of Try.func225 (by kernel_rfl) rfl
 by_cases h0 : xs=[]
 . subst h0
   exact delete_nil v
 refine CtrM.cutPlace ⟨_,Try.func224,by kernel_rfl,by kernel_rfl⟩ hle hx fun S β w rv hl hr hS => ?_
 obtain ⟨u,rfl⟩ : ∃ u,rv=[u]:=by
  match rv,hl with
  | [a],_ => exact ⟨a,rfl⟩
 obtain ⟨B,o,hB,hu,hc⟩ : ∃ B o,S B∧u=.func (.func 225) #[] #[.pointer (some ⟨B,o,none⟩)]∧w.cell? ⟨B,o,none⟩=some (.int .i64 v):=by
  have:=hr 0 (by simp)
  simp only [List.getD_cons_zero] at this
  cases this with
  | d h => cases h with
    | fn h1 h2 h3 h4 =>
      rename_i vs us
      obtain rfl:=List.eq_nil_of_length_eq_zero h1
      match us,h2 with
      | [p], _ =>
        have h5:=h4 0 (by simp)
        simp only [List.getD_cons_zero] at h5
        cases h5 with
        | @ptr _ b off cs hc hr' =>
          obtain ⟨h6,h7⟩:=hc 0 (by simp [D.cells])
          have h8:=hr' 0 (by simp [D.cells])
          simp only [D.cells,List.getD_cons_zero] at h8
          generalize cs 0=c0 at *
          cases h8
          exact ⟨b,off,h6,rfl,h7⟩
 subst hu
 refine ⟨fun h => absurd h h0,fun g cap hβ hH hg hcap => ?_⟩
 have hBg : B ≠ g:=fun e => hS B hB (by rw [hβ,e]; rfl)
 have hBl : B < w.heap.size:=cell_lt hc
 have h:=AnyE.slices_DeleteFunc Try.layD (Value.int .i64) (fun _ => rfl) (fun l => mI l == v) 225 #[.pointer (some ⟨B,o,none⟩)] eg 0 (by intro w; rfl) g 0 cap xs.toArray w
  (fun W x hb => Try.wv_w v x B o W ((hb.cell (p:=⟨B,o,none⟩) hBl).trans hc))
  (fun n os dk x _ => Try.wv_w v x B o _ (by
   unfold sortWorld
   rw [cell?_grow _ _ _ (by show B < (putRow _ _ _ _ _).heap.size; rw [Go.Sort.size_putRow]; exact hBl),cell?_putRow_other _ _ g _ _ _ (Or.inl hBg)]
   exact hc)) hH (by simp; omega) (by simpa using hcap)
 simp only [List.size_toArray] at h
 refine Calls.mono h fun en w' ⟨he,q,hw⟩ => ?_
 refine ⟨he,q,(xs.filter fun l => !(mI l == v))++List.replicate (xs.length - (xs.filter fun l => !(mI l == v)).length) 0,#[],?_,?_,?_,?_⟩
 . simp; omega
 . simp
 . simp
 . rw [hw]; unfold sortWorld; rw [grow_empty]
theorem withoutVar_ok (c : List Int) (v : Int) (hl : c.length<=4294967296) : Ctr Try.prog 181 [.ints c,.int .i64 v] false (.sl 0) [(0,.arr 3 1 ((c.filter fun l => !(mI l == v)).map (.int .i64)))]:=by
 refine Ctr.of (n:=9) (rs:=[.tmp 4]) Try.func181 rfl rfl Try.ntmps181 rfl rfl (by kernel_rfl) Try.checked.mixed ?_
 simp (disch:=first | omega | decide +kernel) only [D.ints,go_sem,Qa,Qb,Qc,Qd,Qe,↓reduceIte,reduceCtorEq,Qf,Qg,Qh]
 (repeat' (first | ((first | (refine gsel_split (fun q' => ?_) (fun q' => ?_)<;>(have h':=q')<;>(try simp only [za1,za2,Ba,Bb,za3,ne_eq,za4,za5,za6,Ia,Ib,Ic,Ie,Da,Bc,Bd,Be,za7,za8] at h')) | (have q':=trivial; first | refine callX_new (clone_ok c hl) rfl (by decide) ?_ | refine callY_new (clone_ok c hl) rfl ?_ | refine hE _ _ ret_ne ?_ | refine hE _ _ exit_ne ?_))<;>(try simp (disch:=first | omega | decide +kernel) only [q',go_sem,Qa,Qb,Qc,Qd,Qe,↓reduceIte,reduceCtorEq,Qf,Qg,Qh])<;>clear q') | refine hN _ ?_ ?_ Wk.kk | with_reducible refine And.intro ?_ ?_ | with_reducible omega | exact ok_ints | exact cells_ints | exact no_mem | with_reducible exact plain_ints | (refine le_maxLen ?_; omega) | (refine za9 ⟨?_,?_⟩) | (simp only [go_sem,Qc,Qb,zb1,zb2,forall_eq]; done)))
 refine callX_mut [700000] [900000] [700000,900000] (delete_ok c v hl) ⟨.inl rfl,.inr ⟨rfl,_,rfl,rfl⟩,trivial⟩ ⟨rfl,trivial⟩ rfl (by simp [dstB]) ?_
 simp (disch:=first | omega | decide +kernel) only [go_sem,Qa,Qb,Qc,Qd,Qe,↓reduceIte,reduceCtorEq,Qf,Qg,Qh]
 exact ret_sl 900000 rfl rfl plain_ints
end Abs.Y

namespace Abs.Y
open Go Go.Proofs Abs
set_option maxRecDepth 100000
theorem concat_ok (a b : List Int) (ha : a.length<=1048576) (hb : b.length<=1048576) : Ctr Try.prog 180 [.slice [.slice (a.map (.int .i64)),.slice (b.map (.int .i64))]] false (.sl 0) [(0,.arr 3 1 ((a++b).map (.int .i64)))]:=by
 refine Ctr.of (n:=36) (rs:=[.tmp 2]) Try.func180 rfl rfl Try.ntmps180 rfl rfl (by kernel_rfl) Try.checked.mixed ?_
 simp (disch:=first | omega | decide +kernel) only [go_sem,Qa,Qb,Qc,Qd,Qe,↓reduceIte,reduceCtorEq,Qf,Qg,Qh]
 refine Ok.loopC [22,21,20,19,18,17,16,15,14,13,12,11,7,5,4,3,1] (fun i => [(11,.d (.int .i64 (i : Nat))),(3,.d (.int .i64 (if i=0 then 0 else if i=1 then a.length else a.length + b.length)))]) 2 (fun _ => True) trivial (Wk.kk) ?_
 intro R i hN hE hi _
 simp (disch:=first | omega | decide +kernel) only [go_sem,Qa,Qb,Qc,Qd,Qe,↓reduceIte,reduceCtorEq,Qf,Qg,Qh]
 refine gsel_split (fun h => ?_) (fun h => ?_)
 . have h : i < 2:=by simp at h; omega
   have hi2 : i=0∨i=1:=by omega
   rcases hi2 with rfl | rfl
   . simp (disch:=first | omega | decide +kernel) only [wrap_of,el,go_sem,Qa,Qb,Qc,Qd,Qe,↓reduceIte,reduceCtorEq,Qf,Qg,Qh]
     (repeat' (first | ((first | (refine gsel_split (fun q' => ?_) (fun q' => ?_)<;>(have h':=q')<;>(try simp only [za1,za2,Ba,Bb,za3,ne_eq,za4,za5,za6,Ia,Ib,Ic,Ie,Da,Bc,Bd,Be,za7,za8] at h')) | (have q':=trivial; first | refine hE _ _ ret_ne ?_ | refine hE _ _ exit_ne ?_))<;>(try simp (disch:=first | omega | decide +kernel) only [q',el,go_sem,Qa,Qb,Qc,Qd,Qe,↓reduceIte,reduceCtorEq,Qf,Qg,Qh])<;>clear q') | refine hN _ ?_ ?_ Wk.kk | with_reducible refine And.intro ?_ ?_ | with_reducible omega | exact ok_ints | exact cells_ints | exact no_mem | with_reducible exact plain_ints | (refine le_maxLen ?_; omega) | (refine za9 ⟨?_,?_⟩) | (simp only [go_sem,Qc,Qb,zb1,zb2,forall_eq]; done)))
   . simp (disch:=first | omega | decide +kernel) only [wrap_of,el,go_sem,Qa,Qb,Qc,Qd,Qe,↓reduceIte,reduceCtorEq,Qf,Qg,Qh]
     (repeat' (first | ((first | (refine gsel_split (fun q' => ?_) (fun q' => ?_)<;>(have h':=q')<;>(try simp only [za1,za2,Ba,Bb,za3,ne_eq,za4,za5,za6,Ia,Ib,Ic,Ie,Da,Bc,Bd,Be,za7,za8] at h')) | (have q':=trivial; first | refine hE _ _ ret_ne ?_ | refine hE _ _ exit_ne ?_))<;>(try simp (disch:=first | omega | decide +kernel) only [q',el,go_sem,Qa,Qb,Qc,Qd,Qe,↓reduceIte,reduceCtorEq,Qf,Qg,Qh])<;>clear q') | refine hN _ ?_ ?_ Wk.kk | with_reducible refine And.intro ?_ ?_ | with_reducible omega | exact ok_ints | exact cells_ints | exact no_mem | with_reducible exact plain_ints | (refine le_maxLen ?_; omega) | (refine za9 ⟨?_,?_⟩) | (simp only [go_sem,Qc,Qb,zb1,zb2,forall_eq]; done)))
 . obtain rfl : i=2:=by simp at h; omega
   simp (disch:=first | omega | decide +kernel) only [go_sem,Qa,Qb,Qc,Qd,Qe,↓reduceIte,reduceCtorEq,Qf,Qg,Qh]
   (repeat' (first | ((first | (refine gsel_split (fun q' => ?_) (fun q' => ?_)<;>(have h':=q')<;>(try simp only [za1,za2,Ba,Bb,za3,ne_eq,za4,za5,za6,Ia,Ib,Ic,Ie,Da,Bc,Bd,Be,za7,za8] at h')) | (have q':=trivial; first | refine hE _ _ ret_ne ?_ | refine hE _ _ exit_ne ?_))<;>(try simp (disch:=first | omega | decide +kernel) only [q',go_sem,Qa,Qb,Qc,Qd,Qe,↓reduceIte,reduceCtorEq,Qf,Qg,Qh])<;>clear q') | refine hN _ ?_ ?_ Wk.kk | with_reducible refine And.intro ?_ ?_ | with_reducible omega | exact ok_ints | exact cells_ints | exact no_mem | with_reducible exact plain_ints | (refine le_maxLen ?_; omega) | (refine za9 ⟨?_,?_⟩) | (simp only [go_sem,Qc,Qb,zb1,zb2,forall_eq]; done)))
   refine callX_mut [] [2500000] [2500000] (grow_ok (a.length + b.length) (by omega)) ⟨.inl rfl,.inl (by simp [AV.ren]),trivial⟩ trivial rfl (by simp [dstB]) ?_
   simp (disch:=first | omega | decide +kernel) only [go_sem,Qa,Qb,Qc,Qd,Qe,↓reduceIte,reduceCtorEq,Qf,Qg,Qh]
   clear hN hE R
   refine Ok.loopN [34,33,32,31,30,29,28,27,24,23,22,21,20,19,18,17,16,15,14,13,12,11,10,9,8,7,6,5,4,3,1,0] (fun i _ => [(27,.d (.int .i64 (i : Nat))),(6,.sl 2500000)]) (fun _ (cur : List Int) => [(2500000,.arr 3 1 (cur.map (.int .i64)))]) 2
    (fun i cur => cur=if i=0 then [] else if i=1 then a else a++b) [] rfl (Wk.kk) ?_
   rintro R i cur hN hE hi hcur
   simp (disch:=first | omega | decide +kernel) only [go_sem,Qa,Qb,Qc,Qd,Qe,↓reduceIte,reduceCtorEq,Qf,Qg,Qh]
   refine gsel_split (fun h => ?_) (fun h => ?_)
   . have h : i < 2:=by simp at h; omega
     have hi2 : i=0∨i=1:=by omega
     rcases hi2 with rfl | rfl
     . obtain rfl : cur=[]:=hcur
       simp (disch:=first | omega | decide +kernel) only [wrap_of,el,go_sem,Qa,Qb,Qc,Qd,Qe,↓reduceIte,reduceCtorEq,Qf,Qg,Qh]
       (repeat' (first | ((first | (refine gsel_split (fun q' => ?_) (fun q' => ?_)<;>(have h':=q')<;>(try simp only [za1,za2,Ba,Bb,za3,ne_eq,za4,za5,za6,Ia,Ib,Ic,Ie,Da,Bc,Bd,Be,za7,za8] at h')) | (have q':=trivial; first | refine hE _ _ ret_ne ?_ | refine hE _ _ exit_ne ?_))<;>(try simp (disch:=first | omega | decide +kernel) only [q',el,go_sem,Qa,Qb,Qc,Qd,Qe,↓reduceIte,reduceCtorEq,Qf,Qg,Qh])<;>clear q') | refine hN _ ?_ ?_ Wk.kk | with_reducible refine And.intro ?_ ?_ | with_reducible omega | exact ok_ints | exact cells_ints | exact no_mem | with_reducible exact plain_ints | (refine le_maxLen ?_; omega) | (refine za9 ⟨?_,?_⟩) | (simp only [go_sem,Qc,Qb,zb1,zb2,forall_eq]; done)))
       exact hN a _ (by omega) rfl (Wk.kk)
     . obtain rfl : cur=a:=hcur
       simp (disch:=first | omega | decide +kernel) only [wrap_of,el,go_sem,Qa,Qb,Qc,Qd,Qe,↓reduceIte,reduceCtorEq,Qf,Qg,Qh]
       (repeat' (first | ((first | (refine gsel_split (fun q' => ?_) (fun q' => ?_)<;>(have h':=q')<;>(try simp only [za1,za2,Ba,Bb,za3,ne_eq,za4,za5,za6,Ia,Ib,Ic,Ie,Da,Bc,Bd,Be,za7,za8] at h')) | (have q':=trivial; first | refine hE _ _ ret_ne ?_ | refine hE _ _ exit_ne ?_))<;>(try simp (disch:=first | omega | decide +kernel) only [q',el,go_sem,Qa,Qb,Qc,Qd,Qe,↓reduceIte,reduceCtorEq,Qf,Qg,Qh])<;>clear q') | refine hN _ ?_ ?_ Wk.kk | with_reducible refine And.intro ?_ ?_ | with_reducible omega | exact ok_ints | exact cells_ints | exact no_mem | with_reducible exact plain_ints | (refine le_maxLen ?_; omega) | (refine za9 ⟨?_,?_⟩) | (simp only [go_sem,Qc,Qb,zb1,zb2,forall_eq]; done)))
       exact hN (cur++b) _ (by omega) rfl (Wk.kk)
   . obtain rfl : i=2:=by simp at h; omega
     obtain rfl : cur=a++b:=hcur
     simp (disch:=first | omega | decide +kernel) only [go_sem,Qa,Qb,Qc,Qd,Qe,↓reduceIte,reduceCtorEq,Qf,Qg,Qh]
     (repeat' (first | ((first | (refine gsel_split (fun q' => ?_) (fun q' => ?_)<;>(have h':=q')<;>(try simp only [za1,za2,Ba,Bb,za3,ne_eq,za4,za5,za6,Ia,Ib,Ic,Ie,Da,Bc,Bd,Be,za7,za8] at h')) | (have q':=trivial; first | refine hE _ _ ret_ne ?_ | refine hE _ _ exit_ne ?_))<;>(try simp (disch:=first | omega | decide +kernel) only [q',go_sem,Qa,Qb,Qc,Qd,Qe,↓reduceIte,reduceCtorEq,Qf,Qg,Qh])<;>clear q') | refine hN _ ?_ ?_ Wk.kk | with_reducible refine And.intro ?_ ?_ | with_reducible omega | exact ok_ints | exact cells_ints | exact no_mem | with_reducible exact plain_ints | (refine le_maxLen ?_; omega) | (refine za9 ⟨?_,?_⟩) | (simp only [go_sem,Qc,Qb,zb1,zb2,forall_eq]; done)))
     exact ret_sl 2500000 rfl rfl plain_ints
end Abs.Y
