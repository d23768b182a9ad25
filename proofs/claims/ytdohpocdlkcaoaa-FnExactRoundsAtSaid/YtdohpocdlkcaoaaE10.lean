/- What functions of this program compute, over plain data. No condition. -/
import Derived.Test.YtdohpocdlkcaoaaW1
import Derived.Test.YtdohpocdlkcaoaaChecked
import Derived.Shelf.SlSortCmp.Whole1
import Derived.Ground.SlsfProg
import Derived.Test.YtdohpocdlkcaoaaG5b
import Derived.Shelf.SlicesE.Delete
import Derived.Test.YtdohpocdlkcaoaaAbsBits16
import Derived.Test.YtdohpocdlkcaoaaU6
import Derived.Test.YtdohpocdlkcaoaaAbsArw
import Derived.Test.YtdohpocdlkcaoaaAbsBox
import Derived.Lib.RowBridge
set_option linter.all false
open Nat renaming reduceEqDiff -> Qa, reduceLT -> Qb, reduceAdd -> Qc, reduceMul -> Qd, reduceSub -> Qe, reduceLeDiff -> Qf, reduceSubDiff -> Qg, reduceBEq -> Qh
open Bool renaming not_eq_true' -> Ba, not_eq_false' -> Bb, and_eq_true -> Bc, or_eq_true -> Bd, or_eq_false_iff -> Be
open Int renaming ofNat_lt -> Ia, ofNat_le -> Ib, not_lt -> Ic, not_le -> Ie
open Decidable renaming not_not -> Da
namespace Go.Proofs
open Go.Shelf Go.RowKit Go.Lib Go.Sort
def Try.layQ_ren : Go.Shelf.Ren:=⟨fun | 14 => 237 | 20 => 254 | 21 => 255 | 22 => 256 | 23 => 257 | 24 => 258 | 25 => 259 | 26 => 260 | 27 => 261 | 46 => 279 | 47 => 263 | 48 => 264 | 49 => 280 | 50 => 281 | 15 => 229 | 57 => 291 | 28 => 246 | 29 => 247 | n => n,fun | 24 => 38 | 22 => 22 | 3 => 3 | 25 => 115 | 4 => 4 | 0 => 0 | 46 => 193 | 45 => 192 | 50 => 51 | 66 => 213 | 39 => 158 | 55 => 102 | 70 => 217 | 76 => 229 | 77 => 230 | 53 => 199 | 5 => 5 | 9 => 9 | n => n,fun | n => n⟩
theorem Try.layQ : Go.Proofs.SlLaysF.n14 Try.prog Try.layQ_ren:={
 mixed:=by kernel_rfl
 f14:=⟨Try.f237.name,by decide,Try.func237.trans (congrArg some (by kernel_rfl))⟩
 f15:=Try.func229.trans (congrArg some (by kernel_rfl))
 f20:=⟨Try.f254.name,by decide,Try.func254.trans (congrArg some (by kernel_rfl))⟩
 f21:=⟨Try.f255.name,by decide,Try.func255.trans (congrArg some (by kernel_rfl))⟩
 f22:=⟨Try.f256.name,by decide,Try.func256.trans (congrArg some (by kernel_rfl))⟩
 f23:=⟨Try.f257.name,by decide,Try.func257.trans (congrArg some (by kernel_rfl))⟩
 f24:=⟨Try.f258.name,by decide,Try.func258.trans (congrArg some (by kernel_rfl))⟩
 f25:=⟨Try.f259.name,by decide,Try.func259.trans (congrArg some (by kernel_rfl))⟩
 f26:=⟨Try.f260.name,by decide,Try.func260.trans (congrArg some (by kernel_rfl))⟩
 f27:=⟨Try.f261.name,by decide,Try.func261.trans (congrArg some (by kernel_rfl))⟩
 f28:=Try.func246.trans (congrArg some (by kernel_rfl))
 f29:=Try.func247.trans (congrArg some (by kernel_rfl))
 f46:=⟨Try.f279.name,by decide,Try.func279.trans (congrArg some (by kernel_rfl))⟩
 f47:=Try.func263.trans (congrArg some (by kernel_rfl))
 f48:=Try.func264.trans (congrArg some (by kernel_rfl))
 f49:=⟨Try.f280.name,by decide,Try.func280.trans (congrArg some (by kernel_rfl))⟩
 f50:=⟨Try.f281.name,by decide,Try.func281.trans (congrArg some (by kernel_rfl))⟩
 f57:=⟨Try.f291.name,by decide,Try.func291.trans (congrArg some (by kernel_rfl))⟩
 t0:=Try.underlying0
 a0:=Try.isAgg0
 z0:=Try.sizeOf0
 v0:=Try.zeroValue0
 t3:=Try.underlying3
 a3:=Try.isAgg3
 z3:=Try.sizeOf3
 v3:=Try.zeroValue3
 t4:=Try.underlying4
 a4:=Try.isAgg4
 z4:=Try.sizeOf4
 v4:=Try.zeroValue4
 t5:=Try.underlying5
 a5:=Try.isAgg5
 z5:=Try.sizeOf5
 v5:=Try.zeroValue5
 t9:=Try.underlying9
 a9:=Try.isAgg9
 z9:=Try.sizeOf9
 v9:=Try.zeroValue9
 t22:=Try.underlying22
 a22:=Try.isAgg22
 z22:=Try.sizeOf22
 v22:=Try.zeroValue22
 a24:=Try.isAgg38
 z24:=Try.sizeOf38
 t25:=Try.underlying115
 a25:=Try.isAgg115
 z25:=Try.sizeOf115
 v25:=Try.zeroValue115
 t39:=Try.underlying158
 a39:=Try.isAgg158
 z39:=Try.sizeOf158
 v39:=Try.zeroValue158
 t45:=Try.underlying192
 a45:=Try.isAgg192
 z45:=Try.sizeOf192
 v45:=Try.zeroValue192
 t46:=Try.underlying193
 a46:=Try.isAgg193
 z46:=Try.sizeOf193
 v46:=Try.zeroValue193
 t50:=Try.underlying51
 a50:=Try.isAgg51
 z50:=Try.sizeOf51
 v50:=Try.zeroValue51
 t53:=Try.underlying199
 a53:=Try.isAgg199
 z53:=Try.sizeOf199
 v53:=Try.zeroValue199
 t55:=Try.underlying102
 a55:=Try.isAgg102
 z55:=Try.sizeOf102
 v55:=Try.zeroValue102
 t66:=Try.underlying213
 a66:=Try.isAgg213
 z66:=Try.sizeOf213
 v66:=Try.zeroValue213
 t70:=Try.underlying217
 a70:=Try.isAgg217
 z70:=Try.sizeOf217
 v70:=Try.zeroValue217
 t76:=Try.underlying229
 a76:=Try.isAgg229
 z76:=Try.sizeOf229
 v76:=Try.zeroValue229
 t77:=Try.underlying230
 a77:=Try.isAgg230
 z77:=Try.sizeOf230
 v77:=Try.zeroValue230 }
theorem Try.len_w (n : Nat) (hn : n<=4294967296) (W : World) : Calls Try.prog 229 #[.int .u64 (n : Int)] W fun e w' => e=.returned (.int .i64 (Lib.bitLen n : Nat))∧w'=W:=by
 have h:=Any.bits_Len (SlLaysF0.n15.bits (P:=Try.prog) { Try.layS with }) (n : Int) W (by omega) (by omega)
 rwa [Int.toNat_natCast] at h
end Go.Proofs

namespace Abs
open Go Go.RowKit Go.Sort Go.Proofs Go.Shelf

def D.one : D->Bool
 | .int _ _ => true
 | .bool _ => true
 | .str _ => true
 | .slice _ => true
 | .ptr _ => true
 | .nilptr => true
 | .tag _ _ => true
 | _ => false
theorem D.one_cells {x : D} (h : x.one=true) : x.cells=[x]:=by
 cases x<;>first | rfl | cases h
theorem flat_oneD : ∀ {es : List D},(∀ x ∈ es,x.one=true)->flat es=es
 | [],_ => rfl
 | x :: r, h => by
   have:=flat_oneD (es:=r) fun y hy => h y (by simp [hy])
   simp only [flat,List.flatMap_cons] at this ⊢
   rw [this,D.one_cells (h x (by simp))]; rfl
theorem Rd.one {S w x v} (hx : x.one=true) (h : Rd S w x v) : v.oneCell'=true:=by
 cases h<;>first | rfl | (rename_i h; cases h<;>rfl; done) | cases hx

def mkR (zv : Value) (xs : List Value) (i : Nat) : Value:=xs.getD i zv
theorem mkR_one {S w} {zv : Value} {xs : List Value} {es : List D} (hz : zv.oneCell'=true) (hes : ∀ x ∈ es,x.one=true) (hl : xs.length=es.length) (hr : ∀ i,i < es.length->Rd S w (es.getD i .nilptr) (xs.getD i Go.undef)) (i : Nat) : (mkR zv xs i).oneCell'=true:=by
 unfold mkR
 by_cases hi : i < xs.length
 . have h1:=hr i (by omega)
   have h2 : (es.getD i .nilptr).one=true:=hes _ (by
    rw [List.getD_eq_getElem?_getD,List.getElem?_eq_getElem (by omega)]; exact List.getElem_mem _)
   have h3 : xs.getD i zv=xs.getD i Go.undef:=by simp [List.getD_eq_getElem?_getD,hi]
   rw [h3]; exact Rd.one h2 h1
 . have h3 : xs.getD i zv=zv:=by simp [List.getD_eq_getElem?_getD,hi]
   rw [h3]; exact hz

theorem arr_openD {β S w e es v F} (hes : ∀ x ∈ es,x.one=true) (h : OK β S w (.arr e 1 es) v F) : (v=.slice none 0 0∧es=[]) ∨
 ∃ g cap cur xs,v=.slice (some ⟨g,0,none⟩) es.length cap∧w.heap[g]? = some (.cells cur e (0,0))∧es.length<=cap∧cap<=maxLen∧cur.size=cap∧cur.toList.take es.length=xs∧xs.length=es.length ∧
  ∀ i,i < es.length->Rd S w (es.getD i .nilptr) (xs.getD i Go.undef):=by
 cases h with
 | arr hF vs hk0 hk hw hr =>
   rw [flat_oneD hes] at hr
   rcases hw.2 with ⟨h1,h2⟩ | ⟨g,cap,cur,h1,_,h3,h4,h5,h6,h7⟩
   . exact .inl ⟨h1,by simpa using h2⟩
   . exact .inr ⟨g,cap,cur,vs,by simpa using h1,h3,by simpa using h4,h5,by simpa using h6,by simpa using h7,by simpa using hw.1,hr⟩
theorem arr_closeD {β' S' w' e g cap} {cur' : Array Value} {es' : List D} {xs' : List Value} (hes : ∀ x ∈ es',x.one=true) (hb : w'.heap[g]? = some (.cells cur' e (0,0))) (hcap : es'.length<=cap) (hm : cap<=maxLen) (hsz : cur'.size=cap)
 (hl : xs'.length=es'.length) (ht : cur'.toList.take es'.length=xs') (hr : ∀ i,i < es'.length->Rd S' w' (es'.getD i .nilptr) (xs'.getD i Go.undef)) :
 OK β' S' w' (.arr e 1 es') (.slice (some ⟨g,0,none⟩) es'.length cap) (ownS (.slice (some ⟨g,0,none⟩) es'.length cap)):=by
 refine .arr rfl xs' (by omega) (fun x hx => by rw [D.one_cells (hes x hx)]; rfl) ⟨by simpa using hl,.inr ⟨g,cap,cur',by simp,Nat.zero_le _,hb,by simpa using hcap,hm,by simpa using hsz,by simpa using ht⟩⟩ fun i hi => ?_
 rw [flat_oneD hes] at hi ⊢
 exact hr i hi
theorem arr_nilD {β' S' w' e} : OK β' S' w' (.arr e 1 []) (.slice none 0 0) (ownS (.slice none 0 0)) :=
 .arr rfl [] (by omega) (by simp) ⟨by simp,.inl ⟨rfl,by simp⟩⟩ (by simp [flat])

theorem holds_ofD {w : World} {g : Nat} {cur : Array Value} {e : TypeId} {xs : List Value} (zv : Value) (hb : w.heap[g]? = some (.cells cur e (0,0))) (ht : cur.toList.take xs.length=xs) : Holds (mkR zv xs) w g 0 (Array.range xs.length):=by
 intro j hj
 have hj' : j < xs.length:=by simpa using hj
 refine ⟨?_,by simp [World.frozen?, hb]⟩
 have h1:=congrArg (fun l : List Value => l[j]?) ht
 simp only [List.getElem?_take,if_pos hj',Array.getElem?_toList] at h1
 have h2 : (Array.range xs.length)[j]! = j:=by rw [getElem!_pos _ j (by simpa using hj')]; simp
 rw [h2]
 simp [World.cell?, hb,h1,mkR,hj',List.getD_eq_getElem?_getD]

section
variable {α : Type} [Inhabited α] {enc : α->Value}
theorem putRow_blockD {w : World} {g : Nat} {cur : Array Value} {e : TypeId} (d : Array α) (hb : w.heap[g]? = some (.cells cur e (0,0))) :
 (putRow enc w g 0 d).heap[g]? = some (.cells (putCells enc 0 d cur) e (0,0)):=by
 simp [putRow,mapBlock,Array.getElem?_modify,hb,onCells]
theorem putRow_otherD {w : World} {g k : Nat} (d : Array α) (h : k ≠ g) : (putRow enc w g 0 d).heap[k]? = w.heap[k]? := by
 simp only [putRow,mapBlock,Array.getElem?_modify]
 rw [if_neg (Ne.symm h)]
theorem putCells_takeD (d : Array α) (cur : Array Value) (k : Nat) (hk : k<=d.size) (hd : d.size<=cur.size) : (putCells enc 0 d cur).toList.take k=(d.toList.take k).map enc:=by
 apply List.ext_getElem?
 intro i
 simp only [List.getElem?_take,List.getElem?_map,putCells]
 split
 . rename_i hi
   have h1 : i < cur.size:=by omega
   have h2 : i < d.size:=by omega
   simp [h1,h2]
 . rfl
theorem sortWorld_otherD {w : World} {g m k : Nat} {d : Array α} {os : Array Obj} (hk : k < w.heap.size) (hne : k ≠ g) : (sortWorld enc w g 0 m d os).heap[k]? = w.heap[k]? := by
 show ((putRow _ (ahead w m) g 0 d).heap++os)[k]? = _
 rw [Array.getElem?_append_left (by rw [Go.Sort.size_putRow]; exact hk),putRow_otherD _ hne]; rfl
theorem sortWorld_frD {w : World} {g m : Nat} {d : Array α} {os : Array Obj} {M : Nat->Prop} (hM : M g) : Fr w.heap.size M w (sortWorld enc w g 0 m d os):=by
 refine ⟨rfl,rfl,rfl,?_,?_,fun k hk hkM => sortWorld_otherD hk fun e => hkM (e ▸ hM),Nat.le_add_right _ _⟩
 . show w.heap.size<=((putRow _ (ahead w m) g 0 d).heap++os).size
   rw [Array.size_append,Go.Sort.size_putRow]; simp
 . show w.heap.size<=((putRow _ (ahead w m) g 0 d).heap++os).size
   rw [Array.size_append,Go.Sort.size_putRow]; simp
theorem sortWorld_blockD {w : World} {g m : Nat} {d : Array α} {os : Array Obj} {cur : Array Value} {e : TypeId} (hb : w.heap[g]? = some (.cells cur e (0,0))) :
 (sortWorld enc w g 0 m d os).heap[g]? = some (.cells (putCells enc 0 d cur) e (0,0)):=by
 have hlt : g < w.heap.size:=(Array.getElem?_eq_some_iff.1 hb).1
 show ((putRow _ (ahead w m) g 0 d).heap++os)[g]? = _
 rw [Array.getElem?_append_left (by rw [Go.Sort.size_putRow]; exact hlt)]
 exact putRow_blockD d hb
end
theorem Rd.sortW {α : Type} [Inhabited α] {enc : α->Value} {S : Nat->Prop} {w : World} {g m : Nat} {d : Array α} {os : Array Obj} (hS : ∀ b,S b->b ≠ g) {x v} (h : Rd S w x v) : Rd S (sortWorld enc w g 0 m d os) x v :=
 h.move fun b hb hlt => ⟨hb,sortWorld_otherD hlt (hS b hb)⟩

structure Writ (es es' : List D) (d : Array Nat) : Prop where
 le : d.size<=es.length
 le' : es'.length<=d.size
 lt : ∀ i ∈ d.toList.take es'.length,i < es.length
 eq : (d.toList.take es'.length).map (fun i => es.getD i .nilptr)=es'

theorem CtrM.rowD {P : Program} {f : FuncId} {rest : List AV} {e : TypeId} {es es' : List D} (zv : Value) (cut : Bool) (hent : Enters P f) (hes : ∀ x ∈ es,x.one=true) (hl : es'.length<=es.length) (hc : cut=false->es'.length=es.length)
 (h : ∀ (S : Nat->Prop) (β : Nat->Value) (w : World) (rv : List Value),rv.length=rest.length->(∀ i,i < rest.length->Rel β S w (rest.getD i .undef) (rv.getD i Go.undef)) ->
  (es=[]->Calls P f (.slice none 0 0 :: rv).toArray w fun en w' => en=.returned (if cut then .slice none 0 0 else .tuple #[])∧w'=w) ∧
  (∀ g cap xs,(∀ b,S b->b ≠ g)->xs.length=es.length->(∀ i,i < es.length->Rd S w (es.getD i .nilptr) (xs.getD i Go.undef))->Holds (mkR zv xs) w g 0 (Array.range es.length)->g < w.heap.size->es.length<=cap->cap<=maxLen ->
   Calls P f (.slice (some ⟨g,0,none⟩) es.length cap :: rv).toArray w fun en w' => en=.returned (if cut then .slice (some ⟨g,0,none⟩) es'.length cap else .tuple #[])∧∃ m d os,Writ es es' d∧w'=sortWorld (mkR zv xs) w g 0 m d os)) :
 CtrM P f (.sl 0 :: rest) [(0,.arr e 1 es)] (if cut then [] else [0]) true (if cut then .sl 0 else .tup []) [(0,.arr e 1 es')]:=by
 refine ⟨hent,fun S β φ w vs hvl hvr hO hD => ?_⟩
 cases vs with
 | nil => simp at hvl
 | cons v rv =>
   obtain ⟨h1,h2⟩:=h (free S φ [(0,.arr e 1 es)]) β w rv (by simpa using hvl) fun i hi => by simpa using hvr (i + 1) (by simpa using hi)
   have hv : v=β 0:=by
    have:=hvr 0 (by simp)
    simp only [List.getD_cons_zero] at this
    cases this; rfl
   have hOk:=hO 0 (.arr e 1 es) (by simp [lk])
   have hFo : φ 0=ownS (β 0):=by
    generalize β 0=v0 at *
    generalize φ 0=F0 at *
    cases hOk with | arr hF => exact hF
   have one : ∀ {j : Nat} {o : AO} {l : List D},lk j [(0,AO.arr e 1 l)]=some o->j=0∧o=.arr e 1 l:=fun hj => by
    simp only [lk] at hj
    split at hj
    . rename_i e'; cases hj; exact ⟨e',rfl⟩
    . cases hj
   rcases arr_openD hes hOk with ⟨h3,rfl⟩ | ⟨g,cap,cur,xs,h3,h4,h5,h6,h7,h8,h9,h10⟩
   . obtain rfl : es'=[]:=by simpa using hl
     rw [hv,h3]
     refine (h1 rfl).mono fun en w' ⟨he,hw⟩ => ⟨_,he,?_,?_⟩
     . subst hw; exact ⟨rfl,rfl,rfl,Nat.le_refl _,Nat.le_refl _,fun _ _ _ => rfl,Nat.le_refl _⟩
     . subst hw
       refine ⟨β,φ,by cases cut<;>simp,?_,fun j o hj => ?_,fun j o g hj hg => ?_,fun j j' o o' g hj hj' _ _ => ?_⟩
       . cases cut with
         | true => simp only [if_true]; rw [← h3]; exact .sl 0
         | false => exact Rel.tup (xs:=[]) (vs:=[]) rfl (by simp)
       . obtain ⟨rfl,rfl⟩:=one hj
         rw [hFo,h3]; exact arr_nilD
       . obtain ⟨rfl,rfl⟩:=one hj
         rw [hFo,h3] at hg; cases hg
       . rw [(one hj).1,(one hj').1]
   . have hlt : g < w.heap.size:=(Array.getElem?_eq_some_iff.1 h4).1
     have hM : blocksOf φ [(0,AO.arr e 1 es)] g:=⟨0,.arr e 1 es,by simp [lk],by rw [hFo,h3]; rfl⟩
     have hSg : ∀ b,free S φ [(0,AO.arr e 1 es)] b->b ≠ g:=fun b hb e' => hb.2 0 (.arr e 1 es) (by simp [lk]) rfl (by rw [hFo,h3,e']; rfl)
     have hH:=holds_ofD (xs:=xs) zv h4 (by rw [h9]; exact h8)
     rw [h9] at hH
     rw [hv,h3]
     refine (h2 g cap xs hSg h9 h10 hH hlt h5 h6).mono fun en w' ⟨he,m,d,os,hW,hw⟩ => ⟨_,he,?_,?_⟩
     . subst hw; exact sortWorld_frD hM
     . subst hw
       have hdl : (d.toList.take es'.length).length=es'.length:=by rw [List.length_take,Array.length_toList]; exact Nat.min_eq_left hW.le'
       have hok : ∀ S',(∀ b,free S φ [(0,AO.arr e 1 es)] b->S' b)->∀ β',OK β' S' (sortWorld (mkR zv xs) w g 0 m d os) (.arr e 1 es') (.slice (some ⟨g,0,none⟩) es'.length cap) (ownS (.slice (some ⟨g,0,none⟩) es'.length cap)):=fun S' hS' β' => by
        refine arr_closeD (xs':=(d.toList.take es'.length).map (mkR zv xs)) (fun x hx => ?_) (sortWorld_blockD h4) (by omega) h6 (by simp [putCells,h7]) (by rw [List.length_map,hdl])
         (putCells_takeD d cur es'.length hW.le' (by have:=hW.le; omega)) fun i hi => ?_
        . rw [← hW.eq] at hx
          obtain ⟨i,hi,rfl⟩:=List.mem_map.1 hx
          have:=hW.lt i hi
          exact hes _ (by rw [List.getD_eq_getElem?_getD,List.getElem?_eq_getElem this]; exact List.getElem_mem _)
        . have hi' : i < (d.toList.take es'.length).length:=by rw [hdl]; exact hi
          have hlt':=hW.lt _ (List.getElem_mem hi')
          have e1 : es'.getD i .nilptr=es.getD (d.toList.take es'.length)[i] .nilptr:=by
           have:=congrArg (fun l : List D => l.getD i .nilptr) hW.eq
           rw [← this,List.getD_eq_getElem?_getD,List.getElem?_map,List.getElem?_eq_getElem hi']; rfl
          have e2 : ((d.toList.take es'.length).map (mkR zv xs)).getD i Go.undef=xs.getD (d.toList.take es'.length)[i] Go.undef:=by
           rw [List.getD_eq_getElem?_getD,List.getElem?_map,List.getElem?_eq_getElem hi']
           simp only [Option.map_some,Option.getD_some,mkR]
           rw [List.getD_eq_getElem?_getD,List.getD_eq_getElem?_getD,List.getElem?_eq_getElem (by omega)]; rfl
          rw [e1,e2]
          exact (Rd.sortW hSg (h10 _ hlt')).weaken hS'
       have hown : ∀ {v : Value} {φ' : Nat->Nat->Prop},(∀ b,φ' 0 b->φ 0 b)->∀ b,free S φ [(0,AO.arr e 1 es)] b->free (fun g => w.heap.size<=g∨blocksOf φ [(0,AO.arr e 1 es)] g∨(true=true∧S g)) φ' [(0,AO.arr e 1 es')] b:=fun {_ φ'} hφ b hb =>
        ⟨.inr (.inr ⟨rfl,hb.1⟩),fun j o hj _ hg => by
         obtain ⟨rfl,_⟩:=one hj
         exact hb.2 0 (.arr e 1 es) (by simp [lk]) rfl (hφ b hg)⟩
       cases cut with
       | false =>
         have hll:=hc rfl
         refine ⟨β,φ,fun _ _ => rfl,Rel.tup (xs:=[]) (vs:=[]) rfl (by simp),fun j o hj => ?_,fun j o g' hj hg => ?_,fun j j' o o' g hj hj' _ _ => ?_⟩
         . obtain ⟨rfl,rfl⟩:=one hj
           have:=hok _ (hown (v:=v) fun _ h => h) β
           rw [hFo,h3,← hll]; exact this
         . obtain ⟨rfl,rfl⟩:=one hj
           rw [hFo,h3] at hg
           cases hg
           exact .inr hM
         . rw [(one hj).1,(one hj').1]
       | true =>
         refine ⟨fun _ => .slice (some ⟨g,0,none⟩) es'.length cap,fun _ => ownS (.slice (some ⟨g,0,none⟩) es'.length cap),by simp,?_,fun j o hj => ?_,fun j o g' hj hg => ?_,fun j j' o o' g hj hj' _ _ => ?_⟩
         . exact Rel.sl (β:=fun _ => Value.slice (some ⟨g,0,none⟩) es'.length cap) 0
         . obtain ⟨rfl,rfl⟩:=one hj
           exact hok _ (hown (v:=v) fun b hb => by rw [hFo,h3]; exact hb) _
         . obtain ⟨rfl,rfl⟩:=one hj
           cases hg
           exact .inr hM
         . rw [(one hj).1,(one hj').1]

theorem Ctr.cmpLays {P : Program} {f : FuncId} {cf : Nat->Nat->Int} {es : List D} {zd : D} {zv : Value} {xs : List Value} {S : Nat->Prop} {w : World} {g n : Nat} (hz : ∀ w,Rd (fun _ => True) w zd zv)
 (hf : ∀ i j,Ctr P f [es.getD i zd,es.getD j zd] false (.d (.int .i64 (cf i j))) []) (hS : ∀ b,S b->b ≠ g) (hl : xs.length=es.length) (hr : ∀ i,i < es.length->Rd S w (es.getD i .nilptr) (xs.getD i Go.undef)) :
 CmpLays1 P f #[] (mkR zv xs) cf g 0 n w:=fun m os dk _ i j => by
 have hrd : ∀ i,Rd (fun _ => True) (sortWorld (mkR zv xs) w g 0 m dk os) (es.getD i zd) (mkR zv xs i):=fun i => by
  by_cases hi : i < es.length
  . have e1 : es.getD i zd=es.getD i .nilptr:=by simp [List.getD_eq_getElem?_getD,hi]
    have e2 : mkR zv xs i=xs.getD i Go.undef:=by simp [mkR,List.getD_eq_getElem?_getD,show i < xs.length by omega]
    rw [e1,e2]
    exact (Rd.sortW hS (hr i hi)).weaken fun _ _ => trivial
  . have e1 : es.getD i zd=zd:=by simp [List.getD_eq_getElem?_getD,hi]
    have e2 : mkR zv xs i=zv:=by simp [mkR,List.getD_eq_getElem?_getD,show ¬ i < xs.length by omega]
    rw [e1,e2]; exact hz _
 have h:=(hf i j).2 (fun _ => True) (sortWorld (mkR zv xs) w g 0 m dk os) [mkR zv xs i,mkR zv xs j] rfl (fun k hk => by
  match k,hk with
  | 0,_ => exact hrd i
  | 1,_ => exact hrd j)
 have he : (#[mkR zv xs i,mkR zv xs j]++#[] : Array Value)=[mkR zv xs i,mkR zv xs j].toArray:=by simp
 rw [he]
 refine h.mono fun en w' ⟨v,hv,hF,β,φ,hR,_⟩ => ?_
 generalize sortWorld (mkR zv xs) w g 0 m dk os=W at *
 cases hR with
 | d hR =>
   cases hR
   refine ⟨hv,w'.drawn - W.drawn,w'.heap.extract W.heap.size w'.heap.size,?_⟩
   have hh : w'.heap=W.heap++w'.heap.extract W.heap.size w'.heap.size:=by
    apply Array.ext_getElem?
    intro k
    by_cases hk : k < W.heap.size
    . rw [Array.getElem?_append_left hk]; exact hF.block k hk (fun h => h)
    . rw [Array.getElem?_append_right (by omega)]
      have:=hF.size
      by_cases hk2 : k < w'.heap.size
      . simp [hk2,show k - W.heap.size < w'.heap.size - W.heap.size by omega,show W.heap.size + (k - W.heap.size)=k by omega]
      . simp [hk2,show ¬ k - W.heap.size < w'.heap.size - W.heap.size by omega]
   have hd : w'.drawn=W.drawn + (w'.drawn - W.drawn):=by have:=hF.drawn; omega
   have h1:=hF.os; have h2:=hF.tape; have h3:=hF.output
   obtain ⟨hp,tp,dr,o,ou⟩:=w'
   simp only at hh hd h1 h2 h3
   subst h1 h2 h3
   unfold grow World.drewN
   simp only
   rw [← hh,← hd]
end Abs

namespace Abs.Y
open Go Go.Proofs Abs Go.Sort Go.Shelf Go.Lib Go.RowKit
set_option maxRecDepth 100000

def sortC (cs : List (List Int)) : List (List Int):=cs.mergeSort leC
def cfC (cs : List (List Int)) (i j : Nat) : Int:=cmpCI (cs.getD i []) (cs.getD j [])
theorem sm_nil : Sm []:=fun x hx => by cases hx
theorem sm_getD {cs : List (List Int)} (hs : ∀ x ∈ cs,Sm x) (i : Nat) : Sm (cs.getD i []):=by
 by_cases h : i < cs.length
 . exact hs _ (getD_mem h)
 . rw [List.getD_eq_getElem?_getD,List.getElem?_eq_none (by omega)]; exact sm_nil
theorem cfC_lt (cs : List (List Int)) (i j : Nat) : ltOf (cfC cs) i j=befI (cs.getD i []) (cs.getD j []):=rfl
theorem cfC_swo {cs : List (List Int)} (hs : ∀ x ∈ cs,Sm x) : SWO (ltOf (cfC cs)) where
 irrefl i:=by rw [cfC_lt]; exact befI_self (sm_getD hs i)
 trans i j k h1 h2:=by
  rw [cfC_lt] at *; exact bef_trans (sm_getD hs i) (sm_getD hs j) (sm_getD hs k) h1 h2
 ntrans i j k h1 h2:=by
  rw [cfC_lt] at *
  have si:=sm_getD hs i
  have sj:=sm_getD hs j
  have sk:=sm_getD hs k
  cases h : befI (cs.getD i []) (cs.getD k []) with
  | false => rfl
  | true =>
    rcases bef_total si sj with h' | h' | h'
    . rw [h1] at h'; cases h'
    . have:=bef_trans sj si sk h' h
      rw [h2] at this; cases this
    . rw [h'] at h; rw [h2] at h; cases h
theorem leC_anti {x y : List Int} (sx : Sm x) (sy : Sm y) (h1 : leC x y=true) (h2 : leC y x=true) : x=y:=by
 unfold leC at *
 simp only [Ba] at *
 rcases bef_total sx sy with h' | h' | h'
 . rw [h2] at h'; cases h'
 . rw [h1] at h'; cases h'
 . exact h'
theorem sorted_uniq : ∀ {l1 l2 : List (List Int)},(∀ x ∈ l1,Sm x)->l1.Perm l2->l1.Pairwise (fun x y => leC x y=true)->l2.Pairwise (fun x y => leC x y=true)->l1=l2
 | [],l2,_,hp,_,_ => by rw [List.nil_perm.1 hp]
 | x :: r,[],_,hp,_,_ => absurd hp.length_eq (by simp)
 | x :: r, y :: s, hs, hp, h1, h2 => by
   have p1:=List.pairwise_cons.1 h1
   have p2:=List.pairwise_cons.1 h2
   have sx:=hs x (by simp)
   have sy : Sm y:=hs y (hp.mem_iff.2 (by simp))
   have hxy : x=y:=by
    rcases List.mem_cons.1 (hp.mem_iff.1 (show x ∈ x :: r by simp)) with e | hx
    . exact e
    . rcases List.mem_cons.1 (hp.mem_iff.2 (show y ∈ y :: s by simp)) with e | hy
      . exact e.symm
      . exact leC_anti sx sy (p1.1 y hy) (p2.1 x hx)
   subst hxy
   rw [sorted_uniq (fun z hz => hs z (by simp [hz])) (List.Perm.cons_inv hp) p1.2 p2.2]
theorem sortC_perm (cs : List (List Int)) : (sortC cs).Perm cs:=List.mergeSort_perm cs leC
theorem sortC_sorted {cs : List (List Int)} (hs : ∀ x ∈ cs,Sm x) : (sortC cs).Pairwise fun x y => leC x y=true:=by
 -- sort the places,then read
 have h:=List.pairwise_mergeSort (le:=fun (i j : Nat) => leC (cs.getD i []) (cs.getD j [])) (fun i j k h1 h2 => leC_trans (sm_getD hs i) (sm_getD hs j) (sm_getD hs k) h1 h2) (fun i j => leC_total (sm_getD hs i) (sm_getD hs j)) (List.range cs.length)
 have e : sortC cs=((List.range cs.length).mergeSort fun i j => leC (cs.getD i []) (cs.getD j [])).map fun i => cs.getD i []:=by
  have h1 : cs=(List.range cs.length).map fun i => cs.getD i []:=by
   apply List.ext_getElem (by simp)
   intro i h1 h2
   simp [List.getD_eq_getElem?_getD,h1]
  rw [List.map_mergeSort (r:=fun i j => leC (cs.getD i []) (cs.getD j [])) (s:=leC) (fun _ _ _ _ => rfl),← h1]
  rfl
 rw [e,List.pairwise_map]
 exact h
theorem sortC_sm {cs : List (List Int)} (hs : ∀ x ∈ cs,Sm x) : ∀ x ∈ sortC cs,Sm x:=fun x hx => hs x ((sortC_perm cs).mem_iff.1 hx)
theorem range_map_getD (cs : List (List Int)) : (List.range cs.length).map (fun i => cs.getD i [])=cs:=by
 apply List.ext_getElem (by simp)
 intro i h1 h2
 simp [List.getD_eq_getElem?_getD,h2]
theorem bitsLen_ok (n : Nat) (hn : n<=4294967296) : Ctr Try.prog 229 [.int .u64 (n : Int)] false (.d (.int .i64 (Lib.bitLen n : Nat))) []:=by
 refine ⟨⟨_,Try.func229,by kernel_rfl,by kernel_rfl⟩,fun S w vs hl hr => ?_⟩
 obtain ⟨v,rfl⟩ : ∃ v,vs=[v]:=by
  match vs,hl with
  | [a],_ => exact ⟨a,rfl⟩
 have h:=hr 0 (by simp)
 simp only [List.getD_cons_zero] at h
 cases h
 refine (Try.len_w n hn w).mono fun en w' ⟨he,hw⟩ => ⟨_,he,?_,?_⟩
 . subst hw; exact ⟨rfl,rfl,rfl,Nat.le_refl _,Nat.le_refl _,fun _ _ _ => rfl,Nat.le_refl _⟩
 . exact ⟨fun _ => Go.undef,fun _ _ => False,.d (.int _ _),fun j o hj => by simp [lk] at hj,fun j o g hj => by simp [lk] at hj,fun j j' o o' g hj => by simp [lk] at hj⟩
def zTg : Tg:=(.slice none 0 0,[])
def srtIx (cs : List (List Int)) (L : Nat) : List Nat:=(pdq (ltOf (cfC cs)) (Array.range cs.length) 0 cs.length L true true).toList
theorem srtIx_ok {cs : List (List Int)} (L : Nat) (hs : ∀ x ∈ cs,Sm x) : (srtIx cs L).Perm (List.range cs.length)∧(srtIx cs L).map (fun i => cs.getD i [])=sortC cs:=by
 have hps:=pdq_sorts (ltOf (cfC cs)) (cfC_swo hs) (Array.range cs.length) 0 (Array.range cs.length).size L true true (Nat.zero_le _) (Nat.le_refl _) (Or.inl rfl)
 unfold srtIx
 rw [Array.size_range] at hps
 generalize pdq (ltOf (cfC cs)) (Array.range cs.length) 0 cs.length L true true=d' at *
 obtain ⟨hp,hso⟩:=hps
 obtain ⟨hp1,_,hp3⟩:=hp
 simp only [Array.size_range] at hp1
 have hx1 : d'.extract 0 cs.length=d':=by rw [← hp1]; simp
 have hx2 : (Array.range cs.length).extract 0 cs.length=Array.range cs.length:=by
  have : (Array.range cs.length).size=cs.length:=by simp
  conv => lhs; rw [← this]
  simp
 rw [hx1,hx2,Array.toList_range] at hp3
 refine ⟨hp3,?_⟩
 have p1 : (d'.toList.map fun i => cs.getD i []).Perm cs:=by
  have:=hp3.map fun i => cs.getD i []
  rwa [range_map_getD] at this
 refine sorted_uniq (fun x hx => hs x (p1.mem_iff.1 hx)) (p1.trans (sortC_perm cs).symm) ?_ (sortC_sorted hs)
 rw [List.pairwise_map,List.pairwise_iff_getElem]
 intro i j hi hj hij
 have:=hso i j (Nat.zero_le _) hij (by rw [Array.length_toList] at hj; omega)
 rw [cfC_lt] at this
 have hi' : i < d'.size:=by rw [← Array.length_toList]; exact hi
 have hj' : j < d'.size:=by rw [← Array.length_toList]; exact hj
 rw [getElem!_pos d' i hi',getElem!_pos d' j hj'] at this
 simp only [Array.getElem_toList]
 unfold leC
 rw [this]; rfl
def srtT (ps : List Tg) (L : Nat) : List Tg:=(srtIx (ps.map (·.2)) L).map fun i => ps.getD i zTg
theorem srtT_perm (ps : List Tg) (L : Nat) (hs : ∀ p ∈ ps,Sm p.2) : (srtT ps L).Perm ps∧(srtT ps L).map (·.2)=sortC (ps.map (·.2)):=by
 obtain ⟨h1,h2⟩:=srtIx_ok L (cs:=ps.map (·.2)) fun x hx => by obtain ⟨p,hp,rfl⟩:=List.mem_map.1 hx; exact hs p hp
 have e : (List.range ps.length).map (fun i => ps.getD i zTg)=ps:=by
  apply List.ext_getElem (by simp)
  intro i h1 h2
  simp [List.getD_eq_getElem?_getD,h2]
 refine ⟨?_,?_⟩
 . have:=h1.map fun i => ps.getD i zTg
   rw [List.length_map,e] at this
   exact this
 . rw [← h2]
   unfold srtT
   rw [List.map_map]
   apply List.map_congr_left
   intro i hi
   have : i < ps.length:=by have:=h1.mem_iff.1 hi; simpa using this
   simp [List.getD_eq_getElem?_getD,this]
theorem tg_one (p : Tg) : (D.tg p).one=true:=by
 obtain ⟨u,c⟩:=p
 cases c<;>rfl
set_option maxHeartbeats 4000000 in
theorem pdqT_ok (ps : List Tg) (L : Nat) (hL : L<=4294967296) (h0 : ps ≠ []) (hn : ps.length<=4294967296) (hl : ∀ p ∈ ps,p.2.length<=4294967296) (hs : ∀ p ∈ ps,Sm p.2) :
 CtrM Try.prog 237 [.sl 0,.d (.int .i64 0),.d (.int .i64 (ps.length : Nat)),.d (.int .i64 (L : Nat)),.fn (.func 104) []] [(0,.arr 38 1 (ps.map D.tg))] [0] true (.tup []) [(0,.arr 38 1 ((srtT ps L).map D.tg))]:=by
 have hone : ∀ x ∈ ps.map D.tg,x.one=true:=fun x hx => by obtain ⟨c,_,rfl⟩:=List.mem_map.1 hx; exact tg_one c
 have hlen:=(srtT_perm ps L hs).1.length_eq
 refine CtrM.rowD (es:=ps.map D.tg) (es':=(srtT ps L).map D.tg) (.slice none 0 0) false ⟨_,Try.func237,by kernel_rfl,by kernel_rfl⟩ hone (by simp [hlen]) (fun _ => by simp [hlen]) fun S β w rv hl' hr => ?_
 obtain ⟨v0,v1,v2,v3,rfl⟩ : ∃ v0 v1 v2 v3,rv=[v0,v1,v2,v3]:=by
  match rv,hl' with
  | [a,b,c,d],_ => exact ⟨a,b,c,d,rfl⟩
 have e0 : v0=.int .i64 0:=by
  have:=hr 0 (by simp)
  simp only [List.getD_cons_zero] at this
  cases this with
  | d h => cases h; rfl
 have e1 : v1=.int .i64 (ps.length : Nat):=by
  have:=hr 1 (by simp)
  simp only [List.getD_cons_zero,List.getD_cons_succ] at this
  cases this with
  | d h => cases h; rfl
 have e2 : v2=.int .i64 (L : Nat):=by
  have:=hr 2 (by simp)
  simp only [List.getD_cons_zero,List.getD_cons_succ] at this
  cases this with
  | d h => cases h; rfl
 have e3 : v3=.func (.func 104) #[] #[]:=by
  have:=hr 3 (by simp)
  simp only [List.getD_cons_zero,List.getD_cons_succ] at this
  cases this with
  | fn h1 h2 => obtain rfl:=List.eq_nil_of_length_eq_zero h1; rfl
 subst e0 e1 e2 e3
 refine ⟨fun h => absurd (List.map_eq_nil_iff.1 h) h0,fun g cap xs hS hxl hxr hH hg hcap _ => ?_⟩
 have eg : ∀ args w,(callFunc 104 args).run Try.prog w=.ok (.enter 104 args) w:=enters_of Try.func104 (by kernel_rfl) rfl
 have hsC : ∀ x ∈ ps.map (·.2),Sm x:=fun x hx => by obtain ⟨p,hp,rfl⟩:=List.mem_map.1 hx; exact hs p hp
 have hlD : ∀ i,(ps.getD i zTg).2.length<=4294967296:=fun i => by
  by_cases h : i < ps.length
  . exact hl _ (getD_mem h)
  . rw [List.getD_eq_getElem?_getD,List.getElem?_eq_none (by omega)]; simp [zTg]
 have hgd : ∀ i,(ps.map D.tg).getD i (D.ints [])=D.tg (ps.getD i zTg):=fun i => by
  simp only [List.getD_eq_getElem?_getD,List.getElem?_map]
  cases ps[i]? <;> rfl
 have hcf : ∀ i,(ps.map (·.2)).getD i []=(ps.getD i zTg).2:=fun i => by
  simp only [List.getD_eq_getElem?_getD,List.getElem?_map]
  cases ps[i]? <;> rfl
 have hc : CmpLays1 Try.prog 104 #[] (mkR (.slice none 0 0) xs) (cfC (ps.map (·.2))) g 0 (Array.range (ps.map D.tg).length).size w :=
  Ctr.cmpLays (es:=ps.map D.tg) (zd:=D.ints []) (fun w => .nil _) (fun i j => by
   rw [hgd,hgd]
   unfold cfC
   rw [hcf,hcf]
   exact (compareClauses_ok _ _ (hlD i) (hlD j)).strip (by rw [D.stripL,D.stripL,D.stripL,strip_tg,strip_tg]; rfl)) hS hxl hxr
 have h:=Any.pdqsortCmpFunc_all Try.layQ (mkR (.slice none 0 0) xs) (cfC (ps.map (·.2))) 104 #[] (cfC_swo hsC) g 0 cap (Array.range (ps.map D.tg).length) w eg hc ⟨mkR_one rfl hone hxl hxr,hH,hg⟩
  ((Array.range (ps.map D.tg).length).size + 1) 0 (Array.range (ps.map D.tg).length).size L (Array.range (ps.map D.tg).length) w (by omega) rfl (SW.start hH) (Nat.zero_le _) (Nat.le_refl _) (by simp; omega) (by omega) (Or.inl rfl)
 obtain ⟨q1,q2⟩:=srtIx_ok L hsC
 have hlen2:=q1.length_eq
 unfold srtT
 unfold srtIx at *
 simp only [List.length_map,Array.size_range] at h q1 q2 hlen2 ⊢
 generalize pdq (ltOf (cfC (ps.map (·.2)))) (Array.range ps.length) 0 ps.length L true true=d' at *
 refine Calls.mono h fun en w' ⟨he,n,os,hw⟩ => ⟨he,n,d',os,?_,hw⟩
 rw [List.length_range,Array.length_toList] at hlen2
 have htake : d'.toList.take d'.toList.length=d'.toList:=List.take_length
 refine ⟨by simp [hlen2],by simp [hlen2],fun i hi => ?_,?_⟩
 . simp only [List.length_map] at hi
   rw [htake] at hi
   have:=q1.mem_iff.1 hi
   simpa using this
 . simp only [List.length_map]
   rw [htake,List.map_map]
   apply List.map_congr_left
   intro i hi
   have : i < ps.length:=by have:=q1.mem_iff.1 hi; simpa using this
   simp [List.getD_eq_getElem?_getD,this]
theorem bitLen_le' (n : Nat) (hn : n<=4294967296) : Lib.bitLen n<=4294967296:=Nat.le_trans (Lib.bitLen_le n 62 (by omega) (by omega)) (by omega)
end Abs.Y

namespace Abs.Y
open Go Go.Proofs Abs Go.Lib
set_option maxRecDepth 100000

theorem insertion0_ok : CtrM Try.prog 254 [.sl 0,.d (.int .i64 0),.d (.int .i64 0),.fn (.func 104) []] [(0,.arr 38 1 [])] [0] true (.tup []) [(0,.arr 38 1 [])]:=by
 refine CtrM.of (n:=53) (rs:=[]) Try.func254 rfl rfl Try.ntmps254 rfl rfl (by kernel_rfl) Try.checked.mixed ?_; intro u
 simp (disch:=first | omega | decide +kernel) only [go_sem,Qa,Qb,Qc,Qd,Qe,↓reduceIte,reduceCtorEq,Qf,Qg,Qh]
 refine Ok.loopN [] (fun i _ => []) (fun _ (_ : Unit) => []) 0 (fun i _ => True) () trivial (Wk.kk) ?_
 rintro R i L hN hE hi _
 obtain rfl : i=0:=by omega
 simp (disch:=first | omega | decide +kernel) only [go_sem,Qa,Qb,Qc,Qd,Qe,↓reduceIte,reduceCtorEq,Qf,Qg,Qh]
 (repeat' (first | ((first | (refine gsel_split (fun q' => ?_) (fun q' => ?_)<;>(have h':=q')<;>(try simp only [za1,za2,Ba,Bb,za3,ne_eq,za4,za5,za6,Ia,Ib,Ic,Ie,Da,Bc,Bd,Be,za7,za8] at h')<;>try (exfalso; omega)) | (have q':=trivial; first | refine hE _ _ ret_ne ?_ | refine hE _ _ exit_ne ?_))<;>(try simp (disch:=first | omega | decide +kernel) only [q',go_sem,Qa,Qb,Qc,Qd,Qe,↓reduceIte,reduceCtorEq,Qf,Qg,Qh])<;>clear q') | refine hN _ ?_ ?_ Wk.kk | with_reducible refine And.intro ?_ ?_ | with_reducible omega | exact ok_ints | exact cells_ints | exact no_mem | with_reducible exact plain_ints | (refine le_maxLen ?_; omega) | (refine za9 ⟨?_,?_⟩) | (simp only [go_sem,Qc,Qb,zb1,zb2,forall_eq]; done)))
 all_goals exact retM_n rfl rfl rfl (.inl rfl)
theorem pdq0_ok (L : Nat) : CtrM Try.prog 237 [.sl 0,.d (.int .i64 0),.d (.int .i64 0),.d (.int .i64 (L : Nat)),.fn (.func 104) []] [(0,.arr 38 1 [])] [0] true (.tup []) [(0,.arr 38 1 [])]:=by
 have c1:=insertion0_ok
 refine CtrM.of (n:=148) (rs:=[]) Try.func237 rfl rfl Try.ntmps237 rfl rfl (by kernel_rfl) Try.checked.mixed ?_; intro u
 simp (disch:=first | omega | decide +kernel) only [go_sem,Qa,Qb,Qc,Qd,Qe,↓reduceIte,reduceCtorEq,Qf,Qg,Qh]
 refine Ok.loopN [] (fun i _ => []) (fun _ (_ : Unit) => []) 0 (fun i _ => True) () trivial (Wk.kk) ?_
 rintro R i Z hN hE hi _
 obtain rfl : i=0:=by omega
 simp (disch:=first | omega | decide +kernel) only [go_sem,Qa,Qb,Qc,Qd,Qe,↓reduceIte,reduceCtorEq,Qf,Qg,Qh]
 (repeat' (first | ((first | (refine gsel_split (fun q' => ?_) (fun q' => ?_)<;>(have h':=q')<;>(try simp only [za1,za2,Ba,Bb,za3,ne_eq,za4,za5,za6,Ia,Ib,Ic,Ie,Da,Bc,Bd,Be,za7,za8] at h')<;>try (exfalso; omega)) | (have q':=trivial; first | refine callX_mut [0] [0] [] (c1) ⟨.inl rfl,.inl rfl,.inl rfl,.inl rfl,trivial⟩ ⟨rfl,trivial⟩ rfl (by simp [dstB]) ?_ | refine hE _ _ ret_ne ?_ | refine hE _ _ exit_ne ?_))<;>(try simp (disch:=first | omega | decide +kernel) only [q',go_sem,Qa,Qb,Qc,Qd,Qe,↓reduceIte,reduceCtorEq,Qf,Qg,Qh])<;>clear q') | refine hN _ ?_ ?_ Wk.kk | with_reducible refine And.intro ?_ ?_ | with_reducible omega | exact ok_ints | exact cells_ints | exact no_mem | with_reducible exact plain_ints | (refine le_maxLen ?_; omega) | (refine za9 ⟨?_,?_⟩) | (simp only [go_sem,Qc,Qb,zb1,zb2,forall_eq]; done)))
 all_goals first | exact retM_n rfl rfl rfl (.inl rfl) | exact retM_u rfl rfl rfl (.inl rfl)
theorem sortT_ok (ps : List Tg) (hn : ps.length<=4294967296) (hl : ∀ p ∈ ps,p.2.length<=4294967296) (hs : ∀ p ∈ ps,Sm p.2) :
 CtrM Try.prog 221 [.sl 0,.fn (.func 104) []] [(0,.arr 38 1 (ps.map D.tg))] [0] true (.tup []) [(0,.arr 38 1 ((srtT ps (Lib.bitLen ps.length)).map D.tg))]:=by
 have c1:=bitsLen_ok ps.length hn
 have c2 : CtrM Try.prog 237 [.sl 0,.d (.int .i64 0),.d (.int .i64 (ps.length : Nat)),.d (.int .i64 (Lib.bitLen ps.length : Nat)),.fn (.func 104) []] [(0,.arr 38 1 (ps.map D.tg))] [0] true (.tup []) [(0,.arr 38 1 ((srtT ps (Lib.bitLen ps.length)).map D.tg))]:=by
  by_cases h0 : ps=[]
  . subst h0
    have e:=(srtT_perm [] (Lib.bitLen 0) (fun p hp => nomatch hp)).1
    rw [List.length_nil,List.perm_nil.1 e]
    exact pdq0_ok _
  . exact pdqT_ok ps _ (bitLen_le' _ hn) h0 hn hl hs
 have hw : IntKind.u64.wrap (ps.length : Int)=(ps.length : Nat):=by simp [IntKind.wrap,IntKind.bits,IntKind.signed]; omega
 refine CtrM.of (n:=14) (rs:=[]) Try.func221 rfl rfl Try.ntmps221 rfl rfl (by kernel_rfl) Try.checked.mixed ?_; intro u
 simp (disch:=first | omega | decide +kernel) only [List.length_map,hw,go_sem,Qa,Qb,Qc,Qd,Qe,↓reduceIte,reduceCtorEq,Qf,Qg,Qh]
 (repeat' (first | ((first | (refine gsel_split (fun q' => ?_) (fun q' => ?_)<;>(have h':=q')<;>(try simp only [za1,za2,Ba,Bb,za3,ne_eq,za4,za5,za6,Ia,Ib,Ic,Ie,Da,Bc,Bd,Be,za7,za8] at h')<;>try (exfalso; omega)) | (have q':=trivial; first | refine callX_new (c1) rfl (by decide) ?_ | refine callY_new (c1) rfl ?_ | refine callX_mut [0] [0] [] (c2) ⟨.inl rfl,.inl rfl,.inl rfl,.inl rfl,.inl rfl,trivial⟩ ⟨rfl,trivial⟩ rfl (by simp [dstB]) ?_ | refine hE _ _ ret_ne ?_ | refine hE _ _ exit_ne ?_))<;>(try simp (disch:=first | omega | decide +kernel) only [q',List.length_map,hw,go_sem,Qa,Qb,Qc,Qd,Qe,↓reduceIte,reduceCtorEq,Qf,Qg,Qh])<;>clear q') | refine hN _ ?_ ?_ Wk.kk | with_reducible refine And.intro ?_ ?_ | with_reducible omega | exact ok_ints | exact cells_ints | exact no_mem | with_reducible exact plain_ints | (refine le_maxLen ?_; omega) | (refine za9 ⟨?_,?_⟩) | (simp only [go_sem,Qc,Qb,zb1,zb2,forall_eq]; done)))
 all_goals first | exact retM_n rfl rfl rfl (.inl rfl) | exact retM_u rfl rfl rfl (.inl rfl)
end Abs.Y
