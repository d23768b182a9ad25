/- What functions of this program compute, over plain data. No condition. -/
import Derived.Test.YtndjinajjejmlaaK2
import Derived.Test.YtndjinajjejmlaaW11
import Derived.Test.YtndjinajjejmlaaAbsAny7
set_option linter.all false
open Nat renaming reduceEqDiff -> Qa, reduceLT -> Qb, reduceAdd -> Qc, reduceMul -> Qd, reduceSub -> Qe, reduceLeDiff -> Qf, reduceSubDiff -> Qg, reduceBEq -> Qh
open Bool renaming not_eq_true' -> Ba, not_eq_false' -> Bb, and_eq_true -> Bc, or_eq_true -> Bh, or_eq_false_iff -> Be
open Int renaming ofNat_lt -> Ia, ofNat_le -> Ib, not_lt -> Ic, not_le -> Ie
open Decidable renaming not_not -> Da
namespace Abs
open Go Go.RowKit Go.Proofs
theorem setCells_blk {g : Nat} {e : TypeId} {r} : ∀ (vs : List Value) (o : Nat) (w : World) (cur : Array Value),w.heap[g]? = some (.cells cur e r)->o + vs.length<=cur.size ->
 ∃ cur',(w.setCells g o vs).heap[g]? = some (.cells cur' e r)∧cur'.size=cur.size∧∀ i,cur'[i]? = if o<=i∧i < o + vs.length then vs[i - o]? else cur[i]?
 | [],o,w,cur,h,_ => ⟨cur,h,rfl,fun i => by rw [if_neg (by simp)]⟩
 | v :: r', o, w, cur, h, hl => by
   have h1 : (w.setCell ⟨g,o,none⟩ v).heap[g]? = some (.cells (cur.setIfInBounds o v) e r):=by
    simp [World.setCell,Array.getElem?_modify,h]
   simp only [List.length_cons] at hl
   obtain ⟨cur',h2,h3,h4⟩:=setCells_blk r' (o + 1) _ _ h1 (by simp; omega)
   refine ⟨cur',h2,by rw [h3]; simp,fun i => ?_⟩
   rw [h4 i]
   simp only [List.length_cons]
   by_cases e1 : i=o
   . subst e1
     rw [if_neg (by omega),if_pos (by omega),Nat.sub_self,Array.getElem?_setIfInBounds,if_pos rfl,if_pos (by omega)]; rfl
   . by_cases e2 : o + 1<=i∧i < o + 1 + r'.length
     . rw [if_pos e2,if_pos (by omega)]
       obtain ⟨j,rfl⟩ : ∃ j,i=o + 1 + j:=⟨i - (o + 1),by omega⟩
       rw [show o + 1 + j - (o + 1)=j by omega,show o + 1 + j - o=j + 1 by omega]; simp
     . rw [if_neg e2,if_neg (by omega)]
       rw [Array.getElem?_setIfInBounds]
       rw [if_neg (by omega)]
theorem setCells_oth {g k : Nat} (h : k ≠ g) : ∀ (vs : List Value) (o : Nat) (w : World),(w.setCells g o vs).heap[k]? = w.heap[k]?
 | [],_,_ => rfl
 | v :: r, o, w => by
   show ((w.setCell ⟨g,o,none⟩ v).setCells g (o + 1) r).heap[k]? = _
   rw [setCells_oth h r]
   simp only [World.setCell,Array.getElem?_modify]
   rw [if_neg (Ne.symm h)]
theorem setCells_fr {g : Nat} : ∀ (vs : List Value) (o : Nat) (w : World),(w.setCells g o vs).heap.size=w.heap.size∧(w.setCells g o vs).os=w.os∧(w.setCells g o vs).tape=w.tape∧(w.setCells g o vs).output=w.output∧(w.setCells g o vs).drawn=w.drawn
 | [],_,_ => ⟨rfl,rfl,rfl,rfl,rfl⟩
 | v :: r, o, w => by
   have h:=setCells_fr (g:=g) r (o + 1) (w.setCell ⟨g,o,none⟩ v)
   refine ⟨h.1.trans ?_,h.2⟩
   simp [World.setCell]
def D.intV : D->Value
 | .int k n => .int k n
 | _ => Go.undef
theorem arr_openK {β S w e k es v F} (hne : es ≠ []) (hint : ∀ x ∈ flat es,∃ n,x=.int .i64 n) (h : OK β S w (.arr e k es) v F) : 0 < k∧F=ownS v∧(flat es).length=es.length * k∧∃ g cap cur,v=.slice (some ⟨g,0,none⟩) es.length cap ∧
 w.heap[g]? = some (.cells cur e (0,0))∧es.length<=cap∧cap<=maxLen∧cur.size=cap * k∧∀ i,i < (flat es).length->cur[i]? = some ((flat es).getD i .nilptr).intV:=by
 cases h with
 | arr hF xs hk0 hk hw hr =>
   have hfl:=flat_len hk
   refine ⟨hk0,hF,hfl,?_⟩
   rcases hw.2 with ⟨_,h2⟩ | ⟨g,cap,cur,h1,_,h3,h4,h5,h6,h7⟩
   . exact absurd (List.length_eq_zero_iff.1 h2) hne
   . refine ⟨g,cap,cur,h1,h3,h4,h5,h6,fun i hi => ?_⟩
     have h8:=hr i hi
     obtain ⟨n,hn⟩:=hint ((flat es).getD i .nilptr) (by rw [List.getD_eq_getElem?_getD,List.getElem?_eq_getElem hi]; exact List.getElem_mem _)
     rw [hn] at h8 ⊢
     have h9 : xs[i]? = some (.int .i64 n):=by
      rw [List.getD_eq_getElem?_getD] at h8
      have hx : i < xs.length:=by rw [hw.1,← hfl]; exact hi
      rw [List.getElem?_eq_getElem hx] at h8 ⊢
      simp only [Option.getD_some] at h8
      generalize xs[i]=y at *
      cases h8; rfl
     rw [← h7,List.getElem?_take,if_pos (by omega),Array.getElem?_toList] at h9
     exact h9
theorem arr_closeK {β' S' w' e k g cap} {cur' : Array Value} {es' : List D} (hk0 : 0 < k) (hk : ∀ x ∈ es',x.cells.length=k) (hint : ∀ x ∈ flat es',∃ n,x=.int .i64 n) (hb : w'.heap[g]? = some (.cells cur' e (0,0))) (hcap : es'.length<=cap) (hm : cap<=maxLen) (hsz : cur'.size=cap * k)
 (hr : ∀ i,i < (flat es').length->cur'[i]? = some ((flat es').getD i .nilptr).intV) :
 OK β' S' w' (.arr e k es') (.slice (some ⟨g,0,none⟩) es'.length cap) (ownS (.slice (some ⟨g,0,none⟩) es'.length cap)):=by
 have hfl:=flat_len hk
 have hmul : es'.length * k<=cap * k:=Nat.mul_le_mul_right k hcap
 refine .arr rfl (cur'.toList.take (es'.length * k)) hk0 hk ⟨by rw [List.length_take,Array.length_toList (xs:=cur'),hsz]; exact Nat.min_eq_left hmul,.inr ⟨g,cap,cur',rfl,Nat.zero_le _,hb,hcap,hm,hsz,rfl⟩⟩ fun i hi => ?_
 obtain ⟨n,hn⟩:=hint ((flat es').getD i .nilptr) (by rw [List.getD_eq_getElem?_getD,List.getElem?_eq_getElem hi]; exact List.getElem_mem _)
 have h1:=hr i hi
 rw [hn] at h1 ⊢
 have h2 : (cur'.toList.take (es'.length * k)).getD i Go.undef=.int .i64 n:=by
  rw [List.getD_eq_getElem?_getD,List.getElem?_take,if_pos (by omega),Array.getElem?_toList,h1]; rfl
 rw [h2]; exact .int _ _
theorem CtrM.rowK {P : Program} {f : FuncId} {rest : List AV} {e : TypeId} {k : Nat} {es es' : List D} {sh : Bool} (hent : Enters P f) (hk : ∀ x ∈ es',x.cells.length=k) (hint : ∀ x ∈ flat es,∃ n,x=.int .i64 n) (hint' : ∀ x ∈ flat es',∃ n,x=.int .i64 n) (hne : es ≠ []) (hl : es'.length<=es.length)
 (h : ∀ (S : Nat->Prop) (β : Nat->Value) (w : World) (rv : List Value),rv.length=rest.length->(∀ i,i < rest.length->Rel β S w (rest.getD i .undef) (rv.getD i Go.undef)) ->
  ∀ g cap cur,w.heap[g]? = some (.cells cur e (0,0))->es.length<=cap->cap<=maxLen->cur.size=cap * k->(∀ i,i < (flat es).length->cur[i]? = some (((flat es).getD i .nilptr).intV)) ->
   Calls P f (.slice (some ⟨g,0,none⟩) es.length cap :: rv).toArray w fun en w' => en=.returned (.slice (some ⟨g,0,none⟩) es'.length cap)∧Fr w.heap.size (·=g) w w' ∧
    ∃ cur',w'.heap[g]? = some (.cells cur' e (0,0))∧cur'.size=cur.size∧∀ i,i < (flat es').length->cur'[i]? = some (((flat es').getD i .nilptr).intV)) :
 CtrM P f (.sl 0 :: rest) [(0,.arr e k es)] [] sh (.sl 0) [(0,.arr e k es')]:=by
 refine ⟨hent,fun S β φ w vs hvl hvr hO hD => ?_⟩
 cases vs with
 | nil => simp at hvl
 | cons v rv =>
   have h2:=h (free S φ [(0,.arr e k es)]) β w rv (by simpa using hvl) fun i hi => by simpa using hvr (i + 1) (by simpa using hi)
   have hv : v=β 0:=by
    have:=hvr 0 (by simp)
    simp only [List.getD_cons_zero] at this
    cases this; rfl
   obtain ⟨hk0,hFo,hfl,g,cap,cur,h3,h4,h5,h6,h7,h8⟩:=arr_openK hne hint (hO 0 (.arr e k es) (by simp [lk]))
   have one : ∀ {j : Nat} {o : AO} {l : List D},lk j [(0,AO.arr e k l)]=some o->j=0∧o=.arr e k l:=fun hj => by
    simp only [lk] at hj
    split at hj
    . rename_i e'; cases hj; exact ⟨e',rfl⟩
    . cases hj
   have hM : blocksOf φ [(0,AO.arr e k es)] g:=⟨0,.arr e k es,by simp [lk],by rw [hFo,h3]; rfl⟩
   rw [hv,h3]
   refine (h2 g cap cur h4 h5 h6 h7 h8).mono fun en w' ⟨he,hFr,cur',h9,h10,h11⟩ => ⟨_,he,?_,?_⟩
   . exact ⟨hFr.os,hFr.tape,hFr.output,hFr.le,hFr.size,fun b hb hn => hFr.block b hb fun e' => hn (by rw [e']; exact hM),hFr.drawn⟩
   . refine ⟨fun _ => .slice (some ⟨g,0,none⟩) es'.length cap,fun _ => ownS (.slice (some ⟨g,0,none⟩) es'.length cap),by simp,?_,fun j o hj => ?_,fun j o g' hj hg => ?_,fun j j' o o' g hj hj' _ _ => ?_⟩
     . exact Rel.sl (β:=fun _ => Value.slice (some ⟨g,0,none⟩) es'.length cap) 0
     . obtain ⟨rfl,rfl⟩:=one hj
       exact arr_closeK hk0 hk hint' h9 (by omega) h6 (by omega) h11
     . obtain ⟨rfl,rfl⟩:=one hj
       cases hg
       exact .inr hM
     . rw [(one hj).1,(one hj').1]
end Abs
namespace Abs.Y
open Go Go.Proofs Abs Go.RowKit
set_option maxRecDepth 100000
def flE (es : List (Int × Int)) : List Int:=es.flatMap fun e => [e.1,e.2]
theorem flat_ed (es : List (Int × Int)) : flat (es.map D.ed)=(flE es).map (.int .i64):=by
 induction es with
 | nil => rfl
 | cons e r ih => simp only [flat,flE,List.map_cons,List.flatMap_cons,List.map_append] at ih ⊢; rw [ih]; rfl
theorem flE_len (es : List (Int × Int)) : (flE es).length=es.length * 2:=by
 induction es with
 | nil => rfl
 | cons e r ih => simp only [flE,List.flatMap_cons,List.length_append,List.length_cons,List.length_nil] at ih ⊢; omega
theorem flE_app (a b : List (Int × Int)) : flE (a++b)=flE a++flE b:=by simp [flE]
theorem deleteE_ok (es : List (Int × Int)) (i : Nat) (a b : Int) (ha : a=i) (hb : b=(i : Int) + 1) (hi : i < es.length) (hn : es.length<=4294967296) :
 CtrM Try.prog 37 [.sl 0,.d (.int .i64 a),.d (.int .i64 b)] [(0,.arr 55 2 (es.map D.ed))] [] false (.sl 0) [(0,.arr 55 2 ((es.take i++es.drop (i + 1)).map D.ed))]:=by
 have hint : ∀ es : List (Int × Int),∀ x ∈ flat (es.map D.ed),∃ n,x=D.int .i64 n:=fun es x hx => by
  rw [flat_ed] at hx
  obtain ⟨n,_,rfl⟩:=List.mem_map.1 hx; exact ⟨n,rfl⟩
 have hel : (es.take i++es.drop (i + 1)).length=es.length - 1:=by simp; omega
 refine CtrM.rowK (rest:=[.d (.int .i64 a),.d (.int .i64 b)]) ⟨_,Try.func37,by kernel_rfl,by kernel_rfl⟩ (fun x hx => by obtain ⟨e,_,rfl⟩:=List.mem_map.1 hx; rfl) (hint es) (hint _) (by intro h; rw [List.map_eq_nil_iff] at h; rw [h] at hi; simp at hi) (by rw [List.length_map,List.length_map,hel]; omega) fun S β w rv hl' hr g cap cur hb' hcap hm hsz hcur => ?_
 obtain ⟨v,v',rfl⟩ : ∃ v v',rv=[v,v']:=by
  match rv,hl' with
  | [a,b],_ => exact ⟨a,b,rfl⟩
 have hv : v=.int .i64 a:=by
  have:=hr 0 (by simp)
  simp only [List.getD_cons_zero] at this
  cases this with
  | d h => cases h; rfl
 have hv' : v'=.int .i64 b:=by
  have:=hr 1 (by simp)
  simp only [List.getD_cons_succ,List.getD_cons_zero] at this
  cases this with
  | d h => cases h; rfl
 subst hv hv' ha hb
 simp only [List.length_map] at hcap ⊢
 rw [flat_ed,List.length_map,flE_len] at hcur
 have hcv : ∀ t,t < es.length * 2->cur[t]? = some (.int .i64 ((flE es).getD t 0)):=fun t ht => by
  rw [hcur t ht,List.getD_eq_getElem?_getD,List.getElem?_map,List.getD_eq_getElem?_getD,List.getElem?_eq_getElem (by rw [flE_len]; exact ht)]; rfl
 have h:=Try.delE_w g cap i es.length hi hcap hm cur w hb' hsz fun t v ht hv => by rw [hcv t ht] at hv; cases hv; rfl
 have hpl : ((cur.toList.take (es.length * 2)).drop ((i + 1) * 2)).length=(es.length - (i + 1)) * 2:=by
  rw [List.length_drop,List.length_take,Array.length_toList (xs:=cur)]
  have : es.length * 2<=cur.size:=by omega
  rw [Nat.min_eq_left this]
  omega
 refine Calls.mono h fun en w' ⟨he,hw⟩ => ⟨by rw [he,hel],?_,?_⟩
 . subst hw
   obtain ⟨e1,e2,e3,e4,e5⟩:=setCells_fr (g:=g) [Value.int .i64 0,.int .i64 0] ((es.length - 1) * 2) (w.drew.setCells g (i * 2) ((cur.toList.take (es.length * 2)).drop ((i + 1) * 2)))
   obtain ⟨f1,f2,f3,f4,f5⟩:=setCells_fr (g:=g) ((cur.toList.take (es.length * 2)).drop ((i + 1) * 2)) (i * 2) w.drew
   refine ⟨by rw [e2,f2]; rfl,by rw [e3,f3]; rfl,by rw [e4,f4]; rfl,?_,?_,fun b hb hne => ?_,?_⟩
   . rw [e1,f1]; exact Nat.le_refl _
   . rw [e1,f1]; exact Nat.le_refl _
   . rw [setCells_oth hne,setCells_oth hne]; rfl
   . rw [e5,f5]; show w.drawn<=w.drawn + 1; omega
 . subst hw
   have hbd : w.drew.heap[g]? = some (.cells cur 55 (0,0)):=hb'
   obtain ⟨c1,g1,g2,g3⟩:=setCells_blk ((cur.toList.take (es.length * 2)).drop ((i + 1) * 2)) (i * 2) w.drew cur hbd (by rw [hpl,hsz]; omega)
   obtain ⟨c2,g4,g5,g6⟩:=setCells_blk [Value.int .i64 0,.int .i64 0] ((es.length - 1) * 2) _ c1 g1 (by rw [g2,hsz]; simp only [List.length_cons,List.length_nil]; omega)
   refine ⟨c2,g4,by rw [g5,g2],fun t ht => ?_⟩
   rw [flat_ed,List.length_map,flE_len,hel] at ht
   rw [g6 t,if_neg (by omega),g3 t,hpl,flat_ed]
   have hR : (((flE (es.take i++es.drop (i + 1))).map (D.int .i64)).getD t .nilptr).intV=.int .i64 ((flE (es.take i++es.drop (i + 1))).getD t 0):=by
    rw [List.getD_eq_getElem?_getD,List.getElem?_map,List.getD_eq_getElem?_getD,List.getElem?_eq_getElem (by rw [flE_len,hel]; exact ht)]; rfl
   rw [hR,flE_app]
   have hE : flE es=flE (es.take (i + 1))++flE (es.drop (i + 1)):=by rw [← flE_app,List.take_append_drop]
   have hE' : flE es=flE (es.take i)++flE (es.drop i):=by rw [← flE_app,List.take_append_drop]
   have l1 : (flE (es.take i)).length=i * 2:=by rw [flE_len,List.length_take]; congr 1; omega
   have l2 : (flE (es.take (i + 1))).length=(i + 1) * 2:=by rw [flE_len,List.length_take]; congr 1; omega
   by_cases hti : i * 2<=t
   . rw [if_pos (by omega),List.getElem?_drop,List.getElem?_take,if_pos (by omega),Array.getElem?_toList,hcv _ (by omega)]
     congr 2
     rw [hE,List.getD_eq_getElem?_getD,List.getD_eq_getElem?_getD,List.getElem?_append_right (by omega),List.getElem?_append_right (by omega)]
     congr 2; omega
   . rw [if_neg (by omega),hcv t (by omega)]
     refine congrArg (fun n => some (Value.int .i64 n)) ?_
     rw [hE',List.getD_eq_getElem?_getD,List.getD_eq_getElem?_getD,List.getElem?_append_left (by omega),List.getElem?_append_left (by omega)]
theorem flat_intsZ (es : List Int) : flat (es.map (D.int .i64))=es.map (D.int .i64):=by
 induction es with
 | nil => rfl
 | cons e r ih => simp only [flat,List.map_cons,List.flatMap_cons] at ih ⊢; rw [ih]; rfl
theorem deleteZ_ok (es : List Int) (i : Nat) (a b : Int) (ha : a=i) (hb : b=(i : Int) + 1) (hi : i < es.length) (hn : es.length<=4294967296) :
 CtrM Try.prog 47 [.sl 0,.d (.int .i64 a),.d (.int .i64 b)] [(0,.arr 3 1 (es.map (D.int .i64)))] [] false (.sl 0) [(0,.arr 3 1 ((es.take i++es.drop (i + 1)).map (D.int .i64)))]:=by
 have hint : ∀ es : List Int,∀ x ∈ flat (es.map (D.int .i64)),∃ n,x=D.int .i64 n:=fun es x hx => by
  rw [flat_intsZ] at hx
  obtain ⟨n,_,rfl⟩:=List.mem_map.1 hx; exact ⟨n,rfl⟩
 have hel : (es.take i++es.drop (i + 1)).length=es.length - 1:=by simp; omega
 refine CtrM.rowK (rest:=[.d (.int .i64 a),.d (.int .i64 b)]) ⟨_,Try.func47,by kernel_rfl,by kernel_rfl⟩ (fun x hx => by obtain ⟨e,_,rfl⟩:=List.mem_map.1 hx; rfl) (hint es) (hint _) (by intro h; rw [List.map_eq_nil_iff] at h; rw [h] at hi; simp at hi) (by rw [List.length_map,List.length_map,hel]; omega) fun S β w rv hl' hr g cap cur hb' hcap hm hsz hcur => ?_
 obtain ⟨v,v',rfl⟩ : ∃ v v',rv=[v,v']:=by
  match rv,hl' with
  | [a,b],_ => exact ⟨a,b,rfl⟩
 have hv : v=.int .i64 a:=by
  have:=hr 0 (by simp)
  simp only [List.getD_cons_zero] at this
  cases this with
  | d h => cases h; rfl
 have hv' : v'=.int .i64 b:=by
  have:=hr 1 (by simp)
  simp only [List.getD_cons_succ,List.getD_cons_zero] at this
  cases this with
  | d h => cases h; rfl
 subst hv hv' ha hb
 simp only [List.length_map] at hcap ⊢
 rw [flat_intsZ,List.length_map] at hcur
 have hcv : ∀ t,t < es.length->cur[t]? = some (.int .i64 (es.getD t 0)):=fun t ht => by
  rw [hcur t ht,List.getD_eq_getElem?_getD,List.getElem?_map,List.getD_eq_getElem?_getD,List.getElem?_eq_getElem ht]; rfl
 have h:=Try.delI_w g cap i es.length hi hcap hm cur w hb' (by omega) fun t v ht hv => by rw [hcv t ht] at hv; cases hv; rfl
 have hpl : ((cur.toList.take (es.length)).drop ((i + 1))).length=(es.length - (i + 1)):=by
  rw [List.length_drop,List.length_take,Array.length_toList (xs:=cur)]
  have : es.length<=cur.size:=by omega
  rw [Nat.min_eq_left this]
 refine Calls.mono h fun en w' ⟨he,hw⟩ => ⟨by rw [he,hel],?_,?_⟩
 . subst hw
   obtain ⟨e1,e2,e3,e4,e5⟩:=setCells_fr (g:=g) [Value.int .i64 0] ((es.length - 1)) (w.drew.setCells g (i) ((cur.toList.take (es.length)).drop ((i + 1))))
   obtain ⟨f1,f2,f3,f4,f5⟩:=setCells_fr (g:=g) ((cur.toList.take (es.length)).drop ((i + 1))) (i) w.drew
   refine ⟨by rw [e2,f2]; rfl,by rw [e3,f3]; rfl,by rw [e4,f4]; rfl,?_,?_,fun b hb hne => ?_,?_⟩
   . rw [e1,f1]; exact Nat.le_refl _
   . rw [e1,f1]; exact Nat.le_refl _
   . rw [setCells_oth hne,setCells_oth hne]; rfl
   . rw [e5,f5]; show w.drawn<=w.drawn + 1; omega
 . subst hw
   have hbd : w.drew.heap[g]? = some (.cells cur 3 (0,0)):=hb'
   obtain ⟨c1,g1,g2,g3⟩:=setCells_blk ((cur.toList.take (es.length)).drop ((i + 1))) (i) w.drew cur hbd (by rw [hpl,hsz]; omega)
   obtain ⟨c2,g4,g5,g6⟩:=setCells_blk [Value.int .i64 0] ((es.length - 1)) _ c1 g1 (by rw [g2,hsz]; simp only [List.length_cons,List.length_nil]; omega)
   refine ⟨c2,g4,by rw [g5,g2],fun t ht => ?_⟩
   rw [flat_intsZ,List.length_map,hel] at ht
   rw [g6 t,if_neg (by omega),g3 t,hpl,flat_intsZ]
   have hR : (((es.take i++es.drop (i + 1)).map (D.int .i64)).getD t .nilptr).intV=.int .i64 ((es.take i++es.drop (i + 1)).getD t 0):=by
    rw [List.getD_eq_getElem?_getD,List.getElem?_map,List.getD_eq_getElem?_getD,List.getElem?_eq_getElem (by rw [hel]; exact ht)]; rfl
   rw [hR]
   have l1 : (es.take i).length=i:=by rw [List.length_take]; omega
   have l2 : (es.take (i + 1)).length=(i + 1):=by rw [List.length_take]; omega
   by_cases hti : i<=t
   . rw [if_pos (by omega),List.getElem?_drop,List.getElem?_take,if_pos (by omega),Array.getElem?_toList,hcv _ (by omega)]
     congr 2
     rw [List.getD_eq_getElem?_getD,List.getD_eq_getElem?_getD,List.getElem?_append_right (by omega),List.getElem?_drop]
     congr 2; omega
   . rw [if_neg (by omega),hcv t (by omega)]
     refine congrArg (fun n => some (Value.int .i64 n)) ?_
     rw [List.getD_eq_getElem?_getD,List.getD_eq_getElem?_getD,List.getElem?_append_left (by omega),List.getElem?_take,if_pos (by omega)]
end Abs.Y

namespace Abs.Y
open Go Go.Proofs Abs
set_option maxRecDepth 100000

set_option maxHeartbeats 4000000 in
theorem removeI1_ok (g : Chg) (k : Int) (hb : edB g k=true) : Ctr Try.prog 13 [D.chg g,.int .i64 k,.int .i64 1] true (.tup [.d (D.chg (remG g k.toNat 1)),.d (.bool true)]) []:=by
 obtain ⟨hb1,hb2⟩:=Bool.and_eq_true_iff.1 hb
 have hg:=good_iff.1 hb1
 have hk:=inE_lt hb2
 have hn:=hg.n1
 have hm:=hg.m
 have hcl:=hg.c
 have c1:=isCharged_ok g (by omega) (by omega)
 have c2:=isEdge_ok g k (by omega)
 rw [hb1] at c1
 rw [hb2] at c2
 have c3 : Ctr Try.prog 35 [.int .i64 1,.int .i64 0,.int .i64 1] false (.d (.bool true)) []:=within_ok 1 0 1
 have c4:=cloneG_ok g (by omega) (by omega)
 have c5:=flippedO_ok g hg k.toNat hk.2
 rw [show ((k.toNat : Nat) : Int)=k by omega] at c5
 have c6:=deleteE_ok g.ed k.toNat k (k + 1) (by omega) (by omega) hk.2 (by omega)
 have he : remG g k.toNat 1=⟨g.n,g.ed.take k.toNat++g.ed.drop (k.toNat + 1),flipC g.ch (g.ed.getD k.toNat (0,0))⟩:=by
  show (⟨_,_,_⟩ : Chg)=_
  rw [erase_split]; rfl
 rw [he]
 generalize g.ed.take k.toNat++g.ed.drop (k.toNat + 1)=ed2 at *
 simp only [D.chg,D.ints] at c1 c2 c4 c5
 generalize flipC g.ch (g.ed.getD k.toNat (0,0))=ch2 at *
 refine Ctr.ofK (n:=39) (rs:=[.cell 6 27,.tmp 7]) Try.func13 rfl rfl Try.ntmps13 rfl rfl (by kernel_rfl) Try.checked.mixed ?_
 refine Ok.seq (Ok.go ?_)
 simp (disch:=first | omega | decide +kernel) only [D.chg,D.ints,go_sem,Qa,Qb,Qc,Qd,Qe,↓reduceIte,reduceCtorEq,Qf,Qg,Qh]
 (repeat' (first | ((first | (refine gsel_split (fun q' => ?_) (fun q' => ?_)<;>(have h':=q')<;>(try simp only [za1,za2,Ba,Bb,za3,ne_eq,za4,za5,za6,Ia,Ib,Ic,Ie,Da,Bc,Bh,Be,za7,za8] at h')<;>try (exfalso; omega)) | (have q':=trivial; first | refine hE _ _ ret_ne ?_ | refine hE _ _ exit_ne ?_))<;>(try simp (disch:=first | omega | decide +kernel) only [q',go_sem,Qa,Qb,Qc,Qd,Qe,↓reduceIte,reduceCtorEq,Qf,Qg,Qh])<;>clear q') | with_reducible refine And.intro ?_ ?_ | with_reducible omega | (refine le_maxLen ?_; omega)))
 refine Ok.seq (Ok.go ?_)
 simp (disch:=first | omega | decide +kernel) only [D.chg,D.ints,go_sem,Qa,Qb,Qc,Qd,Qe,↓reduceIte,reduceCtorEq,Qf,Qg,Qh]
 (repeat' (first | ((first | (refine gsel_split (fun q' => ?_) (fun q' => ?_)<;>(have h':=q')<;>(try simp only [za1,za2,Ba,Bb,za3,ne_eq,za4,za5,za6,Ia,Ib,Ic,Ie,Da,Bc,Bh,Be,za7,za8] at h')<;>try (exfalso; omega)) | (have q':=trivial; first | refine callX_new (c1) rfl (by decide) ?_ | refine callY_new (c1) rfl ?_ | refine callX_new (c2) rfl (by decide) ?_ | refine callY_new (c2) rfl ?_ | refine callX_new (c3) rfl (by decide) ?_ | refine callY_new (c3) rfl ?_ | refine hE _ _ ret_ne ?_ | refine hE _ _ exit_ne ?_))<;>(try simp (disch:=first | omega | decide +kernel) only [q',go_sem,Qa,Qb,Qc,Qd,Qe,↓reduceIte,reduceCtorEq,Qf,Qg,Qh])<;>clear q') | with_reducible refine And.intro ?_ ?_ | with_reducible omega | (refine le_maxLen ?_; omega)))
 refine Ok.seq (Ok.go ?_)
 simp (disch:=first | omega | decide +kernel) only [go_sem,Qa,Qb,Qc,Qd,Qe,↓reduceIte,reduceCtorEq,Qf,Qg,Qh]
 (repeat' (first | ((first | (refine gsel_split (fun q' => ?_) (fun q' => ?_)<;>(have h':=q')<;>(try simp only [za1,za2,Ba,Bb,za3,ne_eq,za4,za5,za6,Ia,Ib,Ic,Ie,Da,Bc,Bh,Be,za7,za8] at h')<;>try (exfalso; omega)) | (have q':=trivial; first | refine callX_new (c4) rfl (by decide) ?_ | refine callY_new (c4) rfl ?_ | refine hE _ _ ret_ne ?_ | refine hE _ _ exit_ne ?_))<;>(try simp (disch:=first | omega | decide +kernel) only [q',go_sem,Qa,Qb,Qc,Qd,Qe,↓reduceIte,reduceCtorEq,Qf,Qg,Qh])<;>clear q') | with_reducible refine And.intro ?_ ?_ | with_reducible omega | (refine le_maxLen ?_; omega)))
 refine Ok.seq (Ok.go ?_)
 simp (disch:=first | omega | decide +kernel) only [go_sem,Qa,Qb,Qc,Qd,Qe,↓reduceIte,reduceCtorEq,Qf,Qg,Qh]
 (repeat' (first | ((first | (refine gsel_split (fun q' => ?_) (fun q' => ?_)<;>(have h':=q')<;>(try simp only [za1,za2,Ba,Bb,za3,ne_eq,za4,za5,za6,Ia,Ib,Ic,Ie,Da,Bc,Bh,Be,za7,za8] at h')<;>try (exfalso; omega)) | (have q':=trivial; first | refine callX_new (c5) rfl (by decide) ?_ | refine callY_new (c5) rfl ?_ | refine hE _ _ ret_ne ?_ | refine hE _ _ exit_ne ?_))<;>(try simp (disch:=first | omega | decide +kernel) only [q',go_sem,Qa,Qb,Qc,Qd,Qe,↓reduceIte,reduceCtorEq,Qf,Qg,Qh])<;>clear q') | with_reducible refine And.intro ?_ ?_ | with_reducible omega | (refine le_maxLen ?_; omega)))
 refine Ok.seq (Ok.go ?_)
 simp (disch:=first | omega | decide +kernel) only [go_sem,Qa,Qb,Qc,Qd,Qe,↓reduceIte,reduceCtorEq,Qf,Qg,Qh]
 (repeat' (first | ((first | (refine gsel_split (fun q' => ?_) (fun q' => ?_)<;>(have h':=q')<;>(try simp only [za1,za2,Ba,Bb,za3,ne_eq,za4,za5,za6,Ia,Ib,Ic,Ie,Da,Bc,Bh,Be,za7,za8] at h')<;>try (exfalso; omega)) | (have q':=trivial; first | refine callX_mut [3100000] [3700000] [3100000,3700000] (c6) ⟨.inl rfl,.inl rfl,.inl rfl,trivial⟩ ⟨rfl,trivial⟩ rfl (by simp [dstB]) ?_ | refine hE _ _ ret_ne ?_ | refine hE _ _ exit_ne ?_))<;>(try simp (disch:=first | omega | decide +kernel) only [q',go_sem,Qa,Qb,Qc,Qd,Qe,↓reduceIte,reduceCtorEq,Qf,Qg,Qh])<;>clear q') | with_reducible refine And.intro ?_ ?_ | with_reducible omega | (refine le_maxLen ?_; omega)))
 refine Ok.go ?_
 simp (disch:=first | omega | decide +kernel) only [go_sem,Qa,Qb,Qc,Qd,Qe,↓reduceIte,reduceCtorEq,Qf,Qg,Qh]
 (repeat' (first | ((first | (refine gsel_split (fun q' => ?_) (fun q' => ?_)<;>(have h':=q')<;>(try simp only [za1,za2,Ba,Bb,za3,ne_eq,za4,za5,za6,Ia,Ib,Ic,Ie,Da,Bc,Bh,Be,za7,za8] at h')<;>try (exfalso; omega)) | (have q':=trivial; first | refine hE _ _ ret_ne ?_ | refine hE _ _ exit_ne ?_))<;>(try simp (disch:=first | omega | decide +kernel) only [q',go_sem,Qa,Qb,Qc,Qd,Qe,↓reduceIte,reduceCtorEq,Qf,Qg,Qh])<;>clear q') | with_reducible refine And.intro ?_ ?_ | with_reducible omega | (refine le_maxLen ?_; omega)))
 all_goals (first | exact ret_scbd [3700000,3100001] rfl rfl rfl (by simp only [go_sem]) (by simp only [go_sem,List.length_cons,List.length_nil]) rfl (by simp only [go_sem]))
set_option maxHeartbeats 4000000 in
theorem removeI0_ok (g : Chg) (k : Int) (hb : edB g k=true) : Ctr Try.prog 13 [D.chg g,.int .i64 k,.int .i64 0] true (.tup [.d (D.chg (remG g k.toNat 0)),.d (.bool true)]) []:=by
 obtain ⟨hb1,hb2⟩:=Bool.and_eq_true_iff.1 hb
 have hg:=good_iff.1 hb1
 have hk:=inE_lt hb2
 have hn:=hg.n1
 have hm:=hg.m
 have hcl:=hg.c
 have c1:=isCharged_ok g (by omega) (by omega)
 have c2:=isEdge_ok g k (by omega)
 rw [hb1] at c1
 rw [hb2] at c2
 have c3 : Ctr Try.prog 35 [.int .i64 0,.int .i64 0,.int .i64 1] false (.d (.bool true)) []:=within_ok 0 0 1
 have c4:=cloneG_ok g (by omega) (by omega)
 have c6:=deleteE_ok g.ed k.toNat k (k + 1) (by omega) (by omega) hk.2 (by omega)
 have he : remG g k.toNat 0=⟨g.n,g.ed.take k.toNat++g.ed.drop (k.toNat + 1),g.ch⟩:=by
  show (⟨_,_,_⟩ : Chg)=_
  rw [erase_split]; rfl
 rw [he]
 generalize g.ed.take k.toNat++g.ed.drop (k.toNat + 1)=ed2 at *
 simp only [D.chg,D.ints] at c1 c2 c4
 refine Ctr.ofK (n:=39) (rs:=[.cell 6 27,.tmp 7]) Try.func13 rfl rfl Try.ntmps13 rfl rfl (by kernel_rfl) Try.checked.mixed ?_
 refine Ok.seq (Ok.go ?_)
 simp (disch:=first | omega | decide +kernel) only [D.chg,D.ints,go_sem,Qa,Qb,Qc,Qd,Qe,↓reduceIte,reduceCtorEq,Qf,Qg,Qh]
 (repeat' (first | ((first | (refine gsel_split (fun q' => ?_) (fun q' => ?_)<;>(have h':=q')<;>(try simp only [za1,za2,Ba,Bb,za3,ne_eq,za4,za5,za6,Ia,Ib,Ic,Ie,Da,Bc,Bh,Be,za7,za8] at h')<;>try (exfalso; omega)) | (have q':=trivial; first | refine hE _ _ ret_ne ?_ | refine hE _ _ exit_ne ?_))<;>(try simp (disch:=first | omega | decide +kernel) only [q',go_sem,Qa,Qb,Qc,Qd,Qe,↓reduceIte,reduceCtorEq,Qf,Qg,Qh])<;>clear q') | with_reducible refine And.intro ?_ ?_ | with_reducible omega | (refine le_maxLen ?_; omega)))
 refine Ok.seq (Ok.go ?_)
 simp (disch:=first | omega | decide +kernel) only [D.chg,D.ints,go_sem,Qa,Qb,Qc,Qd,Qe,↓reduceIte,reduceCtorEq,Qf,Qg,Qh]
 (repeat' (first | ((first | (refine gsel_split (fun q' => ?_) (fun q' => ?_)<;>(have h':=q')<;>(try simp only [za1,za2,Ba,Bb,za3,ne_eq,za4,za5,za6,Ia,Ib,Ic,Ie,Da,Bc,Bh,Be,za7,za8] at h')<;>try (exfalso; omega)) | (have q':=trivial; first | refine callX_new (c1) rfl (by decide) ?_ | refine callY_new (c1) rfl ?_ | refine callX_new (c2) rfl (by decide) ?_ | refine callY_new (c2) rfl ?_ | refine callX_new (c3) rfl (by decide) ?_ | refine callY_new (c3) rfl ?_ | refine hE _ _ ret_ne ?_ | refine hE _ _ exit_ne ?_))<;>(try simp (disch:=first | omega | decide +kernel) only [q',go_sem,Qa,Qb,Qc,Qd,Qe,↓reduceIte,reduceCtorEq,Qf,Qg,Qh])<;>clear q') | with_reducible refine And.intro ?_ ?_ | with_reducible omega | (refine le_maxLen ?_; omega)))
 refine Ok.seq (Ok.go ?_)
 simp (disch:=first | omega | decide +kernel) only [go_sem,Qa,Qb,Qc,Qd,Qe,↓reduceIte,reduceCtorEq,Qf,Qg,Qh]
 (repeat' (first | ((first | (refine gsel_split (fun q' => ?_) (fun q' => ?_)<;>(have h':=q')<;>(try simp only [za1,za2,Ba,Bb,za3,ne_eq,za4,za5,za6,Ia,Ib,Ic,Ie,Da,Bc,Bh,Be,za7,za8] at h')<;>try (exfalso; omega)) | (have q':=trivial; first | refine callX_new (c4) rfl (by decide) ?_ | refine callY_new (c4) rfl ?_ | refine hE _ _ ret_ne ?_ | refine hE _ _ exit_ne ?_))<;>(try simp (disch:=first | omega | decide +kernel) only [q',go_sem,Qa,Qb,Qc,Qd,Qe,↓reduceIte,reduceCtorEq,Qf,Qg,Qh])<;>clear q') | with_reducible refine And.intro ?_ ?_ | with_reducible omega | (refine le_maxLen ?_; omega)))
 refine Ok.seq (Ok.go ?_)
 simp (disch:=first | omega | decide +kernel) only [go_sem,Qa,Qb,Qc,Qd,Qe,↓reduceIte,reduceCtorEq,Qf,Qg,Qh]
 (repeat' (first | ((first | (refine gsel_split (fun q' => ?_) (fun q' => ?_)<;>(have h':=q')<;>(try simp only [za1,za2,Ba,Bb,za3,ne_eq,za4,za5,za6,Ia,Ib,Ic,Ie,Da,Bc,Bh,Be,za7,za8] at h')<;>try (exfalso; omega)) | (have q':=trivial; first | refine hE _ _ ret_ne ?_ | refine hE _ _ exit_ne ?_))<;>(try simp (disch:=first | omega | decide +kernel) only [q',go_sem,Qa,Qb,Qc,Qd,Qe,↓reduceIte,reduceCtorEq,Qf,Qg,Qh])<;>clear q') | with_reducible refine And.intro ?_ ?_ | with_reducible omega | (refine le_maxLen ?_; omega)))
 refine Ok.seq (Ok.go ?_)
 simp (disch:=first | omega | decide +kernel) only [go_sem,Qa,Qb,Qc,Qd,Qe,↓reduceIte,reduceCtorEq,Qf,Qg,Qh]
 (repeat' (first | ((first | (refine gsel_split (fun q' => ?_) (fun q' => ?_)<;>(have h':=q')<;>(try simp only [za1,za2,Ba,Bb,za3,ne_eq,za4,za5,za6,Ia,Ib,Ic,Ie,Da,Bc,Bh,Be,za7,za8] at h')<;>try (exfalso; omega)) | (have q':=trivial; first | refine callX_mut [2600000] [3700000] [2600000,3700000] (c6) ⟨.inl rfl,.inl rfl,.inl rfl,trivial⟩ ⟨rfl,trivial⟩ rfl (by simp [dstB]) ?_ | refine hE _ _ ret_ne ?_ | refine hE _ _ exit_ne ?_))<;>(try simp (disch:=first | omega | decide +kernel) only [q',go_sem,Qa,Qb,Qc,Qd,Qe,↓reduceIte,reduceCtorEq,Qf,Qg,Qh])<;>clear q') | with_reducible refine And.intro ?_ ?_ | with_reducible omega | (refine le_maxLen ?_; omega)))
 refine Ok.go ?_
 simp (disch:=first | omega | decide +kernel) only [go_sem,Qa,Qb,Qc,Qd,Qe,↓reduceIte,reduceCtorEq,Qf,Qg,Qh]
 (repeat' (first | ((first | (refine gsel_split (fun q' => ?_) (fun q' => ?_)<;>(have h':=q')<;>(try simp only [za1,za2,Ba,Bb,za3,ne_eq,za4,za5,za6,Ia,Ib,Ic,Ie,Da,Bc,Bh,Be,za7,za8] at h')<;>try (exfalso; omega)) | (have q':=trivial; first | refine hE _ _ ret_ne ?_ | refine hE _ _ exit_ne ?_))<;>(try simp (disch:=first | omega | decide +kernel) only [q',go_sem,Qa,Qb,Qc,Qd,Qe,↓reduceIte,reduceCtorEq,Qf,Qg,Qh])<;>clear q') | with_reducible refine And.intro ?_ ?_ | with_reducible omega | (refine le_maxLen ?_; omega)))
 all_goals (first | exact ret_scbd [3700000,2600001] rfl rfl rfl (by simp only [go_sem]) (by simp only [go_sem,List.length_cons,List.length_nil]) rfl (by simp only [go_sem]))
end Abs.Y

namespace Abs
open Go Go.RowKit
def ok8 (cls : List Bool) (l : List Oper) : Bool :=
 let b:=masks l
 (l.zipIdx.all fun (o,k) => bif cls.getD k false then o.dst.isSome else isT7 o && o.guard.isNone) &&
 (l.zipIdx.all fun (o,i) => o.after.all fun e => !Region.binds .any e || e.on < i) &&
 (l.zipIdx.all fun (ok,k) => l.zipIdx.all fun (om,m) => (k == m || match om.dst with | some s => ok.dst != some s | none => true) &&
  (match om.dst with | some s => !(looks l ok).contains s || ((b.getD k 0).testBit m && (!cls.getD k false || cls.getD m false)) || (!cls.getD m false && Nat.blt k m && (b.getD m 0).testBit k) | none => true))
structure Checked8 (cls : List Bool) (l : List Oper) : Prop where
 hd : ∀ (k : Nat) (o : Oper),l[k]? = some o->cls.getD k false=true->∃ d,o.dst=some d
 tl : ∀ (k : Nat) (o : Oper),l[k]? = some o->cls.getD k false=false->isT7 o=true∧o.guard=none
 back : ∀ (i : Nat) (o : Oper),l[i]? = some o->∀ e ∈ o.after,Region.binds .any e=true->e.on < i
 apart : ∀ (k m : Nat) (ok om : Oper) (s : Nat),l[k]? = some ok->l[m]? = some om->k ≠ m->om.dst=some s->ok.dst ≠ some s
 looked : ∀ (k m : Nat) (ok om : Oper) (s : Nat),l[k]? = some ok->l[m]? = some om->om.dst=some s->s ∈ looks l ok->(Dep l k m∧(cls.getD k false=true->cls.getD m false=true))∨(cls.getD m false=false∧k < m)
theorem ok8_spec {cls : List Bool} {l : List Oper} (h : ok8 cls l=true) : Checked8 cls l:=by
 unfold ok8 at h
 simp only [Bc] at h
 obtain ⟨⟨h1,h2⟩,h3⟩:=h
 have zip : ∀ {p : Oper × Nat->Bool},l.zipIdx.all p=true->∀ i o,l[i]? = some o->p (o,i)=true:=by
  intro p hp i o ho
  rw [List.all_eq_true] at hp
  exact hp _ (List.mem_iff_getElem?.2 ⟨i,by simp [List.getElem?_zipIdx,ho]⟩)
 have h3' : ∀ k m ok om,l[k]? = some ok->l[m]? = some om->_:=fun k m ok om hk hm => zip (zip h3 k ok hk) m om hm
 refine ⟨fun k o hk hc => ?_,fun k o hk hc => ?_,fun i o ho e he hb => ?_,fun k m ok om s hk hm hne hs hd => ?_,fun k m ok om s hk hm hs hl => ?_⟩
 . have:=zip h1 k o hk
   rw [hc] at this
   exact Option.isSome_iff_exists.1 this
 . have:=zip h1 k o hk
   rw [hc] at this
   simp only [cond_false,Bc] at this
   exact ⟨this.1,Option.isNone_iff_eq_none.1 this.2⟩
 . have:=zip h2 i o ho
   simp only [Array.all_eq_true_iff_forall_mem] at this
   have:=this e he
   simp [hb] at this
   exact this
 . have:=h3' k m ok om hk hm
   simp only [hs,Bc,Bh,beq_iff_eq,bne_iff_ne,ne_eq] at this
   exact this.1.resolve_left hne hd
 . have:=h3' k m ok om hk hm
   simp only [hs,Bc] at this
   have h4:=this.2
   have h5 : (looks l ok).contains s=true:=by simpa using hl
   rw [h5] at h4
   simp only [Bool.not_true,Bool.false_or,Bh,Bc] at h4
   rcases h4 with h4 | h4
   . exact .inl ⟨masks_spec h4.1,fun hh => by have:=h4.2; rw [hh] at this; simpa using this⟩
   . exact .inr ⟨by simpa using h4.1.1,by simpa using h4.1.2⟩
section
variable {P : Program} {Z : Nat->Prop} {β : Nat->Value} {φ : Nat->Nat->Prop} {N B : Nat} {M : Nat->Prop} {w0 : World} {st : St} {a : Act} {w : World}
def minim (l : List Oper) (R : List (Oper × Nat)) (p : Oper × Nat) : Bool:=R.all fun q => !((masks l).getD p.2 0).testBit q.2
def tail8 (P : Program) (N : Nat) (l : List Oper) (hs : List (Oper × Nat)) : Nat->List (Oper × Nat)->St->(St->Prop)->Prop
 | _,[],S,K => K S
 | 0,_ :: _,_,_ => False
 | n + 1,p :: r,S,K => ∀ q ∈ p :: r,minim l (p :: r) q=true->stepA P N l S q.1 fun S' => headA P N l (floats l q.2 hs) S' (fun S'' => sameAt S' S'' (floats l q.2 hs))∧tail8 P N l hs n ((p :: r).filter fun x => x.2 != q.2) S' K
theorem tail8_nil {P N l hs n S K} : tail8 P N l hs n [] S K=K S:=by cases n<;>rfl
theorem tail8_step {P N l hs n S K} {R : List (Oper × Nat)} {o : Oper} {i : Nat} (h : tail8 P N l hs n R S K) (hm : (o,i) ∈ R) (hq : minim l R (o,i)=true) :
 ∃ n',stepA P N l S o fun S' => headA P N l (floats l i hs) S' (fun S'' => sameAt S' S'' (floats l i hs))∧tail8 P N l hs n' (R.filter fun x => x.2 != i) S' K:=by
 cases R with
 | nil => cases hm
 | cons p r =>
   cases n with
   | zero => exact h.elim
   | succ n => exact ⟨n,h _ hm hq⟩
theorem alive_of8 {cls : List Bool} {l : List Oper} (hX : Checked8 cls l) {S : St} {r : List Oper} (hr : r.Sublist ((hs7 cls l).map (·.1))) {K : St->Prop} (h : headA P N l r S K) :
 ∃ Sn,K Sn∧Sn.o=S.o∧(∀ s,(∀ o ∈ r,o.dst ≠ some s)->lk s Sn.s=lk s S.s)∧∀ o ∈ r,Alive P N l Sn o:=by
 have hback : ∀ {k m},Dep l k m->m < k:=by
  intro k m h
  induction h with
  | direct h he hb hm => subst hm; exact hX.back _ _ h _ he hb
  | trans _ _ h1 h2 => omega
 have hpw : (l.zipIdx).Pairwise fun p p' => cls.getD p'.2 false=true->p.1.dst ≠ .none->p'.1.dst ≠ .none->p.1.dst ≠ p'.1.dst∧∀ s ∈ looks l p.1,p'.1.dst ≠ some s:=by
  rw [List.pairwise_iff_getElem]
  intro i j hi hj hij
  simp only [List.getElem_zipIdx,Nat.zero_add]
  have hli : i < l.length:=by simpa using hi
  have hlj : j < l.length:=by simpa using hj
  intro h0 h1 h2
  have hgi : l[i]? = some l[i]:=by simp [hli]
  have hgj : l[j]? = some l[j]:=by simp [hlj]
  refine ⟨fun e => ?_,fun s hs' hd => ?_⟩
  . obtain ⟨d,hd⟩:=Option.ne_none_iff_exists'.1 h2
    exact hX.apart i j _ _ d hgi hgj (by omega) hd (e.trans hd)
  . rcases hX.looked i j _ _ s hgi hgj hd hs' with h | h
    . have:=hback h.1; omega
    . have h1:=h.1; rw [h0] at h1; cases h1
 have hpw2 : (hs7 cls l).Pairwise fun p p' => p.1.dst ≠ p'.1.dst∧∀ s ∈ looks l p.1,p'.1.dst ≠ some s:=by
  refine List.Pairwise.imp_of_mem (fun {p p'} hp hp' h => ?_) (hpw.sublist List.filter_sublist)
  have a1:=List.mem_filter.1 hp
  have a2:=List.mem_filter.1 hp'
  obtain ⟨d1,e1⟩:=hX.hd _ _ (zip_sub (cls:=cls) p a1.1) a1.2
  obtain ⟨d2,e2⟩:=hX.hd _ _ (zip_sub (cls:=cls) p' a2.1) a2.2
  exact h a2.2 (by rw [e1]; simp) (by rw [e2]; simp)
 have hmem : ∀ o ∈ r,∃ k,l[k]? = some o∧cls.getD k false=true:=fun o ho => by
  obtain ⟨p,hp,e⟩:=List.mem_map.1 (hr.subset ho)
  have a1:=List.mem_filter.1 hp
  exact ⟨p.2,by rw [← e]; exact zip_sub (cls:=cls) p a1.1,a1.2⟩
 obtain ⟨stn,h3,h4,h5,h6⟩:=headA_final h (List.Pairwise.sublist hr (by
  rw [List.pairwise_map]; exact hpw2)) fun o ho s hs' hd => by
  obtain ⟨k,hk,_⟩:=hmem o ho
  rcases hX.looked k k _ _ s hk hk hd hs' with h | h
  . have:=hback h.1; omega
  . have:=h.2; omega
 exact ⟨stn,h3,h4,h5,fun o ho => h6 o ho⟩
theorem any8 {cls : List Bool} {l : List Oper} (hC : Checked8 cls l) {K : St->Prop} {Q : Exit->Act->World->Prop} (hQ : ∀ st a w,Sim Z N B M w0 st a w->K st->Q .normal a w) :
 ∀ (fuel : Nat) (listed : Array Bool) (st Sp : St) (a : Act) (w : World),listed.size=l.length->Closed l listed->fuel=(List.range l.length).countP (fun k => !listed.getD k false) ->
  (∃ n,tail8 P N l (hs7 cls l) n (restI7 cls l listed) Sp K)->st.o=Sp.o ->
  (∀ s,(∀ (k : Nat) (o : Oper),l[k]? = some o->cls.getD k false=true->listed.getD k false=false->o.dst ≠ some s)->lk s st.s=lk s Sp.s) ->
  (∀ (k : Nat) (o : Oper),l[k]? = some o->cls.getD k false=true->listed.getD k false=false->Alive P N l Sp o) ->
  Sim Z N B M w0 st a w->wpAny P .any l.toArray Q fuel listed a w:=by
 intro fuel
 induction fuel with
 | zero =>
   intro listed st Sp a w hsz hcl hcnt hK ho hlk hal hs
   have hall : ∀ k,k < l.length->listed.getD k false=true:=fun k hk => by
    have:=List.countP_eq_zero.1 hcnt.symm k (List.mem_range.2 hk)
    simpa using this
   refine ⟨?_,?_⟩
   . cases hr : Region.ready .any l.toArray listed with
     | nil => rfl
     | cons x xs =>
       have hx : x ∈ Region.ready .any l.toArray listed:=by rw [hr]; simp
       obtain ⟨h1,o,hoo,_⟩:=ready_iff.1 hx
       have hxl:=(List.getElem?_eq_some_iff.1 hoo).1
       have : listed.getD x true=listed.getD x false:=by simp [show x < listed.size by omega]
       rw [this,hall x hxl] at h1
       cases h1
   . have hr : restI7 cls l listed=[]:=by
      unfold restI7
      rw [List.filter_eq_nil_iff]
      intro p hp
      have h1:=zip_sub (cls:=cls) p (List.mem_filter.1 hp).1
      rw [hall p.2 (List.getElem?_eq_some_iff.1 h1).1]; simp
     rw [hr] at hK
     obtain ⟨n,hK⟩:=hK
     rw [tail8_nil] at hK
     refine hQ Sp a w ?_ hK
     exact hs.congr2 (fun s => (hlk s fun k o hk _ hf => by rw [hall k (List.getElem?_eq_some_iff.1 hk).1] at hf; cases hf).symm) fun j => by rw [ho]
 | succ fuel ih =>
   intro listed st Sp a w hsz hcl hcnt hK ho hlk hal hs
   refine ⟨fun h0 => ?_,fun i hi => ?_⟩
   . exfalso
     have h1 : ∃ k,k < l.length∧listed.getD k false=false:=by
      refine Classical.byContradiction fun hno => ?_
      have : (List.range l.length).countP (fun k => !listed.getD k false)=0:=by
       rw [List.countP_eq_zero]; intro k hk
       cases hh : listed.getD k false with
       | true => simp
       | false => exact absurd ⟨k,List.mem_range.1 hk,hh⟩ hno
      omega
     have hex : ∃ k,k < l.length∧listed.getD k false=false∧∀ m,m < k->listed.getD m false=true:=by
      obtain ⟨k,hk⟩:=h1
      induction k using Nat.strongRecOn with
      | _ k ihk =>
        by_cases h2 : ∃ m,m < k∧listed.getD m false=false
        . obtain ⟨m,hm,hm2⟩:=h2
          exact ihk m hm ⟨by omega,hm2⟩
        . refine ⟨k,hk.1,hk.2,fun m hm => ?_⟩
          cases hh : listed.getD m false with
          | true => rfl
          | false => exact absurd ⟨m,hm,hh⟩ h2
     obtain ⟨k,hkl,hkf,hkm⟩:=hex
     have : k ∈ Region.ready .any l.toArray listed:=by
      rw [ready_iff]
      refine ⟨?_,l[k],by simp [hkl],fun e he hb => hkm _ (hC.back k l[k] (by simp [hkl]) e he hb)⟩
      have : listed.getD k true=listed.getD k false:=by simp [show k < listed.size by omega]
      rw [this]; exact hkf
     rw [h0] at this; cases this
   . obtain ⟨h1,o,hoi,h2⟩:=ready_iff.1 hi
     have hil:=(List.getElem?_eq_some_iff.1 hoi).1
     have hlt : i < listed.size:=by omega
     have hif : listed.getD i false=false:=by
      have : listed.getD i true=listed.getD i false:=by simp [hlt]
      rw [← this]; exact h1
     have hdep : ∀ {m},Dep l i m->listed.getD m false=true:=fun hd => hcl.ready hd fun o' ho' => by rw [hoi] at ho'; cases ho'; exact h2
     have hlooked : ∀ s ∈ looks l o,lk s st.s=lk s Sp.s:=fun s hs' => hlk s fun k ok hk hhk hkf hkd => by
      rcases hC.looked i k o ok s hoi hk hkd hs' with h | h
      . have:=hdep h.1; rw [hkf] at this; cases this
      . have:=h.1; rw [hhk] at this; cases this
     have hcount : fuel=(List.range l.length).countP (fun k => !(listed.setIfInBounds i true).getD k false):=by
      have hmem : i ∈ List.range l.length:=List.mem_range.2 hil
      have hgen : ∀ (r : List Nat),r.Nodup->i ∈ r->r.countP (fun k => !listed.getD k false)=r.countP (fun k => !(listed.setIfInBounds i true).getD k false) + 1:=by
       intro r
       induction r with
       | nil => intro _ h; cases h
       | cons x r ihr =>
         intro hnd hm
         rw [List.nodup_cons] at hnd
         by_cases hx : i=x
         . subst hx
           have hrest : r.countP (fun k => !listed.getD k false)=r.countP (fun k => !(listed.setIfInBounds i true).getD k false):=by
            apply List.countP_congr
            intro k hk
            rw [set_getD hlt,if_neg (show ¬ k=i from fun e => hnd.1 (by rw [← e]; exact hk))]
           rw [List.countP_cons,List.countP_cons,hrest,hif,set_getD hlt,if_pos rfl]
           simp
         . have hmr : i ∈ r:=by
            rcases List.mem_cons.1 hm with h | h
            . exact absurd h hx
            . exact h
           rw [List.countP_cons,List.countP_cons,ihr hnd.2 hmr,set_getD hlt,if_neg (Ne.symm hx)]
           omega
      have:=hgen _ List.nodup_range hmem
      omega
     unfold wpOp
     have ho' : (l.toArray)[i]? = some o:=by simpa using hoi
     rw [ho']
     simp only
     have hset : ∀ {k : Nat},(listed.setIfInBounds i true).getD k false=false->listed.getD k false=false∧k ≠ i:=fun {k} h => by
      rw [set_getD hlt] at h
      split at h
      . cases h
      . rename_i e; exact ⟨h,e⟩
     cases hci : cls.getD i false with
     | false =>
       obtain ⟨hT,hg⟩:=hC.tl i o hoi hci
       have hzi : (o,i) ∈ l.zipIdx:=List.mem_iff_getElem?.2 ⟨i,by simp [List.getElem?_zipIdx,hoi]⟩
       have hmR : (o,i) ∈ restI7 cls l listed:=List.mem_filter.2 ⟨List.mem_filter.2 ⟨hzi,by simp only [hci]; rfl⟩,by simp only [hif]; rfl⟩
       have hmin : minim l (restI7 cls l listed) (o,i)=true:=by
        unfold minim
        rw [List.all_eq_true]
        intro p hp
        have hpf:=(List.mem_filter.1 hp).2
        cases hb : ((masks l).getD i 0).testBit p.2 with
        | false => rfl
        | true => rw [hdep (masks_spec hb)] at hpf; cases hpf
       have hrest : (restI7 cls l listed).filter (fun x => x.2 != i)=restI7 cls l (listed.setIfInBounds i true):=by
        unfold restI7
        rw [List.filter_filter]
        apply List.filter_congr
        intro p _
        rw [set_getD hlt]
        by_cases e : p.2=i
        . rw [if_pos e]; simp [e]
        . rw [if_neg e]; simp [e]
       obtain ⟨n,hK⟩:=hK
       obtain ⟨n',hK⟩:=tail8_step hK hmR hmin
       rw [hrest] at hK
       have hst:=stepA_spec hs (tail_frame7 (st':=st) hT hg hlooked ho hK) (K':=wpAny P .any l.toArray Q fuel (listed.setIfInBounds i true)) (Q:=Q) fun q' a' w' hs' ⟨q,⟨hkeep,hk⟩,hF⟩ => by
        refine ih _ q' q a' w' (by simpa using hsz) (hcl.set hsz hi) hcount ⟨_,hk⟩ hF.1 (fun s hs2 => hF.2 s ?_) (fun k ok hkk hhk hkf => ?_) hs'
        . by_cases hds : o.dst=some s
          . exact .inr hds
          . refine .inl (hlk s fun k ok hkk hhk hkf => hs2 k ok hkk hhk ?_)
            rw [set_getD hlt,if_neg]
            . exact hkf
            . rintro rfl; rw [hci] at hhk; cases hhk
        . -- what was not listed is alive
          obtain ⟨hkf',hki⟩:=hset hkf
          have hnm : ((masks l).getD i 0).testBit k=false:=by
           cases hb : ((masks l).getD i 0).testBit k with
           | false => rfl
           | true => rw [hdep (masks_spec hb)] at hkf'; cases hkf'
          have hmemf : ok ∈ floats l i (hs7 cls l):=by
           refine List.mem_map.2 ⟨(ok,k),List.mem_filter.2 ⟨List.mem_filter.2 ⟨List.mem_iff_getElem?.2 ⟨k,by simp [List.getElem?_zipIdx,hkk]⟩,hhk⟩,?_⟩,rfl⟩
           simp only [hnm]; rfl
          obtain ⟨Sn,g1,g2,g3,g4⟩:=alive_of8 hC (List.Sublist.map _ List.filter_sublist) hkeep
          obtain ⟨x,k1,k2⟩:=g4 ok hmemf
          have hslots : ∀ s,lk s q.s=lk s Sn.s:=fun s => by
           by_cases hw : ∃ o' ∈ floats l i (hs7 cls l),o'.dst=some s
           . obtain ⟨o',h5,h6⟩:=hw
             exact (sameAt_mem g1 o' h5 s h6).symm
           . exact (g3 s fun o' h5 h6 => hw ⟨o',h5,h6⟩).symm
          exact ⟨x,Yl_alike ⟨g2.symm,fun s _ => hslots s⟩ k1,fun d hd => (hslots d).trans (k2 d hd)⟩
       split
       . rename_i hw; rw [if_pos hw] at hst; exact .inl hst
       . rename_i hw; rw [if_neg hw] at hst; exact hst
     | true =>
       obtain ⟨d,hd⟩:=hC.hd i o hoi hci
       obtain ⟨x,hY,hx⟩:=hal i o hoi hci hif
       have hYst : Yl P N l st o x:=Yl_alike ⟨ho,hlooked⟩ hY
       have hst:=Yl_spec hs hYst (K':=wpAny P .any l.toArray Q fuel (listed.setIfInBounds i true)) (Q:=Q) fun a' w' hs' => by
        refine ih _ _ Sp a' w' (by simpa using hsz) (hcl.set hsz hi) hcount ?_ (by rw [hd]; exact ho) (fun s hs2 => ?_) (fun k ok hkk hhk hkf => hal k ok hkk hhk (hset hkf).1) hs'
        . have : restI7 cls l (listed.setIfInBounds i true)=restI7 cls l listed:=by
           unfold restI7
           apply List.filter_congr
           intro p hp
           have:=(List.mem_filter.1 hp).2
           rw [set_getD hlt,if_neg]
           rintro e
           rw [e,hci] at this; cases this
          rw [this]; exact hK
        . rw [lk_put]
          split
          . rename_i hds
            exact (hx s hds).symm
          . rename_i hds
            refine hlk s fun k ok hk hhk hkf => ?_
            by_cases e : k=i
            . subst e; rw [hoi] at hk; cases hk; exact hds
            . exact hs2 k ok hk hhk (by rw [set_getD hlt,if_neg e]; exact hkf)
       split
       . rename_i hw; rw [if_pos hw] at hst; exact .inl hst
       . rename_i hw; rw [if_neg hw] at hst; exact hst

theorem wp_drawn8 {id : Nat} {cls : List Bool} {l : List Oper} {K : St->Prop} {Q : Exit->Act->World->Prop} {st : St} {a : Act} {w : World} (hm : P.follows .mixedOrders=true) (hc : ok8 cls l=true)
 (hQ : ∀ st a w,Sim Z N B M w0 st a w->K st->Q .normal a w) (hs : Sim Z N B M w0 st a w)
 (hq : headA P N l ((hs7 cls l).map (·.1)) st fun st' => tail8 P N l (hs7 cls l) l.length (ts7 cls l) st' K) :
 SW P (Code.region id l.toArray true) Q a w:=by
 have hC:=ok8_spec hc
 obtain ⟨Sn,hK,ho,hlk,hY⟩:=alive_of8 hC (List.Sublist.refl _) hq
 show wpAny P .any l.toArray Q l.toArray.size (Array.replicate l.toArray.size false) a { w with drawn:=w.drawn + 1 }
 have hfalse : ∀ k,(Array.replicate l.length false).getD k false=false:=fun k => by
  rcases Nat.lt_or_ge k l.length with h | h
  . simp [h]
  . simp [h]
 have hmem : ∀ k o,l[k]? = some o->cls.getD k false=true->o ∈ (hs7 cls l).map (·.1):=fun k o hk hk2 => List.mem_map.2 ⟨(o,k),List.mem_filter.2 ⟨List.mem_iff_getElem?.2 ⟨k,by simp [List.getElem?_zipIdx,hk]⟩,hk2⟩,rfl⟩
 have:=any8 (P:=P) hC hQ l.length (Array.replicate l.length false) st Sn a { w with drawn:=w.drawn + 1 } (by simp) (fun k o _ hk => by rw [hfalse k] at hk; cases hk)
  (by
   have : (List.range l.length).countP (fun k => !(Array.replicate l.length false).getD k false)=(List.range l.length).length:=by
    rw [List.countP_eq_length]; intro k _; rw [hfalse k]; rfl
   rw [this]; simp)
  (by
   have : restI7 cls l (Array.replicate l.length false)=ts7 cls l:=by
    unfold restI7
    rw [List.filter_eq_self]; intro p _; rw [hfalse]; rfl
   rw [this]; exact ⟨_,hK⟩) ho.symm (fun s hs' => (hlk s fun o ho' hd => by
    obtain ⟨p,hp,e⟩:=List.mem_map.1 ho'
    have a1:=List.mem_filter.1 hp
    exact hs' p.2 o (by rw [← e]; exact zip_sub (cls:=cls) p a1.1) a1.2 (hfalse _) hd).symm)
  (fun k o hk hk2 _ => hY o (hmem k o hk hk2))
  (by obtain ⟨β,φ,hB⟩:=hs; exact ⟨β,φ,hB.drawn⟩)
 simpa using this
end
end Abs
