/- What functions of this program compute, over plain data. No condition. -/
import Derived.Test.YtkccabajcdphkaaGreatL2
import Derived.Test.YtkccabajcdphkaaGreatE4
import Derived.Test.YtkccabajcdphkaaGreatAbsAny8
import Derived.Test.YtkccabajcdphkaaGreatAbsLoopO
import Derived.Test.YtkccabajcdphkaaGreatAbsRow
set_option linter.all false
open Nat renaming reduceEqDiff -> Qa, reduceLT -> Qb, reduceAdd -> Qc, reduceMul -> Qd, reduceSub -> Qe, reduceLeDiff -> Qf, reduceSubDiff -> Qg, reduceBEq -> Qh
open Bool renaming not_eq_true' -> Ba, not_eq_false' -> Bb, and_eq_true -> Bc, or_eq_true -> Bh, or_eq_false_iff -> Be
open Int renaming ofNat_lt -> Ia, ofNat_le -> Ib, not_lt -> Ic, not_le -> Ie
open Decidable renaming not_not -> Da
namespace Abs.Y
open Go Go.Proofs Abs
set_option maxRecDepth 100000

def cK (code : Nat) (l : List Int) : List Int:=l.zipIdx.map fun p => if code.testBit p.2 then -p.1 else p.1
theorem yh7 (code : Nat) (l : List Int) (v : Int) : cK code (l++[v])=cK code l++[if code.testBit l.length then -v else v]:=by
 simp [cK,List.zipIdx_append]
theorem yv9 (code : Nat) (l : List Int) : (cK code l).length=l.length:=by simp [cK]
theorem zn8 {c d : Nat} (l : List Int) : (∀ i,i < l.length->c.testBit i=d.testBit i)->cK c l=cK d l:=by
 refine xu0 (P:=fun l => (∀ i,i < l.length->c.testBit i=d.testBit i)->cK c l=cK d l) (fun _ => rfl) (fun l v ih h => ?_) l
 rw [yh7,yh7,ih (fun i hi => h i (by rw [List.length_append]; omega)),h l.length (by rw [List.length_append,List.length_singleton]; omega)]
theorem zh3 (l : List Int) : ∀ c,c ∈ sgI l↔∃ code,code < 2 ^ l.length∧c=cK code l:=by
 refine xu0 (P:=fun l => ∀ c,c ∈ sgI l↔∃ code,code < 2 ^ l.length∧c=cK code l) (fun c => ?_) (fun l v ih c => ?_) l
 . constructor
   . intro h
     have : c=[]:=by simpa [sgI] using h
     exact ⟨0,by decide,this⟩
   . rintro ⟨code,_,rfl⟩
     simp [sgI,cK]
 . rw [xw0,zh2,List.length_append,List.length_singleton]
   constructor
   . rintro ⟨d,hd,h⟩
     obtain ⟨code,hc,rfl⟩:=(ih d).1 hd
     have hb : code.testBit l.length=false:=Nat.testBit_lt_two_pow hc
     rcases h with rfl | rfl
     . refine ⟨code,by rw [Nat.pow_succ]; omega,?_⟩
       rw [yh7,hb]; rfl
     . refine ⟨code ||| 2 ^ l.length,Nat.or_lt_two_pow (by rw [Nat.pow_succ]; omega) (Nat.pow_lt_pow_right (by decide) (by omega)),?_⟩
       rw [yh7,xt8,decide_eq_true rfl,Bool.or_true,if_pos rfl]
       congr 1
       exact zn8 l fun i hi => by rw [xt8,decide_eq_false (by omega),Bool.or_false]
   . rintro ⟨code,_,rfl⟩
     rw [yh7]
     refine ⟨cK code l,(ih _).2 ⟨code % 2 ^ l.length,Nat.mod_lt _ (Nat.two_pow_pos _),zn8 l fun i hi => ?_⟩,?_⟩
     . rw [Nat.testBit_mod_two_pow,decide_eq_true hi,Bool.true_and]
     . cases code.testBit l.length
       . exact .inl rfl
       . exact .inr rfl
theorem lexB_app (c x y : List Int) : lexB (c++x) (c++y)=lexB x y:=by
 induction c with
 | nil => rfl
 | cons a r ih => rw [List.cons_append,List.cons_append,lexB,ih]; simp
theorem zd1 : ∀ {c d : List Int} (x y : List Int),lexB c d=true->lexB (c++x) (d++y)=true
 | a :: r, b :: s, x, y, h => by
   rw [lexB,Bh,Bc] at h
   rw [List.cons_append,List.cons_append,lexB,Bh,Bc]
   exact h.imp id fun h => ⟨h.1,zd1 x y h.2⟩
 | [],_,_,_,h => by simp [lexB] at h
 | _ :: _,[],_,_,h => by simp [lexB] at h
theorem sg_pw (l : List Int) : (∀ v ∈ l,0 < v)->(sgI l).Pairwise (fun a b => lexB a b=true):=by
 refine xu0 (P:=fun l => (∀ v ∈ l,0 < v)->(sgI l).Pairwise (fun a b => lexB a b=true)) (fun _ => by simp [sgI]) (fun l v ih h => ?_) l
 rw [xw0]
 unfold sgS
 rw [List.pairwise_flatMap]
 have hv:=h v (by simp)
 refine ⟨fun c _ => ?_,(ih fun w hw => h w (by simp [hw])).imp fun {c d} hcd x hx y hy => ?_⟩
 . rw [List.pairwise_cons]
   refine ⟨fun d hd => ?_,by simp⟩
   rw [List.mem_singleton.1 hd,lexB_app]
   simp only [lexB,Bh,decide_eq_true_eq]
   left
   unfold keyI
   rw [if_neg (by omega),if_pos (by omega)]; omega
 . simp only [List.mem_cons,List.not_mem_nil,or_false] at hx hy
   rcases hx with rfl | rfl<;>rcases hy with rfl | rfl<;>exact zd1 _ _ hcd
def clTo (ch : Int) (l : List Int) : Nat->List (List Int)
 | 0 => []
 | n + 1 => if (ch + ngI (cK n l)) % 2=1 then insI (clTo ch l n) (cK n l) else clTo ch l n
theorem cK_mem {code : Nat} {l : List Int} {x : Int} (h : x ∈ cK code l) : x ∈ l∨-x ∈ l:=by
 unfold cK at h
 obtain ⟨p,hp,rfl⟩:=List.mem_map.1 h
 have : p.1 ∈ l:=by
  obtain ⟨i,hi⟩:=List.mem_iff_getElem?.1 hp
  rw [List.getElem?_zipIdx] at hi
  obtain ⟨y,hy,rfl⟩:=Option.map_eq_some_iff.1 hi
  exact List.mem_of_getElem? hy
 split
 . right; rw [Int.neg_neg]; exact this
 . left; exact this
theorem zt9 {l : List Int} (hl : ∀ v ∈ l,0 < v∧v<=60) (code : Nat) : Sm (cK code l):=fun x hx => by
 rcases cK_mem hx with h | h<;>(have:=hl _ h; omega)
theorem xx8 {ch : Int} {l : List Int} (hl : ∀ v ∈ l,0 < v∧v<=60) : ∀ n,Srt (clTo ch l n)∧∀ x,x ∈ clTo ch l n↔∃ code,code < n∧(ch + ngI (cK code l)) % 2=1∧x=cK code l
 | 0 => ⟨⟨.nil,fun _ h => (nomatch h)⟩,fun x => ⟨fun h => (nomatch h),fun ⟨_,h,_⟩ => absurd h (by omega)⟩⟩
 | n + 1 => by
   obtain ⟨h1,h2⟩:=xx8 (ch:=ch) hl n
   rw [clTo]
   split
   . rename_i ho
     obtain ⟨h3,h4⟩:=insI_srt h1 (zt9 hl n)
     refine ⟨h3,fun x => ?_⟩
     rw [h4 x,h2 x]
     constructor
     . rintro (rfl | ⟨code,h5,h6⟩)
       . exact ⟨n,by omega,ho,rfl⟩
       . exact ⟨code,by omega,h6⟩
     . rintro ⟨code,h5,h6,rfl⟩
       by_cases e : code=n
       . subst e; exact .inl rfl
       . exact .inr ⟨code,by omega,h6,rfl⟩
   . rename_i ho
     refine ⟨h1,fun x => ?_⟩
     rw [h2 x]
     constructor
     . rintro ⟨code,h5,h6⟩
       exact ⟨code,by omega,h6⟩
     . rintro ⟨code,h5,h6,rfl⟩
       by_cases e : code=n
       . subst e; exact absurd h6 ho
       . exact ⟨code,by omega,h6,rfl⟩
theorem cl_eq {ch : Int} {l : List Int} (hl : ∀ v ∈ l,0 < v∧v<=60) (hc : 0<=ch∧ch<=1) : clTo ch l (2 ^ l.length)=xorI l (decide (ch=1)):=by
 obtain ⟨h1,h2⟩:=xx8 (ch:=ch) hl (2 ^ l.length)
 have hmem : ∀ x,x ∈ xorI l (decide (ch=1))↔∃ code,code < 2 ^ l.length∧(ch + ngI (cK code l)) % 2=1∧x=cK code l:=fun x => by
  unfold xorI
  rw [List.mem_filter,zh3]
  have hx : ∀ c : List Int,xpB (decide (ch=1)) c=true↔(ch + ngI c) % 2=1:=fun c => by
   have h0:=yu0 c
   unfold xpB
   rw [Int.tmod_eq_emod_of_nonneg h0]
   rcases (by omega : ch=0∨ch=1) with rfl | rfl
   . by_cases h : ngI c % 2=0
     . rw [decide_eq_true h]; simp; omega
     . rw [decide_eq_false h]; simp; omega
   . by_cases h : ngI c % 2=0
     . rw [decide_eq_true h]; simp; omega
     . rw [decide_eq_false h]; simp; omega
  constructor
  . rintro ⟨⟨code,h3,rfl⟩,h4⟩
    exact ⟨code,h3,(hx _).1 h4,rfl⟩
  . rintro ⟨code,h3,h4,rfl⟩
    exact ⟨⟨code,h3,rfl⟩,(hx _).2 h4⟩
 refine zj6 h1 ⟨?_,fun x hx => ?_⟩ fun x => (h2 x).trans (hmem x).symm
 . refine List.Pairwise.imp_of_mem ?_ ((sg_pw l fun v hv => (hl v hv).1).filter (xpB (decide (ch=1))))
   intro a b ha hb h
   have ha:=(List.mem_filter.1 ha).1
   have hb:=(List.mem_filter.1 hb).1
   obtain ⟨c1,_,rfl⟩:=(zh3 l a).1 ha
   obtain ⟨c2,_,rfl⟩:=(zh3 l b).1 hb
   exact (xz3 (zt9 hl c1) (zt9 hl c2)).2 (.inr ⟨by rw [yv9,yv9],h⟩)
 . obtain ⟨code,_,_,rfl⟩:=(hmem x).1 hx
   exact zt9 hl code
theorem xor_one (odd : Bool) (l : List Int) (hl : ∀ v ∈ l,0 < v) (h4 : l.length<=4) : (xorI l odd).length<=2 * l.length + (if l.length=0 then 1 else 0)∧(xorI l odd).length + (if l.length=0 then 7 else 0)<=8:=by
 rcases List.eq_nil_or_concat l with rfl | ⟨r,v,rfl⟩
 . have : (xorI [] odd).length<=1:=by
    unfold xorI; exact List.length_filter_le _ _
   simp only [List.length_nil,if_true] at *; omega
 . rw [List.concat_eq_append] at *
   have h : (xorI (r++[v]) odd).length=2 ^ r.length:=by
    unfold xorI
    rw [xw0,zj2 odd (hl v (by simp)),yw8]
   rw [List.length_append,List.length_singleton] at h4 ⊢
   rw [h,if_neg (by omega),if_neg (by omega)]
   rcases (by omega : r.length=0∨r.length=1∨r.length=2∨r.length=3) with e | e | e | e<;>rw [e]<;>decide
def z0 (g : Chg) (v : Nat) : Int:=if (vsI g v).length=0 then 1 else 0
theorem zw0 {g : Chg} (hg : GoodP g) : ∀ m,m<=g.ch.length->((parT g m).length : Int)<=2 * rs m (fun v => ((xb0 g v).length : Int)) + rs m (z0 g)∧((parT g m).length : Int) + 7 * rs m (z0 g)<=8 * m∧0<=rs m (z0 g)
 | 0,_ => by simp [parT,rs]
 | m + 1, h => by
   obtain ⟨h1,h2,h3⟩:=zw0 hg m (by omega)
   have hd:=hg.d m (by omega)
   obtain ⟨h4,h5⟩:=xor_one (decide (g.ch.getD m 0=1)) (vsI g m) (fun l hl => (ys9 l hl).1) (by rw [yh8]; exact hd)
   rw [xw6,List.length_append,xf1,xf1]
   have hz : z0 g m=if (vsI g m).length=0 then 1 else 0:=rfl
   have hv:=yh8 g m
   rw [hz]
   split at h4<;>split at h5<;>split<;>(try omega)
theorem parI_50 {g : Chg} (hg : GoodP g) : (parI g).length<=50:=by
 obtain ⟨h1,h2,h3⟩:=zw0 hg g.ch.length (Nat.le_refl _)
 have h4:=zs7 g g.ch.length
 have:=hg.n1
 have:=hg.m
 have:=hg.c
 unfold parI
 omega
end Abs.Y

namespace Abs
open Go Go.Proofs
def Wkd (N : Nat) (K : St->Prop) (st : St) : Prop:=∃ st',Wk N st st'∧K st'
theorem Wkd.of {N K st st'} (h : Wk N st st') (hk : K st') : Wkd N K st:=⟨st',h,hk⟩
theorem za0 {P : Program} {N : Nat} {Z B M w0} {l : List Oper} {K : St->Prop} {Q : Exit->Act->World->Prop} (hQ : ∀ st a w,Sim Z N B M w0 st a w->K st->Q .normal a w) (r2 : List Oper) :
 ∀ (r : List Oper) (t : Nat) (st : St) (a : Act) (w : World),l.drop t=r++r2->Sim Z N B M w0 st a w->opsA P N l r st (Wkd N (fun st' => opsA P N l r2 st' K))->wpOps P l.toArray Q (List.range' t (r++r2).length) a w
 | [], t, st, a, w, hd, ⟨_, _, hs⟩, hq => by
   obtain ⟨st',hw,hk⟩:=hq
   exact xt7 hQ r2 t st' a w hd (hw _ _ _ _ _ _ _ _ hs) hk
 | o :: r, t, st, a, w, hd, hs, hq => by
   have ho : l[t]? = some o:=by
    have:=congrArg (fun x : List Oper => x[0]?) hd
    simpa using this
   have hd' : l.drop (t + 1)=r++r2:=by
    have:=congrArg List.tail hd
    simpa using this
   simp only [List.cons_append,List.length_cons,List.range'_succ,wpOps]
   have ho' : (l.toArray)[t]? = some o:=by simpa using ho
   rw [ho']
   simp only
   have:=xl6 hs hq (K':=wpOps P l.toArray Q (List.range' (t + 1) (r++r2).length)) (Q:=Q) fun st' a' w' hs' hk => za0 hQ r2 r (t + 1) st' a' w' hd' hs' hk
   split
   . rename_i hw; rw [if_pos hw] at this; exact .inl this
   . rename_i hw; rw [if_neg hw] at this; exact this
theorem Ok.regCut {P : Program} {N id : Nat} {ops : Array Oper} {Q : Exit->St->Prop} {st : St} (m : Nat) (h : OpsW P N ops.toList (ops.toList.take m) st (Wkd N (fun st' => OpsW P N ops.toList (ops.toList.drop m) st' (Q .normal)))) : Ok P N (.region id ops false) Q st:=fun _ _ Z B M w0 a w hs => by
 obtain ⟨l⟩:=ops
 rw [xp3] at h
 have e : (fun st' => OpsW P N l (l.drop m) st' (Q .normal))=fun st' => opsA P N l (l.drop m) st' (Q .normal):=funext fun _ => xp3
 have h : opsA P N l (l.take m) st (Wkd N (fun st' => OpsW P N l (l.drop m) st' (Q .normal))):=h
 rw [e] at h
 have:=za0 (P:=P) (Q:=lift Z N B M w0 Q) (fun st a w hs hk => ⟨st,hs,hk⟩) (l.drop m) (l.take m) 0 st a w (List.take_append_drop m l).symm hs h
 show wpOps P l.toArray (lift Z N B M w0 Q) (List.range l.toArray.size) a w
 simpa [List.range_eq_range',List.take_append_drop] using this
end Abs
namespace Abs.Y
open Go Go.Proofs Abs
set_option maxRecDepth 100000

def sgTo (out : List (List Int)) (v : Int) (k : Nat) : List (List Int):=sgS (out.take k) v
theorem sgTo_succ {out : List (List Int)} {v : Int} {k : Nat} (h : k < out.length) : sgTo out v (k + 1)=sgTo out v k++[out.getD k []++[v],out.getD k []++[-v]]:=by
 unfold sgTo sgS
 rw [xf7 [] out k h,List.flatMap_append]; simp
theorem sgTo_len (out : List (List Int)) (v : Int) (k : Nat) : (sgTo out v k).length<=2 * k:=by
 unfold sgTo; rw [zp6,List.length_take]; omega
set_option maxHeartbeats 4000000 in
theorem signings_ok (l : List Int) (hl : l.length<=4) (hb : ∀ v ∈ l,0 < v∧v<=60) : Ctr Tryz.prog 79 [D.ints l] true (.d (.slice ((sgI l).map D.ints))) []:=by
 have hs0 : [D.slice []]=List.map D.ints (sgI []):=rfl
 refine Ctr.of (n:=40) (rs:=[.tmp 2]) Tryz.func79 rfl rfl Tryz.ntmps79 rfl rfl (by kernel_rfl) Tryz.checked.mixed ?_
 simp (disch:=first | omega | decide +kernel) only [D.ints,go_sem,Qa,Qb,Qc,Qd,Qe,↓reduceIte,reduceCtorEq,Qf,Qg,Qh]
 (repeat' (first | ((first | (refine xa0 ?_ ?_<;>intro q'<;>(have h':=q')<;>(try simp only [zz] at h')<;>try (exfalso; omega)) | (have q':=trivial; first | refine hE _ _ xa5 ?_ | refine hE _ _ xa2 ?_))<;>(try simp (disch:=first | omega | decide +kernel) only [q',D.ints,go_sem,Qa,Qb,Qc,Qd,Qe,↓reduceIte,reduceCtorEq,Qf,Qg,Qh])<;>clear q') | (with_reducible first | refine And.intro ?_ ?_ | omega) | exact xa6 | (refine xa1 ?_; omega) | (refine za9 ⟨?_,?_⟩) | (simp only [go_sem,Qc,Qb,zb1,zb2,forall_eq]; done)))
 refine Ok.weak (Wk.frz (j:=9) rfl) ?_
 simp (disch:=first | omega | decide +kernel) only [St.frz,frzS,frzO,AV.frz,AV.frzL,AO.frz,go_sem,Qa,Qb,Qc,Qd,Qe,↓reduceIte,reduceCtorEq,Qf,Qg,Qh]
 refine Ok.loopNO [25,24,23,22,21,20,19,18,17,16,15,14,13,12,9,8,7,6,5,4,3,1] (fun i _ => [(12,.d (.int .i64 (i : Nat))),(3,.d (.slice ((sgI (l.take i)).map D.ints)))]) (fun i (_ : Unit) => []) l.length (fun _ _ => True) () trivial (by refine Wk.auto ?_ ?_<;>simp [xb1,lk,killL,St.kill,xb4,xb6,AV.has,AV.hasL,AO.wipe,List.map_set,xc2,insL,xc4,ins,hs0]) ?_
 rintro R i _ hN hE hi _
 refine Ok.go ?_
 by_cases hlt : i < l.length
 . have hei:=xl3 (xs:=l) hlt
   have hv:=hb _ (xc0 (z:=(0 : Int)) hlt)
   have hs : sgI (l.take (i + 1))=sgS (sgI (l.take i)) (l.getD i 0):=by rw [xf7 0 l i hlt,xw0]
   have hL : (sgI (l.take i)).length<=8:=by
    rw [yw8,List.length_take,Nat.min_eq_left hi]
    have : i<=3:=by omega
    exact Nat.pow_le_pow_right (n:=2) (by decide) this
   have hn : ∀ c ∈ sgI (l.take i),c.length<=4:=fun c hc => by
    have:=congrArg List.length (ym1 _ c hc)
    rw [List.length_map,List.length_map,List.length_take] at this
    omega
   generalize l.getD i 0=v at *
   generalize sgI (l.take i)=out at *
   simp (disch:=first | omega | decide +kernel) only [hei,go_sem,Qa,Qb,Qc,Qd,Qe,↓reduceIte,reduceCtorEq,Qf,Qg,Qh]
   (repeat' (first | ((first | (refine xa0 ?_ ?_<;>intro q'<;>(have h':=q')<;>(try simp only [zz] at h')<;>try (exfalso; omega)) | (have q':=trivial; first | refine hE _ _ xa5 ?_ | refine hE _ _ xa2 ?_))<;>(try simp (disch:=first | omega | decide +kernel) only [q',hei,go_sem,Qa,Qb,Qc,Qd,Qe,↓reduceIte,reduceCtorEq,Qf,Qg,Qh])<;>clear q') | (with_reducible first | refine And.intro ?_ ?_ | omega) | (refine xa1 ?_; omega)))
   have hz : sgTo out v 0=[]:=rfl
   refine Ok.loopNO [25,24,23,22,21,20,19,18,15,14,13,9,8,7,6,4,1] (fun k _ => [(18,.d (.int .i64 (k : Nat))),(6,.sl 6)]) (fun k (_ : Unit) => [(6,.arr 25 1 ((sgTo out v k).map D.ints))]) out.length (fun _ _ => True) () trivial (by refine Wk.auto ?_ ?_<;>simp [xb1,lk,killL,St.kill,xb4,xb6,AV.has,AV.hasL,AO.wipe,List.map_set,xc2,insL,xc4,ins,hz,List.map_nil]) ?_
   rintro R2 k _ hN2 hE2 hk _
   by_cases hkt : k < out.length
   . have hek:=yk5 (xs:=out) hkt
     have hm:=hn _ (xc0 (z:=([] : List Int)) hkt)
     have c1:=clone_ok (out.getD k []) (by omega)
     have hsu:=sgTo_succ (v:=v) hkt
     have hsl:=sgTo_len out v k
     have hneg : IntKind.i64.wrap (0 - v)=-v:=by rw [xv7 (by omega)]; omega
     simp only [D.ints] at c1
     generalize out.getD k []=c at *
     refine Ok.seq (Ok.go ?_)
     simp (disch:=first | omega | decide +kernel) only [List.length_map,go_sem,Qa,Qb,Qc,Qd,Qe,↓reduceIte,reduceCtorEq,Qf,Qg,Qh]
     (repeat' (first | ((first | (refine xa0 ?_ ?_<;>intro q'<;>(have h':=q')<;>(try simp only [zz] at h')<;>try (exfalso; omega)) | (have q':=trivial; first | refine hE _ _ xa5 ?_ | refine hE _ _ xa2 ?_))<;>(try simp (disch:=first | omega | decide +kernel) only [q',List.length_map,go_sem,Qa,Qb,Qc,Qd,Qe,↓reduceIte,reduceCtorEq,Qf,Qg,Qh])<;>clear q') | (with_reducible first | refine And.intro ?_ ?_ | omega) | (refine xa1 ?_; omega)))
     refine Ok.seq (Ok.go ?_)
     simp (disch:=first | omega | decide +kernel) only [go_sem,Qa,Qb,Qc,Qd,Qe,↓reduceIte,reduceCtorEq,Qf,Qg,Qh]
     (repeat' (first | ((first | (refine xa0 ?_ ?_<;>intro q'<;>(have h':=q')<;>(try simp only [zz] at h')<;>try (exfalso; omega)) | (have q':=trivial; first | refine hE _ _ xa5 ?_ | refine hE _ _ xa2 ?_))<;>(try simp (disch:=first | omega | decide +kernel) only [q',go_sem,Qa,Qb,Qc,Qd,Qe,↓reduceIte,reduceCtorEq,Qf,Qg,Qh])<;>clear q') | (with_reducible first | refine And.intro ?_ ?_ | omega) | (refine xa1 ?_; omega)))
     refine Ok.seq (Ok.block (Ok.seq (Ok.go ?_)))
     simp (disch:=first | omega | decide +kernel) only [hek,D.ints,go_sem,Qa,Qb,Qc,Qd,Qe,↓reduceIte,reduceCtorEq,Qf,Qg,Qh]
     (repeat' (first | ((first | (refine xa0 ?_ ?_<;>intro q'<;>(have h':=q')<;>(try simp only [zz] at h')<;>try (exfalso; omega)) | (have q':=trivial; first | refine hE _ _ xa5 ?_ | refine hE _ _ xa2 ?_))<;>(try simp (disch:=first | omega | decide +kernel) only [q',hek,D.ints,go_sem,Qa,Qb,Qc,Qd,Qe,↓reduceIte,reduceCtorEq,Qf,Qg,Qh])<;>clear q') | (with_reducible first | refine And.intro ?_ ?_ | omega) | (refine xa1 ?_; omega)))
     refine Ok.regCut 12 ?_
     simp (disch:=first | omega | decide +kernel) only [D.ints,hneg,go_sem,Qa,Qb,Qc,Qd,Qe,↓reduceIte,reduceCtorEq,Qf,Qg,Qh]
     (repeat' (first | ((first | (refine xa0 ?_ ?_<;>intro q'<;>(have h':=q')<;>(try simp only [zz] at h')<;>try (exfalso; omega)) | (have q':=trivial; first | refine xa3 (c1) rfl (by decide) ?_ | refine xa4 (c1) rfl ?_ | refine hE _ _ xa5 ?_ | refine hE _ _ xa2 ?_))<;>(try simp (disch:=first | omega | decide +kernel) only [q',D.ints,hneg,go_sem,Qa,Qb,Qc,Qd,Qe,↓reduceIte,reduceCtorEq,Qf,Qg,Qh])<;>clear q') | (with_reducible first | refine And.intro ?_ ?_ | omega) | exact xa6 | (refine xa1 ?_; omega) | (refine za9 ⟨?_,?_⟩) | (simp only [go_sem,Qc,Qb,zb1,zb2,forall_eq]; done)))
     refine Wkd.of ((Wk.frz (j:=3000000) rfl).trans (Wk.frz (j:=2500000) rfl)) ?_
     simp (disch:=first | omega | decide +kernel) only [St.frz,frzS,frzO,AV.frz,AV.frzL,AO.frz,go_sem,Qa,Qb,Qc,Qd,Qe,↓reduceIte,reduceCtorEq,Qf,Qg,Qh]
     (repeat' (first | ((first | (refine xa0 ?_ ?_<;>intro q'<;>(have h':=q')<;>(try simp only [zz] at h')<;>try (exfalso; omega)) | (have q':=trivial; first | refine hE _ _ xa5 ?_ | refine hE _ _ xa2 ?_))<;>(try simp (disch:=first | omega | decide +kernel) only [q',List.length_map,go_sem,Qa,Qb,Qc,Qd,Qe,↓reduceIte,reduceCtorEq,Qf,Qg,Qh])<;>clear q') | (with_reducible first | refine And.intro ?_ ?_ | omega) | exact xa6 | (refine xa1 ?_; omega) | (refine za9 ⟨?_,?_⟩) | (simp only [go_sem,Qc,Qb,zb1,zb2,forall_eq]; done)))
     refine Ok.go ?_
     simp (disch:=first | omega | decide +kernel) only [go_sem,Qa,Qb,Qc,Qd,Qe,↓reduceIte,reduceCtorEq,Qf,Qg,Qh]
     rw [show (k : Int) + 1=((k + 1 : Nat) : Int) by omega]
     refine hN2 () _ hkt trivial ?_
     rw [hsu]
     exact (by refine Wk.auto ?_ ?_<;>simp [xb1,lk,killL,St.kill,xb4,xb6,AV.has,AV.hasL,AO.wipe,List.map_set,xc2,insL,xc4,ins,D.ints,List.map_append,List.map_cons,List.map_nil,List.append_assoc])
   . obtain rfl : k=out.length:=by omega
     have ho : sgTo out v out.length=sgS out v:=by unfold sgTo; rw [List.take_length]
     refine Ok.go ?_
     simp (disch:=first | omega | decide +kernel) only [go_sem,Qa,Qb,Qc,Qd,Qe,↓reduceIte,reduceCtorEq,Qf,Qg,Qh]
     (repeat' (first | ((first | (refine xa0 ?_ ?_<;>intro q'<;>(have h':=q')<;>(try simp only [zz] at h')<;>try (exfalso; omega)) | (have q':=trivial; first | refine hE _ _ xa5 ?_ | refine hE _ _ xa2 ?_))<;>(try simp (disch:=first | omega | decide +kernel) only [q',go_sem,Qa,Qb,Qc,Qd,Qe,↓reduceIte,reduceCtorEq,Qf,Qg,Qh])<;>clear q') | (with_reducible first | refine And.intro ?_ ?_ | omega) | (refine xa1 ?_; omega)))
     refine hE2 _ _ xa2 ?_
     simp (disch:=first | omega | decide +kernel) only [go_sem,Qa,Qb,Qc,Qd,Qe,↓reduceIte,reduceCtorEq,Qf,Qg,Qh]
     rw [show (i : Int) + 1=((i + 1 : Nat) : Int) by omega,ho]
     refine hN () _ hlt trivial ((Wk.frz (j:=6) rfl).trans ?_)
     rw [hs]
     exact (by refine Wk.auto ?_ ?_<;>simp [xb1,lk,killL,St.kill,xb4,xb6,AV.has,AV.hasL,AO.wipe,List.map_set,xc2,insL,xc4,ins,St.frz,frzS,frzO,AV.frz,AV.frzL,AO.frz])
 . obtain rfl : i=l.length:=by omega
   rw [List.take_length] at *
   simp (disch:=first | omega | decide +kernel) only [go_sem,Qa,Qb,Qc,Qd,Qe,↓reduceIte,reduceCtorEq,Qf,Qg,Qh]
   (repeat' (first | ((first | (refine xa0 ?_ ?_<;>intro q'<;>(have h':=q')<;>(try simp only [zz] at h')<;>try (exfalso; omega)) | (have q':=trivial; first | refine hE _ _ xa5 ?_ | refine hE _ _ xa2 ?_))<;>(try simp (disch:=first | omega | decide +kernel) only [q',go_sem,Qa,Qb,Qc,Qd,Qe,↓reduceIte,reduceCtorEq,Qf,Qg,Qh])<;>clear q') | (with_reducible first | refine And.intro ?_ ?_ | omega) | (refine xa1 ?_; omega)))
   exact ya1 [] rfl
set_option maxHeartbeats 4000000 in
theorem xorClauses_ok (l : List Int) (odd : Bool) (hl : l.length<=4) (hb : ∀ v ∈ l,0 < v∧v<=60) : Ctr Tryz.prog 38 [D.ints l,.bool odd] true (.d (.slice ((xorI l odd).map D.ints))) []:=by
 have c1:=signings_ok l hl hb
 have hL : (sgI l).length<=16:=by rw [yw8]; exact Nat.pow_le_pow_right (n:=2) (by decide) hl
 have hn : ∀ c ∈ sgI l,c.length<=4:=fun c hc => by
  have:=congrArg List.length (ym1 _ c hc)
  rw [List.length_map,List.length_map] at this
  omega
 have hx : xorI l odd=(sgI l).filter (xpB odd):=rfl
 rw [hx]
 clear hx hb
 generalize sgI l=out at *
 simp only [D.ints] at c1
 refine Ctr.of (n:=40) (rs:=[.tmp 4]) Tryz.func38 rfl rfl Tryz.ntmps38 rfl rfl (by kernel_rfl) Tryz.checked.mixed ?_
 simp (disch:=first | omega | decide +kernel) only [D.ints,go_sem,Qa,Qb,Qc,Qd,Qe,↓reduceIte,reduceCtorEq,Qf,Qg,Qh]
 (repeat' (first | ((first | (refine xa0 ?_ ?_<;>intro q'<;>(have h':=q')<;>(try simp only [zz] at h')<;>try (exfalso; omega)) | (have q':=trivial; first | refine xb3 (c1) rfl (by decide) ?_ | refine xb2 (c1) rfl ?_ | refine hE _ _ xa5 ?_ | refine hE _ _ xa2 ?_))<;>(try simp (disch:=first | omega | decide +kernel) only [q',D.ints,go_sem,Qa,Qb,Qc,Qd,Qe,↓reduceIte,reduceCtorEq,Qf,Qg,Qh])<;>clear q') | (with_reducible first | refine And.intro ?_ ?_ | omega) | (refine xa1 ?_; omega)))
 refine Ok.loopN [25,24,23,22,21,20,19,18,17,16,15,14,10,9,8,7,6,5,3,2] (fun i _ => [(14,.d (.int .i64 (i : Nat))),(5,.sl 5)]) (fun i (_ : Unit) => [(5,.arr 25 1 (((out.take i).filter (xpB odd)).map D.ints))]) out.length (fun _ _ => True) () trivial (by refine Wk.auto ?_ ?_<;>simp [xb1,lk,killL,St.kill,xb4,xb6,AV.has,AV.hasL,AO.wipe,List.map_set,xc2,insL,xc4,ins,List.take_zero,List.filter_nil,List.map_nil]) ?_
 rintro R i _ hN hE hi _
 by_cases hlt : i < out.length
 . have hei:=yk5 (xs:=out) hlt
   have hm:=hn _ (xc0 (z:=([] : List Int)) hlt)
   have hs : (out.take (i + 1)).filter (xpB odd)=(out.take i).filter (xpB odd)++if xpB odd (out.getD i [])=true then [out.getD i []] else []:=by
    rw [xf7 [] out i hlt,List.filter_append,List.filter_cons,List.filter_nil]
   have hfl : ((out.take i).filter (xpB odd)).length<=i:=Nat.le_trans (List.length_filter_le _ _) (by rw [List.length_take]; omega)
   generalize (out.take i).filter (xpB odd)=fl at *
   generalize out.getD i []=c at *
   have hz : ngI []=0:=rfl
   simp (disch:=first | omega | decide +kernel) only [hei,D.ints,go_sem,Qa,Qb,Qc,Qd,Qe,↓reduceIte,reduceCtorEq,Qf,Qg,Qh]
   (repeat' (first | ((first | (refine xa0 ?_ ?_<;>intro q'<;>(have h':=q')<;>(try simp only [zz] at h')<;>try (exfalso; omega)) | (have q':=trivial; first | refine hE _ _ xa5 ?_ | refine hE _ _ xa2 ?_))<;>(try simp (disch:=first | omega | decide +kernel) only [q',hei,D.ints,go_sem,Qa,Qb,Qc,Qd,Qe,↓reduceIte,reduceCtorEq,Qf,Qg,Qh])<;>clear q') | (with_reducible first | refine And.intro ?_ ?_ | omega) | (refine xa1 ?_; omega)))
   refine Ok.loopN [25,24,23,22,21,20,17,16,15,10,9,8,6,3,2] (fun j _ => [(20,.d (.int .i64 (j : Nat))),(8,.d (.int .i64 (ngI (c.take j))))]) (fun _ (_ : Unit) => []) c.length (fun _ _ => True) () trivial (by refine Wk.auto ?_ ?_<;>simp [xb1,lk,killL,St.kill,xb4,xb6,AV.has,AV.hasL,AO.wipe,List.map_set,xc2,insL,xc4,ins,List.take_zero,hz]) ?_
   rintro R2 j _ hN2 hE hj _
   by_cases hjt : j < c.length
   . have hej:=xl3 (xs:=c) hjt
     have h0:=yu0 (c.take j)
     have h1:=zr2 (c.take j)
     have hsj : ngI (c.take (j + 1))=ngI (c.take j) + if c.getD j 0 < 0 then 1 else 0:=by rw [xf7 0 c j hjt,yn8]
     rw [List.length_take] at h1
     generalize c.getD j 0=y at *
     generalize ngI (c.take j)=m at *
     by_cases hy : y < 0
     . rw [if_pos hy] at hsj
       simp (disch:=first | omega | decide +kernel) only [hej,go_sem,Qa,Qb,Qc,Qd,Qe,↓reduceIte,reduceCtorEq,Qf,Qg,Qh]
       (repeat' (first | ((first | (refine xa0 ?_ ?_<;>intro q'<;>(have h':=q')<;>(try simp only [zz] at h')<;>try (exfalso; omega)) | (have q':=trivial; first | refine hE _ _ xa5 ?_ | refine hE _ _ xa2 ?_))<;>(try simp (disch:=first | omega | decide +kernel) only [q',hej,go_sem,Qa,Qb,Qc,Qd,Qe,↓reduceIte,reduceCtorEq,Qf,Qg,Qh])<;>clear q') | (with_reducible first | refine And.intro ?_ ?_ | omega) | (refine xa1 ?_; omega)))
       refine hN2 () _ hjt trivial (by refine Wk.auto ?_ ?_<;>simp [xb1,lk,killL,St.kill,xb4,xb6,AV.has,AV.hasL,AO.wipe,List.map_set,xc2,insL,xc4,ins,hsj])
     . rw [if_neg hy,Int.add_zero] at hsj
       simp (disch:=first | omega | decide +kernel) only [hej,go_sem,Qa,Qb,Qc,Qd,Qe,↓reduceIte,reduceCtorEq,Qf,Qg,Qh]
       (repeat' (first | ((first | (refine xa0 ?_ ?_<;>intro q'<;>(have h':=q')<;>(try simp only [zz] at h')) | (have q':=trivial; first | refine hE _ _ xa5 ?_ | refine hE _ _ xa2 ?_))<;>(try simp (disch:=first | omega | decide +kernel) only [q',hej,go_sem,Qa,Qb,Qc,Qd,Qe,↓reduceIte,reduceCtorEq,Qf,Qg,Qh])<;>clear q') | refine hN _ ?_ ?_ Wk.kk | (with_reducible first | refine And.intro ?_ ?_ | omega) | exact xb8 | exact xa8 | exact xa6 | with_reducible exact xa7 | (refine xa1 ?_; omega) | (refine za9 ⟨?_,?_⟩) | (simp only [go_sem,Qc,Qb,zb1,zb2,forall_eq]; done)))
       refine hN2 () _ hjt trivial (by refine Wk.auto ?_ ?_<;>simp [xb1,lk,killL,St.kill,xb4,xb6,AV.has,AV.hasL,AO.wipe,List.map_set,xc2,insL,xc4,ins,hsj])
   . obtain rfl : j=c.length:=by omega
     have hxp : xpB odd c=(decide (Int.tmod (ngI c) 2=0) == odd):=rfl
     rw [List.take_length] at *
     have h0:=yu0 c
     have h1:=zr2 c
     generalize ngI c=m at *
     clear hN2
     simp (disch:=first | omega | decide +kernel) only [go_sem,Qa,Qb,Qc,Qd,Qe,↓reduceIte,reduceCtorEq,Qf,Qg,Qh]
     (repeat' (first | ((first | (refine xa0 ?_ ?_<;>intro q'<;>(have h':=q')<;>(try simp only [zz] at h')) | (have q':=trivial; first | refine hE _ _ xa5 ?_ | refine hE _ _ xa2 ?_))<;>(try simp (disch:=first | omega | decide +kernel) only [q',go_sem,Qa,Qb,Qc,Qd,Qe,↓reduceIte,reduceCtorEq,Qf,Qg,Qh])<;>clear q') | refine hN _ ?_ ?_ Wk.kk | (with_reducible first | refine And.intro ?_ ?_ | omega) | exact xb8 | exact xa8 | exact xa6 | with_reducible exact xa7 | (refine xa1 ?_; omega) | (refine za9 ⟨?_,?_⟩) | (simp only [go_sem,Qc,Qb,zb1,zb2,forall_eq]; done)))
     all_goals rw [hxp,show decide (m.tmod 2=0)=(m.tmod 2 == 0) from rfl] at hs
     . rw [if_pos (by rw [h']; exact beq_self_eq_true odd)] at hs
       rw [show (i : Int) + 1=((i + 1 : Nat) : Int) by omega]
       refine hN () _ hlt trivial ?_
       rw [hs]
       exact (by refine Wk.auto ?_ ?_<;>simp [xb1,lk,killL,St.kill,xb4,xb6,AV.has,AV.hasL,AO.wipe,List.map_set,xc2,insL,xc4,ins,D.ints,List.map_append,List.map_cons,List.map_nil])
     . rw [if_neg (by simpa using h'),List.append_nil] at hs
       rw [show (i : Int) + 1=((i + 1 : Nat) : Int) by omega]
       refine hN () _ hlt trivial ?_
       rw [hs]
       exact (by refine Wk.auto ?_ ?_<;>simp [xb1,lk,killL,St.kill,xb4,xb6,AV.has,AV.hasL,AO.wipe,List.map_set,xc2,insL,xc4,ins,])
 . obtain rfl : i=out.length:=by omega
   rw [List.take_length] at *
   simp (disch:=first | omega | decide +kernel) only [go_sem,Qa,Qb,Qc,Qd,Qe,↓reduceIte,reduceCtorEq,Qf,Qg,Qh]
   (repeat' (first | ((first | (refine xa0 ?_ ?_<;>intro q'<;>(have h':=q')<;>(try simp only [zz] at h')<;>try (exfalso; omega)) | (have q':=trivial; first | refine hE _ _ xa5 ?_ | refine hE _ _ xa2 ?_))<;>(try simp (disch:=first | omega | decide +kernel) only [q',go_sem,Qa,Qb,Qc,Qd,Qe,↓reduceIte,reduceCtorEq,Qf,Qg,Qh])<;>clear q') | (with_reducible first | refine And.intro ?_ ?_ | omega) | (refine xa1 ?_; omega)))
   exact ya1 [5] rfl
end Abs.Y

namespace Abs
open Go Go.RowKit
end Abs

namespace Abs
open Go Go.Proofs
end Abs
namespace Abs.Y
open Go Go.Proofs Abs
set_option maxRecDepth 100000

section
variable (g : List Int->List Int) (n : Nat)
def pvar (i j : Nat) : Int:=((i : Int) - 1) * n + j
def pRow (i : Nat) : Nat->List Int
 | 0 => []
 | j + 1 => pRow i j++[pvar n i (j + 1)]
def pA : Nat->List (List Int)
 | 0 => []
 | i + 1 => pA i++[g (pRow n (i + 1) n)]
def pK (j i : Nat) (l : List (List Int)) : Nat->List (List Int)
 | 0 => l
 | c + 1 => pK j i l c++[g [-(pvar n i j),-(pvar n (i + 1 + c) j)]]
def pI (j : Nat) (l : List (List Int)) : Nat->List (List Int)
 | 0 => l
 | c + 1 => pK g n j (c + 1) (pI j l c) (n - c)
def pJ : Nat->List (List Int)
 | 0 => pA g n (n + 1)
 | c + 1 => pI g n (c + 1) (pJ c) (n + 1)
def fM (i j : Nat) (l : List (List Int)) : Nat->List (List Int)
 | 0 => l
 | c + 1 => fM i j l c++[g [-(pvar n i j),-(pvar n i (j + 1 + c))]]
def fJ (i : Nat) (l : List (List Int)) : Nat->List (List Int)
 | 0 => l
 | c + 1 => fM g n i (c + 1) (fJ i l c) (n - (c + 1))
def fI (l : List (List Int)) : Nat->List (List Int)
 | 0 => l
 | c + 1 => fJ g n (c + 1) (fI l c) n
def oRow (j : Nat) : Nat->List Int
 | 0 => []
 | i + 1 => oRow j i++[pvar n (i + 1) j]
def oJ (l : List (List Int)) : Nat->List (List Int)
 | 0 => l
 | c + 1 => oJ l c++[oRow n (c + 1) (n + 1)]
end
def cnfS (n : Nat) : List (List Int):=pJ id n n
def funS (n : Nat) : List (List Int):=fI id n (cnfS n) (n + 1)
def ontoS (n : Nat) : List (List Int):=oJ n (funS n) n
end Abs.Y

namespace Abs.Y
open Go Go.Proofs Abs
set_option maxRecDepth 100000

def mustI (xs : List Int) : List Int:=optL (zt0 xs)
@[reducible] def fmB (v : Int) (k : Nat) : AO:=.box 59 [.d (.int .i64 v),.sl k]
@[reducible] def fmT (L : List (List Int)) : AO:=.dp (some (25,1)) (L.map D.ints) none
def cnfI (n : Nat) : List (List Int):=pJ mustI n n
end Abs.Y
