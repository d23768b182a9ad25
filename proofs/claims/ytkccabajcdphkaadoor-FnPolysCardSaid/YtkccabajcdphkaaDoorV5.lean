/- What functions of this program compute, over plain data. No condition. -/
import Derived.Test.YtkccabajcdphkaaDoorAbsOwn
set_option linter.all false
open Nat renaming reduceEqDiff -> Qa, reduceLT -> Qb, reduceAdd -> Qc, reduceMul -> Qd, reduceSub -> Qe, reduceLeDiff -> Qf, reduceSubDiff -> Qg, reduceBEq -> Qh
open Bool renaming not_eq_true' -> Ba, not_eq_false' -> Bb, and_eq_true -> Bc, or_eq_true -> Bh, or_eq_false_iff -> Be
open Int renaming ofNat_lt -> Ia, ofNat_le -> Ib, not_lt -> Ic, not_le -> Ie
open Decidable renaming not_not -> Da
namespace Abs
open Go Go.RowKit

mutual
def AV.bfz (j : Nat) (x : D) : AV->AV
 | .sl i => if i=j then .undef else .sl i
 | .p i o => if i=j then (if o=0 then .d (.ptr x) else .undef) else .p i o
 | .pe i k n o => if i=j then .undef else .pe i k n o
 | .mq i => if i=j then .undef else .mq i
 | .sf i k l => if i=j then .undef else .sf i k l
 | .vw i q n k => if q=j then .undef else .vw i q n k
 | .pv i q k n o => if q=j then .undef else .pv i q k n o
 | .tup xs => .tup (AV.bfzL j x xs)
 | .st xs => .st (AV.bfzL j x xs)
 | .fn f cs => .fn f (AV.bfzL j x cs)
 | y => y
def AV.bfzL (j : Nat) (x : D) : List AV->List AV
 | [] => []
 | y :: r => y.bfz j x :: AV.bfzL j x r
end
def bfzS (j : Nat) (x : D) : List (Nat × AV)->List (Nat × AV)
 | [] => []
 | (k,v) :: r => (k,v.bfz j x) :: bfzS j x r
def AO.bfz (j : Nat) (x : D) : AO->AO
 | .box e cells => .box e (AV.bfzL j x cells)
 | .dp t xs (some (c,some d)) => .dp t xs (if d=j then some (c,none) else some (c,some d))
 | y => y
def bfzO (j : Nat) (x : D) : List (Nat × AO)->List (Nat × AO)
 | [] => []
 | (k,v) :: r => if k=j then bfzO j x r else (k,v.bfz j x) :: bfzO j x r
def cutQ (P : Program) (N : Nat) (y : Code) (Q : Exit->St->Prop) (st : St) : Prop:=∃ st',Wk N st st'∧Awp P N y Q st'
theorem Ctr.tupN {P : Program} {f : FuncId} {xs ys : List D} {sh : Bool} (h : Ctr P f xs sh (.tup (ys.map .d)) []) : Ctr P f xs sh (.d (.tup ys)) []:=by
 refine ⟨h.1,fun S w vs hvl hvr hG => (h.2 S w vs hvl hvr hG).mono fun e w' ⟨v,he,hF,β,φ,hR,h1,h2,h3⟩ => ⟨v,he,hF,β,φ,?_,h1,h2,h3⟩⟩
 cases hR with
 | tup hl hr =>
   refine .d (.tup (by simpa using hl) fun i hi => ?_)
   have:=hr i (by simpa using hi)
   have e : (ys.map AV.d).getD i .undef=.d (ys.getD i .nilptr):=by simp [List.getD_eq_getElem?_getD,hi]
   rw [e] at this
   cases this with
   | d h => exact h
end Abs

namespace Abs.Y
open Go Go.Proofs Abs
set_option maxRecDepth 100000

def litD (p : Int) (u : Nat) (l : Int) : List Int:=if 0 < l then monoD u (2 ^ (l - 1).toNat) else addD p (p - 1) (monoD u 0) (monoD u (2 ^ (0 - l - 1).toNat))
def clauseD (p : Int) (u : Nat) (c : List Int) : List Int:=c.foldl (fun v l => mulD p (2 ^ u) v (litD p u (0 - l))) (monoD u 0)
def LitU (u : Nat) (l : Int) : Prop:=(1<=l∧l<=u)∨(1<=0 - l∧0 - l<=u)
section
variable {p : Int} {u : Nat} (hp : 1 < p∧p<=5) (hu : u<=6)
include hp hu
end
end Abs.Y

namespace Abs.Y
open Go Go.Proofs Abs
set_option maxRecDepth 100000

@[reducible] def D.tm (q : Int × Int) : D:=.agg [.int .i64 q.1,.int .i64 q.2]
@[reducible] def D.tms (l : List (Int × Int)) : D:=.slice (l.map D.tm)
theorem el_tm {xs : List (Int × Int)} {i : Nat} (h : i < xs.length) : el (xs.map D.tm) i=.agg [.int .i64 (xs.getD i (0,0)).1,.int .i64 (xs.getD i (0,0)).2]:=el_map (f:=D.tm) (0,0) h
theorem plain_tms {l : List (Int × Int)} : ∀ x ∈ l.map D.tm,x.plain=true:=fun x hx => by
 obtain ⟨s,_,rfl⟩:=List.mem_map.1 hx; rfl
def Tms (p : Int) (n : Nat) (a : List (Int × Int)) : Prop:=∀ t ∈ a,(0<=t.1∧t.1 < n)∧0<=t.2∧t.2 < p
def dnT (n : Nat) (a : List (Int × Int)) : List Int:=a.foldl (fun v t => v.set t.1.toNat t.2) (List.replicate n 0)
theorem dnT_len (n : Nat) (a : List (Int × Int)) : (dnT n a).length=n:=by
 have : ∀ (a : List (Int × Int)) (v : List Int),(a.foldl (fun v t => v.set t.1.toNat t.2) v).length=v.length:=by
  intro a
  induction a with
  | nil => intro v; rfl
  | cons t r ih => intro v; rw [List.foldl_cons,ih]; simp
 rw [dnT,this]; simp
theorem Vec.dn {p : Int} {n : Nat} {a : List (Int × Int)} (hp : 0 < p) (h : Tms p n a) : Vec p n (dnT n a):=by
 have : ∀ (a : List (Int × Int)) (v : List Int),Tms p n a->Vec p n v->Vec p n (a.foldl (fun v t => v.set t.1.toNat t.2) v):=by
  intro a
  induction a with
  | nil => intro v _ h; exact h
  | cons t r ih =>
    intro v ht hv
    refine ih _ (fun x hx => ht x (by simp [hx])) ⟨by simp [hv.1],fun i => ?_⟩
    rw [getD_set]
    split
    . exact (ht t (by simp)).2
    . exact hv.2 i
 exact this a _ h (Vec.zero hp n)
theorem sp_len (v : List Int) : (spT v).length<=v.length:=by
 unfold spT
 rw [List.length_map]
 exact Nat.le_trans (List.length_filter_le _ _) (by simp)
theorem dn_sp (v : List Int) : dnT v.length (spT v)=v:=by
 have key : ∀ (r : List Nat) (w : List Int),w.length=v.length->(∀ m ∈ r,m < v.length)->∀ i,i < v.length ->
  (((r.filter fun m => decide (v.getD m 0 ≠ 0)).map fun m : Nat => ((m : Int),v.getD m 0)).foldl (fun (v : List Int) (t : Int × Int) => v.set t.1.toNat t.2) w).getD i 0=if i ∈ r∧v.getD i 0 ≠ 0 then v.getD i 0 else w.getD i 0:=by
  intro r
  induction r with
  | nil => intro w _ _ i _; simp
  | cons m r ih =>
    intro w hw hr i hi
    have hr' : ∀ m ∈ r,m < v.length:=fun x hx => hr x (by simp [hx])
    by_cases hz : v.getD m 0=0
    . rw [List.filter_cons_of_neg (by rw [decide_eq_true_eq]; exact fun h => h hz),ih w hw hr' i hi]
      by_cases e : i=m
      . subst e
        rw [if_neg (fun h => h.2 hz),if_neg (fun h => h.2 hz)]
      . by_cases hm : i ∈ r∧v.getD i 0 ≠ 0
        . rw [if_pos hm,if_pos ⟨by simp [hm.1],hm.2⟩]
        . rw [if_neg hm,if_neg (fun h => hm ⟨by simpa [e] using h.1,h.2⟩)]
    . rw [List.filter_cons_of_pos (by rw [decide_eq_true_eq]; exact hz),List.map_cons,List.foldl_cons]
      simp only [Int.toNat_natCast]
      rw [ih _ (by simp [hw]) hr' i hi,getD_set]
      by_cases hm : i ∈ r∧v.getD i 0 ≠ 0
      . rw [if_pos hm,if_pos ⟨by simp [hm.1],hm.2⟩]
      . rw [if_neg hm]
        by_cases e : m=i
        . subst e
          rw [if_pos ⟨rfl,by omega⟩,if_pos ⟨by simp,hz⟩]
        . rw [if_neg (fun h => e h.1),if_neg (fun h => hm ⟨by simpa [Ne.symm e] using h.1,h.2⟩)]
 refine ext_getDz 0 (dnT_len _ _) fun i hi => ?_
 rw [dnT_len] at hi
 have:=key (List.range v.length) (List.replicate v.length 0) (by simp) (fun m hm => List.mem_range.1 hm) i hi
 unfold dnT spT
 rw [this]
 by_cases hz : v.getD i 0=0
 . rw [if_neg (fun h => h.2 hz),hz,List.getD_eq_getElem?_getD,List.getElem?_replicate]; split<;>rfl
 . rw [if_pos ⟨List.mem_range.2 hi,hz⟩]
theorem mod_vec {p : Int} {n : Nat} {v : List Int} (h : Vec p n v) : v.map (fun x => x % p)=v:=by
 refine (List.map_congr_left fun x hx => ?_).trans (List.map_id v)
 obtain ⟨i,hi,rfl⟩:=mem_getD 0 hx
 exact Int.emod_eq_of_lt (h.2 i).1 (h.2 i).2
theorem Vec.mulS {p : Int} (hp : 0 < p) (n : Nat) (a b : List (Int × Int)) : Vec p n (mulS p n a b):=fold_vec (fun v t h => h.rowS hp b _ _) a (Vec.zero hp n)
theorem add_mod (p k : Int) (a b : List Int) : (List.zipWith (fun x y => x + k * y) a b).map (fun x => x % p)=addD p k a b:=by
 unfold addD
 rw [List.map_zipWith]
section
variable {p : Int} {u : Nat} (hp : 1 < p∧p<=5) (hu : u<=6)
include hp hu
set_option maxHeartbeats 4000000 in
theorem l18Dense_ok {a : List (Int × Int)} (hl : a.length<=4294967296) (ha : Tms p (2 ^ u) a) : Ctr Tryd.prog 132 [.int .i64 u,D.tms a] false (.sl 0) [(0,.arr 3 1 ((dnT (2 ^ u) a).map (.int .i64)))]:=by
 have h2:=pow_le6 hu
 have e : IntKind.wrap .i64 (1 * 2 ^ min u 64)=((2 ^ u : Nat) : Int):=shl_one (by omega)
 have er : List.replicate (2 ^ u) (D.int .i64 0)=(List.replicate (2 ^ u) (0 : Int)).map (D.int .i64):=by simp
 unfold dnT
 generalize 2 ^ u=n at *
 refine Ctr.of (n:=29) (rs:=[.tmp 4]) Tryd.func132 rfl rfl Tryd.ntmps132 rfl rfl (by kernel_rfl) Tryd.checked.mixed ?_
 simp (disch:=first | omega | decide +kernel) only [e,go_sem,Qa,Qb,Qc,Qd,Qe,↓reduceIte,reduceCtorEq,Qf,Qg,Qh]
 (repeat' (first | ((first | (refine gsel_split (fun q' => ?_) (fun q' => ?_)<;>(have h':=q')<;>(try simp only [za1,za2,Ba,Bb,za3,ne_eq,za4,za5,za6,Ia,Ib,Ic,Ie,Da,Bc,Bh,Be,za7,za8] at h')<;>try (exfalso; omega)) | (have q':=trivial; first | refine hE _ _ ret_ne ?_ | refine hE _ _ exit_ne ?_))<;>(try simp (disch:=first | omega | decide +kernel) only [q',e,go_sem,Qa,Qb,Qc,Qd,Qe,↓reduceIte,reduceCtorEq,Qf,Qg,Qh])<;>clear q') | refine hN _ ?_ ?_ Wk.kk | with_reducible refine And.intro ?_ ?_ | with_reducible omega | exact ok_ints | exact cells_ints | exact no_mem | with_reducible exact plain_ints | (refine le_maxLen ?_; omega) | (refine za9 ⟨?_,?_⟩) | (simp only [go_sem,Qc,Qb,zb1,zb2,forall_eq]; done)))
 all_goals (first | omega | skip)
 rw [er]
 refine Ok.loopN [27,26,25,24,23,22,21,20,19,18,17,16,15,14,13,12,11,10,9,8,7,6,3,2,0] (fun i _ => [(6,.d (.int .i64 (i : Nat)))]) (fun _ (v : List Int) => [(9,.arr 3 1 (List.map (D.int .i64) v))]) a.length
  (fun i v => v=(a.take i).foldl (fun v t => v.set t.1.toNat t.2) (List.replicate n 0)∧v.length=n) (List.replicate n 0) ⟨rfl,by simp⟩ (Wk.kk) ?_
 rintro R i v hN hE hi ⟨hv,hvl⟩
 by_cases hlt : i < a.length
 . have ht:=ha _ (getD_mem (z:=((0,0) : Int × Int)) hlt)
   have hs : (a.take (i + 1)).foldl (fun v t => v.set t.1.toNat t.2) (List.replicate n 0)=v.set (a.getD i (0,0)).1.toNat (a.getD i (0,0)).2:=by
    rw [take_succ (0,0) a i hlt,List.foldl_append,← hv]; rfl
   have hes:=el_tm hlt
   clear hv
   generalize a.getD i (0,0)=t at *
   simp (disch:=first | omega | decide +kernel) only [hes,go_sem,Qa,Qb,Qc,Qd,Qe,↓reduceIte,reduceCtorEq,Qf,Qg,Qh]
   (repeat' (first | ((first | (refine gsel_split (fun q' => ?_) (fun q' => ?_)<;>(have h':=q')<;>(try simp only [za1,za2,Ba,Bb,za3,ne_eq,za4,za5,za6,Ia,Ib,Ic,Ie,Da,Bc,Bh,Be,za7,za8] at h')<;>try (exfalso; omega)) | (have q':=trivial; first | refine hE _ _ ret_ne ?_ | refine hE _ _ exit_ne ?_))<;>(try simp (disch:=first | omega | decide +kernel) only [q',hes,go_sem,Qa,Qb,Qc,Qd,Qe,↓reduceIte,reduceCtorEq,Qf,Qg,Qh])<;>clear q') | refine hN _ ?_ ?_ Wk.kk | with_reducible refine And.intro ?_ ?_ | with_reducible omega | exact ok_ints | exact cells_ints | exact no_mem | with_reducible exact plain_ints | (refine le_maxLen ?_; omega) | (refine za9 ⟨?_,?_⟩) | (simp only [go_sem,Qc,Qb,zb1,zb2,forall_eq]; done)))
   all_goals (first | omega | (refine hN (v.set t.1.toNat t.2) _ hlt ⟨hs.symm,by simp [hvl]⟩ (by refine Wk.auto ?_ ?_<;>simp [extraK,lk,killL,St.kill,wipeO,wipeS,AV.has,AV.hasL,AO.wipe,List.map_set,updSt,insL,dropS,ins,]); done))
 . rw [List.take_of_length_le (by omega)] at hv
   obtain rfl : i=a.length:=by omega
   simp (disch:=first | omega | decide +kernel) only [go_sem,Qa,Qb,Qc,Qd,Qe,↓reduceIte,reduceCtorEq,Qf,Qg,Qh]
   (repeat' (first | ((first | (refine gsel_split (fun q' => ?_) (fun q' => ?_)<;>(have h':=q')<;>(try simp only [za1,za2,Ba,Bb,za3,ne_eq,za4,za5,za6,Ia,Ib,Ic,Ie,Da,Bc,Bh,Be,za7,za8] at h')<;>try (exfalso; omega)) | (have q':=trivial; first | refine hE _ _ ret_ne ?_ | refine hE _ _ exit_ne ?_))<;>(try simp (disch:=first | omega | decide +kernel) only [q',go_sem,Qa,Qb,Qc,Qd,Qe,↓reduceIte,reduceCtorEq,Qf,Qg,Qh])<;>clear q') | refine hN _ ?_ ?_ Wk.kk | with_reducible refine And.intro ?_ ?_ | with_reducible omega | exact ok_ints | exact cells_ints | exact no_mem | with_reducible exact plain_ints | (refine le_maxLen ?_; omega) | (refine za9 ⟨?_,?_⟩) | (simp only [go_sem,Qc,Qb,zb1,zb2,forall_eq]; done)))
   all_goals (first | omega | (rw [← hv]; exact ret_sl 9 rfl rfl plain_ints))
set_option maxHeartbeats 4000000 in
theorem l18Sparse_ok {v : List Int} (hl : v.length<=64) (hv : ∀ i,0<=v.getD i 0∧v.getD i 0<=1000) : Ctr Tryd.prog 83 [.int .i64 p,.ints v] false (.sl 0) [(0,.arr 41 2 ((spT (v.map fun x => x % p)).map D.tm))]:=by
 have hp0 : ¬ p=0:=by omega
 have hg : ∀ m,m < v.length->(v.map fun x => x % p).getD m 0=v.getD m 0 % p:=fun m hm => by
  simp only [List.getD_eq_getElem?_getD,List.getElem?_map,List.getElem?_eq_getElem hm,Option.map_some,Option.getD_some]
 refine Ctr.of (n:=30) (rs:=[.tmp 4]) Tryd.func83 rfl rfl Tryd.ntmps83 rfl rfl (by kernel_rfl) Tryd.checked.mixed ?_
 simp (disch:=first | omega | decide +kernel) only [D.ints,go_sem,Qa,Qb,Qc,Qd,Qe,↓reduceIte,reduceCtorEq,Qf,Qg,Qh]
 (repeat' (first | ((first | (refine gsel_split (fun q' => ?_) (fun q' => ?_)<;>(have h':=q')<;>(try simp only [za1,za2,Ba,Bb,za3,ne_eq,za4,za5,za6,Ia,Ib,Ic,Ie,Da,Bc,Bh,Be,za7,za8] at h')<;>try (exfalso; omega)) | (have q':=trivial; first | refine hE _ _ ret_ne ?_ | refine hE _ _ exit_ne ?_))<;>(try simp (disch:=first | omega | decide +kernel) only [q',D.ints,go_sem,Qa,Qb,Qc,Qd,Qe,↓reduceIte,reduceCtorEq,Qf,Qg,Qh])<;>clear q') | refine hN _ ?_ ?_ Wk.kk | with_reducible refine And.intro ?_ ?_ | with_reducible omega | exact ok_ints | exact cells_ints | exact no_mem | with_reducible exact plain_ints | (refine le_maxLen ?_; omega) | (refine za9 ⟨?_,?_⟩) | (simp only [go_sem,Qc,Qb,zb1,zb2,forall_eq]; done)))
 refine Ok.loopN [28,27,26,25,24,23,22,21,20,19,18,17,16,15,14,13,12,11,10,9,8,7,6,5,3,2] (fun i _ => [(6,.d (.int .i64 (i : Nat))),(5,.sl 8)]) (fun _ (w : List (Int × Int)) => [(8,.arr 41 2 (List.map D.tm w))]) v.length
  (fun i w => w=((List.range i).filter fun m => decide ((v.map fun x => x % p).getD m 0 ≠ 0)).map (fun m : Nat => ((m : Int),(v.map fun x => x % p).getD m 0))∧w.length<=i) [] ⟨rfl,Nat.le_refl _⟩ (Wk.kk) ?_
 rintro R i w hN hE hi ⟨hw,hwl⟩
 by_cases hlt : i < v.length
 . have hvi:=hv i
   have hgi:=hg i hlt
   have em : (v.getD i 0).tmod p=v.getD i 0 % p:=Int.tmod_eq_emod_of_nonneg hvi.1
   have hmn:=Int.emod_nonneg (v.getD i 0) hp0
   have hml:=Int.emod_lt_of_pos (v.getD i 0) (show 0 < p by omega)
   have hs : ((List.range (i + 1)).filter fun m => decide ((v.map fun x => x % p).getD m 0 ≠ 0)).map (fun m : Nat => ((m : Int),(v.map fun x => x % p).getD m 0))=if v.getD i 0 % p=0 then w else w++[((i : Int),v.getD i 0 % p)]:=by
    rw [List.range_succ,List.filter_append,List.map_append,← hw]
    by_cases hz : v.getD i 0 % p=0
    . rw [if_pos hz,List.filter_cons_of_neg (by rw [hgi,decide_eq_true_eq]; exact fun h => h hz)]; simp
    . rw [if_neg hz,List.filter_cons_of_pos (by rw [hgi,decide_eq_true_eq]; exact hz)]; simp only [List.filter_nil,List.map_cons,List.map_nil,hgi]
   clear hw hg
   generalize v.getD i 0 % p=r at *
   by_cases hz : r=0
   . rw [if_pos hz] at hs
     have hb : (r != 0)=false:=by rw [hz]; rfl
     simp (disch:=first | omega | decide +kernel) only [em,hb,go_sem,Qa,Qb,Qc,Qd,Qe,↓reduceIte,reduceCtorEq,Qf,Qg,Qh]
     (repeat' (first | ((first | (refine gsel_split (fun q' => ?_) (fun q' => ?_)<;>(have h':=q')<;>(try simp only [za1,za2,Ba,Bb,za3,ne_eq,za4,za5,za6,Ia,Ib,Ic,Ie,Da,Bc,Bh,Be,za7,za8] at h')<;>try (exfalso; omega)) | (have q':=trivial; first | refine hE _ _ ret_ne ?_ | refine hE _ _ exit_ne ?_))<;>(try simp (disch:=first | omega | decide +kernel) only [q',em,hb,go_sem,Qa,Qb,Qc,Qd,Qe,↓reduceIte,reduceCtorEq,Qf,Qg,Qh])<;>clear q') | refine hN _ ?_ ?_ Wk.kk | with_reducible refine And.intro ?_ ?_ | with_reducible omega | exact ok_ints | exact cells_ints | exact no_mem | with_reducible exact plain_ints | (refine le_maxLen ?_; omega) | (refine za9 ⟨?_,?_⟩) | (simp only [go_sem,Qc,Qb,zb1,zb2,forall_eq]; done)))
     all_goals (first | omega | (refine hN w _ hlt ⟨hs.symm,by omega⟩ (by refine Wk.auto ?_ ?_<;>simp [extraK,lk,killL,St.kill,wipeO,wipeS,AV.has,AV.hasL,AO.wipe,List.map_set,updSt,insL,dropS,ins,]); done))
   . rw [if_neg hz] at hs
     have hb : (r != 0)=true:=bne_iff_ne.2 hz
     simp (disch:=first | omega | decide +kernel) only [em,hb,go_sem,Qa,Qb,Qc,Qd,Qe,↓reduceIte,reduceCtorEq,Qf,Qg,Qh]
     (repeat' (first | ((first | (refine gsel_split (fun q' => ?_) (fun q' => ?_)<;>(have h':=q')<;>(try simp only [za1,za2,Ba,Bb,za3,ne_eq,za4,za5,za6,Ia,Ib,Ic,Ie,Da,Bc,Bh,Be,za7,za8] at h')<;>try (exfalso; omega)) | (have q':=trivial; first | refine hE _ _ ret_ne ?_ | refine hE _ _ exit_ne ?_))<;>(try simp (disch:=first | omega | decide +kernel) only [q',em,hb,go_sem,Qa,Qb,Qc,Qd,Qe,↓reduceIte,reduceCtorEq,Qf,Qg,Qh])<;>clear q') | refine hN _ ?_ ?_ Wk.kk | with_reducible refine And.intro ?_ ?_ | with_reducible omega | exact ok_ints | exact cells_ints | exact no_mem | with_reducible exact plain_ints | (refine le_maxLen ?_; omega) | (refine za9 ⟨?_,?_⟩) | (simp only [go_sem,Qc,Qb,zb1,zb2,forall_eq]; done)))
     all_goals (first | omega | (rw [ok_agg]; simp [D.atom]; done) | (refine hN (w++[((i : Int),r)]) _ hlt ⟨hs.symm,by simp; omega⟩ (by refine Wk.auto ?_ ?_<;>simp [extraK,lk,killL,St.kill,wipeO,wipeS,AV.has,AV.hasL,AO.wipe,List.map_set,updSt,insL,dropS,ins,]); done))
 . obtain rfl : i=v.length:=by omega
   have hw2 : w=spT (v.map fun x => x % p):=by rw [hw,spT,List.length_map]
   clear hw
   subst hw2
   simp (disch:=first | omega | decide +kernel) only [go_sem,Qa,Qb,Qc,Qd,Qe,↓reduceIte,reduceCtorEq,Qf,Qg,Qh]
   (repeat' (first | ((first | (refine gsel_split (fun q' => ?_) (fun q' => ?_)<;>(have h':=q')<;>(try simp only [za1,za2,Ba,Bb,za3,ne_eq,za4,za5,za6,Ia,Ib,Ic,Ie,Da,Bc,Bh,Be,za7,za8] at h')<;>try (exfalso; omega)) | (have q':=trivial; first | refine hE _ _ ret_ne ?_ | refine hE _ _ exit_ne ?_))<;>(try simp (disch:=first | omega | decide +kernel) only [q',go_sem,Qa,Qb,Qc,Qd,Qe,↓reduceIte,reduceCtorEq,Qf,Qg,Qh])<;>clear q') | refine hN _ ?_ ?_ Wk.kk | with_reducible refine And.intro ?_ ?_ | with_reducible omega | exact ok_ints | exact cells_ints | exact no_mem | with_reducible exact plain_ints | (refine le_maxLen ?_; omega) | (refine za9 ⟨?_,?_⟩) | (simp only [go_sem,Qc,Qb,zb1,zb2,forall_eq]; done)))
   all_goals (first | omega | exact ret_sl 8 rfl rfl plain_tms)
end
end Abs.Y

namespace Abs.Y
open Go Go.Proofs Abs
set_option maxRecDepth 100000

theorem mem_tms {p : Int} {n : Nat} {a : List (Int × Int)} (h : Tms p n a) {i : Nat} (hi : i < a.length) : ∃ k : Nat,k < n∧(a.getD i (0,0)).1=k∧0<=(a.getD i (0,0)).2∧(a.getD i (0,0)).2 < p:=by
 have ht:=h _ (getD_mem (z:=((0,0) : Int × Int)) hi)
 exact ⟨(a.getD i (0,0)).1.toNat,by omega,by omega,ht.2⟩
section
variable {p : Int} {u : Nat} (hp : 1 < p∧p<=5) (hu : u<=6)
include hp hu
set_option maxHeartbeats 4000000 in
theorem l18Mul_ok {a b : List (Int × Int)} (hal : a.length<=4294967296) (hbl : b.length<=4294967296) (ha : Tms p (2 ^ u) a) (hb : Tms p (2 ^ u) b) :
 Ctr Tryd.prog 62 [.int .i64 p,.int .i64 u,D.tms a,D.tms b] false (.sl 0) [(0,.arr 41 2 ((spT (mulS p (2 ^ u) a b)).map D.tm))]:=by
 have h2:=pow_le6 hu
 have hp0 : ¬ p=0:=by omega
 have e : IntKind.wrap .i64 (1 * 2 ^ min u 64)=((2 ^ u : Nat) : Int):=shl_one (by omega)
 have er : List.replicate (2 ^ u) (D.int .i64 0)=(List.replicate (2 ^ u) (0 : Int)).map (D.int .i64):=by simp
 have hvM:=Vec.mulS (p:=p) (by omega) (2 ^ u) a b
 have c1:=l18Sparse_ok hp hu (v:=mulS p (2 ^ u) a b) (by have:=hvM.1; omega) (fun i => by have:=hvM.2 i; omega)
 rw [mod_vec hvM] at c1
 have hor0 : ∀ k m,k < 2 ^ u->m < 2 ^ u->k ||| m < 2 ^ u:=fun k m h1 h2 => or_lt_pow h1 h2
 generalize hG : spT (mulS p (2 ^ u) a b)=G at *
 generalize 2 ^ u=n at *
 refine Ctr.of (n:=63) (rs:=[.tmp 8]) Tryd.func62 rfl rfl Tryd.ntmps62 rfl rfl (by kernel_rfl) Tryd.checked.mixed ?_
 simp (disch:=first | omega | decide +kernel) only [e,go_sem,Qa,Qb,Qc,Qd,Qe,↓reduceIte,reduceCtorEq,Qf,Qg,Qh]
 (repeat' (first | ((first | (refine gsel_split (fun q' => ?_) (fun q' => ?_)<;>(have h':=q')<;>(try simp only [za1,za2,Ba,Bb,za3,ne_eq,za4,za5,za6,Ia,Ib,Ic,Ie,Da,Bc,Bh,Be,za7,za8] at h')<;>try (exfalso; omega)) | (have q':=trivial; first | refine hE _ _ ret_ne ?_ | refine hE _ _ exit_ne ?_))<;>(try simp (disch:=first | omega | decide +kernel) only [q',e,go_sem,Qa,Qb,Qc,Qd,Qe,↓reduceIte,reduceCtorEq,Qf,Qg,Qh])<;>clear q') | refine hN _ ?_ ?_ Wk.kk | with_reducible refine And.intro ?_ ?_ | with_reducible omega | exact ok_ints | exact cells_ints | exact no_mem | with_reducible exact plain_ints | (refine le_maxLen ?_; omega) | (refine za9 ⟨?_,?_⟩) | (simp only [go_sem,Qc,Qb,zb1,zb2,forall_eq]; done)))
 all_goals (first | omega | skip)
 rw [er]
 refine Ok.loopN [59,58,57,56,55,54,53,52,51,50,49,48,47,46,45,44,43,42,41,40,39,38,37,36,35,34,33,32,31,30,29,28,27,26,25,24,23,22,21,20,19,18,17,16,15,14,13,12,11,10,7,6,5,4,1] (fun i _ => [(10,.d (.int .i64 (i : Nat)))]) (fun _ (v : List Int) => [(15,.arr 3 1 (List.map (D.int .i64) v))]) a.length
  (fun i v => v=(a.take i).foldl (fun v (s : Int × Int) => rowS p b s.1.toNat s.2 v) (List.replicate (n) 0)) (List.replicate (n) 0) rfl (Wk.kk) ?_
 rintro R i v hN0 hE0 hi hv
 by_cases hlt : i < a.length
 . have hvv : Vec p (n) v:=by rw [hv]; exact fold_vec (fun v s h => h.rowS (by omega) b _ _) _ (Vec.zero (by omega) _)
   have hsucc : (a.take (i + 1)).foldl (fun v (s : Int × Int) => rowS p b s.1.toNat s.2 v) (List.replicate (n) 0)=rowS p b (a.getD i (0,0)).1.toNat (a.getD i (0,0)).2 v:=by
    rw [take_succ (0,0) a i hlt,List.foldl_append,← hv]; rfl
   obtain ⟨k,hk,hk1,hc⟩:=mem_tms ha hlt
   have hea:=el_tm hlt
   rw [hk1] at hea hsucc
   rw [Int.toNat_natCast] at hsucc
   generalize (a.getD i (0,0)).2=c at *
   clear hv c1 hG
   simp (disch:=first | omega | decide +kernel) only [go_sem,Qa,Qb,Qc,Qd,Qe,↓reduceIte,reduceCtorEq,Qf,Qg,Qh]
   (repeat' (first | ((first | (refine gsel_split (fun q' => ?_) (fun q' => ?_)<;>(have h':=q')<;>(try simp only [za1,za2,Ba,Bb,za3,ne_eq,za4,za5,za6,Ia,Ib,Ic,Ie,Da,Bc,Bh,Be,za7,za8] at h')<;>try (exfalso; omega)) | (have q':=trivial; first | refine hE _ _ ret_ne ?_ | refine hE _ _ exit_ne ?_))<;>(try simp (disch:=first | omega | decide +kernel) only [q',go_sem,Qa,Qb,Qc,Qd,Qe,↓reduceIte,reduceCtorEq,Qf,Qg,Qh])<;>clear q') | refine hN _ ?_ ?_ Wk.kk | with_reducible refine And.intro ?_ ?_ | with_reducible omega | exact ok_ints | exact cells_ints | exact no_mem | with_reducible exact plain_ints | (refine le_maxLen ?_; omega) | (refine za9 ⟨?_,?_⟩) | (simp only [go_sem,Qc,Qb,zb1,zb2,forall_eq]; done)))
   refine Ok.loopN [59,58,57,56,55,54,53,52,51,50,49,48,47,46,45,44,43,42,41,40,39,38,37,36,35,34,33,32,31,30,29,28,27,26,25,24,23,22,15,14,13,12,11,7,6,5,4,1] (fun j _ => [(11,.d (.int .i64 (j : Nat)))]) (fun _ (w : List Int) => [(15,.arr 3 1 (List.map (D.int .i64) w))]) b.length
    (fun j w => w=rowS p (b.take j) k c v) v rfl (Wk.kk) ?_
   rintro R2 j w hN hE hj hw
   by_cases hjt : j < b.length
   . have hwv : Vec p (n) w:=by rw [hw]; exact hvv.rowS (by omega) _ _ _
     obtain ⟨m,hm,hm1,hd⟩:=mem_tms hb hjt
     have heb:=el_tm hjt
     have hs2 : rowS p (b.take (j + 1)) k c v=w.set (k ||| m) ((w.getD (k ||| m) 0 + c * (b.getD j (0,0)).2) % p):=by
      unfold rowS
      rw [take_succ (0,0) b j hjt,List.foldl_append]
      unfold rowS at hw
      rw [← hw]
      simp only [List.foldl_cons,List.foldl_nil,stP,hm1,Int.toNat_natCast]
     rw [hm1] at heb
     generalize (b.getD j (0,0)).2=d at *
     have hor:=hor0 k m hk hm
     have eo:=bitV_or (a:=k) (b:=m) (by omega) (by omega)
     have hwk:=hwv.2 (k ||| m)
     have hwl:=hwv.1
     clear hw
     generalize k ||| m=o at *
     have hcd : 0<=c * d∧c * d<=25:=⟨Int.mul_nonneg hc.1 hd.1,Int.le_trans (Int.mul_le_mul (show c<=5 by omega) (show d<=5 by omega) hd.1 (by decide)) (by decide)⟩
     have em : (w.getD o 0 + c * d).tmod p=(w.getD o 0 + c * d) % p:=Int.tmod_eq_emod_of_nonneg (by omega)
     simp (disch:=first | omega | decide +kernel) only [hea,heb,eo,em,go_sem,Qa,Qb,Qc,Qd,Qe,↓reduceIte,reduceCtorEq,Qf,Qg,Qh]
     (repeat' (first | ((first | (refine gsel_split (fun q' => ?_) (fun q' => ?_)<;>(have h':=q')<;>(try simp only [za1,za2,Ba,Bb,za3,ne_eq,za4,za5,za6,Ia,Ib,Ic,Ie,Da,Bc,Bh,Be,za7,za8] at h')<;>try (exfalso; omega)) | (have q':=trivial; first | refine hE _ _ ret_ne ?_ | refine hE _ _ exit_ne ?_))<;>(try simp (disch:=first | omega | decide +kernel) only [q',hea,heb,eo,em,go_sem,Qa,Qb,Qc,Qd,Qe,↓reduceIte,reduceCtorEq,Qf,Qg,Qh])<;>clear q') | refine hN _ ?_ ?_ Wk.kk | with_reducible refine And.intro ?_ ?_ | with_reducible omega | exact ok_ints | exact cells_ints | exact no_mem | with_reducible exact plain_ints | (refine le_maxLen ?_; omega) | (refine za9 ⟨?_,?_⟩) | (simp only [go_sem,Qc,Qb,zb1,zb2,forall_eq]; done)))
     all_goals (first | omega | (refine hN (w.set o ((w.getD o 0 + c * d) % p)) _ hjt hs2.symm (by refine Wk.auto ?_ ?_<;>simp [extraK,lk,killL,St.kill,wipeO,wipeS,AV.has,AV.hasL,AO.wipe,List.map_set,updSt,insL,dropS,ins,]); done))
   . obtain rfl : j=b.length:=by omega
     rw [List.take_length] at hw
     simp (disch:=first | omega | decide +kernel) only [go_sem,Qa,Qb,Qc,Qd,Qe,↓reduceIte,reduceCtorEq,Qf,Qg,Qh]
     (repeat' (first | ((first | (refine gsel_split (fun q' => ?_) (fun q' => ?_)<;>(have h':=q')<;>(try simp only [za1,za2,Ba,Bb,za3,ne_eq,za4,za5,za6,Ia,Ib,Ic,Ie,Da,Bc,Bh,Be,za7,za8] at h')<;>try (exfalso; omega)) | (have q':=trivial; first | refine hE _ _ ret_ne ?_ | refine hE _ _ exit_ne ?_))<;>(try simp (disch:=first | omega | decide +kernel) only [q',go_sem,Qa,Qb,Qc,Qd,Qe,↓reduceIte,reduceCtorEq,Qf,Qg,Qh])<;>clear q') | refine hN _ ?_ ?_ Wk.kk | with_reducible refine And.intro ?_ ?_ | with_reducible omega | exact ok_ints | exact cells_ints | exact no_mem | with_reducible exact plain_ints | (refine le_maxLen ?_; omega) | (refine za9 ⟨?_,?_⟩) | (simp only [go_sem,Qc,Qb,zb1,zb2,forall_eq]; done)))
     all_goals (first | omega | (refine hN0 w _ hlt (by rw [hw]; exact hsucc.symm) (by refine Wk.auto ?_ ?_<;>simp [extraK,lk,killL,St.kill,wipeO,wipeS,AV.has,AV.hasL,AO.wipe,List.map_set,updSt,insL,dropS,ins,]); done))
 . obtain rfl : i=a.length:=by omega
   rw [List.take_length] at hv
   have hv2 : v=mulS p (n) a b:=hv
   rw [← hv2] at c1
   have hE:=hE0
   clear hv hv2 hG
   simp (disch:=first | omega | decide +kernel) only [go_sem,Qa,Qb,Qc,Qd,Qe,↓reduceIte,reduceCtorEq,Qf,Qg,Qh]
   (repeat' (first | ((first | (refine gsel_split (fun q' => ?_) (fun q' => ?_)<;>(have h':=q')<;>(try simp only [za1,za2,Ba,Bb,za3,ne_eq,za4,za5,za6,Ia,Ib,Ic,Ie,Da,Bc,Bh,Be,za7,za8] at h')<;>try (exfalso; omega)) | (have q':=trivial; first | refine callX_new (c1) rfl (by decide) ?_ | refine callY_new (c1) rfl ?_ | refine hE _ _ ret_ne ?_ | refine hE _ _ exit_ne ?_))<;>(try simp (disch:=first | omega | decide +kernel) only [q',D.ints,go_sem,Qa,Qb,Qc,Qd,Qe,↓reduceIte,reduceCtorEq,Qf,Qg,Qh])<;>clear q') | refine hN _ ?_ ?_ Wk.kk | with_reducible refine And.intro ?_ ?_ | with_reducible omega | exact ok_ints | exact cells_ints | exact no_mem | with_reducible exact plain_ints | (refine le_maxLen ?_; omega) | (refine za9 ⟨?_,?_⟩) | (simp only [go_sem,Qc,Qb,zb1,zb2,forall_eq]; done)))
   all_goals (first | omega | exact ret_sl 6300000 rfl rfl plain_tms)
end
end Abs.Y

namespace Abs.Y
open Go Go.Proofs Abs
set_option maxRecDepth 100000

section
variable {p : Int} {u : Nat} (hp : 1 < p∧p<=5) (hu : u<=6)
include hp hu
set_option maxHeartbeats 4000000 in
theorem l18AddK_ok {a b : List (Int × Int)} {k : Int} (hk : 0<=k∧k<=5) (hal : a.length<=4294967296) (hbl : b.length<=4294967296) (ha : Tms p (2 ^ u) a) (hb : Tms p (2 ^ u) b) :
 Ctr Tryd.prog 64 [.int .i64 p,.int .i64 u,D.tms a,D.tms b,.int .i64 k] false (.sl 0) [(0,.arr 41 2 ((spT (addD p k (dnT (2 ^ u) a) (dnT (2 ^ u) b))).map D.tm))]:=by
 have h2:=pow_le6 hu
 have hva:=Vec.dn (p:=p) (by omega) ha
 have hvb:=Vec.dn (p:=p) (by omega) hb
 have c1:=l18Dense_ok hp hu hal ha
 have c2:=l18Dense_ok hp hu hbl hb
 generalize dnT (2 ^ u) a=x at *
 generalize dnT (2 ^ u) b=y at *
 have hxl:=hva.1
 have hyl:=hvb.1
 have hZ : ∀ i,0<=(List.zipWith (fun x y => x + k * y) x y).getD i 0∧(List.zipWith (fun x y => x + k * y) x y).getD i 0<=1000:=fun i => by
  by_cases hi : i < x.length
  . rw [getD_zip _ _ _ (by omega) i hi]
    have h3:=hva.2 i
    have h4:=hvb.2 i
    have hkb : 0<=k * y.getD i 0∧k * y.getD i 0<=25:=⟨Int.mul_nonneg hk.1 h4.1,Int.le_trans (Int.mul_le_mul hk.2 (show y.getD i 0<=5 by omega) h4.1 (by decide)) (by decide)⟩
    omega
  . rw [List.getD_eq_getElem?_getD,List.getElem?_eq_none (by simp; omega)]; simp
 have c3:=l18Sparse_ok hp hu (v:=List.zipWith (fun x y => x + k * y) x y) (by simp; omega) hZ
 rw [add_mod] at c3
 generalize spT (addD p k x y)=G at *
 generalize 2 ^ u=n at *
 refine Ctr.of (n:=43) (rs:=[.tmp 10]) Tryd.func64 rfl rfl Tryd.ntmps64 rfl rfl (by kernel_rfl) Tryd.checked.mixed ?_
 simp (disch:=first | omega | decide +kernel) only [go_sem,Qa,Qb,Qc,Qd,Qe,↓reduceIte,reduceCtorEq,Qf,Qg,Qh]
 (repeat' (first | ((first | (refine gsel_split (fun q' => ?_) (fun q' => ?_)<;>(have h':=q')<;>(try simp only [za1,za2,Ba,Bb,za3,ne_eq,za4,za5,za6,Ia,Ib,Ic,Ie,Da,Bc,Bh,Be,za7,za8] at h')<;>try (exfalso; omega)) | (have q':=trivial; first | refine callX_new (c1) rfl (by decide) ?_ | refine callY_new (c1) rfl ?_ | refine callX_new (c2) rfl (by decide) ?_ | refine callY_new (c2) rfl ?_ | refine hE _ _ ret_ne ?_ | refine hE _ _ exit_ne ?_))<;>(try simp (disch:=first | omega | decide +kernel) only [q',go_sem,Qa,Qb,Qc,Qd,Qe,↓reduceIte,reduceCtorEq,Qf,Qg,Qh])<;>clear q') | refine hN _ ?_ ?_ Wk.kk | with_reducible refine And.intro ?_ ?_ | with_reducible omega | exact ok_ints | exact cells_ints | exact no_mem | with_reducible exact plain_ints | (refine le_maxLen ?_; omega) | (refine za9 ⟨?_,?_⟩) | (simp only [go_sem,Qc,Qb,zb1,zb2,forall_eq]; done)))
 refine Ok.loopN [39,38,37,36,35,34,33,32,31,30,29,28,27,26,25,24,23,22,21,20,19,18,17,16,15,14,13,9,8,7,6,5,3,2,1] (fun i _ => [(13,.d (.int .i64 (i : Nat)))]) (fun _ (v : List Int) => [(1700000,.arr 3 1 (List.map (D.int .i64) v))]) x.length
  (fun i v => v.length=x.length∧∀ j,v.getD j 0=if j < i then x.getD j 0 + k * y.getD j 0 else x.getD j 0) x ⟨rfl,by simp⟩ (Wk.kk) ?_
 rintro R i v hN hE hi ⟨hvl,hv⟩
 by_cases hlt : i < x.length
 . have hvi:=hv i
   rw [if_neg (by omega)] at hvi
   have hai:=hva.2 i
   have hbi:=hvb.2 i
   have hkb : 0<=k * y.getD i 0∧k * y.getD i 0<=25:=⟨Int.mul_nonneg hk.1 hbi.1,Int.le_trans (Int.mul_le_mul hk.2 (show y.getD i 0<=5 by omega) hbi.1 (by decide)) (by decide)⟩
   have hset : ∀ j,(v.set i (x.getD i 0 + k * y.getD i 0)).getD j 0=if j < i + 1 then x.getD j 0 + k * y.getD j 0 else x.getD j 0:=fun j => by
    rw [getD_set]
    by_cases e : i=j
    . subst e; rw [if_pos ⟨rfl,by omega⟩,if_pos (by omega)]
    . rw [if_neg (fun h => e h.1),hv j]
      by_cases e2 : j < i
      . rw [if_pos e2,if_pos (by omega)]
      . rw [if_neg e2,if_neg (by omega)]
   clear hv c3 hZ
   simp (disch:=first | omega | decide +kernel) only [hvi,go_sem,Qa,Qb,Qc,Qd,Qe,↓reduceIte,reduceCtorEq,Qf,Qg,Qh]
   (repeat' (first | ((first | (refine gsel_split (fun q' => ?_) (fun q' => ?_)<;>(have h':=q')<;>(try simp only [za1,za2,Ba,Bb,za3,ne_eq,za4,za5,za6,Ia,Ib,Ic,Ie,Da,Bc,Bh,Be,za7,za8] at h')<;>try (exfalso; omega)) | (have q':=trivial; first | refine hE _ _ ret_ne ?_ | refine hE _ _ exit_ne ?_))<;>(try simp (disch:=first | omega | decide +kernel) only [q',hvi,go_sem,Qa,Qb,Qc,Qd,Qe,↓reduceIte,reduceCtorEq,Qf,Qg,Qh])<;>clear q') | refine hN _ ?_ ?_ Wk.kk | with_reducible refine And.intro ?_ ?_ | with_reducible omega | exact ok_ints | exact cells_ints | exact no_mem | with_reducible exact plain_ints | (refine le_maxLen ?_; omega) | (refine za9 ⟨?_,?_⟩) | (simp only [go_sem,Qc,Qb,zb1,zb2,forall_eq]; done)))
   all_goals (first | omega | (refine hN (v.set i (x.getD i 0 + k * y.getD i 0)) _ hlt ⟨by simp [hvl],hset⟩ (by refine Wk.auto ?_ ?_<;>simp [extraK,lk,killL,St.kill,wipeO,wipeS,AV.has,AV.hasL,AO.wipe,List.map_set,updSt,insL,dropS,ins,]); done))
 . obtain rfl : i=x.length:=by omega
   have hv2 : v=List.zipWith (fun x y => x + k * y) x y:=by
    refine ext_getDz 0 (by simp; omega) fun j hj => ?_
    rw [hv j,if_pos (by omega),getD_zip _ _ _ (by omega) j (by omega)]
   rw [← hv2] at c3
   clear hv hv2 hZ
   simp (disch:=first | omega | decide +kernel) only [go_sem,Qa,Qb,Qc,Qd,Qe,↓reduceIte,reduceCtorEq,Qf,Qg,Qh]
   (repeat' (first | ((first | (refine gsel_split (fun q' => ?_) (fun q' => ?_)<;>(have h':=q')<;>(try simp only [za1,za2,Ba,Bb,za3,ne_eq,za4,za5,za6,Ia,Ib,Ic,Ie,Da,Bc,Bh,Be,za7,za8] at h')<;>try (exfalso; omega)) | (have q':=trivial; first | refine callX_new (c3) rfl (by decide) ?_ | refine callY_new (c3) rfl ?_ | refine hE _ _ ret_ne ?_ | refine hE _ _ exit_ne ?_))<;>(try simp (disch:=first | omega | decide +kernel) only [q',D.ints,go_sem,Qa,Qb,Qc,Qd,Qe,↓reduceIte,reduceCtorEq,Qf,Qg,Qh])<;>clear q') | refine hN _ ?_ ?_ Wk.kk | with_reducible refine And.intro ?_ ?_ | with_reducible omega | exact ok_ints | exact cells_ints | exact no_mem | with_reducible exact plain_ints | (refine le_maxLen ?_; omega) | (refine za9 ⟨?_,?_⟩) | (simp only [go_sem,Qc,Qb,zb1,zb2,forall_eq]; done)))
   all_goals (first | omega | exact ret_sl 4300000 rfl rfl plain_tms)
end
end Abs.Y
