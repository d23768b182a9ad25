/- What functions of this program compute, over plain data. No condition. -/
import Derived.Test.YtkccabajcdphkaaGreatPM5
import Derived.Test.YtkccabajcdphkaaGreatW4
import Derived.Test.YtkccabajcdphkaaGreatL2
import Derived.Test.YtkccabajcdphkaaGreatK2
import Derived.Test.YtkccabajcdphkaaGreatAbsBox
set_option linter.all false
open Nat renaming reduceEqDiff -> Qa, reduceLT -> Qb, reduceAdd -> Qc, reduceMul -> Qd, reduceSub -> Qe, reduceLeDiff -> Qf, reduceSubDiff -> Qg, reduceBEq -> Qh
open Bool renaming not_eq_true' -> Ba, not_eq_false' -> Bb, and_eq_true -> Bc, or_eq_true -> Bh, or_eq_false_iff -> Be
open Int renaming ofNat_lt -> Ia, ofNat_le -> Ib, not_lt -> Ic, not_le -> Ie
open Decidable renaming not_not -> Da
namespace Abs.Y
open Go Go.Proofs Abs Go.Sort Go.Shelf Go.Lib Go.RowKit
set_option maxRecDepth 100000

theorem xv9 (xs : List Int) : (xq4 xs).length=xs.length:=(xn3 xs).length_eq
theorem sortInts_ok (xs : List Int) (hx : xs.length<=4294967296) : CtrM Tryz.prog 121 [.sl 0] [(0,.arr 3 1 (xs.map (.int .i64)))] [0] false (.tup []) [(0,.arr 3 1 ((xq4 xs).map (.int .i64)))]:=by
 refine CtrM.inPlace ⟨_,Tryz.func121,by kernel_rfl,by kernel_rfl⟩ (xv9 xs) hx fun S β w rv hl hr => ?_
 obtain rfl : rv=[]:=by simpa using hl
 refine ⟨fun _ a cap => AnyM.slices_Sort_int_none Tryz.layZ a cap w,fun g cap hH hg => ?_⟩
 refine (AnyM.slices_Sort_int Tryz.layZ g 0 cap xs w hH hg (by omega)).mono fun en w' ⟨he,n,os,hw⟩ => ⟨he,n,os,?_⟩
 rw [hw]; rfl
theorem partsI_len (g : Chg) : (xg2 g).length=(xb7 g).length:=by simp [xg2]
theorem partD_eq (l : List (Int × Int)) : xp7 l=D.ints (xq4 (l.map (·.1))):=rfl
theorem xt0 {g : Chg} (hg : xc7 g=true) : ∀ k,k<=g.n.toNat->∀ l ∈ (xh3 g k).2,LinOk g l:=by
 intro k
 induction k with
 | zero => intro _ l hl; simp [xh3] at hl
 | succ k ih =>
   intro hk l hl
   rw [xl2] at hl
   unfold yw7 at hl
   split at hl
   . exact ih (by omega) l hl
   . rcases List.mem_append.1 hl with hl | hl
     . exact ih (by omega) l hl
     . rw [List.mem_singleton.1 hl]; exact xx1 hg ⟨by omega,by omega⟩
set_option maxHeartbeats 8000000 in
theorem parts_ok (g : Chg) (hg : xc7 g=true) : Ctr Tryz.prog 83 [D.chg g] false (.sl 0) [(0,.dp (some (25,1)) ((xg2 g).map D.ints) none)]:=by
 have hs:=(xd4 hg).1
 have hn8:=hs.1.2
 have hn1:=hs.1.1
 have c1:=zm0 g hg
 have hll:=xr2 g g.n.toNat
 change (xb7 g).length<=_ at hll
 have hlin : ∀ l ∈ xb7 g,LinOk g l:=xt0 hg _ (Nat.le_refl _)
 have hpi : xg2 g=(xb7 g).map fun l => xq4 (l.map (·.1)):=rfl
 rw [hpi]
 generalize xb7 g=ls at *
 have hsrt:=fun (xs : List Int) (hx : xs.length<=8) => (sortInts_ok xs (by omega)).deep (of_eq_true (yr0 _))
 refine Ctr.of (n:=36) (rs:=[.tmp 2]) Tryz.func83 rfl rfl Tryz.ntmps83 rfl rfl (by kernel_rfl) Tryz.checked.mixed ?_
 simp (disch:=first | omega | decide +kernel) only [D.chg,D.ints,go_sem,Qa,Qb,Qc,Qd,Qe,↓reduceIte,reduceCtorEq,Qf,Qg,Qh]
 simp only [D.chg,D.ints] at c1
 (repeat' (first | ((first | (refine xa0 ?_ ?_<;>intro q'<;>(have h':=q')<;>(try simp only [zz] at h')<;>try (exfalso; omega)) | (have q':=trivial; first | refine xb3 (c1) rfl (by decide) ?_ | refine xb2 (c1) rfl ?_ | refine hE _ _ xa5 ?_ | refine hE _ _ xa2 ?_))<;>(try simp (disch:=first | omega | decide +kernel) only [q',D.chg,D.ints,go_sem,Qa,Qb,Qc,Qd,Qe,↓reduceIte,reduceCtorEq,Qf,Qg,Qh])<;>clear q') | (with_reducible first | refine And.intro ?_ ?_ | omega) | exact xa6 | (refine xa1 ?_; omega) | (refine za9 ⟨?_,?_⟩) | (simp only [go_sem,Qc,Qb,zb1,zb2,forall_eq]; done)))
 refine Ok.loopN [35,34,33,32,31,30,29,28,27,26,25,24,23,22,21,20,19,18,17,16,15,14,13,12,8,7,6,5,4,3] (fun i _ => [(12,.d (.int .i64 (i : Nat))),(3,.sl 3)]) (fun _ (p : List (List Int)) => [(3,.dp (some (25,1)) (p.map D.ints) none)]) ls.length
  (fun i p => p=(ls.take i).map fun l => xq4 (l.map (·.1))) [] (by simp) ((Wk.deep 3 rfl (by simp [flat])).trans (Wk.kk)) ?_
 rintro R i p hN hE hi hp
 have hpl : p.length=i:=by rw [hp]; simp; omega
 by_cases hlt : i < ls.length
 . have hl8:=(hlin _ (xc0 (z:=([] : List (Int × Int))) hlt)).len
   have hel : el (List.map D.lin ls) i=.slice ((ls.getD i []).map D.ed):=xv3 (f:=D.lin) [] hlt
   have htk : (ls.take (i + 1)).map (fun l => xq4 (l.map (·.1)))=p++[xq4 ((ls.getD i []).map (·.1))]:=by rw [hp,xf7 [] ls i hlt]; simp
   generalize ls.getD i []=l at *
   have c2:=hsrt (l.map (·.1)) (by simp; exact hl8)
   simp (disch:=first | omega | decide +kernel) only [hel,go_sem,Qa,Qb,Qc,Qd,Qe,↓reduceIte,reduceCtorEq,Qf,Qg,Qh]
   (repeat' (first | ((first | (refine xa0 ?_ ?_<;>intro q'<;>(have h':=q')<;>(try simp only [zz] at h')<;>try (exfalso; omega)) | (have q':=trivial; first | refine hE _ _ xa5 ?_ | refine hE _ _ xa2 ?_))<;>(try simp (disch:=first | omega | decide +kernel) only [q',hel,go_sem,Qa,Qb,Qc,Qd,Qe,↓reduceIte,reduceCtorEq,Qf,Qg,Qh])<;>clear q') | (with_reducible first | refine And.intro ?_ ?_ | omega) | exact xa6 | (refine xa1 ?_; omega) | (refine za9 ⟨?_,?_⟩) | (simp only [go_sem,Qc,Qb,zb1,zb2,forall_eq]; done)))
   refine Ok.loopN [27,26,25,24,23,22,21,20,19,18,8,6] (fun j _ => [(18,.d (.int .i64 (j : Nat))),(6,.sl 6)]) (fun _ (q : List Int) => [(6,.arr 3 1 (q.map (.int .i64)))]) l.length
    (fun j q => q=(l.take j).map (·.1)) [] (by simp) (Wk.kk) ?_
   rintro R2 j q hN2 hE hj hq
   have hql : q.length=j:=by rw [hq]; simp; omega
   by_cases hjl : j < l.length
   . have htk2 : (l.take (j + 1)).map (·.1)=q++[(l.getD j (0,0)).1]:=by rw [hq,xf7 (0,0) l j hjl]; simp
     have hel2 : el (List.map D.ed l) j=.agg [.int .i64 (l.getD j (0,0)).1,.int .i64 (l.getD j (0,0)).2]:=xg3 hjl
     generalize l.getD j (0,0)=r at *
     simp (disch:=first | omega | decide +kernel) only [hel2,go_sem,Qa,Qb,Qc,Qd,Qe,↓reduceIte,reduceCtorEq,Qf,Qg,Qh]
     (repeat' (first | ((first | (refine xa0 ?_ ?_<;>intro q'<;>(have h':=q')<;>(try simp only [zz] at h')<;>try (exfalso; omega)) | (have q':=trivial; first | refine hE _ _ xa5 ?_ | refine hE _ _ xa2 ?_))<;>(try simp (disch:=first | omega | decide +kernel) only [q',hel2,go_sem,Qa,Qb,Qc,Qd,Qe,↓reduceIte,reduceCtorEq,Qf,Qg,Qh])<;>clear q') | (with_reducible first | refine And.intro ?_ ?_ | omega) | exact xa6 | (refine xa1 ?_; omega) | (refine za9 ⟨?_,?_⟩) | (simp only [go_sem,Qc,Qb,zb1,zb2,forall_eq]; done)))
     refine hN2 (q++[r.1]) _ hjl htk2.symm (by refine Wk.auto ?_ ?_<;>simp [xb1,lk,killL,St.kill,xb4,xb6,AV.has,AV.hasL,AO.wipe,List.map_set,xc2,insL,xc4,ins,])
   . obtain rfl : j=l.length:=by omega
     rw [List.take_length] at hq
     rw [← hq] at c2 htk
     simp (disch:=first | omega | decide +kernel) only [go_sem,Qa,Qb,Qc,Qd,Qe,↓reduceIte,reduceCtorEq,Qf,Qg,Qh]
     (repeat' (first | ((first | (refine xa0 ?_ ?_<;>intro q'<;>(have h':=q')<;>(try simp only [zz] at h')<;>try (exfalso; omega)) | (have q':=trivial; first | refine hE _ _ xa5 ?_ | refine hE _ _ xa2 ?_))<;>(try simp (disch:=first | omega | decide +kernel) only [q',go_sem,Qa,Qb,Qc,Qd,Qe,↓reduceIte,reduceCtorEq,Qf,Qg,Qh])<;>clear q') | (with_reducible first | refine And.intro ?_ ?_ | omega) | exact xa6 | (refine xa1 ?_; omega) | (refine za9 ⟨?_,?_⟩) | (simp only [go_sem,Qc,Qb,zb1,zb2,forall_eq]; done)))
     all_goals (try (exfalso; omega))
     refine callX_keep 6 c2 ⟨.inl rfl,trivial⟩ rfl (by simp [dstB]) ?_
     have hsl:=xv9 q
     simp (disch:=first | omega | decide +kernel) only [go_sem,Qa,Qb,Qc,Qd,Qe,↓reduceIte,reduceCtorEq,Qf,Qg,Qh]
     (repeat' (first | ((first | (refine xa0 ?_ ?_<;>intro q'<;>(have h':=q')<;>(try simp only [zz] at h')<;>try (exfalso; omega)) | (have q':=trivial; first | refine hE _ _ xa5 ?_ | refine hE _ _ xa2 ?_))<;>(try simp (disch:=first | omega | decide +kernel) only [q',go_sem,Qa,Qb,Qc,Qd,Qe,↓reduceIte,reduceCtorEq,Qf,Qg,Qh])<;>clear q') | (with_reducible first | refine And.intro ?_ ?_ | omega) | exact xa6 | (refine xa1 ?_; omega) | (refine za9 ⟨?_,?_⟩) | (simp only [go_sem,Qc,Qb,zb1,zb2,forall_eq]; done)))
     all_goals (first | exact of_eq_true (yr0 _) | omega | skip)
     refine hN (p++[xq4 q]) _ hlt htk.symm (by refine Wk.auto ?_ ?_<;>simp [xb1,lk,killL,St.kill,xb4,xb6,AV.has,AV.hasL,AO.wipe,List.map_set,xc2,insL,xc4,ins,D.ints])
 . obtain rfl : i=ls.length:=by omega
   rw [List.take_length] at hp
   simp (disch:=first | omega | decide +kernel) only [go_sem,Qa,Qb,Qc,Qd,Qe,↓reduceIte,reduceCtorEq,Qf,Qg,Qh]
   (repeat' (first | ((first | (refine xa0 ?_ ?_<;>intro q'<;>(have h':=q')<;>(try simp only [zz] at h')<;>try (exfalso; omega)) | (have q':=trivial; first | refine hE _ _ xa5 ?_ | refine hE _ _ xa2 ?_))<;>(try simp (disch:=first | omega | decide +kernel) only [q',go_sem,Qa,Qb,Qc,Qd,Qe,↓reduceIte,reduceCtorEq,Qf,Qg,Qh])<;>clear q') | (with_reducible first | refine And.intro ?_ ?_ | omega) | exact xa6 | (refine xa1 ?_; omega) | (refine za9 ⟨?_,?_⟩) | (simp only [go_sem,Qc,Qb,zb1,zb2,forall_eq]; done)))
   all_goals (try (exfalso; omega))
   rw [← hp]
   exact ret_dp 3 rfl rfl
def zk9 (g : Chg) : List (List Int):=if xc7 g then xg2 g else []
end Abs.Y

namespace Abs.Y
open Go Go.Proofs Abs
set_option maxRecDepth 100000

end Abs.Y

namespace Abs.Y
open Go Go.Proofs Abs
set_option maxRecDepth 100000

def szE (n : Nat) (left : Int) : Int:=if left - n < 0 then -1 else left - n
def szC (g : Chg) (left : Int) : Int:=if szE g.ed.length left < 0 then -1 else szE g.ch.length (szE g.ed.length left)
def tw (e : Int × Int) (i : Nat) : List Int:=if i=0 then [0,0] else if i=1 then [e.1,0] else [e.1,e.2]
theorem Ctr.dataD {P : Program} {f : FuncId} {xs : List D} {sh : Bool} {τ : Option (TypeId × Nat)} {es : List D} (h : Ctr P f xs sh (.sl 0) [(0,.dp τ es none)]) : Ctr P f xs true (.d (.slice es)) []:=by
 refine ⟨h.1,fun S w vs hl hr => (h.2 S w vs hl hr).mono fun en w' ⟨v,he,hf,β,φ,hrel,hobj,hown,hdis⟩ => ⟨v,he,hf,β,φ,.d ?_,by simp [lk],by simp [lk],by simp [lk]⟩⟩
 cases hrel
 exact xw4 (hobj 0 (.dp τ es none) (by simp [lk])) rfl (fun g hg _ => ⟨hg.1.imp id fun h => ⟨rfl,h.2⟩,by simp [lk]⟩) fun g hg => ⟨.inl (hown 0 (.dp τ es none) g (by simp [lk]) hg),by simp [lk]⟩
end Abs.Y

namespace Abs.Y
open Go Go.Proofs Abs
set_option maxRecDepth 100000

def cntE (k : Int) : Nat->List (Int × Int)
 | 0 => []
 | n + 1 => (k,k + 1) :: cntE (k + 2) n
def innE (cur : List (Int × Int)) (i : Nat) (k : Int) (j : Nat) : List (Int × Int):=if j=0 then cur else if j=1 then cur.set i (k,(cur.getD i (0,0)).2) else cur.set i (k,k + 1)
end Abs.Y

namespace Abs.Y
open Go Go.Proofs Abs
set_option maxRecDepth 100000

theorem partsB_lens {g : Chg} : (zk9 g).length<=8∧∀ x ∈ zk9 g,x.length<=8:=by
 unfold zk9
 split
 . rename_i hg
   have hs:=(xd4 hg).1
   have hll:=xr2 g g.n.toNat
   change (xb7 g).length<=_ at hll
   have hn8:=hs.1.2
   refine ⟨by rw [partsI_len]; omega,fun x hx => ?_⟩
   obtain ⟨l,hl,rfl⟩:=List.mem_map.1 hx
   rw [xv9,List.length_map]
   exact (xt0 hg _ (Nat.le_refl _) l hl).len
 . simp
end Abs.Y

namespace Abs.Y
open Go Go.Proofs Abs
set_option maxRecDepth 100000

theorem zc0 {g : Chg} (hg : xc7 g=true) {p : List Int} (hp : p ∈ xg2 g) : p.length<=8∧∀ v ∈ p,0<=v∧v.toNat < g.ch.length:=by
 obtain ⟨l,hl,rfl⟩:=List.mem_map.1 hp
 have hk:=xt0 hg _ (Nat.le_refl _) l hl
 refine ⟨by rw [xv9,List.length_map]; exact hk.len,fun v hv => ?_⟩
 obtain ⟨r,hr,rfl⟩:=List.mem_map.1 ((xn3 _).mem_iff.1 hv)
 have:=hk.vx r hr
 have:=(xd4 hg).1.2.2
 omega
def xv8 (g : Chg) (p : List Int) : Int:=(p.map fun v => g.ch.getD v.toNat 0).sum
theorem yf3 (g : Chg) (p : List Int) (j : Nat) (h : j < p.length) : xv8 g (p.take (j + 1))=xv8 g (p.take j) + g.ch.getD (p.getD j 0).toNat 0:=by
 unfold xv8; rw [xf7 0 p j h]; simp
theorem zt1 {g : Chg} (hg : xc7 g=true) {i : Nat} (h : i < g.ch.length) : 0<=g.ch.getD i 0∧g.ch.getD i 0<=1:=by
 have:=(xd4 hg).2.2 i h
 unfold chOk at this
 simp only [Bc,decide_eq_true_eq] at this
 exact this.1
theorem yk0 {g : Chg} (hg : xc7 g=true) {p : List Int} (hp : ∀ v ∈ p,0<=v∧v.toNat < g.ch.length) : ∀ j,j<=p.length->0<=xv8 g (p.take j)∧xv8 g (p.take j)<=j
 | 0,_ => by simp [xv8]
 | j + 1, h => by
   have ih:=yk0 hg hp j (by omega)
   have:=zt1 hg (hp _ (xc0 (z:=(0 : Int)) (show j < p.length by omega))).2
   rw [yf3 g p j (by omega)]
   omega
def oddB (g : Chg) (i : Nat) : Bool:=decide (Int.tmod (xv8 g ((xg2 g).getD i [])) 2=1)
def xu3 (g : Chg) (m : Nat) : List Int:=((List.range m).filter (oddB g)).map fun (k : Nat) => (k : Int)
def oddI (g : Chg) : List Int:=xu3 g (xg2 g).length
theorem yt9 (g : Chg) (m : Nat) : xu3 g (m + 1)=if oddB g m=true then xu3 g m++[(m : Int)] else xu3 g m:=by
 unfold xu3
 rw [List.range_succ,List.filter_append,List.map_append]
 cases h : oddB g m<;>simp [h]
theorem yn5 (g : Chg) (m : Nat) : (xu3 g m).length<=m:=by
 unfold xu3
 rw [List.length_map]
 have:=List.length_filter_le (oddB g) (List.range m)
 simpa using this
theorem ym9 {g : Chg} (hg : xc7 g=true) : (xg2 g).length<=8:=by
 have h:=(partsB_lens (g:=g)).1
 unfold zk9 at h
 rwa [hg,if_pos rfl] at h
theorem l27Sum_ok (g : Chg) (p : List Int) (hg : xc7 g=true) (hl : p.length<=8) (hp : ∀ v ∈ p,0<=v∧v.toNat < g.ch.length) : Ctr Tryz.prog 84 [D.chg g,D.ints p] false (.d (.int .i64 (xv8 g p))) []:=by
 refine Ctr.of (n:=24) (rs:=[.tmp 4]) Tryz.func84 rfl rfl Tryz.ntmps84 rfl rfl (by kernel_rfl) Tryz.checked.mixed ?_
 simp (disch:=first | omega | decide +kernel) only [D.chg,D.ints,go_sem,Qa,Qb,Qc,Qd,Qe,↓reduceIte,reduceCtorEq,Qf,Qg,Qh]
 (repeat' (first | ((first | (refine xa0 ?_ ?_<;>intro q'<;>(have h':=q')<;>(try simp only [zz] at h')<;>try (exfalso; omega)) | (have q':=trivial; first | refine hE _ _ xa5 ?_ | refine hE _ _ xa2 ?_))<;>(try simp (disch:=first | omega | decide +kernel) only [q',go_sem,Qa,Qb,Qc,Qd,Qe,↓reduceIte,reduceCtorEq,Qf,Qg,Qh])<;>clear q') | (with_reducible first | refine And.intro ?_ ?_ | omega) | (refine xa1 ?_; omega)))
 refine Ok.loopN [22,21,20,19,18,17,16,15,14,13,12,11,10,9,8,7,6,5,3,0] (fun i _ => [(6,.d (.int .i64 (i : Nat))),(5,.d (.int .i64 (xv8 g (p.take i))))]) (fun _ (_ : Unit) => []) p.length (fun _ _ => True) () trivial (by refine Wk.auto ?_ ?_<;>simp [xb1,lk,killL,St.kill,xb4,xb6,AV.has,AV.hasL,AO.wipe,List.map_set,xc2,insL,xc4,ins,xv8]) ?_
 rintro R i _ hN hE hi _
 by_cases hlt : i < p.length
 . have hv:=hp _ (xc0 (z:=(0 : Int)) hlt)
   have hb:=yk0 hg hp i hi
   have hb2:=zt1 hg hv.2
   have hs:=yf3 g p i hlt
   generalize hvd : p.getD i 0=v at *
   have hel : el (List.map (D.int .i64) g.ch) v.toNat=.int .i64 (g.ch.getD v.toNat 0):=xl3 hv.2
   simp (disch:=first | omega | decide +kernel) only [hvd,hel,go_sem,Qa,Qb,Qc,Qd,Qe,↓reduceIte,reduceCtorEq,Qf,Qg,Qh]
   (repeat' (first | ((first | (refine xa0 ?_ ?_<;>intro q'<;>(have h':=q')<;>(try simp only [zz] at h')<;>try (exfalso; omega)) | (have q':=trivial; first | refine hE _ _ xa5 ?_ | refine hE _ _ xa2 ?_))<;>(try simp (disch:=first | omega | decide +kernel) only [q',hvd,hel,go_sem,Qa,Qb,Qc,Qd,Qe,↓reduceIte,reduceCtorEq,Qf,Qg,Qh])<;>clear q') | (with_reducible first | refine And.intro ?_ ?_ | omega) | (refine xa1 ?_; omega)))
   refine hN () _ hlt trivial (by refine Wk.auto ?_ ?_<;>simp [xb1,lk,killL,St.kill,xb4,xb6,AV.has,AV.hasL,AO.wipe,List.map_set,xc2,insL,xc4,ins,hs])
 . obtain rfl : i=p.length:=by omega
   rw [List.take_length]
   simp (disch:=first | omega | decide +kernel) only [go_sem,Qa,Qb,Qc,Qd,Qe,↓reduceIte,reduceCtorEq,Qf,Qg,Qh]
   (repeat' (first | ((first | (refine xa0 ?_ ?_<;>intro q'<;>(have h':=q')<;>(try simp only [zz] at h')<;>try (exfalso; omega)) | (have q':=trivial; first | refine hE _ _ xa5 ?_ | refine hE _ _ xa2 ?_))<;>(try simp (disch:=first | omega | decide +kernel) only [q',go_sem,Qa,Qb,Qc,Qd,Qe,↓reduceIte,reduceCtorEq,Qf,Qg,Qh])<;>clear q') | (with_reducible first | refine And.intro ?_ ?_ | omega) | (refine xa1 ?_; omega)))
   all_goals (first | rfl | omega | (exfalso; omega))
set_option maxHeartbeats 4000000 in
theorem zd4 (g : Chg) (hg : xc7 g=true) : Ctr Tryz.prog 45 [D.chg g] true (.d (D.ints (oddI g))) []:=by
 have c1:=yp4 g hg
 rw [show (xb7 g).map xp7=(xg2 g).map D.ints by simp [xg2,partD_eq,Function.comp_def]] at c1
 have hpl:=ym9 hg
 have hmem:=fun p (hp : p ∈ xg2 g) => zc0 hg hp
 have hsum:=fun p (hp : p ∈ xg2 g) => l27Sum_ok g p hg (hmem p hp).1 (hmem p hp).2
 have hbd:=fun p (hp : p ∈ xg2 g) => yk0 hg (hmem p hp).2 p.length (Nat.le_refl _)
 have hoB : ∀ i,oddB g i=decide (Int.tmod (xv8 g ((xg2 g).getD i [])) 2=1):=fun i => rfl
 have hoI : oddI g=xu3 g (xg2 g).length:=rfl
 rw [hoI]
 generalize xg2 g=ps at *
 simp only [D.chg,D.ints] at c1 hsum
 refine Ctr.of (n:=28) (rs:=[.tmp 2]) Tryz.func45 rfl rfl Tryz.ntmps45 rfl rfl (by kernel_rfl) Tryz.checked.mixed ?_
 simp (disch:=first | omega | decide +kernel) only [D.chg,D.ints,go_sem,Qa,Qb,Qc,Qd,Qe,↓reduceIte,reduceCtorEq,Qf,Qg,Qh]
 (repeat' (first | ((first | (refine xa0 ?_ ?_<;>intro q'<;>(have h':=q')<;>(try simp only [zz] at h')<;>try (exfalso; omega)) | (have q':=trivial; first | refine xb3 (c1) rfl (by decide) ?_ | refine xb2 (c1) rfl ?_ | refine hE _ _ xa5 ?_ | refine hE _ _ xa2 ?_))<;>(try simp (disch:=first | omega | decide +kernel) only [q',D.ints,go_sem,Qa,Qb,Qc,Qd,Qe,↓reduceIte,reduceCtorEq,Qf,Qg,Qh])<;>clear q') | (with_reducible first | refine And.intro ?_ ?_ | omega) | exact xa6 | (refine xa1 ?_; omega) | (refine za9 ⟨?_,?_⟩) | (simp only [go_sem,Qc,Qb,zb1,zb2,forall_eq]; done)))
 refine Ok.loopN [27,26,25,24,23,22,21,20,19,18,17,16,15,14,13,12,11,10,9,6,5,3] (fun i _ => [(5,.d (.int .i64 (i : Nat))),(3,.sl 6)]) (fun _ (cur : List Int) => [(6,.arr 3 1 (cur.map (.int .i64)))]) ps.length
  (fun i cur => cur=xu3 g i) [] (by simp [xu3]) (Wk.kk) ?_
 rintro R i cur hN hE hi rfl
 have hll:=yn5 g i
 have hsu:=yt9 g i
 by_cases hlt : i < ps.length
 . have hm:=xc0 (z:=([] : List Int)) hlt
   have c2:=hsum _ hm
   have hb:=hbd _ hm
   rw [List.take_length] at hb
   have hl8:=(hmem _ hm).1
   have ho:=hoB i
   generalize hpd : ps.getD i []=p at *
   generalize xv8 g p=sm at *
   simp (disch:=first | omega | decide +kernel) only [hpd,go_sem,Qa,Qb,Qc,Qd,Qe,↓reduceIte,reduceCtorEq,Qf,Qg,Qh]
   (repeat' (first | ((first | (refine xa0 ?_ ?_<;>intro q'<;>(have h':=q')<;>(try simp only [zz] at h')<;>try (exfalso; omega)) | (have q':=trivial; first | refine xa3 (c2) rfl (by decide) ?_ | refine xa4 (c2) rfl ?_ | refine hE _ _ xa5 ?_ | refine hE _ _ xa2 ?_))<;>(try simp (disch:=first | omega | decide +kernel) only [q',hpd,D.ints,go_sem,Qa,Qb,Qc,Qd,Qe,↓reduceIte,reduceCtorEq,Qf,Qg,Qh])<;>clear q') | (with_reducible first | refine And.intro ?_ ?_ | omega) | exact xa6 | (refine xa1 ?_; omega) | (refine za9 ⟨?_,?_⟩) | (simp only [go_sem,Qc,Qb,zb1,zb2,forall_eq]; done)))
   . rw [ho,decide_eq_true h',if_pos rfl] at hsu
     refine hN (xu3 g i++[(i : Int)]) _ hlt hsu.symm (by refine Wk.auto ?_ ?_<;>simp [xb1,lk,killL,St.kill,xb4,xb6,AV.has,AV.hasL,AO.wipe,List.map_set,xc2,insL,xc4,ins,])
   . rw [ho,decide_eq_false h',if_neg (by simp)] at hsu
     refine hN (xu3 g i) _ hlt hsu.symm (by refine Wk.auto ?_ ?_<;>simp [xb1,lk,killL,St.kill,xb4,xb6,AV.has,AV.hasL,AO.wipe,List.map_set,xc2,insL,xc4,ins,])
 . obtain rfl : i=ps.length:=by omega
   simp (disch:=first | omega | decide +kernel) only [go_sem,Qa,Qb,Qc,Qd,Qe,↓reduceIte,reduceCtorEq,Qf,Qg,Qh]
   (repeat' (first | ((first | (refine xa0 ?_ ?_<;>intro q'<;>(have h':=q')<;>(try simp only [zz] at h')<;>try (exfalso; omega)) | (have q':=trivial; first | refine hE _ _ xa5 ?_ | refine hE _ _ xa2 ?_))<;>(try simp (disch:=first | omega | decide +kernel) only [q',go_sem,Qa,Qb,Qc,Qd,Qe,↓reduceIte,reduceCtorEq,Qf,Qg,Qh])<;>clear q') | (with_reducible first | refine And.intro ?_ ?_ | omega) | exact xa6 | (refine xa1 ?_; omega) | (refine za9 ⟨?_,?_⟩) | (simp only [go_sem,Qc,Qb,zb1,zb2,forall_eq]; done)))
   all_goals (try (exfalso; omega))
   exact ya1 [6] rfl
set_option maxHeartbeats 4000000 in
theorem yn6 (g : Chg) (hg : xc7 g=true) : Ctr Tryz.prog 44 [D.chg g] false (.sl 0) [(0,.arr 3 1 ((oddI g).map (.int .i64)))]:=by
 have c1:=Ctr.dataD (parts_ok g hg)
 have hpl:=ym9 hg
 have hmem:=fun p (hp : p ∈ xg2 g) => zc0 hg hp
 have hbd:=fun p (hp : p ∈ xg2 g) j (hj : j<=p.length) => yk0 hg (hmem p hp).2 j hj
 have hoB : ∀ i,oddB g i=decide (Int.tmod (xv8 g ((xg2 g).getD i [])) 2=1):=fun i => rfl
 have hoI : oddI g=xu3 g (xg2 g).length:=rfl
 rw [hoI]
 generalize xg2 g=ps at *
 simp only [D.chg,D.ints] at c1
 refine Ctr.of (n:=40) (rs:=[.tmp 2]) Tryz.func44 rfl rfl Tryz.ntmps44 rfl rfl (by kernel_rfl) Tryz.checked.mixed ?_
 simp (disch:=first | omega | decide +kernel) only [D.chg,D.ints,go_sem,Qa,Qb,Qc,Qd,Qe,↓reduceIte,reduceCtorEq,Qf,Qg,Qh]
 (repeat' (first | ((first | (refine xa0 ?_ ?_<;>intro q'<;>(have h':=q')<;>(try simp only [zz] at h')<;>try (exfalso; omega)) | (have q':=trivial; first | refine xb3 (c1) rfl (by decide) ?_ | refine xb2 (c1) rfl ?_ | refine hE _ _ xa5 ?_ | refine hE _ _ xa2 ?_))<;>(try simp (disch:=first | omega | decide +kernel) only [q',D.ints,go_sem,Qa,Qb,Qc,Qd,Qe,↓reduceIte,reduceCtorEq,Qf,Qg,Qh])<;>clear q') | (with_reducible first | refine And.intro ?_ ?_ | omega) | exact xa6 | (refine xa1 ?_; omega) | (refine za9 ⟨?_,?_⟩) | (simp only [go_sem,Qc,Qb,zb1,zb2,forall_eq]; done)))
 refine Ok.loopN [39,38,37,36,35,34,33,32,31,30,29,28,27,26,25,24,23,22,21,20,19,18,17,16,15,14,13,12,8,7,6,5,4,3] (fun i _ => [(12,.d (.int .i64 (i : Nat))),(3,.sl 3)]) (fun _ (cur : List Int) => [(3,.arr 3 1 (cur.map (.int .i64)))]) ps.length
  (fun i cur => cur=xu3 g i) [] (by simp [xu3]) (Wk.kk) ?_
 rintro R i cur hN hE hi rfl
 have hll:=yn5 g i
 have hsu:=yt9 g i
 by_cases hlt : i < ps.length
 . have hm:=xc0 (z:=([] : List Int)) hlt
   have hb:=hbd _ hm
   obtain ⟨hl8,hv⟩:=hmem _ hm
   have ho:=hoB i
   generalize hpd : ps.getD i []=p at *
   simp (disch:=first | omega | decide +kernel) only [hpd,go_sem,Qa,Qb,Qc,Qd,Qe,↓reduceIte,reduceCtorEq,Qf,Qg,Qh]
   (repeat' (first | ((first | (refine xa0 ?_ ?_<;>intro q'<;>(have h':=q')<;>(try simp only [zz] at h')<;>try (exfalso; omega)) | (have q':=trivial; first | refine hE _ _ xa5 ?_ | refine hE _ _ xa2 ?_))<;>(try simp (disch:=first | omega | decide +kernel) only [q',hpd,D.ints,go_sem,Qa,Qb,Qc,Qd,Qe,↓reduceIte,reduceCtorEq,Qf,Qg,Qh])<;>clear q') | (with_reducible first | refine And.intro ?_ ?_ | omega) | exact xa6 | (refine xa1 ?_; omega) | (refine za9 ⟨?_,?_⟩) | (simp only [go_sem,Qc,Qb,zb1,zb2,forall_eq]; done)))
   refine Ok.loopN [30,29,28,27,26,25,24,23,22,21,20,19,8,6] (fun j _ => [(19,.d (.int .i64 (j : Nat))),(6,.d (.int .i64 (xv8 g (p.take j))))]) (fun _ (_ : Unit) => []) p.length (fun _ _ => True) () trivial (by refine Wk.auto ?_ ?_<;>simp [xb1,lk,killL,St.kill,xb4,xb6,AV.has,AV.hasL,AO.wipe,List.map_set,xc2,insL,xc4,ins,xv8]) ?_
   rintro R2 j _ hN2 hE hj _
   by_cases hjl : j < p.length
   . have hv:=hv _ (xc0 (z:=(0 : Int)) hjl)
     have hb:=hb j hj
     have hb2:=zt1 hg hv.2
     have hs:=yf3 g p j hjl
     generalize hvd : p.getD j 0=v at *
     have hel : el (List.map (D.int .i64) g.ch) v.toNat=.int .i64 (g.ch.getD v.toNat 0):=xl3 hv.2
     simp (disch:=first | omega | decide +kernel) only [hvd,hel,go_sem,Qa,Qb,Qc,Qd,Qe,↓reduceIte,reduceCtorEq,Qf,Qg,Qh]
     (repeat' (first | ((first | (refine xa0 ?_ ?_<;>intro q'<;>(have h':=q')<;>(try simp only [zz] at h')<;>try (exfalso; omega)) | (have q':=trivial; first | refine hE _ _ xa5 ?_ | refine hE _ _ xa2 ?_))<;>(try simp (disch:=first | omega | decide +kernel) only [q',hvd,hel,go_sem,Qa,Qb,Qc,Qd,Qe,↓reduceIte,reduceCtorEq,Qf,Qg,Qh])<;>clear q') | (with_reducible first | refine And.intro ?_ ?_ | omega) | exact xa6 | (refine xa1 ?_; omega) | (refine za9 ⟨?_,?_⟩) | (simp only [go_sem,Qc,Qb,zb1,zb2,forall_eq]; done)))
     refine hN2 () _ hjl trivial (by refine Wk.auto ?_ ?_<;>simp [xb1,lk,killL,St.kill,xb4,xb6,AV.has,AV.hasL,AO.wipe,List.map_set,xc2,insL,xc4,ins,hs])
   . obtain rfl : j=p.length:=by omega
     have hb:=hb p.length (Nat.le_refl _)
     rw [List.take_length] at hb ⊢
     generalize xv8 g p=sm at *
     simp (disch:=first | omega | decide +kernel) only [go_sem,Qa,Qb,Qc,Qd,Qe,↓reduceIte,reduceCtorEq,Qf,Qg,Qh]
     (repeat' (first | ((first | (refine xa0 ?_ ?_<;>intro q'<;>(have h':=q')<;>(try simp only [zz] at h')<;>try (exfalso; omega)) | (have q':=trivial; first | refine hE _ _ xa5 ?_ | refine hE _ _ xa2 ?_))<;>(try simp (disch:=first | omega | decide +kernel) only [q',go_sem,Qa,Qb,Qc,Qd,Qe,↓reduceIte,reduceCtorEq,Qf,Qg,Qh])<;>clear q') | (with_reducible first | refine And.intro ?_ ?_ | omega) | exact xa6 | (refine xa1 ?_; omega) | (refine za9 ⟨?_,?_⟩) | (simp only [go_sem,Qc,Qb,zb1,zb2,forall_eq]; done)))
     all_goals (try (exfalso; omega))
     . rw [ho,decide_eq_true h',if_pos rfl] at hsu
       refine hN (xu3 g i++[(i : Int)]) _ hlt hsu.symm (by refine Wk.auto ?_ ?_<;>simp [xb1,lk,killL,St.kill,xb4,xb6,AV.has,AV.hasL,AO.wipe,List.map_set,xc2,insL,xc4,ins,])
     . rw [ho,decide_eq_false h',if_neg (by simp)] at hsu
       refine hN (xu3 g i) _ hlt hsu.symm (by refine Wk.auto ?_ ?_<;>simp [xb1,lk,killL,St.kill,xb4,xb6,AV.has,AV.hasL,AO.wipe,List.map_set,xc2,insL,xc4,ins,])
 . obtain rfl : i=ps.length:=by omega
   simp (disch:=first | omega | decide +kernel) only [go_sem,Qa,Qb,Qc,Qd,Qe,↓reduceIte,reduceCtorEq,Qf,Qg,Qh]
   (repeat' (first | ((first | (refine xa0 ?_ ?_<;>intro q'<;>(have h':=q')<;>(try simp only [zz] at h')<;>try (exfalso; omega)) | (have q':=trivial; first | refine hE _ _ xa5 ?_ | refine hE _ _ xa2 ?_))<;>(try simp (disch:=first | omega | decide +kernel) only [q',go_sem,Qa,Qb,Qc,Qd,Qe,↓reduceIte,reduceCtorEq,Qf,Qg,Qh])<;>clear q') | (with_reducible first | refine And.intro ?_ ?_ | omega) | exact xa6 | (refine xa1 ?_; omega) | (refine za9 ⟨?_,?_⟩) | (simp only [go_sem,Qc,Qb,zb1,zb2,forall_eq]; done)))
   all_goals (try (exfalso; omega))
   exact yt4 3 rfl rfl xa7
def yd3 (g : Chg) : List Int:=if xc7 g then oddI g else []
theorem yd2 {g : Chg} : (yd3 g).length<=8:=by
 unfold yd3
 split
 . rename_i hg
   have h1:=ym9 hg
   have h2:=yn5 g (xg2 g).length
   unfold oddI; omega
 . simp
theorem impl_OddParts_ok (g : Chg) (hl : g.ed.length<=4294967296) (hc : g.ch.length<=4294967296) :
 Ctr Tryz.prog 11 [D.chg g] false (.tup [.sl 0,.d (.bool (xc7 g))]) [(0,.arr 3 1 ((yd3 g).map (.int .i64)))]:=by
 have c1:=xl8 g hl hc
 unfold yd3
 cases hb : xc7 g with
 | false =>
   rw [hb] at c1
   refine Ctr.of (n:=9) (rs:=[.tmp 2,.tmp 3]) Tryz.func11 rfl rfl Tryz.ntmps11 rfl rfl (by kernel_rfl) Tryz.checked.mixed ?_
   simp (disch:=first | omega | decide +kernel) only [D.chg,D.ints,go_sem,Qa,Qb,Qc,Qd,Qe,↓reduceIte,reduceCtorEq,Qf,Qg,Qh]
   simp only [D.chg,D.ints] at c1
   (repeat' (first | ((first | (refine xa0 ?_ ?_<;>intro q'<;>(have h':=q')<;>(try simp only [zz] at h')<;>try (exfalso; omega)) | (have q':=trivial; first | refine xa3 (c1) rfl (by decide) ?_ | refine xa4 (c1) rfl ?_ | refine hE _ _ xa5 ?_ | refine hE _ _ xa2 ?_))<;>(try simp (disch:=first | omega | decide +kernel) only [q',D.chg,D.ints,go_sem,Qa,Qb,Qc,Qd,Qe,↓reduceIte,reduceCtorEq,Qf,Qg,Qh])<;>clear q') | (with_reducible first | refine And.intro ?_ ?_ | omega) | (refine xa1 ?_; omega)))
   (first | exact yx1 _ rfl rfl rfl xa7 rfl | exact yx1 _ rfl rfl rfl xa6 rfl)
 | true =>
   rw [hb] at c1
   have c2:=yn6 g hb
   refine Ctr.of (n:=9) (rs:=[.tmp 2,.tmp 3]) Tryz.func11 rfl rfl Tryz.ntmps11 rfl rfl (by kernel_rfl) Tryz.checked.mixed ?_
   simp (disch:=first | omega | decide +kernel) only [D.chg,D.ints,go_sem,Qa,Qb,Qc,Qd,Qe,↓reduceIte,reduceCtorEq,Qf,Qg,Qh]
   simp only [D.chg,D.ints] at c1 c2
   (repeat' (first | ((first | (refine xa0 ?_ ?_<;>intro q'<;>(have h':=q')<;>(try simp only [zz] at h')<;>try (exfalso; omega)) | (have q':=trivial; first | refine xa3 (c1) rfl (by decide) ?_ | refine xa4 (c1) rfl ?_ | refine xa3 (c2) rfl (by decide) ?_ | refine xa4 (c2) rfl ?_ | refine hE _ _ xa5 ?_ | refine hE _ _ xa2 ?_))<;>(try simp (disch:=first | omega | decide +kernel) only [q',D.chg,D.ints,go_sem,Qa,Qb,Qc,Qd,Qe,↓reduceIte,reduceCtorEq,Qf,Qg,Qh])<;>clear q') | (with_reducible first | refine And.intro ?_ ?_ | omega) | (refine xa1 ?_; omega)))
   (first | exact yx1 _ rfl rfl rfl xa7 rfl | exact yx1 _ rfl rfl rfl xa6 rfl)
theorem spec_OddParts_ok (g : Chg) (hl : g.ed.length<=4294967296) (hc : g.ch.length<=4294967296) :
 Ctr Tryz.prog 12 [D.chg g] true (.tup [.d (D.ints (yd3 g)),.d (.bool (xc7 g))]) []:=by
 have c1:=xt1 g hl hc
 unfold yd3
 cases hb : xc7 g with
 | false =>
   rw [hb] at c1
   refine Ctr.of (n:=10) (rs:=[.tmp 2,.tmp 3]) Tryz.func12 rfl rfl Tryz.ntmps12 rfl rfl (by kernel_rfl) Tryz.checked.mixed ?_
   simp (disch:=first | omega | decide +kernel) only [D.chg,D.ints,go_sem,Qa,Qb,Qc,Qd,Qe,↓reduceIte,reduceCtorEq,Qf,Qg,Qh]
   simp only [D.chg,D.ints] at c1
   (repeat' (first | ((first | (refine xa0 ?_ ?_<;>intro q'<;>(have h':=q')<;>(try simp only [zz] at h')<;>try (exfalso; omega)) | (have q':=trivial; first | refine xa3 (c1) rfl (by decide) ?_ | refine xa4 (c1) rfl ?_ | refine hE _ _ xa5 ?_ | refine hE _ _ xa2 ?_))<;>(try simp (disch:=first | omega | decide +kernel) only [q',D.chg,D.ints,go_sem,Qa,Qb,Qc,Qd,Qe,↓reduceIte,reduceCtorEq,Qf,Qg,Qh])<;>clear q') | (with_reducible first | refine And.intro ?_ ?_ | omega) | exact xa6 | (refine xa1 ?_; omega) | (refine za9 ⟨?_,?_⟩) | (simp only [go_sem,Qc,Qb,zb1,zb2,forall_eq]; done)))
   exact zq2 [7] rfl rfl
 | true =>
   rw [hb] at c1
   have c2:=zd4 g hb
   refine Ctr.of (n:=10) (rs:=[.tmp 2,.tmp 3]) Tryz.func12 rfl rfl Tryz.ntmps12 rfl rfl (by kernel_rfl) Tryz.checked.mixed ?_
   simp (disch:=first | omega | decide +kernel) only [D.chg,D.ints,go_sem,Qa,Qb,Qc,Qd,Qe,↓reduceIte,reduceCtorEq,Qf,Qg,Qh]
   simp only [D.chg,D.ints] at c1 c2
   (repeat' (first | ((first | (refine xa0 ?_ ?_<;>intro q'<;>(have h':=q')<;>(try simp only [zz] at h')<;>try (exfalso; omega)) | (have q':=trivial; first | refine xa3 (c1) rfl (by decide) ?_ | refine xa4 (c1) rfl ?_ | refine xb3 (c2) rfl (by decide) ?_ | refine xb2 (c2) rfl ?_ | refine hE _ _ xa5 ?_ | refine hE _ _ xa2 ?_))<;>(try simp (disch:=first | omega | decide +kernel) only [q',D.chg,D.ints,go_sem,Qa,Qb,Qc,Qd,Qe,↓reduceIte,reduceCtorEq,Qf,Qg,Qh])<;>clear q') | (with_reducible first | refine And.intro ?_ ?_ | omega) | exact xa6 | (refine xa1 ?_; omega) | (refine za9 ⟨?_,?_⟩) | (simp only [go_sem,Qc,Qb,zb1,zb2,forall_eq]; done)))
   exact zq2 [] rfl rfl
end Abs.Y
