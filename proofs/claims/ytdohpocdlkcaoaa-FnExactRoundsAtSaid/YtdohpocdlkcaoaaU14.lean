/- What functions of this program compute, over plain data. No condition. -/
import Derived.Test.YtdohpocdlkcaoaaU10
import Derived.Test.YtdohpocdlkcaoaaU6
set_option linter.all false
namespace Abs.Y
open Go Go.Proofs Abs
open Nat renaming reduceEqDiff -> Qa, reduceLT -> Qb, reduceAdd -> Qc, reduceMul -> Qd, reduceSub -> Qe, reduceLeDiff -> Qf, reduceSubDiff -> Qg, reduceBEq -> Qh
open Bool renaming not_eq_true' -> Ba, not_eq_false' -> Bb, and_eq_true -> Bc, or_eq_true -> Bd, or_eq_false_iff -> Be
open Int renaming ofNat_lt -> Ia, ofNat_le -> Ib, not_lt -> Ic, not_le -> Ie
open Decidable renaming not_not -> Da
set_option maxRecDepth 100000

structure Wrk where
 list : List (List Int)
 rd : List Int
 lf : List Int
 rt : List Int
 pv : List Int
 so : List (List Int)
def D.wrk (w : Wrk) : D:=.agg [.slice (w.list.map D.ints),.ints w.rd,.ints w.lf,.ints w.rt,.ints w.pv,.slice (w.so.map D.ints)]
def gN (l : List (List Int)) (o : List Nat) : List (List Int):=o.map fun j => l.getD j []
def ordI (l : List (List Int)) : Nat->List Nat
 | 0 => []
 | i + 1 => (ordI l i).take (plI (gN l (ordI l i)) (l.getD i []))++i :: (ordI l i).drop (plI (gN l (ordI l i)) (l.getD i []))
theorem ord_all {l : List (List Int)} (hs : ∀ x ∈ l,Sm x) (hn : l.Nodup) : ∀ i,i<=l.length->(Srt (gN l (ordI l i))∧∀ x,x ∈ gN l (ordI l i)↔x ∈ l.take i)∧(ordI l i).Perm (List.range i)
 | 0,_ => ⟨⟨⟨List.Pairwise.nil,fun x hx => nomatch hx⟩,by simp [gN,ordI]⟩,by simp [ordI]⟩
 | i + 1, hi => by
   obtain ⟨⟨h1,h2⟩,h3⟩:=ord_all hs hn i (by omega)
   have hc : l.getD i [] ∉ gN l (ordI l i):=fun hm => by
    rw [h2] at hm
    obtain ⟨j,hj,e⟩:=List.mem_take_iff_getElem.1 hm
    have e2 : l.getD i []=l[i]'(by omega):=by simp [List.getD_eq_getElem?_getD,show i < l.length by omega]
    rw [e2] at e
    have:=List.pairwise_iff_getElem.1 hn j i (by omega) (by omega) (by omega)
    exact this e
   have sc : Sm (l.getD i []):=hs _ (getD_mem (by omega))
   have he : gN l (ordI l (i + 1))=insI (gN l (ordI l i)) (l.getD i []):=by
    unfold insI
    rw [if_neg fun h => hc (by have:=getD_mem (z:=([] : List Int)) h.1; rwa [h.2] at this)]
    rw [ordI]
    simp only [gN,List.map_append,List.map_cons,List.map_take,List.map_drop]
   obtain ⟨g1,g2⟩:=insI_srt h1 sc
   refine ⟨⟨he ▸ g1,fun x => ?_⟩,?_⟩
   . rw [he,g2,h2,take_succ [] l i (by omega),List.mem_append,List.mem_singleton,or_comm]
   . rw [ordI,List.range_succ]
     refine (List.perm_middle).trans ?_
     rw [List.take_append_drop]
     exact (List.Perm.cons _ h3).trans (List.perm_append_singleton _ _).symm
theorem ord_len {l : List (List Int)} (hs : ∀ x ∈ l,Sm x) (hn : l.Nodup) {i : Nat} (hi : i<=l.length) : (ordI l i).length=i:=by
 have:=(ord_all hs hn i hi).2.length_eq
 rwa [List.length_range] at this
@[reducible] def iN (o : List Nat) : List D:=o.map fun j => .int .i64 (j : Nat)
set_option maxHeartbeats 8000000 in
theorem l10Order_ok (w : Wrk) (hs : ∀ x ∈ w.list,Sm x) (hn : w.list.Nodup) (hl : w.list.length<=100000) (hx : ∀ x ∈ w.list,x.length<=4294967296) :
 Ctr Try.prog 216 [D.wrk w] false (.sl 0) [(0,.arr 3 1 (iN (ordI w.list w.list.length)))]:=by
 obtain ⟨l,rd,lf,rt,pv,so⟩:=w
 simp only at hs hn hl hx ⊢
 refine Ctr.of (n:=54) (rs:=[.tmp 2]) Try.func216 rfl rfl Try.ntmps216 rfl rfl (by kernel_rfl) Try.checked.mixed ?_
 simp (disch:=first | omega | decide +kernel) only [D.wrk,go_sem,Qa,Qb,Qc,Qd,Qe,↓reduceIte,reduceCtorEq,Qf,Qg,Qh]
 (repeat' (first | ((first | (refine gsel_split (fun q' => ?_) (fun q' => ?_)<;>(have h':=q')<;>(try simp only [za1,za2,Ba,Bb,za3,ne_eq,za4,za5,za6,Ia,Ib,Ic,Ie,Da,Bc,Bd,Be,za7,za8] at h')) | (have q':=trivial; first | refine callX_new (D.wrk) rfl (by decide) ?_ | refine callY_new (D.wrk) rfl ?_ | refine hE _ _ ret_ne ?_ | refine hE _ _ exit_ne ?_))<;>(try simp (disch:=first | omega | decide +kernel) only [q',go_sem,Qa,Qb,Qc,Qd,Qe,↓reduceIte,reduceCtorEq,Qf,Qg,Qh])<;>clear q') | refine hN _ ?_ ?_ Wk.kk | with_reducible refine And.intro ?_ ?_ | with_reducible omega | exact ok_ints | exact cells_ints | exact no_mem | with_reducible exact plain_ints | (refine le_maxLen ?_; omega) | (refine za9 ⟨?_,?_⟩) | (simp only [go_sem,Qc,Qb,zb1,zb2,forall_eq]; done)))
 refine Ok.loopNO [53,52,51,50,49,48,47,46,45,44,43,42,41,40,39,38,37,36,35,34,33,32,31,30,29,28,27,26,25,24,23,22,21,20,19,18,17,16,15,14,13,12,11,10,9,8,7,6,5,4,3,2] (fun i (o : List Nat) => [(4,.d (.int .i64 (i : Nat))),(3,.sl 8)]) (fun _ (o : List Nat) => [(8,.arr 3 1 (iN o))]) l.length
  (fun i o => o=ordI l i) [] rfl (by refine Wk.auto ?_ ?_<;>simp [extraK,lk,killL,St.kill,wipeO,wipeS,AV.has,AV.hasL,AO.wipe,List.map_set,updSt,insL,dropS,ins,iN,List.map_nil]) ?_
 rintro R i o hN hE hi ho
 have hol : o.length=i:=by rw [ho]; exact ord_len hs hn hi
 obtain ⟨⟨h1,h2⟩,h3⟩:=ord_all hs hn i hi
 rw [← ho] at h1 h2 h3
 have hbd : ∀ j ∈ o,j < i:=fun j hj => by have:=h3.mem_iff.1 hj; simpa using this
 by_cases hlt : i < l.length
 . have sc : Sm (l.getD i []):=hs _ (getD_mem hlt)
   have hel : ∀ j,j < l.length->el (l.map D.ints) j=D.ints (l.getD j []):=fun j hj => el_map (f:=D.ints) [] hj
   have heo : ∀ j,j < o.length->el (iN o) j=.int .i64 (o.getD j 0 : Nat):=fun j hj => el_map (f:=fun j : Nat => D.int .i64 (j : Nat)) 0 hj
   have hat:=plI_at h1 sc
   have hnx : ordI l (i + 1)=o.take (plI (gN l o) (l.getD i []))++i :: o.drop (plI (gN l o) (l.getD i [])):=by rw [ordI,← ho]
   generalize plI (gN l o) (l.getD i [])=k at *
   have hgl : (gN l o).length=o.length:=List.length_map _
   have hgd : ∀ j,j < o.length->(gN l o).getD j []=l.getD (o.getD j 0) []:=fun j hj => by simp [gN,List.getD_eq_getElem?_getD,hj]
   refine Ok.seq (Ok.go ?_)
   simp (disch:=first | omega | decide +kernel) only [List.length_map,go_sem,Qa,Qb,Qc,Qd,Qe,↓reduceIte,reduceCtorEq,Qf,Qg,Qh]
   (repeat' (first | ((first | (refine gsel_split (fun q' => ?_) (fun q' => ?_)<;>(have h':=q')<;>(try simp only [za1,za2,Ba,Bb,za3,ne_eq,za4,za5,za6,Ia,Ib,Ic,Ie,Da,Bc,Bd,Be,za7,za8] at h')<;>try (exfalso; omega)) | (have q':=trivial; first | refine hE _ _ ret_ne ?_ | refine hE _ _ exit_ne ?_))<;>(try simp (disch:=first | omega | decide +kernel) only [q',List.length_map,go_sem,Qa,Qb,Qc,Qd,Qe,↓reduceIte,reduceCtorEq,Qf,Qg,Qh])<;>clear q') | refine hN _ ?_ ?_ Wk.kk | with_reducible refine And.intro ?_ ?_ | with_reducible omega | exact ok_ints | exact cells_ints | exact no_mem | with_reducible exact plain_ints | (refine le_maxLen ?_; omega) | (refine za9 ⟨?_,?_⟩) | (simp only [go_sem,Qc,Qb,zb1,zb2,forall_eq]; done)))
   refine Ok.seq (Ok.block (Ok.seq (Ok.go ?_)))
   simp (disch:=first | omega | decide +kernel) only [List.length_map,go_sem,Qa,Qb,Qc,Qd,Qe,↓reduceIte,reduceCtorEq,Qf,Qg,Qh]
   (repeat' (first | ((first | (refine gsel_split (fun q' => ?_) (fun q' => ?_)<;>(have h':=q')<;>(try simp only [za1,za2,Ba,Bb,za3,ne_eq,za4,za5,za6,Ia,Ib,Ic,Ie,Da,Bc,Bd,Be,za7,za8] at h')) | (have q':=trivial; first | refine hE _ _ ret_ne ?_ | refine hE _ _ exit_ne ?_))<;>(try simp (disch:=first | omega | decide +kernel) only [q',List.length_map,go_sem,Qa,Qb,Qc,Qd,Qe,↓reduceIte,reduceCtorEq,Qf,Qg,Qh])<;>clear q') | refine hN _ ?_ ?_ Wk.kk | with_reducible refine And.intro ?_ ?_ | with_reducible omega | exact ok_ints | exact cells_ints | exact no_mem | with_reducible exact plain_ints | (refine le_maxLen ?_; omega) | (refine za9 ⟨?_,?_⟩) | (simp only [go_sem,Qc,Qb,zb1,zb2,forall_eq]; done)))
   refine Ok.seq (Ok.block ?_)
   refine Ok.loopU [53,52,51,50,49,48,47,46,45,44,43,42,41,40,39,38,37,36,35,34,33,32,31,30,29,28,27,26,25,24,23,22,21,20,19,18,17,16,15,14,13,12,11,10,9,8,7,6,5,2] (fun (p : Nat × Nat) => [(5,.d (.int .i64 (p.1 : Nat))),(6,.d (.int .i64 (p.2 : Nat)))]) (fun _ => []) (fun n p => n=p.2 - p.1∧p.1<=k∧k<=p.2∧p.2<=o.length) o.length (0,o.length)
    ⟨by simp,by simp,hgl ▸ hat.le,Nat.le_refl _⟩ (by refine Wk.auto ?_ ?_<;>simp [extraK,lk,killL,St.kill,wipeO,wipeS,AV.has,AV.hasL,AO.wipe,List.map_set,updSt,insL,dropS,ins,]) ?_
   rintro R2 n ⟨f,t⟩ hN2 hE2 ⟨hn2,q1,q2,q3⟩
   simp only at hn2 q1 q2 q3
   have hm : ((f : Int) + (t : Int)).tdiv 2=(((f + t) / 2 : Nat) : Int):=by rw [Int.tdiv_eq_ediv_of_nonneg (by omega)]; omega
   have hmt : ((((f + t) / 2 : Nat) : Int)).toNat=(f + t) / 2:=by omega
   by_cases hft : f < t
   . have hml : (f + t) / 2 < o.length:=by omega
     have e1:=heo _ hml
     have hjl : o.getD ((f + t) / 2) 0 < l.length:=by have:=hbd _ (getD_mem (z:=0) hml); omega
     have e2:=hel _ hjl
     have e3:=hel i hlt
     have c1:=l2Before_ok (l.getD (o.getD ((f + t) / 2) 0) []) (l.getD i []) (hx _ (getD_mem hjl)) (hx _ (getD_mem hlt)) (hs _ (getD_mem hjl)) sc
     have e4:=hgd _ hml
     rw [← e4] at c1 e2
     have e5 : ((o.getD ((f + t) / 2) 0 : Nat) : Int).toNat=o.getD ((f + t) / 2) 0:=Int.toNat_natCast _
     generalize o.getD ((f + t) / 2) 0=jj at *
     simp (disch:=first | omega | decide +kernel) only [hm,hmt,e1,e2,e3,e5,List.length_map,D.ints,go_sem,Qa,Qb,Qc,Qd,Qe,↓reduceIte,reduceCtorEq,Qf,Qg,Qh]
     (repeat' (first | ((first | (refine gsel_split (fun q' => ?_) (fun q' => ?_)<;>(have h':=q')<;>(try simp only [za1,za2,Ba,Bb,za3,ne_eq,za4,za5,za6,Ia,Ib,Ic,Ie,Da,Bc,Bd,Be,za7,za8] at h')) | (have q':=trivial; first | refine callX_new (c1) rfl (by decide) ?_ | refine callY_new (c1) rfl ?_ | refine hE _ _ ret_ne ?_ | refine hE _ _ exit_ne ?_))<;>(try simp (disch:=first | omega | decide +kernel) only [q',hm,hmt,e1,e2,e3,e5,List.length_map,D.ints,go_sem,Qa,Qb,Qc,Qd,Qe,↓reduceIte,reduceCtorEq,Qf,Qg,Qh])<;>clear q') | refine hN _ ?_ ?_ Wk.kk | with_reducible refine And.intro ?_ ?_ | with_reducible omega | exact ok_ints | exact cells_ints | exact no_mem | with_reducible exact plain_ints | (refine le_maxLen ?_; omega) | (refine za9 ⟨?_,?_⟩) | (simp only [go_sem,Qc,Qb,zb1,zb2,forall_eq]; done)))
     . have hkm : (f + t) / 2 < k:=by
        apply Nat.lt_of_not_le
        intro h
        rw [hat.hi _ h (by omega)] at h'
        cases h'
       exact hN2 (t - ((f + t) / 2 + 1)) ((f + t) / 2 + 1,t) _ (by omega) ⟨rfl,hkm,q2,q3⟩ (by refine Wk.auto ?_ ?_<;>simp [extraK,lk,killL,St.kill,wipeO,wipeS,AV.has,AV.hasL,AO.wipe,List.map_set,updSt,insL,dropS,ins,D.ints])
     . have hkm : k<=(f + t) / 2:=by
        apply Nat.le_of_not_lt
        intro h
        rw [hat.lo _ h] at h'
        cases h'
       exact hN2 ((f + t) / 2 - f) (f,(f + t) / 2) _ (by omega) ⟨rfl,q1,hkm,by omega⟩ (by refine Wk.auto ?_ ?_<;>simp [extraK,lk,killL,St.kill,wipeO,wipeS,AV.has,AV.hasL,AO.wipe,List.map_set,updSt,insL,dropS,ins,D.ints])
   . obtain rfl : f=k:=by omega
     have c2:=l1Own_ok ((o.take f).map fun j => ((j : Nat) : Int)) (by simp only [List.length_map,List.length_take]; omega)
     have hcell : ∀ y ∈ iN o,y.cells.length=1:=fun y hy => by obtain ⟨c,_,rfl⟩:=List.mem_map.1 hy; rfl
     have hok : ∀ y ∈ iN (o.drop f),D.ok 1 y:=fun y hy => by obtain ⟨c,_,rfl⟩:=List.mem_map.1 hy; exact ⟨rfl,fun x hx => by cases hx with | head => rfl | tail _ h => cases h⟩
     have eT : (iN o).take f=((o.take f).map fun j => ((j : Nat) : Int)).map (.int .i64):=by simp [iN,Function.comp_def]
     have eD : (o.drop f).take (o.length - f)=o.drop f:=List.take_of_length_le (by simp)
     simp (disch:=first | omega | decide +kernel) only [hm,List.length_map,go_sem,Qa,Qb,Qc,Qd,Qe,↓reduceIte,reduceCtorEq,Qf,Qg,Qh]
     (repeat' (first | ((first | (refine gsel_split (fun q' => ?_) (fun q' => ?_)<;>(have h':=q')<;>(try simp only [za1,za2,Ba,Bb,za3,ne_eq,za4,za5,za6,Ia,Ib,Ic,Ie,Da,Bc,Bd,Be,za7,za8] at h')) | (have q':=trivial; first | refine hE _ _ ret_ne ?_ | refine hE _ _ exit_ne ?_))<;>(try simp (disch:=first | omega | decide +kernel) only [q',hm,hmt,List.length_map,go_sem,Qa,Qb,Qc,Qd,Qe,↓reduceIte,reduceCtorEq,Qf,Qg,Qh])<;>clear q') | refine hN _ ?_ ?_ Wk.kk | with_reducible refine And.intro ?_ ?_ | with_reducible omega | exact ok_ints | exact cells_ints | exact no_mem | with_reducible exact plain_ints | (refine le_maxLen ?_; omega) | (refine za9 ⟨?_,?_⟩) | (simp only [go_sem,Qc,Qb,zb1,zb2,forall_eq]; done)))
     refine hE2 _ _ exit_ne ?_
     simp (disch:=first | omega | decide +kernel) only [go_sem,Qa,Qb,Qc,Qd,Qe,↓reduceIte,reduceCtorEq,Qf,Qg,Qh]
     refine Ok.weak (Wk.frz (j:=8) rfl) ?_
     simp (disch:=first | omega | decide +kernel) only [St.frz,frzS,frzO,AV.frz,AV.frzL,AO.frz,go_sem,Qa,Qb,Qc,Qd,Qe,↓reduceIte,reduceCtorEq,Qf,Qg,Qh]
     refine Ok.go ?_
     simp (disch:=first | omega | decide +kernel) only [List.length_map,eT,eD,go_sem,Qa,Qb,Qc,Qd,Qe,↓reduceIte,reduceCtorEq,Qf,Qg,Qh]
     (repeat' (first | ((first | (refine gsel_split (fun q' => ?_) (fun q' => ?_)<;>(have h':=q')<;>(try simp only [za1,za2,Ba,Bb,za3,ne_eq,za4,za5,za6,Ia,Ib,Ic,Ie,Da,Bc,Bd,Be,za7,za8] at h')) | (have q':=trivial; first | refine callX_new (c2) rfl (by decide) ?_ | refine callY_new (c2) rfl ?_ | refine hE _ _ ret_ne ?_ | refine hE _ _ exit_ne ?_))<;>(try simp (disch:=first | omega | decide +kernel) only [q',List.length_map,eT,eD,go_sem,Qa,Qb,Qc,Qd,Qe,↓reduceIte,reduceCtorEq,Qf,Qg,Qh])<;>clear q') | refine hN _ ?_ ?_ Wk.kk | with_reducible refine And.intro ?_ ?_ | with_reducible omega | exact ok_ints | exact cells_ints | exact no_mem | with_reducible exact plain_ints | (refine le_maxLen ?_; omega) | (refine za9 ⟨?_,?_⟩) | (simp only [go_sem,Qc,Qb,zb1,zb2,forall_eq]; done)))
     all_goals (first | omega | exact hcell | exact hok | skip)
     refine Ok.go ?_
     simp (disch:=first | omega | decide +kernel) only [go_sem,Qa,Qb,Qc,Qd,Qe,↓reduceIte,reduceCtorEq,Qf,Qg,Qh]
     rw [show (i : Int) + 1=((i + 1 : Nat) : Int) by omega]
     refine hN _ _ hlt hnx.symm ((Wk.swp 8 4600000).trans ?_)
     exact (by refine Wk.auto ?_ ?_<;>simp [extraK,lk,killL,St.kill,wipeO,wipeS,AV.has,AV.hasL,AO.wipe,List.map_set,updSt,insL,dropS,ins,swpS,swpO,swp,AV.ren,AV.renL,AO.ren,iN,List.map_append,List.map_cons,List.map_map,Function.comp_def,List.append_assoc,List.singleton_append])
 . obtain rfl : i=l.length:=by omega
   refine Ok.go ?_
   simp (disch:=first | omega | decide +kernel) only [List.length_map,go_sem,Qa,Qb,Qc,Qd,Qe,↓reduceIte,reduceCtorEq,Qf,Qg,Qh]
   (repeat' (first | ((first | (refine gsel_split (fun q' => ?_) (fun q' => ?_)<;>(have h':=q')<;>(try simp only [za1,za2,Ba,Bb,za3,ne_eq,za4,za5,za6,Ia,Ib,Ic,Ie,Da,Bc,Bd,Be,za7,za8] at h')) | (have q':=trivial; first | refine hE _ _ ret_ne ?_ | refine hE _ _ exit_ne ?_))<;>(try simp (disch:=first | omega | decide +kernel) only [q',List.length_map,go_sem,Qa,Qb,Qc,Qd,Qe,↓reduceIte,reduceCtorEq,Qf,Qg,Qh])<;>clear q') | refine hN _ ?_ ?_ Wk.kk | with_reducible refine And.intro ?_ ?_ | with_reducible omega | exact ok_ints | exact cells_ints | exact no_mem | with_reducible exact plain_ints | (refine le_maxLen ?_; omega) | (refine za9 ⟨?_,?_⟩) | (simp only [go_sem,Qc,Qb,zb1,zb2,forall_eq]; done)))
   rw [← ho]
   exact ret_sl 8 rfl rfl (fun x hx => by obtain ⟨j,_,rfl⟩:=List.mem_map.1 hx; rfl)
end Abs.Y

namespace Abs.Y
open Go Go.Proofs Abs
open Nat renaming reduceEqDiff -> Qa, reduceLT -> Qb, reduceAdd -> Qc, reduceMul -> Qd, reduceSub -> Qe, reduceLeDiff -> Qf, reduceSubDiff -> Qg, reduceBEq -> Qh
open Bool renaming not_eq_true' -> Ba, not_eq_false' -> Bb, and_eq_true -> Bc, or_eq_true -> Bd, or_eq_false_iff -> Be
open Int renaming ofNat_lt -> Ia, ofNat_le -> Ib, not_lt -> Ic, not_le -> Ie
open Decidable renaming not_not -> Da
set_option maxRecDepth 100000

structure Fnd where
 so : List (List Int)
 lf : List Int
 rt : List Int
 pv : List Int
def insAt (l : List Int) (k : Nat) (x : Int) : List Int:=l.take k++x :: l.drop k
def fndS (w : Wrk) (width : Nat) (ia ib : Nat) (f : Fnd) (v : Nat) : Fnd :=
 match resolveI (w.list.getD ia []) (w.list.getD ib []) (v : Int) with
 | some c => if c.length<=width∧c ∉ w.so∧c ∉ f.so then ⟨insI f.so c,insAt f.lf (plI f.so c) ia,insAt f.rt (plI f.so c) ib,insAt f.pv (plI f.so c) v⟩ else f
 | none => f
def fndV (w : Wrk) (width : Nat) (ia ib : Nat) (f : Fnd) : Nat->Fnd
 | 0 => f
 | v + 1 => fndS w width ia ib (fndV w width ia ib f v) (v + 1)
def oldW (w : Wrk) (round : Int) (i : Nat) : Bool:=decide (w.rd.getD i 0 < round - 1)
def fndB (w : Wrk) (width vars : Nat) (round : Int) (o : List Nat) (ia : Nat) (f : Fnd) : Nat->Fnd
 | 0 => f
 | b + 1 => if oldW w round ia && oldW w round (o.getD b 0) then fndB w width vars round o ia f b else fndV w width ia (o.getD b 0) (fndB w width vars round o ia f b) vars
def fndA (w : Wrk) (width vars : Nat) (round : Int) (o : List Nat) : Nat->Fnd
 | 0 => ⟨[],[],[],[]⟩
 | a + 1 => fndB w width vars round o (o.getD a 0) (fndA w width vars round o a) o.length
def fndR (w : Wrk) (width vars : Nat) (round : Int) : Fnd:=fndA w width vars round (ordI w.list w.list.length) (ordI w.list w.list.length).length
structure FOK (f : Fnd) : Prop where
 so : Srt f.so
 g6 : ∀ c ∈ f.so,G6 c
 lf : f.lf.length=f.so.length
 rt : f.rt.length=f.so.length
 pv : f.pv.length=f.so.length
theorem insAt_len {l : List Int} {k : Nat} {x : Int} (h : k<=l.length) : (insAt l k x).length=l.length + 1:=by
 simp [insAt,List.length_take,List.length_drop]; omega
theorem insI_new {l : List (List Int)} {c : List Int} (h : c ∉ l) : insI l c=l.take (plI l c)++c :: l.drop (plI l c):=by
 unfold insI
 rw [if_neg fun h' => h (by have:=getD_mem (z:=([] : List Int)) h'.1; rwa [h'.2] at this)]
theorem pl_le (l : List (List Int)) (c : List Int) : plI l c<=l.length:=(List.takeWhile_sublist _).length_le
theorem FOK.put {f : Fnd} (h : FOK f) {c : List Int} (gc : G6 c) (hn : c ∉ f.so) (a b v : Int) : FOK ⟨insI f.so c,insAt f.lf (plI f.so c) a,insAt f.rt (plI f.so c) b,insAt f.pv (plI f.so c) v⟩:=by
 have hl : (insI f.so c).length=f.so.length + 1:=by
  rw [insI_new hn]; simp [List.length_take,List.length_drop]; have:=pl_le f.so c; omega
 have hp:=pl_le f.so c
 obtain ⟨g1,g2⟩:=insI_srt h.so (g6_sm gc)
 refine ⟨g1,fun x hx => ?_,by simp only; rw [insAt_len (by rw [h.lf]; exact hp),hl,h.lf],by simp only; rw [insAt_len (by rw [h.rt]; exact hp),hl,h.rt],by simp only; rw [insAt_len (by rw [h.pv]; exact hp),hl,h.pv]⟩
 rcases (g2 x).1 hx with rfl | hx
 . exact gc
 . exact h.g6 x hx
theorem FOK.nil : FOK ⟨[],[],[],[]⟩:=⟨⟨List.Pairwise.nil,fun x hx => (nomatch hx)⟩,(fun x hx => (nomatch hx)),rfl,rfl,rfl⟩
section
variable {w : Wrk} {width vars : Nat} {round : Int} {o : List Nat}
theorem FOK.step (hw : ∀ i,G6 (w.list.getD i [])) {f : Fnd} (h : FOK f) (ia ib v : Nat) (hv : 1<=v) : FOK (fndS w width ia ib f v):=by
 unfold fndS
 split
 . rename_i c hc
   split
   . rename_i hif
     exact h.put (resolveI_some (hw ia) (hw ib) (by omega) hc).2.2.2.1 hif.2.2 _ _ _
   . exact h
 . exact h
theorem FOK.stepV (hw : ∀ i,G6 (w.list.getD i [])) {f : Fnd} (h : FOK f) (ia ib : Nat) : ∀ v,FOK (fndV w width ia ib f v)
 | 0 => h
 | v + 1 => FOK.step hw (FOK.stepV hw h ia ib v) ia ib (v + 1) (by omega)
theorem FOK.stepB (hw : ∀ i,G6 (w.list.getD i [])) {f : Fnd} (h : FOK f) (ia : Nat) : ∀ b,FOK (fndB w width vars round o ia f b)
 | 0 => h
 | b + 1 => by
   rw [fndB]
   split
   . exact FOK.stepB hw h ia b
   . exact FOK.stepV hw (FOK.stepB hw h ia b) _ _ _
theorem FOK.stepA (hw : ∀ i,G6 (w.list.getD i [])) : ∀ a,FOK (fndA w width vars round o a)
 | 0 => FOK.nil
 | a + 1 => FOK.stepB hw (FOK.stepA hw a) _ _
end
theorem srt_nodup {l : List (List Int)} (h : Srt l) : l.Nodup:=h.1.imp_of_mem fun {x y} hx hy hxy e => by
 subst e; rw [befI_self (h.2 x hx)] at hxy; cases hxy
theorem srt_len {l : List (List Int)} (h : Srt l) (hg : ∀ c ∈ l,G6 c) : l.length<=4096:=by
 have:=table_len (L:=l.map fun c => (c,0)) (fun p hp => by obtain ⟨c,hc,rfl⟩:=List.mem_map.1 hp; exact hg c hc) (by
  rw [show keysC (l.map fun c => (c,0))=l by simp [keysC,Function.comp_def]]; exact srt_nodup h)
 rwa [List.length_map] at this
structure WOK (w : Wrk) : Prop where
 nd : w.list.Nodup
 g6 : ∀ c ∈ w.list,G6 c
 so : Srt w.so
 mem : ∀ c,c ∈ w.so↔c ∈ w.list
 rd : w.rd.length=w.list.length
 lf : w.lf.length=w.list.length
 rt : w.rt.length=w.list.length
 pv : w.pv.length=w.list.length
theorem WOK.len {w : Wrk} (h : WOK w) : w.list.length<=4096:=by
 have:=table_len (L:=w.list.map fun c => (c,0)) (fun p hp => by obtain ⟨c,hc,rfl⟩:=List.mem_map.1 hp; exact h.g6 c hc) (by
  rw [show keysC (w.list.map fun c => (c,0))=w.list by simp [keysC,Function.comp_def]]; exact h.nd)
 rwa [List.length_map] at this
theorem g6_nil : G6 []:=⟨⟨List.Pairwise.nil,fun x hx => nomatch hx⟩,fun x hx => nomatch hx⟩
theorem WOK.getD {w : Wrk} (h : WOK w) (i : Nat) : G6 (w.list.getD i []):=by
 by_cases hi : i < w.list.length
 . exact h.g6 _ (getD_mem hi)
 . rw [List.getD_eq_getElem?_getD,List.getElem?_eq_none (by omega)]; exact g6_nil
def roundI (w : Wrk) (width vars : Nat) (round : Int) : Wrk :=
 let f:=fndR w width vars round
 ⟨w.list++f.so,w.rd++List.replicate f.so.length round,w.lf++f.lf,w.rt++f.rt,w.pv++f.pv,f.so.foldl insI w.so⟩
end Abs.Y

namespace Abs.Y
open Go Go.Proofs Abs
open Nat renaming reduceEqDiff -> Qa, reduceLT -> Qb, reduceAdd -> Qc, reduceMul -> Qd, reduceSub -> Qe, reduceLeDiff -> Qf, reduceSubDiff -> Qg, reduceBEq -> Qh
open Bool renaming not_eq_true' -> Ba, not_eq_false' -> Bb, and_eq_true -> Bc, or_eq_true -> Bd, or_eq_false_iff -> Be
open Int renaming ofNat_lt -> Ia, ofNat_le -> Ib, not_lt -> Ic, not_le -> Ie
open Decidable renaming not_not -> Da
set_option maxRecDepth 100000

theorem fndS_mem {w : Wrk} {width : Nat} (hw : ∀ i,G6 (w.list.getD i [])) {f : Fnd} (h : FOK f) {ia ib v : Nat} (hv : 1<=v) (c : List Int) :
 c ∈ (fndS w width ia ib f v).so↔c ∈ f.so∨(resolveI (w.list.getD ia []) (w.list.getD ib []) (v : Int)=some c∧c.length<=width∧c ∉ w.so):=by
 unfold fndS
 cases hr : resolveI (w.list.getD ia []) (w.list.getD ib []) (v : Int) with
 | none => simp
 | some d =>
   have gd:=(resolveI_some (hw ia) (hw ib) (by omega) hr).2.2.2.1
   simp only [Option.some.injEq]
   split
   . rename_i hif
     simp only [(insI_srt h.so (g6_sm gd)).2 c]
     constructor
     . rintro (rfl | hc)
       . exact .inr ⟨rfl,hif.1,hif.2.1⟩
       . exact .inl hc
     . rintro (hc | ⟨rfl,_⟩)
       . exact .inr hc
       . exact .inl rfl
   . rename_i hif
     constructor
     . exact .inl
     . rintro (hc | ⟨rfl,h1,h2⟩)
       . exact hc
       . exact Classical.byContradiction fun hn => hif ⟨h1,h2,hn⟩
def PairC (w : Wrk) (width vars : Nat) (ia ib : Nat) (c : List Int) : Prop:=(∃ v : Nat,1<=v∧v<=vars∧resolveI (w.list.getD ia []) (w.list.getD ib []) (v : Int)=some c)∧c.length<=width∧c ∉ w.so
section
variable {w : Wrk} {width vars : Nat} {round : Int} {o : List Nat}
theorem fndV_mem (hw : ∀ i,G6 (w.list.getD i [])) {f : Fnd} (h : FOK f) (ia ib : Nat) (c : List Int) : ∀ n,c ∈ (fndV w width ia ib f n).so↔c ∈ f.so∨PairC w width n ia ib c
 | 0 => by
   constructor
   . exact .inl
   . rintro (hc | ⟨⟨v,h1,h2,_⟩,_⟩)
     . exact hc
     . omega
 | n + 1 => by
   rw [fndV,fndS_mem hw (FOK.stepV hw h ia ib n) (by omega),fndV_mem hw h ia ib c n]
   constructor
   . rintro ((hc | ⟨⟨v,h1,h2,h3⟩,h4⟩) | ⟨h3,h4⟩)
     . exact .inl hc
     . exact .inr ⟨⟨v,h1,by omega,h3⟩,h4⟩
     . exact .inr ⟨⟨n + 1,by omega,by omega,h3⟩,h4⟩
   . rintro (hc | ⟨⟨v,h1,h2,h3⟩,h4⟩)
     . exact .inl (.inl hc)
     . by_cases e : v=n + 1
       . subst e; exact .inr ⟨h3,h4⟩
       . exact .inl (.inr ⟨⟨v,h1,by omega,h3⟩,h4⟩)
theorem fndB_mem (hw : ∀ i,G6 (w.list.getD i [])) {f : Fnd} (h : FOK f) (ia : Nat) (c : List Int) : ∀ n,c ∈ (fndB w width vars round o ia f n).so↔c ∈ f.so∨∃ b,b < n∧(oldW w round ia && oldW w round (o.getD b 0))=false∧PairC w width vars ia (o.getD b 0) c
 | 0 => by
   constructor
   . exact .inl
   . rintro (hc | ⟨b,hb,_⟩)
     . exact hc
     . omega
 | n + 1 => by
   rw [fndB]
   have ih:=fndB_mem hw h ia c n
   split
   . rename_i ho
     rw [ih]
     constructor
     . rintro (hc | ⟨b,hb,h2⟩)
       . exact .inl hc
       . exact .inr ⟨b,by omega,h2⟩
     . rintro (hc | ⟨b,hb,h2,h3⟩)
       . exact .inl hc
       . by_cases e : b=n
         . subst e; rw [ho] at h2; cases h2
         . exact .inr ⟨b,by omega,h2,h3⟩
   . rename_i ho
     rw [fndV_mem hw (FOK.stepB hw h ia n),ih]
     constructor
     . rintro ((hc | ⟨b,hb,h2⟩) | hp)
       . exact .inl hc
       . exact .inr ⟨b,by omega,h2⟩
       . exact .inr ⟨n,by omega,by simpa using ho,hp⟩
     . rintro (hc | ⟨b,hb,h2,h3⟩)
       . exact .inl (.inl hc)
       . by_cases e : b=n
         . subst e; exact .inr h3
         . exact .inl (.inr ⟨b,by omega,h2,h3⟩)
theorem fndA_mem (hw : ∀ i,G6 (w.list.getD i [])) (c : List Int) : ∀ n,c ∈ (fndA w width vars round o n).so↔∃ a b,a < n∧b < o.length∧(oldW w round (o.getD a 0) && oldW w round (o.getD b 0))=false∧PairC w width vars (o.getD a 0) (o.getD b 0) c
 | 0 => by
   constructor
   . intro h; simp [fndA] at h
   . rintro ⟨a,b,ha,_⟩; omega
 | n + 1 => by
   rw [fndA,fndB_mem hw (FOK.stepA hw n),fndA_mem hw c n]
   constructor
   . rintro (⟨a,b,ha,h2⟩ | ⟨b,h2⟩)
     . exact ⟨a,b,by omega,h2⟩
     . exact ⟨n,b,by omega,h2⟩
   . rintro ⟨a,b,ha,h2⟩
     by_cases e : a=n
     . subst e; exact .inr ⟨b,h2⟩
     . exact .inl ⟨a,b,by omega,h2⟩
theorem fndR_mem (hw : WOK w) (c : List Int) : c ∈ (fndR w width vars round).so↔∃ i j,i < w.list.length∧j < w.list.length∧(oldW w round i && oldW w round j)=false∧PairC w width vars i j c:=by
 have hp:=(ord_all (fun x hx => g6_sm (hw.g6 x hx)) hw.nd w.list.length (Nat.le_refl _)).2
 rw [fndR,fndA_mem hw.getD]
 generalize ordI w.list w.list.length=o at *
 have get : ∀ i,i < w.list.length->∃ a,a < o.length∧o.getD a 0=i:=fun i hi => by
  obtain ⟨a,ha,e⟩:=List.getElem_of_mem (hp.mem_iff.2 (List.mem_range.2 hi))
  exact ⟨a,ha,by rw [List.getD_eq_getElem?_getD,List.getElem?_eq_getElem ha,Option.getD_some,e]⟩
 have lt : ∀ a,a < o.length->o.getD a 0 < w.list.length:=fun a ha => List.mem_range.1 (hp.mem_iff.1 (getD_mem (z:=0) ha))
 constructor
 . rintro ⟨a,b,ha,hb,h⟩
   exact ⟨_,_,lt a ha,lt b hb,h⟩
 . rintro ⟨i,j,hi,hj,h⟩
   obtain ⟨a,ha,rfl⟩:=get i hi
   obtain ⟨b,hb,rfl⟩:=get j hj
   exact ⟨a,b,ha,hb,h⟩
end
theorem foldl_ins : ∀ {m l : List (List Int)},Srt l->(∀ x ∈ m,Sm x)->Srt (m.foldl insI l)∧∀ c,c ∈ m.foldl insI l↔c ∈ l∨c ∈ m
 | [],l,hs,_ => ⟨hs,fun c => by simp⟩
 | x :: m, l, hs, hm => by
   obtain ⟨g1,g2⟩:=insI_srt hs (hm x (by simp))
   obtain ⟨h1,h2⟩:=foldl_ins (m:=m) g1 (fun y hy => hm y (by simp [hy]))
   refine ⟨h1,fun c => ?_⟩
   rw [List.foldl_cons,h2,g2,List.mem_cons]
   constructor
   . rintro ((h | h) | h)
     . exact .inr (.inl h)
     . exact .inl h
     . exact .inr (.inr h)
   . rintro (h | h | h)
     . exact .inl (.inr h)
     . exact .inl (.inl h)
     . exact .inr h
theorem WOK.fok {w : Wrk} (hw : WOK w) {width vars : Nat} {round : Int} : FOK (fndR w width vars round):=FOK.stepA hw.getD _
theorem WOK.round {w : Wrk} (hw : WOK w) {width vars : Nat} {round : Int} : WOK (roundI w width vars round):=by
 have hf : FOK (fndR w width vars round):=hw.fok
 have hm:=fun c => fndR_mem (width:=width) (vars:=vars) (round:=round) hw c
 unfold roundI
 generalize fndR w width vars round=f at *
 obtain ⟨s1,s2⟩:=foldl_ins (m:=f.so) hw.so (fun x hx => g6_sm (hf.g6 x hx))
 refine ⟨?_,fun c hc => ?_,s1,fun c => ?_,?_,?_,?_,?_⟩
 . simp only
   rw [List.nodup_append]
   refine ⟨hw.nd,srt_nodup hf.so,fun a ha b hb e => ?_⟩
   subst e
   obtain ⟨_,_,_,_,_,h⟩:=(hm a).1 hb
   exact h.2.2 ((hw.mem a).2 ha)
 . rcases List.mem_append.1 hc with hc | hc
   . exact hw.g6 c hc
   . exact hf.g6 c hc
 . simp only
   rw [s2,List.mem_append,hw.mem]
 . simp only [List.length_append,List.length_replicate,hw.rd]
 . simp only [List.length_append,hw.lf,hf.lf]
 . simp only [List.length_append,hw.rt,hf.rt]
 . simp only [List.length_append,hw.pv,hf.pv]
def Below (n : Nat) (c : List Int) : Prop:=∀ x ∈ c,x.natAbs<=n
theorem cl_below {cs : List (List Int)} {w n : Nat} (hg : ∀ c ∈ cs,G6 c) (hb : ∀ c ∈ cs,Below n c) : ∀ r c,Cl cs w r c->Below n c
 | 0,c,hc => hb c hc.1
 | r + 1, c, hc => by
   rcases hc with hc | ⟨_,a,b,v,hv,ha,hb',hr⟩
   . exact cl_below hg hb r c hc
   . intro x hx
     have h:=(resolveI_some (cl_g6 hg r a ha) (cl_g6 hg r b hb') hv hr).2.2.2.2.1 x
     rcases (h.1 hx).1 with hx | hx
     . exact cl_below hg hb r a ha x hx
     . exact cl_below hg hb r b hb' x hx
structure InvW (cs : List (List Int)) (w r : Nat) (W : Wrk) : Prop where
 ok : WOK W
 mem : ∀ c,c ∈ W.list↔Cl cs w r c
 rd : ∀ i,i < W.list.length->∃ k : Nat,W.rd.getD i 0=(k : Int)∧k<=r∧NewC cs w k (W.list.getD i [])
section
variable {cs : List (List Int)} {w vars r : Nat} {W : Wrk}
theorem InvW.new (hg : ∀ c ∈ cs,G6 c) (hb : ∀ c ∈ cs,Below vars c) (h : InvW cs w r W) (c : List Int) : c ∈ (fndR W w vars ((r + 1 : Nat) : Int)).so↔NewC cs w (r + 1) c:=by
 rw [fndR_mem h.ok]
 constructor
 . rintro ⟨i,j,hi,hj,_,⟨v,hv,_,hr⟩,hl,hn⟩
   have ca:=(h.mem _).1 (getD_mem (z:=([] : List Int)) hi)
   have cb:=(h.mem _).1 (getD_mem (z:=([] : List Int)) hj)
   exact ⟨.inr ⟨hl,_,_,(v : Int),by omega,ca,cb,hr⟩,fun hc => hn ((h.ok.mem c).2 ((h.mem c).2 hc))⟩
 . rintro ⟨hc,hn⟩
   rcases hc with hc | ⟨hl,a,b,v,hv,ca,cb,hr⟩
   . exact absurd hc hn
   . have hva:=(resolveI_some (cl_g6 hg r a ca) (cl_g6 hg r b cb) hv hr).2.1
     have hvb:=cl_below hg hb r a ca v hva
     have get : ∀ {x},Cl cs w r x->∃ i,i < W.list.length∧W.list.getD i []=x:=fun {x} hx => by
      obtain ⟨i,hi,e⟩:=List.getElem_of_mem ((h.mem x).2 hx)
      exact ⟨i,hi,by rw [List.getD_eq_getElem?_getD,List.getElem?_eq_getElem hi,Option.getD_some,e]⟩
     obtain ⟨i,hi,ei⟩:=get ca
     obtain ⟨j,hj,ej⟩:=get cb
     refine ⟨i,j,hi,hj,?_,⟨v.toNat,by omega,by omega,by rw [ei,ej,Int.toNat_of_nonneg (by omega)]; exact hr⟩,hl,fun hs => hn ((h.mem c).1 ((h.ok.mem c).1 hs))⟩
     rw [Bool.eq_false_iff]
     intro ho
     simp only [oldW,Bc,decide_eq_true_eq] at ho
     obtain ⟨k1,e1,_,n1⟩:=h.rd i hi
     obtain ⟨k2,e2,_,n2⟩:=h.rd j hj
     rw [ei] at n1
     rw [ej] at n2
     obtain ⟨s,rfl⟩ : ∃ s,r=s + 1:=⟨r - 1,by omega⟩
     exact hn (.inr ⟨hl,a,b,v,hv,cl_mono (show k1<=s by omega) (new_cl n1),cl_mono (show k2<=s by omega) (new_cl n2),hr⟩)
theorem InvW.step (hg : ∀ c ∈ cs,G6 c) (hb : ∀ c ∈ cs,Below vars c) (h : InvW cs w r W) : InvW cs w (r + 1) (roundI W w vars ((r + 1 : Nat) : Int)):=by
 have hn:=fun c => h.new hg hb (vars:=vars) c
 refine ⟨h.ok.round,fun c => ?_,fun i hi => ?_⟩
 . rw [roundI]
   simp only
   rw [List.mem_append,h.mem,hn]
   constructor
   . rintro (h1 | h1)
     . exact .inl h1
     . exact h1.1
   . intro h1
     by_cases h2 : Cl cs w r c
     . exact .inl h2
     . exact .inr ⟨h1,h2⟩
 . rw [roundI] at hi ⊢
   simp only [List.length_append] at hi ⊢
   have hrd:=h.ok.rd
   rw [getD_app,getD_app,hrd]
   by_cases hl : i < W.list.length
   . rw [if_pos hl,if_pos hl]
     obtain ⟨k,h1,h2,h3⟩:=h.rd i hl
     exact ⟨k,h1,by omega,h3⟩
   . rw [if_neg hl,if_neg hl]
     refine ⟨r + 1,?_,Nat.le_refl _,(hn _).1 (getD_mem (by omega))⟩
     rw [List.getD_eq_getElem?_getD,List.getElem?_replicate,if_pos (by omega),Option.getD_some]
end
def firstC (cs : List (List Int)) (w : Nat) : List (List Int):=(cs.filter fun c => decide (c.length<=w)).foldl insI []
def startW (cs : List (List Int)) (w : Nat) : Wrk :=
 ⟨firstC cs w,List.replicate (firstC cs w).length 0,List.replicate (firstC cs w).length (-1),List.replicate (firstC cs w).length (-1),List.replicate (firstC cs w).length 0,firstC cs w⟩
def itW (cs : List (List Int)) (w vars : Nat) : Nat->Wrk
 | 0 => startW cs w
 | r + 1 => roundI (itW cs w vars r) w vars ((r + 1 : Nat) : Int)
section
variable {cs : List (List Int)} {w vars : Nat}
theorem firstC_ok (hg : ∀ c ∈ cs,G6 c) : Srt (firstC cs w)∧∀ c,c ∈ firstC cs w↔Cl cs w 0 c:=by
 obtain ⟨h1,h2⟩:=foldl_ins (l:=[]) (m:=cs.filter fun c => decide (c.length<=w)) ⟨List.Pairwise.nil,fun x hx => nomatch hx⟩ (fun x hx => g6_sm (hg x (List.mem_filter.1 hx).1))
 refine ⟨h1,fun c => ?_⟩
 rw [firstC,h2]
 simp [Cl,List.mem_filter]
theorem startW_inv (hg : ∀ c ∈ cs,G6 c) : InvW cs w 0 (startW cs w):=by
 obtain ⟨h1,h2⟩:=firstC_ok (w:=w) hg
 refine ⟨⟨srt_nodup h1,fun c hc => hg c ((h2 c).1 hc).1,h1,fun c => Iff.rfl,?_,?_,?_,?_⟩,h2,fun i hi => ⟨0,?_,Nat.le_refl _,(h2 _).1 (getD_mem hi)⟩⟩
 . simp [startW]
 . simp [startW]
 . simp [startW]
 . simp [startW]
 . simp only [startW] at hi ⊢
   rw [List.getD_eq_getElem?_getD,List.getElem?_replicate,if_pos hi,Option.getD_some]
   rfl
theorem itW_inv (hg : ∀ c ∈ cs,G6 c) (hb : ∀ c ∈ cs,Below vars c) : ∀ r,InvW cs w r (itW cs w vars r)
 | 0 => startW_inv hg
 | r + 1 => (itW_inv hg hb r).step hg hb
structure FinW (cs : List (List Int)) (w vars : Nat) (W : Wrk) (r : Nat) : Prop where
 eq : W=itW cs w vars (r + 1)
 inv : InvW cs w r W
 stop : ∀ c,¬ NewC cs w (r + 1) c
 fresh : ∀ k,k < r->(fndR (itW cs w vars k) w vars ((k + 1 : Nat) : Int)).so ≠ []
theorem finW_of {r : Nat} (hg : ∀ c ∈ cs,G6 c) (hb : ∀ c ∈ cs,Below vars c) (hs : (fndR (itW cs w vars r) w vars ((r + 1 : Nat) : Int)).so=[]) (hf : ∀ k,k < r->(fndR (itW cs w vars k) w vars ((k + 1 : Nat) : Int)).so ≠ []) : FinW cs w vars (itW cs w vars (r + 1)) r:=by
 have hI:=itW_inv (w:=w) hg hb r
 have hI2:=itW_inv (w:=w) hg hb (r + 1)
 have hst : ∀ c,¬ NewC cs w (r + 1) c:=fun c hc => by
  have:=(hI.new hg hb c).2 hc
  rw [hs] at this
  cases this
 refine ⟨rfl,⟨hI2.ok,fun c => ?_,fun i hi => ?_⟩,hst,hf⟩
 . rw [hI2.mem]
   constructor
   . intro hc
     exact Classical.byContradiction fun hn => hst c ⟨hc,hn⟩
   . exact .inl
 . obtain ⟨k,h1,h2,h3⟩:=hI2.rd i hi
   refine ⟨k,h1,?_,h3⟩
   apply Nat.le_of_not_lt
   intro hk
   obtain rfl : k=r + 1:=by omega
   exact hst _ h3
theorem itW_long (hg : ∀ c ∈ cs,G6 c) (hb : ∀ c ∈ cs,Below vars c) : ∀ r,(∀ k,k < r->(fndR (itW cs w vars k) w vars ((k + 1 : Nat) : Int)).so ≠ [])->r<=(itW cs w vars r).list.length
 | 0,_ => Nat.zero_le _
 | r + 1, h => by
   have ih:=itW_long hg hb r fun k hk => h k (by omega)
   have:=List.length_pos_iff.2 (h r (by omega))
   rw [itW,roundI]
   simp only [List.length_append]
   omega
theorem itW_le (hg : ∀ c ∈ cs,G6 c) (hb : ∀ c ∈ cs,Below vars c) {r : Nat} (h : ∀ k,k < r->(fndR (itW cs w vars k) w vars ((k + 1 : Nat) : Int)).so ≠ []) : r<=4096 :=
 Nat.le_trans (itW_long hg hb r h) (itW_inv (w:=w) hg hb r).ok.len
theorem FinW.clo {W : Wrk} {r : Nat} (h : FinW cs w vars W r) (c : List Int) : c ∈ W.list↔CloS cs w c:=by
 rw [h.inv.mem]
 constructor
 . intro hc
   obtain ⟨k,_,hk⟩:=cl_new hc
   exact ⟨k,hk⟩
 . rintro ⟨k,hk⟩
   by_cases hkr : k<=r
   . exact cl_mono hkr (new_cl hk)
   . exact absurd hk (new_stop h.stop k c (by omega))
end
end Abs.Y
