/- What functions of this program compute, over plain data. No condition. -/
import Derived.Test.YtckigpgkmdhfoaaCP5
import Derived.Test.YtckigpgkmdhfoaaFR2
import Derived.Test.YtckigpgkmdhfoaaW9
import Derived.Test.YtckigpgkmdhfoaaR6
import Derived.Test.YtckigpgkmdhfoaaG8
import Derived.Test.YtckigpgkmdhfoaaR1
set_option linter.all false
open Nat renaming reduceEqDiff -> Qa, reduceLT -> Qb, reduceAdd -> Qc, reduceMul -> Qd, reduceSub -> Qe, reduceLeDiff -> Qf, reduceSubDiff -> Qg, reduceBEq -> Qh
open Bool renaming not_eq_true' -> Ba, not_eq_false' -> Bb, and_eq_true -> Bc, or_eq_true -> Bh, or_eq_false_iff -> Be
open Int renaming ofNat_lt -> Ia, ofNat_le -> Ib, not_lt -> Ic, not_le -> Ie
open Decidable renaming not_not -> Da
namespace Abs.Y
open Go Go.Proofs Abs
set_option maxRecDepth 100000

def svI (a : List (Int × Int)) (x : Nat) : Int:=a.foldl (fun s (t : Int × Int) => s + if t.1.toNat &&& x=t.1.toNat then t.2 else 0) 0
theorem sv_ev {p : Int} {n : Nat} {a : List (Int × Int)} (h : isT p n a=true) (x : Nat) : svI a x % p=ev p (dnT n a) x:=by
 have h1:=sp_dn h
 have h2:=fold_sp (fun _ => True) (fun (s : Int) m c => s + if m &&& x=m then c else 0) (dnT n a) (fun _ _ _ _ => trivial) (fun s m _ => by simp) (List.range (dnT n a).length) 0 trivial
 have h3 : svI (spT (dnT n a)) x=evS (dnT n a) x:=h2
 rw [h1] at h3
 unfold ev
 rw [h3]
theorem svI_bd {p : Int} {n : Nat} (hp : 1 < p∧p<=5) {a : List (Int × Int)} (h : Tms p n a) (x : Nat) (i : Nat) : 0<=svI (a.take i) x∧svI (a.take i) x<=5 * i:=by
 induction i with
 | zero => simp [svI]
 | succ i ih =>
   by_cases hi : i < a.length
   . have h1:=h _ (getD_mem (z:=((0 : Int),(0 : Int))) hi)
     have h2 : svI (a.take (i + 1)) x=svI (a.take i) x + if (a.getD i (0,0)).1.toNat &&& x=(a.getD i (0,0)).1.toNat then (a.getD i (0,0)).2 else 0:=by
      unfold svI; rw [take_succ (0,0) a i hi,List.foldl_append,List.foldl_cons,List.foldl_nil]
     rw [h2]
     split<;>omega
   . rw [List.take_of_length_le (by omega)] at ih ⊢
     omega
section
variable {p : Int} {u : Nat} (hp : 1 < p∧p<=5) (hu : u<=6)
include hp hu
set_option maxHeartbeats 4000000 in
theorem l18Value_ok {a : List (Int × Int)} (hl : a.length<=1000) (hT : isT p (2 ^ u) a=true) {x : Nat} (hx : x < 64) :
 Ctr Try.prog 77 [.int .i64 p,D.tms a,.int .i64 (x : Nat)] false (.d (.int .i64 (ev p (dnT (2 ^ u) a) x))) []:=by
 have h6:=pow_le6 hu
 have hms:=isT_tms hT
 rw [← sv_ev hT x]
 have hbd:=svI_bd hp hms x
 have hsu : ∀ i,i < a.length->svI (a.take (i + 1)) x=svI (a.take i) x + if (a.getD i (0,0)).1.toNat &&& x=(a.getD i (0,0)).1.toNat then (a.getD i (0,0)).2 else 0:=fun i hi => by
  unfold svI; rw [take_succ (0,0) a i hi,List.foldl_append,List.foldl_cons,List.foldl_nil]
 have hend : svI (a.take a.length) x=svI a x:=by rw [List.take_length]
 obtain ⟨S,hSd⟩ : ∃ S : Nat->Int,S=fun k => svI (a.take k) x:=⟨_,rfl⟩
 have hbd : ∀ i,0<=S i∧S i<=5 * i:=fun i => by rw [hSd]; exact hbd i
 have hsu : ∀ i,i < a.length->S (i + 1)=S i + if (a.getD i (0,0)).1.toNat &&& x=(a.getD i (0,0)).1.toNat then (a.getD i (0,0)).2 else 0:=fun i hi => by rw [hSd]; exact hsu i hi
 have hend : S a.length=svI a x:=by rw [hSd]; exact hend
 have h0 : S 0=0:=by rw [hSd]; rfl
 rw [← hend]
 clear hSd hend
 refine Ctr.of (n:=38) (rs:=[.tmp 6]) Try.func77 rfl rfl Try.ntmps77 rfl rfl (by kernel_rfl) Try.checked.mixed ?_
 simp (disch:=first | omega | decide +kernel) only [go_sem,Qa,Qb,Qc,Qd,Qe,↓reduceIte,reduceCtorEq,Qf,Qg,Qh]
 (repeat' (first | ((first | (refine gsel_split (fun q' => ?_) (fun q' => ?_)<;>(have h':=q')<;>(try simp only [za1,za2,Ba,Bb,za3,ne_eq,za4,za5,za6,Ia,Ib,Ic,Ie,Da,Bc,Bh,Be,za7,za8] at h')<;>try (exfalso; omega)) | (have q':=trivial; first | refine hE _ _ ret_ne ?_ | refine hE _ _ exit_ne ?_))<;>(try simp (disch:=first | omega | decide +kernel) only [q',go_sem,Qa,Qb,Qc,Qd,Qe,↓reduceIte,reduceCtorEq,Qf,Qg,Qh])<;>clear q') | refine hN _ ?_ ?_ Wk.kk | with_reducible refine And.intro ?_ ?_ | with_reducible omega | exact ok_ints | exact cells_ints | exact no_mem | with_reducible exact plain_ints | (refine le_maxLen ?_; omega) | (refine za9 ⟨?_,?_⟩) | (simp only [go_sem,Qc,Qb,zb1,zb2,forall_eq]; done)))
 refine Ok.loopN [37,36,35,34,33,32,31,30,29,28,27,26,25,24,23,22,21,20,19,18,17,16,15,14,13,12,11,10,9,8,7,5,4,3] (fun i (_ : Unit) => [(8,.d (.int .i64 (i : Nat))),(7,.d (.int .i64 (S i)))]) (fun _ _ => []) a.length (fun _ _ => True) () trivial (by refine Wk.auto ?_ ?_<;>simp [extraK,lk,killL,St.kill,wipeO,wipeS,AV.has,AV.hasL,AO.wipe,List.map_set,updSt,insL,dropS,ins,h0]) ?_
 rintro R i _ hN hE hi _
 have hSi:=hbd i
 by_cases hlt : i < a.length
 . have hei:=el_tm hlt
   obtain ⟨k,hk,e1,hc1,hc2⟩:=mem_tms hms hlt
   have hs:=hsu i hlt
   rw [e1,Int.toNat_natCast] at hs
   generalize (a.getD i (0,0)).2=c at *
   generalize (a.getD i (0,0)).1=m at *
   subst e1
   have hb:=bitV_and (a:=k) (b:=x) (by omega) (by omega)
   have hkl : k &&& x<=k:=Nat.and_le_left
   generalize S i=s at *
   generalize S (i + 1)=s' at *
   generalize k &&& x=y at *
   by_cases hy : y=k
   . have hbe : ((y : Int) == (k : Int))=true:=by simp [hy]
     rw [if_pos hy] at hs
     simp (disch:=first | omega | decide +kernel) only [hei,hb,hbe,go_sem,Qa,Qb,Qc,Qd,Qe,↓reduceIte,reduceCtorEq,Qf,Qg,Qh]
     (repeat' (first | ((first | (refine gsel_split (fun q' => ?_) (fun q' => ?_)<;>(have h':=q')<;>(try simp only [za1,za2,Ba,Bb,za3,ne_eq,za4,za5,za6,Ia,Ib,Ic,Ie,Da,Bc,Bh,Be,za7,za8] at h')<;>try (exfalso; omega)) | (have q':=trivial; first | refine hE _ _ ret_ne ?_ | refine hE _ _ exit_ne ?_))<;>(try simp (disch:=first | omega | decide +kernel) only [q',hei,hb,hbe,go_sem,Qa,Qb,Qc,Qd,Qe,↓reduceIte,reduceCtorEq,Qf,Qg,Qh])<;>clear q') | refine hN _ ?_ ?_ Wk.kk | with_reducible refine And.intro ?_ ?_ | with_reducible omega | exact ok_ints | exact cells_ints | exact no_mem | with_reducible exact plain_ints | (refine le_maxLen ?_; omega) | (refine za9 ⟨?_,?_⟩) | (simp only [go_sem,Qc,Qb,zb1,zb2,forall_eq]; done)))
     all_goals (first | omega | exact hN () _ hlt trivial (by refine Wk.auto ?_ ?_<;>simp [extraK,lk,killL,St.kill,wipeO,wipeS,AV.has,AV.hasL,AO.wipe,List.map_set,updSt,insL,dropS,ins,hs]))
   . have hbe : ((y : Int) == (k : Int))=false:=by simp; omega
     rw [if_neg hy,Int.add_zero] at hs
     simp (disch:=first | omega | decide +kernel) only [hei,hb,hbe,go_sem,Qa,Qb,Qc,Qd,Qe,↓reduceIte,reduceCtorEq,Qf,Qg,Qh]
     (repeat' (first | ((first | (refine gsel_split (fun q' => ?_) (fun q' => ?_)<;>(have h':=q')<;>(try simp only [za1,za2,Ba,Bb,za3,ne_eq,za4,za5,za6,Ia,Ib,Ic,Ie,Da,Bc,Bh,Be,za7,za8] at h')<;>try (exfalso; omega)) | (have q':=trivial; first | refine hE _ _ ret_ne ?_ | refine hE _ _ exit_ne ?_))<;>(try simp (disch:=first | omega | decide +kernel) only [q',hei,hb,hbe,go_sem,Qa,Qb,Qc,Qd,Qe,↓reduceIte,reduceCtorEq,Qf,Qg,Qh])<;>clear q') | refine hN _ ?_ ?_ Wk.kk | with_reducible refine And.intro ?_ ?_ | with_reducible omega | exact ok_ints | exact cells_ints | exact no_mem | with_reducible exact plain_ints | (refine le_maxLen ?_; omega) | (refine za9 ⟨?_,?_⟩) | (simp only [go_sem,Qc,Qb,zb1,zb2,forall_eq]; done)))
     all_goals (first | omega | exact hN () _ hlt trivial (by refine Wk.auto ?_ ?_<;>simp [extraK,lk,killL,St.kill,wipeO,wipeS,AV.has,AV.hasL,AO.wipe,List.map_set,updSt,insL,dropS,ins,hs]))
 . obtain rfl : i=a.length:=by omega
   have hm : (S a.length).tmod p=S a.length % p:=Int.tmod_eq_emod_of_nonneg hSi.1
   have hm2:=Int.emod_nonneg (S a.length) (b:=p) (by omega)
   have hm3:=Int.emod_lt_of_pos (S a.length) (b:=p) (by omega)
   simp (disch:=first | omega | decide +kernel) only [hm,go_sem,Qa,Qb,Qc,Qd,Qe,↓reduceIte,reduceCtorEq,Qf,Qg,Qh]
   (repeat' (first | ((first | (refine gsel_split (fun q' => ?_) (fun q' => ?_)<;>(have h':=q')<;>(try simp only [za1,za2,Ba,Bb,za3,ne_eq,za4,za5,za6,Ia,Ib,Ic,Ie,Da,Bc,Bh,Be,za7,za8] at h')<;>try (exfalso; omega)) | (have q':=trivial; first | refine hE _ _ ret_ne ?_ | refine hE _ _ exit_ne ?_))<;>(try simp (disch:=first | omega | decide +kernel) only [q',hm,go_sem,Qa,Qb,Qc,Qd,Qe,↓reduceIte,reduceCtorEq,Qf,Qg,Qh])<;>clear q') | refine hN _ ?_ ?_ Wk.kk | with_reducible refine And.intro ?_ ?_ | with_reducible omega | exact ok_ints | exact cells_ints | exact no_mem | with_reducible exact plain_ints | (refine le_maxLen ?_; omega) | (refine za9 ⟨?_,?_⟩) | (simp only [go_sem,Qc,Qb,zb1,zb2,forall_eq]; done)))
   all_goals (first | omega)
end
set_option maxHeartbeats 4000000 in
theorem l3Total_ok (u b : Nat) (hu : u<=60) (hb : b < 2 ^ 62) : Ctr Try.prog 76 [.int .i64 (u : Nat),.int .i64 (b : Nat)] false (.sl 0) [(0,.arr 3 1 ((totI b u).map (.int .i64)))]:=by
 refine Ctr.of (n:=29) (rs:=[.tmp 4]) Try.func76 rfl rfl Try.ntmps76 rfl rfl (by kernel_rfl) Try.checked.mixed ?_
 simp (disch:=first | omega | decide +kernel) only [go_sem,Qa,Qb,Qc,Qd,Qe,↓reduceIte,reduceCtorEq,Qf,Qg,Qh]
 (repeat' (first | ((first | (refine gsel_split (fun q' => ?_) (fun q' => ?_)<;>(have h':=q')<;>(try simp only [za1,za2,Ba,Bb,za3,ne_eq,za4,za5,za6,Ia,Ib,Ic,Ie,Da,Bc,Bh,Be,za7,za8] at h')<;>try (exfalso; omega)) | (have q':=trivial; first | refine hE _ _ ret_ne ?_ | refine hE _ _ exit_ne ?_))<;>(try simp (disch:=first | omega | decide +kernel) only [q',go_sem,Qa,Qb,Qc,Qd,Qe,↓reduceIte,reduceCtorEq,Qf,Qg,Qh])<;>clear q') | refine hN _ ?_ ?_ Wk.kk | with_reducible refine And.intro ?_ ?_ | with_reducible omega | exact ok_ints | exact cells_ints | exact no_mem | with_reducible exact plain_ints | (refine le_maxLen ?_; omega) | (refine za9 ⟨?_,?_⟩) | (simp only [go_sem,Qc,Qb,zb1,zb2,forall_eq]; done)))
 refine Ok.loopN [28,27,26,25,24,23,22,21,20,19,18,17,16,15,14,13,12,11,10,9,8,7,6,5,3,2] (fun i _ => [(6,.d (.int .i64 ((i + 1 : Nat) : Int))),(5,.sl 7)]) (fun _ (o : List Int) => [(7,.arr 3 1 (o.map (.int .i64)))]) u (fun i o => o=totI b i) [] rfl (Wk.kk) ?_
 rintro R i o hN hE hi ho
 have hol : o.length=i:=by rw [ho,totI_len]
 by_cases hlt : i < u
 . have hbt:=bit_of (b:=b) (k:=i) (by omega) (by omega)
   rw [show IntKind.bits .i64=64 from rfl] at hbt
   have ht : ((i + 1 : Nat) : Int) - 1=((i : Nat) : Int):=by omega
   have hsu : totI b (i + 1)=o++[if b.testBit i then ((i + 1 : Nat) : Int) else -((i + 1 : Nat) : Int)]:=by rw [totI,← ho]
   have h1 : bitI b i=if b.testBit i then 1 else 0:=rfl
   cases hbb : b.testBit i with
   | true =>
     rw [hbb,if_pos rfl] at h1
     rw [hbb,if_pos rfl] at hsu
     rw [h1] at hbt
     simp (disch:=first | omega | decide +kernel) only [ht,hbt,Int.toNat_natCast,go_sem,Qa,Qb,Qc,Qd,Qe,↓reduceIte,reduceCtorEq,Qf,Qg,Qh]
     (repeat' (first | ((first | (refine gsel_split (fun q' => ?_) (fun q' => ?_)<;>(have h':=q')<;>(try simp only [za1,za2,Ba,Bb,za3,ne_eq,za4,za5,za6,Ia,Ib,Ic,Ie,Da,Bc,Bh,Be,za7,za8] at h')<;>try (exfalso; omega)) | (have q':=trivial; first | refine hE _ _ ret_ne ?_ | refine hE _ _ exit_ne ?_))<;>(try simp (disch:=first | omega | decide +kernel) only [q',ht,hbt,Int.toNat_natCast,go_sem,Qa,Qb,Qc,Qd,Qe,↓reduceIte,reduceCtorEq,Qf,Qg,Qh])<;>clear q') | refine hN _ ?_ ?_ Wk.kk | with_reducible refine And.intro ?_ ?_ | with_reducible omega | exact ok_ints | exact cells_ints | exact no_mem | with_reducible exact plain_ints | (refine le_maxLen ?_; omega) | (refine za9 ⟨?_,?_⟩) | (simp only [go_sem,Qc,Qb,zb1,zb2,forall_eq]; done)))
     all_goals (first | omega | exact hN (o++[((i + 1 : Nat) : Int)]) _ hlt hsu.symm (by refine Wk.auto ?_ ?_<;>simp [extraK,lk,killL,St.kill,wipeO,wipeS,AV.has,AV.hasL,AO.wipe,List.map_set,updSt,insL,dropS,ins,List.map_append,List.map_cons,List.map_nil]))
   | false =>
     rw [hbb,if_neg (by decide)] at h1
     rw [hbb,if_neg (by decide),← Int.zero_sub] at hsu
     rw [h1] at hbt
     simp (disch:=first | omega | decide +kernel) only [ht,hbt,Int.toNat_natCast,go_sem,Qa,Qb,Qc,Qd,Qe,↓reduceIte,reduceCtorEq,Qf,Qg,Qh]
     (repeat' (first | ((first | (refine gsel_split (fun q' => ?_) (fun q' => ?_)<;>(have h':=q')<;>(try simp only [za1,za2,Ba,Bb,za3,ne_eq,za4,za5,za6,Ia,Ib,Ic,Ie,Da,Bc,Bh,Be,za7,za8] at h')<;>try (exfalso; omega)) | (have q':=trivial; first | refine hE _ _ ret_ne ?_ | refine hE _ _ exit_ne ?_))<;>(try simp (disch:=first | omega | decide +kernel) only [q',ht,hbt,Int.toNat_natCast,go_sem,Qa,Qb,Qc,Qd,Qe,↓reduceIte,reduceCtorEq,Qf,Qg,Qh])<;>clear q') | refine hN _ ?_ ?_ Wk.kk | with_reducible refine And.intro ?_ ?_ | with_reducible omega | exact ok_ints | exact cells_ints | exact no_mem | with_reducible exact plain_ints | (refine le_maxLen ?_; omega) | (refine za9 ⟨?_,?_⟩) | (simp only [go_sem,Qc,Qb,zb1,zb2,forall_eq]; done)))
     all_goals (first | omega | exact hN (o++[0 - ((i + 1 : Nat) : Int)]) _ hlt hsu.symm (by refine Wk.auto ?_ ?_<;>simp [extraK,lk,killL,St.kill,wipeO,wipeS,AV.has,AV.hasL,AO.wipe,List.map_set,updSt,insL,dropS,ins,List.map_append,List.map_cons,List.map_nil]))
 . obtain rfl : i=u:=by omega
   have hf : totI b i=o:=ho.symm
   simp (disch:=first | omega | decide +kernel) only [go_sem,Qa,Qb,Qc,Qd,Qe,↓reduceIte,reduceCtorEq,Qf,Qg,Qh]
   (repeat' (first | ((first | (refine gsel_split (fun q' => ?_) (fun q' => ?_)<;>(have h':=q')<;>(try simp only [za1,za2,Ba,Bb,za3,ne_eq,za4,za5,za6,Ia,Ib,Ic,Ie,Da,Bc,Bh,Be,za7,za8] at h')<;>try (exfalso; omega)) | (have q':=trivial; first | refine hE _ _ ret_ne ?_ | refine hE _ _ exit_ne ?_))<;>(try simp (disch:=first | omega | decide +kernel) only [q',go_sem,Qa,Qb,Qc,Qd,Qe,↓reduceIte,reduceCtorEq,Qf,Qg,Qh])<;>clear q') | refine hN _ ?_ ?_ Wk.kk | with_reducible refine And.intro ?_ ?_ | with_reducible omega | exact ok_ints | exact cells_ints | exact no_mem | with_reducible exact plain_ints | (refine le_maxLen ?_; omega) | (refine za9 ⟨?_,?_⟩) | (simp only [go_sem,Qc,Qb,zb1,zb2,forall_eq]; done)))
   all_goals (rw [hf]; first | exact ret_sl 7 rfl rfl plain_ints)
theorem mem_totI {x : Nat} {l : Int} : ∀ {u : Nat},l ∈ totI x u↔(l ≠ 0∧l.natAbs<=u)∧tlit x l=true
 | 0 => by simp [totI]
 | u + 1 => by
   rw [totI,List.mem_append,List.mem_singleton,mem_totI (u:=u)]
   unfold tlit
   constructor
   . rintro (⟨⟨h1,h2⟩,h3⟩ | h)
     . exact ⟨⟨h1,by omega⟩,h3⟩
     . split at h
       . rename_i hb
         subst h
         refine ⟨⟨by omega,by omega⟩,?_⟩
         rw [show ((u + 1 : Nat) : Int).natAbs - 1=u by omega,hb,decide_eq_true (by omega)]; rfl
       . rename_i hb
         subst h
         refine ⟨⟨by omega,by omega⟩,?_⟩
         rw [show (-((u + 1 : Nat) : Int)).natAbs - 1=u by omega,decide_eq_false (by omega)]
         simpa using hb
   . rintro ⟨⟨h1,h2⟩,h3⟩
     by_cases h : l.natAbs<=u
     . exact .inl ⟨⟨h1,h⟩,h3⟩
     . right
       rw [show l.natAbs - 1=u by omega] at h3
       by_cases hp : 0 < l
       . rw [decide_eq_true hp] at h3
         rw [if_pos (by simpa using h3)]; omega
       . rw [decide_eq_false hp] at h3
         rw [if_neg (by simpa using h3)]; omega
theorem cv_tot {x u : Nat} {c : List Int} (hc : ∀ l ∈ c,l ≠ 0∧l.natAbs<=u) : (cvI c (totI x u)=1)↔tcl x c=true:=by
 have h1 : (c.any fun l => (totI x u).any (· == l))=tcl x c:=by
  unfold tcl
  rw [Bool.eq_iff_iff,List.any_eq_true,List.any_eq_true]
  constructor
  . rintro ⟨l,hl,h⟩
    obtain ⟨l',h2,h3⟩:=List.any_eq_true.1 h
    rw [beq_iff_eq] at h3; subst h3
    exact ⟨l',hl,(mem_totI.1 h2).2⟩
  . rintro ⟨l,hl,h⟩
    exact ⟨l,hl,List.any_eq_true.2 ⟨l,mem_totI.2 ⟨hc l hl,h⟩,by simp⟩⟩
 unfold cvI
 rw [h1]
 by_cases h : tcl x c=true
 . rw [if_pos h]; simp [h]
 . rw [if_neg h]
   split<;>simp [h]
theorem mv_one (cs : List (List Int)) (a : List Int) : ∀ i,i<=cs.length->((mvI cs a i=1)↔∀ c ∈ cs.take i,cvI c a=1)
 | 0,_ => by simp [mvI]
 | i + 1, h => by
   have ih:=mv_one cs a i (by omega)
   have h1:=mvI_bd cs a i
   have h2:=cvI_bd (cs.getD i []) a
   rw [take_succ [] cs i (by omega),mvI]
   constructor
   . intro h3 c hc
     rcases List.mem_append.1 hc with hc | hc
     . exact ih.1 (by omega) c hc
     . rw [List.mem_singleton] at hc; subst hc; omega
   . intro h3
     have h4:=ih.2 fun c hc => h3 c (List.mem_append.2 (.inl hc))
     have h5:=h3 _ (List.mem_append.2 (.inr (List.mem_singleton.2 rfl)))
     omega
theorem mv_tot {x u : Nat} {cs : List (List Int)} (hc : ∀ c ∈ cs,∀ l ∈ c,l ≠ 0∧l.natAbs<=u) : (mvI cs (totI x u) cs.length=1)↔tmod cs x=true:=by
 rw [mv_one cs _ cs.length (Nat.le_refl _),List.take_length,tmod_iff]
 exact ⟨fun h c hcc => (cv_tot (hc c hcc)).1 (h c hcc),fun h c hcc => (cv_tot (hc c hcc)).2 (h c hcc)⟩
end Abs.Y

namespace Abs
open Go Go.Proofs
theorem retM_d3 {P t st x u o1 o2 o3} (h : lk t st.s=some (.d x)) (h1 : lk 0 st.o=some o1) (h2 : lk 1 st.o=some o2) (h3 : lk 2 st.o=some o3) (hk1 : lk 1000000000 st.s=some (.hdr 0 (u 0))) (hk2 : lk 1000000001 st.s=some (.hdr 1 (u 1))) (hk3 : lk 1000000002 st.s=some (.hdr 2 (u 2)))
 (hr1 : o1.ren (fun j => j)=o1) (hr2 : o2.ren (fun j => j)=o2) (hr3 : o3.ren (fun j => j)=o3) : retM P [.tmp t] u [0,1,2] true (.d x) [(0,o1),(1,o2),(2,o3)] .ret st:=by
 simp only [retM,resV,h]
 refine ⟨trivial,⟨fun j => j,rfl,?_,by simp,⟨rfl,hk1,rfl,hk2,rfl,hk3,trivial⟩⟩,.inl trivial⟩
 intro p hp
 simp only [List.mem_cons,List.not_mem_nil,or_false] at hp
 rcases hp with rfl | rfl | rfl
 . rw [hr1]; exact h1
 . rw [hr2]; exact h2
 . rw [hr3]; exact h3
theorem retM_u3 {P st u o1 o2 o3 e} (he : e=.ret∨e=.normal) (h1 : lk 0 st.o=some o1) (h2 : lk 1 st.o=some o2) (h3 : lk 2 st.o=some o3) (hk1 : lk 1000000000 st.s=some (.hdr 0 (u 0))) (hk2 : lk 1000000001 st.s=some (.hdr 1 (u 1))) (hk3 : lk 1000000002 st.s=some (.hdr 2 (u 2)))
 (hr1 : o1.ren (fun j => j)=o1) (hr2 : o2.ren (fun j => j)=o2) (hr3 : o3.ren (fun j => j)=o3) : retM P [] u [0,1,2] true (.tup []) [(2,o3),(1,o2),(0,o1)] e st:=by
 have key : PacksM st u [0,1,2] (oneOf []) (.tup []) [(2,o3),(1,o2),(0,o1)]:=by
  refine ⟨fun j => j,rfl,?_,by simp,⟨rfl,hk1,rfl,hk2,rfl,hk3,trivial⟩⟩
  intro p hp
  simp only [List.mem_cons,List.not_mem_nil,or_false] at hp
  rcases hp with rfl | rfl | rfl
  . rw [hr3]; exact h3
  . rw [hr2]; exact h2
  . rw [hr1]; exact h1
 rcases he with rfl | rfl
 . simp only [retM,resV]; exact ⟨trivial,key,.inl trivial⟩
 . simp only [retM,resV]; exact ⟨trivial,key,.inl trivial⟩
theorem lk_swpS_of {a b i : Nat} {v : AV} : ∀ {l : List (Nat × AV)},lk i l=some v->lk i (swpS a b l)=some (v.ren (swp a b))
 | (k, x) :: r, h => by
   simp only [lk] at h
   simp only [swpS,lk]
   by_cases e : i=k
   . subst e; rw [if_pos rfl] at h; cases h; rw [if_pos rfl]
   . rw [if_neg e] at h; rw [if_neg e]; exact lk_swpS_of h
end Abs
namespace Abs.Y
open Go Go.Proofs Abs
set_option maxRecDepth 100000

@[reducible] def rgB (p : Int) (u : Nat) : AO:=.box 84 [.d (.int .i64 p),.d (.int .i64 (u : Nat))]
@[reducible] def dnB (va vb : List Int) : AO:=.box 94 [.d (.slice [D.ints va,D.ints vb])]
@[reducible] def boB (b : Bool) : AO:=.box 4 [.d (.bool b)]
section
variable {p : Int} {u : Nat} (hp : 1 < p∧p<=5) (hu : u<=6)
include hp hu
theorem same1_ok {va vb : List Int} (ha : Vec p (2 ^ u) va) (hb : Vec p (2 ^ u) vb) {x : Nat} (hx : x < 64) (s0 : Bool) :
 CtrM Try.prog 75 [.d (.int .i64 (x : Nat)),.p 0 0,.p 1 0,.p 2 0] [(0,rgB p u),(1,dnB va vb),(2,boB s0)] [0,1,2] true (.d (.bool (ev p va x == ev p vb x))) [(0,rgB p u),(1,dnB va vb),(2,boB (ev p va x == ev p vb x))]:=by
 have c1:=value_ok hp hu ha hx
 have c2:=value_ok hp hu hb hx
 have h1 : el [D.slice (va.map (.int .i64)),D.slice (vb.map (.int .i64))] 0=.slice (va.map (.int .i64)):=rfl
 have h2 : el [D.slice (va.map (.int .i64)),D.slice (vb.map (.int .i64))] 1=.slice (vb.map (.int .i64)):=rfl
 have t0 : Int.toNat 0=0:=rfl
 have t1 : Int.toNat 1=1:=rfl
 simp only [D.ints,D.ring] at c1 c2
 generalize ev p va x=y at *
 generalize ev p vb x=z at *
 refine CtrM.of (n:=20) (rs:=[.tmp 5]) Try.func75 rfl rfl Try.ntmps75 rfl rfl (by kernel_rfl) Try.checked.mixed ?_; intro u
 simp (disch:=first | omega | decide +kernel) only [D.ints,h1,h2,t0,t1,setL,go_sem,Qa,Qb,Qc,Qd,Qe,↓reduceIte,reduceCtorEq,Qf,Qg,Qh]
 (repeat' (first | ((first | (refine gsel_split (fun q' => ?_) (fun q' => ?_)<;>(have h':=q')<;>(try simp only [za1,za2,Ba,Bb,za3,ne_eq,za4,za5,za6,Ia,Ib,Ic,Ie,Da,Bc,Bh,Be,za7,za8] at h')<;>try (exfalso; omega)) | (have q':=trivial; first | refine callX_new (c1) rfl (by decide) ?_ | refine callY_new (c1) rfl ?_ | refine callX_new (c2) rfl (by decide) ?_ | refine callY_new (c2) rfl ?_ | refine hE _ _ ret_ne ?_ | refine hE _ _ exit_ne ?_))<;>(try simp (disch:=first | omega | decide +kernel) only [q',D.ints,h1,h2,t0,t1,setL,go_sem,Qa,Qb,Qc,Qd,Qe,↓reduceIte,reduceCtorEq,Qf,Qg,Qh])<;>clear q') | refine hN _ ?_ ?_ Wk.kk | with_reducible refine And.intro ?_ ?_ | with_reducible omega | exact ok_ints | exact cells_ints | exact no_mem | with_reducible exact plain_ints | (refine le_maxLen ?_; omega) | (refine za9 ⟨?_,?_⟩) | (simp only [go_sem,Qc,Qb,zb1,zb2,forall_eq]; done)))
 all_goals (first | exact retM_d3 rfl rfl rfl rfl rfl rfl rfl rfl rfl rfl)
def smB (p : Int) (n : Nat) (cs : List (List Int)) (va vb : List Int) : Bool:=(List.range n).all fun x => !(tmod cs x) || (ev p va x == ev p vb x)
omit hp hu in
theorem smB_no {p : Int} {n : Nat} {cs : List (List Int)} {va vb : List Int} {i : Nat} (hi : i < n) (h : tmod cs i=true) (he : (ev p va i == ev p vb i)=false) : smB p n cs va vb=false:=by
 unfold smB
 rw [List.all_eq_false]
 exact ⟨i,List.mem_range.2 hi,by simp [h,he]⟩
omit hp hu in
theorem smB_yes {p : Int} {n : Nat} {cs : List (List Int)} {va vb : List Int} (h : ∀ j,j < n->tmod cs j=true->(ev p va j == ev p vb j)=true) : smB p n cs va vb=true:=by
 unfold smB
 rw [List.all_eq_true]
 intro x hx
 cases hm : tmod cs x
 . rfl
 . rw [h x (List.mem_range.1 hx) hm]; rfl
set_option maxHeartbeats 4000000 in
theorem modelsSame_ok {va vb : List Int} (ha : Vec p (2 ^ u) va) (hb : Vec p (2 ^ u) vb) (cs : List (List Int)) (hc : Cls cs) :
 CtrM Try.prog 74 [.d (.agg [.int .i64 (u : Nat),.slice (cs.map D.ints)]),.fn (.func 75) [.p 0 0,.p 1 0,.p 2 0]] [(2,boB true),(1,dnB va vb),(0,rgB p u)] [0,1,2] true (.tup [])
  [(2,boB (smB p (2 ^ u) cs va vb)),(1,dnB va vb),(0,rgB p u)]:=by
 have e : IntKind.wrap .i64 (1 * 2 ^ min u 64)=((2 ^ u : Nat) : Int):=shl_one (by omega)
 have h64:=pow_le6 hu
 have c2:=fun (x : Nat) hx => same1_ok hp hu ha hb (x:=x) hx true
 have hno:=fun (i : Nat) => smB_no (p:=p) (n:=2 ^ u) (cs:=cs) (va:=va) (vb:=vb) (i:=i)
 have hyes:=smB_yes (p:=p) (n:=2 ^ u) (cs:=cs) (va:=va) (vb:=vb)
 generalize smB p (2 ^ u) cs va vb=B at *
 clear ha hb
 generalize 2 ^ u=n at *
 have fin : ∀ (N : Nat) (st : St) (B : Bool) (U : Nat->Value) (en : Exit),(en=.ret∨en=.normal)->lk 0 st.o=some (rgB p u)->lk 1 st.o=some (dnB va vb)->lk 600000003 st.o=some (boB B)->lk 1000000000 st.s=some (.hdr 0 (U 0))->lk 1000000001 st.s=some (.hdr 1 (U 1))->lk 1000000002 st.s=some (.hdr 600000003 (U 2)) ->
  ∃ st',Wk N st st'∧retR Try.prog [] U [0,1,2] true (fun r oo => r=.tup []∧oo=[(2,boB B),(1,dnB va vb),(0,rgB p u)]) en st':=fun N st B U en he h1 h2 h3 k1 k2 k3 => by
  refine ⟨_,Wk.swp 2 600000003,_,_,⟨rfl,rfl⟩,retM_u3 he ?_ ?_ ?_ ?_ ?_ ?_ rfl rfl rfl⟩
  . have:=lk_swpO_of (a:=2) (b:=600000003) h1; exact this
  . have:=lk_swpO_of (a:=2) (b:=600000003) h2; exact this
  . have:=lk_swpO_of (a:=2) (b:=600000003) h3; exact this
  . have:=lk_swpS_of (a:=2) (b:=600000003) k1; exact this
  . have:=lk_swpS_of (a:=2) (b:=600000003) k2; exact this
  . have:=lk_swpS_of (a:=2) (b:=600000003) k3; exact this
 refine CtrR.eq ?_
 refine CtrR.ofO (n:=22) (rs:=[]) Try.func74 rfl rfl Try.ntmps74 rfl rfl (by kernel_rfl) Try.checked.mixed ?_; intro u
 refine Ok.endsW ?_
 refine Ok.weak (Wk.swp 2 600000003) ?_
 simp (disch:=first | omega | decide +kernel) only [swpS,swpO,swp,AV.ren,AV.renL,AO.ren,go_sem,Qa,Qb,Qc,Qd,Qe,↓reduceIte,reduceCtorEq,Qf,Qg,Qh]
 refine Ok.go ?_
 simp (disch:=first | omega | decide +kernel) only [e,go_sem,Qa,Qb,Qc,Qd,Qe,↓reduceIte,reduceCtorEq,Qf,Qg,Qh]
 (repeat' (first | ((first | (refine gsel_split (fun q' => ?_) (fun q' => ?_)<;>(have h':=q')<;>(try simp only [za1,za2,Ba,Bb,za3,ne_eq,za4,za5,za6,Ia,Ib,Ic,Ie,Da,Bc,Bh,Be,za7,za8] at h')<;>try (exfalso; omega)) | (have q':=trivial; first | refine hE _ _ ret_ne ?_ | refine hE _ _ exit_ne ?_))<;>(try simp (disch:=first | omega | decide +kernel) only [q',e,go_sem,Qa,Qb,Qc,Qd,Qe,↓reduceIte,reduceCtorEq,Qf,Qg,Qh])<;>clear q') | refine hN _ ?_ ?_ Wk.kk | with_reducible refine And.intro ?_ ?_ | with_reducible omega | exact ok_ints | exact cells_ints | exact no_mem | with_reducible exact plain_ints | (refine le_maxLen ?_; omega) | (refine za9 ⟨?_,?_⟩) | (simp only [go_sem,Qc,Qb,zb1,zb2,forall_eq]; done)))
 refine Ok.loopC [21,20,19,18,17,16,15,14,13,12,11,10,9,8,6,5,4,3,0] (fun i => [(8,.d (.int .i64 (i : Nat)))]) n (fun i => ∀ j,j < i->tmod cs j=true->(ev p va j == ev p vb j)=true) (fun j hj => absurd hj (by omega)) (Wk.kk) ?_
 intro R i hN1 hE hi hI
 by_cases hlt : i < n
 . have c1:=isModel_ok cs i hc (by omega)
   have c3:=c2 i (by omega)
   have hno:=hno i hlt
   have hI2 : (tmod cs i=true->(ev p va i == ev p vb i)=true)->∀ j,j < i + 1->tmod cs j=true->(ev p va j == ev p vb j)=true:=fun h j hj => by
    rcases (by omega : j < i∨j=i) with hj | rfl
    . exact hI j hj
    . exact h
   clear hyes c2 hI
   generalize (ev p va i == ev p vb i)=s at *
   cases hm : tmod cs i with
   | false =>
     rw [hm] at c1 hI2
     simp (disch:=first | omega | decide +kernel) only [go_sem,Qa,Qb,Qc,Qd,Qe,↓reduceIte,reduceCtorEq,Qf,Qg,Qh]
     (repeat' (first | ((first | (refine gsel_split (fun q' => ?_) (fun q' => ?_)<;>(have h':=q')<;>(try simp only [za1,za2,Ba,Bb,za3,ne_eq,za4,za5,za6,Ia,Ib,Ic,Ie,Da,Bc,Bh,Be,za7,za8] at h')<;>try (exfalso; omega)) | (have q':=trivial; first | refine callX_new (c1) rfl (by decide) ?_ | refine callY_new (c1) rfl ?_ | refine hE _ _ ret_ne ?_ | refine hE _ _ exit_ne ?_))<;>(try simp (disch:=first | omega | decide +kernel) only [q',go_sem,Qa,Qb,Qc,Qd,Qe,↓reduceIte,reduceCtorEq,Qf,Qg,Qh])<;>clear q') | refine hN _ ?_ ?_ Wk.kk | with_reducible refine And.intro ?_ ?_ | with_reducible omega | exact ok_ints | exact cells_ints | exact no_mem | with_reducible exact plain_ints | (refine le_maxLen ?_; omega) | (refine za9 ⟨?_,?_⟩) | (simp only [go_sem,Qc,Qb,zb1,zb2,forall_eq]; done)))
     refine hN1 _ hlt (hI2 fun h => (nomatch h)) (by refine Wk.auto ?_ ?_<;>simp [extraK,lk,killL,St.kill,wipeO,wipeS,AV.has,AV.hasL,AO.wipe,List.map_set,updSt,insL,dropS,ins,])
   | true =>
     rw [hm] at c1 hI2 hno
     cases s with
     | true =>
       simp (disch:=first | omega | decide +kernel) only [go_sem,Qa,Qb,Qc,Qd,Qe,↓reduceIte,reduceCtorEq,Qf,Qg,Qh]
       (repeat' (first | ((first | (refine gsel_split (fun q' => ?_) (fun q' => ?_)<;>(have h':=q')<;>(try simp only [za1,za2,Ba,Bb,za3,ne_eq,za4,za5,za6,Ia,Ib,Ic,Ie,Da,Bc,Bh,Be,za7,za8] at h')<;>try (exfalso; omega)) | (have q':=trivial; first | refine callX_new (c1) rfl (by decide) ?_ | refine callY_new (c1) rfl ?_ | refine callX_mut [0,1,600000003] [0,1,600000003] [] (c3) ⟨.inl rfl,.inl rfl,.inl rfl,.inl rfl,trivial⟩ ⟨rfl,rfl,rfl,trivial⟩ rfl (by simp [dstB]) ?_ | refine hE _ _ ret_ne ?_ | refine hE _ _ exit_ne ?_))<;>(try simp (disch:=first | omega | decide +kernel) only [q',go_sem,Qa,Qb,Qc,Qd,Qe,↓reduceIte,reduceCtorEq,Qf,Qg,Qh])<;>clear q') | refine hN _ ?_ ?_ Wk.kk | with_reducible refine And.intro ?_ ?_ | with_reducible omega | exact ok_ints | exact cells_ints | exact no_mem | with_reducible exact plain_ints | (refine le_maxLen ?_; omega) | (refine za9 ⟨?_,?_⟩) | (simp only [go_sem,Qc,Qb,zb1,zb2,forall_eq]; done)))
       refine hN1 _ hlt (hI2 fun h => rfl) (by refine Wk.auto ?_ ?_<;>simp [extraK,lk,killL,St.kill,wipeO,wipeS,AV.has,AV.hasL,AO.wipe,List.map_set,updSt,insL,dropS,ins,])
     | false =>
       have hB:=hno rfl rfl
       subst hB
       simp (disch:=first | omega | decide +kernel) only [go_sem,Qa,Qb,Qc,Qd,Qe,↓reduceIte,reduceCtorEq,Qf,Qg,Qh]
       (repeat' (first | ((first | (refine gsel_split (fun q' => ?_) (fun q' => ?_)<;>(have h':=q')<;>(try simp only [za1,za2,Ba,Bb,za3,ne_eq,za4,za5,za6,Ia,Ib,Ic,Ie,Da,Bc,Bh,Be,za7,za8] at h')<;>try (exfalso; omega)) | (have q':=trivial; first | refine callX_new (c1) rfl (by decide) ?_ | refine callY_new (c1) rfl ?_ | refine callX_mut [0,1,600000003] [0,1,600000003] [] (c3) ⟨.inl rfl,.inl rfl,.inl rfl,.inl rfl,trivial⟩ ⟨rfl,rfl,rfl,trivial⟩ rfl (by simp [dstB]) ?_ | refine hE _ _ ret_ne ?_ | refine hE _ _ exit_ne ?_))<;>(try simp (disch:=first | omega | decide +kernel) only [q',go_sem,Qa,Qb,Qc,Qd,Qe,↓reduceIte,reduceCtorEq,Qf,Qg,Qh])<;>clear q') | refine hN _ ?_ ?_ Wk.kk | with_reducible refine And.intro ?_ ?_ | with_reducible omega | exact ok_ints | exact cells_ints | exact no_mem | with_reducible exact plain_ints | (refine le_maxLen ?_; omega) | (refine za9 ⟨?_,?_⟩) | (simp only [go_sem,Qc,Qb,zb1,zb2,forall_eq]; done)))
       all_goals (first | exact fin _ _ _ _ _ (.inl rfl) rfl rfl rfl rfl rfl rfl)
 . obtain rfl : i=n:=by omega
   have hB:=hyes hI
   subst hB
   simp (disch:=first | omega | decide +kernel) only [go_sem,Qa,Qb,Qc,Qd,Qe,↓reduceIte,reduceCtorEq,Qf,Qg,Qh]
   (repeat' (first | ((first | (refine gsel_split (fun q' => ?_) (fun q' => ?_)<;>(have h':=q')<;>(try simp only [za1,za2,Ba,Bb,za3,ne_eq,za4,za5,za6,Ia,Ib,Ic,Ie,Da,Bc,Bh,Be,za7,za8] at h')<;>try (exfalso; omega)) | (have q':=trivial; first | refine hE _ _ ret_ne ?_ | refine hE _ _ exit_ne ?_))<;>(try simp (disch:=first | omega | decide +kernel) only [q',go_sem,Qa,Qb,Qc,Qd,Qe,↓reduceIte,reduceCtorEq,Qf,Qg,Qh])<;>clear q') | refine hN _ ?_ ?_ Wk.kk | with_reducible refine And.intro ?_ ?_ | with_reducible omega | exact ok_ints | exact cells_ints | exact no_mem | with_reducible exact plain_ints | (refine le_maxLen ?_; omega) | (refine za9 ⟨?_,?_⟩) | (simp only [go_sem,Qc,Qb,zb1,zb2,forall_eq]; done)))
   all_goals (first | exact fin _ _ _ _ _ (.inr rfl) rfl rfl rfl rfl rfl rfl)
end
end Abs.Y

namespace Abs.Y
open Go Go.Proofs Abs
set_option maxRecDepth 100000

def okCC (u : Int) (a b : List Int) : Bool:=okClause u a && okClause u b
def ccI (u : Int) (a b : List Int) : Int:=if okCC u a b then cmpCI a b else 0
def coB (u : Int) (l : List Int) : Bool:=(okVars u && decide (l.length<=30)) && l.all (okLit u)
def coI (u : Int) (l : List Int) : List Int:=if coB u l then optL (ofI l) else []
def coS (u : Int) (l : List Int) : Bool:=coB u l && (ofI l).isSome
end Abs.Y

namespace Abs.Y
open Go Go.Proofs Abs
set_option maxRecDepth 100000
set_option maxHeartbeats 1000000

@[reducible] def rowI (x : List Int) : AO:=.arr 3 1 (x.map (.int .i64))
@[reducible] def Q3 : AV->List (Nat × AO)->Prop:=fun r oo => ∃ (v : Int) (a b : List Int),r=.tup [.d (.int .i64 v),.sl 1,.sl 2]∧oo=[(1,rowI a),(2,rowI b)]∧-1<=v∧v<=13∧a.length<=1000∧b.length<=1000
end Abs.Y

namespace Abs.Y
open Go Go.Proofs Abs
set_option maxRecDepth 100000

theorem r_bytes {x : D} (h : isSl isU8 x) : ∃ code : List Int,x=D.bytes code∧∀ i,0<=code.getD i 0∧code.getD i 0 < 256:=by
 obtain ⟨es,rfl,_,hes⟩:=h
 have key : ∀ es : List D,(∀ e ∈ es,isU8 e)->∃ code : List Int,es=code.map (D.int .u8)∧∀ b ∈ code,0<=b∧b < 256:=by
  intro es
  induction es with
  | nil => exact fun _ => ⟨[],rfl,fun _ h => by cases h⟩
  | cons e r ih =>
    intro h
    obtain ⟨n,rfl,h1,h2⟩:=h e (by simp)
    obtain ⟨c,rfl,hc⟩:=ih fun x hx => h x (by simp [hx])
    exact ⟨n :: c,rfl,fun b hb => by
     rcases List.mem_cons.1 hb with rfl | hb
     . omega
     . exact hc b hb⟩
 obtain ⟨code,rfl,hc⟩:=key es hes
 refine ⟨code,rfl,fun i => ?_⟩
 by_cases hi : i < code.length
 . exact hc _ (getD_mem hi)
 . simp [List.getD_eq_getElem?_getD,List.getElem?_eq_none (show code.length<=i by omega)]
end Abs.Y

namespace Abs.Y
open Go Go.Proofs Abs
set_option maxRecDepth 100000

theorem vBig_ok (code : List Int) : Ctr Try.prog 6 [D.bytes code] false (.d (.bool (decide (65536 < code.length)))) []:=by
 refine Ctr.of (n:=6) (rs:=[.tmp 2]) Try.func6 rfl rfl Try.ntmps6 rfl rfl (by kernel_rfl) Try.checked.mixed ?_
 simp (disch:=first | omega | decide +kernel) only [D.bytes,go_sem,Qa,Qb,Qc,Qd,Qe,↓reduceIte,reduceCtorEq,Qf,Qg,Qh]
 (repeat' (first | ((first | (refine gsel_split (fun q' => ?_) (fun q' => ?_)<;>(have h':=q')<;>(try simp only [za1,za2,Ba,Bb,za3,ne_eq,za4,za5,za6,Ia,Ib,Ic,Ie,Da,Bc,Bh,Be,za7,za8] at h')) | (have q':=trivial; first | refine hE _ _ ret_ne ?_ | refine hE _ _ exit_ne ?_))<;>(try simp (disch:=first | omega | decide +kernel) only [q',D.bytes,go_sem,Qa,Qb,Qc,Qd,Qe,↓reduceIte,reduceCtorEq,Qf,Qg,Qh])<;>clear q') | refine hN _ ?_ ?_ Wk.kk | with_reducible refine And.intro ?_ ?_ | with_reducible omega | exact ok_ints | exact cells_ints | exact no_mem | with_reducible exact plain_ints | (refine le_maxLen ?_; omega) | (refine za9 ⟨?_,?_⟩) | (simp only [go_sem,Qc,Qb,zb1,zb2,forall_eq]; done)))
 congr 1
 exact decide_eq_decide.2 (by omega)
theorem okCnf_of {u : Int} {cs : List (List Int)} (hu : okVars u=true) (hl : cs.length<=60) (h : ∀ c ∈ cs,okClause u c=true) : okCnf u cs=true:=by
 simp only [okCnf,Bc,decide_eq_true_eq,List.all_eq_true]
 exact ⟨⟨hu,hl⟩,h⟩
end Abs.Y
