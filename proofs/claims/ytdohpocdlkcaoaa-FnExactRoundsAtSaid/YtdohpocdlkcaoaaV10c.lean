/- What functions of this program compute, over plain data. No condition. -/
import Derived.Test.YtdohpocdlkcaoaaE11
import Derived.Test.YtdohpocdlkcaoaaU16
set_option linter.all false
namespace Abs
open Go Go.RowKit
@[go_sem] theorem runH_lookup (P : Program) (N : Nat) (l : List Oper) (dst : Option Nat) (r : List Oper) (K : St->Prop) (st : St) (t m x co) : runH P N l dst (.lookup t m x co) r K st=onV (qv P st (.lookup t m x co)) (kHd P N l r dst K st):=runH_q P N l dst r K st rfl (by simp)
theorem retM_of2 {P : Program} {t : Nat} {u : Nat->Value} {st : St} {o0 o1 : AO} (i0 i1 : Nat) (hne : i0 ≠ i1) (h : lk t st.s=some (.sl i0)) (h0 : lk i0 st.o=some o0) (hr0 : ∀ f,o0.ren f=o0) (h1 : lk i1 st.o=some o1) (hr1 : ∀ f,o1.ren f=o1) : retM P [.tmp t] u [] true (.sl 0) [(0,o0),(1,o1)] .ret st:=by
 simp only [retM,resV,h]
 refine ⟨trivial,⟨nth [i0,i1],rfl,?_,?_,trivial⟩,.inl trivial⟩
 . intro p hp
   simp only [List.mem_cons,List.not_mem_nil,or_false] at hp
   rcases hp with rfl | rfl
   . rw [hr0]; exact h0
   . rw [hr1]; exact h1
 . intro p hp q hq e
   simp only [List.mem_cons,List.not_mem_nil,or_false] at hp hq
   rcases hp with rfl | rfl<;>rcases hq with rfl | rfl
   . rfl
   . exact absurd e hne
   . exact absurd e.symm hne
   . rfl
end Abs
namespace Abs.Y
open Go Go.Proofs Abs
open Nat renaming reduceEqDiff -> Qa, reduceLT -> Qb, reduceAdd -> Qc, reduceMul -> Qd, reduceSub -> Qe, reduceLeDiff -> Qf, reduceSubDiff -> Qg, reduceBEq -> Qh
open Bool renaming not_eq_true' -> Ba, not_eq_false' -> Bb, and_eq_true -> Bc, or_eq_true -> Bd, or_eq_false_iff -> Be
open Int renaming ofNat_lt -> Ia, ofNat_le -> Ib, not_lt -> Ic, not_le -> Ie
open Decidable renaming not_not -> Da
set_option maxRecDepth 100000

def rdOf (L : CT) (c : List Int) : Int:=(mpAt (mkN c : Int) (esO L)).getD 0
theorem inRound1_ok (L : CT) (last : Nat) (c : List Int) (k : Int) (g : G6 c) : Ctr Try.prog 173 [.ints c,.ptr (.ptr (D.clo L last)),.ptr (.int .i64 k)] false (.d (.bool (rdOf L c != k))) []:=by
 have c1:=maskOf_ok g (by have:=g6_len g; omega)
 unfold rdOf
 refine Ctr.of (n:=14) (rs:=[.tmp 4]) Try.func173 rfl rfl Try.ntmps173 rfl rfl (by kernel_rfl) Try.checked.mixed ?_
 simp (disch:=first | omega | decide +kernel) only [D.ints,D.clo,mmt1,D.mk,go_sem,Qa,Qb,Qc,Qd,Qe,↓reduceIte,reduceCtorEq,Qf,Qg,Qh]
 (repeat' (first | ((first | (refine gsel_split (fun q' => ?_) (fun q' => ?_)<;>(have h':=q')<;>(try simp only [za1,za2,Ba,Bb,za3,ne_eq,za4,za5,za6,Ia,Ib,Ic,Ie,Da,Bc,Bd,Be,za7,za8] at h')) | (have q':=trivial; first | refine callX_new (c1) rfl (by decide) ?_ | refine callY_new (c1) rfl ?_ | refine hE _ _ ret_ne ?_ | refine hE _ _ exit_ne ?_))<;>(try simp (disch:=first | omega | decide +kernel) only [q',D.ints,D.clo,mmt1,D.mk,go_sem,Qa,Qb,Qc,Qd,Qe,↓reduceIte,reduceCtorEq,Qf,Qg,Qh])<;>clear q') | refine hN _ ?_ ?_ Wk.kk | with_reducible refine And.intro ?_ ?_ | with_reducible omega | exact ok_ints | exact cells_ints | exact no_mem | with_reducible exact plain_ints | (refine le_maxLen ?_; omega) | (refine za9 ⟨?_,?_⟩) | (simp only [go_sem,Qc,Qb,zb1,zb2,forall_eq]; done)))
 all_goals (first | rfl | skip)
set_option maxHeartbeats 8000000 in
theorem clausesT_ok {L : CT} {last : Nat} (hg : ∀ p ∈ L,G6 p.1) (hll : L.length<=4096) : CtrR Try.prog 172 [.d (.ptr (D.clo L last))] [] [] true (fun r oo => ∃ ps qs : List Tg,qs.Perm ps∧qs.map (·.2)=sortC (keysC L)∧r=.sl 0∧oo=[(0,.arr 38 1 (qs.map D.tg)),(1,.res (ps.map resP))]):=by
 refine CtrR.ofO (n:=24) (rs:=[.tmp 2]) Try.func172 rfl rfl Try.ntmps172 rfl rfl (by kernel_rfl) Try.checked.mixed ?_; intro u
 refine Ok.seq (Ok.go ?_)
 simp (disch:=first | omega | decide +kernel) only [D.clo,go_sem,Qa,Qb,Qc,Qd,Qe,↓reduceIte,reduceCtorEq,Qf,Qg,Qh]
 (repeat' (first | ((first | (refine gsel_split (fun q' => ?_) (fun q' => ?_)<;>(have h':=q')<;>(try simp only [za1,za2,Ba,Bb,za3,ne_eq,za4,za5,za6,Ia,Ib,Ic,Ie,Da,Bc,Bd,Be,za7,za8] at h')) | (have q':=trivial; first | refine hE _ _ ret_ne ?_ | refine hE _ _ exit_ne ?_))<;>(try simp (disch:=first | omega | decide +kernel) only [q',go_sem,Qa,Qb,Qc,Qd,Qe,↓reduceIte,reduceCtorEq,Qf,Qg,Qh])<;>clear q') | refine hN _ ?_ ?_ Wk.kk | with_reducible refine And.intro ?_ ?_ | with_reducible omega | exact ok_ints | exact cells_ints | exact no_mem | with_reducible exact plain_ints | (refine le_maxLen ?_; omega) | (refine za9 ⟨?_,?_⟩) | (simp only [go_sem,Qc,Qb,zb1,zb2,forall_eq]; done)))
 refine Ok.seq (Ok.go ?_)
 simp (disch:=first | omega | decide +kernel) only [D.clo,go_sem,Qa,Qb,Qc,Qd,Qe,↓reduceIte,reduceCtorEq,Qf,Qg,Qh]
 (repeat' (first | ((first | (refine gsel_split (fun q' => ?_) (fun q' => ?_)<;>(have h':=q')<;>(try simp only [za1,za2,Ba,Bb,za3,ne_eq,za4,za5,za6,Ia,Ib,Ic,Ie,Da,Bc,Bd,Be,za7,za8] at h')) | (have q':=trivial; first | refine hE _ _ ret_ne ?_ | refine hE _ _ exit_ne ?_))<;>(try simp (disch:=first | omega | decide +kernel) only [q',go_sem,Qa,Qb,Qc,Qd,Qe,↓reduceIte,reduceCtorEq,Qf,Qg,Qh])<;>clear q') | refine hN _ ?_ ?_ Wk.kk | with_reducible refine And.intro ?_ ?_ | with_reducible omega | exact ok_ints | exact cells_ints | exact no_mem | with_reducible exact plain_ints | (refine le_maxLen ?_; omega) | (refine za9 ⟨?_,?_⟩) | (simp only [go_sem,Qc,Qb,zb1,zb2,forall_eq]; done)))
 refine Ok.seq (Ok.go ?_)
 simp (disch:=first | omega | decide +kernel) only [go_sem,Qa,Qb,Qc,Qd,Qe,↓reduceIte,reduceCtorEq,Qf,Qg,Qh]
 (repeat' (first | ((first | (refine gsel_split (fun q' => ?_) (fun q' => ?_)<;>(have h':=q')<;>(try simp only [za1,za2,Ba,Bb,za3,ne_eq,za4,za5,za6,Ia,Ib,Ic,Ie,Da,Bc,Bd,Be,za7,za8] at h')) | (have q':=trivial; first | refine hE _ _ ret_ne ?_ | refine hE _ _ exit_ne ?_))<;>(try simp (disch:=first | omega | decide +kernel) only [q',go_sem,Qa,Qb,Qc,Qd,Qe,↓reduceIte,reduceCtorEq,Qf,Qg,Qh])<;>clear q') | refine hN _ ?_ ?_ Wk.kk | with_reducible refine And.intro ?_ ?_ | with_reducible omega | exact ok_ints | exact cells_ints | exact no_mem | with_reducible exact plain_ints | (refine le_maxLen ?_; omega) | (refine za9 ⟨?_,?_⟩) | (simp only [go_sem,Qc,Qb,zb1,zb2,forall_eq]; done)))
 refine Ok.loopN [23,22,21,20,19,18,17,16,15,14,13,12,11,8,7,6,5,4,3,2,1] (fun i _ => [(11,.d (.int .i64 (i : Nat))),(3,.sl 3)]) (fun _ (p : List (List Int)) => [(3,.dp (some (38,1)) (p.map D.ints) none)]) L.length
  (fun i p => p=(keysC L).take i) [] (by simp) ((Wk.deep 3 rfl (by simp [flat])).trans (by refine Wk.auto ?_ ?_<;>simp [extraK,lk,killL,St.kill,wipeO,wipeS,AV.has,AV.hasL,AO.wipe,List.map_set,updSt,insL,dropS,ins,])) ?_
 rintro R i p hN hE hi hp
 have hkl : (keysC L).length=L.length:=by simp [keysC]
 have hel0:=esO_len L
 have hpl : p.length=i:=by rw [hp,List.length_take]; omega
 by_cases hlt : i < L.length
 . have gc:=hg _ (getD_memC hlt)
   have hel : el ((esO L).map fun p => D.int .u16 p.1) i=D.int .u16 (mkN (L.getD i zC).1):=by
    rw [show (esO L).map (fun p => D.int .u16 p.1)=L.map (fun p => D.mk (mkN p.1)) by simp [esO,Function.comp_def]]
    exact el_map (f:=fun p : List Int × Nat => D.mk (mkN p.1)) zC hlt
   have htk : (keysC L).take (i + 1)=p++[(L.getD i zC).1]:=by
    rw [take_succ [] _ i (by omega),← hp]
    congr 2
    simp [keysC,List.getD_eq_getElem?_getD,hlt]
   have gl:=g6_len gc
   generalize (L.getD i zC).1=c at *
   have c2:=mclauseD_ok gc
   simp (disch:=first | omega | decide +kernel) only [List.length_map,hel,go_sem,Qa,Qb,Qc,Qd,Qe,↓reduceIte,reduceCtorEq,Qf,Qg,Qh]
   (repeat' (first | ((first | (refine gsel_split (fun q' => ?_) (fun q' => ?_)<;>(have h':=q')<;>(try simp only [za1,za2,Ba,Bb,za3,ne_eq,za4,za5,za6,Ia,Ib,Ic,Ie,Da,Bc,Bd,Be,za7,za8] at h')) | (have q':=trivial; first | refine callX_new (c2) rfl (by decide) ?_ | refine callY_new (c2) rfl ?_ | refine hE _ _ ret_ne ?_ | refine hE _ _ exit_ne ?_))<;>(try simp (disch:=first | omega | decide +kernel) only [q',List.length_map,hel,go_sem,Qa,Qb,Qc,Qd,Qe,↓reduceIte,reduceCtorEq,Qf,Qg,Qh])<;>clear q') | refine hN _ ?_ ?_ Wk.kk | with_reducible refine And.intro ?_ ?_ | with_reducible omega | exact ok_ints | exact cells_ints | exact no_mem | with_reducible exact plain_ints | (refine le_maxLen ?_; omega) | (refine za9 ⟨?_,?_⟩) | (simp only [go_sem,Qc,Qb,zb1,zb2,forall_eq]; done)))
   all_goals (first | exact of_eq_true (bare_ints _) | omega | skip)
   refine hN (p++[c]) _ hlt htk.symm (by refine Wk.auto ?_ ?_<;>simp [extraK,lk,killL,St.kill,wipeO,wipeS,AV.has,AV.hasL,AO.wipe,List.map_set,updSt,insL,dropS,ins,D.ints])
 . obtain rfl : i=L.length:=by omega
   rw [← hkl,List.take_length] at hp
   subst hp
   simp (disch:=first | omega | decide +kernel) only [List.length_map,go_sem,Qa,Qb,Qc,Qd,Qe,↓reduceIte,reduceCtorEq,Qf,Qg,Qh]
   (repeat' (first | ((first | (refine gsel_split (fun q' => ?_) (fun q' => ?_)<;>(have h':=q')<;>(try simp only [za1,za2,Ba,Bb,za3,ne_eq,za4,za5,za6,Ia,Ib,Ic,Ie,Da,Bc,Bd,Be,za7,za8] at h')) | (have q':=trivial; first | refine hE _ _ ret_ne ?_ | refine hE _ _ exit_ne ?_))<;>(try simp (disch:=first | omega | decide +kernel) only [q',List.length_map,go_sem,Qa,Qb,Qc,Qd,Qe,↓reduceIte,reduceCtorEq,Qf,Qg,Qh])<;>clear q') | refine hN _ ?_ ?_ Wk.kk | with_reducible refine And.intro ?_ ?_ | with_reducible omega | exact ok_ints | exact cells_ints | exact no_mem | with_reducible exact plain_ints | (refine le_maxLen ?_; omega) | (refine za9 ⟨?_,?_⟩) | (simp only [go_sem,Qc,Qb,zb1,zb2,forall_eq]; done)))
   all_goals (try (exfalso; omega))
   clear hN hE
   refine Ok.tag1 3 900000001 (by decide) (cs:=keysC L) rfl fun ps hps => ?_
   have hg2 : ∀ p ∈ ps,G6 p.2:=fun p hp => by
    have : p.2 ∈ keysC L:=hps ▸ List.mem_map.2 ⟨p,hp,rfl⟩
    obtain ⟨q,hq,e⟩:=List.mem_map.1 this
    rw [← e]; exact hg q hq
   have hpl2 : ps.length<=4096:=by have:=congrArg List.length hps; simp only [List.length_map] at this; omega
   have c3:=sortT_ok ps (by omega) (fun p hp => by have:=g6_len (hg2 p hp); omega) fun p hp => g6_sm (hg2 p hp)
   obtain ⟨q1,q2⟩:=srtT_perm ps (Lib.bitLen ps.length) fun p hp => g6_sm (hg2 p hp)
   rw [hps] at q2
   generalize srtT ps (Lib.bitLen ps.length)=qs at *
   refine Ok.seq (Ok.go ?_)
   simp (disch:=first | omega | decide +kernel) only [go_sem,Qa,Qb,Qc,Qd,Qe,↓reduceIte,reduceCtorEq,Qf,Qg,Qh]
   refine callX_shareK 3 c3 ⟨.inl rfl,.inl rfl,trivial⟩ rfl (by simp [dstB]) ?_
   simp (disch:=first | omega | decide +kernel) only [go_sem,Qa,Qb,Qc,Qd,Qe,↓reduceIte,reduceCtorEq,Qf,Qg,Qh]
   have hq : (qs.map fun p : Tg => D.slice (p.2.map (.int .i64)))=(sortC (keysC L)).map D.ints:=by rw [← q2,List.map_map]; rfl
   refine Ok.go ?_
   simp (disch:=first | omega | decide +kernel) only [go_sem,Qa,Qb,Qc,Qd,Qe,↓reduceIte,reduceCtorEq,Qf,Qg,Qh]
   (repeat' (first | ((first | (refine gsel_split (fun q' => ?_) (fun q' => ?_)<;>(have h':=q')<;>(try simp only [za1,za2,Ba,Bb,za3,ne_eq,za4,za5,za6,Ia,Ib,Ic,Ie,Da,Bc,Bd,Be,za7,za8] at h')) | (have q':=trivial; first | refine hE _ _ ret_ne ?_ | refine hE _ _ exit_ne ?_))<;>(try simp (disch:=first | omega | decide +kernel) only [q',go_sem,Qa,Qb,Qc,Qd,Qe,↓reduceIte,reduceCtorEq,Qf,Qg,Qh])<;>clear q') | refine hN _ ?_ ?_ Wk.kk | with_reducible refine And.intro ?_ ?_ | with_reducible omega | exact ok_ints | exact cells_ints | exact no_mem | with_reducible exact plain_ints | (refine le_maxLen ?_; omega) | (refine za9 ⟨?_,?_⟩) | (simp only [go_sem,Qc,Qb,zb1,zb2,forall_eq]; done)))
   all_goals exact ⟨_,_,⟨ps,qs,q1,q2,rfl,rfl⟩,retM_of2 3 900000001 (by decide) rfl rfl (fun _ => rfl) rfl (fun _ => rfl)⟩
theorem round_filter {cs : List (List Int)} {w : Nat} {L : CT} {last : Nat} (hg : ∀ c ∈ cs,G6 c) (hF : FinC cs w L last) (k : Nat) : (sortC (keysC L)).filter (fun c => !(rdOf L c != (k : Int)))=srtV (NewC cs w k):=by
 obtain ⟨h1,h2⟩:=hF.srt hg
 have hgL : ∀ p ∈ L,G6 p.1:=fun p hp => new_g6 hg ((hF.mem p.1 p.2).1 hp)
 refine (srtV_eq ⟨h1.1.filter _,fun x hx => h1.2 x (List.mem_filter.1 hx).1⟩ fun c => ?_).symm
 rw [List.mem_filter,h2]
 constructor
 . rintro ⟨⟨j,hj⟩,hr⟩
   have hm:=(hF.mem c j).2 hj
   have:=(mpAt_esO hgL (new_g6 hg hj) hF.nd).1 j hm
   rw [rdOf,this,Option.getD_some] at hr
   have e : (j : Int)=k:=by simpa using hr
   obtain rfl : j=k:=by omega
   exact hj
 . intro hk
   have hm:=(hF.mem c k).2 hk
   have:=(mpAt_esO hgL (new_g6 hg hk) hF.nd).1 k hm
   refine ⟨⟨k,hk⟩,?_⟩
   rw [rdOf,this,Option.getD_some]
   simp
set_option maxHeartbeats 8000000 in
theorem inRound_ok {cs : List (List Int)} {w : Nat} {L : CT} {last : Nat} (hg : ∀ c ∈ cs,G6 c) (hF : FinC cs w L last) (k : Nat) :
 Ctr Try.prog 81 [.ptr (D.clo L last),.int .i64 (k : Nat)] false (.sl 0) [(0,.dp (some (38,1)) ((srtV (NewC cs w k)).map D.ints) none)]:=by
 have hgL : ∀ p ∈ L,G6 p.1:=fun p hp => new_g6 hg ((hF.mem p.1 p.2).1 hp)
 have hll:=table_len hgL hF.nd
 have c1:=clausesT_ok (last:=last) hgL hll
 have hrf:=round_filter hg hF k
 rw [← hrf]
 clear hrf
 refine Ctr.ofK (n:=9) (rs:=[.tmp 4]) Try.func81 rfl rfl Try.ntmps81 rfl rfl (by kernel_rfl) Try.checked.mixed ?_
 refine Ok.endsW ?_
 refine Ok.seq (Ok.go ?_)
 simp (disch:=first | omega | decide +kernel) only [go_sem,Qa,Qb,Qc,Qd,Qe,↓reduceIte,reduceCtorEq,Qf,Qg,Qh]
 refine Ok.weak (Wk.bfz 2 (.ptr (D.clo L last)) rfl rfl) ?_
 simp (disch:=first | omega | decide +kernel) only [bfzS,bfzO,AV.bfz,AV.bfzL,AO.bfz,go_sem,Qa,Qb,Qc,Qd,Qe,↓reduceIte,reduceCtorEq,Qf,Qg,Qh]
 refine Ok.weak (Wk.bfz 3 (.int .i64 (k : Nat)) rfl rfl) ?_
 simp (disch:=first | omega | decide +kernel) only [bfzS,bfzO,AV.bfz,AV.bfzL,AO.bfz,go_sem,Qa,Qb,Qc,Qd,Qe,↓reduceIte,reduceCtorEq,Qf,Qg,Qh]
 refine Ok.go ?_
 simp (disch:=first | omega | decide +kernel) only [go_sem,Qa,Qb,Qc,Qd,Qe,↓reduceIte,reduceCtorEq,Qf,Qg,Qh]
 (repeat' (first | ((first | (refine gsel_split (fun q' => ?_) (fun q' => ?_)<;>(have h':=q')<;>(try simp only [za1,za2,Ba,Bb,za3,ne_eq,za4,za5,za6,Ia,Ib,Ic,Ie,Da,Bc,Bd,Be,za7,za8] at h')<;>try (exfalso; omega)) | (have q':=trivial; first | refine hE _ _ ret_ne ?_ | refine hE _ _ exit_ne ?_))<;>(try simp (disch:=first | omega | decide +kernel) only [q',go_sem,Qa,Qb,Qc,Qd,Qe,↓reduceIte,reduceCtorEq,Qf,Qg,Qh])<;>clear q') | refine hN _ ?_ ?_ Wk.kk | with_reducible refine And.intro ?_ ?_ | with_reducible omega | exact ok_ints | exact cells_ints | exact no_mem | with_reducible exact plain_ints | (refine le_maxLen ?_; omega) | (refine za9 ⟨?_,?_⟩) | (simp only [go_sem,Qc,Qb,zb1,zb2,forall_eq]; done)))
 refine callX_rel [] [700000,900000001] [700000,900000001] c1 ⟨.inl rfl,trivial⟩ trivial (by simp [namesI,keysO]) (by simp [dstB]) ?_
 rintro _ _ ⟨ps,qs,hq1,hq2,rfl,rfl⟩
 refine ⟨by simp [namesOK,keysO,nth],?_⟩
 have hpA : ∀ q ∈ qs,G6 q.2:=fun q hq => by
  have : q.2 ∈ sortC (keysC L):=hq2 ▸ List.mem_map.2 ⟨q,hq,rfl⟩
  obtain ⟨p,hp,e⟩:=List.mem_map.1 ((sortC_perm _).mem_iff.1 this)
  rw [← e]; exact hgL p hp
 have hql : qs.length<=4096:=by
  have:=congrArg List.length hq2
  rw [List.length_map,(sortC_perm _).length_eq,keysC,List.length_map] at this
  omega
 have c2:=deleteT2_ok qs 173 (.ptr (.ptr (D.clo L last))) (.ptr (.int .i64 (k : Nat))) (fun c => rdOf L c != (k : Int)) (by omega) fun q hq =>
  (inRound1_ok L last q.2 (k : Nat) (hpA q hq)).read rfl fun S w i v hi hr => by
   match i,hi with
   | 0,_ => have:=Rd.strip hr; rw [show [D.tg q,D.ptr (.ptr (D.clo L last)),.ptr (.int .i64 (k : Nat))].getD 0 .nilptr=D.tg q from rfl,strip_tg] at this; exact this
   | 1,_ => exact hr
   | 2,_ => exact hr
 simp (disch:=first | omega | decide +kernel) only [go_sem,Qa,Qb,Qc,Qd,Qe,↓reduceIte,reduceCtorEq,Qf,Qg,Qh]
 (repeat' (first | ((first | (refine gsel_split (fun q' => ?_) (fun q' => ?_)<;>(have h':=q')<;>(try simp only [za1,za2,Ba,Bb,za3,ne_eq,za4,za5,za6,Ia,Ib,Ic,Ie,Da,Bc,Bd,Be,za7,za8] at h')<;>try (exfalso; omega)) | (have q':=trivial; first | refine hE _ _ ret_ne ?_ | refine hE _ _ exit_ne ?_))<;>(try simp (disch:=first | omega | decide +kernel) only [q',go_sem,Qa,Qb,Qc,Qd,Qe,↓reduceIte,reduceCtorEq,Qf,Qg,Qh])<;>clear q') | refine hN _ ?_ ?_ Wk.kk | with_reducible refine And.intro ?_ ?_ | with_reducible omega | exact ok_ints | exact cells_ints | exact no_mem | with_reducible exact plain_ints | (refine le_maxLen ?_; omega) | (refine za9 ⟨?_,?_⟩) | (simp only [go_sem,Qc,Qb,zb1,zb2,forall_eq]; done)))
 refine callX_mut [700000] [900000] [700000,900000] c2 ⟨.inl rfl,.inl rfl,trivial⟩ ⟨rfl,trivial⟩ rfl (by simp [dstB]) ?_
 simp (disch:=first | omega | decide +kernel) only [go_sem,Qa,Qb,Qc,Qd,Qe,↓reduceIte,reduceCtorEq,Qf,Qg,Qh]
 (repeat' (first | ((first | (refine gsel_split (fun q' => ?_) (fun q' => ?_)<;>(have h':=q')<;>(try simp only [za1,za2,Ba,Bb,za3,ne_eq,za4,za5,za6,Ia,Ib,Ic,Ie,Da,Bc,Bd,Be,za7,za8] at h')<;>try (exfalso; omega)) | (have q':=trivial; first | refine hE _ _ ret_ne ?_ | refine hE _ _ exit_ne ?_))<;>(try simp (disch:=first | omega | decide +kernel) only [q',go_sem,Qa,Qb,Qc,Qd,Qe,↓reduceIte,reduceCtorEq,Qf,Qg,Qh])<;>clear q') | refine hN _ ?_ ?_ Wk.kk | with_reducible refine And.intro ?_ ?_ | with_reducible omega | exact ok_ints | exact cells_ints | exact no_mem | with_reducible exact plain_ints | (refine le_maxLen ?_; omega) | (refine za9 ⟨?_,?_⟩) | (simp only [go_sem,Qc,Qb,zb1,zb2,forall_eq]; done)))
 have hq : ((qs.filter fun q => !(rdOf L q.2 != (k : Int))).map fun p : Tg => D.slice (p.2.map (.int .i64)))=((sortC (keysC L)).filter fun c => !(rdOf L c != (k : Int))).map D.ints:=by
  rw [← hq2,List.filter_map,List.map_map]; rfl
 refine ⟨_,Wk.thaw1 (S':=[(4,.sl 900000)]) (O':=[(900000,.dp (some (38,1)) ((qs.filter fun q => !(rdOf L q.2 != (k : Int))).map fun p => .slice (p.2.map (.int .i64))) none)]) 900000 900000001 rfl rfl ⟨qs,hq1,List.filter_sublist⟩ ?_ ?_,?_⟩
 . intro p hp
   simp only [List.mem_cons,List.not_mem_nil,or_false] at hp
   subst hp
   exact ⟨rfl,trivial⟩
 . intro p hp
   simp only [List.mem_cons,List.not_mem_nil,or_false] at hp
   subst hp
   exact .inl ⟨rfl,rfl⟩
 . rw [hq]
   exact ret_dp 900000 rfl rfl
theorem new_len {cs : List (List Int)} {w k : Nat} (hg : ∀ c ∈ cs,G6 c) : (srtV (NewC cs w k)).length<=4096∧∀ c ∈ srtV (NewC cs w k),G6 c:=by
 unfold srtV
 split
 . rename_i h
   have hm : ∀ c ∈ h.choose,G6 c:=fun c hc => new_g6 hg ((h.choose_spec.2 c).1 hc)
   exact ⟨srt_len h.choose_spec.1 hm,hm⟩
 . exact ⟨by simp,fun c hc => nomatch hc⟩
theorem fin_last {cs : List (List Int)} {w : Nat} {L : CT} {last : Nat} (hF : FinC cs w L last) (hne : L ≠ []) : IsLast cs w last:=by
 obtain ⟨p,hp,e⟩:=hF.ex hne
 refine ⟨⟨p.1,(hF.mem p.1 last).1 (by rw [← e]; exact hp)⟩,fun c hc => ?_⟩
 have:=hF.le _ ((hF.mem c (last + 1)).2 hc)
 simp only at this
 omega
theorem last_lt {cs : List (List Int)} {w : Nat} {L : CT} {last : Nat} (hF : FinC cs w L last) (hne : L ≠ []) : last < L.length:=by
 have hL:=fin_last hF hne
 have hex : ∀ k,k<=last->∃ c,NewC cs w k c:=fun k hk => Classical.byContradiction fun h => by
  cases k with
  | zero =>
    obtain ⟨c,hc⟩:=hL.1
    exact new_none (fun c hc => h ⟨c,hc⟩) last c hc
  | succ r =>
    by_cases e : r + 1=last
    . subst e; exact h hL.1
    . obtain ⟨c,hc⟩:=hL.1
      exact new_stop (r:=r) (fun c hc => h ⟨c,hc⟩) last c (by omega) hc
 have:=nodup_sub ((List.range (last + 1)).map fun k : Nat => (k : Int)) (L.map fun p : List Int × Nat => (p.2 : Int)) (by
  rw [List.Nodup,List.pairwise_map]
  exact List.nodup_range.imp fun {a b} h e => h (by omega)) fun y hy => by
  obtain ⟨k,hk,rfl⟩:=List.mem_map.1 hy
  obtain ⟨c,hc⟩:=hex k (by have:=List.mem_range.1 hk; omega)
  exact List.mem_map.2 ⟨(c,k),(hF.mem c k).2 hc,rfl⟩
 simp only [List.length_map,List.length_range] at this
 omega
@[reducible] def D.rows (r : List (List Int)) : D:=.slice (r.map D.ints)
noncomputable def rndI (v : Int) (cs : List (List Int)) (w : Int) : List (List (List Int)):=if goodN v cs w then roundsV cs w.toNat else []
set_option maxHeartbeats 8000000 in
theorem implRounds_ok (v : Int) (cs : List (List Int)) (w : Int) (hl : cs.length<=1048576) (hc : ∀ j,(cs.getD j []).length<=1048576) :
 Ctr Try.prog 11 [.agg [.int .i64 v,.slice (cs.map D.ints)],.int .i64 w] false (.tup [.sl 0,.d (.bool (goodN v cs w))]) [(0,.dp (some (22,1)) ((rndI v cs w).map D.rows) none)]:=by
 have c1:=narrowOk_ok v cs w (by omega) fun j => by have:=hc j; omega
 unfold rndI
 cases h : goodN v cs w with
 | false =>
   rw [h] at c1
   rw [if_neg (by decide)]
   refine Ctr.ofK (n:=39) (rs:=[.tmp 4,.tmp 5]) Try.func11 rfl rfl Try.ntmps11 rfl rfl (by kernel_rfl) Try.checked.mixed ?_
   refine Ok.endsW ?_
   refine Ok.go ?_
   simp (disch:=first | omega | decide +kernel) only [List.map_nil,go_sem,Qa,Qb,Qc,Qd,Qe,↓reduceIte,reduceCtorEq,Qf,Qg,Qh]
   (repeat' (first | ((first | (refine gsel_split (fun q' => ?_) (fun q' => ?_)<;>(have h':=q')<;>(try simp only [za1,za2,Ba,Bb,za3,ne_eq,za4,za5,za6,Ia,Ib,Ic,Ie,Da,Bc,Bd,Be,za7,za8] at h')) | (have q':=trivial; first | refine callX_new (c1) rfl (by decide) ?_ | refine callY_new (c1) rfl ?_ | refine hE _ _ ret_ne ?_ | refine hE _ _ exit_ne ?_))<;>(try simp (disch:=first | omega | decide +kernel) only [q',List.map_nil,go_sem,Qa,Qb,Qc,Qd,Qe,↓reduceIte,reduceCtorEq,Qf,Qg,Qh])<;>clear q') | refine hN _ ?_ ?_ Wk.kk | with_reducible refine And.intro ?_ ?_ | with_reducible omega | exact ok_ints | exact cells_ints | exact no_mem | with_reducible exact plain_ints | (refine le_maxLen ?_; omega) | (refine za9 ⟨?_,?_⟩) | (simp only [go_sem,Qc,Qb,zb1,zb2,forall_eq]; done)))
   all_goals exact ⟨_,Wk.deep 4 rfl (by simp [flat]),ret_dpd 4 rfl rfl rfl rfl⟩
 | true =>
   rw [h] at c1
   rw [if_pos rfl]
   obtain ⟨g1,g2,g3,g4⟩:=good6 h
   obtain ⟨w,rfl⟩ : ∃ n : Nat,w=n:=⟨w.toNat,by omega⟩
   rw [Int.toNat_natCast]
   have c2:=closureOf_ok (vv:=v) g1 g2 (fun j => by
    by_cases hj : j < cs.length
    . have:=g6_len (g1 _ (getD_mem (z:=([] : List Int)) hj)); omega
    . rw [List.getD_eq_getElem?_getD,List.getElem?_eq_none (by omega)]; simp) (show w<=6 by omega)
   refine Ctr.ofK (n:=39) (rs:=[.tmp 4,.tmp 5]) Try.func11 rfl rfl Try.ntmps11 rfl rfl (by kernel_rfl) Try.checked.mixed ?_
   refine Ok.seq (Ok.go ?_)
   simp (disch:=first | omega | decide +kernel) only [go_sem,Qa,Qb,Qc,Qd,Qe,↓reduceIte,reduceCtorEq,Qf,Qg,Qh]
   refine Ok.seq (Ok.go ?_)
   simp (disch:=first | omega | decide +kernel) only [go_sem,Qa,Qb,Qc,Qd,Qe,↓reduceIte,reduceCtorEq,Qf,Qg,Qh]
   (repeat' (first | ((first | (refine gsel_split (fun q' => ?_) (fun q' => ?_)<;>(have h':=q')<;>(try simp only [za1,za2,Ba,Bb,za3,ne_eq,za4,za5,za6,Ia,Ib,Ic,Ie,Da,Bc,Bd,Be,za7,za8] at h')<;>try (exfalso; omega)) | (have q':=trivial; first | refine callX_new (c1) rfl (by decide) ?_ | refine callY_new (c1) rfl ?_ | refine hE _ _ ret_ne ?_ | refine hE _ _ exit_ne ?_))<;>(try simp (disch:=first | omega | decide +kernel) only [q',go_sem,Qa,Qb,Qc,Qd,Qe,↓reduceIte,reduceCtorEq,Qf,Qg,Qh])<;>clear q') | refine hN _ ?_ ?_ Wk.kk | with_reducible refine And.intro ?_ ?_ | with_reducible omega | exact ok_ints | exact cells_ints | exact no_mem | with_reducible exact plain_ints | (refine le_maxLen ?_; omega) | (refine za9 ⟨?_,?_⟩) | (simp only [go_sem,Qc,Qb,zb1,zb2,forall_eq]; done)))
   refine Ok.seq (Ok.go ?_)
   simp (disch:=first | omega | decide +kernel) only [go_sem,Qa,Qb,Qc,Qd,Qe,↓reduceIte,reduceCtorEq,Qf,Qg,Qh]
   (repeat' (first | ((first | (refine gsel_split (fun q' => ?_) (fun q' => ?_)<;>(have h':=q')<;>(try simp only [za1,za2,Ba,Bb,za3,ne_eq,za4,za5,za6,Ia,Ib,Ic,Ie,Da,Bc,Bd,Be,za7,za8] at h')<;>try (exfalso; omega)) | (have q':=trivial; first | refine hE _ _ ret_ne ?_ | refine hE _ _ exit_ne ?_))<;>(try simp (disch:=first | omega | decide +kernel) only [q',go_sem,Qa,Qb,Qc,Qd,Qe,↓reduceIte,reduceCtorEq,Qf,Qg,Qh])<;>clear q') | refine hN _ ?_ ?_ Wk.kk | with_reducible refine And.intro ?_ ?_ | with_reducible omega | exact ok_ints | exact cells_ints | exact no_mem | with_reducible exact plain_ints | (refine le_maxLen ?_; omega) | (refine za9 ⟨?_,?_⟩) | (simp only [go_sem,Qc,Qb,zb1,zb2,forall_eq]; done)))
   refine callX_rel [] [] [] c2 ⟨.inl rfl,.inl rfl,trivial⟩ trivial (by simp [namesI,keysO]) (by simp [dstB]) ?_
   rintro _ _ ⟨L,last,hF,rfl,rfl⟩
   refine ⟨by simp [namesOK,keysO],?_⟩
   simp (disch:=first | omega | decide +kernel) only [D.clo,go_sem,Qa,Qb,Qc,Qd,Qe,↓reduceIte,reduceCtorEq,Qf,Qg,Qh]
   refine Ok.seq (Ok.go ?_)
   simp (disch:=first | omega | decide +kernel) only [go_sem,Qa,Qb,Qc,Qd,Qe,↓reduceIte,reduceCtorEq,Qf,Qg,Qh]
   refine Ok.seq (Ok.seq (Ok.go ?_))
   simp (disch:=first | omega | decide +kernel) only [go_sem,Qa,Qb,Qc,Qd,Qe,↓reduceIte,reduceCtorEq,Qf,Qg,Qh]
   refine Ok.block ?_
   have hel0:=esO_len L
   by_cases hne : L=[]
   . subst hne
     have hn : ∀ c,¬ NewC cs w 0 c:=fun c hc => nomatch (hF.mem c 0).2 hc
     rw [roundsV_nil hn]
     refine Ok.loopNO [38,37,36,35,34,33,32,31,30,29,28,27,26,25,24,23,22,21,20,19,18,17,16,15,14,13,12,11,10,9,8,7,5,4,3,2,1,0] (fun i (_ : Unit) => [(8,.d (.int .i64 (i : Nat))),(7,.sl 7)]) (fun _ _ => [(7,.dp (some (22,1)) [] none)]) 0 (fun _ _ => True) () trivial ((Wk.deep 7 rfl (by simp [flat])).trans (by refine Wk.auto ?_ ?_<;>simp [extraK,lk,killL,St.kill,wipeO,wipeS,AV.has,AV.hasL,AO.wipe,List.map_set,updSt,insL,dropS,ins,])) ?_
     rintro R i _ hN hE hi _
     obtain rfl : i=0:=by omega
     clear hN
     refine Ok.go ?_
     simp (disch:=first | omega | decide +kernel) only [esO,List.map_nil,List.length_nil,go_sem,Qa,Qb,Qc,Qd,Qe,↓reduceIte,reduceCtorEq,Qf,Qg,Qh]
     (repeat' (first | ((first | (refine gsel_split (fun q' => ?_) (fun q' => ?_)<;>(have h':=q')<;>(try simp only [za1,za2,Ba,Bb,za3,ne_eq,za4,za5,za6,Ia,Ib,Ic,Ie,Da,Bc,Bd,Be,za7,za8] at h')<;>try (exfalso; omega)) | (have q':=trivial; first | refine hE _ _ ret_ne ?_ | refine hE _ _ exit_ne ?_))<;>(try simp (disch:=first | omega | decide +kernel) only [q',esO,List.map_nil,List.length_nil,go_sem,Qa,Qb,Qc,Qd,Qe,↓reduceIte,reduceCtorEq,Qf,Qg,Qh])<;>clear q') | refine hN _ ?_ ?_ Wk.kk | with_reducible refine And.intro ?_ ?_ | with_reducible omega | exact ok_ints | exact cells_ints | exact no_mem | with_reducible exact plain_ints | (refine le_maxLen ?_; omega) | (refine za9 ⟨?_,?_⟩) | (simp only [go_sem,Qc,Qb,zb1,zb2,forall_eq]; done)))
     refine Ok.go ?_
     simp (disch:=first | omega | decide +kernel) only [go_sem,Qa,Qb,Qc,Qd,Qe,↓reduceIte,reduceCtorEq,Qf,Qg,Qh]
     (repeat' (first | ((first | (refine gsel_split (fun q' => ?_) (fun q' => ?_)<;>(have h':=q')<;>(try simp only [za1,za2,Ba,Bb,za3,ne_eq,za4,za5,za6,Ia,Ib,Ic,Ie,Da,Bc,Bd,Be,za7,za8] at h')<;>try (exfalso; omega)) | (have q':=trivial; first | refine hE _ _ ret_ne ?_ | refine hE _ _ exit_ne ?_))<;>(try simp (disch:=first | omega | decide +kernel) only [q',go_sem,Qa,Qb,Qc,Qd,Qe,↓reduceIte,reduceCtorEq,Qf,Qg,Qh])<;>clear q') | refine hN _ ?_ ?_ Wk.kk | with_reducible refine And.intro ?_ ?_ | with_reducible omega | exact ok_ints | exact cells_ints | exact no_mem | with_reducible exact plain_ints | (refine le_maxLen ?_; omega) | (refine za9 ⟨?_,?_⟩) | (simp only [go_sem,Qc,Qb,zb1,zb2,forall_eq]; done)))
     all_goals exact ret_dpd 7 rfl rfl rfl rfl
   . have hL:=fin_last hF hne
     rw [roundsV_eq hL]
     have hpos:=List.length_pos_iff.2 hne
     have hgL : ∀ p ∈ L,G6 p.1:=fun p hp => new_g6 g1 ((hF.mem p.1 p.2).1 hp)
     have hll:=table_len hgL hF.nd
     have hlast:=last_lt hF hne
     refine Ok.loopNO [38,37,36,35,34,33,32,31,30,29,28,27,26,25,24,23,22,21,20,19,18,17,16,15,14,13,12,11,10,9,8,7,5,4,3,2,1,0] (fun i (_ : Unit) => [(8,.d (.int .i64 (i : Nat))),(7,.sl 7)]) (fun i _ => [(7,.dp (some (22,1)) (((List.range i).map fun k => srtV (NewC cs w k)).map D.rows) none)]) (last + 1) (fun _ _ => True) () trivial ((Wk.deep 7 rfl (by simp [flat])).trans (by refine Wk.auto ?_ ?_<;>simp [extraK,lk,killL,St.kill,wipeO,wipeS,AV.has,AV.hasL,AO.wipe,List.map_set,updSt,insL,dropS,ins,List.range_zero,List.map_nil])) ?_
     rintro R i _ hN hE hi _
     have hrl : ((List.range i).map fun k => srtV (NewC cs w k)).length=i:=by rw [List.length_map,List.length_range]
     by_cases hlt : i < last + 1
     . have c3:=inRound_ok g1 hF i
       have hsc : ((List.range (i + 1)).map fun k => srtV (NewC cs w k))=((List.range i).map fun k => srtV (NewC cs w k))++[srtV (NewC cs w i)]:=by rw [List.range_succ,List.map_append]; rfl
       unfold D.clo at c3
       generalize ((List.range i).map fun k => srtV (NewC cs w k))=rs at *
       generalize srtV (NewC cs w i)=ri at *
       refine Ok.seq (Ok.go ?_)
       simp (disch:=first | omega | decide +kernel) only [List.length_map,hel0,go_sem,Qa,Qb,Qc,Qd,Qe,↓reduceIte,reduceCtorEq,Qf,Qg,Qh]
       (repeat' (first | ((first | (refine gsel_split (fun q' => ?_) (fun q' => ?_)<;>(have h':=q')<;>(try simp only [za1,za2,Ba,Bb,za3,ne_eq,za4,za5,za6,Ia,Ib,Ic,Ie,Da,Bc,Bd,Be,za7,za8] at h')<;>try (exfalso; omega)) | (have q':=trivial; first | refine hE _ _ ret_ne ?_ | refine hE _ _ exit_ne ?_))<;>(try simp (disch:=first | omega | decide +kernel) only [q',List.length_map,hel0,go_sem,Qa,Qb,Qc,Qd,Qe,↓reduceIte,reduceCtorEq,Qf,Qg,Qh])<;>clear q') | refine hN _ ?_ ?_ Wk.kk | with_reducible refine And.intro ?_ ?_ | with_reducible omega | exact ok_ints | exact cells_ints | exact no_mem | with_reducible exact plain_ints | (refine le_maxLen ?_; omega) | (refine za9 ⟨?_,?_⟩) | (simp only [go_sem,Qc,Qb,zb1,zb2,forall_eq]; done)))
       refine Ok.seq (Ok.block (Ok.go ?_))
       simp (disch:=first | omega | decide +kernel) only [List.length_map,go_sem,Qa,Qb,Qc,Qd,Qe,↓reduceIte,reduceCtorEq,Qf,Qg,Qh]
       (repeat' (first | ((first | (refine gsel_split (fun q' => ?_) (fun q' => ?_)<;>(have h':=q')<;>(try simp only [za1,za2,Ba,Bb,za3,ne_eq,za4,za5,za6,Ia,Ib,Ic,Ie,Da,Bc,Bd,Be,za7,za8] at h')<;>try (exfalso; omega)) | (have q':=trivial; first | refine callX_new (c3) rfl (by decide) ?_ | refine callY_new (c3) rfl ?_ | refine hE _ _ ret_ne ?_ | refine hE _ _ exit_ne ?_))<;>(try simp (disch:=first | omega | decide +kernel) only [q',List.length_map,go_sem,Qa,Qb,Qc,Qd,Qe,↓reduceIte,reduceCtorEq,Qf,Qg,Qh])<;>clear q') | refine hN _ ?_ ?_ Wk.kk | with_reducible refine And.intro ?_ ?_ | with_reducible omega | exact ok_ints | exact cells_ints | exact no_mem | with_reducible exact plain_ints | (refine le_maxLen ?_; omega) | (refine za9 ⟨?_,?_⟩) | (simp only [go_sem,Qc,Qb,zb1,zb2,forall_eq]; done)))
       refine Ok.go ?_
       simp (disch:=first | omega | decide +kernel) only [go_sem,Qa,Qb,Qc,Qd,Qe,↓reduceIte,reduceCtorEq,Qf,Qg,Qh]
       rw [show (i : Int) + 1=((i + 1 : Nat) : Int) by omega]
       refine hN () _ hlt trivial ?_
       rw [hsc]
       exact (by refine Wk.auto ?_ ?_<;>simp [extraK,lk,killL,St.kill,wipeO,wipeS,AV.has,AV.hasL,AO.wipe,List.map_set,updSt,insL,dropS,ins,D.rows,List.map_append,List.map_cons,List.map_nil])
     . obtain rfl : i=last + 1:=by omega
       clear hN
       refine Ok.go ?_
       simp (disch:=first | omega | decide +kernel) only [List.length_map,hel0,go_sem,Qa,Qb,Qc,Qd,Qe,↓reduceIte,reduceCtorEq,Qf,Qg,Qh]
       (repeat' (first | ((first | (refine gsel_split (fun q' => ?_) (fun q' => ?_)<;>(have h':=q')<;>(try simp only [za1,za2,Ba,Bb,za3,ne_eq,za4,za5,za6,Ia,Ib,Ic,Ie,Da,Bc,Bd,Be,za7,za8] at h')<;>try (exfalso; omega)) | (have q':=trivial; first | refine hE _ _ ret_ne ?_ | refine hE _ _ exit_ne ?_))<;>(try simp (disch:=first | omega | decide +kernel) only [q',List.length_map,hel0,go_sem,Qa,Qb,Qc,Qd,Qe,↓reduceIte,reduceCtorEq,Qf,Qg,Qh])<;>clear q') | refine hN _ ?_ ?_ Wk.kk | with_reducible refine And.intro ?_ ?_ | with_reducible omega | exact ok_ints | exact cells_ints | exact no_mem | with_reducible exact plain_ints | (refine le_maxLen ?_; omega) | (refine za9 ⟨?_,?_⟩) | (simp only [go_sem,Qc,Qb,zb1,zb2,forall_eq]; done)))
       refine Ok.go ?_
       simp (disch:=first | omega | decide +kernel) only [go_sem,Qa,Qb,Qc,Qd,Qe,↓reduceIte,reduceCtorEq,Qf,Qg,Qh]
       (repeat' (first | ((first | (refine gsel_split (fun q' => ?_) (fun q' => ?_)<;>(have h':=q')<;>(try simp only [za1,za2,Ba,Bb,za3,ne_eq,za4,za5,za6,Ia,Ib,Ic,Ie,Da,Bc,Bd,Be,za7,za8] at h')<;>try (exfalso; omega)) | (have q':=trivial; first | refine hE _ _ ret_ne ?_ | refine hE _ _ exit_ne ?_))<;>(try simp (disch:=first | omega | decide +kernel) only [q',go_sem,Qa,Qb,Qc,Qd,Qe,↓reduceIte,reduceCtorEq,Qf,Qg,Qh])<;>clear q') | refine hN _ ?_ ?_ Wk.kk | with_reducible refine And.intro ?_ ?_ | with_reducible omega | exact ok_ints | exact cells_ints | exact no_mem | with_reducible exact plain_ints | (refine le_maxLen ?_; omega) | (refine za9 ⟨?_,?_⟩) | (simp only [go_sem,Qc,Qb,zb1,zb2,forall_eq]; done)))
       all_goals exact ret_dpd 7 rfl rfl rfl rfl
end Abs.Y
