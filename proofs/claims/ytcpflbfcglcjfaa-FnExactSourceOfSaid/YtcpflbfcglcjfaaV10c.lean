/- What functions of this program compute, over plain data. No condition. -/
import Derived.Test.YtcpflbfcglcjfaaM1
import Derived.Test.YtcpflbfcglcjfaaU16
set_option linter.all false
namespace Abs
open Go Go.RowKit
@[go_sem] theorem runH_lookup (P : Program) (N : Nat) (l : List Oper) (dst : Option Nat) (r : List Oper) (K : St->Prop) (st : St) (t m x co) : runH P N l dst (.lookup t m x co) r K st=onV (qv P st (.lookup t m x co)) (kHd P N l r dst K st):=runH_q P N l dst r K st rfl (by simp)
theorem retM_of2 {P : Program} {t : Nat} {u : Nat->Value} {st : St} {o0 o1 : AO} (i0 i1 : Nat) (hne : i0 ≠ i1) (h : lk t st.s=some (.sl i0)) (h0 : lk i0 st.o=some o0) (hr0 : ∀ f,o0.ren f=o0) (h1 : lk i1 st.o=some o1) (hr1 : ∀ f,o1.ren f=o1) : retM P [.tmp t] u [] true (.sl 0) [(0,o0),(1,o1)] .ret st:=by
 simp only [retM,resV,h]
 refine ⟨trivial,⟨nth [i0,i1],rfl,?_,?_,trivial⟩,.inl trivial⟩
 . intro p hp
   simp only [List.mem_cons,List.not_mem_nil,or_false] at hp
   rcases hp with rfl | rfl
   . rw [hr0]; exact h0
   . rw [hr1]; exact h1
 . intro p hp q hq e
   simp only [List.mem_cons,List.not_mem_nil,or_false] at hp hq
   rcases hp with rfl | rfl<;>rcases hq with rfl | rfl
   . rfl
   . exact absurd e hne
   . exact absurd e.symm hne
   . rfl
end Abs
namespace Abs.Y
open Go Go.Proofs Abs
open Nat renaming reduceEqDiff -> Qa, reduceLT -> Qb, reduceAdd -> Qc, reduceMul -> Qd, reduceSub -> Qe, reduceLeDiff -> Qf, reduceSubDiff -> Qg, reduceBEq -> Qh
open Bool renaming not_eq_true' -> Ba, not_eq_false' -> Bb, and_eq_true -> Bc, or_eq_true -> Bd, or_eq_false_iff -> Be
open Int renaming ofNat_lt -> Ia, ofNat_le -> Ib, not_lt -> Ic, not_le -> Ie
open Decidable renaming not_not -> Da
set_option maxRecDepth 100000

def rdOf (L : CT) (c : List Int) : Int:=(mpAt (mkN c : Int) (esO L)).getD 0
set_option maxHeartbeats 8000000 in
theorem clausesT_ok {L : CT} {last : Nat} (hg : ∀ p ∈ L,G6 p.1) (hll : L.length<=4096) : CtrR Try.prog 111 [.d (.ptr (D.clo L last))] [] [] true (fun r oo => ∃ ps qs : List Tg,qs.Perm ps∧qs.map (·.2)=sortC (keysC L)∧r=.sl 0∧oo=[(0,.arr 52 1 (qs.map D.tg)),(1,.res (ps.map resP))]):=by
 refine CtrR.ofO (n:=24) (rs:=[.tmp 2]) Try.func111 rfl rfl Try.ntmps111 rfl rfl (by kernel_rfl) Try.checked.mixed ?_; intro u
 refine Ok.seq (Ok.go ?_)
 simp (disch:=first | omega | decide +kernel) only [D.clo,go_sem,Qa,Qb,Qc,Qd,Qe,↓reduceIte,reduceCtorEq,Qf,Qg,Qh]
 (repeat' (first | ((first | (refine gsel_split (fun q' => ?_) (fun q' => ?_)<;>(have h':=q')<;>(try simp only [za1,za2,Ba,Bb,za3,ne_eq,za4,za5,za6,Ia,Ib,Ic,Ie,Da,Bc,Bd,Be,za7,za8] at h')) | (have q':=trivial; first | refine hE _ _ ret_ne ?_ | refine hE _ _ exit_ne ?_))<;>(try simp (disch:=first | omega | decide +kernel) only [q',go_sem,Qa,Qb,Qc,Qd,Qe,↓reduceIte,reduceCtorEq,Qf,Qg,Qh])<;>clear q') | refine hN _ ?_ ?_ Wk.kk | with_reducible refine And.intro ?_ ?_ | with_reducible omega | exact ok_ints | exact cells_ints | exact no_mem | with_reducible exact plain_ints | (refine le_maxLen ?_; omega) | (refine za9 ⟨?_,?_⟩) | (simp only [go_sem,Qc,Qb,zb1,zb2,forall_eq]; done)))
 refine Ok.seq (Ok.go ?_)
 simp (disch:=first | omega | decide +kernel) only [D.clo,go_sem,Qa,Qb,Qc,Qd,Qe,↓reduceIte,reduceCtorEq,Qf,Qg,Qh]
 (repeat' (first | ((first | (refine gsel_split (fun q' => ?_) (fun q' => ?_)<;>(have h':=q')<;>(try simp only [za1,za2,Ba,Bb,za3,ne_eq,za4,za5,za6,Ia,Ib,Ic,Ie,Da,Bc,Bd,Be,za7,za8] at h')) | (have q':=trivial; first | refine hE _ _ ret_ne ?_ | refine hE _ _ exit_ne ?_))<;>(try simp (disch:=first | omega | decide +kernel) only [q',go_sem,Qa,Qb,Qc,Qd,Qe,↓reduceIte,reduceCtorEq,Qf,Qg,Qh])<;>clear q') | refine hN _ ?_ ?_ Wk.kk | with_reducible refine And.intro ?_ ?_ | with_reducible omega | exact ok_ints | exact cells_ints | exact no_mem | with_reducible exact plain_ints | (refine le_maxLen ?_; omega) | (refine za9 ⟨?_,?_⟩) | (simp only [go_sem,Qc,Qb,zb1,zb2,forall_eq]; done)))
 refine Ok.seq (Ok.go ?_)
 simp (disch:=first | omega | decide +kernel) only [go_sem,Qa,Qb,Qc,Qd,Qe,↓reduceIte,reduceCtorEq,Qf,Qg,Qh]
 (repeat' (first | ((first | (refine gsel_split (fun q' => ?_) (fun q' => ?_)<;>(have h':=q')<;>(try simp only [za1,za2,Ba,Bb,za3,ne_eq,za4,za5,za6,Ia,Ib,Ic,Ie,Da,Bc,Bd,Be,za7,za8] at h')) | (have q':=trivial; first | refine hE _ _ ret_ne ?_ | refine hE _ _ exit_ne ?_))<;>(try simp (disch:=first | omega | decide +kernel) only [q',go_sem,Qa,Qb,Qc,Qd,Qe,↓reduceIte,reduceCtorEq,Qf,Qg,Qh])<;>clear q') | refine hN _ ?_ ?_ Wk.kk | with_reducible refine And.intro ?_ ?_ | with_reducible omega | exact ok_ints | exact cells_ints | exact no_mem | with_reducible exact plain_ints | (refine le_maxLen ?_; omega) | (refine za9 ⟨?_,?_⟩) | (simp only [go_sem,Qc,Qb,zb1,zb2,forall_eq]; done)))
 refine Ok.loopN [23,22,21,20,19,18,17,16,15,14,13,12,11,8,7,6,5,4,3,2,1] (fun i _ => [(11,.d (.int .i64 (i : Nat))),(3,.sl 3)]) (fun _ (p : List (List Int)) => [(3,.dp (some (52,1)) (p.map D.ints) none)]) L.length
  (fun i p => p=(keysC L).take i) [] (by simp) ((Wk.deep 3 rfl (by simp [flat])).trans (by refine Wk.auto ?_ ?_<;>simp [extraK,lk,killL,St.kill,wipeO,wipeS,AV.has,AV.hasL,AO.wipe,List.map_set,updSt,insL,dropS,ins,])) ?_
 rintro R i p hN hE hi hp
 have hkl : (keysC L).length=L.length:=by simp [keysC]
 have hel0:=esO_len L
 have hpl : p.length=i:=by rw [hp,List.length_take]; omega
 by_cases hlt : i < L.length
 . have gc:=hg _ (getD_memC hlt)
   have hel : el ((esO L).map fun p => D.int .u16 p.1) i=D.int .u16 (mkN (L.getD i zC).1):=by
    rw [show (esO L).map (fun p => D.int .u16 p.1)=L.map (fun p => D.mk (mkN p.1)) by simp [esO,Function.comp_def]]
    exact el_map (f:=fun p : List Int × Nat => D.mk (mkN p.1)) zC hlt
   have htk : (keysC L).take (i + 1)=p++[(L.getD i zC).1]:=by
    rw [take_succ [] _ i (by omega),← hp]
    congr 2
    simp [keysC,List.getD_eq_getElem?_getD,hlt]
   have gl:=g6_len gc
   generalize (L.getD i zC).1=c at *
   have c2:=mclauseD_ok gc
   simp (disch:=first | omega | decide +kernel) only [List.length_map,hel,go_sem,Qa,Qb,Qc,Qd,Qe,↓reduceIte,reduceCtorEq,Qf,Qg,Qh]
   (repeat' (first | ((first | (refine gsel_split (fun q' => ?_) (fun q' => ?_)<;>(have h':=q')<;>(try simp only [za1,za2,Ba,Bb,za3,ne_eq,za4,za5,za6,Ia,Ib,Ic,Ie,Da,Bc,Bd,Be,za7,za8] at h')) | (have q':=trivial; first | refine callX_new (c2) rfl (by decide) ?_ | refine callY_new (c2) rfl ?_ | refine hE _ _ ret_ne ?_ | refine hE _ _ exit_ne ?_))<;>(try simp (disch:=first | omega | decide +kernel) only [q',List.length_map,hel,go_sem,Qa,Qb,Qc,Qd,Qe,↓reduceIte,reduceCtorEq,Qf,Qg,Qh])<;>clear q') | refine hN _ ?_ ?_ Wk.kk | with_reducible refine And.intro ?_ ?_ | with_reducible omega | exact ok_ints | exact cells_ints | exact no_mem | with_reducible exact plain_ints | (refine le_maxLen ?_; omega) | (refine za9 ⟨?_,?_⟩) | (simp only [go_sem,Qc,Qb,zb1,zb2,forall_eq]; done)))
   all_goals (first | exact of_eq_true (bare_ints _) | omega | skip)
   refine hN (p++[c]) _ hlt htk.symm (by refine Wk.auto ?_ ?_<;>simp [extraK,lk,killL,St.kill,wipeO,wipeS,AV.has,AV.hasL,AO.wipe,List.map_set,updSt,insL,dropS,ins,D.ints])
 . obtain rfl : i=L.length:=by omega
   rw [← hkl,List.take_length] at hp
   subst hp
   simp (disch:=first | omega | decide +kernel) only [List.length_map,go_sem,Qa,Qb,Qc,Qd,Qe,↓reduceIte,reduceCtorEq,Qf,Qg,Qh]
   (repeat' (first | ((first | (refine gsel_split (fun q' => ?_) (fun q' => ?_)<;>(have h':=q')<;>(try simp only [za1,za2,Ba,Bb,za3,ne_eq,za4,za5,za6,Ia,Ib,Ic,Ie,Da,Bc,Bd,Be,za7,za8] at h')) | (have q':=trivial; first | refine hE _ _ ret_ne ?_ | refine hE _ _ exit_ne ?_))<;>(try simp (disch:=first | omega | decide +kernel) only [q',List.length_map,go_sem,Qa,Qb,Qc,Qd,Qe,↓reduceIte,reduceCtorEq,Qf,Qg,Qh])<;>clear q') | refine hN _ ?_ ?_ Wk.kk | with_reducible refine And.intro ?_ ?_ | with_reducible omega | exact ok_ints | exact cells_ints | exact no_mem | with_reducible exact plain_ints | (refine le_maxLen ?_; omega) | (refine za9 ⟨?_,?_⟩) | (simp only [go_sem,Qc,Qb,zb1,zb2,forall_eq]; done)))
   all_goals (try (exfalso; omega))
   clear hN hE
   refine Ok.tag1 3 900000001 (by decide) (cs:=keysC L) rfl fun ps hps => ?_
   have hg2 : ∀ p ∈ ps,G6 p.2:=fun p hp => by
    have : p.2 ∈ keysC L:=hps ▸ List.mem_map.2 ⟨p,hp,rfl⟩
    obtain ⟨q,hq,e⟩:=List.mem_map.1 this
    rw [← e]; exact hg q hq
   have hpl2 : ps.length<=4096:=by have:=congrArg List.length hps; simp only [List.length_map] at this; omega
   have c3:=sortT_ok ps (by omega) (fun p hp => by have:=g6_len (hg2 p hp); omega) fun p hp => g6_sm (hg2 p hp)
   obtain ⟨q1,q2⟩:=srtT_perm ps (Lib.bitLen ps.length) fun p hp => g6_sm (hg2 p hp)
   rw [hps] at q2
   generalize srtT ps (Lib.bitLen ps.length)=qs at *
   refine Ok.seq (Ok.go ?_)
   simp (disch:=first | omega | decide +kernel) only [go_sem,Qa,Qb,Qc,Qd,Qe,↓reduceIte,reduceCtorEq,Qf,Qg,Qh]
   refine callX_shareK 3 c3 ⟨.inl rfl,.inl rfl,trivial⟩ rfl (by simp [dstB]) ?_
   simp (disch:=first | omega | decide +kernel) only [go_sem,Qa,Qb,Qc,Qd,Qe,↓reduceIte,reduceCtorEq,Qf,Qg,Qh]
   have hq : (qs.map fun p : Tg => D.slice (p.2.map (.int .i64)))=(sortC (keysC L)).map D.ints:=by rw [← q2,List.map_map]; rfl
   refine Ok.go ?_
   simp (disch:=first | omega | decide +kernel) only [go_sem,Qa,Qb,Qc,Qd,Qe,↓reduceIte,reduceCtorEq,Qf,Qg,Qh]
   (repeat' (first | ((first | (refine gsel_split (fun q' => ?_) (fun q' => ?_)<;>(have h':=q')<;>(try simp only [za1,za2,Ba,Bb,za3,ne_eq,za4,za5,za6,Ia,Ib,Ic,Ie,Da,Bc,Bd,Be,za7,za8] at h')) | (have q':=trivial; first | refine hE _ _ ret_ne ?_ | refine hE _ _ exit_ne ?_))<;>(try simp (disch:=first | omega | decide +kernel) only [q',go_sem,Qa,Qb,Qc,Qd,Qe,↓reduceIte,reduceCtorEq,Qf,Qg,Qh])<;>clear q') | refine hN _ ?_ ?_ Wk.kk | with_reducible refine And.intro ?_ ?_ | with_reducible omega | exact ok_ints | exact cells_ints | exact no_mem | with_reducible exact plain_ints | (refine le_maxLen ?_; omega) | (refine za9 ⟨?_,?_⟩) | (simp only [go_sem,Qc,Qb,zb1,zb2,forall_eq]; done)))
   all_goals exact ⟨_,_,⟨ps,qs,q1,q2,rfl,rfl⟩,retM_of2 3 900000001 (by decide) rfl rfl (fun _ => rfl) rfl (fun _ => rfl)⟩
@[reducible] def D.rows (r : List (List Int)) : D:=.slice (r.map D.ints)
noncomputable def rndI (v : Int) (cs : List (List Int)) (w : Int) : List (List (List Int)):=if goodN v cs w then roundsV cs w.toNat else []
end Abs.Y
