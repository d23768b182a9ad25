/- What functions of this program compute, over plain data. No condition. -/
import Derived.Test.YtcpflbfcglcjfaaV12c
set_option linter.all false
namespace Abs
open Go Go.RowKit
theorem retQ_s3 {P : Program} {t1 t2 t3 : Nat} {y : D} {e1 e0 : List D} {st : St} (h1 : lk t1 st.s=some (.sl 1)) (h2 : lk t2 st.s=some (.sl 0)) (h3 : lk t3 st.s=some (.d y)) (o1 : lk 1 st.o=some (.dp none e1 none)) (o0 : lk 0 st.o=some (.dp none e0 none)) (hy : y.plain=true) :
 retQ P [.tmp t1,.tmp t2,.tmp t3] false (.tup [.sl 1,.sl 0,.d y]) [(1,.dp none e1 none),(0,.dp none e0 none)] .ret st:=by
 refine .inl ?_
 simp only [retO,resV,h1,h2,h3]
 refine ⟨trivial,⟨fun j => j,rfl,?_,fun p _ q _ h => h⟩,.inr ⟨⟨trivial,trivial,hy,trivial⟩,trivial,trivial,trivial⟩⟩
 intro p hp
 simp only [List.mem_cons,List.not_mem_nil,or_false] at hp
 rcases hp with rfl | rfl
 . exact o1
 . exact o0
end Abs
namespace Abs.Y
open Go Go.Proofs Abs
open Nat renaming reduceEqDiff -> Qa, reduceLT -> Qb, reduceAdd -> Qc, reduceMul -> Qd, reduceSub -> Qe, reduceLeDiff -> Qf, reduceSubDiff -> Qg, reduceBEq -> Qh
open Bool renaming not_eq_true' -> Ba, not_eq_false' -> Bb, and_eq_true -> Bc, or_eq_true -> Bd, or_eq_false_iff -> Be
open Int renaming ofNat_lt -> Ia, ofNat_le -> Ib, not_lt -> Ic, not_le -> Ie
open Decidable renaming not_not -> Da
set_option maxRecDepth 100000

def outB (a b : List Int) : Nat:=outN (mkN a) (mkN b) (boN (mkN a) (mkN b))
def srcT (a b c : List Int) : Bool:=oneN (boN (mkN a) (mkN b)) && ((((mkN a &&& boN (mkN a) (mkN b) : Nat) : Int) != 0) && (((outB a b : Nat) : Int) == ((mkN c : Nat) : Int)))
theorem bit_and {m i : Nat} : (m &&& 2 ^ i) ≠ 0↔m.testBit i=true:=by
 constructor
 . intro h
   cases hb : m.testBit i with
   | true => rfl
   | false =>
     exfalso; apply h
     apply Nat.eq_of_testBit_eq
     intro j
     rw [Nat.testBit_and,Nat.testBit_two_pow,Nat.zero_testBit]
     by_cases e : i=j
     . subst e; rw [hb]; rfl
     . rw [decide_eq_false e,Bool.and_false]
 . intro h h0
   have:=congrArg (fun x => x.testBit i) h0
   simp only [Nat.testBit_and,Nat.testBit_two_pow_self,h,Nat.zero_testBit,Bool.and_self] at this
   cases this
theorem bit_pos {a : List Int} (ga : G6 a) {v : Int} (hv : 1<=v∧v<=6) : (mkN a).testBit (v - 1).toNat=true↔v ∈ a:=by
 have:=mkN_has ga (l:=v) (by omega) (by omega)
 rw [show bitOf v=(v - 1).toNat by unfold bitOf; rw [if_pos (by omega)]] at this
 exact this
theorem srcT_iff {a b c : List Int} (ga : G6 a) (gb : G6 b) (gc : G6 c) : srcT a b c=true↔∃ v,1<=v∧resolveI a b v=some c:=by
 unfold srcT outB
 simp only [Bc,bne_iff_ne,ne_eq,beq_iff_eq]
 constructor
 . rintro ⟨h1,h2,h3⟩
   obtain ⟨d,v,hv,h⟩:=(mask_res ga gb).1 h1
   have hbo:=mask_bo ga gb hv h
   have hout:=mask_out ga gb hv h
   have h2' : mkN a &&& boN (mkN a) (mkN b) ≠ 0:=by omega
   rw [hbo,bit_and] at h2'
   have gd : G6 d∧v<=6:=by
    rcases h with h | h
    . obtain ⟨q1,_,_,q2,_⟩:=resolveI_some ga gb hv h; exact ⟨q2,q1⟩
    . obtain ⟨q1,_,_,q2,_⟩:=resolveI_some gb ga hv h; exact ⟨q2,q1⟩
   have hva:=(bit_pos ga ⟨hv,gd.2⟩).1 h2'
   rw [hout] at h3
   have hd : d=c:=mkN_inj gd.1 gc (by omega)
   subst hd
   rcases h with h | h
   . exact ⟨v,hv,h⟩
   . obtain ⟨_,_,q3,_⟩:=resolveI_some gb ga hv h
     exact absurd q3 (good_neg ga.1 hva)
 . rintro ⟨v,hv,h⟩
   obtain ⟨q1,q2,q3,q4,_⟩:=resolveI_some ga gb hv h
   refine ⟨(mask_res ga gb).2 ⟨c,v,hv,.inl h⟩,?_,?_⟩
   . have hbo:=mask_bo ga gb hv (.inl h)
     have:=bit_and.2 ((bit_pos ga ⟨hv,q1⟩).2 q2)
     rw [← hbo] at this
     omega
   . rw [mask_out ga gb hv (.inl h)]
theorem cls_pow : ∀ i : Nat,i < 6->clsN (2 ^ i)=[(i : Int) + 1]:=by decide +kernel
theorem srcT_cls {a b c : List Int} (ga : G6 a) (gb : G6 b) {v : Int} (hv : 1<=v) (h : resolveI a b v=some c) : clsN (boN (mkN a) (mkN b))=[v]:=by
 obtain ⟨q1,_⟩:=resolveI_some ga gb hv h
 rw [mask_bo ga gb hv (.inl h),cls_pow _ (by omega)]
 congr 1; omega
def rndOf (L : CT) (c : List Int) : Int:=match mpAt (mkN c : Int) (esO L) with | some r => r | none => -1
theorem round_ok (L : CT) (last : Nat) (c : List Int) (g : G6 c) : Ctr Try.prog 118 [.ptr (D.clo L last),.ints c] false (.d (.int .i64 (rndOf L c))) []:=by
 have c1:=maskOf_ok g (by have:=g6_len g; omega)
 unfold rndOf
 cases hm : mpAt (mkN c : Int) (esO L) with
 | some r =>
   refine Ctr.of (n:=19) (rs:=[.tmp 4]) Try.func118 rfl rfl Try.ntmps118 rfl rfl (by kernel_rfl) Try.checked.mixed ?_
   simp (disch:=first | omega | decide +kernel) only [D.ints,D.clo,mmt1,D.mk,hm,go_sem,Qa,Qb,Qc,Qd,Qe,↓reduceIte,reduceCtorEq,Qf,Qg,Qh]
   (repeat' (first | ((first | (refine gsel_split (fun q' => ?_) (fun q' => ?_)<;>(have h':=q')<;>(try simp only [za1,za2,Ba,Bb,za3,ne_eq,za4,za5,za6,Ia,Ib,Ic,Ie,Da,Bc,Bd,Be,za7,za8] at h')) | (have q':=trivial; first | refine callX_new (c1) rfl (by decide) ?_ | refine callY_new (c1) rfl ?_ | refine hE _ _ ret_ne ?_ | refine hE _ _ exit_ne ?_))<;>(try simp (disch:=first | omega | decide +kernel) only [q',D.ints,D.clo,mmt1,D.mk,hm,go_sem,Qa,Qb,Qc,Qd,Qe,↓reduceIte,reduceCtorEq,Qf,Qg,Qh])<;>clear q') | refine hN _ ?_ ?_ Wk.kk | with_reducible refine And.intro ?_ ?_ | with_reducible omega | exact ok_ints | exact cells_ints | exact no_mem | with_reducible exact plain_ints | (refine le_maxLen ?_; omega) | (refine za9 ⟨?_,?_⟩) | (simp only [go_sem,Qc,Qb,zb1,zb2,forall_eq]; done)))
   all_goals (first | rfl | (exact absurd h' (by decide)))
 | none =>
   refine Ctr.of (n:=19) (rs:=[.tmp 4]) Try.func118 rfl rfl Try.ntmps118 rfl rfl (by kernel_rfl) Try.checked.mixed ?_
   simp (disch:=first | omega | decide +kernel) only [D.ints,D.clo,mmt1,D.mk,hm,go_sem,Qa,Qb,Qc,Qd,Qe,↓reduceIte,reduceCtorEq,Qf,Qg,Qh]
   (repeat' (first | ((first | (refine gsel_split (fun q' => ?_) (fun q' => ?_)<;>(have h':=q')<;>(try simp only [za1,za2,Ba,Bb,za3,ne_eq,za4,za5,za6,Ia,Ib,Ic,Ie,Da,Bc,Bd,Be,za7,za8] at h')) | (have q':=trivial; first | refine callX_new (c1) rfl (by decide) ?_ | refine callY_new (c1) rfl ?_ | refine hE _ _ ret_ne ?_ | refine hE _ _ exit_ne ?_))<;>(try simp (disch:=first | omega | decide +kernel) only [q',D.ints,D.clo,mmt1,D.mk,hm,go_sem,Qa,Qb,Qc,Qd,Qe,↓reduceIte,reduceCtorEq,Qf,Qg,Qh])<;>clear q') | refine hN _ ?_ ?_ Wk.kk | with_reducible refine And.intro ?_ ?_ | with_reducible omega | exact ok_ints | exact cells_ints | exact no_mem | with_reducible exact plain_ints | (refine le_maxLen ?_; omega) | (refine za9 ⟨?_,?_⟩) | (simp only [go_sem,Qc,Qb,zb1,zb2,forall_eq]; done)))
   all_goals (first | rfl | (exact absurd h' (by decide)))
theorem source1_ok (L : CT) (last : Nat) (c : List Int) (k : Int) (g : G6 c) : Ctr Try.prog 203 [.ints c,.ptr (.ptr (D.clo L last)),.ptr (.int .i64 k)] false (.d (.bool (decide (k<=rdOf L c)))) []:=by
 have c1:=maskOf_ok g (by have:=g6_len g; omega)
 unfold rdOf
 refine Ctr.of (n:=14) (rs:=[.tmp 4]) Try.func203 rfl rfl Try.ntmps203 rfl rfl (by kernel_rfl) Try.checked.mixed ?_
 simp (disch:=first | omega | decide +kernel) only [D.ints,D.clo,mmt1,D.mk,go_sem,Qa,Qb,Qc,Qd,Qe,↓reduceIte,reduceCtorEq,Qf,Qg,Qh]
 (repeat' (first | ((first | (refine gsel_split (fun q' => ?_) (fun q' => ?_)<;>(have h':=q')<;>(try simp only [za1,za2,Ba,Bb,za3,ne_eq,za4,za5,za6,Ia,Ib,Ic,Ie,Da,Bc,Bd,Be,za7,za8] at h')) | (have q':=trivial; first | refine callX_new (c1) rfl (by decide) ?_ | refine callY_new (c1) rfl ?_ | refine hE _ _ ret_ne ?_ | refine hE _ _ exit_ne ?_))<;>(try simp (disch:=first | omega | decide +kernel) only [q',D.ints,D.clo,mmt1,D.mk,go_sem,Qa,Qb,Qc,Qd,Qe,↓reduceIte,reduceCtorEq,Qf,Qg,Qh])<;>clear q') | refine hN _ ?_ ?_ Wk.kk | with_reducible refine And.intro ?_ ?_ | with_reducible omega | exact ok_ints | exact cells_ints | exact no_mem | with_reducible exact plain_ints | (refine le_maxLen ?_; omega) | (refine za9 ⟨?_,?_⟩) | (simp only [go_sem,Qc,Qb,zb1,zb2,forall_eq]; done)))
 all_goals (first | rfl | skip)
theorem before_filter {cs : List (List Int)} {w : Nat} {L : CT} {last : Nat} (hg : ∀ c ∈ cs,G6 c) (hF : FinC cs w L last) (k : Nat) : (sortC (keysC L)).filter (fun c => !(decide (((k + 1 : Nat) : Int)<=rdOf L c)))=srtV (Cl cs w k):=by
 obtain ⟨h1,h2⟩:=hF.srt hg
 have hgL : ∀ p ∈ L,G6 p.1:=fun p hp => new_g6 hg ((hF.mem p.1 p.2).1 hp)
 refine (srtV_eq ⟨h1.1.filter _,fun x hx => h1.2 x (List.mem_filter.1 hx).1⟩ fun c => ?_).symm
 rw [List.mem_filter,h2]
 constructor
 . rintro ⟨⟨j,hj⟩,hr⟩
   have hm:=(hF.mem c j).2 hj
   have:=(mpAt_esO hgL (new_g6 hg hj) hF.nd).1 j hm
   rw [rdOf,this,Option.getD_some] at hr
   have e : ¬ ((k + 1 : Nat) : Int)<=j:=by simpa using hr
   exact cl_mono (by omega) (new_cl hj)
 . intro hk
   obtain ⟨j,hj,hn⟩:=cl_new hk
   have hm:=(hF.mem c j).2 hn
   have:=(mpAt_esO hgL (new_g6 hg hn) hF.nd).1 j hm
   refine ⟨⟨j,hn⟩,?_⟩
   rw [rdOf,this,Option.getD_some,Ba,decide_eq_false_iff_not]
   omega
theorem rnd_new {cs : List (List Int)} {w : Nat} {L : CT} {last : Nat} (hg : ∀ c ∈ cs,G6 c) (hF : FinC cs w L last) {c : List Int} (gc : G6 c) : (∀ k,NewC cs w k c->rndOf L c=k)∧((∀ k,¬ NewC cs w k c)->rndOf L c=-1):=by
 have hgL : ∀ p ∈ L,G6 p.1:=fun p hp => new_g6 hg ((hF.mem p.1 p.2).1 hp)
 obtain ⟨h1,h2⟩:=mpAt_esO hgL gc hF.nd
 refine ⟨fun k hk => ?_,fun h => ?_⟩
 . rw [rndOf,h1 k ((hF.mem c k).2 hk)]
 . rw [rndOf,h2 fun k hk => h k ((hF.mem c k).1 hk)]
set_option maxHeartbeats 16000000 in
theorem source_ok {cs : List (List Int)} {w : Nat} {L : CT} {last : Nat} (hg : ∀ c ∈ cs,G6 c) (hF : FinC cs w L last) {k : Nat} {c x y : List Int} {v : Int} (hc : NewC cs w (k + 1) c) (hs : SrcP cs w k c x y v) :
 Ctr Try.prog 119 [.ptr (D.clo L last),.ints c] false (.tup [.sl 1,.sl 0,.d (.int .i64 v)]) [(1,.dp none (x.map (.int .i64)) none),(0,.dp none (y.map (.int .i64)) none)]:=by
 have gc:=new_g6 hg hc
 have hgL : ∀ p ∈ L,G6 p.1:=fun p hp => new_g6 hg ((hF.mem p.1 p.2).1 hp)
 have hll:=table_len hgL hF.nd
 have c0:=round_ok L last c gc
 rw [(rnd_new hg hF gc).1 _ hc] at c0
 have c1:=clausesT_ok (last:=last) hgL hll
 have hbf:=before_filter hg hF k
 have cm:=maskOf_ok gc (by have:=g6_len gc; omega)
 obtain ⟨ia,ib,h1,h2,h3,h4,hv,hres,hfst⟩:=hs
 generalize srtV (Cl cs w k)=B at *
 refine Ctr.ofK (n:=73) (rs:=[.tmp 4,.tmp 5,.tmp 6]) Try.func119 rfl rfl Try.ntmps119 rfl rfl (by kernel_rfl) Try.checked.mixed ?_
 refine Ok.endsW ?_
 refine Ok.seq (Ok.go ?_)
 simp (disch:=first | omega | decide +kernel) only [go_sem,Qa,Qb,Qc,Qd,Qe,↓reduceIte,reduceCtorEq,Qf,Qg,Qh]
 refine Ok.seq (Ok.go ?_)
 simp (disch:=first | omega | decide +kernel) only [go_sem,Qa,Qb,Qc,Qd,Qe,↓reduceIte,reduceCtorEq,Qf,Qg,Qh]
 (repeat' (first | ((first | (refine gsel_split (fun q' => ?_) (fun q' => ?_)<;>(have h':=q')<;>(try simp only [za1,za2,Ba,Bb,za3,ne_eq,za4,za5,za6,Ia,Ib,Ic,Ie,Da,Bc,Bd,Be,za7,za8] at h')<;>try (exfalso; omega)) | (have q':=trivial; first | refine callX_new (c0) rfl (by decide) ?_ | refine callY_new (c0) rfl ?_ | refine hE _ _ ret_ne ?_ | refine hE _ _ exit_ne ?_))<;>(try simp (disch:=first | omega | decide +kernel) only [q',go_sem,Qa,Qb,Qc,Qd,Qe,↓reduceIte,reduceCtorEq,Qf,Qg,Qh])<;>clear q') | refine hN _ ?_ ?_ Wk.kk | with_reducible refine And.intro ?_ ?_ | with_reducible omega | exact ok_ints | exact cells_ints | exact no_mem | with_reducible exact plain_ints | (refine le_maxLen ?_; omega) | (refine za9 ⟨?_,?_⟩) | (simp only [go_sem,Qc,Qb,zb1,zb2,forall_eq]; done)))
 refine Ok.weak (Wk.bfz 2 (.ptr (D.clo L last)) rfl rfl) ?_
 simp (disch:=first | omega | decide +kernel) only [bfzS,bfzO,AV.bfz,AV.bfzL,AO.bfz,go_sem,Qa,Qb,Qc,Qd,Qe,↓reduceIte,reduceCtorEq,Qf,Qg,Qh]
 refine Ok.weak (Wk.bfz 7 (.int .i64 ((k + 1 : Nat) : Int)) rfl rfl) ?_
 simp (disch:=first | omega | decide +kernel) only [bfzS,bfzO,AV.bfz,AV.bfzL,AO.bfz,go_sem,Qa,Qb,Qc,Qd,Qe,↓reduceIte,reduceCtorEq,Qf,Qg,Qh]
 refine Ok.seq (Ok.go ?_)
 simp (disch:=first | omega | decide +kernel) only [go_sem,Qa,Qb,Qc,Qd,Qe,↓reduceIte,reduceCtorEq,Qf,Qg,Qh]
 (repeat' (first | ((first | (refine gsel_split (fun q' => ?_) (fun q' => ?_)<;>(have h':=q')<;>(try simp only [za1,za2,Ba,Bb,za3,ne_eq,za4,za5,za6,Ia,Ib,Ic,Ie,Da,Bc,Bd,Be,za7,za8] at h')<;>try (exfalso; omega)) | (have q':=trivial; first | refine hE _ _ ret_ne ?_ | refine hE _ _ exit_ne ?_))<;>(try simp (disch:=first | omega | decide +kernel) only [q',go_sem,Qa,Qb,Qc,Qd,Qe,↓reduceIte,reduceCtorEq,Qf,Qg,Qh])<;>clear q') | refine hN _ ?_ ?_ Wk.kk | with_reducible refine And.intro ?_ ?_ | with_reducible omega | exact ok_ints | exact cells_ints | exact no_mem | with_reducible exact plain_ints | (refine le_maxLen ?_; omega) | (refine za9 ⟨?_,?_⟩) | (simp only [go_sem,Qc,Qb,zb1,zb2,forall_eq]; done)))
 refine callX_rel [] [2200000,900000001] [2200000,900000001] c1 ⟨.inl rfl,trivial⟩ trivial (by simp [namesI,keysO]) (by simp [dstB]) ?_
 rintro _ _ ⟨ps,qs,hq1,hq2,rfl,rfl⟩
 refine ⟨by simp [namesOK,keysO,nth],?_⟩
 have hpA : ∀ q ∈ qs,G6 q.2:=fun q hq => by
  have : q.2 ∈ sortC (keysC L):=hq2 ▸ List.mem_map.2 ⟨q,hq,rfl⟩
  obtain ⟨p,hp,e⟩:=List.mem_map.1 ((sortC_perm _).mem_iff.1 this)
  rw [← e]; exact hgL p hp
 have hql : qs.length<=4096:=by
  have:=congrArg List.length hq2
  rw [List.length_map,(sortC_perm _).length_eq,keysC,List.length_map] at this
  omega
 have c2:=deleteT2_ok qs 203 (.ptr (.ptr (D.clo L last))) (.ptr (.int .i64 ((k + 1 : Nat) : Int))) (fun c => decide (((k + 1 : Nat) : Int)<=rdOf L c)) (by omega) fun q hq =>
  (source1_ok L last q.2 ((k + 1 : Nat) : Int) (hpA q hq)).read rfl fun S w i v hi hr => by
   match i,hi with
   | 0,_ => have:=Rd.strip hr; rw [show [D.tg q,D.ptr (.ptr (D.clo L last)),.ptr (.int .i64 ((k + 1 : Nat) : Int))].getD 0 .nilptr=D.tg q from rfl,strip_tg] at this; exact this
   | 1,_ => exact hr
   | 2,_ => exact hr
 simp (disch:=first | omega | decide +kernel) only [go_sem,Qa,Qb,Qc,Qd,Qe,↓reduceIte,reduceCtorEq,Qf,Qg,Qh]
 (repeat' (first | ((first | (refine gsel_split (fun q' => ?_) (fun q' => ?_)<;>(have h':=q')<;>(try simp only [za1,za2,Ba,Bb,za3,ne_eq,za4,za5,za6,Ia,Ib,Ic,Ie,Da,Bc,Bd,Be,za7,za8] at h')<;>try (exfalso; omega)) | (have q':=trivial; first | refine hE _ _ ret_ne ?_ | refine hE _ _ exit_ne ?_))<;>(try simp (disch:=first | omega | decide +kernel) only [q',go_sem,Qa,Qb,Qc,Qd,Qe,↓reduceIte,reduceCtorEq,Qf,Qg,Qh])<;>clear q') | refine hN _ ?_ ?_ Wk.kk | with_reducible refine And.intro ?_ ?_ | with_reducible omega | exact ok_ints | exact cells_ints | exact no_mem | with_reducible exact plain_ints | (refine le_maxLen ?_; omega) | (refine za9 ⟨?_,?_⟩) | (simp only [go_sem,Qc,Qb,zb1,zb2,forall_eq]; done)))
 refine callX_mut [2200000] [2400000] [2200000,2400000] c2 ⟨.inl rfl,.inl rfl,trivial⟩ ⟨rfl,trivial⟩ rfl (by simp [dstB]) ?_
 simp (disch:=first | omega | decide +kernel) only [go_sem,Qa,Qb,Qc,Qd,Qe,↓reduceIte,reduceCtorEq,Qf,Qg,Qh]
 (repeat' (first | ((first | (refine gsel_split (fun q' => ?_) (fun q' => ?_)<;>(have h':=q')<;>(try simp only [za1,za2,Ba,Bb,za3,ne_eq,za4,za5,za6,Ia,Ib,Ic,Ie,Da,Bc,Bd,Be,za7,za8] at h')<;>try (exfalso; omega)) | (have q':=trivial; first | refine hE _ _ ret_ne ?_ | refine hE _ _ exit_ne ?_))<;>(try simp (disch:=first | omega | decide +kernel) only [q',go_sem,Qa,Qb,Qc,Qd,Qe,↓reduceIte,reduceCtorEq,Qf,Qg,Qh])<;>clear q') | refine hN _ ?_ ?_ Wk.kk | with_reducible refine And.intro ?_ ?_ | with_reducible omega | exact ok_ints | exact cells_ints | exact no_mem | with_reducible exact plain_ints | (refine le_maxLen ?_; omega) | (refine za9 ⟨?_,?_⟩) | (simp only [go_sem,Qc,Qb,zb1,zb2,forall_eq]; done)))
 have hB : (qs.filter fun q => !(decide (((k + 1 : Nat) : Int)<=rdOf L q.2))).map (·.2)=B:=by
  rw [← hbf,← hq2,List.filter_map]; rfl
 have hsub : ∀ q ∈ (qs.filter fun q => !(decide (((k + 1 : Nat) : Int)<=rdOf L q.2))),q ∈ ps∧G6 q.2:=fun q hq => by
  have h:=(List.mem_filter.1 hq).1
  exact ⟨hq1.mem_iff.1 h,hpA q h⟩
 have hel : (qs.filter fun q => !(decide (((k + 1 : Nat) : Int)<=rdOf L q.2))).length<=4096:=Nat.le_trans (List.length_filter_le _ _) hql
 generalize (qs.filter fun q => !(decide (((k + 1 : Nat) : Int)<=rdOf L q.2)))=es at *
 refine Ok.weak (Wk.frz (j:=2400000) rfl) ?_
 simp (disch:=first | omega | decide +kernel) only [St.frz,frzS,frzO,AV.frz,AV.frzL,AO.frz,go_sem,Qa,Qb,Qc,Qd,Qe,↓reduceIte,reduceCtorEq,Qf,Qg,Qh]
 refine Ok.seq (Ok.go ?_)
 simp (disch:=first | omega | decide +kernel) only [D.ints,go_sem,Qa,Qb,Qc,Qd,Qe,↓reduceIte,reduceCtorEq,Qf,Qg,Qh]
 (repeat' (first | ((first | (refine gsel_split (fun q' => ?_) (fun q' => ?_)<;>(have h':=q')<;>(try simp only [za1,za2,Ba,Bb,za3,ne_eq,za4,za5,za6,Ia,Ib,Ic,Ie,Da,Bc,Bd,Be,za7,za8] at h')<;>try (exfalso; omega)) | (have q':=trivial; first | refine callX_new (cm) rfl (by decide) ?_ | refine callY_new (cm) rfl ?_ | refine hE _ _ ret_ne ?_ | refine hE _ _ exit_ne ?_))<;>(try simp (disch:=first | omega | decide +kernel) only [q',D.ints,go_sem,Qa,Qb,Qc,Qd,Qe,↓reduceIte,reduceCtorEq,Qf,Qg,Qh])<;>clear q') | refine hN _ ?_ ?_ Wk.kk | with_reducible refine And.intro ?_ ?_ | with_reducible omega | exact ok_ints | exact cells_ints | exact no_mem | with_reducible exact plain_ints | (refine le_maxLen ?_; omega) | (refine za9 ⟨?_,?_⟩) | (simp only [go_sem,Qc,Qb,zb1,zb2,forall_eq]; done)))
 have hBl : B.length=es.length:=by rw [← hB,List.length_map]
 have hBd : ∀ i,i < es.length->B.getD i []=(es.getD i zTg).2:=fun i hi => by rw [← hB]; simp [List.getD_eq_getElem?_getD,hi]
 rw [hBl] at h1 h2 hfst
 refine Ok.seq (Ok.go ?_)
 simp (disch:=first | omega | decide +kernel) only [List.length_map,go_sem,Qa,Qb,Qc,Qd,Qe,↓reduceIte,reduceCtorEq,Qf,Qg,Qh]
 (repeat' (first | ((first | (refine gsel_split (fun q' => ?_) (fun q' => ?_)<;>(have h':=q')<;>(try simp only [za1,za2,Ba,Bb,za3,ne_eq,za4,za5,za6,Ia,Ib,Ic,Ie,Da,Bc,Bd,Be,za7,za8] at h')<;>try (exfalso; omega)) | (have q':=trivial; first | refine hE _ _ ret_ne ?_ | refine hE _ _ exit_ne ?_))<;>(try simp (disch:=first | omega | decide +kernel) only [q',List.length_map,go_sem,Qa,Qb,Qc,Qd,Qe,↓reduceIte,reduceCtorEq,Qf,Qg,Qh])<;>clear q') | refine hN _ ?_ ?_ Wk.kk | with_reducible refine And.intro ?_ ?_ | with_reducible omega | exact ok_ints | exact cells_ints | exact no_mem | with_reducible exact plain_ints | (refine le_maxLen ?_; omega) | (refine za9 ⟨?_,?_⟩) | (simp only [go_sem,Qc,Qb,zb1,zb2,forall_eq]; done)))
 refine Ok.loopNO [72,71,70,69,68,67,66,65,64,63,62,61,60,59,58,57,56,55,54,53,52,51,50,49,48,47,46,45,44,43,42,41,40,39,38,37,36,35,34,33,32,31,30,29,28,25,24,23,22,21,20,19,18,17,16,15,14,13,12,11,10,7,6,5,4,3,2,1,0] (fun i (_ : Unit) => [(28,.d (.int .i64 (i : Nat)))]) (fun _ _ => []) es.length (fun i _ => i<=ia) () (Nat.zero_le _) (by refine Wk.auto ?_ ?_<;>simp [extraK,lk,killL,St.kill,wipeO,wipeS,AV.has,AV.hasL,AO.wipe,List.map_set,updSt,insL,dropS,ins,]) ?_
 rintro R i _ hN hE hi hia
 have hlt : i < es.length:=by omega
 have el1 : el (es.map D.tg) i=D.tg (es.getD i zTg):=el_tg hlt
 obtain ⟨m1,g1⟩:=hsub _ (getD_mem (z:=zTg) hlt)
 have cA : Ctr Try.prog 196 [D.tg (es.getD i zTg)] false (.d (D.mk (mkN (es.getD i zTg).2))) []:=(maskOf_ok g1 (by have:=g6_len g1; omega)).strip (by simp only [D.stripL,strip_tg]; rfl)
 have b1:=hBd i hlt
 refine Ok.seq (Ok.go ?_)
 simp (disch:=first | omega | decide +kernel) only [List.length_map,go_sem,Qa,Qb,Qc,Qd,Qe,↓reduceIte,reduceCtorEq,Qf,Qg,Qh]
 (repeat' (first | ((first | (refine gsel_split (fun q' => ?_) (fun q' => ?_)<;>(have h':=q')<;>(try simp only [za1,za2,Ba,Bb,za3,ne_eq,za4,za5,za6,Ia,Ib,Ic,Ie,Da,Bc,Bd,Be,za7,za8] at h')<;>try (exfalso; omega)) | (have q':=trivial; first | refine hE _ _ ret_ne ?_ | refine hE _ _ exit_ne ?_))<;>(try simp (disch:=first | omega | decide +kernel) only [q',List.length_map,go_sem,Qa,Qb,Qc,Qd,Qe,↓reduceIte,reduceCtorEq,Qf,Qg,Qh])<;>clear q') | refine hN _ ?_ ?_ Wk.kk | with_reducible refine And.intro ?_ ?_ | with_reducible omega | exact ok_ints | exact cells_ints | exact no_mem | with_reducible exact plain_ints | (refine le_maxLen ?_; omega) | (refine za9 ⟨?_,?_⟩) | (simp only [go_sem,Qc,Qb,zb1,zb2,forall_eq]; done)))
 refine Ok.seq (Ok.go ?_)
 simp (disch:=first | omega | decide +kernel) only [go_sem,Qa,Qb,Qc,Qd,Qe,↓reduceIte,reduceCtorEq,Qf,Qg,Qh]
 (repeat' (first | ((first | (refine gsel_split (fun q' => ?_) (fun q' => ?_)<;>(have h':=q')<;>(try simp only [za1,za2,Ba,Bb,za3,ne_eq,za4,za5,za6,Ia,Ib,Ic,Ie,Da,Bc,Bd,Be,za7,za8] at h')<;>try (exfalso; omega)) | (have q':=trivial; first | refine hE _ _ ret_ne ?_ | refine hE _ _ exit_ne ?_))<;>(try simp (disch:=first | omega | decide +kernel) only [q',go_sem,Qa,Qb,Qc,Qd,Qe,↓reduceIte,reduceCtorEq,Qf,Qg,Qh])<;>clear q') | refine hN _ ?_ ?_ Wk.kk | with_reducible refine And.intro ?_ ?_ | with_reducible omega | exact ok_ints | exact cells_ints | exact no_mem | with_reducible exact plain_ints | (refine le_maxLen ?_; omega) | (refine za9 ⟨?_,?_⟩) | (simp only [go_sem,Qc,Qb,zb1,zb2,forall_eq]; done)))
 refine Ok.seq (Ok.block (Ok.seq (Ok.go ?_)))
 simp (disch:=first | omega | decide +kernel) only [el1,tg_cells,tg_agg,List.length_map,go_sem,Qa,Qb,Qc,Qd,Qe,↓reduceIte,reduceCtorEq,Qf,Qg,Qh]
 (repeat' (first | ((first | (refine gsel_split (fun q' => ?_) (fun q' => ?_)<;>(have h':=q')<;>(try simp only [za1,za2,Ba,Bb,za3,ne_eq,za4,za5,za6,Ia,Ib,Ic,Ie,Da,Bc,Bd,Be,za7,za8] at h')<;>try (exfalso; omega)) | (have q':=trivial; first | refine hE _ _ ret_ne ?_ | refine hE _ _ exit_ne ?_))<;>(try simp (disch:=first | omega | decide +kernel) only [q',el1,tg_cells,tg_agg,List.length_map,go_sem,Qa,Qb,Qc,Qd,Qe,↓reduceIte,reduceCtorEq,Qf,Qg,Qh])<;>clear q') | refine hN _ ?_ ?_ Wk.kk | with_reducible refine And.intro ?_ ?_ | with_reducible omega | exact ok_ints | exact cells_ints | exact no_mem | with_reducible exact plain_ints | (refine le_maxLen ?_; omega) | (refine za9 ⟨?_,?_⟩) | (simp only [go_sem,Qc,Qb,zb1,zb2,forall_eq]; done)))
 refine Ok.seq (Ok.go ?_)
 simp (disch:=first | omega | decide +kernel) only [List.length_map,go_sem,Qa,Qb,Qc,Qd,Qe,↓reduceIte,reduceCtorEq,Qf,Qg,Qh]
 (repeat' (first | ((first | (refine gsel_split (fun q' => ?_) (fun q' => ?_)<;>(have h':=q')<;>(try simp only [za1,za2,Ba,Bb,za3,ne_eq,za4,za5,za6,Ia,Ib,Ic,Ie,Da,Bc,Bd,Be,za7,za8] at h')<;>try (exfalso; omega)) | (have q':=trivial; first | refine hE _ _ ret_ne ?_ | refine hE _ _ exit_ne ?_))<;>(try simp (disch:=first | omega | decide +kernel) only [q',List.length_map,go_sem,Qa,Qb,Qc,Qd,Qe,↓reduceIte,reduceCtorEq,Qf,Qg,Qh])<;>clear q') | refine hN _ ?_ ?_ Wk.kk | with_reducible refine And.intro ?_ ?_ | with_reducible omega | exact ok_ints | exact cells_ints | exact no_mem | with_reducible exact plain_ints | (refine le_maxLen ?_; omega) | (refine za9 ⟨?_,?_⟩) | (simp only [go_sem,Qc,Qb,zb1,zb2,forall_eq]; done)))
 refine Ok.block ?_
 refine Ok.loopNO [72,71,70,69,68,67,66,65,64,63,62,61,60,59,58,57,56,55,54,53,52,51,50,49,48,47,46,45,44,43,42,41,40,39,38,37,36,35,34,31,30,29,25,24,23,22,21,20,19,18,17,16,15,14,13,12,10,7,6,5,4,3,2,1,0] (fun j (_ : Unit) => [(34,.d (.int .i64 (j : Nat)))]) (fun _ _ => []) es.length (fun j _ => i=ia->j<=ib) () (fun _ => Nat.zero_le _) (by refine Wk.auto ?_ ?_<;>simp [extraK,lk,killL,St.kill,wipeO,wipeS,AV.has,AV.hasL,AO.wipe,List.map_set,updSt,insL,dropS,ins,]) ?_
 rintro R2 j _ hN2 hE2 hj hjb
 by_cases hltj : j < es.length
 . have el2 : el (es.map D.tg) j=D.tg (es.getD j zTg):=el_tg hltj
   obtain ⟨m2,g2⟩:=hsub _ (getD_mem (z:=zTg) hltj)
   have cB : Ctr Try.prog 196 [D.tg (es.getD j zTg)] false (.d (D.mk (mkN (es.getD j zTg).2))) []:=(maskOf_ok g2 (by have:=g6_len g2; omega)).strip (by simp only [D.stripL,strip_tg]; rfl)
   have b2:=hBd j hltj
   have hA:=mkN_lt g1
   have hBn:=mkN_lt g2
   have htest:=srcT_iff g1 g2 gc
   have c1:=bothOf_ok _ _ hA hBn
   have hK:=boN_lt (mkN (es.getD i zTg).2) (mkN (es.getD j zTg).2)
   have c2:=one_ok (boN (mkN (es.getD i zTg).2) (mkN (es.getD j zTg).2)) (by omega)
   have hK' : boN (mkN (es.getD i zTg).2) (mkN (es.getD j zTg).2) ||| boN (mkN (es.getD i zTg).2) (mkN (es.getD j zTg).2) <<< 6 < 65536:=Nat.or_lt_two_pow (n:=16) (by omega) (by rw [Nat.shiftLeft_eq]; omega)
   have hAB : mkN (es.getD i zTg).2 ||| mkN (es.getD j zTg).2 < 4096:=Nat.or_lt_two_pow (n:=12) hA hBn
   have e1:=shl6 (m:=boN (mkN (es.getD i zTg).2) (mkN (es.getD j zTg).2)) (by omega)
   have e2:=or16 (a:=boN (mkN (es.getD i zTg).2) (mkN (es.getD j zTg).2)) (b:=boN (mkN (es.getD i zTg).2) (mkN (es.getD j zTg).2) <<< 6) (by omega) (by rw [Nat.shiftLeft_eq]; omega)
   have e3:=or16 (a:=mkN (es.getD i zTg).2) (b:=mkN (es.getD j zTg).2) (by omega) (by omega)
   have e4:=andNot16 hAB hK'
   have e5:=and16 (a:=mkN (es.getD i zTg).2) (b:=boN (mkN (es.getD i zTg).2) (mkN (es.getD j zTg).2)) (by omega) (by omega)
   have hob : outB (es.getD i zTg).2 (es.getD j zTg).2=((mkN (es.getD i zTg).2 ||| mkN (es.getD j zTg).2) &&& (4095 ^^^ (boN (mkN (es.getD i zTg).2) (mkN (es.getD j zTg).2) ||| boN (mkN (es.getD i zTg).2) (mkN (es.getD j zTg).2) <<< 6))):=rfl
   rw [← hob] at e4
   clear hob
   by_cases hpos : i=ia∧j=ib
   . obtain ⟨rfl,rfl⟩:=hpos
     have hr2 : resolveI (es.getD i zTg).2 (es.getD j zTg).2 v=some c:=by rw [← b1,← b2,h3,h4]; exact hres
     have hT:=htest.2 ⟨v,hv,hr2⟩
     have hcl:=srcT_cls g1 g2 hv hr2
     have hxy : (es.getD i zTg).2 ≠ (es.getD j zTg).2:=fun e => by
      obtain ⟨_,q2,q3,_⟩:=resolveI_some g1 g2 hv hr2
      rw [← e] at q3
      exact good_neg g1.1 q2 q3
     simp only [srcT,Bc,bne_iff_ne,ne_eq,beq_iff_eq] at hT
     obtain ⟨t1,t2,t3⟩:=hT
     have c3:=(mclause_ok (boN (mkN (es.getD i zTg).2) (mkN (es.getD j zTg).2)) (by omega)).data1
     rw [hcl] at c3
     rw [t1] at c2
     have hx1 : x=(es.getD i zTg).2:=by rw [← h3,b1]
     have hy1 : y=(es.getD j zTg).2:=by rw [← h4,b2]
     obtain ⟨i1,hi1,f1⟩:=List.getElem_of_mem m1
     obtain ⟨i2,hi2,f2⟩:=List.getElem_of_mem m2
     have f1' : ps.getD i1 zTg=es.getD i zTg:=by rw [List.getD_eq_getElem?_getD,List.getElem?_eq_getElem hi1,Option.getD_some,f1]
     have f2' : ps.getD i2 zTg=es.getD j zTg:=by rw [List.getD_eq_getElem?_getD,List.getElem?_eq_getElem hi2,Option.getD_some,f2]
     have hne : i1 ≠ i2:=fun e => by subst e; rw [f1'] at f2'; exact hxy (by rw [f2'])
     clear hfst h3 h4 b1 b2 hres hr2 hcl htest hsub hBd hbf
     generalize es.getD i zTg=p1 at *
     generalize es.getD j zTg=p2 at *
     generalize boN (mkN p1.2) (mkN p2.2)=bo at *
     generalize outB p1.2 p2.2=ou at *
     generalize mkN p1.2=mA at *
     generalize mkN p2.2=mB at *
     refine Ok.seq (Ok.go ?_)
     simp (disch:=first | omega | decide +kernel) only [List.length_map,go_sem,Qa,Qb,Qc,Qd,Qe,↓reduceIte,reduceCtorEq,Qf,Qg,Qh]
     (repeat' (first | ((first | (refine gsel_split (fun q' => ?_) (fun q' => ?_)<;>(have h':=q')<;>(try simp only [za1,za2,Ba,Bb,za3,ne_eq,za4,za5,za6,Ia,Ib,Ic,Ie,Da,Bc,Bd,Be,za7,za8] at h')<;>try (exfalso; omega)) | (have q':=trivial; first | refine hE _ _ ret_ne ?_ | refine hE _ _ exit_ne ?_))<;>(try simp (disch:=first | omega | decide +kernel) only [q',List.length_map,go_sem,Qa,Qb,Qc,Qd,Qe,↓reduceIte,reduceCtorEq,Qf,Qg,Qh])<;>clear q') | refine hN _ ?_ ?_ Wk.kk | with_reducible refine And.intro ?_ ?_ | with_reducible omega | exact ok_ints | exact cells_ints | exact no_mem | with_reducible exact plain_ints | (refine le_maxLen ?_; omega) | (refine za9 ⟨?_,?_⟩) | (simp only [go_sem,Qc,Qb,zb1,zb2,forall_eq]; done)))
     refine Ok.seq (Ok.go ?_)
     simp (disch:=first | omega | decide +kernel) only [go_sem,Qa,Qb,Qc,Qd,Qe,↓reduceIte,reduceCtorEq,Qf,Qg,Qh]
     (repeat' (first | ((first | (refine gsel_split (fun q' => ?_) (fun q' => ?_)<;>(have h':=q')<;>(try simp only [za1,za2,Ba,Bb,za3,ne_eq,za4,za5,za6,Ia,Ib,Ic,Ie,Da,Bc,Bd,Be,za7,za8] at h')<;>try (exfalso; omega)) | (have q':=trivial; first | refine hE _ _ ret_ne ?_ | refine hE _ _ exit_ne ?_))<;>(try simp (disch:=first | omega | decide +kernel) only [q',go_sem,Qa,Qb,Qc,Qd,Qe,↓reduceIte,reduceCtorEq,Qf,Qg,Qh])<;>clear q') | refine hN _ ?_ ?_ Wk.kk | with_reducible refine And.intro ?_ ?_ | with_reducible omega | exact ok_ints | exact cells_ints | exact no_mem | with_reducible exact plain_ints | (refine le_maxLen ?_; omega) | (refine za9 ⟨?_,?_⟩) | (simp only [go_sem,Qc,Qb,zb1,zb2,forall_eq]; done)))
     refine Ok.seq (Ok.block (Ok.seq (Ok.go ?_)))
     simp (disch:=first | omega | decide +kernel) only [el2,tg_cells,tg_agg,List.length_map,go_sem,Qa,Qb,Qc,Qd,Qe,↓reduceIte,reduceCtorEq,Qf,Qg,Qh]
     (repeat' (first | ((first | (refine gsel_split (fun q' => ?_) (fun q' => ?_)<;>(have h':=q')<;>(try simp only [za1,za2,Ba,Bb,za3,ne_eq,za4,za5,za6,Ia,Ib,Ic,Ie,Da,Bc,Bd,Be,za7,za8] at h')<;>try (exfalso; omega)) | (have q':=trivial; first | refine hE _ _ ret_ne ?_ | refine hE _ _ exit_ne ?_))<;>(try simp (disch:=first | omega | decide +kernel) only [q',el2,tg_cells,tg_agg,List.length_map,go_sem,Qa,Qb,Qc,Qd,Qe,↓reduceIte,reduceCtorEq,Qf,Qg,Qh])<;>clear q') | refine hN _ ?_ ?_ Wk.kk | with_reducible refine And.intro ?_ ?_ | with_reducible omega | exact ok_ints | exact cells_ints | exact no_mem | with_reducible exact plain_ints | (refine le_maxLen ?_; omega) | (refine za9 ⟨?_,?_⟩) | (simp only [go_sem,Qc,Qb,zb1,zb2,forall_eq]; done)))
     refine Ok.seq (Ok.go ?_)
     simp (disch:=first | omega | decide +kernel) only [go_sem,Qa,Qb,Qc,Qd,Qe,↓reduceIte,reduceCtorEq,Qf,Qg,Qh]
     (repeat' (first | ((first | (refine gsel_split (fun q' => ?_) (fun q' => ?_)<;>(have h':=q')<;>(try simp only [za1,za2,Ba,Bb,za3,ne_eq,za4,za5,za6,Ia,Ib,Ic,Ie,Da,Bc,Bd,Be,za7,za8] at h')<;>try (exfalso; omega)) | (have q':=trivial; first | refine callX_new (cA) rfl (by decide) ?_ | refine callY_new (cA) rfl ?_ | refine callX_new (cB) rfl (by decide) ?_ | refine callY_new (cB) rfl ?_ | refine hE _ _ ret_ne ?_ | refine hE _ _ exit_ne ?_))<;>(try simp (disch:=first | omega | decide +kernel) only [q',go_sem,Qa,Qb,Qc,Qd,Qe,↓reduceIte,reduceCtorEq,Qf,Qg,Qh])<;>clear q') | refine hN _ ?_ ?_ Wk.kk | with_reducible refine And.intro ?_ ?_ | with_reducible omega | exact ok_ints | exact cells_ints | exact no_mem | with_reducible exact plain_ints | (refine le_maxLen ?_; omega) | (refine za9 ⟨?_,?_⟩) | (simp only [go_sem,Qc,Qb,zb1,zb2,forall_eq]; done)))
     refine Ok.seq (Ok.go ?_)
     simp (disch:=first | omega | decide +kernel) only [go_sem,Qa,Qb,Qc,Qd,Qe,↓reduceIte,reduceCtorEq,Qf,Qg,Qh]
     (repeat' (first | ((first | (refine gsel_split (fun q' => ?_) (fun q' => ?_)<;>(have h':=q')<;>(try simp only [za1,za2,Ba,Bb,za3,ne_eq,za4,za5,za6,Ia,Ib,Ic,Ie,Da,Bc,Bd,Be,za7,za8] at h')<;>try (exfalso; omega)) | (have q':=trivial; first | refine callX_new (c1) rfl (by decide) ?_ | refine callY_new (c1) rfl ?_ | refine hE _ _ ret_ne ?_ | refine hE _ _ exit_ne ?_))<;>(try simp (disch:=first | omega | decide +kernel) only [q',go_sem,Qa,Qb,Qc,Qd,Qe,↓reduceIte,reduceCtorEq,Qf,Qg,Qh])<;>clear q') | refine hN _ ?_ ?_ Wk.kk | with_reducible refine And.intro ?_ ?_ | with_reducible omega | exact ok_ints | exact cells_ints | exact no_mem | with_reducible exact plain_ints | (refine le_maxLen ?_; omega) | (refine za9 ⟨?_,?_⟩) | (simp only [go_sem,Qc,Qb,zb1,zb2,forall_eq]; done)))
     refine Ok.seq (Ok.go ?_)
     simp (disch:=first | omega | decide +kernel) only [e1,e2,e3,e4,e5,go_sem,Qa,Qb,Qc,Qd,Qe,↓reduceIte,reduceCtorEq,Qf,Qg,Qh]
     (repeat' (first | ((first | (refine gsel_split (fun q' => ?_) (fun q' => ?_)<;>(have h':=q')<;>(try simp only [za1,za2,Ba,Bb,za3,ne_eq,za4,za5,za6,Ia,Ib,Ic,Ie,Da,Bc,Bd,Be,za7,za8] at h')<;>try (exfalso; omega)) | (have q':=trivial; first | refine callX_new (c2) rfl (by decide) ?_ | refine callY_new (c2) rfl ?_ | refine hE _ _ ret_ne ?_ | refine hE _ _ exit_ne ?_))<;>(try simp (disch:=first | omega | decide +kernel) only [q',e1,e2,e3,e4,e5,go_sem,Qa,Qb,Qc,Qd,Qe,↓reduceIte,reduceCtorEq,Qf,Qg,Qh])<;>clear q') | refine hN _ ?_ ?_ Wk.kk | with_reducible refine And.intro ?_ ?_ | with_reducible omega | exact ok_ints | exact cells_ints | exact no_mem | with_reducible exact plain_ints | (refine le_maxLen ?_; omega) | (refine za9 ⟨?_,?_⟩) | (simp only [go_sem,Qc,Qb,zb1,zb2,forall_eq]; done)))
     have ev : el [D.int .i64 v] 0=D.int .i64 v:=rfl
     refine Ok.go ?_
     simp (disch:=first | omega | decide +kernel) only [List.map_cons,List.map_nil,ev,go_sem,Qa,Qb,Qc,Qd,Qe,↓reduceIte,reduceCtorEq,Qf,Qg,Qh]
     (repeat' (first | ((first | (refine gsel_split (fun q' => ?_) (fun q' => ?_)<;>(have h':=q')<;>(try simp only [za1,za2,Ba,Bb,za3,ne_eq,za4,za5,za6,Ia,Ib,Ic,Ie,Da,Bc,Bd,Be,za7,za8] at h')<;>try (exfalso; omega)) | (have q':=trivial; first | refine callX_shared (c3) rfl (by decide) ?_ | refine callY_shared (c3) rfl ?_ | refine hE _ _ ret_ne ?_ | refine hE _ _ exit_ne ?_))<;>(try simp (disch:=first | omega | decide +kernel) only [q',List.map_cons,List.map_nil,ev,go_sem,Qa,Qb,Qc,Qd,Qe,↓reduceIte,reduceCtorEq,Qf,Qg,Qh])<;>clear q') | refine hN _ ?_ ?_ Wk.kk | with_reducible refine And.intro ?_ ?_ | with_reducible omega | exact ok_ints | exact cells_ints | exact no_mem | with_reducible exact plain_ints | (refine le_maxLen ?_; omega) | (refine za9 ⟨?_,?_⟩) | (simp only [go_sem,Qc,Qb,zb1,zb2,forall_eq]; done)))
     all_goals (first | rfl | skip)
     refine hE2 _ _ ret_ne ?_
     simp (disch:=first | omega | decide +kernel) only [go_sem,Qa,Qb,Qc,Qd,Qe,↓reduceIte,reduceCtorEq,Qf,Qg,Qh]
     refine hE _ _ ret_ne ?_
     simp (disch:=first | omega | decide +kernel) only [go_sem,Qa,Qb,Qc,Qd,Qe,↓reduceIte,reduceCtorEq,Qf,Qg,Qh]
     subst hx1
     subst hy1
     refine ⟨_,Wk.thawP (S':=[(6,.d (.int .i64 v)),(5,.sl 0),(4,.sl 1)]) 900000001 4 5 1 0 rfl i1 i2 hi1 hi2 hne (by decide) f1' f2' rfl rfl ?_,?_⟩
     . intro p hp
       simp only [List.mem_cons,List.not_mem_nil,or_false] at hp
       rcases hp with rfl | rfl | rfl
       . exact .inr (.inr ⟨rfl,_,rfl,rfl⟩)
       . exact .inr (.inl ⟨rfl,rfl⟩)
       . exact .inl ⟨rfl,rfl⟩
     . exact retQ_s3 rfl rfl rfl rfl rfl rfl
   . have hT : srcT (es.getD i zTg).2 (es.getD j zTg).2 c=false:=by
      rw [Bool.eq_false_iff]
      intro h
      obtain ⟨v',hv',hr'⟩:=htest.1 h
      refine hfst i j ?_ v' hv' (by rw [b1,b2]; exact hr')
      rcases Nat.lt_or_eq_of_le hia with h5 | h5
      . exact .inl ⟨h5,hltj⟩
      . have:=hjb h5
        exact .inr ⟨h5,Nat.lt_of_le_of_ne this fun e => hpos ⟨h5,e⟩⟩
     have hnx : i=ia->j + 1<=ib:=fun e => by
      have h5:=hjb e
      have h6 : j ≠ ib:=fun e2 => hpos ⟨e,e2⟩
      omega
     simp only [srcT] at hT
     clear hfst h3 h4 b1 b2 hres htest hsub hBd hbf hpos
     generalize es.getD i zTg=p1 at *
     generalize es.getD j zTg=p2 at *
     generalize boN (mkN p1.2) (mkN p2.2)=bo at *
     generalize outB p1.2 p2.2=ou at *
     generalize mkN p1.2=mA at *
     generalize mkN p2.2=mB at *
     refine Ok.seq (Ok.go ?_)
     simp (disch:=first | omega | decide +kernel) only [List.length_map,go_sem,Qa,Qb,Qc,Qd,Qe,↓reduceIte,reduceCtorEq,Qf,Qg,Qh]
     (repeat' (first | ((first | (refine gsel_split (fun q' => ?_) (fun q' => ?_)<;>(have h':=q')<;>(try simp only [za1,za2,Ba,Bb,za3,ne_eq,za4,za5,za6,Ia,Ib,Ic,Ie,Da,Bc,Bd,Be,za7,za8] at h')<;>try (exfalso; omega)) | (have q':=trivial; first | refine hE _ _ ret_ne ?_ | refine hE _ _ exit_ne ?_))<;>(try simp (disch:=first | omega | decide +kernel) only [q',List.length_map,go_sem,Qa,Qb,Qc,Qd,Qe,↓reduceIte,reduceCtorEq,Qf,Qg,Qh])<;>clear q') | refine hN _ ?_ ?_ Wk.kk | with_reducible refine And.intro ?_ ?_ | with_reducible omega | exact ok_ints | exact cells_ints | exact no_mem | with_reducible exact plain_ints | (refine le_maxLen ?_; omega) | (refine za9 ⟨?_,?_⟩) | (simp only [go_sem,Qc,Qb,zb1,zb2,forall_eq]; done)))
     refine Ok.seq (Ok.go ?_)
     simp (disch:=first | omega | decide +kernel) only [go_sem,Qa,Qb,Qc,Qd,Qe,↓reduceIte,reduceCtorEq,Qf,Qg,Qh]
     (repeat' (first | ((first | (refine gsel_split (fun q' => ?_) (fun q' => ?_)<;>(have h':=q')<;>(try simp only [za1,za2,Ba,Bb,za3,ne_eq,za4,za5,za6,Ia,Ib,Ic,Ie,Da,Bc,Bd,Be,za7,za8] at h')<;>try (exfalso; omega)) | (have q':=trivial; first | refine hE _ _ ret_ne ?_ | refine hE _ _ exit_ne ?_))<;>(try simp (disch:=first | omega | decide +kernel) only [q',go_sem,Qa,Qb,Qc,Qd,Qe,↓reduceIte,reduceCtorEq,Qf,Qg,Qh])<;>clear q') | refine hN _ ?_ ?_ Wk.kk | with_reducible refine And.intro ?_ ?_ | with_reducible omega | exact ok_ints | exact cells_ints | exact no_mem | with_reducible exact plain_ints | (refine le_maxLen ?_; omega) | (refine za9 ⟨?_,?_⟩) | (simp only [go_sem,Qc,Qb,zb1,zb2,forall_eq]; done)))
     refine Ok.seq (Ok.block (Ok.seq (Ok.go ?_)))
     simp (disch:=first | omega | decide +kernel) only [el2,tg_cells,tg_agg,List.length_map,go_sem,Qa,Qb,Qc,Qd,Qe,↓reduceIte,reduceCtorEq,Qf,Qg,Qh]
     (repeat' (first | ((first | (refine gsel_split (fun q' => ?_) (fun q' => ?_)<;>(have h':=q')<;>(try simp only [za1,za2,Ba,Bb,za3,ne_eq,za4,za5,za6,Ia,Ib,Ic,Ie,Da,Bc,Bd,Be,za7,za8] at h')<;>try (exfalso; omega)) | (have q':=trivial; first | refine hE _ _ ret_ne ?_ | refine hE _ _ exit_ne ?_))<;>(try simp (disch:=first | omega | decide +kernel) only [q',el2,tg_cells,tg_agg,List.length_map,go_sem,Qa,Qb,Qc,Qd,Qe,↓reduceIte,reduceCtorEq,Qf,Qg,Qh])<;>clear q') | refine hN _ ?_ ?_ Wk.kk | with_reducible refine And.intro ?_ ?_ | with_reducible omega | exact ok_ints | exact cells_ints | exact no_mem | with_reducible exact plain_ints | (refine le_maxLen ?_; omega) | (refine za9 ⟨?_,?_⟩) | (simp only [go_sem,Qc,Qb,zb1,zb2,forall_eq]; done)))
     refine Ok.seq (Ok.go ?_)
     simp (disch:=first | omega | decide +kernel) only [go_sem,Qa,Qb,Qc,Qd,Qe,↓reduceIte,reduceCtorEq,Qf,Qg,Qh]
     (repeat' (first | ((first | (refine gsel_split (fun q' => ?_) (fun q' => ?_)<;>(have h':=q')<;>(try simp only [za1,za2,Ba,Bb,za3,ne_eq,za4,za5,za6,Ia,Ib,Ic,Ie,Da,Bc,Bd,Be,za7,za8] at h')<;>try (exfalso; omega)) | (have q':=trivial; first | refine callX_new (cA) rfl (by decide) ?_ | refine callY_new (cA) rfl ?_ | refine callX_new (cB) rfl (by decide) ?_ | refine callY_new (cB) rfl ?_ | refine hE _ _ ret_ne ?_ | refine hE _ _ exit_ne ?_))<;>(try simp (disch:=first | omega | decide +kernel) only [q',go_sem,Qa,Qb,Qc,Qd,Qe,↓reduceIte,reduceCtorEq,Qf,Qg,Qh])<;>clear q') | refine hN _ ?_ ?_ Wk.kk | with_reducible refine And.intro ?_ ?_ | with_reducible omega | exact ok_ints | exact cells_ints | exact no_mem | with_reducible exact plain_ints | (refine le_maxLen ?_; omega) | (refine za9 ⟨?_,?_⟩) | (simp only [go_sem,Qc,Qb,zb1,zb2,forall_eq]; done)))
     refine Ok.seq (Ok.go ?_)
     simp (disch:=first | omega | decide +kernel) only [go_sem,Qa,Qb,Qc,Qd,Qe,↓reduceIte,reduceCtorEq,Qf,Qg,Qh]
     (repeat' (first | ((first | (refine gsel_split (fun q' => ?_) (fun q' => ?_)<;>(have h':=q')<;>(try simp only [za1,za2,Ba,Bb,za3,ne_eq,za4,za5,za6,Ia,Ib,Ic,Ie,Da,Bc,Bd,Be,za7,za8] at h')<;>try (exfalso; omega)) | (have q':=trivial; first | refine callX_new (c1) rfl (by decide) ?_ | refine callY_new (c1) rfl ?_ | refine hE _ _ ret_ne ?_ | refine hE _ _ exit_ne ?_))<;>(try simp (disch:=first | omega | decide +kernel) only [q',go_sem,Qa,Qb,Qc,Qd,Qe,↓reduceIte,reduceCtorEq,Qf,Qg,Qh])<;>clear q') | refine hN _ ?_ ?_ Wk.kk | with_reducible refine And.intro ?_ ?_ | with_reducible omega | exact ok_ints | exact cells_ints | exact no_mem | with_reducible exact plain_ints | (refine le_maxLen ?_; omega) | (refine za9 ⟨?_,?_⟩) | (simp only [go_sem,Qc,Qb,zb1,zb2,forall_eq]; done)))
     cases ho : oneN bo with
     | false =>
       rw [ho] at c2
       refine Ok.seq (Ok.go ?_)
       simp (disch:=first | omega | decide +kernel) only [e1,e2,e3,e4,e5,go_sem,Qa,Qb,Qc,Qd,Qe,↓reduceIte,reduceCtorEq,Qf,Qg,Qh]
       (repeat' (first | ((first | (refine gsel_split (fun q' => ?_) (fun q' => ?_)<;>(have h':=q')<;>(try simp only [za1,za2,Ba,Bb,za3,ne_eq,za4,za5,za6,Ia,Ib,Ic,Ie,Da,Bc,Bd,Be,za7,za8] at h')<;>try (exfalso; omega)) | (have q':=trivial; first | refine callX_new (c2) rfl (by decide) ?_ | refine callY_new (c2) rfl ?_ | refine hE _ _ ret_ne ?_ | refine hE _ _ exit_ne ?_))<;>(try simp (disch:=first | omega | decide +kernel) only [q',e1,e2,e3,e4,e5,go_sem,Qa,Qb,Qc,Qd,Qe,↓reduceIte,reduceCtorEq,Qf,Qg,Qh])<;>clear q') | refine hN _ ?_ ?_ Wk.kk | with_reducible refine And.intro ?_ ?_ | with_reducible omega | exact ok_ints | exact cells_ints | exact no_mem | with_reducible exact plain_ints | (refine le_maxLen ?_; omega) | (refine za9 ⟨?_,?_⟩) | (simp only [go_sem,Qc,Qb,zb1,zb2,forall_eq]; done)))
       refine Ok.go ?_
       simp (disch:=first | omega | decide +kernel) only [go_sem,Qa,Qb,Qc,Qd,Qe,↓reduceIte,reduceCtorEq,Qf,Qg,Qh]
       (repeat' (first | ((first | (refine gsel_split (fun q' => ?_) (fun q' => ?_)<;>(have h':=q')<;>(try simp only [za1,za2,Ba,Bb,za3,ne_eq,za4,za5,za6,Ia,Ib,Ic,Ie,Da,Bc,Bd,Be,za7,za8] at h')<;>try (exfalso; omega)) | (have q':=trivial; first | refine hE _ _ ret_ne ?_ | refine hE _ _ exit_ne ?_))<;>(try simp (disch:=first | omega | decide +kernel) only [q',go_sem,Qa,Qb,Qc,Qd,Qe,↓reduceIte,reduceCtorEq,Qf,Qg,Qh])<;>clear q') | refine hN _ ?_ ?_ Wk.kk | with_reducible refine And.intro ?_ ?_ | with_reducible omega | exact ok_ints | exact cells_ints | exact no_mem | with_reducible exact plain_ints | (refine le_maxLen ?_; omega) | (refine za9 ⟨?_,?_⟩) | (simp only [go_sem,Qc,Qb,zb1,zb2,forall_eq]; done)))
       refine Ok.go ?_
       simp (disch:=first | omega | decide +kernel) only [go_sem,Qa,Qb,Qc,Qd,Qe,↓reduceIte,reduceCtorEq,Qf,Qg,Qh]
       rw [show (j : Int) + 1=((j + 1 : Nat) : Int) by omega]
       exact hN2 () _ hltj hnx (by refine Wk.auto ?_ ?_<;>simp [extraK,lk,killL,St.kill,wipeO,wipeS,AV.has,AV.hasL,AO.wipe,List.map_set,updSt,insL,dropS,ins,])
     | true =>
       rw [ho] at c2 hT
       rw [Bool.true_and] at hT
       by_cases hn : ((mA &&& bo : Nat) : Int)=0
       . refine Ok.seq (Ok.go ?_)
         simp (disch:=first | omega | decide +kernel) only [e1,e2,e3,e4,e5,go_sem,Qa,Qb,Qc,Qd,Qe,↓reduceIte,reduceCtorEq,Qf,Qg,Qh]
         (repeat' (first | ((first | (refine gsel_split (fun q' => ?_) (fun q' => ?_)<;>(have h':=q')<;>(try simp only [za1,za2,Ba,Bb,za3,ne_eq,za4,za5,za6,Ia,Ib,Ic,Ie,Da,Bc,Bd,Be,za7,za8] at h')<;>try (exfalso; omega)) | (have q':=trivial; first | refine callX_new (c2) rfl (by decide) ?_ | refine callY_new (c2) rfl ?_ | refine hE _ _ ret_ne ?_ | refine hE _ _ exit_ne ?_))<;>(try simp (disch:=first | omega | decide +kernel) only [q',e1,e2,e3,e4,e5,go_sem,Qa,Qb,Qc,Qd,Qe,↓reduceIte,reduceCtorEq,Qf,Qg,Qh])<;>clear q') | refine hN _ ?_ ?_ Wk.kk | with_reducible refine And.intro ?_ ?_ | with_reducible omega | exact ok_ints | exact cells_ints | exact no_mem | with_reducible exact plain_ints | (refine le_maxLen ?_; omega) | (refine za9 ⟨?_,?_⟩) | (simp only [go_sem,Qc,Qb,zb1,zb2,forall_eq]; done)))
         refine Ok.go ?_
         simp (disch:=first | omega | decide +kernel) only [go_sem,Qa,Qb,Qc,Qd,Qe,↓reduceIte,reduceCtorEq,Qf,Qg,Qh]
         (repeat' (first | ((first | (refine gsel_split (fun q' => ?_) (fun q' => ?_)<;>(have h':=q')<;>(try simp only [za1,za2,Ba,Bb,za3,ne_eq,za4,za5,za6,Ia,Ib,Ic,Ie,Da,Bc,Bd,Be,za7,za8] at h')<;>try (exfalso; omega)) | (have q':=trivial; first | refine hE _ _ ret_ne ?_ | refine hE _ _ exit_ne ?_))<;>(try simp (disch:=first | omega | decide +kernel) only [q',go_sem,Qa,Qb,Qc,Qd,Qe,↓reduceIte,reduceCtorEq,Qf,Qg,Qh])<;>clear q') | refine hN _ ?_ ?_ Wk.kk | with_reducible refine And.intro ?_ ?_ | with_reducible omega | exact ok_ints | exact cells_ints | exact no_mem | with_reducible exact plain_ints | (refine le_maxLen ?_; omega) | (refine za9 ⟨?_,?_⟩) | (simp only [go_sem,Qc,Qb,zb1,zb2,forall_eq]; done)))
         refine Ok.go ?_
         simp (disch:=first | omega | decide +kernel) only [go_sem,Qa,Qb,Qc,Qd,Qe,↓reduceIte,reduceCtorEq,Qf,Qg,Qh]
         rw [show (j : Int) + 1=((j + 1 : Nat) : Int) by omega]
         exact hN2 () _ hltj hnx (by refine Wk.auto ?_ ?_<;>simp [extraK,lk,killL,St.kill,wipeO,wipeS,AV.has,AV.hasL,AO.wipe,List.map_set,updSt,insL,dropS,ins,])
       . have hq : ¬ (ou : Int)=(mkN c : Nat):=by
          intro e
          have h7 : (((mA &&& bo : Nat) : Int) != 0)=true:=bne_iff_ne.2 hn
          rw [e,h7,Bool.true_and] at hT
          simp at hT
         refine Ok.seq (Ok.go ?_)
         simp (disch:=first | omega | decide +kernel) only [e1,e2,e3,e4,e5,go_sem,Qa,Qb,Qc,Qd,Qe,↓reduceIte,reduceCtorEq,Qf,Qg,Qh]
         (repeat' (first | ((first | (refine gsel_split (fun q' => ?_) (fun q' => ?_)<;>(have h':=q')<;>(try simp only [za1,za2,Ba,Bb,za3,ne_eq,za4,za5,za6,Ia,Ib,Ic,Ie,Da,Bc,Bd,Be,za7,za8] at h')<;>try (exfalso; omega)) | (have q':=trivial; first | refine callX_new (c2) rfl (by decide) ?_ | refine callY_new (c2) rfl ?_ | refine hE _ _ ret_ne ?_ | refine hE _ _ exit_ne ?_))<;>(try simp (disch:=first | omega | decide +kernel) only [q',e1,e2,e3,e4,e5,go_sem,Qa,Qb,Qc,Qd,Qe,↓reduceIte,reduceCtorEq,Qf,Qg,Qh])<;>clear q') | refine hN _ ?_ ?_ Wk.kk | with_reducible refine And.intro ?_ ?_ | with_reducible omega | exact ok_ints | exact cells_ints | exact no_mem | with_reducible exact plain_ints | (refine le_maxLen ?_; omega) | (refine za9 ⟨?_,?_⟩) | (simp only [go_sem,Qc,Qb,zb1,zb2,forall_eq]; done)))
         refine Ok.go ?_
         simp (disch:=first | omega | decide +kernel) only [go_sem,Qa,Qb,Qc,Qd,Qe,↓reduceIte,reduceCtorEq,Qf,Qg,Qh]
         (repeat' (first | ((first | (refine gsel_split (fun q' => ?_) (fun q' => ?_)<;>(have h':=q')<;>(try simp only [za1,za2,Ba,Bb,za3,ne_eq,za4,za5,za6,Ia,Ib,Ic,Ie,Da,Bc,Bd,Be,za7,za8] at h')<;>try (exfalso; omega)) | (have q':=trivial; first | refine hE _ _ ret_ne ?_ | refine hE _ _ exit_ne ?_))<;>(try simp (disch:=first | omega | decide +kernel) only [q',go_sem,Qa,Qb,Qc,Qd,Qe,↓reduceIte,reduceCtorEq,Qf,Qg,Qh])<;>clear q') | refine hN _ ?_ ?_ Wk.kk | with_reducible refine And.intro ?_ ?_ | with_reducible omega | exact ok_ints | exact cells_ints | exact no_mem | with_reducible exact plain_ints | (refine le_maxLen ?_; omega) | (refine za9 ⟨?_,?_⟩) | (simp only [go_sem,Qc,Qb,zb1,zb2,forall_eq]; done)))
         refine Ok.go ?_
         simp (disch:=first | omega | decide +kernel) only [go_sem,Qa,Qb,Qc,Qd,Qe,↓reduceIte,reduceCtorEq,Qf,Qg,Qh]
         rw [show (j : Int) + 1=((j + 1 : Nat) : Int) by omega]
         exact hN2 () _ hltj hnx (by refine Wk.auto ?_ ?_<;>simp [extraK,lk,killL,St.kill,wipeO,wipeS,AV.has,AV.hasL,AO.wipe,List.map_set,updSt,insL,dropS,ins,])
 . obtain rfl : j=es.length:=by omega
   have hii : i ≠ ia:=fun e => by have:=hjb e; omega
   clear hN2
   refine Ok.go ?_
   simp (disch:=first | omega | decide +kernel) only [List.length_map,go_sem,Qa,Qb,Qc,Qd,Qe,↓reduceIte,reduceCtorEq,Qf,Qg,Qh]
   (repeat' (first | ((first | (refine gsel_split (fun q' => ?_) (fun q' => ?_)<;>(have h':=q')<;>(try simp only [za1,za2,Ba,Bb,za3,ne_eq,za4,za5,za6,Ia,Ib,Ic,Ie,Da,Bc,Bd,Be,za7,za8] at h')<;>try (exfalso; omega)) | (have q':=trivial; first | refine hE _ _ ret_ne ?_ | refine hE _ _ exit_ne ?_))<;>(try simp (disch:=first | omega | decide +kernel) only [q',List.length_map,go_sem,Qa,Qb,Qc,Qd,Qe,↓reduceIte,reduceCtorEq,Qf,Qg,Qh])<;>clear q') | refine hN _ ?_ ?_ Wk.kk | with_reducible refine And.intro ?_ ?_ | with_reducible omega | exact ok_ints | exact cells_ints | exact no_mem | with_reducible exact plain_ints | (refine le_maxLen ?_; omega) | (refine za9 ⟨?_,?_⟩) | (simp only [go_sem,Qc,Qb,zb1,zb2,forall_eq]; done)))
   refine hE2 _ _ exit_ne ?_
   simp (disch:=first | omega | decide +kernel) only [go_sem,Qa,Qb,Qc,Qd,Qe,↓reduceIte,reduceCtorEq,Qf,Qg,Qh]
   refine Ok.go ?_
   simp (disch:=first | omega | decide +kernel) only [go_sem,Qa,Qb,Qc,Qd,Qe,↓reduceIte,reduceCtorEq,Qf,Qg,Qh]
   rw [show (i : Int) + 1=((i + 1 : Nat) : Int) by omega]
   exact hN () _ hlt (by omega) (by refine Wk.auto ?_ ?_<;>simp [extraK,lk,killL,St.kill,wipeO,wipeS,AV.has,AV.hasL,AO.wipe,List.map_set,updSt,insL,dropS,ins,])
end Abs.Y
