/- What functions of this program compute, over plain data. No condition. -/
import Derived.Test.YtkccabajcdphkaaDoorAbsTagR
import Derived.Test.YtkccabajcdphkaaDoorFO10
import Derived.Test.YtkccabajcdphkaaDoorFO3
import Derived.Test.YtkccabajcdphkaaDoorAbsReg8
set_option linter.all false
namespace Abs.Y
open Go Go.Proofs Abs
open Nat renaming reduceEqDiff -> Qa, reduceLT -> Qb, reduceAdd -> Qc, reduceMul -> Qd, reduceSub -> Qe, reduceLeDiff -> Qf, reduceSubDiff -> Qg, reduceBEq -> Qh
open Bool renaming not_eq_true' -> Ba, not_eq_false' -> Bb, and_eq_true -> Bc, or_eq_true -> Bh, or_eq_false_iff -> Be
open Int renaming ofNat_lt -> Ia, ofNat_le -> Ib, not_lt -> Ic, not_le -> Ie
open Decidable renaming not_not -> Da
set_option maxRecDepth 100000

theorem schL_eq (s : ByteArray) (hk : okS s=true) : schL s=(upL 10).filter fun q => isC (q - 1).toNat (fmS s):=by
 rw [schL,hk,if_pos rfl]
 congr 1
 funext q
 rw [Bool.not_not]
set_option maxHeartbeats 8000000 in
theorem SchemesOfS_ok (s : ByteArray) (hs : s.size<=1000000) : Ctr Tryd.prog 46 [.str s] true (.tup [.sl 0,.d (.bool (okS s))]) [(0,.arr 3 1 ((schL s).map (.int .i64)))]:=by
 have c1:=l22Good_ok s hs
 cases hk : okS s with
 | false =>
   rw [hk] at c1
   rw [schL,hk,if_neg (by simp)]
   refine Ctr.of (n:=23) (rs:=[.tmp 2,.tmp 3]) Tryd.func46 rfl rfl Tryd.ntmps46 rfl rfl (by kernel_rfl) Tryd.checked.mixed ?_
   simp (disch:=first | omega | decide +kernel) only [go_sem,Qa,Qb,Qc,Qd,Qe,↓reduceIte,reduceCtorEq,Qf,Qg,Qh]
   (repeat' (first | ((first | (refine gsel_split (fun q' => ?_) (fun q' => ?_)<;>(have h':=q')<;>(try simp only [za1,za2,Ba,Bb,za3,ne_eq,za4,za5,za6,Ia,Ib,Ic,Ie,Da,Bc,Bh,Be,za7,za8] at h')<;>try (exfalso; omega)) | (have q':=trivial; first | refine callX_new (c1) rfl (by decide) ?_ | refine callY_new (c1) rfl ?_ | refine hE _ _ ret_ne ?_ | refine hE _ _ exit_ne ?_))<;>(try simp (disch:=first | omega | decide +kernel) only [q',go_sem,Qa,Qb,Qc,Qd,Qe,↓reduceIte,reduceCtorEq,Qf,Qg,Qh])<;>clear q') | refine hN _ ?_ ?_ Wk.kk | with_reducible refine And.intro ?_ ?_ | with_reducible omega | exact ok_ints | exact cells_ints | exact no_mem | with_reducible exact plain_ints | (refine le_maxLen ?_; omega) | (refine za9 ⟨?_,?_⟩) | (simp only [go_sem,Qc,Qb,zb1,zb2,forall_eq]; done)))
   all_goals (first | omega | assumption | rfl | exact ret_slS 6 rfl rfl rfl)
 | true =>
   rw [hk] at c1
   rw [schL_eq s hk]
   refine Ctr.of (n:=23) (rs:=[.tmp 2,.tmp 3]) Tryd.func46 rfl rfl Tryd.ntmps46 rfl rfl (by kernel_rfl) Tryd.checked.mixed ?_
   simp (disch:=first | omega | decide +kernel) only [go_sem,Qa,Qb,Qc,Qd,Qe,↓reduceIte,reduceCtorEq,Qf,Qg,Qh]
   (repeat' (first | ((first | (refine gsel_split (fun q' => ?_) (fun q' => ?_)<;>(have h':=q')<;>(try simp only [za1,za2,Ba,Bb,za3,ne_eq,za4,za5,za6,Ia,Ib,Ic,Ie,Da,Bc,Bh,Be,za7,za8] at h')<;>try (exfalso; omega)) | (have q':=trivial; first | refine callX_new (c1) rfl (by decide) ?_ | refine callY_new (c1) rfl ?_ | refine hE _ _ ret_ne ?_ | refine hE _ _ exit_ne ?_))<;>(try simp (disch:=first | omega | decide +kernel) only [q',go_sem,Qa,Qb,Qc,Qd,Qe,↓reduceIte,reduceCtorEq,Qf,Qg,Qh])<;>clear q') | refine hN _ ?_ ?_ Wk.kk | with_reducible refine And.intro ?_ ?_ | with_reducible omega | exact ok_ints | exact cells_ints | exact no_mem | with_reducible exact plain_ints | (refine le_maxLen ?_; omega) | (refine za9 ⟨?_,?_⟩) | (simp only [go_sem,Qc,Qb,zb1,zb2,forall_eq]; done)))
   refine Ok.loopN [22,21,20,19,18,17,16,15,14,13,12,11,10,9,8,7,6,5,4,1] (fun i (q : List Int) => [(5,.d (.int .i64 ((i + 1 : Nat) : Int))),(4,.sl 6)]) (fun _ q => [(6,.arr 3 1 (q.map (.int .i64)))]) 10 (fun i q => q=(upL i).filter fun q => isC (q - 1).toNat (fmS s)) [] rfl (Wk.kk) ?_
   rintro R i q hM hE hi hq
   have hql : q.length<=i:=by
    rw [hq]
    have:=List.length_filter_le (fun q => isC (q - 1).toNat (fmS s)) (upL i)
    rw [upL_len] at this; exact this
   by_cases hlt : i < 10
   . have c2:=l24Is_ok i hlt s hk
     have e1 : ((i + 1 : Nat) : Int) + 1=((i + 1 + 1 : Nat) : Int):=by omega
     have hs1 : (upL (i + 1)).filter (fun q => isC (q - 1).toNat (fmS s))=q++(if isC i (fmS s) then [((i + 1 : Nat) : Int)] else []):=by
      rw [upL_succ,List.filter_append,← hq,List.filter_cons,show (((i + 1 : Nat) : Int) - 1).toNat=i by omega,List.filter_nil]
     clear hq
     cases hc : isC i (fmS s) with
     | true =>
       rw [hc] at c2 hs1
       rw [if_pos rfl] at hs1
       simp (disch:=first | omega | decide +kernel) only [e1,List.length_map,go_sem,Qa,Qb,Qc,Qd,Qe,↓reduceIte,reduceCtorEq,Qf,Qg,Qh]
       (repeat' (first | ((first | (refine gsel_split (fun q' => ?_) (fun q' => ?_)<;>(have h':=q')<;>(try simp only [za1,za2,Ba,Bb,za3,ne_eq,za4,za5,za6,Ia,Ib,Ic,Ie,Da,Bc,Bh,Be,za7,za8] at h')<;>try (exfalso; omega)) | (have q':=trivial; first | refine callX_shared (c2) rfl (by decide) ?_ | refine callY_shared (c2) rfl ?_ | refine hE _ _ ret_ne ?_ | refine hE _ _ exit_ne ?_))<;>(try simp (disch:=first | omega | decide +kernel) only [q',e1,List.length_map,go_sem,Qa,Qb,Qc,Qd,Qe,↓reduceIte,reduceCtorEq,Qf,Qg,Qh])<;>clear q') | refine hN _ ?_ ?_ Wk.kk | with_reducible refine And.intro ?_ ?_ | with_reducible omega | exact ok_ints | exact cells_ints | exact no_mem | with_reducible exact plain_ints | (refine le_maxLen ?_; omega) | (refine za9 ⟨?_,?_⟩) | (simp only [go_sem,Qc,Qb,zb1,zb2,forall_eq]; done)))
       all_goals (first | omega | (refine le_maxLen ?_; omega) | (refine hM (q++[((i + 1 : Nat) : Int)]) _ hlt hs1.symm (by refine Wk.auto ?_ ?_<;>simp [extraK,lk,killL,St.kill,wipeO,wipeS,AV.has,AV.hasL,AO.wipe,List.map_set,updSt,insL,dropS,ins,List.map_append,List.map_cons,List.map_nil]); done))
     | false =>
       rw [hc] at c2 hs1
       rw [if_neg (by simp),List.append_nil] at hs1
       simp (disch:=first | omega | decide +kernel) only [e1,List.length_map,go_sem,Qa,Qb,Qc,Qd,Qe,↓reduceIte,reduceCtorEq,Qf,Qg,Qh]
       (repeat' (first | ((first | (refine gsel_split (fun q' => ?_) (fun q' => ?_)<;>(have h':=q')<;>(try simp only [za1,za2,Ba,Bb,za3,ne_eq,za4,za5,za6,Ia,Ib,Ic,Ie,Da,Bc,Bh,Be,za7,za8] at h')<;>try (exfalso; omega)) | (have q':=trivial; first | refine callX_shared (c2) rfl (by decide) ?_ | refine callY_shared (c2) rfl ?_ | refine hE _ _ ret_ne ?_ | refine hE _ _ exit_ne ?_))<;>(try simp (disch:=first | omega | decide +kernel) only [q',e1,List.length_map,go_sem,Qa,Qb,Qc,Qd,Qe,↓reduceIte,reduceCtorEq,Qf,Qg,Qh])<;>clear q') | refine hN _ ?_ ?_ Wk.kk | with_reducible refine And.intro ?_ ?_ | with_reducible omega | exact ok_ints | exact cells_ints | exact no_mem | with_reducible exact plain_ints | (refine le_maxLen ?_; omega) | (refine za9 ⟨?_,?_⟩) | (simp only [go_sem,Qc,Qb,zb1,zb2,forall_eq]; done)))
       all_goals (first | omega | (refine le_maxLen ?_; omega) | (refine hM q _ hlt hs1.symm (by refine Wk.auto ?_ ?_<;>simp [extraK,lk,killL,St.kill,wipeO,wipeS,AV.has,AV.hasL,AO.wipe,List.map_set,updSt,insL,dropS,ins,]); done))
   . obtain rfl : i=10:=by omega
     rw [← hq] at hE
     simp (disch:=first | omega | decide +kernel) only [go_sem,Qa,Qb,Qc,Qd,Qe,↓reduceIte,reduceCtorEq,Qf,Qg,Qh]
     (repeat' (first | ((first | (refine gsel_split (fun q' => ?_) (fun q' => ?_)<;>(have h':=q')<;>(try simp only [za1,za2,Ba,Bb,za3,ne_eq,za4,za5,za6,Ia,Ib,Ic,Ie,Da,Bc,Bh,Be,za7,za8] at h')<;>try (exfalso; omega)) | (have q':=trivial; first | refine hE _ _ ret_ne ?_ | refine hE _ _ exit_ne ?_))<;>(try simp (disch:=first | omega | decide +kernel) only [q',go_sem,Qa,Qb,Qc,Qd,Qe,↓reduceIte,reduceCtorEq,Qf,Qg,Qh])<;>clear q') | refine hN _ ?_ ?_ Wk.kk | with_reducible refine And.intro ?_ ?_ | with_reducible omega | exact ok_ints | exact cells_ints | exact no_mem | with_reducible exact plain_ints | (refine le_maxLen ?_; omega) | (refine za9 ⟨?_,?_⟩) | (simp only [go_sem,Qc,Qb,zb1,zb2,forall_eq]; done)))
     all_goals (first | omega | exact ret_slS 6 rfl rfl rfl)
end Abs.Y

namespace Abs.Y
open Go Go.Proofs Abs
open Nat renaming reduceEqDiff -> Qa, reduceLT -> Qb, reduceAdd -> Qc, reduceMul -> Qd, reduceSub -> Qe, reduceLeDiff -> Qf, reduceSubDiff -> Qg, reduceBEq -> Qh
open Bool renaming not_eq_true' -> Ba, not_eq_false' -> Bb, and_eq_true -> Bc, or_eq_true -> Bh, or_eq_false_iff -> Be
open Int renaming ofNat_lt -> Ia, ofNat_le -> Ib, not_lt -> Ic, not_le -> Ie
open Decidable renaming not_not -> Da
set_option maxRecDepth 100000

theorem r_bytes {x : D} (h : isSl isU8 x) : ∃ code : List Int,x=D.bytes code∧∀ i,0<=code.getD i 0∧code.getD i 0 < 256:=by
 obtain ⟨es,rfl,_,hes⟩:=h
 have key : ∀ es : List D,(∀ e ∈ es,isU8 e)->∃ code : List Int,es=code.map (D.int .u8)∧∀ b ∈ code,0<=b∧b < 256:=by
  intro es
  induction es with
  | nil => exact fun _ => ⟨[],rfl,fun _ h => by cases h⟩
  | cons e r ih =>
    intro h
    obtain ⟨n,rfl,h1,h2⟩:=h e (by simp)
    obtain ⟨c,rfl,hc⟩:=ih fun x hx => h x (by simp [hx])
    exact ⟨n :: c,rfl,fun b hb => by
     rcases List.mem_cons.1 hb with rfl | hb
     . omega
     . exact hc b hb⟩
 obtain ⟨code,rfl,hc⟩:=key es hes
 refine ⟨code,rfl,fun i => ?_⟩
 by_cases hi : i < code.length
 . exact hc _ (getD_mem hi)
 . simp [List.getD_eq_getElem?_getD,List.getElem?_eq_none (show code.length<=i by omega)]
end Abs.Y

namespace Abs.Y
open Go Go.Proofs Abs
open Nat renaming reduceEqDiff -> Qa, reduceLT -> Qb, reduceAdd -> Qc, reduceMul -> Qd, reduceSub -> Qe, reduceLeDiff -> Qf, reduceSubDiff -> Qg, reduceBEq -> Qh
open Bool renaming not_eq_true' -> Ba, not_eq_false' -> Bb, and_eq_true -> Bc, or_eq_true -> Bh, or_eq_false_iff -> Be
open Int renaming ofNat_lt -> Ia, ofNat_le -> Ib, not_lt -> Ic, not_le -> Ie
open Decidable renaming not_not -> Da
set_option maxRecDepth 100000

theorem vBig_ok (code : List Int) : Ctr Tryd.prog 7 [D.bytes code] false (.d (.bool (decide (65536 < code.length)))) []:=by
 refine Ctr.of (n:=6) (rs:=[.tmp 2]) Tryd.func7 rfl rfl Tryd.ntmps7 rfl rfl (by kernel_rfl) Tryd.checked.mixed ?_
 simp (disch:=first | omega | decide +kernel) only [D.bytes,go_sem,Qa,Qb,Qc,Qd,Qe,↓reduceIte,reduceCtorEq,Qf,Qg,Qh]
 (repeat' (first | ((first | (refine gsel_split (fun q' => ?_) (fun q' => ?_)<;>(have h':=q')<;>(try simp only [za1,za2,Ba,Bb,za3,ne_eq,za4,za5,za6,Ia,Ib,Ic,Ie,Da,Bc,Bh,Be,za7,za8] at h')) | (have q':=trivial; first | refine hE _ _ ret_ne ?_ | refine hE _ _ exit_ne ?_))<;>(try simp (disch:=first | omega | decide +kernel) only [q',D.bytes,go_sem,Qa,Qb,Qc,Qd,Qe,↓reduceIte,reduceCtorEq,Qf,Qg,Qh])<;>clear q') | refine hN _ ?_ ?_ Wk.kk | with_reducible refine And.intro ?_ ?_ | with_reducible omega | exact ok_ints | exact cells_ints | exact no_mem | with_reducible exact plain_ints | (refine le_maxLen ?_; omega) | (refine za9 ⟨?_,?_⟩) | (simp only [go_sem,Qc,Qb,zb1,zb2,forall_eq]; done)))
 congr 1
 exact decide_eq_decide.2 (by omega)
theorem vInts_ok (a b : List Int) (hl : a.length<=4294967296) : Ctr Tryd.prog 47 [.ints a,.ints b] false (.d (.bool (decide (a=b)))) []:=by
 refine Ctr.of (n:=26) (rs:=[.tmp 4]) Tryd.func47 rfl rfl Tryd.ntmps47 rfl rfl (by kernel_rfl) Tryd.checked.mixed ?_
 simp (disch:=first | omega | decide +kernel) only [D.ints,go_sem,Qa,Qb,Qc,Qd,Qe,↓reduceIte,reduceCtorEq,Qf,Qg,Qh]
 (repeat' (first | ((first | (refine gsel_split (fun q' => ?_) (fun q' => ?_)<;>(have h':=q')<;>(try simp only [za1,za2,Ba,Bb,za3,ne_eq,za4,za5,za6,Ia,Ib,Ic,Ie,Da,Bc,Bh,Be,za7,za8] at h')) | (have q':=trivial; first | refine hE _ _ ret_ne ?_ | refine hE _ _ exit_ne ?_))<;>(try simp (disch:=first | omega | decide +kernel) only [q',go_sem,Qa,Qb,Qc,Qd,Qe,↓reduceIte,reduceCtorEq,Qf,Qg,Qh])<;>clear q') | refine hN _ ?_ ?_ Wk.kk | with_reducible refine And.intro ?_ ?_ | with_reducible omega | exact ok_ints | exact cells_ints | exact no_mem | with_reducible exact plain_ints | (refine le_maxLen ?_; omega) | (refine za9 ⟨?_,?_⟩) | (simp only [go_sem,Qc,Qb,zb1,zb2,forall_eq]; done)))
 . have : ¬ a=b:=by rintro rfl; simp at h'
   simp [this,D.plain]
 refine Ok.loopC [25,24,23,22,21,20,19,18,17,16,15,14,13,12,11,10,9,8,7,6,5,4,3,2] (fun i => [(5,.d (.int .i64 (i : Nat)))]) a.length (fun i => ∀ j,j < i->a.getD j 0=b.getD j 0) (by simp) (Wk.kk) ?_
 intro R i hN hE hi hI
 simp (disch:=first | omega | decide +kernel) only [go_sem,Qa,Qb,Qc,Qd,Qe,↓reduceIte,reduceCtorEq,Qf,Qg,Qh]
 (repeat' (first | ((first | (refine gsel_split (fun q' => ?_) (fun q' => ?_)<;>(have h':=q')<;>(try simp only [za1,za2,Ba,Bb,za3,ne_eq,za4,za5,za6,Ia,Ib,Ic,Ie,Da,Bc,Bh,Be,za7,za8] at h')) | (have q':=trivial; first | refine hE _ _ ret_ne ?_ | refine hE _ _ exit_ne ?_))<;>(try simp (disch:=first | omega | decide +kernel) only [q',go_sem,Qa,Qb,Qc,Qd,Qe,↓reduceIte,reduceCtorEq,Qf,Qg,Qh])<;>clear q') | refine hN _ ?_ ?_ Wk.kk | with_reducible refine And.intro ?_ ?_ | with_reducible omega | exact ok_ints | exact cells_ints | exact no_mem | with_reducible exact plain_ints | (refine le_maxLen ?_; omega) | (refine za9 ⟨?_,?_⟩) | (simp only [go_sem,Qc,Qb,zb1,zb2,forall_eq]; done)))
 . rename_i h1 h2
   have : ¬ a=b:=by rintro rfl; exact h' rfl
   simp [this,D.plain]
 . exact all_succ hI h'
 . rename_i h1
   have : a=b:=ext_getDz 0 (by omega) fun j hj => hI j (by omega)
   simp [this,D.plain]
theorem vHas_ok (xs : List Int) (n : Int) (hl : xs.length<=4294967296) : Ctr Tryd.prog 41 [.ints xs,.int .i64 n] false (.d (.bool (decide (n ∈ xs)))) []:=by
 have e : decide (n ∈ xs)=xs.any (· == n):=by
  cases h : xs.any (· == n)
  . simp at h; simp; exact fun h' => h _ h' rfl
  . simp at h; simpa using h
 rw [e]
 refine Ctr.of (n:=18) (rs:=[.tmp 4]) Tryd.func41 rfl rfl Tryd.ntmps41 rfl rfl (by kernel_rfl) Tryd.checked.mixed ?_
 simp (disch:=first | omega | decide +kernel) only [D.ints,go_sem,Qa,Qb,Qc,Qd,Qe,↓reduceIte,reduceCtorEq,Qf,Qg,Qh]
 refine Ok.loopC [17,16,15,14,13,12,11,10,9,8,7,6,5,4,3,2] (fun i => [(5,.d (.int .i64 (i : Nat)))]) xs.length (fun i => ∀ j,j < i->(xs.getD j 0 == n)=false) (by simp) (Wk.kk) ?_
 intro R i hN hE hi hI
 simp (disch:=first | omega | decide +kernel) only [go_sem,Qa,Qb,Qc,Qd,Qe,↓reduceIte,reduceCtorEq,Qf,Qg,Qh]
 (repeat' (first | ((first | (refine gsel_split (fun q' => ?_) (fun q' => ?_)<;>(have h':=q')<;>(try simp only [za1,za2,Ba,Bb,za3,ne_eq,za4,za5,za6,Ia,Ib,Ic,Ie,Da,Bc,Bh,Be,za7,za8] at h')) | (have q':=trivial; first | refine hE _ _ ret_ne ?_ | refine hE _ _ exit_ne ?_))<;>(try simp (disch:=first | omega | decide +kernel) only [q',go_sem,Qa,Qb,Qc,Qd,Qe,↓reduceIte,reduceCtorEq,Qf,Qg,Qh])<;>clear q') | refine hN _ ?_ ?_ Wk.kk | with_reducible refine And.intro ?_ ?_ | with_reducible omega | exact ok_ints | exact cells_ints | exact no_mem | with_reducible exact plain_ints | (refine le_maxLen ?_; omega) | (refine za9 ⟨?_,?_⟩) | (simp only [go_sem,Qc,Qb,zb1,zb2,forall_eq]; done)))
 . rename_i h1
   rw [any_true (z:=0) h1 (by simpa using h')]
 . exact all_succ hI (by simpa using h')
 . rw [any_false (z:=0) fun j hj => hI j (by omega)]
theorem caseS_ok {k : Int} {a b c : ByteArray} (h : caseG k a b c=true) : (1<=k∧k<=10)∧(caseS k a b c).size<=80∧okS (caseS k a b c)=true∧fmS (caseS k a b c)=caseF k a b c∧isC (k - 1).toNat (caseF k a b c)=true:=by
 have hS : caseS k a b c=(caseF k a b c).T:=by rw [caseS,if_pos h]
 rw [caseG] at h
 simp only [Bc,decide_eq_true_eq] at h
 obtain ⟨⟨⟨⟨⟨h1,h2⟩,ha⟩,hb⟩,hc⟩,hz⟩:=h
 have hw : (caseF k a b c).wf=true:=wf_sub (fun d => by
  unfold f3; split
  . exact (okS_spec ha).1
  . split
    . exact (okS_spec hb).1
    . exact (okS_spec hc).1) _ (sch_wf _)
 rw [hS]
 exact ⟨⟨h1,h2⟩,hz,okS_T hw hz,fmS_T hw,isC_sub _ _⟩
theorem mem_schL {k : Int} {s : ByteArray} (hk : okS s=true) (h1 : 1<=k) (h2 : k<=10) (hc : isC (k - 1).toNat (fmS s)=true) : k ∈ schL s:=by
 rw [schL_eq s hk,List.mem_filter]
 refine ⟨List.mem_map.2 ⟨(k - 1).toNat,List.mem_range.2 (by omega),by omega⟩,hc⟩
theorem schL_taut {s : ByteArray} (h : schL s ≠ []) : okS s=true∧∀ m,m < 64->(fmS s).vl (bitF m)=true:=by
 cases hk : okS s with
 | false => rw [schL,hk,if_neg (by simp)] at h; exact absurd rfl h
 | true =>
   refine ⟨rfl,fun m _ => ?_⟩
   rw [schL_eq s hk] at h
   obtain ⟨q,hq⟩:=List.exists_mem_of_ne_nil _ h
   exact isC_taut (List.mem_filter.1 hq).2 _
theorem schL_len (s : ByteArray) : (schL s).length<=10:=by
 rw [schL]
 split
 . have:=List.length_filter_le (fun q => !(!isC (q - 1).toNat (fmS s))) (upL 10)
   rw [upL_len] at this; exact this
 . simp
theorem sub_id : ∀ x : Fm,x.abc=true->x.sub (f3 fA fB fC)=x
 | .lf c, h => by
   rw [Fm.sub]
   split
   . rename_i hL
     rcases abc_let h hL with rfl | rfl | rfl<;>rfl
   . rfl
 | .ng a,h => by rw [Fm.sub,sub_id a h]
 | .jn o a b, h => by
   have h' : (a.abc && b.abc)=true:=h
   simp only [Bc] at h'
   rw [Fm.sub,sub_id a h'.1,sub_id b h'.2]
theorem case_abc {k : Int} (h1 : 1<=k) (h2 : k<=10) : caseS k ⟨#[97]⟩ ⟨#[98]⟩ ⟨#[99]⟩=schS k∧caseG k ⟨#[97]⟩ ⟨#[98]⟩ ⟨#[99]⟩=true:=by
 have ea : (⟨#[97]⟩ : ByteArray)=fA.T:=rfl
 have eb : (⟨#[98]⟩ : ByteArray)=fB.T:=rfl
 have ec : (⟨#[99]⟩ : ByteArray)=fC.T:=rfl
 have hF : caseF k fA.T fB.T fC.T=sch (k - 1).toNat:=by
  rw [caseF,fmS_T rfl,fmS_T rfl,fmS_T rfl,sub_id _ (sch_abc _)]
 have hz:=sch_sz (k - 1).toNat
 have hG : caseG k fA.T fB.T fC.T=true:=by
  rw [caseG,hF,okS_T rfl (by decide),okS_T rfl (by decide),okS_T rfl (by decide),decide_eq_true h1,decide_eq_true h2,decide_eq_true (by omega)]; rfl
 rw [ea,eb,ec]
 exact ⟨by rw [caseS,if_pos hG,hF,schS,if_pos ⟨h1,h2⟩],hG⟩
end Abs.Y
