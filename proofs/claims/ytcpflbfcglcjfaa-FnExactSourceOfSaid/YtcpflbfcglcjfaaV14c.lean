/- What functions of this program compute, over plain data. No condition. -/
import Derived.Test.YtcpflbfcglcjfaaV13c
set_option linter.all false
namespace Abs
open Go Go.RowKit
theorem retQ_s4 {P : Program} {t1 t2 t3 t4 : Nat} {y z : D} {e1 e0 : List D} {st : St} (i1 i0 : Nat) (hne : i1 ≠ i0) (h1 : lk t1 st.s=some (.sl i1)) (h2 : lk t2 st.s=some (.sl i0)) (h3 : lk t3 st.s=some (.d y)) (h4 : lk t4 st.s=some (.d z)) (o1 : lk i1 st.o=some (.dp none e1 none)) (o0 : lk i0 st.o=some (.dp none e0 none)) (hy : y.plain=true) (hz : z.plain=true) :
 retQ P [.tmp t1,.tmp t2,.tmp t3,.tmp t4] false (.tup [.sl 1,.sl 0,.d y,.d z]) [(1,.dp none e1 none),(0,.dp none e0 none)] .ret st:=by
 refine .inl ?_
 simp only [retO,resV,h1,h2,h3,h4]
 refine ⟨trivial,⟨nth [i0,i1],rfl,?_,?_⟩,.inr ⟨⟨trivial,trivial,hy,hz,trivial⟩,trivial,trivial,trivial⟩⟩
 . intro p hp
   simp only [List.mem_cons,List.not_mem_nil,or_false] at hp
   rcases hp with rfl | rfl
   . exact o1
   . exact o0
 . intro p hp q hq e
   simp only [List.mem_cons,List.not_mem_nil,or_false] at hp hq
   rcases hp with rfl | rfl<;>rcases hq with rfl | rfl
   . rfl
   . exact absurd e hne
   . exact absurd e.symm hne
   . rfl
end Abs
namespace Abs.Y
open Go Go.Proofs Abs
open Nat renaming reduceEqDiff -> Qa, reduceLT -> Qb, reduceAdd -> Qc, reduceMul -> Qd, reduceSub -> Qe, reduceLeDiff -> Qf, reduceSubDiff -> Qg, reduceBEq -> Qh
open Bool renaming not_eq_true' -> Ba, not_eq_false' -> Bb, and_eq_true -> Bc, or_eq_true -> Bd, or_eq_false_iff -> Be
open Int renaming ofNat_lt -> Ia, ofNat_le -> Ib, not_lt -> Ic, not_le -> Ie
open Decidable renaming not_not -> Da
set_option maxRecDepth 100000

def srcG (v : Int) (cs : List (List Int)) (w : Int) (c : List Int) : Bool:=goodN v cs w && okClause v c
theorem srcG_g6 {v : Int} {cs : List (List Int)} {w : Int} {c : List Int} (h : srcG v cs w c=true) : goodN v cs w=true∧G6 c:=by
 rw [srcG,Bc] at h
 obtain ⟨h1,h2⟩:=h
 refine ⟨h1,good_of_ok h2,?_⟩
 obtain ⟨_,_,_,h3,h4,_⟩:=good6 h1
 intro x hx
 simp only [okClause,Bc,decide_eq_true_eq] at h2
 obtain ⟨j,hj,rfl⟩:=List.getElem_of_mem hx
 have h9:=(h2.2 j hj).1
 simp only [List.getD_eq_getElem?_getD,List.getElem?_eq_getElem hj,Option.getD_some] at h9
 omega
set_option maxHeartbeats 8000000 in
theorem implSrc_ok {v : Int} {cs : List (List Int)} {w : Int} {c x y : List Int} {u : Int} {k : Nat} (h : srcG v cs w c=true) (hc : NewC cs w.toNat (k + 1) c) (hs : SrcP cs w.toNat k c x y u) :
 Ctr Try.prog 42 [.agg [.int .i64 v,.slice (cs.map D.ints)],.int .i64 w,.ints c] false (.tup [.sl 1,.sl 0,.d (.int .i64 u),.d (.bool true)]) [(1,.dp none (x.map (.int .i64)) none),(0,.dp none (y.map (.int .i64)) none)]:=by
 obtain ⟨hgd,gc⟩:=srcG_g6 h
 obtain ⟨g1,g2,g3,g4⟩:=good6 hgd
 have hcx : ∀ j,(cs.getD j []).length<=100:=fun j => by
  by_cases hj : j < cs.length
  . have:=g6_len (g1 _ (getD_mem (z:=([] : List Int)) hj)); omega
  . rw [List.getD_eq_getElem?_getD,List.getElem?_eq_none (by omega)]; simp
 have c1:=narrowOk_ok v cs w (by omega) fun j => by have:=hcx j; omega
 rw [hgd] at c1
 have c2:=isClause_ok v c (by have:=g6_len gc; omega)
 rw [srcG,hgd,Bool.true_and] at h
 rw [h] at c2
 obtain ⟨w,rfl⟩ : ∃ n : Nat,w=n:=⟨w.toNat,by omega⟩
 rw [Int.toNat_natCast] at *
 have c3:=closureOf_ok (vv:=v) g1 g2 hcx (show w<=6 by omega)
 refine Ctr.ofK (n:=42) (rs:=[.tmp 6,.tmp 7,.tmp 8,.tmp 9]) Try.func42 rfl rfl Try.ntmps42 rfl rfl (by kernel_rfl) Try.checked.mixed ?_
 refine Ok.seq (Ok.go ?_)
 simp (disch:=first | omega | decide +kernel) only [go_sem,Qa,Qb,Qc,Qd,Qe,↓reduceIte,reduceCtorEq,Qf,Qg,Qh]
 refine Ok.seq (Ok.go ?_)
 simp (disch:=first | omega | decide +kernel) only [go_sem,Qa,Qb,Qc,Qd,Qe,↓reduceIte,reduceCtorEq,Qf,Qg,Qh]
 (repeat' (first | ((first | (refine gsel_split (fun q' => ?_) (fun q' => ?_)<;>(have h':=q')<;>(try simp only [za1,za2,Ba,Bb,za3,ne_eq,za4,za5,za6,Ia,Ib,Ic,Ie,Da,Bc,Bd,Be,za7,za8] at h')<;>try (exfalso; omega)) | (have q':=trivial; first | refine callX_new (c1) rfl (by decide) ?_ | refine callY_new (c1) rfl ?_ | refine callX_new (c2) rfl (by decide) ?_ | refine callY_new (c2) rfl ?_ | refine hE _ _ ret_ne ?_ | refine hE _ _ exit_ne ?_))<;>(try simp (disch:=first | omega | decide +kernel) only [q',go_sem,Qa,Qb,Qc,Qd,Qe,↓reduceIte,reduceCtorEq,Qf,Qg,Qh])<;>clear q') | refine hN _ ?_ ?_ Wk.kk | with_reducible refine And.intro ?_ ?_ | with_reducible omega | (refine le_maxLen ?_; omega) | (refine za9 ⟨?_,?_⟩)))
 refine Ok.seq (Ok.go ?_)
 simp (disch:=first | omega | decide +kernel) only [go_sem,Qa,Qb,Qc,Qd,Qe,↓reduceIte,reduceCtorEq,Qf,Qg,Qh]
 (repeat' (first | ((first | (refine gsel_split (fun q' => ?_) (fun q' => ?_)<;>(have h':=q')<;>(try simp only [za1,za2,Ba,Bb,za3,ne_eq,za4,za5,za6,Ia,Ib,Ic,Ie,Da,Bc,Bd,Be,za7,za8] at h')<;>try (exfalso; omega)) | (have q':=trivial; first | refine hE _ _ ret_ne ?_ | refine hE _ _ exit_ne ?_))<;>(try simp (disch:=first | omega | decide +kernel) only [q',go_sem,Qa,Qb,Qc,Qd,Qe,↓reduceIte,reduceCtorEq,Qf,Qg,Qh])<;>clear q') | refine hN _ ?_ ?_ Wk.kk | with_reducible refine And.intro ?_ ?_ | with_reducible omega | (refine le_maxLen ?_; omega) | (refine za9 ⟨?_,?_⟩)))
 refine callX_rel [] [] [] c3 ⟨.inl rfl,.inl rfl,trivial⟩ trivial (by simp [namesI,keysO]) (by simp [dstB]) ?_
 rintro _ _ ⟨L,last,hF,rfl,rfl⟩
 refine ⟨by simp [namesOK,keysO],?_⟩
 have c4:=round_ok L last c gc
 rw [(rnd_new g1 hF gc).1 _ hc] at c4
 have c5:=source_ok g1 hF hc hs
 generalize D.clo L last=dc at *
 simp (disch:=first | omega | decide +kernel) only [go_sem,Qa,Qb,Qc,Qd,Qe,↓reduceIte,reduceCtorEq,Qf,Qg,Qh]
 refine Ok.go ?_
 simp (disch:=first | omega | decide +kernel) only [D.ints,go_sem,Qa,Qb,Qc,Qd,Qe,↓reduceIte,reduceCtorEq,Qf,Qg,Qh]
 (repeat' (first | ((first | (refine gsel_split (fun q' => ?_) (fun q' => ?_)<;>(have h':=q')<;>(try simp only [za1,za2,Ba,Bb,za3,ne_eq,za4,za5,za6,Ia,Ib,Ic,Ie,Da,Bc,Bd,Be,za7,za8] at h')<;>try (exfalso; omega)) | (have q':=trivial; first | refine callX_new (c4) rfl (by decide) ?_ | refine callY_new (c4) rfl ?_ | refine callX_new (c5) rfl (by decide) ?_ | refine callY_new (c5) rfl ?_ | refine hE _ _ ret_ne ?_ | refine hE _ _ exit_ne ?_))<;>(try simp (disch:=first | omega | decide +kernel) only [q',D.ints,go_sem,Qa,Qb,Qc,Qd,Qe,↓reduceIte,reduceCtorEq,Qf,Qg,Qh])<;>clear q') | refine hN _ ?_ ?_ Wk.kk | with_reducible refine And.intro ?_ ?_ | with_reducible omega | (refine le_maxLen ?_; omega) | (refine za9 ⟨?_,?_⟩)))
 exact retQ_s4 3600001 3600000 (by decide) rfl rfl rfl rfl rfl rfl rfl rfl
set_option maxHeartbeats 8000000 in
theorem implSrcF_ok {v : Int} {cs : List (List Int)} {w : Int} {c : List Int} (h : ¬ (srcG v cs w c=true∧∃ k,NewC cs w.toNat (k + 1) c)) (hl : cs.length<=1048576) (hc : ∀ j,(cs.getD j []).length<=1048576) (hcl : c.length<=1048576) :
 Ctr Try.prog 42 [.agg [.int .i64 v,.slice (cs.map D.ints)],.int .i64 w,.ints c] false (.tup [.sl 1,.sl 0,.d (.int .i64 0),.d (.bool false)]) [(1,.dp none [] none),(0,.dp none [] none)]:=by
 have c1:=narrowOk_ok v cs w (by omega) fun j => by have:=hc j; omega
 have c2:=isClause_ok v c (by omega)
 cases hs : srcG v cs w c with
 | false =>
   rw [srcG] at hs
   refine Ctr.ofK (n:=42) (rs:=[.tmp 6,.tmp 7,.tmp 8,.tmp 9]) Try.func42 rfl rfl Try.ntmps42 rfl rfl (by kernel_rfl) Try.checked.mixed ?_
   refine Ok.endsW ?_
   refine Ok.go ?_
   cases hb : goodN v cs w<;>rw [hb] at c1 hs
   all_goals
    (first | rw [Bool.true_and] at hs; rw [hs] at c2 | skip)
    simp (disch:=first | omega | decide +kernel) only [D.ints,go_sem,Qa,Qb,Qc,Qd,Qe,↓reduceIte,reduceCtorEq,Qf,Qg,Qh]
    (repeat' (first | ((first | (refine gsel_split (fun q' => ?_) (fun q' => ?_)<;>(have h':=q')<;>(try simp only [za1,za2,Ba,Bb,za3,ne_eq,za4,za5,za6,Ia,Ib,Ic,Ie,Da,Bc,Bd,Be,za7,za8] at h')) | (have q':=trivial; first | refine callX_new (c1) rfl (by decide) ?_ | refine callY_new (c1) rfl ?_ | refine callX_new (c2) rfl (by decide) ?_ | refine callY_new (c2) rfl ?_ | refine hE _ _ ret_ne ?_ | refine hE _ _ exit_ne ?_))<;>(try simp (disch:=first | omega | decide +kernel) only [q',D.ints,go_sem,Qa,Qb,Qc,Qd,Qe,↓reduceIte,reduceCtorEq,Qf,Qg,Qh])<;>clear q') | refine hN _ ?_ ?_ Wk.kk | with_reducible refine And.intro ?_ ?_ | with_reducible omega | exact ok_ints | exact cells_ints | exact no_mem | with_reducible exact plain_ints | (refine le_maxLen ?_; omega) | (refine za9 ⟨?_,?_⟩) | (simp only [go_sem,Qc,Qb,zb1,zb2,forall_eq]; done)))
    all_goals exact ⟨_,(Wk.deep 7 rfl (by simp [flat])).trans ((Wk.deep 6 rfl (by simp [flat])).trans ((Wk.loose 7 rfl).trans (Wk.loose 6 rfl))),retQ_s4 6 7 (by decide) rfl rfl rfl rfl rfl rfl rfl rfl⟩
 | true =>
   obtain ⟨hgd,gc⟩:=srcG_g6 hs
   obtain ⟨g1,g2,g3,g4⟩:=good6 hgd
   rw [hgd] at c1
   rw [srcG,hgd,Bool.true_and] at hs
   rw [hs] at c2
   have hno : ∀ k,¬ NewC cs w.toNat (k + 1) c:=fun k hk => h ⟨by rw [srcG,hgd,hs]; rfl,k,hk⟩
   have hcx : ∀ j,(cs.getD j []).length<=100:=fun j => by
    by_cases hj : j < cs.length
    . have:=g6_len (g1 _ (getD_mem (z:=([] : List Int)) hj)); omega
    . rw [List.getD_eq_getElem?_getD,List.getElem?_eq_none (by omega)]; simp
   obtain ⟨w,rfl⟩ : ∃ n : Nat,w=n:=⟨w.toNat,by omega⟩
   rw [Int.toNat_natCast] at *
   have c3:=closureOf_ok (vv:=v) g1 g2 hcx (show w<=6 by omega)
   refine Ctr.ofK (n:=42) (rs:=[.tmp 6,.tmp 7,.tmp 8,.tmp 9]) Try.func42 rfl rfl Try.ntmps42 rfl rfl (by kernel_rfl) Try.checked.mixed ?_
   refine Ok.endsW ?_
   refine Ok.seq (Ok.go ?_)
   simp (disch:=first | omega | decide +kernel) only [go_sem,Qa,Qb,Qc,Qd,Qe,↓reduceIte,reduceCtorEq,Qf,Qg,Qh]
   refine Ok.seq (Ok.go ?_)
   simp (disch:=first | omega | decide +kernel) only [go_sem,Qa,Qb,Qc,Qd,Qe,↓reduceIte,reduceCtorEq,Qf,Qg,Qh]
   (repeat' (first | ((first | (refine gsel_split (fun q' => ?_) (fun q' => ?_)<;>(have h':=q')<;>(try simp only [za1,za2,Ba,Bb,za3,ne_eq,za4,za5,za6,Ia,Ib,Ic,Ie,Da,Bc,Bd,Be,za7,za8] at h')<;>try (exfalso; omega)) | (have q':=trivial; first | refine callX_new (c1) rfl (by decide) ?_ | refine callY_new (c1) rfl ?_ | refine callX_new (c2) rfl (by decide) ?_ | refine callY_new (c2) rfl ?_ | refine hE _ _ ret_ne ?_ | refine hE _ _ exit_ne ?_))<;>(try simp (disch:=first | omega | decide +kernel) only [q',go_sem,Qa,Qb,Qc,Qd,Qe,↓reduceIte,reduceCtorEq,Qf,Qg,Qh])<;>clear q') | refine hN _ ?_ ?_ Wk.kk | with_reducible refine And.intro ?_ ?_ | with_reducible omega | (refine le_maxLen ?_; omega) | (refine za9 ⟨?_,?_⟩)))
   refine Ok.seq (Ok.go ?_)
   simp (disch:=first | omega | decide +kernel) only [go_sem,Qa,Qb,Qc,Qd,Qe,↓reduceIte,reduceCtorEq,Qf,Qg,Qh]
   (repeat' (first | ((first | (refine gsel_split (fun q' => ?_) (fun q' => ?_)<;>(have h':=q')<;>(try simp only [za1,za2,Ba,Bb,za3,ne_eq,za4,za5,za6,Ia,Ib,Ic,Ie,Da,Bc,Bd,Be,za7,za8] at h')<;>try (exfalso; omega)) | (have q':=trivial; first | refine hE _ _ ret_ne ?_ | refine hE _ _ exit_ne ?_))<;>(try simp (disch:=first | omega | decide +kernel) only [q',go_sem,Qa,Qb,Qc,Qd,Qe,↓reduceIte,reduceCtorEq,Qf,Qg,Qh])<;>clear q') | refine hN _ ?_ ?_ Wk.kk | with_reducible refine And.intro ?_ ?_ | with_reducible omega | (refine le_maxLen ?_; omega) | (refine za9 ⟨?_,?_⟩)))
   refine callX_rel [] [] [] c3 ⟨.inl rfl,.inl rfl,trivial⟩ trivial (by simp [namesI,keysO]) (by simp [dstB]) ?_
   rintro _ _ ⟨L,last,hF,rfl,rfl⟩
   refine ⟨by simp [namesOK,keysO],?_⟩
   have c4:=round_ok L last c gc
   have hr : rndOf L c < 1:=by
    obtain ⟨r1,r2⟩:=rnd_new g1 hF gc
    by_cases h0 : NewC cs w 0 c
    . rw [r1 0 h0]; omega
    . rw [r2 fun k hk => by cases k with
       | zero => exact h0 hk
       | succ k => exact hno k hk]
      omega
   generalize D.clo L last=dc at *
   generalize rndOf L c=rr at *
   simp (disch:=first | omega | decide +kernel) only [go_sem,Qa,Qb,Qc,Qd,Qe,↓reduceIte,reduceCtorEq,Qf,Qg,Qh]
   refine Ok.go ?_
   simp (disch:=first | omega | decide +kernel) only [D.ints,go_sem,Qa,Qb,Qc,Qd,Qe,↓reduceIte,reduceCtorEq,Qf,Qg,Qh]
   (repeat' (first | ((first | (refine gsel_split (fun q' => ?_) (fun q' => ?_)<;>(have h':=q')<;>(try simp only [za1,za2,Ba,Bb,za3,ne_eq,za4,za5,za6,Ia,Ib,Ic,Ie,Da,Bc,Bd,Be,za7,za8] at h')<;>try (exfalso; omega)) | (have q':=trivial; first | refine callX_new (c4) rfl (by decide) ?_ | refine callY_new (c4) rfl ?_ | refine hE _ _ ret_ne ?_ | refine hE _ _ exit_ne ?_))<;>(try simp (disch:=first | omega | decide +kernel) only [q',D.ints,go_sem,Qa,Qb,Qc,Qd,Qe,↓reduceIte,reduceCtorEq,Qf,Qg,Qh])<;>clear q') | refine hN _ ?_ ?_ Wk.kk | with_reducible refine And.intro ?_ ?_ | with_reducible omega | (refine le_maxLen ?_; omega) | (refine za9 ⟨?_,?_⟩)))
   all_goals exact ⟨_,(Wk.deep 7 rfl (by simp [flat])).trans ((Wk.deep 6 rfl (by simp [flat])).trans ((Wk.loose 7 rfl).trans (Wk.loose 6 rfl))),retQ_s4 6 7 (by decide) rfl rfl rfl rfl rfl rfl rfl rfl⟩
end Abs.Y
