/- What functions of this program compute, over plain data. No condition. -/
import Derived.Test.YtiafnejjhnjbfaaDoorFQ9
import Derived.Test.YtiafnejjhnjbfaaDoorFQ4
set_option linter.all false
namespace Abs.Y
open Go Go.Proofs Abs
open Nat renaming reduceEqDiff -> Qa, reduceLT -> Qb, reduceAdd -> Qc, reduceMul -> Qd, reduceSub -> Qe, reduceLeDiff -> Qf, reduceSubDiff -> Qg, reduceBEq -> Qh
open Bool renaming not_eq_true' -> Ba, not_eq_false' -> Bb, and_eq_true -> Bc, or_eq_true -> Bh, or_eq_false_iff -> Be
open Int renaming ofNat_lt -> Ia, ofNat_le -> Ib, not_lt -> Ic, not_le -> Ie
open Decidable renaming not_not -> Da
set_option maxRecDepth 100000

noncomputable def polG (s l : ByteArray) : Bool:=negG s && letS l
noncomputable def polV (s l : ByteArray) : Int:=if polG s l then polF ((BL l).getD 0 0) (negF s) else 0
set_option maxHeartbeats 8000000 in
theorem PolarityOf_ok (s l : ByteArray) (hs : s.size<=100000) (hl : l.size<=100000) :
 Ctr Tryd.prog 7 [.str s,.str l] true (.tup [.d (.int .i64 (polV s l)),.d (.bool (polG s l))]) []:=by
 have c1:=NegationForm_ok s (by omega)
 have t0 : Int.toNat 0=0:=rfl
 cases hn : negG s with
 | false =>
   rw [hn] at c1
   have hg : polG s l=false:=by rw [polG,hn]; rfl
   rw [polV,hg,if_neg (by simp)]
   generalize negS s=form at *
   refine Ctr.of (n:=45) (rs:=[.tmp 4,.tmp 5]) Tryd.func7 rfl rfl Tryd.ntmps7 rfl rfl (by kernel_rfl) Tryd.checked.mixed ?_
   simp (disch:=first | omega | decide +kernel) only [go_sem,Qa,Qb,Qc,Qd,Qe,↓reduceIte,reduceCtorEq,Qf,Qg,Qh]
   (repeat' (first | ((first | (refine gsel_split (fun q' => ?_) (fun q' => ?_)<;>(have h':=q')<;>(try simp only [za1,za2,Ba,Bb,za3,ne_eq,za4,za5,za6,Ia,Ib,Ic,Ie,Da,Bc,Bh,Be,za7,za8] at h')<;>try (exfalso; omega)) | (have q':=trivial; first | refine callX_shared (c1) rfl (by decide) ?_ | refine callY_shared (c1) rfl ?_ | refine hE _ _ ret_ne ?_ | refine hE _ _ exit_ne ?_))<;>(try simp (disch:=first | omega | decide +kernel) only [q',go_sem,Qa,Qb,Qc,Qd,Qe,↓reduceIte,reduceCtorEq,Qf,Qg,Qh])<;>clear q') | refine hN _ ?_ ?_ Wk.kk | with_reducible refine And.intro ?_ ?_ | with_reducible omega | exact ok_ints | exact cells_ints | exact no_mem | with_reducible exact plain_ints | (refine le_maxLen ?_; omega) | (refine za9 ⟨?_,?_⟩) | (simp only [go_sem,Qc,Qb,zb1,zb2,forall_eq]; done)))
   all_goals (first | omega | assumption | rfl | exact absurd trivial ‹¬True› | exact ret_s2 [] rfl rfl)
 | true =>
   rw [hn] at c1
   have cl:=isLetter_ok ((BL l).getD 0 0)
   cases hL : letS l with
   | false =>
     have hg : polG s l=false:=by rw [polG,hn,hL]; rfl
     rw [polV,hg,if_neg (by simp)]
     generalize negS s=form at *
     by_cases hz : l.size=1
     . have hl' : isLet ((BL l).getD 0 0)=false:=by
        rw [letS,decide_eq_true hz,Bool.true_and] at hL
        exact hL
       rw [hl'] at cl
       obtain ⟨d,hd⟩ : ∃ d,d=(BL l).getD 0 0:=⟨_,rfl⟩
       rw [← hd] at cl
       have e0 : l.data.toList.getD 0 0=d:=hd.symm
       refine Ctr.of (n:=45) (rs:=[.tmp 4,.tmp 5]) Tryd.func7 rfl rfl Tryd.ntmps7 rfl rfl (by kernel_rfl) Tryd.checked.mixed ?_
       simp (disch:=first | omega | decide +kernel) only [hz,e0,t0,go_sem,Qa,Qb,Qc,Qd,Qe,↓reduceIte,reduceCtorEq,Qf,Qg,Qh]
       (repeat' (first | ((first | (refine gsel_split (fun q' => ?_) (fun q' => ?_)<;>(have h':=q')<;>(try simp only [za1,za2,Ba,Bb,za3,ne_eq,za4,za5,za6,Ia,Ib,Ic,Ie,Da,Bc,Bh,Be,za7,za8] at h')<;>try (exfalso; omega)) | (have q':=trivial; first | refine callX_shared (c1) rfl (by decide) ?_ | refine callY_shared (c1) rfl ?_ | refine callX_new (cl) rfl (by decide) ?_ | refine callY_new (cl) rfl ?_ | refine hE _ _ ret_ne ?_ | refine hE _ _ exit_ne ?_))<;>(try simp (disch:=first | omega | decide +kernel) only [q',hz,e0,t0,go_sem,Qa,Qb,Qc,Qd,Qe,↓reduceIte,reduceCtorEq,Qf,Qg,Qh])<;>clear q') | refine hN _ ?_ ?_ Wk.kk | with_reducible refine And.intro ?_ ?_ | with_reducible omega | exact ok_ints | exact cells_ints | exact no_mem | with_reducible exact plain_ints | (refine le_maxLen ?_; omega) | (refine za9 ⟨?_,?_⟩) | (simp only [go_sem,Qc,Qb,zb1,zb2,forall_eq]; done)))
       all_goals (first | omega | assumption | rfl | exact absurd trivial ‹¬True› | exact ret_s2 [] rfl rfl)
     . refine Ctr.of (n:=45) (rs:=[.tmp 4,.tmp 5]) Tryd.func7 rfl rfl Tryd.ntmps7 rfl rfl (by kernel_rfl) Tryd.checked.mixed ?_
       simp (disch:=first | omega | decide +kernel) only [go_sem,Qa,Qb,Qc,Qd,Qe,↓reduceIte,reduceCtorEq,Qf,Qg,Qh]
       (repeat' (first | ((first | (refine gsel_split (fun q' => ?_) (fun q' => ?_)<;>(have h':=q')<;>(try simp only [za1,za2,Ba,Bb,za3,ne_eq,za4,za5,za6,Ia,Ib,Ic,Ie,Da,Bc,Bh,Be,za7,za8] at h')<;>try (exfalso; omega)) | (have q':=trivial; first | refine callX_shared (c1) rfl (by decide) ?_ | refine callY_shared (c1) rfl ?_ | refine hE _ _ ret_ne ?_ | refine hE _ _ exit_ne ?_))<;>(try simp (disch:=first | omega | decide +kernel) only [q',go_sem,Qa,Qb,Qc,Qd,Qe,↓reduceIte,reduceCtorEq,Qf,Qg,Qh])<;>clear q') | refine hN _ ?_ ?_ Wk.kk | with_reducible refine And.intro ?_ ?_ | with_reducible omega | exact ok_ints | exact cells_ints | exact no_mem | with_reducible exact plain_ints | (refine le_maxLen ?_; omega) | (refine za9 ⟨?_,?_⟩) | (simp only [go_sem,Qc,Qb,zb1,zb2,forall_eq]; done)))
       all_goals (first | omega | assumption | rfl | exact absurd trivial ‹¬True› | exact ret_s2 [] rfl rfl)
   | true =>
     have hg : polG s l=true:=by rw [polG,hn,hL]; rfl
     have hok : okS s=true:=by
      rw [negG,Bc] at hn; exact hn.1
     obtain ⟨nw,nz,_⟩:=negF_ok hok
     have nnn : (negF s).nn=true:=sg_nn _ _ (okS_spec hok).1
     have hS : negS s=(negF s).T:=by rw [negS,hn,if_pos rfl]
     obtain ⟨d,rfl,hd,hdd⟩:=letS_sp hL
     rw [hdd,hd] at cl
     have c2:=Count1_ok (negF s).T d
     have c3:=Count2_ok (negF s).T _ d (let_b hd).1 (by omega) rfl
     rw [BL_T,cn_all hd _ nw] at c2
     have h2:=cn_two hd (negF s) [] nw nnn
     rw [List.append_nil] at h2
     rw [BL_T,h2,show Abs.Y.c2 d []=0 from rfl,Nat.add_zero] at c3
     rw [polV,hg,if_pos rfl,hdd,polF]
     rw [hS] at c1
     generalize (negF s).T=form at *
     generalize (negF s).cn d true=a at *
     generalize (negF s).cn d false=b at *
     have hz : (ByteArray.mk #[d]).size=1:=rfl
     have hz' : (ByteArray.mk #[126]).size=1:=rfl
     have e0 : (ByteArray.mk #[d]).data.toList.getD 0 0=d:=rfl
     clear h2
     by_cases ha : a=0<;>by_cases hb : b=0
     . rw [if_pos ha,if_pos hb]
       refine Ctr.of (n:=45) (rs:=[.tmp 4,.tmp 5]) Tryd.func7 rfl rfl Tryd.ntmps7 rfl rfl (by kernel_rfl) Tryd.checked.mixed ?_
       simp (disch:=first | omega | decide +kernel) only [hz,e0,t0,go_sem,Qa,Qb,Qc,Qd,Qe,↓reduceIte,reduceCtorEq,Qf,Qg,Qh]
       (repeat' (first | ((first | (refine gsel_split (fun q' => ?_) (fun q' => ?_)<;>(have h':=q')<;>(try simp only [za1,za2,Ba,Bb,za3,ne_eq,za4,za5,za6,Ia,Ib,Ic,Ie,Da,Bc,Bh,Be,za7,za8] at h')<;>try (exfalso; omega)) | (have q':=trivial; first | refine callX_shared (c1) rfl (by decide) ?_ | refine callY_shared (c1) rfl ?_ | refine callX_new (cl) rfl (by decide) ?_ | refine callY_new (cl) rfl ?_ | refine callX_new (c2) rfl (by decide) ?_ | refine callY_new (c2) rfl ?_ | refine callX_new (c3) rfl (by decide) ?_ | refine callY_new (c3) rfl ?_ | refine hE _ _ ret_ne ?_ | refine hE _ _ exit_ne ?_))<;>(try simp (disch:=first | omega | decide +kernel) only [q',hz,hz',e0,t0,go_sem,Qa,Qb,Qc,Qd,Qe,↓reduceIte,reduceCtorEq,Qf,Qg,Qh])<;>clear q') | refine hN _ ?_ ?_ Wk.kk | with_reducible refine And.intro ?_ ?_ | with_reducible omega | exact ok_ints | exact cells_ints | exact no_mem | with_reducible exact plain_ints | (refine le_maxLen ?_; omega) | (refine za9 ⟨?_,?_⟩) | (simp only [go_sem,Qc,Qb,zb1,zb2,forall_eq]; done)))
       all_goals (first | omega | assumption | rfl | exact absurd trivial ‹¬True› | exact ret_s2 [] rfl rfl)
     . rw [if_pos ha,if_neg hb]
       refine Ctr.of (n:=45) (rs:=[.tmp 4,.tmp 5]) Tryd.func7 rfl rfl Tryd.ntmps7 rfl rfl (by kernel_rfl) Tryd.checked.mixed ?_
       simp (disch:=first | omega | decide +kernel) only [hz,e0,t0,go_sem,Qa,Qb,Qc,Qd,Qe,↓reduceIte,reduceCtorEq,Qf,Qg,Qh]
       (repeat' (first | ((first | (refine gsel_split (fun q' => ?_) (fun q' => ?_)<;>(have h':=q')<;>(try simp only [za1,za2,Ba,Bb,za3,ne_eq,za4,za5,za6,Ia,Ib,Ic,Ie,Da,Bc,Bh,Be,za7,za8] at h')<;>try (exfalso; omega)) | (have q':=trivial; first | refine callX_shared (c1) rfl (by decide) ?_ | refine callY_shared (c1) rfl ?_ | refine callX_new (cl) rfl (by decide) ?_ | refine callY_new (cl) rfl ?_ | refine callX_new (c2) rfl (by decide) ?_ | refine callY_new (c2) rfl ?_ | refine callX_new (c3) rfl (by decide) ?_ | refine callY_new (c3) rfl ?_ | refine hE _ _ ret_ne ?_ | refine hE _ _ exit_ne ?_))<;>(try simp (disch:=first | omega | decide +kernel) only [q',hz,hz',e0,t0,go_sem,Qa,Qb,Qc,Qd,Qe,↓reduceIte,reduceCtorEq,Qf,Qg,Qh])<;>clear q') | refine hN _ ?_ ?_ Wk.kk | with_reducible refine And.intro ?_ ?_ | with_reducible omega | exact ok_ints | exact cells_ints | exact no_mem | with_reducible exact plain_ints | (refine le_maxLen ?_; omega) | (refine za9 ⟨?_,?_⟩) | (simp only [go_sem,Qc,Qb,zb1,zb2,forall_eq]; done)))
       all_goals (first | omega | assumption | rfl | exact absurd trivial ‹¬True› | exact ret_s2 [] rfl rfl)
     . rw [if_neg ha,if_pos hb]
       refine Ctr.of (n:=45) (rs:=[.tmp 4,.tmp 5]) Tryd.func7 rfl rfl Tryd.ntmps7 rfl rfl (by kernel_rfl) Tryd.checked.mixed ?_
       simp (disch:=first | omega | decide +kernel) only [hz,e0,t0,go_sem,Qa,Qb,Qc,Qd,Qe,↓reduceIte,reduceCtorEq,Qf,Qg,Qh]
       (repeat' (first | ((first | (refine gsel_split (fun q' => ?_) (fun q' => ?_)<;>(have h':=q')<;>(try simp only [za1,za2,Ba,Bb,za3,ne_eq,za4,za5,za6,Ia,Ib,Ic,Ie,Da,Bc,Bh,Be,za7,za8] at h')<;>try (exfalso; omega)) | (have q':=trivial; first | refine callX_shared (c1) rfl (by decide) ?_ | refine callY_shared (c1) rfl ?_ | refine callX_new (cl) rfl (by decide) ?_ | refine callY_new (cl) rfl ?_ | refine callX_new (c2) rfl (by decide) ?_ | refine callY_new (c2) rfl ?_ | refine callX_new (c3) rfl (by decide) ?_ | refine callY_new (c3) rfl ?_ | refine hE _ _ ret_ne ?_ | refine hE _ _ exit_ne ?_))<;>(try simp (disch:=first | omega | decide +kernel) only [q',hz,hz',e0,t0,go_sem,Qa,Qb,Qc,Qd,Qe,↓reduceIte,reduceCtorEq,Qf,Qg,Qh])<;>clear q') | refine hN _ ?_ ?_ Wk.kk | with_reducible refine And.intro ?_ ?_ | with_reducible omega | exact ok_ints | exact cells_ints | exact no_mem | with_reducible exact plain_ints | (refine le_maxLen ?_; omega) | (refine za9 ⟨?_,?_⟩) | (simp only [go_sem,Qc,Qb,zb1,zb2,forall_eq]; done)))
       all_goals (first | omega | assumption | rfl | exact absurd trivial ‹¬True› | exact ret_s2 [] rfl rfl)
     . rw [if_neg ha,if_neg hb]
       refine Ctr.of (n:=45) (rs:=[.tmp 4,.tmp 5]) Tryd.func7 rfl rfl Tryd.ntmps7 rfl rfl (by kernel_rfl) Tryd.checked.mixed ?_
       simp (disch:=first | omega | decide +kernel) only [hz,e0,t0,go_sem,Qa,Qb,Qc,Qd,Qe,↓reduceIte,reduceCtorEq,Qf,Qg,Qh]
       (repeat' (first | ((first | (refine gsel_split (fun q' => ?_) (fun q' => ?_)<;>(have h':=q')<;>(try simp only [za1,za2,Ba,Bb,za3,ne_eq,za4,za5,za6,Ia,Ib,Ic,Ie,Da,Bc,Bh,Be,za7,za8] at h')<;>try (exfalso; omega)) | (have q':=trivial; first | refine callX_shared (c1) rfl (by decide) ?_ | refine callY_shared (c1) rfl ?_ | refine callX_new (cl) rfl (by decide) ?_ | refine callY_new (cl) rfl ?_ | refine callX_new (c2) rfl (by decide) ?_ | refine callY_new (c2) rfl ?_ | refine callX_new (c3) rfl (by decide) ?_ | refine callY_new (c3) rfl ?_ | refine hE _ _ ret_ne ?_ | refine hE _ _ exit_ne ?_))<;>(try simp (disch:=first | omega | decide +kernel) only [q',hz,hz',e0,t0,go_sem,Qa,Qb,Qc,Qd,Qe,↓reduceIte,reduceCtorEq,Qf,Qg,Qh])<;>clear q') | refine hN _ ?_ ?_ Wk.kk | with_reducible refine And.intro ?_ ?_ | with_reducible omega | exact ok_ints | exact cells_ints | exact no_mem | with_reducible exact plain_ints | (refine le_maxLen ?_; omega) | (refine za9 ⟨?_,?_⟩) | (simp only [go_sem,Qc,Qb,zb1,zb2,forall_eq]; done)))
       all_goals (first | omega | assumption | rfl | exact absurd trivial ‹¬True› | exact ret_s2 [] rfl rfl)
def scn (d : UInt8) (l : List UInt8) : Bool × Bool × Bool:=l.foldl (stp d) (false,false,false)
theorem scn_succ (d : UInt8) (l : List UInt8) (i : Nat) (hi : i < l.length) : scn d (l.take (i + 1))=stp d (scn d (l.take i)) (l.getD i 0):=by
 rw [scn,List.take_succ_eq_append_getElem hi,List.foldl_append]
 simp [scn,hi]
set_option maxHeartbeats 8000000 in
theorem PolarityOfS_ok (s l : ByteArray) (hs : s.size<=100000) (hl : l.size<=100000) :
 Ctr Tryd.prog 8 [.str s,.str l] true (.tup [.d (.int .i64 (polV s l)),.d (.bool (polG s l))]) []:=by
 have c1:=l22Good_ok s (by omega)
 have c2:=l22LetterS_ok l
 have t0 : Int.toNat 0=0:=rfl
 cases hok : okS s with
 | false =>
   rw [hok] at c1
   have hg : polG s l=false:=by rw [polG,negG,hok]; rfl
   rw [polV,hg,if_neg (by simp)]
   refine Ctr.of (n:=57) (rs:=[.tmp 4,.tmp 5]) Tryd.func8 rfl rfl Tryd.ntmps8 rfl rfl (by kernel_rfl) Tryd.checked.mixed ?_
   simp (disch:=first | omega | decide +kernel) only [go_sem,Qa,Qb,Qc,Qd,Qe,↓reduceIte,reduceCtorEq,Qf,Qg,Qh]
   (repeat' (first | ((first | (refine gsel_split (fun q' => ?_) (fun q' => ?_)<;>(have h':=q')<;>(try simp only [za1,za2,Ba,Bb,za3,ne_eq,za4,za5,za6,Ia,Ib,Ic,Ie,Da,Bc,Bh,Be,za7,za8] at h')<;>try (exfalso; omega)) | (have q':=trivial; first | refine callX_new (c1) rfl (by decide) ?_ | refine callY_new (c1) rfl ?_ | refine hE _ _ ret_ne ?_ | refine hE _ _ exit_ne ?_))<;>(try simp (disch:=first | omega | decide +kernel) only [q',go_sem,Qa,Qb,Qc,Qd,Qe,↓reduceIte,reduceCtorEq,Qf,Qg,Qh])<;>clear q') | refine hN _ ?_ ?_ Wk.kk | with_reducible refine And.intro ?_ ?_ | with_reducible omega | exact ok_ints | exact cells_ints | exact no_mem | with_reducible exact plain_ints | (refine le_maxLen ?_; omega) | (refine za9 ⟨?_,?_⟩) | (simp only [go_sem,Qc,Qb,zb1,zb2,forall_eq]; done)))
   all_goals (first | omega | assumption | rfl | exact absurd trivial ‹¬True› | exact ret_s2 [] rfl rfl)
 | true =>
   rw [hok] at c1
   cases hL : letS l with
   | false =>
     rw [hL] at c2
     have hg : polG s l=false:=by rw [polG,hL]; simp
     rw [polV,hg,if_neg (by simp)]
     refine Ctr.of (n:=57) (rs:=[.tmp 4,.tmp 5]) Tryd.func8 rfl rfl Tryd.ntmps8 rfl rfl (by kernel_rfl) Tryd.checked.mixed ?_
     simp (disch:=first | omega | decide +kernel) only [go_sem,Qa,Qb,Qc,Qd,Qe,↓reduceIte,reduceCtorEq,Qf,Qg,Qh]
     (repeat' (first | ((first | (refine gsel_split (fun q' => ?_) (fun q' => ?_)<;>(have h':=q')<;>(try simp only [za1,za2,Ba,Bb,za3,ne_eq,za4,za5,za6,Ia,Ib,Ic,Ie,Da,Bc,Bh,Be,za7,za8] at h')<;>try (exfalso; omega)) | (have q':=trivial; first | refine callX_new (c1) rfl (by decide) ?_ | refine callY_new (c1) rfl ?_ | refine callX_new (c2) rfl (by decide) ?_ | refine callY_new (c2) rfl ?_ | refine hE _ _ ret_ne ?_ | refine hE _ _ exit_ne ?_))<;>(try simp (disch:=first | omega | decide +kernel) only [q',go_sem,Qa,Qb,Qc,Qd,Qe,↓reduceIte,reduceCtorEq,Qf,Qg,Qh])<;>clear q') | refine hN _ ?_ ?_ Wk.kk | with_reducible refine And.intro ?_ ?_ | with_reducible omega | exact ok_ints | exact cells_ints | exact no_mem | with_reducible exact plain_ints | (refine le_maxLen ?_; omega) | (refine za9 ⟨?_,?_⟩) | (simp only [go_sem,Qc,Qb,zb1,zb2,forall_eq]; done)))
     all_goals (first | omega | assumption | rfl | exact absurd trivial ‹¬True› | exact ret_s2 [] rfl rfl)
   | true =>
     rw [hL] at c2
     obtain ⟨nw,nz,_⟩:=negF_ok hok
     have nnn : (negF s).nn=true:=sg_nn _ _ (okS_spec hok).1
     have c3:=l22Signed_ok (fmS s) true (okS_spec hok).1 (by rw [← (okS_spec hok).2.1]; omega)
     rw [← (okS_spec hok).2.1] at c3
     have c3 : Ctr Tryd.prog 31 [.str s,.bool true] true (.d (.str (negF s).T)) []:=c3
     have c4:=l22Give_ok (negF s).T (by omega)
     have hgo : okS (negF s).T=negG s:=by
      have hp : prs (BL (negF s).T)=some (negF s,[]):=prs_T nw
      rw [negG,hok,okS,hp]; simp
     rw [giveS,hgo] at c4
     obtain ⟨d,rfl,hd,hdd⟩:=letS_sp hL
     cases hn : negG s with
     | false =>
       rw [hn,if_neg (by simp)] at c4
       have hg : polG s ⟨#[d]⟩=false:=by rw [polG,hn]; rfl
       rw [polV,hg,if_neg (by simp)]
       generalize (negF s).T=form at *
       refine Ctr.of (n:=57) (rs:=[.tmp 4,.tmp 5]) Tryd.func8 rfl rfl Tryd.ntmps8 rfl rfl (by kernel_rfl) Tryd.checked.mixed ?_
       simp (disch:=first | omega | decide +kernel) only [go_sem,Qa,Qb,Qc,Qd,Qe,↓reduceIte,reduceCtorEq,Qf,Qg,Qh]
       (repeat' (first | ((first | (refine gsel_split (fun q' => ?_) (fun q' => ?_)<;>(have h':=q')<;>(try simp only [za1,za2,Ba,Bb,za3,ne_eq,za4,za5,za6,Ia,Ib,Ic,Ie,Da,Bc,Bh,Be,za7,za8] at h')<;>try (exfalso; omega)) | (have q':=trivial; first | refine callX_new (c1) rfl (by decide) ?_ | refine callY_new (c1) rfl ?_ | refine callX_new (c2) rfl (by decide) ?_ | refine callY_new (c2) rfl ?_ | refine callX_shared (c3) rfl (by decide) ?_ | refine callY_shared (c3) rfl ?_ | refine callX_shared (c4) rfl (by decide) ?_ | refine callY_shared (c4) rfl ?_ | refine hE _ _ ret_ne ?_ | refine hE _ _ exit_ne ?_))<;>(try simp (disch:=first | omega | decide +kernel) only [q',go_sem,Qa,Qb,Qc,Qd,Qe,↓reduceIte,reduceCtorEq,Qf,Qg,Qh])<;>clear q') | refine hN _ ?_ ?_ Wk.kk | with_reducible refine And.intro ?_ ?_ | with_reducible omega | exact ok_ints | exact cells_ints | exact no_mem | with_reducible exact plain_ints | (refine le_maxLen ?_; omega) | (refine za9 ⟨?_,?_⟩) | (simp only [go_sem,Qc,Qb,zb1,zb2,forall_eq]; done)))
       all_goals (first | omega | assumption | rfl | exact absurd trivial ‹¬True› | exact ret_s2 [] rfl rfl)
     | true =>
       rw [hn,if_pos rfl] at c4
       have hg : polG s ⟨#[d]⟩=true:=by rw [polG,hn,hL]; rfl
       have hfin:=cn_scan hd (negF s) false false nw nnn
       rw [Bool.false_or,Bool.false_or] at hfin
       have hfin : scn d (BL (negF s).T)=_:=hfin
       rw [polV,hg,if_pos rfl,hdd,polF]
       generalize (negF s).T=form at *
       generalize (negF s).cn d true=a at *
       generalize (negF s).cn d false=b at *
       obtain ⟨r,hr⟩ : ∃ r : Int,(if a=0 then (if b=0 then 0 else -1) else (if b=0 then 1 else 2))=r:=⟨_,rfl⟩
       rw [hr]
       have e0 : (ByteArray.mk #[d]).data.toList.getD 0 0=d:=rfl
       have t0 : Int.toNat 0=0:=rfl
       have hz : (ByteArray.mk #[d]).size=1:=rfl
       refine Ctr.of (n:=57) (rs:=[.tmp 4,.tmp 5]) Tryd.func8 rfl rfl Tryd.ntmps8 rfl rfl (by kernel_rfl) Tryd.checked.mixed ?_
       simp (disch:=first | omega | decide +kernel) only [go_sem,Qa,Qb,Qc,Qd,Qe,↓reduceIte,reduceCtorEq,Qf,Qg,Qh]
       (repeat' (first | ((first | (refine gsel_split (fun q' => ?_) (fun q' => ?_)<;>(have h':=q')<;>(try simp only [za1,za2,Ba,Bb,za3,ne_eq,za4,za5,za6,Ia,Ib,Ic,Ie,Da,Bc,Bh,Be,za7,za8] at h')<;>try (exfalso; omega)) | (have q':=trivial; first | refine callX_new (c1) rfl (by decide) ?_ | refine callY_new (c1) rfl ?_ | refine callX_new (c2) rfl (by decide) ?_ | refine callY_new (c2) rfl ?_ | refine callX_shared (c3) rfl (by decide) ?_ | refine callY_shared (c3) rfl ?_ | refine callX_shared (c4) rfl (by decide) ?_ | refine callY_shared (c4) rfl ?_ | refine hE _ _ ret_ne ?_ | refine hE _ _ exit_ne ?_))<;>(try simp (disch:=first | omega | decide +kernel) only [q',go_sem,Qa,Qb,Qc,Qd,Qe,↓reduceIte,reduceCtorEq,Qf,Qg,Qh])<;>clear q') | refine hN _ ?_ ?_ Wk.kk | with_reducible refine And.intro ?_ ?_ | with_reducible omega | exact ok_ints | exact cells_ints | exact no_mem | with_reducible exact plain_ints | (refine le_maxLen ?_; omega) | (refine za9 ⟨?_,?_⟩) | (simp only [go_sem,Qc,Qb,zb1,zb2,forall_eq]; done)))
       all_goals (first | omega | exact absurd trivial ‹¬True› | skip)
       refine Ok.loopN [56,55,54,53,52,51,50,49,48,47,46,45,44,43,42,41,40,39,38,37,36,35,34,33,32,31,30,29,28,27,26,25,24,23,22,21,20,19,18,17,16,15,14,13,12,11,10,9,8,7,5,4,3,2,0] (fun i (w : Bool × Bool) => [(10,.d (.int .i64 (i : Nat))),(9,.d (.bool w.2)),(8,.d (.bool w.1))]) (fun _ _ => []) form.size (fun i w => scn d ((BL form).take i)=(decide (0 < i∧(BL form).getD (i - 1) 0=126),w.1,w.2)) (false,false) rfl (Wk.kk) ?_
       rintro R i ⟨p,m⟩ hN hE hi hw
       dsimp only at hw ⊢
       have hfin' : i=form.size->scn d ((BL form).take i)=(false,decide (0 < a),decide (0 < b)):=fun e => by
        rw [e,size_BL,List.take_length]; exact hfin
       have hs1:=scn_succ d (BL form) i
       rw [hw] at hs1
       by_cases hlt : i < form.size
       . have hs1:=hs1 hlt
         obtain ⟨x,hx⟩ : ∃ x,x=(BL form).getD i 0:=⟨_,rfl⟩
         have g0 : form.data.toList.getD i 0=x:=hx.symm
         rw [← hx] at hs1
         rw [stp] at hs1
         dsimp only at hs1
         have hx' : (BL form).getD (i + 1 - 1) 0=x:=by rw [Nat.add_sub_cancel]; exact hx.symm
         have hdd':=(let_b hd).1
         by_cases hxd : x=d
         . have hx126 : x ≠ 126:=by rw [hxd]; exact hdd'
           have hq : ((x.toNat : Int)=d.toNat):=by rw [hxd]
           by_cases hi0 : i=0
           . have hs2 : scn d ((BL form).take (i + 1))=(decide (0 < i + 1∧(BL form).getD (i + 1 - 1) 0=126),true,m):=by
              rw [hs1,hx']; simp [hxd,hi0,hdd']
             simp (disch:=first | omega | decide +kernel) only [g0,e0,t0,hq,go_sem,Qa,Qb,Qc,Qd,Qe,↓reduceIte,reduceCtorEq,Qf,Qg,Qh]
             (repeat' (first | ((first | (refine gsel_split (fun q' => ?_) (fun q' => ?_)<;>(have h':=q')<;>(try simp only [za1,za2,Ba,Bb,za3,ne_eq,za4,za5,za6,Ia,Ib,Ic,Ie,Da,Bc,Bh,Be,za7,za8] at h')<;>try (exfalso; omega)) | (have q':=trivial; first | refine hE _ _ ret_ne ?_ | refine hE _ _ exit_ne ?_))<;>(try simp (disch:=first | omega | decide +kernel) only [q',g0,e0,t0,hq,go_sem,Qa,Qb,Qc,Qd,Qe,↓reduceIte,reduceCtorEq,Qf,Qg,Qh])<;>clear q') | refine hN _ ?_ ?_ Wk.kk | with_reducible refine And.intro ?_ ?_ | with_reducible omega | exact ok_ints | exact cells_ints | exact no_mem | with_reducible exact plain_ints | (refine le_maxLen ?_; omega) | (refine za9 ⟨?_,?_⟩) | (simp only [go_sem,Qc,Qb,zb1,zb2,forall_eq]; done)))
             all_goals (first | omega | exact absurd trivial ‹¬True› | (refine hN (true,m) _ hlt hs2 (by refine Wk.auto ?_ ?_<;>simp [extraK,lk,killL,St.kill,wipeO,wipeS,AV.has,AV.hasL,AO.wipe,List.map_set,updSt,insL,dropS,ins,])))
           . obtain ⟨y,hy⟩ : ∃ y,y=(BL form).getD (i - 1) 0:=⟨_,rfl⟩
             have g1 : form.data.toList.getD (i - 1) 0=y:=hy.symm
             have g2 : ((i : Nat) : Int) - 1=((i - 1 : Nat) : Int):=by omega
             have hw2:=hs1
             rw [← hy] at hw2
             by_cases hy126 : y=126
             . have hq2 : (y.toNat : Int)=126:=by rw [hy126]; rfl
               have hs2 : scn d ((BL form).take (i + 1))=(decide (0 < i + 1∧(BL form).getD (i + 1 - 1) 0=126),p,true):=by
                rw [hw2,hx']; simp [hxd,hy126,hdd',Nat.pos_of_ne_zero hi0]
               simp (disch:=first | omega | decide +kernel) only [g0,g1,g2,e0,t0,hq,hq2,go_sem,Qa,Qb,Qc,Qd,Qe,↓reduceIte,reduceCtorEq,Qf,Qg,Qh]
               (repeat' (first | ((first | (refine gsel_split (fun q' => ?_) (fun q' => ?_)<;>(have h':=q')<;>(try simp only [za1,za2,Ba,Bb,za3,ne_eq,za4,za5,za6,Ia,Ib,Ic,Ie,Da,Bc,Bh,Be,za7,za8] at h')<;>try (exfalso; omega)) | (have q':=trivial; first | refine hE _ _ ret_ne ?_ | refine hE _ _ exit_ne ?_))<;>(try simp (disch:=first | omega | decide +kernel) only [q',g0,g1,g2,e0,t0,hq,hq2,go_sem,Qa,Qb,Qc,Qd,Qe,↓reduceIte,reduceCtorEq,Qf,Qg,Qh])<;>clear q') | refine hN _ ?_ ?_ Wk.kk | with_reducible refine And.intro ?_ ?_ | with_reducible omega | exact ok_ints | exact cells_ints | exact no_mem | with_reducible exact plain_ints | (refine le_maxLen ?_; omega) | (refine za9 ⟨?_,?_⟩) | (simp only [go_sem,Qc,Qb,zb1,zb2,forall_eq]; done)))
               all_goals (first | omega | exact absurd trivial ‹¬True› | (refine hN (p,true) _ hlt hs2 (by refine Wk.auto ?_ ?_<;>simp [extraK,lk,killL,St.kill,wipeO,wipeS,AV.has,AV.hasL,AO.wipe,List.map_set,updSt,insL,dropS,ins,])))
             . have hq2 : ¬ (y.toNat : Int)=126:=fun h => hy126 (toN_eq.1 h)
               have hs2 : scn d ((BL form).take (i + 1))=(decide (0 < i + 1∧(BL form).getD (i + 1 - 1) 0=126),true,m):=by
                rw [hw2,hx']; simp [hxd,hy126,hdd']
               simp (disch:=first | omega | decide +kernel) only [g0,g1,g2,e0,t0,hq,hq2,go_sem,Qa,Qb,Qc,Qd,Qe,↓reduceIte,reduceCtorEq,Qf,Qg,Qh]
               (repeat' (first | ((first | (refine gsel_split (fun q' => ?_) (fun q' => ?_)<;>(have h':=q')<;>(try simp only [za1,za2,Ba,Bb,za3,ne_eq,za4,za5,za6,Ia,Ib,Ic,Ie,Da,Bc,Bh,Be,za7,za8] at h')<;>try (exfalso; omega)) | (have q':=trivial; first | refine hE _ _ ret_ne ?_ | refine hE _ _ exit_ne ?_))<;>(try simp (disch:=first | omega | decide +kernel) only [q',g0,g1,g2,e0,t0,hq,hq2,go_sem,Qa,Qb,Qc,Qd,Qe,↓reduceIte,reduceCtorEq,Qf,Qg,Qh])<;>clear q') | refine hN _ ?_ ?_ Wk.kk | with_reducible refine And.intro ?_ ?_ | with_reducible omega | exact ok_ints | exact cells_ints | exact no_mem | with_reducible exact plain_ints | (refine le_maxLen ?_; omega) | (refine za9 ⟨?_,?_⟩) | (simp only [go_sem,Qc,Qb,zb1,zb2,forall_eq]; done)))
               all_goals (first | omega | exact absurd trivial ‹¬True› | (refine hN (true,m) _ hlt hs2 (by refine Wk.auto ?_ ?_<;>simp [extraK,lk,killL,St.kill,wipeO,wipeS,AV.has,AV.hasL,AO.wipe,List.map_set,updSt,insL,dropS,ins,])))
         . have hq : ¬ ((x.toNat : Int)=d.toNat):=fun h => hxd (by
            apply UInt8.toNat_inj.1; omega)
           have hs2 : scn d ((BL form).take (i + 1))=(decide (0 < i + 1∧(BL form).getD (i + 1 - 1) 0=126),p,m):=by
            rw [hs1,hx']; simp [hxd]
           simp (disch:=first | omega | decide +kernel) only [g0,e0,t0,hq,go_sem,Qa,Qb,Qc,Qd,Qe,↓reduceIte,reduceCtorEq,Qf,Qg,Qh]
           (repeat' (first | ((first | (refine gsel_split (fun q' => ?_) (fun q' => ?_)<;>(have h':=q')<;>(try simp only [za1,za2,Ba,Bb,za3,ne_eq,za4,za5,za6,Ia,Ib,Ic,Ie,Da,Bc,Bh,Be,za7,za8] at h')<;>try (exfalso; omega)) | (have q':=trivial; first | refine hE _ _ ret_ne ?_ | refine hE _ _ exit_ne ?_))<;>(try simp (disch:=first | omega | decide +kernel) only [q',g0,e0,t0,hq,go_sem,Qa,Qb,Qc,Qd,Qe,↓reduceIte,reduceCtorEq,Qf,Qg,Qh])<;>clear q') | refine hN _ ?_ ?_ Wk.kk | with_reducible refine And.intro ?_ ?_ | with_reducible omega | exact ok_ints | exact cells_ints | exact no_mem | with_reducible exact plain_ints | (refine le_maxLen ?_; omega) | (refine za9 ⟨?_,?_⟩) | (simp only [go_sem,Qc,Qb,zb1,zb2,forall_eq]; done)))
           all_goals (first | omega | exact absurd trivial ‹¬True› | (refine hN (p,m) _ hlt hs2 (by refine Wk.auto ?_ ?_<;>simp [extraK,lk,killL,St.kill,wipeO,wipeS,AV.has,AV.hasL,AO.wipe,List.map_set,updSt,insL,dropS,ins,])))
       . have he:=hfin' (by omega)
         rw [hw] at he
         simp only [Prod.mk.injEq] at he
         obtain ⟨_,rfl,rfl⟩:=he
         by_cases ha : a=0<;>by_cases hb : b=0
         . rw [if_pos ha,if_pos hb] at hr
           subst hr
           have q1 : decide (0 < a)=false:=decide_eq_false (by omega)
           have q2 : decide (0 < b)=false:=decide_eq_false (by omega)
           simp (disch:=first | omega | decide +kernel) only [q1,q2,go_sem,Qa,Qb,Qc,Qd,Qe,↓reduceIte,reduceCtorEq,Qf,Qg,Qh]
           (repeat' (first | ((first | (refine gsel_split (fun q' => ?_) (fun q' => ?_)<;>(have h':=q')<;>(try simp only [za1,za2,Ba,Bb,za3,ne_eq,za4,za5,za6,Ia,Ib,Ic,Ie,Da,Bc,Bh,Be,za7,za8] at h')<;>try (exfalso; omega)) | (have q':=trivial; first | refine hE _ _ ret_ne ?_ | refine hE _ _ exit_ne ?_))<;>(try simp (disch:=first | omega | decide +kernel) only [q',q1,q2,go_sem,Qa,Qb,Qc,Qd,Qe,↓reduceIte,reduceCtorEq,Qf,Qg,Qh])<;>clear q') | refine hN _ ?_ ?_ Wk.kk | with_reducible refine And.intro ?_ ?_ | with_reducible omega | exact ok_ints | exact cells_ints | exact no_mem | with_reducible exact plain_ints | (refine le_maxLen ?_; omega) | (refine za9 ⟨?_,?_⟩) | (simp only [go_sem,Qc,Qb,zb1,zb2,forall_eq]; done)))
           all_goals (first | omega | assumption | rfl | exact absurd trivial ‹¬True› | exact ret_s2 [] rfl rfl)
         . rw [if_pos ha,if_neg hb] at hr
           subst hr
           have q1 : decide (0 < a)=false:=decide_eq_false (by omega)
           have q2 : decide (0 < b)=true:=decide_eq_true (by omega)
           simp (disch:=first | omega | decide +kernel) only [q1,q2,go_sem,Qa,Qb,Qc,Qd,Qe,↓reduceIte,reduceCtorEq,Qf,Qg,Qh]
           (repeat' (first | ((first | (refine gsel_split (fun q' => ?_) (fun q' => ?_)<;>(have h':=q')<;>(try simp only [za1,za2,Ba,Bb,za3,ne_eq,za4,za5,za6,Ia,Ib,Ic,Ie,Da,Bc,Bh,Be,za7,za8] at h')<;>try (exfalso; omega)) | (have q':=trivial; first | refine hE _ _ ret_ne ?_ | refine hE _ _ exit_ne ?_))<;>(try simp (disch:=first | omega | decide +kernel) only [q',q1,q2,go_sem,Qa,Qb,Qc,Qd,Qe,↓reduceIte,reduceCtorEq,Qf,Qg,Qh])<;>clear q') | refine hN _ ?_ ?_ Wk.kk | with_reducible refine And.intro ?_ ?_ | with_reducible omega | exact ok_ints | exact cells_ints | exact no_mem | with_reducible exact plain_ints | (refine le_maxLen ?_; omega) | (refine za9 ⟨?_,?_⟩) | (simp only [go_sem,Qc,Qb,zb1,zb2,forall_eq]; done)))
           all_goals (first | omega | assumption | rfl | exact absurd trivial ‹¬True› | exact ret_s2 [] rfl rfl)
         . rw [if_neg ha,if_pos hb] at hr
           subst hr
           have q1 : decide (0 < a)=true:=decide_eq_true (by omega)
           have q2 : decide (0 < b)=false:=decide_eq_false (by omega)
           simp (disch:=first | omega | decide +kernel) only [q1,q2,go_sem,Qa,Qb,Qc,Qd,Qe,↓reduceIte,reduceCtorEq,Qf,Qg,Qh]
           (repeat' (first | ((first | (refine gsel_split (fun q' => ?_) (fun q' => ?_)<;>(have h':=q')<;>(try simp only [za1,za2,Ba,Bb,za3,ne_eq,za4,za5,za6,Ia,Ib,Ic,Ie,Da,Bc,Bh,Be,za7,za8] at h')<;>try (exfalso; omega)) | (have q':=trivial; first | refine hE _ _ ret_ne ?_ | refine hE _ _ exit_ne ?_))<;>(try simp (disch:=first | omega | decide +kernel) only [q',q1,q2,go_sem,Qa,Qb,Qc,Qd,Qe,↓reduceIte,reduceCtorEq,Qf,Qg,Qh])<;>clear q') | refine hN _ ?_ ?_ Wk.kk | with_reducible refine And.intro ?_ ?_ | with_reducible omega | exact ok_ints | exact cells_ints | exact no_mem | with_reducible exact plain_ints | (refine le_maxLen ?_; omega) | (refine za9 ⟨?_,?_⟩) | (simp only [go_sem,Qc,Qb,zb1,zb2,forall_eq]; done)))
           all_goals (first | omega | assumption | rfl | exact absurd trivial ‹¬True› | exact ret_s2 [] rfl rfl)
         . rw [if_neg ha,if_neg hb] at hr
           subst hr
           have q1 : decide (0 < a)=true:=decide_eq_true (by omega)
           have q2 : decide (0 < b)=true:=decide_eq_true (by omega)
           simp (disch:=first | omega | decide +kernel) only [q1,q2,go_sem,Qa,Qb,Qc,Qd,Qe,↓reduceIte,reduceCtorEq,Qf,Qg,Qh]
           (repeat' (first | ((first | (refine gsel_split (fun q' => ?_) (fun q' => ?_)<;>(have h':=q')<;>(try simp only [za1,za2,Ba,Bb,za3,ne_eq,za4,za5,za6,Ia,Ib,Ic,Ie,Da,Bc,Bh,Be,za7,za8] at h')<;>try (exfalso; omega)) | (have q':=trivial; first | refine hE _ _ ret_ne ?_ | refine hE _ _ exit_ne ?_))<;>(try simp (disch:=first | omega | decide +kernel) only [q',q1,q2,go_sem,Qa,Qb,Qc,Qd,Qe,↓reduceIte,reduceCtorEq,Qf,Qg,Qh])<;>clear q') | refine hN _ ?_ ?_ Wk.kk | with_reducible refine And.intro ?_ ?_ | with_reducible omega | exact ok_ints | exact cells_ints | exact no_mem | with_reducible exact plain_ints | (refine le_maxLen ?_; omega) | (refine za9 ⟨?_,?_⟩) | (simp only [go_sem,Qc,Qb,zb1,zb2,forall_eq]; done)))
           all_goals (first | omega | assumption | rfl | exact absurd trivial ‹¬True› | exact ret_s2 [] rfl rfl)
end Abs.Y

namespace Abs.Y
open Go Go.Proofs Abs
open Nat renaming reduceEqDiff -> Qa, reduceLT -> Qb, reduceAdd -> Qc, reduceMul -> Qd, reduceSub -> Qe, reduceLeDiff -> Qf, reduceSubDiff -> Qg, reduceBEq -> Qh
open Bool renaming not_eq_true' -> Ba, not_eq_false' -> Bb, and_eq_true -> Bc, or_eq_true -> Bh, or_eq_false_iff -> Be
open Int renaming ofNat_lt -> Ia, ofNat_le -> Ib, not_lt -> Ic, not_le -> Ie
open Decidable renaming not_not -> Da
set_option maxRecDepth 100000
set_option maxHeartbeats 4000000

theorem formula_ok {code : List Int} (hc : CodeOK code) : Draws 51 [] 130 (QT 29) code:=fun at_ seed h1 h2 h3 => by
 have c1:=amongB_ok hc [1,2,3,3,4,5,6,8] 1 8 (by decide) (by decide)
 simp only [List.map_cons,List.map_nil] at c1
 have c2:=fun (n : Int) (h1 : 1<=n) (h2 : n<=8) => formula22_ok hc n.toNat n h1 (by omega) h2
 refine CtrR.of (n:=13) (rs:=[.tmp 2]) Tryd.func51 rfl rfl Tryd.ntmps51 rfl rfl (by kernel_rfl) Tryd.checked.mixed ?_; intro u
 simp (disch:=first | omega | decide +kernel) only [curO,curB,D.bytes,go_sem,Qa,Qb,Qc,Qd,Qe,↓reduceIte,reduceCtorEq,Qf,Qg,Qh]
 (repeat' (first | ((first | (refine gsel_split (fun q' => ?_) (fun q' => ?_)<;>(have h':=q')<;>(try simp only [za1,za2,Ba,Bb,za3,ne_eq,za4,za5,za6,Ia,Ib,Ic,Ie,Da,Bc,Bh,Be,za7,za8] at h')<;>try (exfalso; omega)) | (have q':=trivial; first | (refine callX_drawL _ _ (c1) ⟨.inl rfl,.inl rfl,trivial⟩ rfl rfl (by decide) (by simp [dstB]) (by omega) (by omega) (by omega) ?_; rintro _ at1 sd1 hat1 hat2 hsd1 hsd2 ⟨x1,rfl,hx1⟩) | (refine callX_draw _ (c2 x1 (by omega) (by omega)) ⟨.inl rfl,.inl rfl,trivial⟩ rfl (by simp [dstB]) (by omega) (by omega) (by omega) ?_; rintro _ atb sdb hatb1 hatb2 hsdb1 hsdb2 ⟨xb,rfl,hxb⟩) | refine callX_new (l22Good_ok xb (by omega)) rfl (by decide) ?_ | refine callY_new (l22Good_ok xb (by omega)) rfl ?_ | refine hE _ _ ret_ne ?_ | refine hE _ _ exit_ne ?_))<;>(try simp (disch:=first | omega | decide +kernel) only [q',curO,curB,D.bytes,go_sem,Qa,Qb,Qc,Qd,Qe,↓reduceIte,reduceCtorEq,Qf,Qg,Qh])<;>clear q') | refine hN _ ?_ ?_ Wk.kk | with_reducible refine And.intro ?_ ?_ | with_reducible omega | exact ok_ints | exact cells_ints | exact no_mem | with_reducible exact plain_ints | (refine le_maxLen ?_; omega) | (refine za9 ⟨?_,?_⟩) | (simp only [go_sem,Qc,Qb,zb1,zb2,forall_eq]; done)))
 all_goals (first | omega | (exact retR_draw rfl rfl rfl (by omega) (by omega) (by omega) (by omega) ⟨_,rfl,by first | omega | decide⟩))
theorem spoilt_ok {code : List Int} (hc : CodeOK code) (t w : ByteArray) (ht : t.size<=100000) (hw : 1<=w.size∧w.size<=60000) : Draws 53 [.d (.str t),.d (.str w)] 6 (QT (t.size + 1)) code:=fun at_ seed h1 h2 h3 => by
 have c1:=pick_ok hc (t.size : Nat) (by omega)
 have c2:=pick_ok hc (w.size : Nat) (by omega)
 have c3:=pick_ok hc 3 (by omega)
 by_cases h0 : t.size=0
 . have ht0 : t=⟨#[]⟩:=ext_BL (List.eq_nil_of_length_eq_zero (by rw [← size_BL]; exact h0))
   have he : (t.toList == (ByteArray.mk #[]).toList)=true:=by rw [ht0]; exact beq_self_eq_true _
   refine CtrR.of (n:=57) (rs:=[.tmp 6]) Tryd.func53 rfl rfl Tryd.ntmps53 rfl rfl (by kernel_rfl) Tryd.checked.mixed ?_; intro u
   simp (disch:=first | omega | decide +kernel) only [curO,curB,D.bytes,he,go_sem,Qa,Qb,Qc,Qd,Qe,↓reduceIte,reduceCtorEq,Qf,Qg,Qh]
   (repeat' (first | ((first | (refine gsel_split (fun q' => ?_) (fun q' => ?_)<;>(have h':=q')<;>(try simp only [za1,za2,Ba,Bb,za3,ne_eq,za4,za5,za6,Ia,Ib,Ic,Ie,Da,Bc,Bh,Be,za7,za8] at h')<;>try (exfalso; omega)) | (have q':=trivial; first | refine hE _ _ ret_ne ?_ | refine hE _ _ exit_ne ?_))<;>(try simp (disch:=first | omega | decide +kernel) only [q',curO,curB,D.bytes,he,go_sem,Qa,Qb,Qc,Qd,Qe,↓reduceIte,reduceCtorEq,Qf,Qg,Qh])<;>clear q') | refine hN _ ?_ ?_ Wk.kk | with_reducible refine And.intro ?_ ?_ | with_reducible omega | exact ok_ints | exact cells_ints | exact no_mem | with_reducible exact plain_ints | (refine le_maxLen ?_; omega) | (refine za9 ⟨?_,?_⟩) | (simp only [go_sem,Qc,Qb,zb1,zb2,forall_eq]; done)))
   all_goals (first | omega | (exact retR_draw rfl rfl rfl (by omega) (by omega) (by omega) (by omega) ⟨_,rfl,by rw [ByteArray.size_extract]; omega⟩))
 . have he : (t.toList == (ByteArray.mk #[]).toList)=false:=by
    rw [beq_eq_false_iff_ne,ByteArray.toList_eq,ByteArray.toList_eq]
    intro e
    apply h0
    rw [size_BL]
    exact congrArg List.length e
   refine CtrR.of (n:=57) (rs:=[.tmp 6]) Tryd.func53 rfl rfl Tryd.ntmps53 rfl rfl (by kernel_rfl) Tryd.checked.mixed ?_; intro u
   simp (disch:=first | omega | decide +kernel) only [curO,curB,D.bytes,he,go_sem,Qa,Qb,Qc,Qd,Qe,↓reduceIte,reduceCtorEq,Qf,Qg,Qh]
   (repeat' (first | ((first | (refine gsel_split (fun q' => ?_) (fun q' => ?_)<;>(have h':=q')<;>(try simp only [za1,za2,Ba,Bb,za3,ne_eq,za4,za5,za6,Ia,Ib,Ic,Ie,Da,Bc,Bh,Be,za7,za8] at h')<;>try (exfalso; omega)) | (have q':=trivial; first | (refine callX_draw _ (c1) ⟨.inl rfl,.inl rfl,trivial⟩ rfl (by simp [dstB]) (by omega) (by omega) (by omega) ?_; rintro _ ata sda hata1 hata2 hsda1 hsda2 ⟨xa,rfl,hxa⟩) | (refine callX_draw _ (c2) ⟨.inl rfl,.inl rfl,trivial⟩ rfl (by simp [dstB]) (by omega) (by omega) (by omega) ?_; rintro _ atb sdb hatb1 hatb2 hsdb1 hsdb2 ⟨xb,rfl,hxb⟩) | (refine callX_draw _ (c3) ⟨.inl rfl,.inl rfl,trivial⟩ rfl (by simp [dstB]) (by omega) (by omega) (by omega) ?_; rintro _ atc sdc hatc1 hatc2 hsdc1 hsdc2 ⟨xc,rfl,hxc⟩) | refine hE _ _ ret_ne ?_ | refine hE _ _ exit_ne ?_))<;>(try simp (disch:=first | omega | decide +kernel) only [q',curO,curB,D.bytes,he,ByteArray.size_append,ByteArray.size_extract,go_sem,Qa,Qb,Qc,Qd,Qe,↓reduceIte,reduceCtorEq,Qf,Qg,Qh])<;>clear q') | refine hN _ ?_ ?_ Wk.kk | with_reducible refine And.intro ?_ ?_ | with_reducible omega | exact ok_ints | exact cells_ints | exact no_mem | with_reducible exact plain_ints | (refine le_maxLen ?_; omega) | (refine za9 ⟨?_,?_⟩) | (simp only [go_sem,Qc,Qb,zb1,zb2,forall_eq]; done)))
   all_goals (first | omega | (exact retR_draw rfl rfl rfl (by omega) (by omega) (by omega) (by omega) ⟨_,rfl,by simp only [ByteArray.size_append,ByteArray.size_extract]; omega⟩))
end Abs.Y
