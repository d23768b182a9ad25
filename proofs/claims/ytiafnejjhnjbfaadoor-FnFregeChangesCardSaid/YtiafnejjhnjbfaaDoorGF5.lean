/- What functions of this program compute, over plain data. No condition. -/
import Derived.Test.YtiafnejjhnjbfaaDoorGF3
import Derived.Test.YtiafnejjhnjbfaaDoorR3
import Derived.Test.YtiafnejjhnjbfaaDoorBX
set_option linter.all false
open Nat renaming reduceEqDiff -> Qa, reduceLT -> Qb, reduceAdd -> Qc, reduceMul -> Qd, reduceSub -> Qe, reduceLeDiff -> Qf, reduceSubDiff -> Qg, reduceBEq -> Qh
open Bool renaming not_eq_true' -> Ba, not_eq_false' -> Bb, and_eq_true -> Bc, or_eq_true -> Bh, or_eq_false_iff -> Be
open Int renaming ofNat_lt -> Ia, ofNat_le -> Ib, not_lt -> Ic, not_le -> Ie
open Decidable renaming not_not -> Da
namespace Abs.Y
open Go Go.Proofs Abs
set_option maxRecDepth 100000

theorem indexFuncS_ok (gs : List ByteArray) (g : FuncId) (p : ByteArray->Bool) (hl : gs.length<=1000) (hp : ∀ i,i < gs.length->Ctr Tryd.prog g [.str (gs.getD i nilB)] false (.d (.bool (p (gs.getD i nilB)))) []) :
 Ctr Tryd.prog 82 [.slice (gs.map .str),.fn (.func g) [] []] false (.d (.int .i64 (idxR (fun i => p (gs.getD i nilB)) gs.length))) []:=by
 have hgs:=fun (i : Nat) (h : i < gs.length) => el_gs (xs:=gs) h
 refine Ctr.of (n:=19) (rs:=[.tmp 4]) Tryd.func82 rfl rfl Tryd.ntmps82 rfl rfl (by kernel_rfl) Tryd.checked.mixed ?_
 simp (disch:=first | omega | decide +kernel) only [List.length_map,go_sem,Qa,Qb,Qc,Qd,Qe,↓reduceIte,reduceCtorEq,Qf,Qg,Qh]
 refine Ok.loopC [18,17,16,15,14,13,12,11,10,9,8,6,5,4,3,2] (fun i => [(8,.d (.int .i64 (i : Nat)))]) gs.length (fun i => ∀ j,j < i->p (gs.getD j nilB)=false) (by simp) (Wk.kk) ?_
 intro R i hN hE hi hI
 by_cases hlt : i < gs.length
 . have c1:=hp i hlt
   have he:=hgs i hlt
   cases hb : p (gs.getD i nilB) with
   | false =>
     rw [hb] at c1
     simp (disch:=first | omega | decide +kernel) only [he,List.length_map,go_sem,Qa,Qb,Qc,Qd,Qe,↓reduceIte,reduceCtorEq,Qf,Qg,Qh]
     (repeat' (first | ((first | (refine gsel_split (fun q' => ?_) (fun q' => ?_)<;>(have h':=q')<;>(try simp only [za1,za2,Ba,Bb,za3,ne_eq,za4,za5,za6,Ia,Ib,Ic,Ie,Da,Bc,Bh,Be,za7,za8] at h')) | (have q':=trivial; first | refine callZ_new (c1) rfl (by decide) ?_ | refine callX_new (c1) rfl (by decide) ?_ | refine callY_new (c1) rfl ?_ | refine hE _ _ ret_ne ?_ | refine hE _ _ exit_ne ?_))<;>(try simp (disch:=first | omega | decide +kernel) only [q',he,List.length_map,go_sem,Qa,Qb,Qc,Qd,Qe,↓reduceIte,reduceCtorEq,Qf,Qg,Qh])<;>clear q') | refine hN _ ?_ ?_ Wk.kk | with_reducible refine And.intro ?_ ?_ | with_reducible omega | exact ok_ints | exact cells_ints | exact no_mem | with_reducible exact plain_ints | (refine le_maxLen ?_; omega) | (refine za9 ⟨?_,?_⟩) | (simp only [go_sem,Qc,Qb,zb1,zb2,forall_eq]; done)))
     all_goals (first | omega | assumption | exact absurd trivial ‹¬True› | exact all_succ hI hb)
   | true =>
     rw [hb] at c1
     have hr : idxR (fun i => p (gs.getD i nilB)) gs.length=(i : Nat):=idxR_some (p:=fun i => p (gs.getD i nilB)) hlt hb hI
     rw [hr] at hE
     simp (disch:=first | omega | decide +kernel) only [he,List.length_map,go_sem,Qa,Qb,Qc,Qd,Qe,↓reduceIte,reduceCtorEq,Qf,Qg,Qh]
     (repeat' (first | ((first | (refine gsel_split (fun q' => ?_) (fun q' => ?_)<;>(have h':=q')<;>(try simp only [za1,za2,Ba,Bb,za3,ne_eq,za4,za5,za6,Ia,Ib,Ic,Ie,Da,Bc,Bh,Be,za7,za8] at h')) | (have q':=trivial; first | refine callZ_new (c1) rfl (by decide) ?_ | refine callX_new (c1) rfl (by decide) ?_ | refine callY_new (c1) rfl ?_ | refine hE _ _ ret_ne ?_ | refine hE _ _ exit_ne ?_))<;>(try simp (disch:=first | omega | decide +kernel) only [q',he,List.length_map,go_sem,Qa,Qb,Qc,Qd,Qe,↓reduceIte,reduceCtorEq,Qf,Qg,Qh])<;>clear q') | refine hN _ ?_ ?_ Wk.kk | with_reducible refine And.intro ?_ ?_ | with_reducible omega | exact ok_ints | exact cells_ints | exact no_mem | with_reducible exact plain_ints | (refine le_maxLen ?_; omega) | (refine za9 ⟨?_,?_⟩) | (simp only [go_sem,Qc,Qb,zb1,zb2,forall_eq]; done)))
     all_goals (first | omega | assumption | rfl | exact absurd trivial ‹¬True›)
 . have hr : idxR (fun i => p (gs.getD i nilB)) gs.length=-1:=idxR_none (p:=fun i => p (gs.getD i nilB)) fun j hj => hI j (by omega)
   simp (disch:=first | omega | decide +kernel) only [List.length_map,go_sem,Qa,Qb,Qc,Qd,Qe,↓reduceIte,reduceCtorEq,Qf,Qg,Qh]
   (repeat' (first | ((first | (refine gsel_split (fun q' => ?_) (fun q' => ?_)<;>(have h':=q')<;>(try simp only [za1,za2,Ba,Bb,za3,ne_eq,za4,za5,za6,Ia,Ib,Ic,Ie,Da,Bc,Bh,Be,za7,za8] at h')) | (have q':=trivial; first | refine hE _ _ ret_ne ?_ | refine hE _ _ exit_ne ?_))<;>(try simp (disch:=first | omega | decide +kernel) only [q',List.length_map,go_sem,Qa,Qb,Qc,Qd,Qe,↓reduceIte,reduceCtorEq,Qf,Qg,Qh])<;>clear q') | refine hN _ ?_ ?_ Wk.kk | with_reducible refine And.intro ?_ ?_ | with_reducible omega | exact ok_ints | exact cells_ints | exact no_mem | with_reducible exact plain_ints | (refine le_maxLen ?_; omega) | (refine za9 ⟨?_,?_⟩) | (simp only [go_sem,Qc,Qb,zb1,zb2,forall_eq]; done)))
   all_goals (first | omega | assumption | (rw [hr]; done) | exact absurd trivial ‹¬True› | trivial)
theorem notF_ok (s : ByteArray) (hs : s.size<=1000) : Ctr Tryd.prog 68 [.str s] false (.d (.bool (!okS s))) []:=by
 have c1:=IsFormula_ok s (by omega)
 generalize okS s=b at *
 refine Ctr.of (n:=6) (rs:=[.tmp 2]) Tryd.func68 rfl rfl Tryd.ntmps68 rfl rfl (by kernel_rfl) Tryd.checked.mixed ?_
 simp (disch:=first | omega | decide +kernel) only [go_sem,Qa,Qb,Qc,Qd,Qe,↓reduceIte,reduceCtorEq,Qf,Qg,Qh]
 (repeat' (first | ((first | (refine gsel_split (fun q' => ?_) (fun q' => ?_)<;>(have h':=q')<;>(try simp only [za1,za2,Ba,Bb,za3,ne_eq,za4,za5,za6,Ia,Ib,Ic,Ie,Da,Bc,Bh,Be,za7,za8] at h')<;>try (exfalso; omega)) | (have q':=trivial; first | refine callX_new (c1) rfl (by decide) ?_ | refine callY_new (c1) rfl ?_ | refine hE _ _ ret_ne ?_ | refine hE _ _ exit_ne ?_))<;>(try simp (disch:=first | omega | decide +kernel) only [q',go_sem,Qa,Qb,Qc,Qd,Qe,↓reduceIte,reduceCtorEq,Qf,Qg,Qh])<;>clear q') | refine hN _ ?_ ?_ Wk.kk | with_reducible refine And.intro ?_ ?_ | with_reducible omega | exact ok_ints | exact cells_ints | exact no_mem | with_reducible exact plain_ints | (refine le_maxLen ?_; omega) | (refine za9 ⟨?_,?_⟩) | (simp only [go_sem,Qc,Qb,zb1,zb2,forall_eq]; done)))
 all_goals (first | omega | assumption | rfl | exact absurd trivial ‹¬True›)
theorem anyF_ok (gs : List ByteArray) (hl : gs.length<=1000) (hz : ∀ j,(gs.getD j nilB).size<=1000) :
 Ctr Tryd.prog 67 [.slice (gs.map .str),.fn (.func 68) [] []] false (.d (.bool (!gs.all okS))) []:=by
 have c1:=indexFuncS_ok gs 68 (fun s => !okS s) hl (fun i _ => notF_ok _ (hz i))
 have hv : (!gs.all okS)=decide (0<=idxR (fun i => !okS (gs.getD i nilB)) gs.length):=by
  rcases first_or (fun i => !okS (gs.getD i nilB)) gs.length with h | ⟨k,h1,h2,h3⟩
  . rw [idxR_none h]
    have : gs.all okS=true:=List.all_eq_true.2 fun x hx => by
     obtain ⟨j,hj,rfl⟩:=List.getElem_of_mem hx
     have:=h j hj
     simpa [List.getD_eq_getElem?_getD,hj] using this
    rw [this]; rfl
  . rw [idxR_some h1 h2 h3]
    have : gs.all okS=false:=by
     rw [Bool.eq_false_iff]
     intro hh
     have:=List.all_eq_true.1 hh _ (getD_mem (z:=nilB) h1)
     rw [this] at h2; cases h2
    rw [this]; simp
 rw [hv]
 generalize idxR (fun i => !okS (gs.getD i nilB)) gs.length=r at *
 refine Ctr.of (n:=9) (rs:=[.tmp 4]) Tryd.func67 rfl rfl Tryd.ntmps67 rfl rfl (by kernel_rfl) Tryd.checked.mixed ?_
 simp (disch:=first | omega | decide +kernel) only [go_sem,Qa,Qb,Qc,Qd,Qe,↓reduceIte,reduceCtorEq,Qf,Qg,Qh]
 (repeat' (first | ((first | (refine gsel_split (fun q' => ?_) (fun q' => ?_)<;>(have h':=q')<;>(try simp only [za1,za2,Ba,Bb,za3,ne_eq,za4,za5,za6,Ia,Ib,Ic,Ie,Da,Bc,Bh,Be,za7,za8] at h')) | (have q':=trivial; first | refine callX_new (c1) rfl (by decide) ?_ | refine callY_new (c1) rfl ?_ | refine hE _ _ ret_ne ?_ | refine hE _ _ exit_ne ?_))<;>(try simp (disch:=first | omega | decide +kernel) only [q',go_sem,Qa,Qb,Qc,Qd,Qe,↓reduceIte,reduceCtorEq,Qf,Qg,Qh])<;>clear q') | refine hN _ ?_ ?_ Wk.kk | with_reducible refine And.intro ?_ ?_ | with_reducible omega | exact ok_ints | exact cells_ints | exact no_mem | with_reducible exact plain_ints | (refine le_maxLen ?_; omega) | (refine za9 ⟨?_,?_⟩) | (simp only [go_sem,Qc,Qb,zb1,zb2,forall_eq]; done)))
 all_goals (first | omega | assumption | rfl | exact absurd trivial ‹¬True›)
theorem fregeOk_ok (gs : List ByteArray) (ss : List Fs) (z : SzF gs ss) :
 Ctr Tryd.prog 49 [.slice (gs.map .str),.slice (ss.map fsD)] false (.d (.bool (okF gs ss))) []:=by
 have c1:=anyF_ok gs z.gl z.gz
 have hg:=z.gl
 have hs:=z.sl
 rw [okF]
 generalize gs.all okS=al at *
 by_cases h1 : gs.length<=6<;>by_cases h2 : ss.length<=80
 all_goals
  refine Ctr.of (n:=18) (rs:=[.tmp 4]) Tryd.func49 rfl rfl Tryd.ntmps49 rfl rfl (by kernel_rfl) Tryd.checked.mixed ?_
  simp (disch:=first | omega | decide +kernel) only [List.length_map,go_sem,Qa,Qb,Qc,Qd,Qe,↓reduceIte,reduceCtorEq,Qf,Qg,Qh]
  (repeat' (first | ((first | (refine gsel_split (fun q' => ?_) (fun q' => ?_)<;>(have h':=q')<;>(try simp only [za1,za2,Ba,Bb,za3,ne_eq,za4,za5,za6,Ia,Ib,Ic,Ie,Da,Bc,Bh,Be,za7,za8] at h')<;>try (exfalso; omega)) | (have q':=trivial; first | refine callX_new (c1) rfl (by decide) ?_ | refine callY_new (c1) rfl ?_ | refine hE _ _ ret_ne ?_ | refine hE _ _ exit_ne ?_))<;>(try simp (disch:=first | omega | decide +kernel) only [q',List.length_map,go_sem,Qa,Qb,Qc,Qd,Qe,↓reduceIte,reduceCtorEq,Qf,Qg,Qh])<;>clear q') | refine hN _ ?_ ?_ Wk.kk | with_reducible refine And.intro ?_ ?_ | with_reducible omega | exact ok_ints | exact cells_ints | exact no_mem | with_reducible exact plain_ints | (refine le_maxLen ?_; omega) | (refine za9 ⟨?_,?_⟩) | (simp only [go_sem,Qc,Qb,zb1,zb2,forall_eq]; done)))
 all_goals (first | omega | assumption | exact absurd trivial ‹¬True› | (simp [h1,h2]; done))
theorem l24Asked_ok (gs : List ByteArray) (ss : List Fs) (z : SzF gs ss) :
 Ctr Tryd.prog 64 [.slice (gs.map .str),.slice (ss.map fsD)] false (.d (.bool (okF gs ss))) []:=by
 have hgs:=fun (i : Nat) (h : i < gs.length) => el_gs (xs:=gs) h
 have hg:=z.gl
 have hs:=z.sl
 have hz:=z.gz
 by_cases h1 : gs.length<=6∧ss.length<=80
 . have hv : okF gs ss=gs.all okS:=by rw [okF,decide_eq_true h1.1,decide_eq_true h1.2]; rfl
   rw [hv]
   refine Ctr.of (n:=26) (rs:=[.tmp 4]) Tryd.func64 rfl rfl Tryd.ntmps64 rfl rfl (by kernel_rfl) Tryd.checked.mixed ?_
   simp (disch:=first | omega | decide +kernel) only [List.length_map,go_sem,Qa,Qb,Qc,Qd,Qe,↓reduceIte,reduceCtorEq,Qf,Qg,Qh]
   (repeat' (first | ((first | (refine gsel_split (fun q' => ?_) (fun q' => ?_)<;>(have h':=q')<;>(try simp only [za1,za2,Ba,Bb,za3,ne_eq,za4,za5,za6,Ia,Ib,Ic,Ie,Da,Bc,Bh,Be,za7,za8] at h')<;>try (exfalso; omega)) | (have q':=trivial; first | refine hE _ _ ret_ne ?_ | refine hE _ _ exit_ne ?_))<;>(try simp (disch:=first | omega | decide +kernel) only [q',List.length_map,go_sem,Qa,Qb,Qc,Qd,Qe,↓reduceIte,reduceCtorEq,Qf,Qg,Qh])<;>clear q') | refine hN _ ?_ ?_ Wk.kk | with_reducible refine And.intro ?_ ?_ | with_reducible omega | exact ok_ints | exact cells_ints | exact no_mem | with_reducible exact plain_ints | (refine le_maxLen ?_; omega) | (refine za9 ⟨?_,?_⟩) | (simp only [go_sem,Qc,Qb,zb1,zb2,forall_eq]; done)))
   all_goals (first | omega | exact absurd trivial ‹¬True› | skip)
   refine Ok.loopC [25,24,23,22,21,20,19,18,17,16,15,14,13,12,11,10,9,8,7,6,5,4,3,2,1] (fun i => [(5,.d (.int .i64 (i : Nat)))]) gs.length (fun i => ∀ j,j < i->okS (gs.getD j nilB)=true) (by simp) (Wk.kk) ?_
   intro R i hN hE hi hI
   by_cases hlt : i < gs.length
   . have c1:=l22Good_ok (gs.getD i nilB) (by have:=hz i; omega)
     have he:=hgs i hlt
     cases hb : okS (gs.getD i nilB) with
     | true =>
       rw [hb] at c1
       simp (disch:=first | omega | decide +kernel) only [he,List.length_map,go_sem,Qa,Qb,Qc,Qd,Qe,↓reduceIte,reduceCtorEq,Qf,Qg,Qh]
       (repeat' (first | ((first | (refine gsel_split (fun q' => ?_) (fun q' => ?_)<;>(have h':=q')<;>(try simp only [za1,za2,Ba,Bb,za3,ne_eq,za4,za5,za6,Ia,Ib,Ic,Ie,Da,Bc,Bh,Be,za7,za8] at h')<;>try (exfalso; omega)) | (have q':=trivial; first | refine callX_new (c1) rfl (by decide) ?_ | refine callY_new (c1) rfl ?_ | refine hE _ _ ret_ne ?_ | refine hE _ _ exit_ne ?_))<;>(try simp (disch:=first | omega | decide +kernel) only [q',he,List.length_map,go_sem,Qa,Qb,Qc,Qd,Qe,↓reduceIte,reduceCtorEq,Qf,Qg,Qh])<;>clear q') | refine hN _ ?_ ?_ Wk.kk | with_reducible refine And.intro ?_ ?_ | with_reducible omega | exact ok_ints | exact cells_ints | exact no_mem | with_reducible exact plain_ints | (refine le_maxLen ?_; omega) | (refine za9 ⟨?_,?_⟩) | (simp only [go_sem,Qc,Qb,zb1,zb2,forall_eq]; done)))
       all_goals (first | omega | assumption | exact absurd trivial ‹¬True› | exact all_succ hI hb)
     | false =>
       rw [hb] at c1
       have hr : gs.all okS=false:=by
        rw [Bool.eq_false_iff]
        intro hh
        have:=List.all_eq_true.1 hh _ (getD_mem (z:=nilB) hlt)
        rw [this] at hb; cases hb
       rw [hr] at hE
       simp (disch:=first | omega | decide +kernel) only [he,List.length_map,go_sem,Qa,Qb,Qc,Qd,Qe,↓reduceIte,reduceCtorEq,Qf,Qg,Qh]
       (repeat' (first | ((first | (refine gsel_split (fun q' => ?_) (fun q' => ?_)<;>(have h':=q')<;>(try simp only [za1,za2,Ba,Bb,za3,ne_eq,za4,za5,za6,Ia,Ib,Ic,Ie,Da,Bc,Bh,Be,za7,za8] at h')<;>try (exfalso; omega)) | (have q':=trivial; first | refine callX_new (c1) rfl (by decide) ?_ | refine callY_new (c1) rfl ?_ | refine hE _ _ ret_ne ?_ | refine hE _ _ exit_ne ?_))<;>(try simp (disch:=first | omega | decide +kernel) only [q',he,List.length_map,go_sem,Qa,Qb,Qc,Qd,Qe,↓reduceIte,reduceCtorEq,Qf,Qg,Qh])<;>clear q') | refine hN _ ?_ ?_ Wk.kk | with_reducible refine And.intro ?_ ?_ | with_reducible omega | exact ok_ints | exact cells_ints | exact no_mem | with_reducible exact plain_ints | (refine le_maxLen ?_; omega) | (refine za9 ⟨?_,?_⟩) | (simp only [go_sem,Qc,Qb,zb1,zb2,forall_eq]; done)))
       all_goals (first | omega | assumption | rfl | exact absurd trivial ‹¬True›)
   . have hr : gs.all okS=true:=List.all_eq_true.2 fun x hx => by
      obtain ⟨j,hj,rfl⟩:=List.getElem_of_mem hx
      have:=hI j (by omega)
      simpa [List.getD_eq_getElem?_getD,hj] using this
     simp (disch:=first | omega | decide +kernel) only [List.length_map,go_sem,Qa,Qb,Qc,Qd,Qe,↓reduceIte,reduceCtorEq,Qf,Qg,Qh]
     (repeat' (first | ((first | (refine gsel_split (fun q' => ?_) (fun q' => ?_)<;>(have h':=q')<;>(try simp only [za1,za2,Ba,Bb,za3,ne_eq,za4,za5,za6,Ia,Ib,Ic,Ie,Da,Bc,Bh,Be,za7,za8] at h')<;>try (exfalso; omega)) | (have q':=trivial; first | refine hE _ _ ret_ne ?_ | refine hE _ _ exit_ne ?_))<;>(try simp (disch:=first | omega | decide +kernel) only [q',List.length_map,go_sem,Qa,Qb,Qc,Qd,Qe,↓reduceIte,reduceCtorEq,Qf,Qg,Qh])<;>clear q') | refine hN _ ?_ ?_ Wk.kk | with_reducible refine And.intro ?_ ?_ | with_reducible omega | exact ok_ints | exact cells_ints | exact no_mem | with_reducible exact plain_ints | (refine le_maxLen ?_; omega) | (refine za9 ⟨?_,?_⟩) | (simp only [go_sem,Qc,Qb,zb1,zb2,forall_eq]; done)))
     all_goals (first | omega | assumption | (rw [hr]; done) | exact absurd trivial ‹¬True› | trivial)
 . have hv : okF gs ss=false:=by
    rw [okF,← Bool.decide_and,decide_eq_false h1]; rfl
   rw [hv]
   by_cases h2 : gs.length<=6
   . have h3 : ¬ ss.length<=80:=fun h => h1 ⟨h2,h⟩
     refine Ctr.of (n:=26) (rs:=[.tmp 4]) Tryd.func64 rfl rfl Tryd.ntmps64 rfl rfl (by kernel_rfl) Tryd.checked.mixed ?_
     simp (disch:=first | omega | decide +kernel) only [List.length_map,go_sem,Qa,Qb,Qc,Qd,Qe,↓reduceIte,reduceCtorEq,Qf,Qg,Qh]
     (repeat' (first | ((first | (refine gsel_split (fun q' => ?_) (fun q' => ?_)<;>(have h':=q')<;>(try simp only [za1,za2,Ba,Bb,za3,ne_eq,za4,za5,za6,Ia,Ib,Ic,Ie,Da,Bc,Bh,Be,za7,za8] at h')<;>try (exfalso; omega)) | (have q':=trivial; first | refine hE _ _ ret_ne ?_ | refine hE _ _ exit_ne ?_))<;>(try simp (disch:=first | omega | decide +kernel) only [q',List.length_map,go_sem,Qa,Qb,Qc,Qd,Qe,↓reduceIte,reduceCtorEq,Qf,Qg,Qh])<;>clear q') | refine hN _ ?_ ?_ Wk.kk | with_reducible refine And.intro ?_ ?_ | with_reducible omega | exact ok_ints | exact cells_ints | exact no_mem | with_reducible exact plain_ints | (refine le_maxLen ?_; omega) | (refine za9 ⟨?_,?_⟩) | (simp only [go_sem,Qc,Qb,zb1,zb2,forall_eq]; done)))
     all_goals (first | omega | assumption | rfl | exact absurd trivial ‹¬True›)
   . refine Ctr.of (n:=26) (rs:=[.tmp 4]) Tryd.func64 rfl rfl Tryd.ntmps64 rfl rfl (by kernel_rfl) Tryd.checked.mixed ?_
     simp (disch:=first | omega | decide +kernel) only [List.length_map,go_sem,Qa,Qb,Qc,Qd,Qe,↓reduceIte,reduceCtorEq,Qf,Qg,Qh]
     (repeat' (first | ((first | (refine gsel_split (fun q' => ?_) (fun q' => ?_)<;>(have h':=q')<;>(try simp only [za1,za2,Ba,Bb,za3,ne_eq,za4,za5,za6,Ia,Ib,Ic,Ie,Da,Bc,Bh,Be,za7,za8] at h')<;>try (exfalso; omega)) | (have q':=trivial; first | refine hE _ _ ret_ne ?_ | refine hE _ _ exit_ne ?_))<;>(try simp (disch:=first | omega | decide +kernel) only [q',List.length_map,go_sem,Qa,Qb,Qc,Qd,Qe,↓reduceIte,reduceCtorEq,Qf,Qg,Qh])<;>clear q') | refine hN _ ?_ ?_ Wk.kk | with_reducible refine And.intro ?_ ?_ | with_reducible omega | exact ok_ints | exact cells_ints | exact no_mem | with_reducible exact plain_ints | (refine le_maxLen ?_; omega) | (refine za9 ⟨?_,?_⟩) | (simp only [go_sem,Qc,Qb,zb1,zb2,forall_eq]; done)))
     all_goals (first | omega | assumption | rfl | exact absurd trivial ‹¬True›)
theorem fregeProof_ok (gs : List ByteArray) (ss : List Fs) (z : SzF gs ss) :
 Ctr Tryd.prog 42 [.slice (gs.map .str),.slice (ss.map fsD)] false (.d (.bool (proofF gs ss))) []:=by
 have c1:=fregeOk_ok gs ss z
 have c2:=firstWrongFrege_ok gs ss z
 have hs:=z.sl
 rw [proofF]
 generalize okF gs ss=k at *
 generalize wrongF true gs ss=r at *
 cases k<;>by_cases h1 : 0 < ss.length<;>by_cases h2 : r < 0
 all_goals
  refine Ctr.of (n:=19) (rs:=[.tmp 4]) Tryd.func42 rfl rfl Tryd.ntmps42 rfl rfl (by kernel_rfl) Tryd.checked.mixed ?_
  simp (disch:=first | omega | decide +kernel) only [List.length_map,go_sem,Qa,Qb,Qc,Qd,Qe,↓reduceIte,reduceCtorEq,Qf,Qg,Qh]
  (repeat' (first | ((first | (refine gsel_split (fun q' => ?_) (fun q' => ?_)<;>(have h':=q')<;>(try simp only [za1,za2,Ba,Bb,za3,ne_eq,za4,za5,za6,Ia,Ib,Ic,Ie,Da,Bc,Bh,Be,za7,za8] at h')<;>try (exfalso; omega)) | (have q':=trivial; first | refine callX_new (c1) rfl (by decide) ?_ | refine callY_new (c1) rfl ?_ | refine callX_new (c2) rfl (by decide) ?_ | refine callY_new (c2) rfl ?_ | refine hE _ _ ret_ne ?_ | refine hE _ _ exit_ne ?_))<;>(try simp (disch:=first | omega | decide +kernel) only [q',List.length_map,go_sem,Qa,Qb,Qc,Qd,Qe,↓reduceIte,reduceCtorEq,Qf,Qg,Qh])<;>clear q') | refine hN _ ?_ ?_ Wk.kk | with_reducible refine And.intro ?_ ?_ | with_reducible omega | exact ok_ints | exact cells_ints | exact no_mem | with_reducible exact plain_ints | (refine le_maxLen ?_; omega) | (refine za9 ⟨?_,?_⟩) | (simp only [go_sem,Qc,Qb,zb1,zb2,forall_eq]; done)))
 all_goals (first | omega | assumption | exact absurd trivial ‹¬True› | (simp [h1,h2]; done))
theorem l24GoodF_ok (gs : List ByteArray) (ss : List Fs) (z : SzF gs ss) :
 Ctr Tryd.prog 39 [.slice (gs.map .str),.slice (ss.map fsD)] false (.d (.bool (proofF gs ss))) []:=by
 have c1:=l24Asked_ok gs ss z
 have c2:=l24Wrong_ok gs ss z
 have hs:=z.sl
 rw [proofF]
 generalize okF gs ss=k at *
 generalize wrongF true gs ss=r at *
 cases k<;>by_cases h1 : 0 < ss.length<;>by_cases h2 : r < 0
 all_goals
  refine Ctr.of (n:=19) (rs:=[.tmp 4]) Tryd.func39 rfl rfl Tryd.ntmps39 rfl rfl (by kernel_rfl) Tryd.checked.mixed ?_
  simp (disch:=first | omega | decide +kernel) only [List.length_map,go_sem,Qa,Qb,Qc,Qd,Qe,↓reduceIte,reduceCtorEq,Qf,Qg,Qh]
  (repeat' (first | ((first | (refine gsel_split (fun q' => ?_) (fun q' => ?_)<;>(have h':=q')<;>(try simp only [za1,za2,Ba,Bb,za3,ne_eq,za4,za5,za6,Ia,Ib,Ic,Ie,Da,Bc,Bh,Be,za7,za8] at h')<;>try (exfalso; omega)) | (have q':=trivial; first | refine callX_new (c1) rfl (by decide) ?_ | refine callY_new (c1) rfl ?_ | refine callX_new (c2) rfl (by decide) ?_ | refine callY_new (c2) rfl ?_ | refine hE _ _ ret_ne ?_ | refine hE _ _ exit_ne ?_))<;>(try simp (disch:=first | omega | decide +kernel) only [q',List.length_map,go_sem,Qa,Qb,Qc,Qd,Qe,↓reduceIte,reduceCtorEq,Qf,Qg,Qh])<;>clear q') | refine hN _ ?_ ?_ Wk.kk | with_reducible refine And.intro ?_ ?_ | with_reducible omega | exact ok_ints | exact cells_ints | exact no_mem | with_reducible exact plain_ints | (refine le_maxLen ?_; omega) | (refine za9 ⟨?_,?_⟩) | (simp only [go_sem,Qc,Qb,zb1,zb2,forall_eq]; done)))
 all_goals (first | omega | assumption | exact absurd trivial ‹¬True› | (simp [h1,h2]; done))
theorem IsFregeProof_ok (gs : List ByteArray) (ss : List Fs) (z : SzF gs ss) :
 Ctr Tryd.prog 22 [.slice (gs.map .str),.slice (ss.map fsD)] false (.tup [.d (.bool (proofF gs ss)),.d (.bool (okF gs ss))]) []:=by
 have c1:=fregeOk_ok gs ss z
 have c2:=fregeProof_ok gs ss z
 generalize okF gs ss=k at *
 generalize proofF gs ss=r at *
 refine Ctr.of (n:=12) (rs:=[.tmp 4,.tmp 5]) Tryd.func22 rfl rfl Tryd.ntmps22 rfl rfl (by kernel_rfl) Tryd.checked.mixed ?_
 simp (disch:=first | omega | decide +kernel) only [go_sem,Qa,Qb,Qc,Qd,Qe,↓reduceIte,reduceCtorEq,Qf,Qg,Qh]
 (repeat' (first | ((first | (refine gsel_split (fun q' => ?_) (fun q' => ?_)<;>(have h':=q')<;>(try simp only [za1,za2,Ba,Bb,za3,ne_eq,za4,za5,za6,Ia,Ib,Ic,Ie,Da,Bc,Bh,Be,za7,za8] at h')<;>try (exfalso; omega)) | (have q':=trivial; first | refine callX_new (c1) rfl (by decide) ?_ | refine callY_new (c1) rfl ?_ | refine callX_new (c2) rfl (by decide) ?_ | refine callY_new (c2) rfl ?_ | refine hE _ _ ret_ne ?_ | refine hE _ _ exit_ne ?_))<;>(try simp (disch:=first | omega | decide +kernel) only [q',go_sem,Qa,Qb,Qc,Qd,Qe,↓reduceIte,reduceCtorEq,Qf,Qg,Qh])<;>clear q') | refine hN _ ?_ ?_ Wk.kk | with_reducible refine And.intro ?_ ?_ | with_reducible omega | exact ok_ints | exact cells_ints | exact no_mem | with_reducible exact plain_ints | (refine le_maxLen ?_; omega) | (refine za9 ⟨?_,?_⟩) | (simp only [go_sem,Qc,Qb,zb1,zb2,forall_eq]; done)))
 all_goals (first | omega | assumption | rfl | exact absurd trivial ‹¬True› | exact ret_s2 [] rfl rfl)
theorem lastFs_ok (ss : List Fs) (hl : ss.length<=1000) (h0 : 0 < ss.length) :
 Ctr Tryd.prog 43 [.slice (ss.map fsD)] true (.d (fsD (lastF ss))) []:=by
 have he:=el_fs (xs:=ss) (i:=ss.length - 1) (by omega)
 have e1 : ((ss.length : Nat) : Int) - 1=((ss.length - 1 : Nat) : Int):=by omega
 rw [lastF,fsD]
 generalize ss.getD (ss.length - 1) Fs.z=s at *
 refine Ctr.of (n:=9) (rs:=[.cell 2 67]) Tryd.func43 rfl rfl Tryd.ntmps43 rfl rfl (by kernel_rfl) Tryd.checked.mixed ?_
 simp (disch:=first | omega | decide +kernel) only [List.length_map,e1,he,Int.toNat_natCast,go_sem,Qa,Qb,Qc,Qd,Qe,↓reduceIte,reduceCtorEq,Qf,Qg,Qh]
 (repeat' (first | ((first | (refine gsel_split (fun q' => ?_) (fun q' => ?_)<;>(have h':=q')<;>(try simp only [za1,za2,Ba,Bb,za3,ne_eq,za4,za5,za6,Ia,Ib,Ic,Ie,Da,Bc,Bh,Be,za7,za8] at h')<;>try (exfalso; omega)) | (have q':=trivial; first | refine hE _ _ ret_ne ?_ | refine hE _ _ exit_ne ?_))<;>(try simp (disch:=first | omega | decide +kernel) only [q',List.length_map,e1,he,Int.toNat_natCast,go_sem,Qa,Qb,Qc,Qd,Qe,↓reduceIte,reduceCtorEq,Qf,Qg,Qh])<;>clear q') | refine hN _ ?_ ?_ Wk.kk | with_reducible refine And.intro ?_ ?_ | with_reducible omega | exact ok_ints | exact cells_ints | exact no_mem | with_reducible exact plain_ints | (refine le_maxLen ?_; omega) | (refine za9 ⟨?_,?_⟩) | (simp only [go_sem,Qc,Qb,zb1,zb2,forall_eq]; done)))
 all_goals (first | omega | exact ret_cb rfl rfl (by simp only [go_sem]) (by simp only [go_sem,List.length_cons,List.length_nil]) rfl (by simp only [go_sem]))
noncomputable def proved (gs : List ByteArray) (ss : List Fs) : ByteArray:=if proofF gs ss then (lastF ss).f else nilB
theorem ProvedFormula_ok (gs : List ByteArray) (ss : List Fs) (z : SzF gs ss) :
 Ctr Tryd.prog 18 [.slice (gs.map .str),.slice (ss.map fsD)] true (.tup [.d (.str (proved gs ss)),.d (.bool (proofF gs ss))]) []:=by
 have c1:=fregeProof_ok gs ss z
 rw [proved]
 cases hp : proofF gs ss with
 | false =>
   rw [hp] at c1
   rw [if_neg (by simp)]
   refine Ctr.of (n:=13) (rs:=[.tmp 4,.tmp 5]) Tryd.func18 rfl rfl Tryd.ntmps18 rfl rfl (by kernel_rfl) Tryd.checked.mixed ?_
   simp (disch:=first | omega | decide +kernel) only [go_sem,Qa,Qb,Qc,Qd,Qe,↓reduceIte,reduceCtorEq,Qf,Qg,Qh]
   (repeat' (first | ((first | (refine gsel_split (fun q' => ?_) (fun q' => ?_)<;>(have h':=q')<;>(try simp only [za1,za2,Ba,Bb,za3,ne_eq,za4,za5,za6,Ia,Ib,Ic,Ie,Da,Bc,Bh,Be,za7,za8] at h')<;>try (exfalso; omega)) | (have q':=trivial; first | refine callX_new (c1) rfl (by decide) ?_ | refine callY_new (c1) rfl ?_ | refine hE _ _ ret_ne ?_ | refine hE _ _ exit_ne ?_))<;>(try simp (disch:=first | omega | decide +kernel) only [q',go_sem,Qa,Qb,Qc,Qd,Qe,↓reduceIte,reduceCtorEq,Qf,Qg,Qh])<;>clear q') | refine hN _ ?_ ?_ Wk.kk | with_reducible refine And.intro ?_ ?_ | with_reducible omega | exact ok_ints | exact cells_ints | exact no_mem | with_reducible exact plain_ints | (refine le_maxLen ?_; omega) | (refine za9 ⟨?_,?_⟩) | (simp only [go_sem,Qc,Qb,zb1,zb2,forall_eq]; done)))
   all_goals (first | omega | assumption | rfl | exact absurd trivial ‹¬True› | exact ret_s2 [] rfl rfl)
 | true =>
   rw [hp] at c1
   have c2:=lastFs_ok ss z.sl (proof_spec hp).2.2.2.1
   rw [fsD] at c2
   rw [if_pos rfl]
   generalize lastF ss=s at *
   refine Ctr.of (n:=13) (rs:=[.tmp 4,.tmp 5]) Tryd.func18 rfl rfl Tryd.ntmps18 rfl rfl (by kernel_rfl) Tryd.checked.mixed ?_
   simp (disch:=first | omega | decide +kernel) only [go_sem,Qa,Qb,Qc,Qd,Qe,↓reduceIte,reduceCtorEq,Qf,Qg,Qh]
   (repeat' (first | ((first | (refine gsel_split (fun q' => ?_) (fun q' => ?_)<;>(have h':=q')<;>(try simp only [za1,za2,Ba,Bb,za3,ne_eq,za4,za5,za6,Ia,Ib,Ic,Ie,Da,Bc,Bh,Be,za7,za8] at h')<;>try (exfalso; omega)) | (have q':=trivial; first | refine callX_new (c1) rfl (by decide) ?_ | refine callY_new (c1) rfl ?_ | refine callX_shared (c2) rfl (by decide) ?_ | refine callY_shared (c2) rfl ?_ | refine hE _ _ ret_ne ?_ | refine hE _ _ exit_ne ?_))<;>(try simp (disch:=first | omega | decide +kernel) only [q',go_sem,Qa,Qb,Qc,Qd,Qe,↓reduceIte,reduceCtorEq,Qf,Qg,Qh])<;>clear q') | refine hN _ ?_ ?_ Wk.kk | with_reducible refine And.intro ?_ ?_ | with_reducible omega | exact ok_ints | exact cells_ints | exact no_mem | with_reducible exact plain_ints | (refine le_maxLen ?_; omega) | (refine za9 ⟨?_,?_⟩) | (simp only [go_sem,Qc,Qb,zb1,zb2,forall_eq]; done)))
   all_goals (first | omega | assumption | rfl | exact absurd trivial ‹¬True› | exact ret_s2 [] rfl rfl)
end Abs.Y

namespace Abs
open Go Go.Proofs
end Abs
namespace Abs.Y
open Go Go.Proofs Abs
set_option maxRecDepth 100000

theorem okFs {y : D} {l : List Fs} (h : y ∈ l.map fsD) : D.ok 4 y:=by
 obtain ⟨s,_,rfl⟩:=List.mem_map.1 h
 exact ⟨rfl,fun c hc => by simp only [fsD,D.cells,List.mem_cons,List.not_mem_nil,or_false] at hc; rcases hc with rfl | rfl | rfl | rfl<;>rfl⟩
theorem okA (f : ByteArray) (r a b : Int) : D.ok 4 (.agg [.str f,.int .i64 r,.int .i64 a,.int .i64 b]):=okFs (l:=[⟨f,r,a,b⟩]) (List.mem_singleton.2 rfl)
theorem vFrege_ok (ss : List Fs) (hl : ss.length<=1000) : Ctr Tryd.prog 17 [.slice (ss.map fsD),.slice (ss.map fsD)] false (.d (.bool true)) []:=by
 have hfs:=fun (i : Nat) (h : i < ss.length) => el_fs (xs:=ss) h
 refine Ctr.of (n:=26) (rs:=[.tmp 4]) Tryd.func17 rfl rfl Tryd.ntmps17 rfl rfl (by kernel_rfl) Tryd.checked.mixed ?_
 simp (disch:=first | omega | decide +kernel) only [List.length_map,go_sem,Qa,Qb,Qc,Qd,Qe,↓reduceIte,reduceCtorEq,Qf,Qg,Qh]
 (repeat' (first | ((first | (refine gsel_split (fun q' => ?_) (fun q' => ?_)<;>(have h':=q')<;>(try simp only [za1,za2,Ba,Bb,za3,ne_eq,za4,za5,za6,Ia,Ib,Ic,Ie,Da,Bc,Bh,Be,za7,za8] at h')<;>try (exfalso; omega)) | (have q':=trivial; first | refine hE _ _ ret_ne ?_ | refine hE _ _ exit_ne ?_))<;>(try simp (disch:=first | omega | decide +kernel) only [q',List.length_map,go_sem,Qa,Qb,Qc,Qd,Qe,↓reduceIte,reduceCtorEq,Qf,Qg,Qh])<;>clear q') | refine hN _ ?_ ?_ Wk.kk | with_reducible refine And.intro ?_ ?_ | with_reducible omega | exact ok_ints | exact cells_ints | exact no_mem | with_reducible exact plain_ints | (refine le_maxLen ?_; omega) | (refine za9 ⟨?_,?_⟩) | (simp only [go_sem,Qc,Qb,zb1,zb2,forall_eq]; done)))
 all_goals (first | omega | exact absurd trivial ‹¬True› | exact absurd rfl h' | skip)
 refine Ok.loopC [25,24,23,22,21,20,19,18,17,16,15,14,13,12,11,10,9,8,7,6,5,4,3,2] (fun i => [(5,.d (.int .i64 (i : Nat)))]) ss.length (fun i => True) (by trivial) (Wk.kk) ?_
 intro R i hN hE hi hI
 by_cases hlt : i < ss.length
 . have he:=hfs i hlt
   simp (disch:=first | omega | decide +kernel) only [he,List.length_map,beq_self_eq_true,go_sem,Qa,Qb,Qc,Qd,Qe,↓reduceIte,reduceCtorEq,Qf,Qg,Qh]
   (repeat' (first | ((first | (refine gsel_split (fun q' => ?_) (fun q' => ?_)<;>(have h':=q')<;>(try simp only [za1,za2,Ba,Bb,za3,ne_eq,za4,za5,za6,Ia,Ib,Ic,Ie,Da,Bc,Bh,Be,za7,za8] at h')<;>try (exfalso; omega)) | (have q':=trivial; first | refine hE _ _ ret_ne ?_ | refine hE _ _ exit_ne ?_))<;>(try simp (disch:=first | omega | decide +kernel) only [q',he,List.length_map,beq_self_eq_true,go_sem,Qa,Qb,Qc,Qd,Qe,↓reduceIte,reduceCtorEq,Qf,Qg,Qh])<;>clear q') | refine hN _ ?_ ?_ Wk.kk | with_reducible refine And.intro ?_ ?_ | with_reducible omega | exact ok_ints | exact cells_ints | exact no_mem | with_reducible exact plain_ints | (refine le_maxLen ?_; omega) | (refine za9 ⟨?_,?_⟩) | (simp only [go_sem,Qc,Qb,zb1,zb2,forall_eq]; done)))
   all_goals (first | omega | assumption | trivial | exact absurd trivial ‹¬True›)
 . simp (disch:=first | omega | decide +kernel) only [List.length_map,go_sem,Qa,Qb,Qc,Qd,Qe,↓reduceIte,reduceCtorEq,Qf,Qg,Qh]
   (repeat' (first | ((first | (refine gsel_split (fun q' => ?_) (fun q' => ?_)<;>(have h':=q')<;>(try simp only [za1,za2,Ba,Bb,za3,ne_eq,za4,za5,za6,Ia,Ib,Ic,Ie,Da,Bc,Bh,Be,za7,za8] at h')<;>try (exfalso; omega)) | (have q':=trivial; first | refine hE _ _ ret_ne ?_ | refine hE _ _ exit_ne ?_))<;>(try simp (disch:=first | omega | decide +kernel) only [q',List.length_map,go_sem,Qa,Qb,Qc,Qd,Qe,↓reduceIte,reduceCtorEq,Qf,Qg,Qh])<;>clear q') | refine hN _ ?_ ?_ Wk.kk | with_reducible refine And.intro ?_ ?_ | with_reducible omega | exact ok_ints | exact cells_ints | exact no_mem | with_reducible exact plain_ints | (refine le_maxLen ?_; omega) | (refine za9 ⟨?_,?_⟩) | (simp only [go_sem,Qc,Qb,zb1,zb2,forall_eq]; done)))
   all_goals (first | omega | assumption | rfl | trivial | exact absurd trivial ‹¬True›)
theorem plainFs {ss : List Fs} : ∀ y ∈ ss.map fsD,y.plain=true:=fun y hy => by
 obtain ⟨e,_,rfl⟩:=List.mem_map.1 hy; rfl
theorem cloneF_ok (ss : List Fs) (hl : ss.length<=1000) : Ctr Tryd.prog 44 [.slice (ss.map fsD)] false (.sl 0) [(0,.arr 67 4 (ss.map fsD))]:=by
 have hok : ∀ y ∈ ss.map fsD,D.ok 4 y:=fun y hy => okFs hy
 cases ss with
 | nil =>
   refine Ctr.of (n:=8) (rs:=[.tmp 2]) Tryd.func44 rfl rfl Tryd.ntmps44 rfl rfl (by kernel_rfl) Tryd.checked.mixed ?_
   simp (disch:=first | omega | decide +kernel) only [List.map_nil,go_sem,Qa,Qb,Qc,Qd,Qe,↓reduceIte,reduceCtorEq,Qf,Qg,Qh]
   intro b hb
   cases b with
   | true =>
     simp (disch:=first | omega | decide +kernel) only [go_sem,Qa,Qb,Qc,Qd,Qe,↓reduceIte,reduceCtorEq,Qf,Qg,Qh]
     (repeat' (first | ((first | (refine gsel_split (fun q' => ?_) (fun q' => ?_)<;>(have h':=q')<;>(try simp only [za1,za2,Ba,Bb,za3,ne_eq,za4,za5,za6,Ia,Ib,Ic,Ie,Da,Bc,Bh,Be,za7,za8] at h')) | (have q':=trivial; first | refine hE _ _ ret_ne ?_ | refine hE _ _ exit_ne ?_))<;>(try simp (disch:=first | omega | decide +kernel) only [q',go_sem,Qa,Qb,Qc,Qd,Qe,↓reduceIte,reduceCtorEq,Qf,Qg,Qh])<;>clear q') | refine hN _ ?_ ?_ Wk.kk | with_reducible refine And.intro ?_ ?_ | with_reducible omega | exact ok_ints | exact cells_ints | exact no_mem | with_reducible exact plain_ints | (refine le_maxLen ?_; omega) | (refine za9 ⟨?_,?_⟩) | (simp only [go_sem,Qc,Qb,zb1,zb2,forall_eq]; done)))
     exact ret_sl 2 rfl rfl no_mem
   | false =>
     simp (disch:=first | omega | decide +kernel) only [go_sem,Qa,Qb,Qc,Qd,Qe,↓reduceIte,reduceCtorEq,Qf,Qg,Qh]
     (repeat' (first | ((first | (refine gsel_split (fun q' => ?_) (fun q' => ?_)<;>(have h':=q')<;>(try simp only [za1,za2,Ba,Bb,za3,ne_eq,za4,za5,za6,Ia,Ib,Ic,Ie,Da,Bc,Bh,Be,za7,za8] at h')) | (have q':=trivial; first | refine hE _ _ ret_ne ?_ | refine hE _ _ exit_ne ?_))<;>(try simp (disch:=first | omega | decide +kernel) only [q',go_sem,Qa,Qb,Qc,Qd,Qe,↓reduceIte,reduceCtorEq,Qf,Qg,Qh])<;>clear q') | refine hN _ ?_ ?_ Wk.kk | with_reducible refine And.intro ?_ ?_ | with_reducible omega | exact ok_ints | exact cells_ints | exact no_mem | with_reducible exact plain_ints | (refine le_maxLen ?_; omega) | (refine za9 ⟨?_,?_⟩) | (simp only [go_sem,Qc,Qb,zb1,zb2,forall_eq]; done)))
     exact ret_sl 5 rfl rfl no_mem
 | cons q r =>
   simp only [List.map_cons,List.mem_cons,List.length_cons] at hok hl
   refine Ctr.of (n:=8) (rs:=[.tmp 2]) Tryd.func44 rfl rfl Tryd.ntmps44 rfl rfl (by kernel_rfl) Tryd.checked.mixed ?_
   simp (disch:=first | omega | decide +kernel) only [List.map_cons,List.length_cons,List.length_map,go_sem,Qa,Qb,Qc,Qd,Qe,↓reduceIte,reduceCtorEq,Qf,Qg,Qh]
   (repeat' (first | ((first | (refine gsel_split (fun q' => ?_) (fun q' => ?_)<;>(have h':=q')<;>(try simp only [za1,za2,Ba,Bb,za3,ne_eq,za4,za5,za6,Ia,Ib,Ic,Ie,Da,Bc,Bh,Be,za7,za8] at h')) | (have q':=trivial; first | refine hE _ _ ret_ne ?_ | refine hE _ _ exit_ne ?_))<;>(try simp (disch:=first | omega | decide +kernel) only [q',List.map_cons,List.length_cons,List.length_map,go_sem,Qa,Qb,Qc,Qd,Qe,↓reduceIte,reduceCtorEq,Qf,Qg,Qh])<;>clear q') | refine hN _ ?_ ?_ Wk.kk | with_reducible refine And.intro ?_ ?_ | with_reducible omega | exact ok_ints | exact cells_ints | exact no_mem | with_reducible exact plain_ints | (refine le_maxLen ?_; omega) | (refine za9 ⟨?_,?_⟩) | (simp only [go_sem,Qc,Qb,zb1,zb2,forall_eq]; done)))
   all_goals (first | exact hok _ (.inl rfl) | exact (fun y hy => hok y (.inr hy)) | exact le_maxLen (by omega) | omega | exact ret_sl 5 rfl rfl (plainFs (ss:=q :: r)))
end Abs.Y
