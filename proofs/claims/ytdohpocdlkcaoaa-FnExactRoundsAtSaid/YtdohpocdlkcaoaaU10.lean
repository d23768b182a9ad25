/- What functions of this program compute, over plain data. No condition. -/
import Derived.Test.YtdohpocdlkcaoaaU9
set_option linter.all false
namespace Abs.Y
open Go Go.Proofs Abs
open Nat renaming reduceEqDiff -> Qa, reduceLT -> Qb, reduceAdd -> Qc, reduceMul -> Qd, reduceSub -> Qe, reduceLeDiff -> Qf, reduceSubDiff -> Qg, reduceBEq -> Qh
open Bool renaming not_eq_true' -> Ba, not_eq_false' -> Bb, and_eq_true -> Bc, or_eq_true -> Bd, or_eq_false_iff -> Be
open Int renaming ofNat_lt -> Ia, ofNat_le -> Ib, not_lt -> Ic, not_le -> Ie
open Decidable renaming not_not -> Da
set_option maxRecDepth 100000

theorem ret_f1 {P : Program} {t : Nat} {x : D} {st : St} (js : List Nat) (h : lk t (frzs js st).s=some (.d x)) : retQ P [.tmp t] true (.d x) [] .ret st:=by
 refine .inr ⟨rfl,js,?_⟩
 simp only [retO,resV,h]
 exact ⟨trivial,.nil rfl,.inl trivial⟩
theorem l10Good_ok (v : Int) (cs : List (List Int)) (hl : cs.length<=4294967296) (hc : ∀ j,(cs.getD j []).length<=4294967296) :
 Ctr Try.prog 74 [.agg [.int .i64 v,.slice (cs.map D.ints)]] false (.d (.bool (decide (v<=6) && okCnf v cs))) []:=by
 have c1:=l2Good_ok v cs hl hc
 generalize okCnf v cs=b at *
 refine Ctr.of (n:=10) (rs:=[.tmp 2]) Try.func74 rfl rfl Try.ntmps74 rfl rfl (by kernel_rfl) Try.checked.mixed ?_
 simp (disch:=first | omega | decide +kernel) only [go_sem,Qa,Qb,Qc,Qd,Qe,↓reduceIte,reduceCtorEq,Qf,Qg,Qh]
 (repeat' (first | ((first | (refine gsel_split (fun q' => ?_) (fun q' => ?_)<;>(have h':=q')<;>(try simp only [za1,za2,Ba,Bb,za3,ne_eq,za4,za5,za6,Ia,Ib,Ic,Ie,Da,Bc,Bd,Be,za7,za8] at h')) | (have q':=trivial; first | refine callX_new (c1) rfl (by decide) ?_ | refine callY_new (c1) rfl ?_ | refine hE _ _ ret_ne ?_ | refine hE _ _ exit_ne ?_))<;>(try simp (disch:=first | omega | decide +kernel) only [q',go_sem,Qa,Qb,Qc,Qd,Qe,↓reduceIte,reduceCtorEq,Qf,Qg,Qh])<;>clear q') | refine hN _ ?_ ?_ Wk.kk | with_reducible refine And.intro ?_ ?_ | with_reducible omega | exact ok_ints | exact cells_ints | exact no_mem | with_reducible exact plain_ints | (refine le_maxLen ?_; omega) | (refine za9 ⟨?_,?_⟩) | (simp only [go_sem,Qc,Qb,zb1,zb2,forall_eq]; done)))
 all_goals (first | rfl | simp_all)
theorem l10Width_ok (w : Int) : Ctr Try.prog 75 [.int .i64 w] false (.d (.bool (decide (0<=w) && decide (w<=6)))) []:=by
 have c1:=l1In_ok w 0 6
 refine Ctr.of (n:=5) (rs:=[.tmp 2]) Try.func75 rfl rfl Try.ntmps75 rfl rfl (by kernel_rfl) Try.checked.mixed ?_
 simp (disch:=first | omega | decide +kernel) only [go_sem,Qa,Qb,Qc,Qd,Qe,↓reduceIte,reduceCtorEq,Qf,Qg,Qh]
 (repeat' (first | ((first | (refine gsel_split (fun q' => ?_) (fun q' => ?_)<;>(have h':=q')<;>(try simp only [za1,za2,Ba,Bb,za3,ne_eq,za4,za5,za6,Ia,Ib,Ic,Ie,Da,Bc,Bd,Be,za7,za8] at h')) | (have q':=trivial; first | refine callX_new (c1) rfl (by decide) ?_ | refine callY_new (c1) rfl ?_ | refine hE _ _ ret_ne ?_ | refine hE _ _ exit_ne ?_))<;>(try simp (disch:=first | omega | decide +kernel) only [q',go_sem,Qa,Qb,Qc,Qd,Qe,↓reduceIte,reduceCtorEq,Qf,Qg,Qh])<;>clear q') | refine hN _ ?_ ?_ Wk.kk | with_reducible refine And.intro ?_ ?_ | with_reducible omega | exact ok_ints | exact cells_ints | exact no_mem | with_reducible exact plain_ints | (refine le_maxLen ?_; omega) | (refine za9 ⟨?_,?_⟩) | (simp only [go_sem,Qc,Qb,zb1,zb2,forall_eq]; done)))
theorem l2Insert_ok (list : List (List Int)) (c : List Int) (hl : list.length<=1048576) (hc : c.length<=4294967296) (sc : Sm c) (hx : ∀ x ∈ list,x.length<=4294967296) (hs : Srt list) :
 Ctr Try.prog 163 [.slice (list.map D.ints),.ints c] true (.d (.slice ((insI list c).map D.ints))) []:=by
 have hat:=plI_at hs sc
 have c1:=l2Place_ok list c (plI list c) (by omega) hc sc (fun x h => ⟨hx x h,hs.2 x h⟩) hat
 have hle:=hat.1
 unfold insI
 generalize plI list c=k at *
 have eD : (list.drop k).take (list.length - k)=list.drop k:=List.take_of_length_le (by simp)
 have hcell : ∀ l : List (List Int),∀ y ∈ l.map D.ints,y.cells.length=1:=fun l y hy => by obtain ⟨c,_,rfl⟩:=List.mem_map.1 hy; rfl
 have hok : ∀ l : List (List Int),∀ y ∈ l.map D.ints,D.ok 1 y:=fun l y hy => by obtain ⟨c,_,rfl⟩:=List.mem_map.1 hy; exact ⟨rfl,fun x hx => by cases hx with | head => rfl | tail _ h => cases h⟩
 have hA : (list.take k).length=k:=by rw [List.length_take]; omega
 have hB : (list.drop k).length=list.length - k:=List.length_drop
 by_cases hk : k < list.length
 . have hel : el (list.map D.ints) k=D.ints (list.getD k []):=el_map (f:=D.ints) [] hk
   have c2:=l1Same_ok (list.getD k []) c (hx _ (getD_mem hk))
   by_cases he : list.getD k []=c
   . rw [if_pos ⟨hk,he⟩]
     rw [decide_eq_true he] at c2
     refine Ctr.of (n:=34) (rs:=[.tmp 4]) Try.func163 rfl rfl Try.ntmps163 rfl rfl (by kernel_rfl) Try.checked.mixed ?_
     simp (disch:=first | omega | decide +kernel) only [D.ints,hel,go_sem,Qa,Qb,Qc,Qd,Qe,↓reduceIte,reduceCtorEq,Qf,Qg,Qh]
     (repeat' (first | ((first | (refine gsel_split (fun q' => ?_) (fun q' => ?_)<;>(have h':=q')<;>(try simp only [za1,za2,Ba,Bb,za3,ne_eq,za4,za5,za6,Ia,Ib,Ic,Ie,Da,Bc,Bd,Be,za7,za8] at h')) | (have q':=trivial; first | refine callX_new (c1) rfl (by decide) ?_ | refine callY_new (c1) rfl ?_ | refine callX_new (c2) rfl (by decide) ?_ | refine callY_new (c2) rfl ?_ | refine hE _ _ ret_ne ?_ | refine hE _ _ exit_ne ?_))<;>(try simp (disch:=first | omega | decide +kernel) only [q',D.ints,hel,go_sem,Qa,Qb,Qc,Qd,Qe,↓reduceIte,reduceCtorEq,Qf,Qg,Qh])<;>clear q') | refine hN _ ?_ ?_ Wk.kk | with_reducible refine And.intro ?_ ?_ | with_reducible omega | exact ok_ints | exact cells_ints | exact no_mem | with_reducible exact plain_ints | (refine le_maxLen ?_; omega) | (refine za9 ⟨?_,?_⟩) | (simp only [go_sem,Qc,Qb,zb1,zb2,forall_eq]; done)))
     exact ret_f1 [] rfl
   . rw [if_neg fun h => he h.2]
     rw [decide_eq_false he] at c2
     refine Ctr.of (n:=34) (rs:=[.tmp 4]) Try.func163 rfl rfl Try.ntmps163 rfl rfl (by kernel_rfl) Try.checked.mixed ?_
     simp (disch:=first | omega | decide +kernel) only [D.ints,hel,eD,go_sem,Qa,Qb,Qc,Qd,Qe,↓reduceIte,reduceCtorEq,Qf,Qg,Qh]
     (repeat' (first | ((first | (refine gsel_split (fun q' => ?_) (fun q' => ?_)<;>(have h':=q')<;>(try simp only [za1,za2,Ba,Bb,za3,ne_eq,za4,za5,za6,Ia,Ib,Ic,Ie,Da,Bc,Bd,Be,za7,za8] at h')) | (have q':=trivial; first | refine callX_new (c1) rfl (by decide) ?_ | refine callY_new (c1) rfl ?_ | refine callX_new (c2) rfl (by decide) ?_ | refine callY_new (c2) rfl ?_ | refine hE _ _ ret_ne ?_ | refine hE _ _ exit_ne ?_))<;>(try simp (disch:=first | omega | decide +kernel) only [q',D.ints,hel,eD,go_sem,Qa,Qb,Qc,Qd,Qe,↓reduceIte,reduceCtorEq,Qf,Qg,Qh])<;>clear q') | refine hN _ ?_ ?_ Wk.kk | with_reducible refine And.intro ?_ ?_ | with_reducible omega | exact ok_ints | exact cells_ints | exact no_mem | with_reducible exact plain_ints | (refine le_maxLen ?_; omega) | (refine za9 ⟨?_,?_⟩) | (simp only [go_sem,Qc,Qb,zb1,zb2,forall_eq]; done)))
     all_goals (first | exact hcell _ | skip)
     generalize list.take k=A at *
     generalize list.drop k=B at *
     cases A with
     | nil =>
       simp (disch:=first | omega | decide +kernel) only [List.map_nil,List.map_cons,go_sem,Qa,Qb,Qc,Qd,Qe,↓reduceIte,reduceCtorEq,Qf,Qg,Qh]
       (repeat' (first | ((first | (refine gsel_split (fun q' => ?_) (fun q' => ?_)<;>(have h':=q')<;>(try simp only [za1,za2,Ba,Bb,za3,ne_eq,za4,za5,za6,Ia,Ib,Ic,Ie,Da,Bc,Bd,Be,za7,za8] at h')) | (have q':=trivial; first | refine hE _ _ ret_ne ?_ | refine hE _ _ exit_ne ?_))<;>(try simp (disch:=first | omega | decide +kernel) only [q',List.map_nil,List.map_cons,go_sem,Qa,Qb,Qc,Qd,Qe,↓reduceIte,reduceCtorEq,Qf,Qg,Qh])<;>clear q') | refine hN _ ?_ ?_ Wk.kk | with_reducible refine And.intro ?_ ?_ | with_reducible omega | exact ok_ints | exact cells_ints | exact no_mem | with_reducible exact plain_ints | (refine le_maxLen ?_; omega) | (refine za9 ⟨?_,?_⟩) | (simp only [go_sem,Qc,Qb,zb1,zb2,forall_eq]; done)))
       all_goals (first | exact hok _ | exact hok _ _ (by simp) | (refine le_maxLen ?_; simp only [List.length_nil,List.length_cons,List.length_map,List.length_append] at hA ⊢; omega) | (simp only [List.length_nil,List.length_cons,List.length_map,List.length_append] at hA ⊢; omega) | exact ret_f1 [29] rfl | skip)
     | cons a A =>
       simp only [List.cons_append,List.map_cons,List.map_append]
       simp (disch:=first | omega | decide +kernel) only [List.map_nil,List.map_cons,go_sem,Qa,Qb,Qc,Qd,Qe,↓reduceIte,reduceCtorEq,Qf,Qg,Qh]
       (repeat' (first | ((first | (refine gsel_split (fun q' => ?_) (fun q' => ?_)<;>(have h':=q')<;>(try simp only [za1,za2,Ba,Bb,za3,ne_eq,za4,za5,za6,Ia,Ib,Ic,Ie,Da,Bc,Bd,Be,za7,za8] at h')) | (have q':=trivial; first | refine hE _ _ ret_ne ?_ | refine hE _ _ exit_ne ?_))<;>(try simp (disch:=first | omega | decide +kernel) only [q',List.map_nil,List.map_cons,go_sem,Qa,Qb,Qc,Qd,Qe,↓reduceIte,reduceCtorEq,Qf,Qg,Qh])<;>clear q') | refine hN _ ?_ ?_ Wk.kk | with_reducible refine And.intro ?_ ?_ | with_reducible omega | exact ok_ints | exact cells_ints | exact no_mem | with_reducible exact plain_ints | (refine le_maxLen ?_; omega) | (refine za9 ⟨?_,?_⟩) | (simp only [go_sem,Qc,Qb,zb1,zb2,forall_eq]; done)))
       all_goals (first | exact hok _ | exact hok [a] _ (by simp) | (refine le_maxLen ?_; simp only [List.length_nil,List.length_cons,List.length_map,List.length_append] at hA ⊢; omega) | (simp only [List.length_nil,List.length_cons,List.length_map,List.length_append] at hA ⊢; omega) | (simp only [List.append_assoc,List.singleton_append]; exact ret_f1 [26] rfl) | skip)
 . rw [if_neg fun h => hk h.1]
   refine Ctr.of (n:=34) (rs:=[.tmp 4]) Try.func163 rfl rfl Try.ntmps163 rfl rfl (by kernel_rfl) Try.checked.mixed ?_
   simp (disch:=first | omega | decide +kernel) only [D.ints,eD,go_sem,Qa,Qb,Qc,Qd,Qe,↓reduceIte,reduceCtorEq,Qf,Qg,Qh]
   (repeat' (first | ((first | (refine gsel_split (fun q' => ?_) (fun q' => ?_)<;>(have h':=q')<;>(try simp only [za1,za2,Ba,Bb,za3,ne_eq,za4,za5,za6,Ia,Ib,Ic,Ie,Da,Bc,Bd,Be,za7,za8] at h')) | (have q':=trivial; first | refine callX_new (c1) rfl (by decide) ?_ | refine callY_new (c1) rfl ?_ | refine hE _ _ ret_ne ?_ | refine hE _ _ exit_ne ?_))<;>(try simp (disch:=first | omega | decide +kernel) only [q',D.ints,eD,go_sem,Qa,Qb,Qc,Qd,Qe,↓reduceIte,reduceCtorEq,Qf,Qg,Qh])<;>clear q') | refine hN _ ?_ ?_ Wk.kk | with_reducible refine And.intro ?_ ?_ | with_reducible omega | exact ok_ints | exact cells_ints | exact no_mem | with_reducible exact plain_ints | (refine le_maxLen ?_; omega) | (refine za9 ⟨?_,?_⟩) | (simp only [go_sem,Qc,Qb,zb1,zb2,forall_eq]; done)))
   all_goals (first | exact hcell _ | skip)
   generalize list.take k=A at *
   generalize list.drop k=B at *
   cases A with
   | nil =>
     simp (disch:=first | omega | decide +kernel) only [List.map_nil,List.map_cons,go_sem,Qa,Qb,Qc,Qd,Qe,↓reduceIte,reduceCtorEq,Qf,Qg,Qh]
     (repeat' (first | ((first | (refine gsel_split (fun q' => ?_) (fun q' => ?_)<;>(have h':=q')<;>(try simp only [za1,za2,Ba,Bb,za3,ne_eq,za4,za5,za6,Ia,Ib,Ic,Ie,Da,Bc,Bd,Be,za7,za8] at h')) | (have q':=trivial; first | refine hE _ _ ret_ne ?_ | refine hE _ _ exit_ne ?_))<;>(try simp (disch:=first | omega | decide +kernel) only [q',List.map_nil,List.map_cons,go_sem,Qa,Qb,Qc,Qd,Qe,↓reduceIte,reduceCtorEq,Qf,Qg,Qh])<;>clear q') | refine hN _ ?_ ?_ Wk.kk | with_reducible refine And.intro ?_ ?_ | with_reducible omega | exact ok_ints | exact cells_ints | exact no_mem | with_reducible exact plain_ints | (refine le_maxLen ?_; omega) | (refine za9 ⟨?_,?_⟩) | (simp only [go_sem,Qc,Qb,zb1,zb2,forall_eq]; done)))
     all_goals (first | exact hok _ | exact hok _ _ (by simp) | (refine le_maxLen ?_; simp only [List.length_nil,List.length_cons,List.length_map,List.length_append] at hA ⊢; omega) | (simp only [List.length_nil,List.length_cons,List.length_map,List.length_append] at hA ⊢; omega) | exact ret_f1 [29] rfl | skip)
      | cons a A =>
     simp only [List.cons_append,List.map_cons,List.map_append]
     simp (disch:=first | omega | decide +kernel) only [List.map_nil,List.map_cons,go_sem,Qa,Qb,Qc,Qd,Qe,↓reduceIte,reduceCtorEq,Qf,Qg,Qh]
     (repeat' (first | ((first | (refine gsel_split (fun q' => ?_) (fun q' => ?_)<;>(have h':=q')<;>(try simp only [za1,za2,Ba,Bb,za3,ne_eq,za4,za5,za6,Ia,Ib,Ic,Ie,Da,Bc,Bd,Be,za7,za8] at h')) | (have q':=trivial; first | refine hE _ _ ret_ne ?_ | refine hE _ _ exit_ne ?_))<;>(try simp (disch:=first | omega | decide +kernel) only [q',List.map_nil,List.map_cons,go_sem,Qa,Qb,Qc,Qd,Qe,↓reduceIte,reduceCtorEq,Qf,Qg,Qh])<;>clear q') | refine hN _ ?_ ?_ Wk.kk | with_reducible refine And.intro ?_ ?_ | with_reducible omega | exact ok_ints | exact cells_ints | exact no_mem | with_reducible exact plain_ints | (refine le_maxLen ?_; omega) | (refine za9 ⟨?_,?_⟩) | (simp only [go_sem,Qc,Qb,zb1,zb2,forall_eq]; done)))
     all_goals (first | exact hok _ | exact hok [a] _ (by simp) | (refine le_maxLen ?_; simp only [List.length_nil,List.length_cons,List.length_map,List.length_append] at hA ⊢; omega) | (simp only [List.length_nil,List.length_cons,List.length_map,List.length_append] at hA ⊢; omega) | (simp only [List.append_assoc,List.singleton_append]; exact ret_f1 [26] rfl) | skip)
end Abs.Y
