/- What functions of this program compute, over plain data. No condition. -/
import Derived.Test.YtiafnejjhnjbfaaDoorGF7
import Derived.Test.YtiafnejjhnjbfaaDoorFQ4
import Derived.Test.YtiafnejjhnjbfaaDoorAbsReg7
set_option linter.all false
open Nat renaming reduceEqDiff -> Qa, reduceLT -> Qb, reduceAdd -> Qc, reduceMul -> Qd, reduceSub -> Qe, reduceLeDiff -> Qf, reduceSubDiff -> Qg, reduceBEq -> Qh
open Bool renaming not_eq_true' -> Ba, not_eq_false' -> Bb, and_eq_true -> Bc, or_eq_true -> Bh, or_eq_false_iff -> Be
open Int renaming ofNat_lt -> Ia, ofNat_le -> Ib, not_lt -> Ic, not_le -> Ie
open Decidable renaming not_not -> Da
namespace Abs.Y
open Go Go.Proofs Abs
set_option maxRecDepth 100000

theorem pf_no {gs ss l t} (h : ¬ (okF gs ss=true∧wrongF true gs ss < 0∧okS t=true∧letS l=true)) : pfG gs ss l t=false:=by
 rw [pfG,Bool.eq_false_iff]
 intro h2
 simp only [Bc,decide_eq_true_eq] at h2
 exact h ⟨h2.1.1.1.1,h2.1.1.1.2,h2.1.1.2,h2.1.2⟩
theorem all_false {α : Type} {z : α} {p : α->Bool} {l : List α} {i : Nat} (h : i < l.length) (hp : p (l.getD i z)=false) : l.all p=false:=by
 rw [Bool.eq_false_iff]
 intro hh
 have:=List.all_eq_true.1 hh _ (getD_mem (z:=z) h)
 rw [hp] at this
 cases this
theorem all_true {α : Type} {z : α} {p : α->Bool} {l : List α} (h : ∀ j,j < l.length->p (l.getD j z)=true) : l.all p=true :=
 List.all_eq_true.2 fun x hx => by
  obtain ⟨j,hj,rfl⟩:=List.getElem_of_mem hx
  have:=h j hj
  simpa [List.getD_eq_getElem?_getD,hj] using this
set_option maxHeartbeats 16000000 in
theorem PutInFrege_ok (gs : List ByteArray) (ss : List Fs) (l t : ByteArray) (z : SzF gs ss) (hl : l.size<=1000) (ht : t.size<=1000) :
 Ctr Tryd.prog 20 [.slice (gs.map .str),.slice (ss.map fsD),.str l,.str t] true (.tup [.d (.slice ((pfV gs ss l t).map fsD)),.d (.bool (pfG gs ss l t))]) []:=by
 have c1:=fregeOk_ok gs ss z
 have c2:=firstWrongFrege_ok gs ss z
 have c3:=IsFormula_ok t (by omega)
 have cl:=isLetter_ok ((BL l).getD 0 0)
 have t0 : Int.toNat 0=0:=rfl
 have hsl:=z.sl
 obtain ⟨d,hd⟩ : ∃ d,d=(BL l).getD 0 0:=⟨_,rfl⟩
 have e0 : l.data.toList.getD 0 0=d:=hd.symm
 by_cases hg : okF gs ss=true∧wrongF true gs ss < 0∧okS t=true∧letS l=true
 . obtain ⟨h1,h2,h3,h4⟩:=hg
   have hG : pfG gs ss l t=ss.all (fun s => putG s.f l t):=by rw [pfG,h1,h3,h4,decide_eq_true h2]; rfl
   rw [pfV,hG]
   rw [h1] at c1
   rw [h3] at c3
   have h4':=h4
   rw [letS,Bc,decide_eq_true_eq,← hd] at h4'
   obtain ⟨hz,hL⟩:=h4'
   rw [← hd,hL] at cl
   have hfs:=fun (i : Nat) (h : i < ss.length) => el_fs (xs:=ss) h
   obtain ⟨al,hal⟩ : ∃ al,(ss.all fun s => putG s.f l t)=al:=⟨_,rfl⟩
   rw [hal]
   have cp:=fun (i : Nat) => PutFormula_ok (ss.getD i Fs.z).f l t (by have:=z.sz i; omega) (by omega) (by omega)
   clear hG hd
   generalize wrongF true gs ss=wr at *
   have hwr : ¬ 0<=wr:=by omega
   refine Ctr.of (n:=65) (rs:=[.tmp 8,.tmp 9]) Tryd.func20 rfl rfl Tryd.ntmps20 rfl rfl (by kernel_rfl) Tryd.checked.mixed ?_
   simp (disch:=first | omega | decide +kernel) only [List.length_map,hwr,hz,e0,t0,go_sem,Qa,Qb,Qc,Qd,Qe,↓reduceIte,reduceCtorEq,Qf,Qg,Qh]
   (repeat' (first | ((first | (refine gsel_split (fun q' => ?_) (fun q' => ?_)<;>(have h':=q')<;>(try simp only [za1,za2,Ba,Bb,za3,ne_eq,za4,za5,za6,Ia,Ib,Ic,Ie,Da,Bc,Bh,Be,za7,za8] at h')<;>try (exfalso; omega)) | (have q':=trivial; first | refine callX_new (c1) rfl (by decide) ?_ | refine callY_new (c1) rfl ?_ | refine callX_new (c2) rfl (by decide) ?_ | refine callY_new (c2) rfl ?_ | refine callX_new (c3) rfl (by decide) ?_ | refine callY_new (c3) rfl ?_ | refine callX_new (cl) rfl (by decide) ?_ | refine callY_new (cl) rfl ?_ | refine hE _ _ ret_ne ?_ | refine hE _ _ exit_ne ?_))<;>(try simp (disch:=first | omega | decide +kernel) only [q',List.length_map,hwr,hz,e0,t0,go_sem,Qa,Qb,Qc,Qd,Qe,↓reduceIte,reduceCtorEq,Qf,Qg,Qh])<;>clear q') | refine hN _ ?_ ?_ Wk.kk | with_reducible refine And.intro ?_ ?_ | with_reducible omega | exact ok_ints | exact cells_ints | exact no_mem | with_reducible exact plain_ints | (refine le_maxLen ?_; omega) | (refine za9 ⟨?_,?_⟩) | (simp only [go_sem,Qc,Qb,zb1,zb2,forall_eq]; done)))
   all_goals (try (first | omega | exact absurd trivial ‹¬True›))
   refine Ok.loopN [64,63,62,61,60,59,58,57,56,55,54,53,52,51,50,49,48,47,46,45,44,43,40,39,38,37,36,35,34,33,32,31,30,29,28,27,26,25,24,23,22,21,20,19,18,17,16,15,14,13,12,11,10,9,8,7,6,5,4,1,0] (fun i (w : List Fs) => [(43,.d (.int .i64 (i : Nat))),(10,.sl 10)]) (fun i w => [(10,.arr 67 4 (w.map fsD))]) ss.length (fun i w => w=(ss.take i).map (pfP l t)∧∀ j,j < i->putG (ss.getD j Fs.z).f l t=true) [] (by simp) (Wk.kk) ?_
   rintro R i w hN hE hi ⟨hw,hI⟩
   have hwl : w.length=i:=by rw [hw]; simp; omega
   by_cases hlt : i < ss.length
   . have he:=hfs i hlt
     have cpi:=cp i
     have hsu : w++[pfP l t (ss.getD i Fs.z)]=(ss.take (i + 1)).map (pfP l t):=by
      rw [hw,take_s Fs.z ss i hlt]; simp
     have eN : ((i : Nat) : Int) + 1=((i + 1 : Nat) : Int):=by omega
     cases hp : putG (ss.getD i Fs.z).f l t with
     | true =>
       have hI':=all_succ (P:=fun j => putG (ss.getD j Fs.z).f l t=true) hI hp
       rw [hp] at cpi
       rw [pfP] at hsu
       clear hp hI cp hw
       generalize ss.getD i Fs.z=s at *
       generalize putS s.f l t=o at *
       obtain ⟨sf,sr,sa,sb⟩:=s
       dsimp only at he cpi hsu
       simp (disch:=first | omega | decide +kernel) only [he,List.length_map,eN,Int.toNat_natCast,go_sem,Qa,Qb,Qc,Qd,Qe,↓reduceIte,reduceCtorEq,Qf,Qg,Qh]
       (repeat' (first | ((first | (refine gsel_split (fun q' => ?_) (fun q' => ?_)<;>(have h':=q')<;>(try simp only [za1,za2,Ba,Bb,za3,ne_eq,za4,za5,za6,Ia,Ib,Ic,Ie,Da,Bc,Bh,Be,za7,za8] at h')<;>try (exfalso; omega)) | (have q':=trivial; first | refine callX_shared (cpi) rfl (by decide) ?_ | refine callY_shared (cpi) rfl ?_ | refine hE _ _ ret_ne ?_ | refine hE _ _ exit_ne ?_))<;>(try simp (disch:=first | omega | decide +kernel) only [q',he,List.length_map,eN,Int.toNat_natCast,go_sem,Qa,Qb,Qc,Qd,Qe,↓reduceIte,reduceCtorEq,Qf,Qg,Qh])<;>clear q') | refine hN _ ?_ ?_ Wk.kk | with_reducible refine And.intro ?_ ?_ | with_reducible omega | exact ok_ints | exact cells_ints | exact no_mem | with_reducible exact plain_ints | (refine le_maxLen ?_; omega) | (refine za9 ⟨?_,?_⟩) | (simp only [go_sem,Qc,Qb,zb1,zb2,forall_eq]; done)))
       all_goals (first | omega | exact absurd trivial ‹¬True› | exact le_maxLen (by omega) | exact okA _ _ _ _ | (refine hN (w++[⟨o,sr,sa,sb⟩]) _ hlt ⟨hsu,hI'⟩ (by refine Wk.auto ?_ ?_<;>simp [extraK,lk,killL,St.kill,wipeO,wipeS,AV.has,AV.hasL,AO.wipe,List.map_set,updSt,insL,dropS,ins,List.map_append,List.map_cons,List.map_nil,fsD]); done))
     | false =>
       have hr : al=false:=by rw [← hal]; exact all_false hlt hp
       rw [hp] at cpi
       subst hr
       clear hp hI cp hw hsu
       generalize ss.getD i Fs.z=s at *
       generalize putS s.f l t=o at *
       obtain ⟨sf,sr,sa,sb⟩:=s
       dsimp only at he cpi
       simp (disch:=first | omega | decide +kernel) only [he,List.length_map,eN,Int.toNat_natCast,go_sem,Qa,Qb,Qc,Qd,Qe,↓reduceIte,reduceCtorEq,Qf,Qg,Qh]
       (repeat' (first | ((first | (refine gsel_split (fun q' => ?_) (fun q' => ?_)<;>(have h':=q')<;>(try simp only [za1,za2,Ba,Bb,za3,ne_eq,za4,za5,za6,Ia,Ib,Ic,Ie,Da,Bc,Bh,Be,za7,za8] at h')<;>try (exfalso; omega)) | (have q':=trivial; first | refine callX_shared (cpi) rfl (by decide) ?_ | refine callY_shared (cpi) rfl ?_ | refine hE _ _ ret_ne ?_ | refine hE _ _ exit_ne ?_))<;>(try simp (disch:=first | omega | decide +kernel) only [q',he,List.length_map,eN,Int.toNat_natCast,go_sem,Qa,Qb,Qc,Qd,Qe,↓reduceIte,reduceCtorEq,Qf,Qg,Qh])<;>clear q') | refine hN _ ?_ ?_ Wk.kk | with_reducible refine And.intro ?_ ?_ | with_reducible omega | exact ok_ints | exact cells_ints | exact no_mem | with_reducible exact plain_ints | (refine le_maxLen ?_; omega) | (refine za9 ⟨?_,?_⟩) | (simp only [go_sem,Qc,Qb,zb1,zb2,forall_eq]; done)))
       all_goals (first | omega | exact absurd trivial ‹¬True› | exact ret_s2 [8] rfl rfl | exact ret_s2 [] rfl rfl)
   . obtain rfl : i=ss.length:=by omega
     have hr : al=true:=by rw [← hal]; exact all_true hI
     rw [List.take_length] at hw
     subst hr
     subst hw
     simp (disch:=first | omega | decide +kernel) only [List.length_map,go_sem,Qa,Qb,Qc,Qd,Qe,↓reduceIte,reduceCtorEq,Qf,Qg,Qh]
     (repeat' (first | ((first | (refine gsel_split (fun q' => ?_) (fun q' => ?_)<;>(have h':=q')<;>(try simp only [za1,za2,Ba,Bb,za3,ne_eq,za4,za5,za6,Ia,Ib,Ic,Ie,Da,Bc,Bh,Be,za7,za8] at h')<;>try (exfalso; omega)) | (have q':=trivial; first | refine hE _ _ ret_ne ?_ | refine hE _ _ exit_ne ?_))<;>(try simp (disch:=first | omega | decide +kernel) only [q',List.length_map,go_sem,Qa,Qb,Qc,Qd,Qe,↓reduceIte,reduceCtorEq,Qf,Qg,Qh])<;>clear q') | refine hN _ ?_ ?_ Wk.kk | with_reducible refine And.intro ?_ ?_ | with_reducible omega | exact ok_ints | exact cells_ints | exact no_mem | with_reducible exact plain_ints | (refine le_maxLen ?_; omega) | (refine za9 ⟨?_,?_⟩) | (simp only [go_sem,Qc,Qb,zb1,zb2,forall_eq]; done)))
     all_goals (first | omega | exact absurd trivial ‹¬True› | exact ret_s2 [10] rfl rfl)
 . have hG:=pf_no hg
   rw [pfV,hG,if_neg (by simp)]
   cases h1 : okF gs ss with
   | false =>
     rw [h1] at c1
     refine Ctr.of (n:=65) (rs:=[.tmp 8,.tmp 9]) Tryd.func20 rfl rfl Tryd.ntmps20 rfl rfl (by kernel_rfl) Tryd.checked.mixed ?_
     simp (disch:=first | omega | decide +kernel) only [List.length_map,go_sem,Qa,Qb,Qc,Qd,Qe,↓reduceIte,reduceCtorEq,Qf,Qg,Qh]
     (repeat' (first | ((first | (refine gsel_split (fun q' => ?_) (fun q' => ?_)<;>(have h':=q')<;>(try simp only [za1,za2,Ba,Bb,za3,ne_eq,za4,za5,za6,Ia,Ib,Ic,Ie,Da,Bc,Bh,Be,za7,za8] at h')<;>try (exfalso; omega)) | (have q':=trivial; first | refine callX_new (c1) rfl (by decide) ?_ | refine callY_new (c1) rfl ?_ | refine hE _ _ ret_ne ?_ | refine hE _ _ exit_ne ?_))<;>(try simp (disch:=first | omega | decide +kernel) only [q',List.length_map,go_sem,Qa,Qb,Qc,Qd,Qe,↓reduceIte,reduceCtorEq,Qf,Qg,Qh])<;>clear q') | refine hN _ ?_ ?_ Wk.kk | with_reducible refine And.intro ?_ ?_ | with_reducible omega | exact ok_ints | exact cells_ints | exact no_mem | with_reducible exact plain_ints | (refine le_maxLen ?_; omega) | (refine za9 ⟨?_,?_⟩) | (simp only [go_sem,Qc,Qb,zb1,zb2,forall_eq]; done)))
     all_goals (first | omega | assumption | rfl | exact absurd trivial ‹¬True› | exact ret_s2 [] rfl rfl | exact ret_s2 [8] rfl rfl)
   | true =>
     rw [h1] at c1
     by_cases h2 : wrongF true gs ss < 0
     . have hwr : ¬ 0<=wrongF true gs ss:=by omega
       cases h3 : okS t with
       | false =>
         rw [h3] at c3
         generalize wrongF true gs ss=wr at *
         refine Ctr.of (n:=65) (rs:=[.tmp 8,.tmp 9]) Tryd.func20 rfl rfl Tryd.ntmps20 rfl rfl (by kernel_rfl) Tryd.checked.mixed ?_
         simp (disch:=first | omega | decide +kernel) only [List.length_map,hwr,go_sem,Qa,Qb,Qc,Qd,Qe,↓reduceIte,reduceCtorEq,Qf,Qg,Qh]
         (repeat' (first | ((first | (refine gsel_split (fun q' => ?_) (fun q' => ?_)<;>(have h':=q')<;>(try simp only [za1,za2,Ba,Bb,za3,ne_eq,za4,za5,za6,Ia,Ib,Ic,Ie,Da,Bc,Bh,Be,za7,za8] at h')<;>try (exfalso; omega)) | (have q':=trivial; first | refine callX_new (c1) rfl (by decide) ?_ | refine callY_new (c1) rfl ?_ | refine callX_new (c2) rfl (by decide) ?_ | refine callY_new (c2) rfl ?_ | refine callX_new (c3) rfl (by decide) ?_ | refine callY_new (c3) rfl ?_ | refine hE _ _ ret_ne ?_ | refine hE _ _ exit_ne ?_))<;>(try simp (disch:=first | omega | decide +kernel) only [q',List.length_map,hwr,go_sem,Qa,Qb,Qc,Qd,Qe,↓reduceIte,reduceCtorEq,Qf,Qg,Qh])<;>clear q') | refine hN _ ?_ ?_ Wk.kk | with_reducible refine And.intro ?_ ?_ | with_reducible omega | exact ok_ints | exact cells_ints | exact no_mem | with_reducible exact plain_ints | (refine le_maxLen ?_; omega) | (refine za9 ⟨?_,?_⟩) | (simp only [go_sem,Qc,Qb,zb1,zb2,forall_eq]; done)))
         all_goals (first | omega | assumption | rfl | exact absurd trivial ‹¬True› | exact ret_s2 [] rfl rfl | exact ret_s2 [8] rfl rfl)
       | true =>
         rw [h3] at c3
         have h4 : ¬ letS l=true:=fun h4 => hg ⟨h1,h2,h3,h4⟩
         generalize wrongF true gs ss=wr at *
         by_cases hz : l.size=1
         . have hL : isLet ((BL l).getD 0 0)=false:=by
            rw [letS,decide_eq_true hz,Bool.true_and] at h4
            simpa using h4
           rw [hL,← hd] at cl
           refine Ctr.of (n:=65) (rs:=[.tmp 8,.tmp 9]) Tryd.func20 rfl rfl Tryd.ntmps20 rfl rfl (by kernel_rfl) Tryd.checked.mixed ?_
           simp (disch:=first | omega | decide +kernel) only [List.length_map,hwr,hz,e0,t0,go_sem,Qa,Qb,Qc,Qd,Qe,↓reduceIte,reduceCtorEq,Qf,Qg,Qh]
           (repeat' (first | ((first | (refine gsel_split (fun q' => ?_) (fun q' => ?_)<;>(have h':=q')<;>(try simp only [za1,za2,Ba,Bb,za3,ne_eq,za4,za5,za6,Ia,Ib,Ic,Ie,Da,Bc,Bh,Be,za7,za8] at h')<;>try (exfalso; omega)) | (have q':=trivial; first | refine callX_new (c1) rfl (by decide) ?_ | refine callY_new (c1) rfl ?_ | refine callX_new (c2) rfl (by decide) ?_ | refine callY_new (c2) rfl ?_ | refine callX_new (c3) rfl (by decide) ?_ | refine callY_new (c3) rfl ?_ | refine callX_new (cl) rfl (by decide) ?_ | refine callY_new (cl) rfl ?_ | refine hE _ _ ret_ne ?_ | refine hE _ _ exit_ne ?_))<;>(try simp (disch:=first | omega | decide +kernel) only [q',List.length_map,hwr,hz,e0,t0,go_sem,Qa,Qb,Qc,Qd,Qe,↓reduceIte,reduceCtorEq,Qf,Qg,Qh])<;>clear q') | refine hN _ ?_ ?_ Wk.kk | with_reducible refine And.intro ?_ ?_ | with_reducible omega | exact ok_ints | exact cells_ints | exact no_mem | with_reducible exact plain_ints | (refine le_maxLen ?_; omega) | (refine za9 ⟨?_,?_⟩) | (simp only [go_sem,Qc,Qb,zb1,zb2,forall_eq]; done)))
           all_goals (first | omega | assumption | rfl | exact absurd trivial ‹¬True› | exact ret_s2 [] rfl rfl | exact ret_s2 [8] rfl rfl)
         . refine Ctr.of (n:=65) (rs:=[.tmp 8,.tmp 9]) Tryd.func20 rfl rfl Tryd.ntmps20 rfl rfl (by kernel_rfl) Tryd.checked.mixed ?_
           simp (disch:=first | omega | decide +kernel) only [List.length_map,hwr,hz,go_sem,Qa,Qb,Qc,Qd,Qe,↓reduceIte,reduceCtorEq,Qf,Qg,Qh]
           (repeat' (first | ((first | (refine gsel_split (fun q' => ?_) (fun q' => ?_)<;>(have h':=q')<;>(try simp only [za1,za2,Ba,Bb,za3,ne_eq,za4,za5,za6,Ia,Ib,Ic,Ie,Da,Bc,Bh,Be,za7,za8] at h')<;>try (exfalso; omega)) | (have q':=trivial; first | refine callX_new (c1) rfl (by decide) ?_ | refine callY_new (c1) rfl ?_ | refine callX_new (c2) rfl (by decide) ?_ | refine callY_new (c2) rfl ?_ | refine callX_new (c3) rfl (by decide) ?_ | refine callY_new (c3) rfl ?_ | refine hE _ _ ret_ne ?_ | refine hE _ _ exit_ne ?_))<;>(try simp (disch:=first | omega | decide +kernel) only [q',List.length_map,hwr,hz,go_sem,Qa,Qb,Qc,Qd,Qe,↓reduceIte,reduceCtorEq,Qf,Qg,Qh])<;>clear q') | refine hN _ ?_ ?_ Wk.kk | with_reducible refine And.intro ?_ ?_ | with_reducible omega | exact ok_ints | exact cells_ints | exact no_mem | with_reducible exact plain_ints | (refine le_maxLen ?_; omega) | (refine za9 ⟨?_,?_⟩) | (simp only [go_sem,Qc,Qb,zb1,zb2,forall_eq]; done)))
           all_goals (first | omega | assumption | rfl | exact absurd trivial ‹¬True› | exact ret_s2 [] rfl rfl | exact ret_s2 [8] rfl rfl)
     . have hwr : 0<=wrongF true gs ss:=by omega
       generalize wrongF true gs ss=wr at *
       refine Ctr.of (n:=65) (rs:=[.tmp 8,.tmp 9]) Tryd.func20 rfl rfl Tryd.ntmps20 rfl rfl (by kernel_rfl) Tryd.checked.mixed ?_
       simp (disch:=first | omega | decide +kernel) only [List.length_map,hwr,go_sem,Qa,Qb,Qc,Qd,Qe,↓reduceIte,reduceCtorEq,Qf,Qg,Qh]
       (repeat' (first | ((first | (refine gsel_split (fun q' => ?_) (fun q' => ?_)<;>(have h':=q')<;>(try simp only [za1,za2,Ba,Bb,za3,ne_eq,za4,za5,za6,Ia,Ib,Ic,Ie,Da,Bc,Bh,Be,za7,za8] at h')<;>try (exfalso; omega)) | (have q':=trivial; first | refine callX_new (c1) rfl (by decide) ?_ | refine callY_new (c1) rfl ?_ | refine callX_new (c2) rfl (by decide) ?_ | refine callY_new (c2) rfl ?_ | refine hE _ _ ret_ne ?_ | refine hE _ _ exit_ne ?_))<;>(try simp (disch:=first | omega | decide +kernel) only [q',List.length_map,hwr,go_sem,Qa,Qb,Qc,Qd,Qe,↓reduceIte,reduceCtorEq,Qf,Qg,Qh])<;>clear q') | refine hN _ ?_ ?_ Wk.kk | with_reducible refine And.intro ?_ ?_ | with_reducible omega | exact ok_ints | exact cells_ints | exact no_mem | with_reducible exact plain_ints | (refine le_maxLen ?_; omega) | (refine za9 ⟨?_,?_⟩) | (simp only [go_sem,Qc,Qb,zb1,zb2,forall_eq]; done)))
       all_goals (first | omega | assumption | rfl | exact absurd trivial ‹¬True› | exact ret_s2 [] rfl rfl | exact ret_s2 [8] rfl rfl)
theorem pf_noS {gs ss l t} (hn : 0 < ss.length∨okF gs ss=false) (h : ¬ (proofF gs ss=true∧letS l=true∧okS t=true)) : pfG gs ss l t=false:=by
 refine pf_no fun ⟨h1,h2,h3,h4⟩ => h ⟨?_,h4,h3⟩
 rcases hn with hn | hn
 . rw [proofF,h1,decide_eq_true hn,decide_eq_true h2]; rfl
 . rw [hn] at h1; cases h1
set_option maxHeartbeats 16000000 in
theorem PutInFregeS_ok (gs : List ByteArray) (ss : List Fs) (l t : ByteArray) (z : SzF gs ss) (hl : l.size<=1000) (ht : t.size<=1000) (hn : 0 < ss.length∨okF gs ss=false) :
 Ctr Tryd.prog 21 [.slice (gs.map .str),.slice (ss.map fsD),.str l,.str t] true (.tup [.d (.slice ((pfV gs ss l t).map fsD)),.d (.bool (pfG gs ss l t))]) []:=by
 have c1:=l24GoodF_ok gs ss z
 have c2:=l22LetterS_ok l
 have c3:=l22Good_ok t (by omega)
 have hsl:=z.sl
 by_cases hg : proofF gs ss=true∧letS l=true∧okS t=true
 . obtain ⟨h1,h4,h3⟩:=hg
   have h1':=h1
   rw [proofF,Bc,Bc] at h1'
   have hG : pfG gs ss l t=ss.all (fun s => putG s.f l t):=by rw [pfG,h1'.1.1,h3,h4,h1'.2]; rfl
   rw [pfV,hG]
   rw [h1] at c1
   rw [h4] at c2
   rw [h3] at c3
   have hfs:=fun (i : Nat) (h : i < ss.length) => el_fs (xs:=ss) h
   obtain ⟨al,hal⟩ : ∃ al,(ss.all fun s => putG s.f l t)=al:=⟨_,rfl⟩
   rw [hal]
   have cp:=fun (i : Nat) => PutFormulaS_ok (ss.getD i Fs.z).f l t (by have:=z.sz i; omega) (by omega) (by omega)
   clear hG h1'
   refine Ctr.of (n:=71) (rs:=[.tmp 8,.tmp 9]) Tryd.func21 rfl rfl Tryd.ntmps21 rfl rfl (by kernel_rfl) Tryd.checked.mixed ?_
   simp (disch:=first | omega | decide +kernel) only [List.length_map,go_sem,Qa,Qb,Qc,Qd,Qe,↓reduceIte,reduceCtorEq,Qf,Qg,Qh]
   (repeat' (first | ((first | (refine gsel_split (fun q' => ?_) (fun q' => ?_)<;>(have h':=q')<;>(try simp only [za1,za2,Ba,Bb,za3,ne_eq,za4,za5,za6,Ia,Ib,Ic,Ie,Da,Bc,Bh,Be,za7,za8] at h')<;>try (exfalso; omega)) | (have q':=trivial; first | refine callX_new (c1) rfl (by decide) ?_ | refine callY_new (c1) rfl ?_ | refine callX_new (c2) rfl (by decide) ?_ | refine callY_new (c2) rfl ?_ | refine callX_new (c3) rfl (by decide) ?_ | refine callY_new (c3) rfl ?_ | refine hE _ _ ret_ne ?_ | refine hE _ _ exit_ne ?_))<;>(try simp (disch:=first | omega | decide +kernel) only [q',List.length_map,go_sem,Qa,Qb,Qc,Qd,Qe,↓reduceIte,reduceCtorEq,Qf,Qg,Qh])<;>clear q') | refine hN _ ?_ ?_ Wk.kk | with_reducible refine And.intro ?_ ?_ | with_reducible omega | exact ok_ints | exact cells_ints | exact no_mem | with_reducible exact plain_ints | (refine le_maxLen ?_; omega) | (refine za9 ⟨?_,?_⟩) | (simp only [go_sem,Qc,Qb,zb1,zb2,forall_eq]; done)))
   all_goals (try (first | omega | exact absurd trivial ‹¬True›))
   refine Ok.loopN [70,69,68,67,66,65,64,63,62,61,60,59,58,57,56,55,54,53,52,51,50,49,48,47,46,45,44,43,42,41,40,39,38,37,36,35,34,33,32,31,30,29,28,27,26,25,24,23,22,21,20,19,18,17,16,15,14,13,12,11,10,9,8,7,6,5,4,0] (fun i (w : List Fs) => [(11,.d (.int .i64 (i : Nat))),(10,.sl 14)]) (fun i w => [(14,.arr 67 4 (w.map fsD))]) ss.length (fun i w => w=(ss.take i).map (pfP l t)∧∀ j,j < i->putG (ss.getD j Fs.z).f l t=true) [] (by simp) (Wk.kk) ?_
   rintro R i w hN hE hi ⟨hw,hI⟩
   have hwl : w.length=i:=by rw [hw]; simp; omega
   by_cases hlt : i < ss.length
   . have he:=hfs i hlt
     have cpi:=cp i
     have hsu : w++[pfP l t (ss.getD i Fs.z)]=(ss.take (i + 1)).map (pfP l t):=by
      rw [hw,take_s Fs.z ss i hlt]; simp
     have eN : ((i : Nat) : Int) + 1=((i + 1 : Nat) : Int):=by omega
     cases hp : putG (ss.getD i Fs.z).f l t with
     | true =>
       have hI':=all_succ (P:=fun j => putG (ss.getD j Fs.z).f l t=true) hI hp
       rw [hp] at cpi
       rw [pfP] at hsu
       clear hp hI cp hw
       generalize ss.getD i Fs.z=s at *
       generalize putS s.f l t=o at *
       obtain ⟨sf,sr,sa,sb⟩:=s
       dsimp only at he cpi hsu
       simp (disch:=first | omega | decide +kernel) only [he,List.length_map,eN,Int.toNat_natCast,go_sem,Qa,Qb,Qc,Qd,Qe,↓reduceIte,reduceCtorEq,Qf,Qg,Qh]
       (repeat' (first | ((first | (refine gsel_split (fun q' => ?_) (fun q' => ?_)<;>(have h':=q')<;>(try simp only [za1,za2,Ba,Bb,za3,ne_eq,za4,za5,za6,Ia,Ib,Ic,Ie,Da,Bc,Bh,Be,za7,za8] at h')<;>try (exfalso; omega)) | (have q':=trivial; first | refine callX_shared (cpi) rfl (by decide) ?_ | refine callY_shared (cpi) rfl ?_ | refine hE _ _ ret_ne ?_ | refine hE _ _ exit_ne ?_))<;>(try simp (disch:=first | omega | decide +kernel) only [q',he,List.length_map,eN,Int.toNat_natCast,go_sem,Qa,Qb,Qc,Qd,Qe,↓reduceIte,reduceCtorEq,Qf,Qg,Qh])<;>clear q') | refine hN _ ?_ ?_ Wk.kk | with_reducible refine And.intro ?_ ?_ | with_reducible omega | exact ok_ints | exact cells_ints | exact no_mem | with_reducible exact plain_ints | (refine le_maxLen ?_; omega) | (refine za9 ⟨?_,?_⟩) | (simp only [go_sem,Qc,Qb,zb1,zb2,forall_eq]; done)))
       all_goals (first | omega | exact absurd trivial ‹¬True› | exact le_maxLen (by omega) | exact okA _ _ _ _ | (refine hN (w++[⟨o,sr,sa,sb⟩]) _ hlt ⟨hsu,hI'⟩ (by refine Wk.auto ?_ ?_<;>simp [extraK,lk,killL,St.kill,wipeO,wipeS,AV.has,AV.hasL,AO.wipe,List.map_set,updSt,insL,dropS,ins,List.map_append,List.map_cons,List.map_nil,fsD]); done))
     | false =>
       have hr : al=false:=by rw [← hal]; exact all_false hlt hp
       rw [hp] at cpi
       subst hr
       clear hp hI cp hw hsu
       generalize ss.getD i Fs.z=s at *
       generalize putS s.f l t=o at *
       obtain ⟨sf,sr,sa,sb⟩:=s
       dsimp only at he cpi
       simp (disch:=first | omega | decide +kernel) only [he,List.length_map,eN,Int.toNat_natCast,go_sem,Qa,Qb,Qc,Qd,Qe,↓reduceIte,reduceCtorEq,Qf,Qg,Qh]
       (repeat' (first | ((first | (refine gsel_split (fun q' => ?_) (fun q' => ?_)<;>(have h':=q')<;>(try simp only [za1,za2,Ba,Bb,za3,ne_eq,za4,za5,za6,Ia,Ib,Ic,Ie,Da,Bc,Bh,Be,za7,za8] at h')<;>try (exfalso; omega)) | (have q':=trivial; first | refine callX_shared (cpi) rfl (by decide) ?_ | refine callY_shared (cpi) rfl ?_ | refine hE _ _ ret_ne ?_ | refine hE _ _ exit_ne ?_))<;>(try simp (disch:=first | omega | decide +kernel) only [q',he,List.length_map,eN,Int.toNat_natCast,go_sem,Qa,Qb,Qc,Qd,Qe,↓reduceIte,reduceCtorEq,Qf,Qg,Qh])<;>clear q') | refine hN _ ?_ ?_ Wk.kk | with_reducible refine And.intro ?_ ?_ | with_reducible omega | exact ok_ints | exact cells_ints | exact no_mem | with_reducible exact plain_ints | (refine le_maxLen ?_; omega) | (refine za9 ⟨?_,?_⟩) | (simp only [go_sem,Qc,Qb,zb1,zb2,forall_eq]; done)))
       all_goals (first | omega | exact absurd trivial ‹¬True› | exact ret_s2 [49] rfl rfl | exact ret_s2 [] rfl rfl)
   . obtain rfl : i=ss.length:=by omega
     have hr : al=true:=by rw [← hal]; exact all_true hI
     rw [List.take_length] at hw
     subst hr
     subst hw
     simp (disch:=first | omega | decide +kernel) only [List.length_map,go_sem,Qa,Qb,Qc,Qd,Qe,↓reduceIte,reduceCtorEq,Qf,Qg,Qh]
     (repeat' (first | ((first | (refine gsel_split (fun q' => ?_) (fun q' => ?_)<;>(have h':=q')<;>(try simp only [za1,za2,Ba,Bb,za3,ne_eq,za4,za5,za6,Ia,Ib,Ic,Ie,Da,Bc,Bh,Be,za7,za8] at h')<;>try (exfalso; omega)) | (have q':=trivial; first | refine hE _ _ ret_ne ?_ | refine hE _ _ exit_ne ?_))<;>(try simp (disch:=first | omega | decide +kernel) only [q',List.length_map,go_sem,Qa,Qb,Qc,Qd,Qe,↓reduceIte,reduceCtorEq,Qf,Qg,Qh])<;>clear q') | refine hN _ ?_ ?_ Wk.kk | with_reducible refine And.intro ?_ ?_ | with_reducible omega | exact ok_ints | exact cells_ints | exact no_mem | with_reducible exact plain_ints | (refine le_maxLen ?_; omega) | (refine za9 ⟨?_,?_⟩) | (simp only [go_sem,Qc,Qb,zb1,zb2,forall_eq]; done)))
     all_goals (first | omega | exact absurd trivial ‹¬True› | exact ret_s2 [14] rfl rfl)
 . have hG:=pf_noS hn hg
   rw [pfV,hG,if_neg (by simp)]
   cases h1 : proofF gs ss with
   | false =>
     rw [h1] at c1
     refine Ctr.of (n:=71) (rs:=[.tmp 8,.tmp 9]) Tryd.func21 rfl rfl Tryd.ntmps21 rfl rfl (by kernel_rfl) Tryd.checked.mixed ?_
     simp (disch:=first | omega | decide +kernel) only [List.length_map,go_sem,Qa,Qb,Qc,Qd,Qe,↓reduceIte,reduceCtorEq,Qf,Qg,Qh]
     (repeat' (first | ((first | (refine gsel_split (fun q' => ?_) (fun q' => ?_)<;>(have h':=q')<;>(try simp only [za1,za2,Ba,Bb,za3,ne_eq,za4,za5,za6,Ia,Ib,Ic,Ie,Da,Bc,Bh,Be,za7,za8] at h')<;>try (exfalso; omega)) | (have q':=trivial; first | refine callX_new (c1) rfl (by decide) ?_ | refine callY_new (c1) rfl ?_ | refine hE _ _ ret_ne ?_ | refine hE _ _ exit_ne ?_))<;>(try simp (disch:=first | omega | decide +kernel) only [q',List.length_map,go_sem,Qa,Qb,Qc,Qd,Qe,↓reduceIte,reduceCtorEq,Qf,Qg,Qh])<;>clear q') | refine hN _ ?_ ?_ Wk.kk | with_reducible refine And.intro ?_ ?_ | with_reducible omega | exact ok_ints | exact cells_ints | exact no_mem | with_reducible exact plain_ints | (refine le_maxLen ?_; omega) | (refine za9 ⟨?_,?_⟩) | (simp only [go_sem,Qc,Qb,zb1,zb2,forall_eq]; done)))
     all_goals (first | omega | assumption | rfl | exact absurd trivial ‹¬True› | exact ret_s2 [14] rfl rfl)
   | true =>
     rw [h1] at c1
     cases h2 : letS l with
     | false =>
       rw [h2] at c2
       refine Ctr.of (n:=71) (rs:=[.tmp 8,.tmp 9]) Tryd.func21 rfl rfl Tryd.ntmps21 rfl rfl (by kernel_rfl) Tryd.checked.mixed ?_
       simp (disch:=first | omega | decide +kernel) only [List.length_map,go_sem,Qa,Qb,Qc,Qd,Qe,↓reduceIte,reduceCtorEq,Qf,Qg,Qh]
       (repeat' (first | ((first | (refine gsel_split (fun q' => ?_) (fun q' => ?_)<;>(have h':=q')<;>(try simp only [za1,za2,Ba,Bb,za3,ne_eq,za4,za5,za6,Ia,Ib,Ic,Ie,Da,Bc,Bh,Be,za7,za8] at h')<;>try (exfalso; omega)) | (have q':=trivial; first | refine callX_new (c1) rfl (by decide) ?_ | refine callY_new (c1) rfl ?_ | refine callX_new (c2) rfl (by decide) ?_ | refine callY_new (c2) rfl ?_ | refine hE _ _ ret_ne ?_ | refine hE _ _ exit_ne ?_))<;>(try simp (disch:=first | omega | decide +kernel) only [q',List.length_map,go_sem,Qa,Qb,Qc,Qd,Qe,↓reduceIte,reduceCtorEq,Qf,Qg,Qh])<;>clear q') | refine hN _ ?_ ?_ Wk.kk | with_reducible refine And.intro ?_ ?_ | with_reducible omega | exact ok_ints | exact cells_ints | exact no_mem | with_reducible exact plain_ints | (refine le_maxLen ?_; omega) | (refine za9 ⟨?_,?_⟩) | (simp only [go_sem,Qc,Qb,zb1,zb2,forall_eq]; done)))
       all_goals (first | omega | assumption | rfl | exact absurd trivial ‹¬True› | exact ret_s2 [14] rfl rfl)
     | true =>
       rw [h2] at c2
       cases h3 : okS t with
       | false =>
         rw [h3] at c3
         refine Ctr.of (n:=71) (rs:=[.tmp 8,.tmp 9]) Tryd.func21 rfl rfl Tryd.ntmps21 rfl rfl (by kernel_rfl) Tryd.checked.mixed ?_
         simp (disch:=first | omega | decide +kernel) only [List.length_map,go_sem,Qa,Qb,Qc,Qd,Qe,↓reduceIte,reduceCtorEq,Qf,Qg,Qh]
         (repeat' (first | ((first | (refine gsel_split (fun q' => ?_) (fun q' => ?_)<;>(have h':=q')<;>(try simp only [za1,za2,Ba,Bb,za3,ne_eq,za4,za5,za6,Ia,Ib,Ic,Ie,Da,Bc,Bh,Be,za7,za8] at h')<;>try (exfalso; omega)) | (have q':=trivial; first | refine callX_new (c1) rfl (by decide) ?_ | refine callY_new (c1) rfl ?_ | refine callX_new (c2) rfl (by decide) ?_ | refine callY_new (c2) rfl ?_ | refine callX_new (c3) rfl (by decide) ?_ | refine callY_new (c3) rfl ?_ | refine hE _ _ ret_ne ?_ | refine hE _ _ exit_ne ?_))<;>(try simp (disch:=first | omega | decide +kernel) only [q',List.length_map,go_sem,Qa,Qb,Qc,Qd,Qe,↓reduceIte,reduceCtorEq,Qf,Qg,Qh])<;>clear q') | refine hN _ ?_ ?_ Wk.kk | with_reducible refine And.intro ?_ ?_ | with_reducible omega | exact ok_ints | exact cells_ints | exact no_mem | with_reducible exact plain_ints | (refine le_maxLen ?_; omega) | (refine za9 ⟨?_,?_⟩) | (simp only [go_sem,Qc,Qb,zb1,zb2,forall_eq]; done)))
         all_goals (first | omega | assumption | rfl | exact absurd trivial ‹¬True› | exact ret_s2 [14] rfl rfl)
       | true => exact absurd ⟨h1,h2,h3⟩ hg
end Abs.Y

namespace Abs.Y
open Go Go.Proofs Abs
set_option maxRecDepth 100000
set_option maxHeartbeats 4000000

theorem formula_ok {code : List Int} (hc : CodeOK code) : Draws 51 [] 130 (QT 29) code:=fun at_ seed h1 h2 h3 => by
 have c1:=amongB_ok hc [1,2,3,3,4,5,6,8] 1 8 (by decide) (by decide)
 simp only [List.map_cons,List.map_nil] at c1
 have c2:=fun (n : Int) (h1 : 1<=n) (h2 : n<=8) => formula22_ok hc n.toNat n h1 (by omega) h2
 refine CtrR.of (n:=13) (rs:=[.tmp 2]) Tryd.func51 rfl rfl Tryd.ntmps51 rfl rfl (by kernel_rfl) Tryd.checked.mixed ?_; intro u
 simp (disch:=first | omega | decide +kernel) only [curO,curB,D.bytes,go_sem,Qa,Qb,Qc,Qd,Qe,↓reduceIte,reduceCtorEq,Qf,Qg,Qh]
 (repeat' (first | ((first | (refine gsel_split (fun q' => ?_) (fun q' => ?_)<;>(have h':=q')<;>(try simp only [za1,za2,Ba,Bb,za3,ne_eq,za4,za5,za6,Ia,Ib,Ic,Ie,Da,Bc,Bh,Be,za7,za8] at h')<;>try (exfalso; omega)) | (have q':=trivial; first | (refine callX_drawL _ _ (c1) ⟨.inl rfl,.inl rfl,trivial⟩ rfl rfl (by decide) (by simp [dstB]) (by omega) (by omega) (by omega) ?_; rintro _ at1 sd1 hat1 hat2 hsd1 hsd2 ⟨x1,rfl,hx1⟩) | (refine callX_draw _ (c2 x1 (by omega) (by omega)) ⟨.inl rfl,.inl rfl,trivial⟩ rfl (by simp [dstB]) (by omega) (by omega) (by omega) ?_; rintro _ atb sdb hatb1 hatb2 hsdb1 hsdb2 ⟨xb,rfl,hxb⟩) | refine callX_new (l22Good_ok xb (by omega)) rfl (by decide) ?_ | refine callY_new (l22Good_ok xb (by omega)) rfl ?_ | refine hE _ _ ret_ne ?_ | refine hE _ _ exit_ne ?_))<;>(try simp (disch:=first | omega | decide +kernel) only [q',curO,curB,D.bytes,go_sem,Qa,Qb,Qc,Qd,Qe,↓reduceIte,reduceCtorEq,Qf,Qg,Qh])<;>clear q') | refine hN _ ?_ ?_ Wk.kk | with_reducible refine And.intro ?_ ?_ | with_reducible omega | exact ok_ints | exact cells_ints | exact no_mem | with_reducible exact plain_ints | (refine le_maxLen ?_; omega) | (refine za9 ⟨?_,?_⟩) | (simp only [go_sem,Qc,Qb,zb1,zb2,forall_eq]; done)))
 all_goals (first | omega | (exact retR_draw rfl rfl rfl (by omega) (by omega) (by omega) (by omega) ⟨_,rfl,by first | omega | decide⟩))
theorem spoilt_ok {code : List Int} (hc : CodeOK code) (t w : ByteArray) (ht : t.size<=100000) (hw : 1<=w.size∧w.size<=60000) : Draws 53 [.d (.str t),.d (.str w)] 6 (QT (t.size + 1)) code:=fun at_ seed h1 h2 h3 => by
 have c1:=pick_ok hc (t.size : Nat) (by omega)
 have c2:=pick_ok hc (w.size : Nat) (by omega)
 have c3:=pick_ok hc 3 (by omega)
 by_cases h0 : t.size=0
 . have ht0 : t=⟨#[]⟩:=ext_BL (List.eq_nil_of_length_eq_zero (by rw [← size_BL]; exact h0))
   have he : (t.toList == (ByteArray.mk #[]).toList)=true:=by rw [ht0]; exact beq_self_eq_true _
   refine CtrR.of (n:=57) (rs:=[.tmp 6]) Tryd.func53 rfl rfl Tryd.ntmps53 rfl rfl (by kernel_rfl) Tryd.checked.mixed ?_; intro u
   simp (disch:=first | omega | decide +kernel) only [curO,curB,D.bytes,he,go_sem,Qa,Qb,Qc,Qd,Qe,↓reduceIte,reduceCtorEq,Qf,Qg,Qh]
   (repeat' (first | ((first | (refine gsel_split (fun q' => ?_) (fun q' => ?_)<;>(have h':=q')<;>(try simp only [za1,za2,Ba,Bb,za3,ne_eq,za4,za5,za6,Ia,Ib,Ic,Ie,Da,Bc,Bh,Be,za7,za8] at h')<;>try (exfalso; omega)) | (have q':=trivial; first | refine hE _ _ ret_ne ?_ | refine hE _ _ exit_ne ?_))<;>(try simp (disch:=first | omega | decide +kernel) only [q',curO,curB,D.bytes,he,go_sem,Qa,Qb,Qc,Qd,Qe,↓reduceIte,reduceCtorEq,Qf,Qg,Qh])<;>clear q') | refine hN _ ?_ ?_ Wk.kk | with_reducible refine And.intro ?_ ?_ | with_reducible omega | exact ok_ints | exact cells_ints | exact no_mem | with_reducible exact plain_ints | (refine le_maxLen ?_; omega) | (refine za9 ⟨?_,?_⟩) | (simp only [go_sem,Qc,Qb,zb1,zb2,forall_eq]; done)))
   all_goals (first | omega | (exact retR_draw rfl rfl rfl (by omega) (by omega) (by omega) (by omega) ⟨_,rfl,by rw [ByteArray.size_extract]; omega⟩))
 . have he : (t.toList == (ByteArray.mk #[]).toList)=false:=by
    rw [beq_eq_false_iff_ne,ByteArray.toList_eq,ByteArray.toList_eq]
    intro e
    apply h0
    rw [size_BL]
    exact congrArg List.length e
   refine CtrR.of (n:=57) (rs:=[.tmp 6]) Tryd.func53 rfl rfl Tryd.ntmps53 rfl rfl (by kernel_rfl) Tryd.checked.mixed ?_; intro u
   simp (disch:=first | omega | decide +kernel) only [curO,curB,D.bytes,he,go_sem,Qa,Qb,Qc,Qd,Qe,↓reduceIte,reduceCtorEq,Qf,Qg,Qh]
   (repeat' (first | ((first | (refine gsel_split (fun q' => ?_) (fun q' => ?_)<;>(have h':=q')<;>(try simp only [za1,za2,Ba,Bb,za3,ne_eq,za4,za5,za6,Ia,Ib,Ic,Ie,Da,Bc,Bh,Be,za7,za8] at h')<;>try (exfalso; omega)) | (have q':=trivial; first | (refine callX_draw _ (c1) ⟨.inl rfl,.inl rfl,trivial⟩ rfl (by simp [dstB]) (by omega) (by omega) (by omega) ?_; rintro _ ata sda hata1 hata2 hsda1 hsda2 ⟨xa,rfl,hxa⟩) | (refine callX_draw _ (c2) ⟨.inl rfl,.inl rfl,trivial⟩ rfl (by simp [dstB]) (by omega) (by omega) (by omega) ?_; rintro _ atb sdb hatb1 hatb2 hsdb1 hsdb2 ⟨xb,rfl,hxb⟩) | (refine callX_draw _ (c3) ⟨.inl rfl,.inl rfl,trivial⟩ rfl (by simp [dstB]) (by omega) (by omega) (by omega) ?_; rintro _ atc sdc hatc1 hatc2 hsdc1 hsdc2 ⟨xc,rfl,hxc⟩) | refine hE _ _ ret_ne ?_ | refine hE _ _ exit_ne ?_))<;>(try simp (disch:=first | omega | decide +kernel) only [q',curO,curB,D.bytes,he,ByteArray.size_append,ByteArray.size_extract,go_sem,Qa,Qb,Qc,Qd,Qe,↓reduceIte,reduceCtorEq,Qf,Qg,Qh])<;>clear q') | refine hN _ ?_ ?_ Wk.kk | with_reducible refine And.intro ?_ ?_ | with_reducible omega | exact ok_ints | exact cells_ints | exact no_mem | with_reducible exact plain_ints | (refine le_maxLen ?_; omega) | (refine za9 ⟨?_,?_⟩) | (simp only [go_sem,Qc,Qb,zb1,zb2,forall_eq]; done)))
   all_goals (first | omega | (exact retR_draw rfl rfl rfl (by omega) (by omega) (by omega) (by omega) ⟨_,rfl,by simp only [ByteArray.size_append,ByteArray.size_extract]; omega⟩))
end Abs.Y

namespace Abs
open Go Go.RowKit
theorem Ok.seqJ {P : Program} {N : Nat} {x y : Code} {Q : Exit->St->Prop} {st : St} (Sc : St) (h1 : Ok P N y Q Sc) (h2 : Ok P N x (fun e s => (e=.normal∧Wk N s Sc)∨(e ≠ .normal∧Q e s)) st) : Ok P N (.seq x y) Q st :=
 Ok.seq (h2.mono fun e s h => by
  cases e with
  | normal =>
    rcases h with ⟨_,h⟩ | ⟨h,_⟩
    . exact Ok.weak h h1
    . exact absurd rfl h
  | _ =>
    rcases h with ⟨h,_⟩ | ⟨_,h⟩
    . cases h
    . exact h)
end Abs
