/- What functions of this program compute, over plain data. No condition. -/
import Derived.Test.YtndjinajjejmlaaPM12
import Derived.Test.YtndjinajjejmlaaChecked
import Derived.Shelf.SlicesE.Kit
import Derived.Shelf.RegionOpenPlain
import Derived.WalkKit
import Derived.Deep.RegionLaw
import Derived.Lib.Walk
import Derived.Deep.LoopGhost
import Derived.Sort.WalkB12
import Derived.Lib.SlicesDelete
import Derived.Lib.SliceRun
set_option linter.all false
namespace Abs.Y
open Go Go.Proofs Abs
open Nat renaming reduceEqDiff -> Qa, reduceLT -> Qb, reduceAdd -> Qc, reduceMul -> Qd, reduceSub -> Qe, reduceLeDiff -> Qf, reduceSubDiff -> Qg, reduceBEq -> Qh
open Bool renaming not_eq_true' -> Ba, not_eq_false' -> Bb, and_eq_true -> Bc, or_eq_true -> Bh, or_eq_false_iff -> Be
open Int renaming ofNat_lt -> Ia, ofNat_le -> Ib, not_lt -> Ic, not_le -> Ie
open Decidable renaming not_not -> Da
set_option maxRecDepth 100000

def rmG (g : Chg) (k b : Int) : Chg:=if edB g k && (decide (0<=b) && decide (b<=1)) then remG g k.toNat b else zC
theorem erase_split {α : Type} (l : List α) (k : Nat) : l.eraseIdx k=l.take k++l.drop (k + 1):=List.eraseIdx_eq_take_drop_succ l k
set_option maxHeartbeats 4000000 in
theorem removeS1_ok (g : Chg) (k : Int) (hb : edB g k=true) : Ctr Try.prog 14 [D.chg g,.int .i64 k,.int .i64 1] true (.tup [.d (D.chg (remG g k.toNat 1)),.d (.bool true)]) []:=by
 obtain ⟨hb1,hb2⟩:=Bool.and_eq_true_iff.1 hb
 have hg:=good_iff.1 hb1
 have hk:=inE_lt hb2
 have hn:=hg.n1
 have hm:=hg.m
 have hcl:=hg.c
 have c1:=l27Edge_ok g k (by omega) (by omega)
 rw [hb] at c1
 have c2 : Ctr Try.prog 38 [.int .i64 1,.int .i64 0,.int .i64 1] false (.d (.bool true)) []:=l1In_ok 1 0 1
 have c3:=l27Flip_ok g hg k.toNat hk.2
 rw [show ((k.toNat : Nat) : Int)=k by omega] at c3
 have c4:=l27Own_ok g (by omega) (by omega)
 have he : remG g k.toNat 1=⟨g.n,g.ed.take k.toNat++g.ed.drop (k.toNat + 1),(flipG g k.toNat).ch⟩:=by
  show (⟨_,_,_⟩ : Chg)=_
  rw [erase_split]; rfl
 rw [he]
 have hfn : (flipG g k.toNat).n=g.n:=rfl
 have hfe : (flipG g k.toNat).ed=g.ed:=rfl
 simp only [D.chg,D.ints,hfn,hfe] at c1 c3 c4
 generalize (flipG g k.toNat).ch=ch2 at *
 refine Ctr.ofK (n:=40) (rs:=[.cell 6 27,.tmp 7]) Try.func14 rfl rfl Try.ntmps14 rfl rfl (by kernel_rfl) Try.checked.mixed ?_
 refine Ok.seq (Ok.go ?_)
 simp (disch:=first | omega | decide +kernel) only [D.chg,D.ints,go_sem,Qa,Qb,Qc,Qd,Qe,↓reduceIte,reduceCtorEq,Qf,Qg,Qh]
 (repeat' (first | ((first | (refine gsel_split (fun q' => ?_) (fun q' => ?_)<;>(have h':=q')<;>(try simp only [za1,za2,Ba,Bb,za3,ne_eq,za4,za5,za6,Ia,Ib,Ic,Ie,Da,Bc,Bh,Be,za7,za8] at h')<;>try (exfalso; omega)) | (have q':=trivial; first | refine callX_new (c1) rfl (by decide) ?_ | refine callY_new (c1) rfl ?_ | refine callX_new (c2) rfl (by decide) ?_ | refine callY_new (c2) rfl ?_ | refine hE _ _ ret_ne ?_ | refine hE _ _ exit_ne ?_))<;>(try simp (disch:=first | omega | decide +kernel) only [q',D.ints,go_sem,Qa,Qb,Qc,Qd,Qe,↓reduceIte,reduceCtorEq,Qf,Qg,Qh])<;>clear q') | refine hN _ ?_ ?_ Wk.kk | with_reducible refine And.intro ?_ ?_ | with_reducible omega | exact ok_ints | exact cells_ints | exact no_mem | with_reducible exact plain_ints | (refine le_maxLen ?_; omega) | (refine za9 ⟨?_,?_⟩) | (simp only [go_sem,Qc,Qb,zb1,zb2,forall_eq]; done)))
 refine Ok.seq (Ok.go ?_)
 simp (disch:=first | omega | decide +kernel) only [go_sem,Qa,Qb,Qc,Qd,Qe,↓reduceIte,reduceCtorEq,Qf,Qg,Qh]
 (repeat' (first | ((first | (refine gsel_split (fun q' => ?_) (fun q' => ?_)<;>(have h':=q')<;>(try simp only [za1,za2,Ba,Bb,za3,ne_eq,za4,za5,za6,Ia,Ib,Ic,Ie,Da,Bc,Bh,Be,za7,za8] at h')<;>try (exfalso; omega)) | (have q':=trivial; first | refine callX_new (c1) rfl (by decide) ?_ | refine callY_new (c1) rfl ?_ | refine callX_new (c2) rfl (by decide) ?_ | refine callY_new (c2) rfl ?_ | refine hE _ _ ret_ne ?_ | refine hE _ _ exit_ne ?_))<;>(try simp (disch:=first | omega | decide +kernel) only [q',go_sem,Qa,Qb,Qc,Qd,Qe,↓reduceIte,reduceCtorEq,Qf,Qg,Qh])<;>clear q') | refine hN _ ?_ ?_ Wk.kk | with_reducible refine And.intro ?_ ?_ | with_reducible omega | exact ok_ints | exact cells_ints | exact no_mem | with_reducible exact plain_ints | (refine le_maxLen ?_; omega) | (refine za9 ⟨?_,?_⟩) | (simp only [go_sem,Qc,Qb,zb1,zb2,forall_eq]; done)))
 refine Ok.seq (Ok.go ?_)
 simp (disch:=first | omega | decide +kernel) only [go_sem,Qa,Qb,Qc,Qd,Qe,↓reduceIte,reduceCtorEq,Qf,Qg,Qh]
 (repeat' (first | ((first | (refine gsel_split (fun q' => ?_) (fun q' => ?_)<;>(have h':=q')<;>(try simp only [za1,za2,Ba,Bb,za3,ne_eq,za4,za5,za6,Ia,Ib,Ic,Ie,Da,Bc,Bh,Be,za7,za8] at h')<;>try (exfalso; omega)) | (have q':=trivial; first | refine callX_new (c4) rfl (by decide) ?_ | refine callY_new (c4) rfl ?_ | refine hE _ _ ret_ne ?_ | refine hE _ _ exit_ne ?_))<;>(try simp (disch:=first | omega | decide +kernel) only [q',go_sem,Qa,Qb,Qc,Qd,Qe,↓reduceIte,reduceCtorEq,Qf,Qg,Qh])<;>clear q') | refine hN _ ?_ ?_ Wk.kk | with_reducible refine And.intro ?_ ?_ | with_reducible omega | exact ok_ints | exact cells_ints | exact no_mem | with_reducible exact plain_ints | (refine le_maxLen ?_; omega) | (refine za9 ⟨?_,?_⟩) | (simp only [go_sem,Qc,Qb,zb1,zb2,forall_eq]; done)))
 refine Ok.seq (Ok.go ?_)
 simp (disch:=first | omega | decide +kernel) only [go_sem,Qa,Qb,Qc,Qd,Qe,↓reduceIte,reduceCtorEq,Qf,Qg,Qh]
 (repeat' (first | ((first | (refine gsel_split (fun q' => ?_) (fun q' => ?_)<;>(have h':=q')<;>(try simp only [za1,za2,Ba,Bb,za3,ne_eq,za4,za5,za6,Ia,Ib,Ic,Ie,Da,Bc,Bh,Be,za7,za8] at h')<;>try (exfalso; omega)) | (have q':=trivial; first | refine callX_shared (c3) rfl (by decide) ?_ | refine callY_shared (c3) rfl ?_ | refine hE _ _ ret_ne ?_ | refine hE _ _ exit_ne ?_))<;>(try simp (disch:=first | omega | decide +kernel) only [q',go_sem,Qa,Qb,Qc,Qd,Qe,↓reduceIte,reduceCtorEq,Qf,Qg,Qh])<;>clear q') | refine hN _ ?_ ?_ Wk.kk | with_reducible refine And.intro ?_ ?_ | with_reducible omega | exact ok_ints | exact cells_ints | exact no_mem | with_reducible exact plain_ints | (refine le_maxLen ?_; omega) | (refine za9 ⟨?_,?_⟩) | (simp only [go_sem,Qc,Qb,zb1,zb2,forall_eq]; done)))
 have h1 : ((g.ed.map D.ed).drop (0 : Int).toNat).take (k.toNat - (0 : Int).toNat)=(g.ed.take k.toNat).map D.ed:=by simp
 have h2 : ((g.ed.drop (k + 1).toNat).take (g.ed.length - (k + 1).toNat)).map D.ed=(g.ed.drop (k.toNat + 1)).map D.ed:=by
  rw [show (k + 1).toNat=k.toNat + 1 by omega,List.take_of_length_le (by simp)]
 have h3 : ∀ y ∈ g.ed.map D.ed,y.cells.length=2:=fun y hy => by obtain ⟨e,_,rfl⟩:=List.mem_map.1 hy; rfl
 have hokA : ∀ y ∈ (g.ed.take k.toNat).map D.ed,D.ok 2 y:=fun y hy => okE hy
 have hokB : ∀ y ∈ (g.ed.drop (k.toNat + 1)).map D.ed,D.ok 2 y:=fun y hy => okE hy
 have hlA : ((g.ed.take k.toNat).map D.ed).length<=12:=by rw [List.length_map,List.length_take]; omega
 have hlB : ((g.ed.drop (k.toNat + 1)).map D.ed).length<=12:=by rw [List.length_map,List.length_drop]; omega
 rw [List.map_append]
 generalize hA : (g.ed.take k.toNat).map D.ed=A at *
 generalize hB : (g.ed.drop (k.toNat + 1)).map D.ed=B at *
 cases A with
 | nil =>
   cases B with
   | nil =>
     refine Ok.seq (Ok.reg7 [false,true,true,true,true,false,true,true,true,true,true,false,true,false] (by decide +kernel) ?_)
     simp (disch:=first | omega | decide +kernel) only [h1,h2,hA,hB,go_sem,Qa,Qb,Qc,Qd,Qe,↓reduceIte,reduceCtorEq,Qf,Qg,Qh]
     (repeat' (first | ((first | (refine gsel_split (fun q' => ?_) (fun q' => ?_)<;>(have h':=q')<;>(try simp only [za1,za2,Ba,Bb,za3,ne_eq,za4,za5,za6,Ia,Ib,Ic,Ie,Da,Bc,Bh,Be,za7,za8] at h')<;>try (exfalso; omega)) | (have q':=trivial; first | refine hE _ _ ret_ne ?_ | refine hE _ _ exit_ne ?_))<;>(try simp (disch:=first | omega | decide +kernel) only [q',h1,h2,hA,hB,go_sem,Qa,Qb,Qc,Qd,Qe,↓reduceIte,reduceCtorEq,Qf,Qg,Qh])<;>clear q') | refine hN _ ?_ ?_ Wk.kk | with_reducible refine And.intro ?_ ?_ | with_reducible omega | exact ok_ints | exact cells_ints | exact no_mem | with_reducible exact plain_ints | (refine le_maxLen ?_; omega) | (refine za9 ⟨?_,?_⟩) | (simp only [go_sem,Qc,Qb,zb1,zb2,forall_eq]; done)))
     all_goals (first | exact h3 | exact le_maxLen (by omega) | omega | skip)
     refine Ok.go ?_
     simp (disch:=first | omega | decide +kernel) only [go_sem,Qa,Qb,Qc,Qd,Qe,↓reduceIte,reduceCtorEq,Qf,Qg,Qh]
     (repeat' (first | ((first | (refine gsel_split (fun q' => ?_) (fun q' => ?_)<;>(have h':=q')<;>(try simp only [za1,za2,Ba,Bb,za3,ne_eq,za4,za5,za6,Ia,Ib,Ic,Ie,Da,Bc,Bh,Be,za7,za8] at h')<;>try (exfalso; omega)) | (have q':=trivial; first | refine hE _ _ ret_ne ?_ | refine hE _ _ exit_ne ?_))<;>(try simp (disch:=first | omega | decide +kernel) only [q',go_sem,Qa,Qb,Qc,Qd,Qe,↓reduceIte,reduceCtorEq,Qf,Qg,Qh])<;>clear q') | refine hN _ ?_ ?_ Wk.kk | with_reducible refine And.intro ?_ ?_ | with_reducible omega | exact ok_ints | exact cells_ints | exact no_mem | with_reducible exact plain_ints | (refine le_maxLen ?_; omega) | (refine za9 ⟨?_,?_⟩) | (simp only [go_sem,Qc,Qb,zb1,zb2,forall_eq]; done)))
     all_goals (first | exact ret_scbd [26,31,37] rfl rfl rfl (by simp only [go_sem]) (by simp only [go_sem,List.length_cons,List.length_nil]) rfl (by simp only [go_sem]))
   | cons b r =>
     simp only [List.length_cons] at hlB
     refine Ok.seq (Ok.go ?_)
     simp (disch:=first | omega | decide +kernel) only [h1,h2,hA,hB,go_sem,Qa,Qb,Qc,Qd,Qe,↓reduceIte,reduceCtorEq,Qf,Qg,Qh]
     (repeat' (first | ((first | (refine gsel_split (fun q' => ?_) (fun q' => ?_)<;>(have h':=q')<;>(try simp only [za1,za2,Ba,Bb,za3,ne_eq,za4,za5,za6,Ia,Ib,Ic,Ie,Da,Bc,Bh,Be,za7,za8] at h')<;>try (exfalso; omega)) | (have q':=trivial; first | refine hE _ _ ret_ne ?_ | refine hE _ _ exit_ne ?_))<;>(try simp (disch:=first | omega | decide +kernel) only [q',h1,h2,hA,hB,go_sem,Qa,Qb,Qc,Qd,Qe,↓reduceIte,reduceCtorEq,Qf,Qg,Qh])<;>clear q') | refine hN _ ?_ ?_ Wk.kk | with_reducible refine And.intro ?_ ?_ | with_reducible omega | exact ok_ints | exact cells_ints | exact no_mem | with_reducible exact plain_ints | (refine le_maxLen ?_; omega) | (refine za9 ⟨?_,?_⟩) | (simp only [go_sem,Qc,Qb,zb1,zb2,forall_eq]; done)))
     all_goals (first | exact h3 | exact hokB | exact hokB _ (.head _) | exact (fun y hy => hokB y (.tail _ hy)) | exact le_maxLen (by omega) | omega | skip)
     refine Ok.go ?_
     simp (disch:=first | omega | decide +kernel) only [go_sem,Qa,Qb,Qc,Qd,Qe,↓reduceIte,reduceCtorEq,Qf,Qg,Qh]
     (repeat' (first | ((first | (refine gsel_split (fun q' => ?_) (fun q' => ?_)<;>(have h':=q')<;>(try simp only [za1,za2,Ba,Bb,za3,ne_eq,za4,za5,za6,Ia,Ib,Ic,Ie,Da,Bc,Bh,Be,za7,za8] at h')<;>try (exfalso; omega)) | (have q':=trivial; first | refine hE _ _ ret_ne ?_ | refine hE _ _ exit_ne ?_))<;>(try simp (disch:=first | omega | decide +kernel) only [q',go_sem,Qa,Qb,Qc,Qd,Qe,↓reduceIte,reduceCtorEq,Qf,Qg,Qh])<;>clear q') | refine hN _ ?_ ?_ Wk.kk | with_reducible refine And.intro ?_ ?_ | with_reducible omega | exact ok_ints | exact cells_ints | exact no_mem | with_reducible exact plain_ints | (refine le_maxLen ?_; omega) | (refine za9 ⟨?_,?_⟩) | (simp only [go_sem,Qc,Qb,zb1,zb2,forall_eq]; done)))
     all_goals (first | exact ret_scbd [31,37] rfl rfl rfl (by simp only [go_sem]) (by simp only [go_sem,List.length_cons,List.length_nil]) rfl (by simp only [go_sem]))
 | cons a q =>
   simp only [List.length_cons] at hlA
   refine Ok.seq (Ok.go ?_)
   simp (disch:=first | omega | decide +kernel) only [h1,h2,hA,go_sem,Qa,Qb,Qc,Qd,Qe,↓reduceIte,reduceCtorEq,Qf,Qg,Qh]
   (repeat' (first | ((first | (refine gsel_split (fun q' => ?_) (fun q' => ?_)<;>(have h':=q')<;>(try simp only [za1,za2,Ba,Bb,za3,ne_eq,za4,za5,za6,Ia,Ib,Ic,Ie,Da,Bc,Bh,Be,za7,za8] at h')<;>try (exfalso; omega)) | (have q':=trivial; first | refine hE _ _ ret_ne ?_ | refine hE _ _ exit_ne ?_))<;>(try simp (disch:=first | omega | decide +kernel) only [q',h1,h2,hA,go_sem,Qa,Qb,Qc,Qd,Qe,↓reduceIte,reduceCtorEq,Qf,Qg,Qh])<;>clear q') | refine hN _ ?_ ?_ Wk.kk | with_reducible refine And.intro ?_ ?_ | with_reducible omega | exact ok_ints | exact cells_ints | exact no_mem | with_reducible exact plain_ints | (refine le_maxLen ?_; omega) | (refine za9 ⟨?_,?_⟩) | (simp only [go_sem,Qc,Qb,zb1,zb2,forall_eq]; done)))
   all_goals (first | exact h3 | exact hokA _ (.head _) | exact (fun y hy => hokA y (.tail _ hy)) | exact hokB | exact hokB _ (.head _) | exact (fun y hy => hokB y (.tail _ hy)) | exact le_maxLen (by omega) | omega | skip)
   refine Ok.go ?_
   simp (disch:=first | omega | decide +kernel) only [go_sem,Qa,Qb,Qc,Qd,Qe,↓reduceIte,reduceCtorEq,Qf,Qg,Qh]
   (repeat' (first | ((first | (refine gsel_split (fun q' => ?_) (fun q' => ?_)<;>(have h':=q')<;>(try simp only [za1,za2,Ba,Bb,za3,ne_eq,za4,za5,za6,Ia,Ib,Ic,Ie,Da,Bc,Bh,Be,za7,za8] at h')<;>try (exfalso; omega)) | (have q':=trivial; first | refine hE _ _ ret_ne ?_ | refine hE _ _ exit_ne ?_))<;>(try simp (disch:=first | omega | decide +kernel) only [q',go_sem,Qa,Qb,Qc,Qd,Qe,↓reduceIte,reduceCtorEq,Qf,Qg,Qh])<;>clear q') | refine hN _ ?_ ?_ Wk.kk | with_reducible refine And.intro ?_ ?_ | with_reducible omega | exact ok_ints | exact cells_ints | exact no_mem | with_reducible exact plain_ints | (refine le_maxLen ?_; omega) | (refine za9 ⟨?_,?_⟩) | (simp only [go_sem,Qc,Qb,zb1,zb2,forall_eq]; done)))
   all_goals (first | exact ret_scbd [31,37] rfl rfl rfl (by simp only [go_sem]) (by simp only [go_sem,List.length_cons,List.length_nil]) rfl (by simp only [go_sem]))
set_option maxHeartbeats 4000000 in
theorem removeS0_ok (g : Chg) (k : Int) (hb : edB g k=true) : Ctr Try.prog 14 [D.chg g,.int .i64 k,.int .i64 0] true (.tup [.d (D.chg (remG g k.toNat 0)),.d (.bool true)]) []:=by
 obtain ⟨hb1,hb2⟩:=Bool.and_eq_true_iff.1 hb
 have hg:=good_iff.1 hb1
 have hk:=inE_lt hb2
 have hn:=hg.n1
 have hm:=hg.m
 have hcl:=hg.c
 have c1:=l27Edge_ok g k (by omega) (by omega)
 rw [hb] at c1
 have c2 : Ctr Try.prog 38 [.int .i64 0,.int .i64 0,.int .i64 1] false (.d (.bool true)) []:=l1In_ok 0 0 1
 have c4:=l27Own_ok g (by omega) (by omega)
 have he : remG g k.toNat 0=⟨g.n,g.ed.take k.toNat++g.ed.drop (k.toNat + 1),g.ch⟩:=by
  show (⟨_,_,_⟩ : Chg)=_
  rw [erase_split]; rfl
 rw [he]
 simp only [D.chg,D.ints] at c1 c4
 refine Ctr.ofK (n:=40) (rs:=[.cell 6 27,.tmp 7]) Try.func14 rfl rfl Try.ntmps14 rfl rfl (by kernel_rfl) Try.checked.mixed ?_
 refine Ok.seq (Ok.go ?_)
 simp (disch:=first | omega | decide +kernel) only [D.chg,D.ints,go_sem,Qa,Qb,Qc,Qd,Qe,↓reduceIte,reduceCtorEq,Qf,Qg,Qh]
 (repeat' (first | ((first | (refine gsel_split (fun q' => ?_) (fun q' => ?_)<;>(have h':=q')<;>(try simp only [za1,za2,Ba,Bb,za3,ne_eq,za4,za5,za6,Ia,Ib,Ic,Ie,Da,Bc,Bh,Be,za7,za8] at h')<;>try (exfalso; omega)) | (have q':=trivial; first | refine callX_new (c1) rfl (by decide) ?_ | refine callY_new (c1) rfl ?_ | refine callX_new (c2) rfl (by decide) ?_ | refine callY_new (c2) rfl ?_ | refine hE _ _ ret_ne ?_ | refine hE _ _ exit_ne ?_))<;>(try simp (disch:=first | omega | decide +kernel) only [q',D.ints,go_sem,Qa,Qb,Qc,Qd,Qe,↓reduceIte,reduceCtorEq,Qf,Qg,Qh])<;>clear q') | refine hN _ ?_ ?_ Wk.kk | with_reducible refine And.intro ?_ ?_ | with_reducible omega | exact ok_ints | exact cells_ints | exact no_mem | with_reducible exact plain_ints | (refine le_maxLen ?_; omega) | (refine za9 ⟨?_,?_⟩) | (simp only [go_sem,Qc,Qb,zb1,zb2,forall_eq]; done)))
 refine Ok.seq (Ok.go ?_)
 simp (disch:=first | omega | decide +kernel) only [go_sem,Qa,Qb,Qc,Qd,Qe,↓reduceIte,reduceCtorEq,Qf,Qg,Qh]
 (repeat' (first | ((first | (refine gsel_split (fun q' => ?_) (fun q' => ?_)<;>(have h':=q')<;>(try simp only [za1,za2,Ba,Bb,za3,ne_eq,za4,za5,za6,Ia,Ib,Ic,Ie,Da,Bc,Bh,Be,za7,za8] at h')<;>try (exfalso; omega)) | (have q':=trivial; first | refine callX_new (c1) rfl (by decide) ?_ | refine callY_new (c1) rfl ?_ | refine callX_new (c2) rfl (by decide) ?_ | refine callY_new (c2) rfl ?_ | refine hE _ _ ret_ne ?_ | refine hE _ _ exit_ne ?_))<;>(try simp (disch:=first | omega | decide +kernel) only [q',go_sem,Qa,Qb,Qc,Qd,Qe,↓reduceIte,reduceCtorEq,Qf,Qg,Qh])<;>clear q') | refine hN _ ?_ ?_ Wk.kk | with_reducible refine And.intro ?_ ?_ | with_reducible omega | exact ok_ints | exact cells_ints | exact no_mem | with_reducible exact plain_ints | (refine le_maxLen ?_; omega) | (refine za9 ⟨?_,?_⟩) | (simp only [go_sem,Qc,Qb,zb1,zb2,forall_eq]; done)))
 refine Ok.seq (Ok.go ?_)
 simp (disch:=first | omega | decide +kernel) only [go_sem,Qa,Qb,Qc,Qd,Qe,↓reduceIte,reduceCtorEq,Qf,Qg,Qh]
 (repeat' (first | ((first | (refine gsel_split (fun q' => ?_) (fun q' => ?_)<;>(have h':=q')<;>(try simp only [za1,za2,Ba,Bb,za3,ne_eq,za4,za5,za6,Ia,Ib,Ic,Ie,Da,Bc,Bh,Be,za7,za8] at h')<;>try (exfalso; omega)) | (have q':=trivial; first | refine callX_new (c4) rfl (by decide) ?_ | refine callY_new (c4) rfl ?_ | refine hE _ _ ret_ne ?_ | refine hE _ _ exit_ne ?_))<;>(try simp (disch:=first | omega | decide +kernel) only [q',go_sem,Qa,Qb,Qc,Qd,Qe,↓reduceIte,reduceCtorEq,Qf,Qg,Qh])<;>clear q') | refine hN _ ?_ ?_ Wk.kk | with_reducible refine And.intro ?_ ?_ | with_reducible omega | exact ok_ints | exact cells_ints | exact no_mem | with_reducible exact plain_ints | (refine le_maxLen ?_; omega) | (refine za9 ⟨?_,?_⟩) | (simp only [go_sem,Qc,Qb,zb1,zb2,forall_eq]; done)))
 refine Ok.seq (Ok.go ?_)
 simp (disch:=first | omega | decide +kernel) only [go_sem,Qa,Qb,Qc,Qd,Qe,↓reduceIte,reduceCtorEq,Qf,Qg,Qh]
 (repeat' (first | ((first | (refine gsel_split (fun q' => ?_) (fun q' => ?_)<;>(have h':=q')<;>(try simp only [za1,za2,Ba,Bb,za3,ne_eq,za4,za5,za6,Ia,Ib,Ic,Ie,Da,Bc,Bh,Be,za7,za8] at h')<;>try (exfalso; omega)) | (have q':=trivial; first | refine hE _ _ ret_ne ?_ | refine hE _ _ exit_ne ?_))<;>(try simp (disch:=first | omega | decide +kernel) only [q',go_sem,Qa,Qb,Qc,Qd,Qe,↓reduceIte,reduceCtorEq,Qf,Qg,Qh])<;>clear q') | refine hN _ ?_ ?_ Wk.kk | with_reducible refine And.intro ?_ ?_ | with_reducible omega | exact ok_ints | exact cells_ints | exact no_mem | with_reducible exact plain_ints | (refine le_maxLen ?_; omega) | (refine za9 ⟨?_,?_⟩) | (simp only [go_sem,Qc,Qb,zb1,zb2,forall_eq]; done)))
 have h1 : ((g.ed.map D.ed).drop (0 : Int).toNat).take (k.toNat - (0 : Int).toNat)=(g.ed.take k.toNat).map D.ed:=by simp
 have h2 : ((g.ed.drop (k + 1).toNat).take (g.ed.length - (k + 1).toNat)).map D.ed=(g.ed.drop (k.toNat + 1)).map D.ed:=by
  rw [show (k + 1).toNat=k.toNat + 1 by omega,List.take_of_length_le (by simp)]
 have h3 : ∀ y ∈ g.ed.map D.ed,y.cells.length=2:=fun y hy => by obtain ⟨e,_,rfl⟩:=List.mem_map.1 hy; rfl
 have hokA : ∀ y ∈ (g.ed.take k.toNat).map D.ed,D.ok 2 y:=fun y hy => okE hy
 have hokB : ∀ y ∈ (g.ed.drop (k.toNat + 1)).map D.ed,D.ok 2 y:=fun y hy => okE hy
 have hlA : ((g.ed.take k.toNat).map D.ed).length<=12:=by rw [List.length_map,List.length_take]; omega
 have hlB : ((g.ed.drop (k.toNat + 1)).map D.ed).length<=12:=by rw [List.length_map,List.length_drop]; omega
 rw [List.map_append]
 generalize hA : (g.ed.take k.toNat).map D.ed=A at *
 generalize hB : (g.ed.drop (k.toNat + 1)).map D.ed=B at *
 cases A with
 | nil =>
   cases B with
   | nil =>
     refine Ok.seq (Ok.reg7 [false,true,true,true,true,false,true,true,true,true,true,false,true,false] (by decide +kernel) ?_)
     simp (disch:=first | omega | decide +kernel) only [h1,h2,hA,hB,go_sem,Qa,Qb,Qc,Qd,Qe,↓reduceIte,reduceCtorEq,Qf,Qg,Qh]
     (repeat' (first | ((first | (refine gsel_split (fun q' => ?_) (fun q' => ?_)<;>(have h':=q')<;>(try simp only [za1,za2,Ba,Bb,za3,ne_eq,za4,za5,za6,Ia,Ib,Ic,Ie,Da,Bc,Bh,Be,za7,za8] at h')<;>try (exfalso; omega)) | (have q':=trivial; first | refine hE _ _ ret_ne ?_ | refine hE _ _ exit_ne ?_))<;>(try simp (disch:=first | omega | decide +kernel) only [q',h1,h2,hA,hB,go_sem,Qa,Qb,Qc,Qd,Qe,↓reduceIte,reduceCtorEq,Qf,Qg,Qh])<;>clear q') | refine hN _ ?_ ?_ Wk.kk | with_reducible refine And.intro ?_ ?_ | with_reducible omega | exact ok_ints | exact cells_ints | exact no_mem | with_reducible exact plain_ints | (refine le_maxLen ?_; omega) | (refine za9 ⟨?_,?_⟩) | (simp only [go_sem,Qc,Qb,zb1,zb2,forall_eq]; done)))
     all_goals (first | exact h3 | exact le_maxLen (by omega) | omega | skip)
     refine Ok.go ?_
     simp (disch:=first | omega | decide +kernel) only [go_sem,Qa,Qb,Qc,Qd,Qe,↓reduceIte,reduceCtorEq,Qf,Qg,Qh]
     (repeat' (first | ((first | (refine gsel_split (fun q' => ?_) (fun q' => ?_)<;>(have h':=q')<;>(try simp only [za1,za2,Ba,Bb,za3,ne_eq,za4,za5,za6,Ia,Ib,Ic,Ie,Da,Bc,Bh,Be,za7,za8] at h')<;>try (exfalso; omega)) | (have q':=trivial; first | refine hE _ _ ret_ne ?_ | refine hE _ _ exit_ne ?_))<;>(try simp (disch:=first | omega | decide +kernel) only [q',go_sem,Qa,Qb,Qc,Qd,Qe,↓reduceIte,reduceCtorEq,Qf,Qg,Qh])<;>clear q') | refine hN _ ?_ ?_ Wk.kk | with_reducible refine And.intro ?_ ?_ | with_reducible omega | exact ok_ints | exact cells_ints | exact no_mem | with_reducible exact plain_ints | (refine le_maxLen ?_; omega) | (refine za9 ⟨?_,?_⟩) | (simp only [go_sem,Qc,Qb,zb1,zb2,forall_eq]; done)))
     all_goals (first | exact ret_scbd [26,31,37,2100001] rfl rfl rfl (by simp only [go_sem]) (by simp only [go_sem,List.length_cons,List.length_nil]) rfl (by simp only [go_sem]))
   | cons b r =>
     simp only [List.length_cons] at hlB
     refine Ok.seq (Ok.go ?_)
     simp (disch:=first | omega | decide +kernel) only [h1,h2,hA,hB,go_sem,Qa,Qb,Qc,Qd,Qe,↓reduceIte,reduceCtorEq,Qf,Qg,Qh]
     (repeat' (first | ((first | (refine gsel_split (fun q' => ?_) (fun q' => ?_)<;>(have h':=q')<;>(try simp only [za1,za2,Ba,Bb,za3,ne_eq,za4,za5,za6,Ia,Ib,Ic,Ie,Da,Bc,Bh,Be,za7,za8] at h')<;>try (exfalso; omega)) | (have q':=trivial; first | refine hE _ _ ret_ne ?_ | refine hE _ _ exit_ne ?_))<;>(try simp (disch:=first | omega | decide +kernel) only [q',h1,h2,hA,hB,go_sem,Qa,Qb,Qc,Qd,Qe,↓reduceIte,reduceCtorEq,Qf,Qg,Qh])<;>clear q') | refine hN _ ?_ ?_ Wk.kk | with_reducible refine And.intro ?_ ?_ | with_reducible omega | exact ok_ints | exact cells_ints | exact no_mem | with_reducible exact plain_ints | (refine le_maxLen ?_; omega) | (refine za9 ⟨?_,?_⟩) | (simp only [go_sem,Qc,Qb,zb1,zb2,forall_eq]; done)))
     all_goals (first | exact h3 | exact hokB | exact hokB _ (.head _) | exact (fun y hy => hokB y (.tail _ hy)) | exact le_maxLen (by omega) | omega | skip)
     refine Ok.go ?_
     simp (disch:=first | omega | decide +kernel) only [go_sem,Qa,Qb,Qc,Qd,Qe,↓reduceIte,reduceCtorEq,Qf,Qg,Qh]
     (repeat' (first | ((first | (refine gsel_split (fun q' => ?_) (fun q' => ?_)<;>(have h':=q')<;>(try simp only [za1,za2,Ba,Bb,za3,ne_eq,za4,za5,za6,Ia,Ib,Ic,Ie,Da,Bc,Bh,Be,za7,za8] at h')<;>try (exfalso; omega)) | (have q':=trivial; first | refine hE _ _ ret_ne ?_ | refine hE _ _ exit_ne ?_))<;>(try simp (disch:=first | omega | decide +kernel) only [q',go_sem,Qa,Qb,Qc,Qd,Qe,↓reduceIte,reduceCtorEq,Qf,Qg,Qh])<;>clear q') | refine hN _ ?_ ?_ Wk.kk | with_reducible refine And.intro ?_ ?_ | with_reducible omega | exact ok_ints | exact cells_ints | exact no_mem | with_reducible exact plain_ints | (refine le_maxLen ?_; omega) | (refine za9 ⟨?_,?_⟩) | (simp only [go_sem,Qc,Qb,zb1,zb2,forall_eq]; done)))
     all_goals (first | exact ret_scbd [31,37,2100001] rfl rfl rfl (by simp only [go_sem]) (by simp only [go_sem,List.length_cons,List.length_nil]) rfl (by simp only [go_sem]))
 | cons a q =>
   simp only [List.length_cons] at hlA
   refine Ok.seq (Ok.go ?_)
   simp (disch:=first | omega | decide +kernel) only [h1,h2,hA,go_sem,Qa,Qb,Qc,Qd,Qe,↓reduceIte,reduceCtorEq,Qf,Qg,Qh]
   (repeat' (first | ((first | (refine gsel_split (fun q' => ?_) (fun q' => ?_)<;>(have h':=q')<;>(try simp only [za1,za2,Ba,Bb,za3,ne_eq,za4,za5,za6,Ia,Ib,Ic,Ie,Da,Bc,Bh,Be,za7,za8] at h')<;>try (exfalso; omega)) | (have q':=trivial; first | refine hE _ _ ret_ne ?_ | refine hE _ _ exit_ne ?_))<;>(try simp (disch:=first | omega | decide +kernel) only [q',h1,h2,hA,go_sem,Qa,Qb,Qc,Qd,Qe,↓reduceIte,reduceCtorEq,Qf,Qg,Qh])<;>clear q') | refine hN _ ?_ ?_ Wk.kk | with_reducible refine And.intro ?_ ?_ | with_reducible omega | exact ok_ints | exact cells_ints | exact no_mem | with_reducible exact plain_ints | (refine le_maxLen ?_; omega) | (refine za9 ⟨?_,?_⟩) | (simp only [go_sem,Qc,Qb,zb1,zb2,forall_eq]; done)))
   all_goals (first | exact h3 | exact hokA _ (.head _) | exact (fun y hy => hokA y (.tail _ hy)) | exact hokB | exact hokB _ (.head _) | exact (fun y hy => hokB y (.tail _ hy)) | exact le_maxLen (by omega) | omega | skip)
   refine Ok.go ?_
   simp (disch:=first | omega | decide +kernel) only [go_sem,Qa,Qb,Qc,Qd,Qe,↓reduceIte,reduceCtorEq,Qf,Qg,Qh]
   (repeat' (first | ((first | (refine gsel_split (fun q' => ?_) (fun q' => ?_)<;>(have h':=q')<;>(try simp only [za1,za2,Ba,Bb,za3,ne_eq,za4,za5,za6,Ia,Ib,Ic,Ie,Da,Bc,Bh,Be,za7,za8] at h')<;>try (exfalso; omega)) | (have q':=trivial; first | refine hE _ _ ret_ne ?_ | refine hE _ _ exit_ne ?_))<;>(try simp (disch:=first | omega | decide +kernel) only [q',go_sem,Qa,Qb,Qc,Qd,Qe,↓reduceIte,reduceCtorEq,Qf,Qg,Qh])<;>clear q') | refine hN _ ?_ ?_ Wk.kk | with_reducible refine And.intro ?_ ?_ | with_reducible omega | exact ok_ints | exact cells_ints | exact no_mem | with_reducible exact plain_ints | (refine le_maxLen ?_; omega) | (refine za9 ⟨?_,?_⟩) | (simp only [go_sem,Qc,Qb,zb1,zb2,forall_eq]; done)))
   all_goals (first | exact ret_scbd [31,37,2100001] rfl rfl rfl (by simp only [go_sem]) (by simp only [go_sem,List.length_cons,List.length_nil]) rfl (by simp only [go_sem]))
end Abs.Y

namespace Go.Proofs
open Go.RowKit Go.Lib Go.Sort Go.Shelf
set_option maxRecDepth 100000 in
set_option maxHeartbeats 4000000 in
theorem Try.delE_w (g cap i n : Nat) (hi : i < n) (hn : n<=cap) (hm : cap<=9223372036854775807) (cur : Array Value) (w : World) (hb : w.heap[g]? = some (.cells cur 55 (0,0))) (hsz : cur.size=cap * 2) (h1 : ∀ t v,t < n * 2->cur[t]? = some v->v.oneCell'=true) :
 Calls Try.prog 37 #[.slice (some ⟨g,0,none⟩) n cap,.int .i64 (i : Nat),.int .i64 ((i + 1 : Nat) : Int)] w fun e w' => e=.returned (.slice (some ⟨g,0,none⟩) (n - 1) cap) ∧
  w'=(w.drew.setCells g (i * 2) ((cur.toList.take (n * 2)).drop ((i + 1) * 2))).setCells g ((n - 1) * 2) [.int .i64 0,.int .i64 0]:=by
 obtain ⟨news,hnews⟩ : ∃ news,news=(cur.toList.take (n * 2)).drop ((i + 1) * 2):=⟨_,rfl⟩
 rw [← hnews]
 have hlen : news.length=(n - (i + 1)) * 2:=by rw [hnews]; simp; omega
 have hget : ∀ t,t < (n - (i + 1)) * 2->news[t]? = cur[(i + 1) * 2 + t]? := by
  intro t ht
  rw [hnews,List.getElem?_drop,List.getElem?_take,if_pos (by omega),Array.getElem?_toList]
 have hcell : ∀ t,w.cell? ⟨g,t,none⟩=cur[t]? := fun t => by simp [World.cell?, hb]
 have hfr : ∀ t,w.frozen? ⟨g,t,none⟩=false:=fun t => by simp [World.frozen?, hb]
 obtain ⟨A,hA,hsrc⟩ : ∃ A : Addr,(if cap=i + 1 then some (⟨g,0,none⟩ : Addr) else some ⟨g,(i + 1) * 2,none⟩)=some A∧Hid (∀ t u,news[t]? = some u->w.drew.cell? (A.add t)=some u):=by
  by_cases h : cap=i + 1
  . refine ⟨⟨g,0,none⟩,by simp [h],fun t u hu => ?_⟩
    have h0 : news.length=0:=by rw [hlen]; omega
    rw [List.length_eq_zero_iff.1 h0] at hu
    simp at hu
  . refine ⟨⟨g,(i + 1) * 2,none⟩,by simp [h],fun t u hu => ?_⟩
    have ht : t < (n - (i + 1)) * 2:=by
     have:=(List.getElem?_eq_some_iff.1 hu).1
     rwa [hlen] at this
    rw [hget t ht] at hu
    rw [Addr.add_lit]
    exact (hcell _).trans hu
 have s1 : Hid (news.length=(n - (i + 1)) * 2):=hlen
 have s2 : Hid (∀ u ∈ news,u.oneCell'=true):=by
  intro u hu
  obtain ⟨t,ht⟩:=List.getElem?_of_mem hu
  have h3 : t < (n - (i + 1)) * 2:=by
   have:=(List.getElem?_eq_some_iff.1 ht).1
   rwa [hlen] at this
  rw [hget t h3] at ht
  exact h1 _ u (by omega) ht
 have s3 : Hid (∀ t,t < news.length->(w.drew.cell? ⟨g,0 + i * 2 + t,none⟩).isSome=true∧w.drew.frozen? ⟨g,0 + i * 2 + t,none⟩=false):=by
  intro t ht
  rw [hlen] at ht
  refine ⟨?_,hfr _⟩
  show (w.cell? _).isSome=true
  rw [hcell,Array.getElem?_eq_getElem (by omega)]; rfl
 obtain ⟨W1,hW1⟩ : ∃ W1,W1=w.drew.setCells g (0 + i * 2) news:=⟨_,rfl⟩
 have hc1 : ∀ t,t < cap * 2->(W1.cell? ⟨g,t,none⟩).isSome=true:=fun t ht => by
  rw [hW1]
  by_cases h : i * 2<=t∧t < i * 2 + news.length
  . have:=World.cell?_setCells_in g news (0 + i * 2) w.drew (fun j hj => (s3 j hj).1) (t - i * 2) (by omega)
    rw [show 0 + i * 2 + (t - i * 2)=t by omega] at this
    rw [this]; rfl
  . rw [World.cell?_setCells_out g news _ _ _ (fun _ _ => by simp; omega)]
    show (w.cell? _).isSome=true
    rw [hcell,Array.getElem?_eq_getElem (by omega)]; rfl
 have hf1 : ∀ t,W1.frozen? ⟨g,t,none⟩=false:=fun t => by rw [hW1,World.frozen?_setCells]; exact hfr t
 have hcl : ∀ ty,(Builtin.clear_ #[24] ty #[.slice (some ⟨g,(i + (n - (i + 1))) * 2,none⟩) (n - (i + (n - (i + 1)))) (cap - (i + (n - (i + 1))))]).run Try.prog W1=.ok (.tuple #[]) (W1.setCells g ((n - 1) * 2) [.int .i64 0,.int .i64 0]):=fun ty => by
  have hst:=run_storeCells_cells (P:=Try.prog) g ((n - 1) * 2) [.int .i64 0,.int .i64 0] 0 W1 (fun j hj => hc1 _ (by simp at hj; omega)) (fun j hj => hf1 _) (by intro v hv; simp at hv; subst hv; rfl)
  rw [show n - (i + (n - (i + 1)))=1 by omega,show (i + (n - (i + 1))) * 2=(n - 1) * 2 by omega]
  have hr : List.range 2=[0,1]:=rfl
  simp [Builtin.clear_,run_underlying Try.underlying24,Try.zeroValue55,Builtin.zeroCells,Value.cells,hr] at hst ⊢
  rw [hst]; rfl
 have hW : Hid (W1=w.drew.setCells g (0 + i * 2) news):=hW1
 have hfin : W1=w.drew.setCells g (i * 2) news:=by rw [hW1,Nat.zero_add]
 rw [← hfin]
 obtain ⟨i0,hi0,hz0⟩ : ∃ i0,Try.prog.info? 55=some i0∧i0.size=2:=⟨_,rfl,rfl⟩
 have t22:=Try.underlying24
 have mixed:=Try.checked.mixed
 have hle : (0 : Int)<=(i : Int) + 1∧(i : Int) + 1<=(n : Int):=by omega
 have hle1 : ((i : Int) + 1).toNat=i + 1:=by omega
 have hic : i<=cap:=by omega
 have hjc : i + 1<=cap:=by omega
 clear hW1 hfin hb hget hnews hlen hcell hfr hc1 hf1 h1
 go_enter Try.func37,Try.ntmps37
 go_wp2_with fail
 go_region_law_o (refine step_append_room rfl (.tmp 22) (.tmp 25) 24 rfl 55 i0 2 t22 hi0 hz0 g 0 i cap (by simp [Act.eval,Act.put]) A (n - (i + 1)) (cap - (i + 1)) news (by simp [Act.eval,Act.put]) s1.out hsrc.out s2.out (by omega) s3.out ?_; rw [← hW.out])
 go_wp2
 go_ret
 exact ⟨by rw [show i + (n - (i + 1))=n - 1 by omega]; rfl,rfl⟩
end Go.Proofs

namespace Go.Proofs
open Go.RowKit Go.Lib Go.Sort Go.Shelf
set_option maxRecDepth 100000 in
set_option maxHeartbeats 4000000 in
theorem Try.delI_w (g cap i n : Nat) (hi : i < n) (hn : n<=cap) (hm : cap<=9223372036854775807) (cur : Array Value) (w : World) (hb : w.heap[g]? = some (.cells cur 3 (0,0))) (hsz : cur.size=cap) (h1 : ∀ t v,t < n->cur[t]? = some v->v.oneCell'=true) :
 Calls Try.prog 47 #[.slice (some ⟨g,0,none⟩) n cap,.int .i64 (i : Nat),.int .i64 ((i + 1 : Nat) : Int)] w fun e w' => e=.returned (.slice (some ⟨g,0,none⟩) (n - 1) cap) ∧
  w'=(w.drew.setCells g (i) ((cur.toList.take (n)).drop ((i + 1)))).setCells g ((n - 1)) [.int .i64 0]:=by
 obtain ⟨news,hnews⟩ : ∃ news,news=(cur.toList.take (n)).drop ((i + 1)):=⟨_,rfl⟩
 rw [← hnews]
 have hlen : news.length=(n - (i + 1)):=by rw [hnews]; simp; omega
 have hget : ∀ t,t < (n - (i + 1))->news[t]? = cur[(i + 1) + t]? := by
  intro t ht
  rw [hnews,List.getElem?_drop,List.getElem?_take,if_pos (by omega),Array.getElem?_toList]
 have hcell : ∀ t,w.cell? ⟨g,t,none⟩=cur[t]? := fun t => by simp [World.cell?, hb]
 have hfr : ∀ t,w.frozen? ⟨g,t,none⟩=false:=fun t => by simp [World.frozen?, hb]
 obtain ⟨A,hA,hsrc⟩ : ∃ A : Addr,(if cap=i + 1 then some (⟨g,0,none⟩ : Addr) else some ⟨g,(i + 1),none⟩)=some A∧Hid (∀ t u,news[t]? = some u->w.drew.cell? (A.add t)=some u):=by
  by_cases h : cap=i + 1
  . refine ⟨⟨g,0,none⟩,by simp [h],fun t u hu => ?_⟩
    have h0 : news.length=0:=by rw [hlen]; omega
    rw [List.length_eq_zero_iff.1 h0] at hu
    simp at hu
  . refine ⟨⟨g,(i + 1),none⟩,by simp [h],fun t u hu => ?_⟩
    have ht : t < (n - (i + 1)):=by
     have:=(List.getElem?_eq_some_iff.1 hu).1
     rwa [hlen] at this
    rw [hget t ht] at hu
    rw [Addr.add_lit]
    exact (hcell _).trans hu
 have s1 : Hid (news.length=(n - (i + 1)) * 1):=by rw [Nat.mul_one]; exact hlen
 have s2 : Hid (∀ u ∈ news,u.oneCell'=true):=by
  intro u hu
  obtain ⟨t,ht⟩:=List.getElem?_of_mem hu
  have h3 : t < (n - (i + 1)):=by
   have:=(List.getElem?_eq_some_iff.1 ht).1
   rwa [hlen] at this
  rw [hget t h3] at ht
  exact h1 _ u (by omega) ht
 have s3 : Hid (∀ t,t < news.length->(w.drew.cell? ⟨g,0 + i * 1 + t,none⟩).isSome=true∧w.drew.frozen? ⟨g,0 + i * 1 + t,none⟩=false):=by
  intro t ht
  rw [hlen] at ht
  refine ⟨?_,hfr _⟩
  show (w.cell? _).isSome=true
  rw [hcell,Array.getElem?_eq_getElem (by omega)]; rfl
 obtain ⟨W1,hW1⟩ : ∃ W1,W1=w.drew.setCells g (0 + i * 1) news:=⟨_,rfl⟩
 have hc1 : ∀ t,t < cap->(W1.cell? ⟨g,t,none⟩).isSome=true:=fun t ht => by
  rw [hW1]
  by_cases h : i<=t∧t < i + news.length
  . have:=World.cell?_setCells_in g news (0 + i * 1) w.drew (fun j hj => (s3 j hj).1) (t - i) (by omega)
    rw [show 0 + i * 1 + (t - i)=t by omega] at this
    rw [this]; rfl
  . rw [World.cell?_setCells_out g news _ _ _ (fun _ _ => by simp; omega)]
    show (w.cell? _).isSome=true
    rw [hcell,Array.getElem?_eq_getElem (by omega)]; rfl
 have hf1 : ∀ t,W1.frozen? ⟨g,t,none⟩=false:=fun t => by rw [hW1,World.frozen?_setCells]; exact hfr t
 have hcl : ∀ ty,(Builtin.clear_ #[25] ty #[.slice (some ⟨g,(i + (n - (i + 1))),none⟩) (n - (i + (n - (i + 1)))) (cap - (i + (n - (i + 1))))]).run Try.prog W1=.ok (.tuple #[]) (W1.setCells g ((n - 1)) [.int .i64 0]):=fun ty => by
  have hst:=run_storeCells_cells (P:=Try.prog) g ((n - 1)) [.int .i64 0] 0 W1 (fun j hj => hc1 _ (by simp at hj; omega)) (fun j hj => hf1 _) (by intro v hv; simp at hv; subst hv; rfl)
  rw [show n - (i + (n - (i + 1)))=1 by omega,show (i + (n - (i + 1)))=(n - 1) by omega]
  have hr : List.range 1=[0]:=rfl
  simp [Builtin.clear_,run_underlying Try.underlying25,Try.zeroValue3,Builtin.zeroCells,Value.cells,hr] at hst ⊢
  rw [hst]; rfl
 have hW : Hid (W1=w.drew.setCells g (0 + i * 1) news):=hW1
 have hfin : W1=w.drew.setCells g (i) news:=by rw [hW1,Nat.zero_add,Nat.mul_one]
 rw [← hfin]
 obtain ⟨i0,hi0,hz0⟩ : ∃ i0,Try.prog.info? 3=some i0∧i0.size=1:=⟨_,rfl,rfl⟩
 have t22:=Try.underlying25
 have mixed:=Try.checked.mixed
 have hle : (0 : Int)<=(i : Int) + 1∧(i : Int) + 1<=(n : Int):=by omega
 have hle1 : ((i : Int) + 1).toNat=i + 1:=by omega
 have hic : i<=cap:=by omega
 have hjc : i + 1<=cap:=by omega
 clear hW1 hfin hb hget hnews hlen hcell hfr hc1 hf1 h1
 go_enter Try.func47,Try.ntmps47
 go_wp2_with fail
 go_region_law_o (refine step_append_room rfl (.tmp 22) (.tmp 25) 25 rfl 3 i0 1 t22 hi0 hz0 g 0 i cap (by simp [Act.eval,Act.put]) A (n - (i + 1)) (cap - (i + 1)) news (by simp [Act.eval,Act.put]) s1.out hsrc.out s2.out (by omega) s3.out ?_; rw [← hW.out])
 go_wp2
 go_ret
 exact ⟨by rw [show i + (n - (i + 1))=n - 1 by omega]; rfl,rfl⟩
end Go.Proofs
