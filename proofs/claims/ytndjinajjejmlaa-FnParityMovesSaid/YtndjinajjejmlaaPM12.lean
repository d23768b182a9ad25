/- What functions of this program compute, over plain data. No condition. -/
import Derived.Test.YtndjinajjejmlaaPM9
set_option linter.all false
namespace Abs.Y
open Go Go.Proofs Abs
open Nat renaming reduceEqDiff -> Qa, reduceLT -> Qb, reduceAdd -> Qc, reduceMul -> Qd, reduceSub -> Qe, reduceLeDiff -> Qf, reduceSubDiff -> Qg, reduceBEq -> Qh
open Bool renaming not_eq_true' -> Ba, not_eq_false' -> Bb, and_eq_true -> Bc, or_eq_true -> Bh, or_eq_false_iff -> Be
open Int renaming ofNat_lt -> Ia, ofNat_le -> Ib, not_lt -> Ic, not_le -> Ie
open Decidable renaming not_not -> Da
set_option maxRecDepth 100000

theorem okE {y : D} {l : List (Int × Int)} (h : y ∈ l.map D.ed) : D.ok 2 y:=by
 obtain ⟨e,_,rfl⟩:=List.mem_map.1 h
 exact ⟨rfl,fun x hx => by simp [D.ed,D.cells] at hx; rcases hx with rfl | rfl<;>rfl⟩
theorem plainE {es : List (Int × Int)} : ∀ y ∈ es.map D.ed,y.plain=true:=fun y hy => by
 obtain ⟨e,_,rfl⟩:=List.mem_map.1 hy; rfl
theorem cloneE_ok (es : List (Int × Int)) (hl : es.length<=1048576) : Ctr Try.prog 53 [.slice (es.map D.ed)] false (.sl 0) [(0,.arr 55 2 (es.map D.ed))]:=by
 have hok : ∀ y ∈ es.map D.ed,D.ok 2 y:=fun y hy => okE hy
 cases es with
 | nil =>
   refine Ctr.of (n:=8) (rs:=[.tmp 2]) Try.func53 rfl rfl Try.ntmps53 rfl rfl (by kernel_rfl) Try.checked.mixed ?_
   simp (disch:=first | omega | decide +kernel) only [List.map_nil,go_sem,Qa,Qb,Qc,Qd,Qe,↓reduceIte,reduceCtorEq,Qf,Qg,Qh]
   intro b hb
   cases b with
   | true =>
     simp (disch:=first | omega | decide +kernel) only [go_sem,Qa,Qb,Qc,Qd,Qe,↓reduceIte,reduceCtorEq,Qf,Qg,Qh]
     (repeat' (first | ((first | (refine gsel_split (fun q' => ?_) (fun q' => ?_)<;>(have h':=q')<;>(try simp only [za1,za2,Ba,Bb,za3,ne_eq,za4,za5,za6,Ia,Ib,Ic,Ie,Da,Bc,Bh,Be,za7,za8] at h')) | (have q':=trivial; first | refine hE _ _ ret_ne ?_ | refine hE _ _ exit_ne ?_))<;>(try simp (disch:=first | omega | decide +kernel) only [q',go_sem,Qa,Qb,Qc,Qd,Qe,↓reduceIte,reduceCtorEq,Qf,Qg,Qh])<;>clear q') | refine hN _ ?_ ?_ Wk.kk | with_reducible refine And.intro ?_ ?_ | with_reducible omega | exact ok_ints | exact cells_ints | exact no_mem | with_reducible exact plain_ints | (refine le_maxLen ?_; omega) | (refine za9 ⟨?_,?_⟩) | (simp only [go_sem,Qc,Qb,zb1,zb2,forall_eq]; done)))
     exact ret_sl 2 rfl rfl no_mem
   | false =>
     simp (disch:=first | omega | decide +kernel) only [go_sem,Qa,Qb,Qc,Qd,Qe,↓reduceIte,reduceCtorEq,Qf,Qg,Qh]
     (repeat' (first | ((first | (refine gsel_split (fun q' => ?_) (fun q' => ?_)<;>(have h':=q')<;>(try simp only [za1,za2,Ba,Bb,za3,ne_eq,za4,za5,za6,Ia,Ib,Ic,Ie,Da,Bc,Bh,Be,za7,za8] at h')) | (have q':=trivial; first | refine hE _ _ ret_ne ?_ | refine hE _ _ exit_ne ?_))<;>(try simp (disch:=first | omega | decide +kernel) only [q',go_sem,Qa,Qb,Qc,Qd,Qe,↓reduceIte,reduceCtorEq,Qf,Qg,Qh])<;>clear q') | refine hN _ ?_ ?_ Wk.kk | with_reducible refine And.intro ?_ ?_ | with_reducible omega | exact ok_ints | exact cells_ints | exact no_mem | with_reducible exact plain_ints | (refine le_maxLen ?_; omega) | (refine za9 ⟨?_,?_⟩) | (simp only [go_sem,Qc,Qb,zb1,zb2,forall_eq]; done)))
     exact ret_sl 5 rfl rfl no_mem
 | cons q r =>
   simp only [List.map_cons,List.mem_cons,List.length_cons] at hok hl
   refine Ctr.of (n:=8) (rs:=[.tmp 2]) Try.func53 rfl rfl Try.ntmps53 rfl rfl (by kernel_rfl) Try.checked.mixed ?_
   simp (disch:=first | omega | decide +kernel) only [List.map_cons,List.length_cons,List.length_map,go_sem,Qa,Qb,Qc,Qd,Qe,↓reduceIte,reduceCtorEq,Qf,Qg,Qh]
   (repeat' (first | ((first | (refine gsel_split (fun q' => ?_) (fun q' => ?_)<;>(have h':=q')<;>(try simp only [za1,za2,Ba,Bb,za3,ne_eq,za4,za5,za6,Ia,Ib,Ic,Ie,Da,Bc,Bh,Be,za7,za8] at h')) | (have q':=trivial; first | refine hE _ _ ret_ne ?_ | refine hE _ _ exit_ne ?_))<;>(try simp (disch:=first | omega | decide +kernel) only [q',List.map_cons,List.length_cons,List.length_map,go_sem,Qa,Qb,Qc,Qd,Qe,↓reduceIte,reduceCtorEq,Qf,Qg,Qh])<;>clear q') | refine hN _ ?_ ?_ Wk.kk | with_reducible refine And.intro ?_ ?_ | with_reducible omega | exact ok_ints | exact cells_ints | exact no_mem | with_reducible exact plain_ints | (refine le_maxLen ?_; omega) | (refine za9 ⟨?_,?_⟩) | (simp only [go_sem,Qc,Qb,zb1,zb2,forall_eq]; done)))
   all_goals (first | exact hok _ (.inl rfl) | exact (fun y hy => hok y (.inr hy)) | exact le_maxLen (by omega) | omega | exact ret_sl 5 rfl rfl (plainE (es:=q :: r)))
set_option maxHeartbeats 4000000 in
theorem cloneG_ok (g : Chg) (he : g.ed.length<=1048576) (hc : g.ch.length<=1048576) : Ctr Try.prog 36 [D.chg g] false (.st [.d (.int .i64 g.n),.sl 0,.sl 1]) [(0,.arr 55 2 (g.ed.map D.ed)),(1,.arr 3 1 (g.ch.map (.int .i64)))]:=by
 have c1:=cloneE_ok g.ed he
 have c2:=clone_ok g.ch (by omega)
 simp only [D.ints] at c2
 refine Ctr.ofK (n:=12) (rs:=[.cell 2 27]) Try.func36 rfl rfl Try.ntmps36 rfl rfl (by kernel_rfl) Try.checked.mixed ?_
 refine Ok.seq (Ok.go ?_)
 simp (disch:=first | omega | decide +kernel) only [D.chg,D.ints,go_sem,Qa,Qb,Qc,Qd,Qe,↓reduceIte,reduceCtorEq,Qf,Qg,Qh]
 (repeat' (first | ((first | (refine gsel_split (fun q' => ?_) (fun q' => ?_)<;>(have h':=q')<;>(try simp only [za1,za2,Ba,Bb,za3,ne_eq,za4,za5,za6,Ia,Ib,Ic,Ie,Da,Bc,Bh,Be,za7,za8] at h')<;>try (exfalso; omega)) | (have q':=trivial; first | refine hE _ _ ret_ne ?_ | refine hE _ _ exit_ne ?_))<;>(try simp (disch:=first | omega | decide +kernel) only [q',go_sem,Qa,Qb,Qc,Qd,Qe,↓reduceIte,reduceCtorEq,Qf,Qg,Qh])<;>clear q') | with_reducible refine And.intro ?_ ?_ | with_reducible omega | (refine le_maxLen ?_; omega)))
 refine Ok.seq (Ok.go ?_)
 simp (disch:=first | omega | decide +kernel) only [D.chg,D.ints,go_sem,Qa,Qb,Qc,Qd,Qe,↓reduceIte,reduceCtorEq,Qf,Qg,Qh]
 (repeat' (first | ((first | (refine gsel_split (fun q' => ?_) (fun q' => ?_)<;>(have h':=q')<;>(try simp only [za1,za2,Ba,Bb,za3,ne_eq,za4,za5,za6,Ia,Ib,Ic,Ie,Da,Bc,Bh,Be,za7,za8] at h')<;>try (exfalso; omega)) | (have q':=trivial; first | refine callX_new (c1) rfl (by decide) ?_ | refine callY_new (c1) rfl ?_ | refine callX_new (c2) rfl (by decide) ?_ | refine callY_new (c2) rfl ?_ | refine hE _ _ ret_ne ?_ | refine hE _ _ exit_ne ?_))<;>(try simp (disch:=first | omega | decide +kernel) only [q',go_sem,Qa,Qb,Qc,Qd,Qe,↓reduceIte,reduceCtorEq,Qf,Qg,Qh])<;>clear q') | with_reducible refine And.intro ?_ ?_ | with_reducible omega | (refine le_maxLen ?_; omega)))
 refine Ok.go ?_
 simp (disch:=first | omega | decide +kernel) only [go_sem,Qa,Qb,Qc,Qd,Qe,↓reduceIte,reduceCtorEq,Qf,Qg,Qh]
 exact ret_cst2 (i1:=800000) (i2:=1100000) rfl rfl rfl (by simp only [go_sem,List.length_cons,List.length_nil]) rfl (by simp only [go_sem]) rfl rfl (by decide) rfl ⟨rfl,trivial,trivial,trivial⟩ plainE plain_ints rfl rfl
def flS (ch : List Int) (e : Int × Int) : Nat->List Int
 | 0 => ch
 | 1 => ch.set e.1.toNat (1 - ch.getD e.1.toNat 0)
 | _ => flipC ch e
theorem flS_len (ch : List Int) (e : Int × Int) : ∀ i,(flS ch e i).length=ch.length
 | 0 => rfl
 | 1 => List.length_set
 | _ + 2 => flipC_len ch e
set_option maxHeartbeats 4000000 in
theorem flippedO_ok (g : Chg) (hg : GoodP g) (k : Nat) (hk : k < g.ed.length) : Ctr Try.prog 21 [D.chg g,.int .i64 (k : Nat)] false (.st [.d (.int .i64 g.n),.sl 0,.sl 1]) [(0,.arr 55 2 (g.ed.map D.ed)),(1,.arr 3 1 ((flipC g.ch (g.ed.getD k (0,0))).map (.int .i64)))]:=by
 have hn:=hg.n1
 have hm:=hg.m
 have hcl:=hg.c
 have c1:=cloneG_ok g (by omega) (by omega)
 have hek:=el_eds (xs:=g.ed) hk
 have he:=hg.e _ (getD_mem (z:=((0 : Int),(0 : Int))) hk)
 have h1:=hg.q (g.ed.getD k (0,0)).1.toNat (by omega)
 have h2:=hg.q (g.ed.getD k (0,0)).2.toNat (by omega)
 generalize g.ed.getD k (0,0)=e at *
 simp only [D.chg,D.ints] at c1
 refine Ctr.ofK (n:=30) (rs:=[.cell 4 27]) Try.func21 rfl rfl Try.ntmps21 rfl rfl (by kernel_rfl) Try.checked.mixed ?_
 refine Ok.seq (Ok.go ?_)
 simp (disch:=first | omega | decide +kernel) only [D.chg,D.ints,go_sem,Qa,Qb,Qc,Qd,Qe,↓reduceIte,reduceCtorEq,Qf,Qg,Qh]
 (repeat' (first | ((first | (refine gsel_split (fun q' => ?_) (fun q' => ?_)<;>(have h':=q')<;>(try simp only [za1,za2,Ba,Bb,za3,ne_eq,za4,za5,za6,Ia,Ib,Ic,Ie,Da,Bc,Bh,Be,za7,za8] at h')<;>try (exfalso; omega)) | (have q':=trivial; first | refine hE _ _ ret_ne ?_ | refine hE _ _ exit_ne ?_))<;>(try simp (disch:=first | omega | decide +kernel) only [q',go_sem,Qa,Qb,Qc,Qd,Qe,↓reduceIte,reduceCtorEq,Qf,Qg,Qh])<;>clear q') | with_reducible refine And.intro ?_ ?_ | with_reducible omega | (refine le_maxLen ?_; omega)))
 refine Ok.seq (Ok.go ?_)
 simp (disch:=first | omega | decide +kernel) only [D.chg,D.ints,go_sem,Qa,Qb,Qc,Qd,Qe,↓reduceIte,reduceCtorEq,Qf,Qg,Qh]
 (repeat' (first | ((first | (refine gsel_split (fun q' => ?_) (fun q' => ?_)<;>(have h':=q')<;>(try simp only [za1,za2,Ba,Bb,za3,ne_eq,za4,za5,za6,Ia,Ib,Ic,Ie,Da,Bc,Bh,Be,za7,za8] at h')<;>try (exfalso; omega)) | (have q':=trivial; first | refine callX_new (c1) rfl (by decide) ?_ | refine callY_new (c1) rfl ?_ | refine hE _ _ ret_ne ?_ | refine hE _ _ exit_ne ?_))<;>(try simp (disch:=first | omega | decide +kernel) only [q',go_sem,Qa,Qb,Qc,Qd,Qe,↓reduceIte,reduceCtorEq,Qf,Qg,Qh])<;>clear q') | with_reducible refine And.intro ?_ ?_ | with_reducible omega | (refine le_maxLen ?_; omega)))
 refine Ok.seq (Ok.seq (Ok.go ?_))
 simp (disch:=first | omega | decide +kernel) only [hek,go_sem,Qa,Qb,Qc,Qd,Qe,↓reduceIte,reduceCtorEq,Qf,Qg,Qh]
 (repeat' (first | ((first | (refine gsel_split (fun q' => ?_) (fun q' => ?_)<;>(have h':=q')<;>(try simp only [za1,za2,Ba,Bb,za3,ne_eq,za4,za5,za6,Ia,Ib,Ic,Ie,Da,Bc,Bh,Be,za7,za8] at h')<;>try (exfalso; omega)) | (have q':=trivial; first | refine hE _ _ ret_ne ?_ | refine hE _ _ exit_ne ?_))<;>(try simp (disch:=first | omega | decide +kernel) only [q',hek,go_sem,Qa,Qb,Qc,Qd,Qe,↓reduceIte,reduceCtorEq,Qf,Qg,Qh])<;>clear q') | with_reducible refine And.intro ?_ ?_ | with_reducible omega | (refine le_maxLen ?_; omega)))
 have hz : flS g.ch e 0=g.ch:=rfl
 refine Ok.block ?_
 refine Ok.loopNO [29,28,27,26,25,24,23,22,21,20,19,18,17,16,15,13,12,11,10,9,8,7,6,3] (fun i _ => [(15,.d (.int .i64 (i : Nat)))]) (fun i (_ : Unit) => [(1000001,.arr 3 1 ((flS g.ch e i).map (.int .i64)))]) 2 (fun _ _ => True) () trivial (by refine Wk.auto ?_ ?_<;>simp [extraK,lk,killL,St.kill,wipeO,wipeS,AV.has,AV.hasL,AO.wipe,List.map_set,updSt,insL,dropS,ins,hz]) ?_
 rintro R i _ hN hE1 hi _
 have hfl:=flS_len g.ch e i
 refine Ok.go ?_
 by_cases hlt : i < 2
 . rcases (by omega : i=0∨i=1) with rfl | rfl
   . have h1':=el_ints (xs:=g.ch) (i:=e.1.toNat) (by omega)
     have hs : flS g.ch e (0 + 1)=g.ch.set e.1.toNat (1 - g.ch.getD e.1.toNat 0):=rfl
     have ha : el [D.int .i64 e.1,D.int .i64 e.2] 0=.int .i64 e.1:=rfl
     rw [hz] at hfl ⊢
     generalize g.ch.getD e.1.toNat 0=q at *
     simp (disch:=first | omega | decide +kernel) only [h1',ha,go_sem,Qa,Qb,Qc,Qd,Qe,↓reduceIte,reduceCtorEq,Qf,Qg,Qh]
     (repeat' (first | ((first | (refine gsel_split (fun q' => ?_) (fun q' => ?_)<;>(have h':=q')<;>(try simp only [za1,za2,Ba,Bb,za3,ne_eq,za4,za5,za6,Ia,Ib,Ic,Ie,Da,Bc,Bh,Be,za7,za8] at h')<;>try (exfalso; omega)) | (have q':=trivial; first | refine hE _ _ ret_ne ?_ | refine hE _ _ exit_ne ?_))<;>(try simp (disch:=first | omega | decide +kernel) only [q',h1',ha,go_sem,Qa,Qb,Qc,Qd,Qe,↓reduceIte,reduceCtorEq,Qf,Qg,Qh])<;>clear q') | with_reducible refine And.intro ?_ ?_ | with_reducible omega | (refine le_maxLen ?_; omega)))
     rw [show ((0 : Nat) : Int) + 1=((0 + 1 : Nat) : Int) from rfl]
     refine hN () _ hlt trivial ?_
     rw [hs]
     exact (by refine Wk.auto ?_ ?_<;>simp [extraK,lk,killL,St.kill,wipeO,wipeS,AV.has,AV.hasL,AO.wipe,List.map_set,updSt,insL,dropS,ins,List.map_set])
   . have hg2 : (flS g.ch e 1).getD e.2.toNat 0=g.ch.getD e.2.toNat 0:=by
      show (g.ch.set _ _).getD _ _=_
      rw [getDs,if_neg (by omega)]
     have h1':=el_ints (xs:=flS g.ch e 1) (i:=e.2.toNat) (by omega)
     rw [hg2] at h1'
     have hs : flS g.ch e (1 + 1)=(flS g.ch e 1).set e.2.toNat (1 - g.ch.getD e.2.toNat 0):=rfl
     have ha : el [D.int .i64 e.1,D.int .i64 e.2] 1=.int .i64 e.2:=rfl
     have t1 : Int.toNat ((1 : Nat) : Int)=1:=rfl
     generalize g.ch.getD e.2.toNat 0=q at *
     generalize flS g.ch e 1=ch1 at *
     simp (disch:=first | omega | decide +kernel) only [h1',ha,t1,go_sem,Qa,Qb,Qc,Qd,Qe,↓reduceIte,reduceCtorEq,Qf,Qg,Qh]
     (repeat' (first | ((first | (refine gsel_split (fun q' => ?_) (fun q' => ?_)<;>(have h':=q')<;>(try simp only [za1,za2,Ba,Bb,za3,ne_eq,za4,za5,za6,Ia,Ib,Ic,Ie,Da,Bc,Bh,Be,za7,za8] at h')<;>try (exfalso; omega)) | (have q':=trivial; first | refine hE _ _ ret_ne ?_ | refine hE _ _ exit_ne ?_))<;>(try simp (disch:=first | omega | decide +kernel) only [q',h1',ha,t1,go_sem,Qa,Qb,Qc,Qd,Qe,↓reduceIte,reduceCtorEq,Qf,Qg,Qh])<;>clear q') | with_reducible refine And.intro ?_ ?_ | with_reducible omega | (refine le_maxLen ?_; omega)))
     rw [show ((1 : Nat) : Int) + 1=((1 + 1 : Nat) : Int) from rfl]
     refine hN () _ hlt trivial ?_
     rw [hs]
     exact (by refine Wk.auto ?_ ?_<;>simp [extraK,lk,killL,St.kill,wipeO,wipeS,AV.has,AV.hasL,AO.wipe,List.map_set,updSt,insL,dropS,ins,List.map_set])
 . obtain rfl : i=2:=by omega
   have hf : flS g.ch e 2=flipC g.ch e:=rfl
   rw [hf]
   simp (disch:=first | omega | decide +kernel) only [go_sem,Qa,Qb,Qc,Qd,Qe,↓reduceIte,reduceCtorEq,Qf,Qg,Qh]
   (repeat' (first | ((first | (refine gsel_split (fun q' => ?_) (fun q' => ?_)<;>(have h':=q')<;>(try simp only [za1,za2,Ba,Bb,za3,ne_eq,za4,za5,za6,Ia,Ib,Ic,Ie,Da,Bc,Bh,Be,za7,za8] at h')<;>try (exfalso; omega)) | (have q':=trivial; first | refine hE _ _ ret_ne ?_ | refine hE _ _ exit_ne ?_))<;>(try simp (disch:=first | omega | decide +kernel) only [q',go_sem,Qa,Qb,Qc,Qd,Qe,↓reduceIte,reduceCtorEq,Qf,Qg,Qh])<;>clear q') | with_reducible refine And.intro ?_ ?_ | with_reducible omega | (refine le_maxLen ?_; omega)))
   refine hE1 _ _ exit_ne ?_
   simp (disch:=first | omega | decide +kernel) only [go_sem,Qa,Qb,Qc,Qd,Qe,↓reduceIte,reduceCtorEq,Qf,Qg,Qh]
   refine Ok.go ?_
   simp (disch:=first | omega | decide +kernel) only [go_sem,Qa,Qb,Qc,Qd,Qe,↓reduceIte,reduceCtorEq,Qf,Qg,Qh]
   (repeat' (first | ((first | (refine gsel_split (fun q' => ?_) (fun q' => ?_)<;>(have h':=q')<;>(try simp only [za1,za2,Ba,Bb,za3,ne_eq,za4,za5,za6,Ia,Ib,Ic,Ie,Da,Bc,Bh,Be,za7,za8] at h')<;>try (exfalso; omega)) | (have q':=trivial; first | refine hE _ _ ret_ne ?_ | refine hE _ _ exit_ne ?_))<;>(try simp (disch:=first | omega | decide +kernel) only [q',go_sem,Qa,Qb,Qc,Qd,Qe,↓reduceIte,reduceCtorEq,Qf,Qg,Qh])<;>clear q') | with_reducible refine And.intro ?_ ?_ | with_reducible omega | (refine le_maxLen ?_; omega)))
   exact ret_cst2 (i1:=1000000) (i2:=1000001) rfl rfl rfl (by simp only [go_sem,List.length_cons,List.length_nil]) rfl (by simp only [go_sem]) rfl rfl (by decide) rfl ⟨rfl,trivial,trivial,trivial⟩ plainE plain_ints rfl rfl
end Abs.Y

namespace Abs.Y
open Go Go.Proofs Abs
open Nat renaming reduceEqDiff -> Qa, reduceLT -> Qb, reduceAdd -> Qc, reduceMul -> Qd, reduceSub -> Qe, reduceLeDiff -> Qf, reduceSubDiff -> Qg, reduceBEq -> Qh
open Bool renaming not_eq_true' -> Ba, not_eq_false' -> Bb, and_eq_true -> Bc, or_eq_true -> Bh, or_eq_false_iff -> Be
open Int renaming ofNat_lt -> Ia, ofNat_le -> Ib, not_lt -> Ic, not_le -> Ie
open Decidable renaming not_not -> Da
set_option maxRecDepth 100000

def inE (g : Chg) (k : Int) : Bool:=decide (0<=k) && decide (k<=(g.ed.length : Int) - 1)
def edB (g : Chg) (k : Int) : Bool:=goodC g && inE g k
def zC : Chg:=⟨0,[],[]⟩
theorem isEdge_ok (g : Chg) (k : Int) (hl : g.ed.length<=4294967296) : Ctr Try.prog 20 [D.chg g,.int .i64 k] false (.d (.bool (inE g k))) []:=by
 have c1:=within_ok k 0 ((g.ed.length : Int) - 1)
 refine Ctr.of (n:=11) (rs:=[.tmp 4]) Try.func20 rfl rfl Try.ntmps20 rfl rfl (by kernel_rfl) Try.checked.mixed ?_
 simp (disch:=first | omega | decide +kernel) only [D.chg,go_sem,Qa,Qb,Qc,Qd,Qe,↓reduceIte,reduceCtorEq,Qf,Qg,Qh]
 (repeat' (first | ((first | (refine gsel_split (fun q' => ?_) (fun q' => ?_)<;>(have h':=q')<;>(try simp only [za1,za2,Ba,Bb,za3,ne_eq,za4,za5,za6,Ia,Ib,Ic,Ie,Da,Bc,Bh,Be,za7,za8] at h')<;>try (exfalso; omega)) | (have q':=trivial; first | refine callX_new (c1) rfl (by decide) ?_ | refine callY_new (c1) rfl ?_ | refine hE _ _ ret_ne ?_ | refine hE _ _ exit_ne ?_))<;>(try simp (disch:=first | omega | decide +kernel) only [q',D.chg,go_sem,Qa,Qb,Qc,Qd,Qe,↓reduceIte,reduceCtorEq,Qf,Qg,Qh])<;>clear q') | with_reducible refine And.intro ?_ ?_ | with_reducible omega | (refine le_maxLen ?_; omega)))
 all_goals (first | rfl)
theorem inE_lt {g : Chg} {k : Int} (h : inE g k=true) : 0<=k∧k.toNat < g.ed.length:=by
 simp only [inE,Bc,decide_eq_true_eq] at h; omega
def mvG (g : Chg) (k : Int) : Chg:=if edB g k then flipG g k.toNat else zC
set_option maxHeartbeats 4000000 in
theorem moveI_ok (g : Chg) (k : Int) (hl : g.ed.length<=4294967296) (hc : g.ch.length<=4294967296) : Ctr Try.prog 6 [D.chg g,.int .i64 k] true (.tup [.d (D.chg (mvG g k)),.d (.bool (edB g k))]) []:=by
 have c1:=isCharged_ok g hl hc
 have c2:=isEdge_ok g k hl
 unfold mvG edB
 cases hb : goodC g with
 | false =>
   rw [hb] at c1
   refine Ctr.of (n:=19) (rs:=[.cell 4 27,.tmp 5]) Try.func6 rfl rfl Try.ntmps6 rfl rfl (by kernel_rfl) Try.checked.mixed ?_
   simp (disch:=first | omega | decide +kernel) only [D.chg,D.ints,go_sem,Qa,Qb,Qc,Qd,Qe,↓reduceIte,reduceCtorEq,Qf,Qg,Qh]
   simp only [D.chg,D.ints] at c1
   (repeat' (first | ((first | (refine gsel_split (fun q' => ?_) (fun q' => ?_)<;>(have h':=q')<;>(try simp only [za1,za2,Ba,Bb,za3,ne_eq,za4,za5,za6,Ia,Ib,Ic,Ie,Da,Bc,Bh,Be,za7,za8] at h')) | (have q':=trivial; first | refine callX_new (c1) rfl (by decide) ?_ | refine callY_new (c1) rfl ?_ | refine hE _ _ ret_ne ?_ | refine hE _ _ exit_ne ?_))<;>(try simp (disch:=first | omega | decide +kernel) only [q',D.chg,D.ints,go_sem,Qa,Qb,Qc,Qd,Qe,↓reduceIte,reduceCtorEq,Qf,Qg,Qh])<;>clear q') | refine hN _ ?_ ?_ Wk.kk | with_reducible refine And.intro ?_ ?_ | with_reducible omega | exact ok_ints | exact cells_ints | exact no_mem | with_reducible exact plain_ints | (refine le_maxLen ?_; omega) | (refine za9 ⟨?_,?_⟩) | (simp only [go_sem,Qc,Qb,zb1,zb2,forall_eq]; done)))
   exact ret_scbd [] rfl rfl rfl (by simp only [go_sem]) (by simp only [go_sem,List.length_cons,List.length_nil]) rfl (by simp only [go_sem])
 | true =>
   rw [hb] at c1
   cases hi : inE g k with
   | false =>
     rw [hi] at c2
     refine Ctr.of (n:=19) (rs:=[.cell 4 27,.tmp 5]) Try.func6 rfl rfl Try.ntmps6 rfl rfl (by kernel_rfl) Try.checked.mixed ?_
     simp (disch:=first | omega | decide +kernel) only [D.chg,D.ints,go_sem,Qa,Qb,Qc,Qd,Qe,↓reduceIte,reduceCtorEq,Qf,Qg,Qh]
     simp only [D.chg,D.ints] at c1 c2
     (repeat' (first | ((first | (refine gsel_split (fun q' => ?_) (fun q' => ?_)<;>(have h':=q')<;>(try simp only [za1,za2,Ba,Bb,za3,ne_eq,za4,za5,za6,Ia,Ib,Ic,Ie,Da,Bc,Bh,Be,za7,za8] at h')) | (have q':=trivial; first | refine callX_new (c1) rfl (by decide) ?_ | refine callY_new (c1) rfl ?_ | refine callX_new (c2) rfl (by decide) ?_ | refine callY_new (c2) rfl ?_ | refine hE _ _ ret_ne ?_ | refine hE _ _ exit_ne ?_))<;>(try simp (disch:=first | omega | decide +kernel) only [q',D.chg,D.ints,go_sem,Qa,Qb,Qc,Qd,Qe,↓reduceIte,reduceCtorEq,Qf,Qg,Qh])<;>clear q') | refine hN _ ?_ ?_ Wk.kk | with_reducible refine And.intro ?_ ?_ | with_reducible omega | exact ok_ints | exact cells_ints | exact no_mem | with_reducible exact plain_ints | (refine le_maxLen ?_; omega) | (refine za9 ⟨?_,?_⟩) | (simp only [go_sem,Qc,Qb,zb1,zb2,forall_eq]; done)))
     exact ret_scbd [] rfl rfl rfl (by simp only [go_sem]) (by simp only [go_sem,List.length_cons,List.length_nil]) rfl (by simp only [go_sem])
   | true =>
     rw [hi] at c2
     have hk:=inE_lt hi
     have c3:=flippedO_ok g (good_iff.1 hb) k.toNat hk.2
     rw [show ((k.toNat : Nat) : Int)=k by omega] at c3
     rw [show (if (true && true)=true then flipG g k.toNat else zC)=⟨g.n,g.ed,flipC g.ch (g.ed.getD k.toNat (0,0))⟩ from rfl]
     generalize flipC g.ch (g.ed.getD k.toNat (0,0))=m at *
     refine Ctr.of (n:=19) (rs:=[.cell 4 27,.tmp 5]) Try.func6 rfl rfl Try.ntmps6 rfl rfl (by kernel_rfl) Try.checked.mixed ?_
     simp (disch:=first | omega | decide +kernel) only [D.chg,D.ints,go_sem,Qa,Qb,Qc,Qd,Qe,↓reduceIte,reduceCtorEq,Qf,Qg,Qh]
     simp only [D.chg,D.ints] at c1 c2 c3
     (repeat' (first | ((first | (refine gsel_split (fun q' => ?_) (fun q' => ?_)<;>(have h':=q')<;>(try simp only [za1,za2,Ba,Bb,za3,ne_eq,za4,za5,za6,Ia,Ib,Ic,Ie,Da,Bc,Bh,Be,za7,za8] at h')) | (have q':=trivial; first | refine callX_new (c1) rfl (by decide) ?_ | refine callY_new (c1) rfl ?_ | refine callX_new (c2) rfl (by decide) ?_ | refine callY_new (c2) rfl ?_ | refine callX_new (c3) rfl (by decide) ?_ | refine callY_new (c3) rfl ?_ | refine hE _ _ ret_ne ?_ | refine hE _ _ exit_ne ?_))<;>(try simp (disch:=first | omega | decide +kernel) only [q',D.chg,D.ints,go_sem,Qa,Qb,Qc,Qd,Qe,↓reduceIte,reduceCtorEq,Qf,Qg,Qh])<;>clear q') | refine hN _ ?_ ?_ Wk.kk | with_reducible refine And.intro ?_ ?_ | with_reducible omega | exact ok_ints | exact cells_ints | exact no_mem | with_reducible exact plain_ints | (refine le_maxLen ?_; omega) | (refine za9 ⟨?_,?_⟩) | (simp only [go_sem,Qc,Qb,zb1,zb2,forall_eq]; done)))
     exact ret_scbd [1900000,1900001] rfl rfl rfl (by simp only [go_sem]) (by simp only [go_sem,List.length_cons,List.length_nil]) rfl (by simp only [go_sem])
theorem l27Edge_ok (g : Chg) (k : Int) (hl : g.ed.length<=4294967296) (hc : g.ch.length<=4294967296) : Ctr Try.prog 22 [D.chg g,.int .i64 k] false (.d (.bool (edB g k))) []:=by
 have c1:=l27Good_ok g hl hc
 have c2:=l1In_ok k 0 ((g.ed.length : Int) - 1)
 unfold edB inE
 simp only [D.chg,D.ints] at c1
 cases hb : goodC g with
 | false =>
   rw [hb] at c1
   refine Ctr.of (n:=15) (rs:=[.tmp 4]) Try.func22 rfl rfl Try.ntmps22 rfl rfl (by kernel_rfl) Try.checked.mixed ?_
   simp (disch:=first | omega | decide +kernel) only [D.chg,D.ints,go_sem,Qa,Qb,Qc,Qd,Qe,↓reduceIte,reduceCtorEq,Qf,Qg,Qh]
   (repeat' (first | ((first | (refine gsel_split (fun q' => ?_) (fun q' => ?_)<;>(have h':=q')<;>(try simp only [za1,za2,Ba,Bb,za3,ne_eq,za4,za5,za6,Ia,Ib,Ic,Ie,Da,Bc,Bh,Be,za7,za8] at h')<;>try (exfalso; omega)) | (have q':=trivial; first | refine callX_new (c1) rfl (by decide) ?_ | refine callY_new (c1) rfl ?_ | refine hE _ _ ret_ne ?_ | refine hE _ _ exit_ne ?_))<;>(try simp (disch:=first | omega | decide +kernel) only [q',D.chg,D.ints,go_sem,Qa,Qb,Qc,Qd,Qe,↓reduceIte,reduceCtorEq,Qf,Qg,Qh])<;>clear q') | with_reducible refine And.intro ?_ ?_ | with_reducible omega | (refine le_maxLen ?_; omega)))
   all_goals (first | rfl)
 | true =>
   rw [hb] at c1
   refine Ctr.of (n:=15) (rs:=[.tmp 4]) Try.func22 rfl rfl Try.ntmps22 rfl rfl (by kernel_rfl) Try.checked.mixed ?_
   simp (disch:=first | omega | decide +kernel) only [D.chg,D.ints,go_sem,Qa,Qb,Qc,Qd,Qe,↓reduceIte,reduceCtorEq,Qf,Qg,Qh]
   (repeat' (first | ((first | (refine gsel_split (fun q' => ?_) (fun q' => ?_)<;>(have h':=q')<;>(try simp only [za1,za2,Ba,Bb,za3,ne_eq,za4,za5,za6,Ia,Ib,Ic,Ie,Da,Bc,Bh,Be,za7,za8] at h')<;>try (exfalso; omega)) | (have q':=trivial; first | refine callX_new (c1) rfl (by decide) ?_ | refine callY_new (c1) rfl ?_ | refine callX_new (c2) rfl (by decide) ?_ | refine callY_new (c2) rfl ?_ | refine hE _ _ ret_ne ?_ | refine hE _ _ exit_ne ?_))<;>(try simp (disch:=first | omega | decide +kernel) only [q',D.chg,D.ints,go_sem,Qa,Qb,Qc,Qd,Qe,↓reduceIte,reduceCtorEq,Qf,Qg,Qh])<;>clear q') | with_reducible refine And.intro ?_ ?_ | with_reducible omega | (refine le_maxLen ?_; omega)))
   all_goals (first | rfl)
end Abs.Y

namespace Abs.Y
open Go Go.Proofs Abs
open Nat renaming reduceEqDiff -> Qa, reduceLT -> Qb, reduceAdd -> Qc, reduceMul -> Qd, reduceSub -> Qe, reduceLeDiff -> Qf, reduceSubDiff -> Qg, reduceBEq -> Qh
open Bool renaming not_eq_true' -> Ba, not_eq_false' -> Bb, and_eq_true -> Bc, or_eq_true -> Bh, or_eq_false_iff -> Be
open Int renaming ofNat_lt -> Ia, ofNat_le -> Ib, not_lt -> Ic, not_le -> Ie
open Decidable renaming not_not -> Da
set_option maxRecDepth 100000

set_option maxHeartbeats 4000000 in
theorem l27Own_ok (g : Chg) (he : 0 < g.ed.length∧g.ed.length<=1048576) (hc : 0 < g.ch.length∧g.ch.length<=1048576) : Ctr Try.prog 39 [D.chg g] false (.st [.d (.int .i64 g.n),.sl 0,.sl 1]) [(0,.arr 55 2 (g.ed.map D.ed)),(1,.arr 3 1 (g.ch.map (.int .i64)))]:=by
 have hok : ∀ y ∈ g.ed.map D.ed,D.ok 2 y:=fun y hy => okE hy
 have hpe : ∀ y ∈ g.ed.map D.ed,y.plain=true:=plainE
 have hpc : ∀ y ∈ g.ch.map (D.int .i64),y.plain=true:=plain_ints
 have hokc : ∀ y ∈ g.ch.map (D.int .i64),D.ok 1 y:=fun y hy => by obtain ⟨x,_,rfl⟩:=List.mem_map.1 hy; exact ⟨rfl,fun x hx => by cases hx with | head => rfl | tail _ h => cases h⟩
 have hle : 0 < (g.ed.map D.ed).length∧(g.ed.map D.ed).length<=1048576:=by rw [List.length_map]; exact he
 have hlc : 0 < (g.ch.map (D.int .i64)).length∧(g.ch.map (D.int .i64)).length<=1048576:=by rw [List.length_map]; exact hc
 refine Ctr.ofK (n:=14) (rs:=[.cell 2 27]) Try.func39 rfl rfl Try.ntmps39 rfl rfl (by kernel_rfl) Try.checked.mixed ?_
 refine Ok.seq (Ok.go ?_)
 simp (disch:=first | omega | decide +kernel) only [D.chg,D.ints,go_sem,Qa,Qb,Qc,Qd,Qe,↓reduceIte,reduceCtorEq,Qf,Qg,Qh]
 (repeat' (first | ((first | (refine gsel_split (fun q' => ?_) (fun q' => ?_)<;>(have h':=q')<;>(try simp only [za1,za2,Ba,Bb,za3,ne_eq,za4,za5,za6,Ia,Ib,Ic,Ie,Da,Bc,Bh,Be,za7,za8] at h')<;>try (exfalso; omega)) | (have q':=trivial; first | refine hE _ _ ret_ne ?_ | refine hE _ _ exit_ne ?_))<;>(try simp (disch:=first | omega | decide +kernel) only [q',go_sem,Qa,Qb,Qc,Qd,Qe,↓reduceIte,reduceCtorEq,Qf,Qg,Qh])<;>clear q') | refine hN _ ?_ ?_ Wk.kk | with_reducible refine And.intro ?_ ?_ | with_reducible omega | exact ok_ints | exact cells_ints | exact no_mem | with_reducible exact plain_ints | (refine le_maxLen ?_; omega) | (refine za9 ⟨?_,?_⟩) | (simp only [go_sem,Qc,Qb,zb1,zb2,forall_eq]; done)))
 generalize g.ed.map D.ed=E at *
 generalize g.ch.map (D.int .i64)=C at *
 cases E with
 | nil => exact absurd hle.1 (by decide)
 | cons e q =>
   cases C with
   | nil => exact absurd hlc.1 (by decide)
   | cons c r =>
     simp only [List.length_cons] at hle hlc
     refine Ok.seq (Ok.go ?_)
     simp (disch:=first | omega | decide +kernel) only [go_sem,Qa,Qb,Qc,Qd,Qe,↓reduceIte,reduceCtorEq,Qf,Qg,Qh]
     (repeat' (first | ((first | (refine gsel_split (fun q' => ?_) (fun q' => ?_)<;>(have h':=q')<;>(try simp only [za1,za2,Ba,Bb,za3,ne_eq,za4,za5,za6,Ia,Ib,Ic,Ie,Da,Bc,Bh,Be,za7,za8] at h')<;>try (exfalso; omega)) | (have q':=trivial; first | refine hE _ _ ret_ne ?_ | refine hE _ _ exit_ne ?_))<;>(try simp (disch:=first | omega | decide +kernel) only [q',go_sem,Qa,Qb,Qc,Qd,Qe,↓reduceIte,reduceCtorEq,Qf,Qg,Qh])<;>clear q') | refine hN _ ?_ ?_ Wk.kk | with_reducible refine And.intro ?_ ?_ | with_reducible omega | exact ok_ints | exact cells_ints | exact no_mem | with_reducible exact plain_ints | (refine le_maxLen ?_; omega) | (refine za9 ⟨?_,?_⟩) | (simp only [go_sem,Qc,Qb,zb1,zb2,forall_eq]; done)))
     all_goals (first | exact hok _ (.head _) | exact (fun y hy => hok y (.tail _ hy)) | exact hokc _ (.head _) | exact (fun y hy => hokc y (.tail _ hy)) | exact le_maxLen (by omega) | omega | skip)
     refine Ok.go ?_
     simp (disch:=first | omega | decide +kernel) only [go_sem,Qa,Qb,Qc,Qd,Qe,↓reduceIte,reduceCtorEq,Qf,Qg,Qh]
     exact ret_cst2 (i1:=8) (i2:=12) rfl rfl rfl (by simp only [go_sem,List.length_cons,List.length_nil]) rfl (by simp only [go_sem]) rfl rfl (by decide) rfl ⟨rfl,trivial,trivial,trivial⟩ hpe hpc rfl rfl
set_option maxHeartbeats 4000000 in
theorem l27Flip_ok (g : Chg) (hg : GoodP g) (k : Nat) (hk : k < g.ed.length) : Ctr Try.prog 23 [D.chg g,.int .i64 (k : Nat)] true (.d (D.chg (flipG g k))) []:=by
 have hn:=hg.n1
 have hm:=hg.m
 have hcl:=hg.c
 have c1:=l27Own_ok g (by omega) (by omega)
 have hek:=el_eds (xs:=g.ed) hk
 have he:=hg.e _ (getD_mem (z:=((0 : Int),(0 : Int))) hk)
 have hfg : flipG g k=⟨g.n,g.ed,flipC g.ch (g.ed.getD k (0,0))⟩:=rfl
 have h1:=hg.q (g.ed.getD k (0,0)).1.toNat (by omega)
 have h2:=hg.q (g.ed.getD k (0,0)).2.toNat (by omega)
 rw [hfg]
 generalize g.ed.getD k (0,0)=e at *
 simp only [D.chg,D.ints] at c1
 refine Ctr.ofK (n:=36) (rs:=[.cell 4 27]) Try.func23 rfl rfl Try.ntmps23 rfl rfl (by kernel_rfl) Try.checked.mixed ?_
 refine Ok.seq (Ok.go ?_)
 simp (disch:=first | omega | decide +kernel) only [D.chg,D.ints,go_sem,Qa,Qb,Qc,Qd,Qe,↓reduceIte,reduceCtorEq,Qf,Qg,Qh]
 (repeat' (first | ((first | (refine gsel_split (fun q' => ?_) (fun q' => ?_)<;>(have h':=q')<;>(try simp only [za1,za2,Ba,Bb,za3,ne_eq,za4,za5,za6,Ia,Ib,Ic,Ie,Da,Bc,Bh,Be,za7,za8] at h')<;>try (exfalso; omega)) | (have q':=trivial; first | refine hE _ _ ret_ne ?_ | refine hE _ _ exit_ne ?_))<;>(try simp (disch:=first | omega | decide +kernel) only [q',go_sem,Qa,Qb,Qc,Qd,Qe,↓reduceIte,reduceCtorEq,Qf,Qg,Qh])<;>clear q') | refine hN _ ?_ ?_ Wk.kk | with_reducible refine And.intro ?_ ?_ | with_reducible omega | exact ok_ints | exact cells_ints | exact no_mem | with_reducible exact plain_ints | (refine le_maxLen ?_; omega) | (refine za9 ⟨?_,?_⟩) | (simp only [go_sem,Qc,Qb,zb1,zb2,forall_eq]; done)))
 refine Ok.seq (Ok.go ?_)
 simp (disch:=first | omega | decide +kernel) only [D.chg,D.ints,go_sem,Qa,Qb,Qc,Qd,Qe,↓reduceIte,reduceCtorEq,Qf,Qg,Qh]
 (repeat' (first | ((first | (refine gsel_split (fun q' => ?_) (fun q' => ?_)<;>(have h':=q')<;>(try simp only [za1,za2,Ba,Bb,za3,ne_eq,za4,za5,za6,Ia,Ib,Ic,Ie,Da,Bc,Bh,Be,za7,za8] at h')<;>try (exfalso; omega)) | (have q':=trivial; first | refine callX_new (c1) rfl (by decide) ?_ | refine callY_new (c1) rfl ?_ | refine hE _ _ ret_ne ?_ | refine hE _ _ exit_ne ?_))<;>(try simp (disch:=first | omega | decide +kernel) only [q',go_sem,Qa,Qb,Qc,Qd,Qe,↓reduceIte,reduceCtorEq,Qf,Qg,Qh])<;>clear q') | refine hN _ ?_ ?_ Wk.kk | with_reducible refine And.intro ?_ ?_ | with_reducible omega | exact ok_ints | exact cells_ints | exact no_mem | with_reducible exact plain_ints | (refine le_maxLen ?_; omega) | (refine za9 ⟨?_,?_⟩) | (simp only [go_sem,Qc,Qb,zb1,zb2,forall_eq]; done)))
 refine Ok.seq (Ok.seq (Ok.go ?_))
 simp (disch:=first | omega | decide +kernel) only [go_sem,Qa,Qb,Qc,Qd,Qe,↓reduceIte,reduceCtorEq,Qf,Qg,Qh]
 have hz : flS g.ch e 0=g.ch:=rfl
 refine Ok.block ?_
 refine Ok.loopNO [35,34,33,32,31,30,29,28,27,26,25,24,23,22,21,20,19,18,17,16,15,14,13,12,11,10,9,8,7,6,3] (fun i _ => [(6,.d (.int .i64 (i : Nat)))]) (fun i (_ : Unit) => [(900001,.arr 3 1 ((flS g.ch e i).map (.int .i64)))]) 2 (fun _ _ => True) () trivial (by refine Wk.auto ?_ ?_<;>simp [extraK,lk,killL,St.kill,wipeO,wipeS,AV.has,AV.hasL,AO.wipe,List.map_set,updSt,insL,dropS,ins,hz]) ?_
 rintro R i _ hN hE1 hi _
 have hfl:=flS_len g.ch e i
 refine Ok.go ?_
 by_cases hlt : i < 2
 . rcases (by omega : i=0∨i=1) with rfl | rfl
   . have h1':=el_ints (xs:=g.ch) (i:=e.1.toNat) (by omega)
     have hs : flS g.ch e (0 + 1)=g.ch.set e.1.toNat (1 - g.ch.getD e.1.toNat 0):=rfl
     have ha : el [D.int .i64 e.1,D.int .i64 e.2] 0=.int .i64 e.1:=rfl
     have t0 : Int.toNat ((0 : Nat) : Int)=0:=rfl
     have tk : Int.toNat ((k : Nat) : Int)=k:=rfl
     rw [hz] at hfl ⊢
     generalize g.ch.getD e.1.toNat 0=q at *
     simp (disch:=first | omega | decide +kernel) only [h1',ha,t0,tk,hek,go_sem,Qa,Qb,Qc,Qd,Qe,↓reduceIte,reduceCtorEq,Qf,Qg,Qh]
     (repeat' (first | ((first | (refine gsel_split (fun q' => ?_) (fun q' => ?_)<;>(have h':=q')<;>(try simp only [za1,za2,Ba,Bb,za3,ne_eq,za4,za5,za6,Ia,Ib,Ic,Ie,Da,Bc,Bh,Be,za7,za8] at h')<;>try (exfalso; omega)) | (have q':=trivial; first | refine hE _ _ ret_ne ?_ | refine hE _ _ exit_ne ?_))<;>(try simp (disch:=first | omega | decide +kernel) only [q',h1',ha,t0,tk,hek,go_sem,Qa,Qb,Qc,Qd,Qe,↓reduceIte,reduceCtorEq,Qf,Qg,Qh])<;>clear q') | refine hN _ ?_ ?_ Wk.kk | with_reducible refine And.intro ?_ ?_ | with_reducible omega | exact ok_ints | exact cells_ints | exact no_mem | with_reducible exact plain_ints | (refine le_maxLen ?_; omega) | (refine za9 ⟨?_,?_⟩) | (simp only [go_sem,Qc,Qb,zb1,zb2,forall_eq]; done)))
     rw [show ((0 : Nat) : Int) + 1=((0 + 1 : Nat) : Int) from rfl]
     refine hN () _ hlt trivial ?_
     rw [hs]
     exact (by refine Wk.auto ?_ ?_<;>simp [extraK,lk,killL,St.kill,wipeO,wipeS,AV.has,AV.hasL,AO.wipe,List.map_set,updSt,insL,dropS,ins,List.map_set])
   . have h1':=el_ints (xs:=g.ch) (i:=e.2.toNat) (by omega)
     have hs : flS g.ch e (1 + 1)=(flS g.ch e 1).set e.2.toNat (1 - g.ch.getD e.2.toNat 0):=rfl
     have ha : el [D.int .i64 e.1,D.int .i64 e.2] 1=.int .i64 e.2:=rfl
     have t1 : Int.toNat ((1 : Nat) : Int)=1:=rfl
     have tk : Int.toNat ((k : Nat) : Int)=k:=rfl
     generalize g.ch.getD e.2.toNat 0=q at *
     generalize flS g.ch e 1=ch1 at *
     simp (disch:=first | omega | decide +kernel) only [h1',ha,t1,tk,hek,go_sem,Qa,Qb,Qc,Qd,Qe,↓reduceIte,reduceCtorEq,Qf,Qg,Qh]
     (repeat' (first | ((first | (refine gsel_split (fun q' => ?_) (fun q' => ?_)<;>(have h':=q')<;>(try simp only [za1,za2,Ba,Bb,za3,ne_eq,za4,za5,za6,Ia,Ib,Ic,Ie,Da,Bc,Bh,Be,za7,za8] at h')<;>try (exfalso; omega)) | (have q':=trivial; first | refine hE _ _ ret_ne ?_ | refine hE _ _ exit_ne ?_))<;>(try simp (disch:=first | omega | decide +kernel) only [q',h1',ha,t1,tk,hek,go_sem,Qa,Qb,Qc,Qd,Qe,↓reduceIte,reduceCtorEq,Qf,Qg,Qh])<;>clear q') | refine hN _ ?_ ?_ Wk.kk | with_reducible refine And.intro ?_ ?_ | with_reducible omega | exact ok_ints | exact cells_ints | exact no_mem | with_reducible exact plain_ints | (refine le_maxLen ?_; omega) | (refine za9 ⟨?_,?_⟩) | (simp only [go_sem,Qc,Qb,zb1,zb2,forall_eq]; done)))
     rw [show ((1 : Nat) : Int) + 1=((1 + 1 : Nat) : Int) from rfl]
     refine hN () _ hlt trivial ?_
     rw [hs]
     exact (by refine Wk.auto ?_ ?_<;>simp [extraK,lk,killL,St.kill,wipeO,wipeS,AV.has,AV.hasL,AO.wipe,List.map_set,updSt,insL,dropS,ins,List.map_set])
 . obtain rfl : i=2:=by omega
   have hf : flS g.ch e 2=flipC g.ch e:=rfl
   rw [hf]
   simp (disch:=first | omega | decide +kernel) only [go_sem,Qa,Qb,Qc,Qd,Qe,↓reduceIte,reduceCtorEq,Qf,Qg,Qh]
   (repeat' (first | ((first | (refine gsel_split (fun q' => ?_) (fun q' => ?_)<;>(have h':=q')<;>(try simp only [za1,za2,Ba,Bb,za3,ne_eq,za4,za5,za6,Ia,Ib,Ic,Ie,Da,Bc,Bh,Be,za7,za8] at h')<;>try (exfalso; omega)) | (have q':=trivial; first | refine hE _ _ ret_ne ?_ | refine hE _ _ exit_ne ?_))<;>(try simp (disch:=first | omega | decide +kernel) only [q',go_sem,Qa,Qb,Qc,Qd,Qe,↓reduceIte,reduceCtorEq,Qf,Qg,Qh])<;>clear q') | refine hN _ ?_ ?_ Wk.kk | with_reducible refine And.intro ?_ ?_ | with_reducible omega | exact ok_ints | exact cells_ints | exact no_mem | with_reducible exact plain_ints | (refine le_maxLen ?_; omega) | (refine za9 ⟨?_,?_⟩) | (simp only [go_sem,Qc,Qb,zb1,zb2,forall_eq]; done)))
   refine hE1 _ _ exit_ne ?_
   simp (disch:=first | omega | decide +kernel) only [go_sem,Qa,Qb,Qc,Qd,Qe,↓reduceIte,reduceCtorEq,Qf,Qg,Qh]
   refine Ok.go ?_
   simp (disch:=first | omega | decide +kernel) only [go_sem,Qa,Qb,Qc,Qd,Qe,↓reduceIte,reduceCtorEq,Qf,Qg,Qh]
   (repeat' (first | ((first | (refine gsel_split (fun q' => ?_) (fun q' => ?_)<;>(have h':=q')<;>(try simp only [za1,za2,Ba,Bb,za3,ne_eq,za4,za5,za6,Ia,Ib,Ic,Ie,Da,Bc,Bh,Be,za7,za8] at h')<;>try (exfalso; omega)) | (have q':=trivial; first | refine hE _ _ ret_ne ?_ | refine hE _ _ exit_ne ?_))<;>(try simp (disch:=first | omega | decide +kernel) only [q',go_sem,Qa,Qb,Qc,Qd,Qe,↓reduceIte,reduceCtorEq,Qf,Qg,Qh])<;>clear q') | refine hN _ ?_ ?_ Wk.kk | with_reducible refine And.intro ?_ ?_ | with_reducible omega | exact ok_ints | exact cells_ints | exact no_mem | with_reducible exact plain_ints | (refine le_maxLen ?_; omega) | (refine za9 ⟨?_,?_⟩) | (simp only [go_sem,Qc,Qb,zb1,zb2,forall_eq]; done)))
   exact ret_scb [900000,900001] rfl rfl rfl (by simp only [go_sem,List.length_cons,List.length_nil]) rfl (by simp only [go_sem])
set_option maxHeartbeats 4000000 in
theorem moveS_ok (g : Chg) (k : Int) (hl : g.ed.length<=4294967296) (hc : g.ch.length<=4294967296) : Ctr Try.prog 7 [D.chg g,.int .i64 k] true (.tup [.d (D.chg (mvG g k)),.d (.bool (edB g k))]) []:=by
 have c1:=l27Edge_ok g k hl hc
 unfold mvG
 cases hb : edB g k with
 | false =>
   rw [hb] at c1
   refine Ctr.of (n:=14) (rs:=[.cell 4 27,.tmp 5]) Try.func7 rfl rfl Try.ntmps7 rfl rfl (by kernel_rfl) Try.checked.mixed ?_
   simp (disch:=first | omega | decide +kernel) only [D.chg,D.ints,go_sem,Qa,Qb,Qc,Qd,Qe,↓reduceIte,reduceCtorEq,Qf,Qg,Qh]
   simp only [D.chg,D.ints] at c1
   (repeat' (first | ((first | (refine gsel_split (fun q' => ?_) (fun q' => ?_)<;>(have h':=q')<;>(try simp only [za1,za2,Ba,Bb,za3,ne_eq,za4,za5,za6,Ia,Ib,Ic,Ie,Da,Bc,Bh,Be,za7,za8] at h')) | (have q':=trivial; first | refine callX_new (c1) rfl (by decide) ?_ | refine callY_new (c1) rfl ?_ | refine hE _ _ ret_ne ?_ | refine hE _ _ exit_ne ?_))<;>(try simp (disch:=first | omega | decide +kernel) only [q',D.chg,D.ints,go_sem,Qa,Qb,Qc,Qd,Qe,↓reduceIte,reduceCtorEq,Qf,Qg,Qh])<;>clear q') | refine hN _ ?_ ?_ Wk.kk | with_reducible refine And.intro ?_ ?_ | with_reducible omega | exact ok_ints | exact cells_ints | exact no_mem | with_reducible exact plain_ints | (refine le_maxLen ?_; omega) | (refine za9 ⟨?_,?_⟩) | (simp only [go_sem,Qc,Qb,zb1,zb2,forall_eq]; done)))
   exact ret_scbd [] rfl rfl rfl (by simp only [go_sem]) (by simp only [go_sem,List.length_cons,List.length_nil]) rfl (by simp only [go_sem])
 | true =>
   rw [hb] at c1
   obtain ⟨hb1,hb2⟩:=Bool.and_eq_true_iff.1 hb
   have hk:=inE_lt hb2
   have c3:=l27Flip_ok g (good_iff.1 hb1) k.toNat hk.2
   rw [show ((k.toNat : Nat) : Int)=k by omega] at c3
   rw [if_pos rfl]
   generalize flipG g k.toNat=m at *
   refine Ctr.of (n:=14) (rs:=[.cell 4 27,.tmp 5]) Try.func7 rfl rfl Try.ntmps7 rfl rfl (by kernel_rfl) Try.checked.mixed ?_
   simp (disch:=first | omega | decide +kernel) only [D.chg,D.ints,go_sem,Qa,Qb,Qc,Qd,Qe,↓reduceIte,reduceCtorEq,Qf,Qg,Qh]
   simp only [D.chg,D.ints] at c1 c3
   (repeat' (first | ((first | (refine gsel_split (fun q' => ?_) (fun q' => ?_)<;>(have h':=q')<;>(try simp only [za1,za2,Ba,Bb,za3,ne_eq,za4,za5,za6,Ia,Ib,Ic,Ie,Da,Bc,Bh,Be,za7,za8] at h')) | (have q':=trivial; first | refine callX_new (c1) rfl (by decide) ?_ | refine callY_new (c1) rfl ?_ | refine callX_shared (c3) rfl (by decide) ?_ | refine callY_shared (c3) rfl ?_ | refine hE _ _ ret_ne ?_ | refine hE _ _ exit_ne ?_))<;>(try simp (disch:=first | omega | decide +kernel) only [q',D.chg,D.ints,go_sem,Qa,Qb,Qc,Qd,Qe,↓reduceIte,reduceCtorEq,Qf,Qg,Qh])<;>clear q') | refine hN _ ?_ ?_ Wk.kk | with_reducible refine And.intro ?_ ?_ | with_reducible omega | exact ok_ints | exact cells_ints | exact no_mem | with_reducible exact plain_ints | (refine le_maxLen ?_; omega) | (refine za9 ⟨?_,?_⟩) | (simp only [go_sem,Qc,Qb,zb1,zb2,forall_eq]; done)))
   exact ret_scbd [] rfl rfl rfl (by simp only [go_sem]) (by simp only [go_sem,List.length_cons,List.length_nil]) rfl (by simp only [go_sem])
end Abs.Y
