/- What functions of this program compute, over plain data. No condition. -/
import Derived.Test.YtckigpgkmdhfoaaE3
import Derived.Test.YtckigpgkmdhfoaaFA2
import Derived.Test.YtckigpgkmdhfoaaE12
set_option linter.all false
namespace Abs.Y
open Go Go.Proofs Abs
open Nat renaming reduceEqDiff -> Qa, reduceLT -> Qb, reduceAdd -> Qc, reduceMul -> Qd, reduceSub -> Qe, reduceLeDiff -> Qf, reduceSubDiff -> Qg, reduceBEq -> Qh
open Bool renaming not_eq_true' -> Ba, not_eq_false' -> Bb, and_eq_true -> Bc, or_eq_true -> Bd, or_eq_false_iff -> Be
open Int renaming ofNat_lt -> Ia, ofNat_le -> Ib, not_lt -> Ic, not_le -> Ie
open Decidable renaming not_not -> Da
set_option maxRecDepth 100000

def cvI (c a : List Int) : Int:=if c.any (fun l => a.any (· == l)) then 1 else if c.any (fun l => !(a.any (· == 0 - l))) then 0 else -1
def cvS (c a : List Int) (i : Nat) : Int:=if (c.take i).any (fun l => !(a.any (· == 0 - l))) then 0 else -1
theorem cvS_succ {c a : List Int} {i : Nat} (h : i < c.length) : cvS c a (i + 1)=if a.any (· == 0 - c.getD i 0) then cvS c a i else 0:=by
 unfold cvS
 rw [take_succ 0 c i h,List.any_append]
 simp only [List.any_cons,List.any_nil,Bool.or_false]
 cases a.any (· == 0 - c.getD i 0)<;>simp
theorem cvI_one {c a : List Int} {i : Nat} (h : i < c.length) (hp : a.any (· == c.getD i 0)=true) : cvI c a=1:=by
 unfold cvI
 rw [if_pos (List.any_eq_true.2 ⟨_,getD_mem (z:=(0 : Int)) h,hp⟩)]
theorem cvI_end {c a : List Int} (h : ∀ j,j < c.length->a.any (· == c.getD j 0)=false) : cvI c a=cvS c a c.length:=by
 unfold cvI cvS
 rw [if_neg (fun hh => by
  obtain ⟨x,hx,hx'⟩:=List.any_eq_true.1 hh
  obtain ⟨k,hk,rfl⟩:=List.getElem_of_mem hx
  have:=h k hk
  rw [List.getD_eq_getElem?_getD,List.getElem?_eq_getElem hk,Option.getD_some,hx'] at this
  cases this),List.take_length]
set_option maxHeartbeats 4000000 in
theorem clauseValue_ok (c a : List Int) (hc : c.length<=1048576) (ha : a.length<=1048576) (hs : ∀ l ∈ c,-1000000<=l∧l<=1000000) :
 Ctr Try.prog 101 [.ints c,.ints a] false (.d (.int .i64 (cvI c a))) []:=by
 have h0 : cvS c a 0=-1:=rfl
 refine Ctr.of (n:=26) (rs:=[.tmp 4]) Try.func101 rfl rfl Try.ntmps101 rfl rfl (by kernel_rfl) Try.checked.mixed ?_
 simp (disch:=first | omega | decide +kernel) only [D.ints,go_sem,Qa,Qb,Qc,Qd,Qe,↓reduceIte,reduceCtorEq,Qf,Qg,Qh]
 (repeat' (first | ((first | (refine gsel_split (fun q' => ?_) (fun q' => ?_)<;>(have h':=q')<;>(try simp only [za1,za2,Ba,Bb,za3,ne_eq,za4,za5,za6,Ia,Ib,Ic,Ie,Da,Bc,Bd,Be,za7,za8] at h')<;>try (exfalso; omega)) | (have q':=trivial; first | refine hE _ _ ret_ne ?_ | refine hE _ _ exit_ne ?_))<;>(try simp (disch:=first | omega | decide +kernel) only [q',D.ints,go_sem,Qa,Qb,Qc,Qd,Qe,↓reduceIte,reduceCtorEq,Qf,Qg,Qh])<;>clear q') | refine hN _ ?_ ?_ Wk.kk | with_reducible refine And.intro ?_ ?_ | with_reducible omega | exact ok_ints | exact cells_ints | exact no_mem | with_reducible exact plain_ints | (refine le_maxLen ?_; omega) | (refine za9 ⟨?_,?_⟩) | (simp only [go_sem,Qc,Qb,zb1,zb2,forall_eq]; done)))
 refine Ok.loopN [25,24,23,22,21,20,19,18,17,16,15,14,13,12,11,10,7,6,5,4,3,2,0] (fun i (_ : Unit) => [(10,.d (.int .i64 (i : Nat))),(5,.d (.int .i64 (cvS c a i)))]) (fun _ _ => []) c.length (fun i _ => ∀ j,j < i->a.any (· == c.getD j 0)=false) () (by simp) (by refine Wk.auto ?_ ?_<;>simp [extraK,lk,killL,St.kill,wipeO,wipeS,AV.has,AV.hasL,AO.wipe,List.map_set,updSt,insL,dropS,ins,h0]) ?_
 rintro R i _ hN hE hi hI
 by_cases hlt : i < c.length
 . have hei:=el_ints (xs:=c) hlt
   have hss:=hs _ (getD_mem (z:=(0 : Int)) hlt)
   have c1:=contains_ok a (c.getD i 0) (by omega)
   have c2:=contains_ok a (0 - c.getD i 0) (by omega)
   have hsu:=cvS_succ (a:=a) hlt
   have h1:=fun h => cvI_one (c:=c) (a:=a) hlt h
   have hI2 : a.any (· == c.getD i 0)=false->∀ j,j < i + 1->a.any (· == c.getD j 0)=false:=fun h j hj => by
    rcases (by omega : j < i∨j=i) with hj | rfl
    . exact hI j hj
    . exact h
   clear hI
   generalize c.getD i 0=l at *
   cases hp : a.any (· == l) with
   | true =>
     rw [hp] at c1
     have h1':=h1 hp
     simp (disch:=first | omega | decide +kernel) only [hei,go_sem,Qa,Qb,Qc,Qd,Qe,↓reduceIte,reduceCtorEq,Qf,Qg,Qh]
     (repeat' (first | ((first | (refine gsel_split (fun q' => ?_) (fun q' => ?_)<;>(have h':=q')<;>(try simp only [za1,za2,Ba,Bb,za3,ne_eq,za4,za5,za6,Ia,Ib,Ic,Ie,Da,Bc,Bd,Be,za7,za8] at h')<;>try (exfalso; omega)) | (have q':=trivial; first | refine callX_new (c1) rfl (by decide) ?_ | refine callY_new (c1) rfl ?_ | refine hE _ _ ret_ne ?_ | refine hE _ _ exit_ne ?_))<;>(try simp (disch:=first | omega | decide +kernel) only [q',hei,go_sem,Qa,Qb,Qc,Qd,Qe,↓reduceIte,reduceCtorEq,Qf,Qg,Qh])<;>clear q') | refine hN _ ?_ ?_ Wk.kk | with_reducible refine And.intro ?_ ?_ | with_reducible omega | exact ok_ints | exact cells_ints | exact no_mem | with_reducible exact plain_ints | (refine le_maxLen ?_; omega) | (refine za9 ⟨?_,?_⟩) | (simp only [go_sem,Qc,Qb,zb1,zb2,forall_eq]; done)))
     all_goals (first | rw [h1'])
   | false =>
     rw [hp] at c1
     cases hq : a.any (· == 0 - l) with
     | true =>
       rw [hq] at c2 hsu
       rw [if_pos rfl] at hsu
       simp (disch:=first | omega | decide +kernel) only [hei,go_sem,Qa,Qb,Qc,Qd,Qe,↓reduceIte,reduceCtorEq,Qf,Qg,Qh]
       (repeat' (first | ((first | (refine gsel_split (fun q' => ?_) (fun q' => ?_)<;>(have h':=q')<;>(try simp only [za1,za2,Ba,Bb,za3,ne_eq,za4,za5,za6,Ia,Ib,Ic,Ie,Da,Bc,Bd,Be,za7,za8] at h')<;>try (exfalso; omega)) | (have q':=trivial; first | refine callX_new (c1) rfl (by decide) ?_ | refine callY_new (c1) rfl ?_ | refine callX_new (c2) rfl (by decide) ?_ | refine callY_new (c2) rfl ?_ | refine hE _ _ ret_ne ?_ | refine hE _ _ exit_ne ?_))<;>(try simp (disch:=first | omega | decide +kernel) only [q',hei,go_sem,Qa,Qb,Qc,Qd,Qe,↓reduceIte,reduceCtorEq,Qf,Qg,Qh])<;>clear q') | refine hN _ ?_ ?_ Wk.kk | with_reducible refine And.intro ?_ ?_ | with_reducible omega | exact ok_ints | exact cells_ints | exact no_mem | with_reducible exact plain_ints | (refine le_maxLen ?_; omega) | (refine za9 ⟨?_,?_⟩) | (simp only [go_sem,Qc,Qb,zb1,zb2,forall_eq]; done)))
       all_goals (first | (refine hN () _ hlt (hI2 hp) ?_; rw [hsu]; exact (by refine Wk.auto ?_ ?_<;>simp [extraK,lk,killL,St.kill,wipeO,wipeS,AV.has,AV.hasL,AO.wipe,List.map_set,updSt,insL,dropS,ins,D.ints])))
     | false =>
       rw [hq] at c2 hsu
       rw [if_neg (by decide)] at hsu
       simp (disch:=first | omega | decide +kernel) only [hei,go_sem,Qa,Qb,Qc,Qd,Qe,↓reduceIte,reduceCtorEq,Qf,Qg,Qh]
       (repeat' (first | ((first | (refine gsel_split (fun q' => ?_) (fun q' => ?_)<;>(have h':=q')<;>(try simp only [za1,za2,Ba,Bb,za3,ne_eq,za4,za5,za6,Ia,Ib,Ic,Ie,Da,Bc,Bd,Be,za7,za8] at h')<;>try (exfalso; omega)) | (have q':=trivial; first | refine callX_new (c1) rfl (by decide) ?_ | refine callY_new (c1) rfl ?_ | refine callX_new (c2) rfl (by decide) ?_ | refine callY_new (c2) rfl ?_ | refine hE _ _ ret_ne ?_ | refine hE _ _ exit_ne ?_))<;>(try simp (disch:=first | omega | decide +kernel) only [q',hei,go_sem,Qa,Qb,Qc,Qd,Qe,↓reduceIte,reduceCtorEq,Qf,Qg,Qh])<;>clear q') | refine hN _ ?_ ?_ Wk.kk | with_reducible refine And.intro ?_ ?_ | with_reducible omega | exact ok_ints | exact cells_ints | exact no_mem | with_reducible exact plain_ints | (refine le_maxLen ?_; omega) | (refine za9 ⟨?_,?_⟩) | (simp only [go_sem,Qc,Qb,zb1,zb2,forall_eq]; done)))
       all_goals (first | (refine hN () _ hlt (hI2 hp) ?_; rw [hsu]; exact (by refine Wk.auto ?_ ?_<;>simp [extraK,lk,killL,St.kill,wipeO,wipeS,AV.has,AV.hasL,AO.wipe,List.map_set,updSt,insL,dropS,ins,D.ints])))
 . obtain rfl : i=c.length:=by omega
   have h1':=cvI_end hI
   simp (disch:=first | omega | decide +kernel) only [go_sem,Qa,Qb,Qc,Qd,Qe,↓reduceIte,reduceCtorEq,Qf,Qg,Qh]
   (repeat' (first | ((first | (refine gsel_split (fun q' => ?_) (fun q' => ?_)<;>(have h':=q')<;>(try simp only [za1,za2,Ba,Bb,za3,ne_eq,za4,za5,za6,Ia,Ib,Ic,Ie,Da,Bc,Bd,Be,za7,za8] at h')<;>try (exfalso; omega)) | (have q':=trivial; first | refine hE _ _ ret_ne ?_ | refine hE _ _ exit_ne ?_))<;>(try simp (disch:=first | omega | decide +kernel) only [q',go_sem,Qa,Qb,Qc,Qd,Qe,↓reduceIte,reduceCtorEq,Qf,Qg,Qh])<;>clear q') | refine hN _ ?_ ?_ Wk.kk | with_reducible refine And.intro ?_ ?_ | with_reducible omega | exact ok_ints | exact cells_ints | exact no_mem | with_reducible exact plain_ints | (refine le_maxLen ?_; omega) | (refine za9 ⟨?_,?_⟩) | (simp only [go_sem,Qc,Qb,zb1,zb2,forall_eq]; done)))
   all_goals (first | rw [h1'])
def fcI (cs : List (List Int)) (a : List Int) : Nat->List Int
 | 0 => []
 | i + 1 => if cvI (cs.getD i []) a < 0 then fcI cs a i++[(i : Int)] else fcI cs a i
theorem fcI_len (cs : List (List Int)) (a : List Int) : ∀ i,(fcI cs a i).length<=i
 | 0 => Nat.le_refl _
 | i + 1 => by
   have:=fcI_len cs a i
   rw [fcI]; split
   . rw [List.length_append]; simp; omega
   . omega
theorem cvI_bd (c a : List Int) : -1<=cvI c a∧cvI c a<=1:=by
 unfold cvI; split
 . omega
 . split<;>omega
set_option maxHeartbeats 4000000 in
theorem falseClauses_ok (cs : List (List Int)) (a : List Int) (hl : cs.length<=1048576) (hc : ∀ c ∈ cs,c.length<=1048576) (ha : a.length<=1048576) (hs : ∀ c ∈ cs,∀ l ∈ c,-1000000<=l∧l<=1000000) :
 Ctr Try.prog 50 [.slice (cs.map D.ints),.ints a] false (.sl 0) [(0,.arr 3 1 ((fcI cs a cs.length).map (.int .i64)))]:=by
 refine Ctr.of (n:=25) (rs:=[.tmp 4]) Try.func50 rfl rfl Try.ntmps50 rfl rfl (by kernel_rfl) Try.checked.mixed ?_
 simp (disch:=first | omega | decide +kernel) only [D.ints,List.length_map,go_sem,Qa,Qb,Qc,Qd,Qe,↓reduceIte,reduceCtorEq,Qf,Qg,Qh]
 (repeat' (first | ((first | (refine gsel_split (fun q' => ?_) (fun q' => ?_)<;>(have h':=q')<;>(try simp only [za1,za2,Ba,Bb,za3,ne_eq,za4,za5,za6,Ia,Ib,Ic,Ie,Da,Bc,Bd,Be,za7,za8] at h')<;>try (exfalso; omega)) | (have q':=trivial; first | refine hE _ _ ret_ne ?_ | refine hE _ _ exit_ne ?_))<;>(try simp (disch:=first | omega | decide +kernel) only [q',D.ints,List.length_map,go_sem,Qa,Qb,Qc,Qd,Qe,↓reduceIte,reduceCtorEq,Qf,Qg,Qh])<;>clear q') | refine hN _ ?_ ?_ Wk.kk | with_reducible refine And.intro ?_ ?_ | with_reducible omega | exact ok_ints | exact cells_ints | exact no_mem | with_reducible exact plain_ints | (refine le_maxLen ?_; omega) | (refine za9 ⟨?_,?_⟩) | (simp only [go_sem,Qc,Qb,zb1,zb2,forall_eq]; done)))
 refine Ok.loopNO [24,23,22,21,20,19,18,17,16,15,14,13,12,11,10,7,6,5,4,3,2,0] (fun i _ => [(10,.d (.int .i64 (i : Nat))),(5,.sl 5)]) (fun _ (o : List Int) => [(5,.arr 3 1 (o.map (.int .i64)))]) cs.length (fun i o => o=fcI cs a i) [] rfl (Wk.kk) ?_
 rintro R i o hN hE hi ho
 have hol : o.length<=i:=by rw [ho]; exact fcI_len cs a i
 refine Ok.go ?_
 by_cases hlt : i < cs.length
 . have hei:=el_intss (xs:=cs) hlt
   have hm:=getD_mem (z:=([] : List Int)) hlt
   have c1:=clauseValue_ok (cs.getD i []) a (hc _ hm) ha (hs _ hm)
   have hb:=cvI_bd (cs.getD i []) a
   have hsu : fcI cs a (i + 1)=if cvI (cs.getD i []) a < 0 then o++[(i : Int)] else o:=by rw [fcI,← ho]
   simp only [D.ints] at c1
   generalize cvI (cs.getD i []) a=v at *
   by_cases hv : v < 0
   . rw [if_pos hv] at hsu
     simp (disch:=first | omega | decide +kernel) only [hei,D.ints,List.length_map,go_sem,Qa,Qb,Qc,Qd,Qe,↓reduceIte,reduceCtorEq,Qf,Qg,Qh]
     (repeat' (first | ((first | (refine gsel_split (fun q' => ?_) (fun q' => ?_)<;>(have h':=q')<;>(try simp only [za1,za2,Ba,Bb,za3,ne_eq,za4,za5,za6,Ia,Ib,Ic,Ie,Da,Bc,Bd,Be,za7,za8] at h')<;>try (exfalso; omega)) | (have q':=trivial; first | refine callX_new (c1) rfl (by decide) ?_ | refine callY_new (c1) rfl ?_ | refine hE _ _ ret_ne ?_ | refine hE _ _ exit_ne ?_))<;>(try simp (disch:=first | omega | decide +kernel) only [q',hei,D.ints,List.length_map,go_sem,Qa,Qb,Qc,Qd,Qe,↓reduceIte,reduceCtorEq,Qf,Qg,Qh])<;>clear q') | refine hN _ ?_ ?_ Wk.kk | with_reducible refine And.intro ?_ ?_ | with_reducible omega | exact ok_ints | exact cells_ints | exact no_mem | with_reducible exact plain_ints | (refine le_maxLen ?_; omega) | (refine za9 ⟨?_,?_⟩) | (simp only [go_sem,Qc,Qb,zb1,zb2,forall_eq]; done)))
     all_goals (first | omega | exact hN (o++[(i : Int)]) _ hlt hsu.symm (by refine Wk.auto ?_ ?_<;>simp [extraK,lk,killL,St.kill,wipeO,wipeS,AV.has,AV.hasL,AO.wipe,List.map_set,updSt,insL,dropS,ins,List.map_append,List.map_cons,List.map_nil]))
   . rw [if_neg hv] at hsu
     simp (disch:=first | omega | decide +kernel) only [hei,D.ints,List.length_map,go_sem,Qa,Qb,Qc,Qd,Qe,↓reduceIte,reduceCtorEq,Qf,Qg,Qh]
     (repeat' (first | ((first | (refine gsel_split (fun q' => ?_) (fun q' => ?_)<;>(have h':=q')<;>(try simp only [za1,za2,Ba,Bb,za3,ne_eq,za4,za5,za6,Ia,Ib,Ic,Ie,Da,Bc,Bd,Be,za7,za8] at h')<;>try (exfalso; omega)) | (have q':=trivial; first | refine callX_new (c1) rfl (by decide) ?_ | refine callY_new (c1) rfl ?_ | refine hE _ _ ret_ne ?_ | refine hE _ _ exit_ne ?_))<;>(try simp (disch:=first | omega | decide +kernel) only [q',hei,D.ints,List.length_map,go_sem,Qa,Qb,Qc,Qd,Qe,↓reduceIte,reduceCtorEq,Qf,Qg,Qh])<;>clear q') | refine hN _ ?_ ?_ Wk.kk | with_reducible refine And.intro ?_ ?_ | with_reducible omega | exact ok_ints | exact cells_ints | exact no_mem | with_reducible exact plain_ints | (refine le_maxLen ?_; omega) | (refine za9 ⟨?_,?_⟩) | (simp only [go_sem,Qc,Qb,zb1,zb2,forall_eq]; done)))
     all_goals (first | omega | exact hN o _ hlt hsu.symm (by refine Wk.auto ?_ ?_<;>simp [extraK,lk,killL,St.kill,wipeO,wipeS,AV.has,AV.hasL,AO.wipe,List.map_set,updSt,insL,dropS,ins,]))
 . obtain rfl : i=cs.length:=by omega
   have hf : fcI cs a cs.length=o:=ho.symm
   simp (disch:=first | omega | decide +kernel) only [List.length_map,go_sem,Qa,Qb,Qc,Qd,Qe,↓reduceIte,reduceCtorEq,Qf,Qg,Qh]
   (repeat' (first | ((first | (refine gsel_split (fun q' => ?_) (fun q' => ?_)<;>(have h':=q')<;>(try simp only [za1,za2,Ba,Bb,za3,ne_eq,za4,za5,za6,Ia,Ib,Ic,Ie,Da,Bc,Bd,Be,za7,za8] at h')<;>try (exfalso; omega)) | (have q':=trivial; first | refine hE _ _ ret_ne ?_ | refine hE _ _ exit_ne ?_))<;>(try simp (disch:=first | omega | decide +kernel) only [q',List.length_map,go_sem,Qa,Qb,Qc,Qd,Qe,↓reduceIte,reduceCtorEq,Qf,Qg,Qh])<;>clear q') | refine hN _ ?_ ?_ Wk.kk | with_reducible refine And.intro ?_ ?_ | with_reducible omega | exact ok_ints | exact cells_ints | exact no_mem | with_reducible exact plain_ints | (refine le_maxLen ?_; omega) | (refine za9 ⟨?_,?_⟩) | (simp only [go_sem,Qc,Qb,zb1,zb2,forall_eq]; done)))
   all_goals (rw [hf]; first | exact ret_sl 5 rfl rfl plain_ints)
def totI (b : Nat) : Nat->List Int
 | 0 => []
 | v + 1 => totI b v++[if b.testBit v then ((v + 1 : Nat) : Int) else -((v + 1 : Nat) : Int)]
end Abs.Y

namespace Abs.Y
open Go Go.Proofs Abs
open Nat renaming reduceEqDiff -> Qa, reduceLT -> Qb, reduceAdd -> Qc, reduceMul -> Qd, reduceSub -> Qe, reduceLeDiff -> Qf, reduceSubDiff -> Qg, reduceBEq -> Qh
open Bool renaming not_eq_true' -> Ba, not_eq_false' -> Bb, and_eq_true -> Bc, or_eq_true -> Bd, or_eq_false_iff -> Be
open Int renaming ofNat_lt -> Ia, ofNat_le -> Ib, not_lt -> Ic, not_le -> Ie
open Decidable renaming not_not -> Da
set_option maxRecDepth 100000

end Abs.Y

namespace Abs.Y
open Go Go.Proofs Abs
open Nat renaming reduceEqDiff -> Qa, reduceLT -> Qb, reduceAdd -> Qc, reduceMul -> Qd, reduceSub -> Qe, reduceLeDiff -> Qf, reduceSubDiff -> Qg, reduceBEq -> Qh
open Bool renaming not_eq_true' -> Ba, not_eq_false' -> Bb, and_eq_true -> Bc, or_eq_true -> Bd, or_eq_false_iff -> Be
open Int renaming ofNat_lt -> Ia, ofNat_le -> Ib, not_lt -> Ic, not_le -> Ie
open Decidable renaming not_not -> Da
set_option maxRecDepth 100000

def badJ (n : Int) (j : Int) : Bool:=!(decide (0<=j) && decide (j<=n))
def bmB (n : Nat) (h : List Int) : Nat->Nat
 | 0 => 0
 | i + 1 => if 0 < h.getD i 0 then bmB n h i ||| 2 ^ (i * n + (h.getD i 0).toNat - 1) else bmB n h i
end Abs.Y

namespace Abs.Y
open Go Go.Proofs Abs
open Nat renaming reduceEqDiff -> Qa, reduceLT -> Qb, reduceAdd -> Qc, reduceMul -> Qd, reduceSub -> Qe, reduceLeDiff -> Qf, reduceSubDiff -> Qg, reduceBEq -> Qh
open Bool renaming not_eq_true' -> Ba, not_eq_false' -> Bb, and_eq_true -> Bc, or_eq_true -> Bd, or_eq_false_iff -> Be
open Int renaming ofNat_lt -> Ia, ofNat_le -> Ib, not_lt -> Ic, not_le -> Ie
open Decidable renaming not_not -> Da
set_option maxRecDepth 100000

def plOK (n i j : Int) : Bool:=decide (1<=n) && decide (n<=3) && (decide (1<=i) && decide (i<=n + 1)) && (decide (1<=j) && decide (j<=n))
def a1P (n i j : Nat) : Nat->List Int
 | 0 => [pvar n i j]
 | m + 1 => if m + 1=j then a1P n i j m else a1P n i j m++[-(pvar n i (m + 1))]
def a2P (n i j : Nat) : Nat->List Int
 | 0 => a1P n i j n
 | k + 1 => if k + 1=i then a2P n i j k else a2P n i j k++[-(pvar n (k + 1) j)]
def sR (n i j k : Nat) (l : List Int) : Nat->List Int
 | 0 => l
 | m + 1 => if k=i∧m + 1=j then sR n i j k l m++[pvar n k (m + 1)] else if k=i∨m + 1=j then sR n i j k l m++[-(pvar n k (m + 1))] else sR n i j k l m
def sPl (n i j : Nat) : Nat->List Int
 | 0 => []
 | k + 1 => sR n i j (k + 1) (sPl n i j k) n
def placeP (n i j : Nat) : List Int:=sPl n i j (n + 1)
end Abs.Y

namespace Abs.Y
open Go Go.Proofs Abs
open Nat renaming reduceEqDiff -> Qa, reduceLT -> Qb, reduceAdd -> Qc, reduceMul -> Qd, reduceSub -> Qe, reduceLeDiff -> Qf, reduceSubDiff -> Qg, reduceBEq -> Qh
open Bool renaming not_eq_true' -> Ba, not_eq_false' -> Bb, and_eq_true -> Bc, or_eq_true -> Bd, or_eq_false_iff -> Be
open Int renaming ofNat_lt -> Ia, ofNat_le -> Ib, not_lt -> Ic, not_le -> Ie
open Decidable renaming not_not -> Da
set_option maxRecDepth 100000

end Abs.Y
