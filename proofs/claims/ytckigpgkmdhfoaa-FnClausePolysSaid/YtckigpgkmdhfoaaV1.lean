/- What functions of this program compute, over plain data. No condition. -/
import Derived.Test.YtckigpgkmdhfoaaG3
set_option linter.all false
namespace Abs.Y
open Go Go.Proofs Abs
open Nat renaming reduceEqDiff -> Qa, reduceLT -> Qb, reduceAdd -> Qc, reduceMul -> Qd, reduceSub -> Qe, reduceLeDiff -> Qf, reduceSubDiff -> Qg, reduceBEq -> Qh
open Bool renaming not_eq_true' -> Ba, not_eq_false' -> Bb, and_eq_true -> Bc, or_eq_true -> Bh, or_eq_false_iff -> Be
open Int renaming ofNat_lt -> Ia, ofNat_le -> Ib, not_lt -> Ic, not_le -> Ie
open Decidable renaming not_not -> Da
set_option maxRecDepth 100000

theorem l1Own_ok (xs : List Int) (hl : xs.length<=4294967296) : Ctr Try.prog 159 [.ints xs] false (.sl 0) [(0,.arr 3 1 (xs.map (.int .i64)))]:=by
 refine Ctr.of (n:=6) (rs:=[.tmp 2]) Try.func159 rfl rfl Try.ntmps159 rfl rfl (by kernel_rfl) Try.checked.mixed ?_
 simp (disch:=first | omega | decide +kernel) only [D.ints,go_sem,Qa,Qb,Qc,Qd,Qe,↓reduceIte,reduceCtorEq,Qf,Qg,Qh]
 (repeat' (first | ((first | (refine gsel_split (fun q' => ?_) (fun q' => ?_)<;>(have h':=q')<;>(try simp only [za1,za2,Ba,Bb,za3,ne_eq,za4,za5,za6,Ia,Ib,Ic,Ie,Da,Bc,Bh,Be,za7,za8] at h')) | (have q':=trivial; first | refine hE _ _ ret_ne ?_ | refine hE _ _ exit_ne ?_))<;>(try simp (disch:=first | omega | decide +kernel) only [q',go_sem,Qa,Qb,Qc,Qd,Qe,↓reduceIte,reduceCtorEq,Qf,Qg,Qh])<;>clear q') | refine hN _ ?_ ?_ Wk.kk | with_reducible refine And.intro ?_ ?_ | with_reducible omega | exact ok_ints | exact cells_ints | exact no_mem | with_reducible exact plain_ints | (refine le_maxLen ?_; omega) | (refine za9 ⟨?_,?_⟩) | (simp only [go_sem,Qc,Qb,zb1,zb2,forall_eq]; done)))
 exact ret_sl 3 rfl rfl plain_ints
theorem l2Without_ok (c : List Int) (v : Int) (hl : c.length<=4294967296) : Ctr Try.prog 144 [.ints c,.int .i64 v] false (.sl 0) [(0,.arr 3 1 ((c.filter fun l => varI l != v).map (.int .i64)))]:=by
 refine Ctr.of (n:=29) (rs:=[.tmp 4]) Try.func144 rfl rfl Try.ntmps144 rfl rfl (by kernel_rfl) Try.checked.mixed ?_
 simp (disch:=first | omega | decide +kernel) only [D.ints,go_sem,Qa,Qb,Qc,Qd,Qe,↓reduceIte,reduceCtorEq,Qf,Qg,Qh]
 (repeat' (first | ((first | (refine gsel_split (fun q' => ?_) (fun q' => ?_)<;>(have h':=q')<;>(try simp only [za1,za2,Ba,Bb,za3,ne_eq,za4,za5,za6,Ia,Ib,Ic,Ie,Da,Bc,Bh,Be,za7,za8] at h')) | (have q':=trivial; first | refine hE _ _ ret_ne ?_ | refine hE _ _ exit_ne ?_))<;>(try simp (disch:=first | omega | decide +kernel) only [q',go_sem,Qa,Qb,Qc,Qd,Qe,↓reduceIte,reduceCtorEq,Qf,Qg,Qh])<;>clear q') | refine hN _ ?_ ?_ Wk.kk | with_reducible refine And.intro ?_ ?_ | with_reducible omega | exact ok_ints | exact cells_ints | exact no_mem | with_reducible exact plain_ints | (refine le_maxLen ?_; omega) | (refine za9 ⟨?_,?_⟩) | (simp only [go_sem,Qc,Qb,zb1,zb2,forall_eq]; done)))
 refine Ok.loopN [27,26,25,24,23,22,21,20,19,18,17,16,15,14,13,12,11,10,9,8,7,6,5,3,2] (fun i _ => [(6,.d (.int .i64 (i : Nat))),(5,.sl 7)]) (fun _ (cur : List Int) => [(7,.arr 3 1 (cur.map (.int .i64)))]) c.length
  (fun i cur => cur.length<=i∧cur=(c.take i).filter fun l => varI l != v) [] (by simp) (Wk.kk) ?_
 rintro R i cur hN hE hi ⟨hI,hc⟩
 simp (disch:=first | omega | decide +kernel) only [go_sem,Qa,Qb,Qc,Qd,Qe,↓reduceIte,reduceCtorEq,Qf,Qg,Qh]
 (repeat' (first | ((first | (refine gsel_split (fun q' => ?_) (fun q' => ?_)<;>(have h':=q')<;>(try simp only [za1,za2,Ba,Bb,za3,ne_eq,za4,za5,za6,Ia,Ib,Ic,Ie,Da,Bc,Bh,Be,za7,za8] at h')) | (have q':=trivial; first | refine callX_new (l2Var_ok _) rfl (by decide) ?_ | refine callY_new (l2Var_ok _) rfl ?_ | refine hE _ _ ret_ne ?_ | refine hE _ _ exit_ne ?_))<;>(try simp (disch:=first | omega | decide +kernel) only [q',go_sem,Qa,Qb,Qc,Qd,Qe,↓reduceIte,reduceCtorEq,Qf,Qg,Qh])<;>clear q') | refine hN _ ?_ ?_ Wk.kk | with_reducible refine And.intro ?_ ?_ | with_reducible omega | exact ok_ints | exact cells_ints | exact no_mem | with_reducible exact plain_ints | (refine le_maxLen ?_; omega) | (refine za9 ⟨?_,?_⟩) | (simp only [go_sem,Qc,Qb,zb1,zb2,forall_eq]; done)))
 . rename_i h1
   refine hN (cur++[c.getD i 0]) _ h1 ⟨by simp; omega,?_⟩ (Wk.kk)
   rw [take_succ 0 c i h1,List.filter_append,← hc,List.filter_cons_of_pos (by simpa using h'),List.filter_nil]
 . rename_i h1
   refine hN cur _ h1 ⟨by omega,?_⟩ (Wk.kk)
   rw [take_succ 0 c i h1,List.filter_append,← hc,List.filter_cons_of_neg (by simpa using h'),List.filter_nil,List.append_nil]
 . rw [show cur=c.filter fun l => varI l != v by rw [hc,List.take_of_length_le (by omega)]]
   exact ret_sl 7 rfl rfl plain_ints
def putI (c : List Int) (l : Int) : List Int:=c.takeWhile (fun x => decide (varI x < varI l))++l :: c.dropWhile (fun x => decide (varI x < varI l))
theorem takeWhile_at {p : Int->Bool} {c : List Int} {k : Nat} (hk : k<=c.length) (h : ∀ j,j < k->p (c.getD j 0)=true) (h' : k=c.length∨p (c.getD k 0)=false) : c.takeWhile p=c.take k∧c.dropWhile p=c.drop k:=by
 induction c generalizing k with
 | nil => obtain rfl : k = 0 := by simpa using hk
          simp
 | cons x r ih =>
   cases k with
   | zero =>
     have hx : p x = false := by rcases h' with h' | h'
                                 . simp at h'
                                 . simpa using h'
     simp [hx]
   | succ k =>
     have hx : p x=true:=by simpa using h 0 (by omega)
     obtain ⟨h1,h2⟩:=ih (k:=k) (by simpa using hk) (fun j hj => by simpa using h (j + 1) (by omega)) (by simpa using h')
     simp [hx,h1,h2]
theorem l2Put_ok (c : List Int) (l : Int) (hl : c.length<=4294967296) : Ctr Try.prog 145 [.ints c,.int .i64 l] false (.sl 0) [(0,.arr 3 1 ((putI c l).map (.int .i64)))]:=by
 refine Ctr.of (n:=33) (rs:=[.tmp 4]) Try.func145 rfl rfl Try.ntmps145 rfl rfl (by kernel_rfl) Try.checked.mixed ?_
 simp (disch:=first | omega | decide +kernel) only [D.ints,go_sem,Qa,Qb,Qc,Qd,Qe,↓reduceIte,reduceCtorEq,Qf,Qg,Qh]
 (repeat' (first | ((first | (refine gsel_split (fun q' => ?_) (fun q' => ?_)<;>(have h':=q')<;>(try simp only [za1,za2,Ba,Bb,za3,ne_eq,za4,za5,za6,Ia,Ib,Ic,Ie,Da,Bc,Bh,Be,za7,za8] at h')) | (have q':=trivial; first | refine hE _ _ ret_ne ?_ | refine hE _ _ exit_ne ?_))<;>(try simp (disch:=first | omega | decide +kernel) only [q',go_sem,Qa,Qb,Qc,Qd,Qe,↓reduceIte,reduceCtorEq,Qf,Qg,Qh])<;>clear q') | refine hN _ ?_ ?_ Wk.kk | with_reducible refine And.intro ?_ ?_ | with_reducible omega | exact ok_ints | exact cells_ints | exact no_mem | with_reducible exact plain_ints | (refine le_maxLen ?_; omega) | (refine za9 ⟨?_,?_⟩) | (simp only [go_sem,Qc,Qb,zb1,zb2,forall_eq]; done)))
 refine Ok.loopC [21,20,19,18,17,16,15,14,13,12,11,10,9,8,7,6,5,3,2] (fun i => [(5,.d (.int .i64 (i : Nat)))]) c.length (fun i => ∀ j,j < i->varI (c.getD j 0) < varI l) (by simp) (Wk.kk) ?_
 intro R i hN hE hi hI
 simp (disch:=first | omega | decide +kernel) only [go_sem,Qa,Qb,Qc,Qd,Qe,↓reduceIte,reduceCtorEq,Qf,Qg,Qh]
 (repeat' (first | ((first | (refine gsel_split (fun q' => ?_) (fun q' => ?_)<;>(have h':=q')<;>(try simp only [za1,za2,Ba,Bb,za3,ne_eq,za4,za5,za6,Ia,Ib,Ic,Ie,Da,Bc,Bh,Be,za7,za8] at h')) | (have q':=trivial; first | refine callX_new (l2Var_ok _) rfl (by decide) ?_ | refine callY_new (l2Var_ok _) rfl ?_ | refine callX_new (l1Own_ok (c.take i) (by simp; omega)) rfl (by decide) ?_ | refine callY_new (l1Own_ok (c.take i) (by simp; omega)) rfl ?_ | refine hE _ _ ret_ne ?_ | refine hE _ _ exit_ne ?_))<;>(try simp (disch:=first | omega | decide +kernel) only [q',go_sem,Qa,Qb,Qc,Qd,Qe,↓reduceIte,reduceCtorEq,Qf,Qg,Qh])<;>clear q') | refine hN _ ?_ ?_ Wk.kk | with_reducible refine And.intro ?_ ?_ | with_reducible omega | exact ok_ints | exact cells_ints | exact no_mem | with_reducible exact plain_ints | (refine le_maxLen ?_; omega) | (refine za9 ⟨?_,?_⟩) | (simp only [go_sem,Qc,Qb,zb1,zb2,forall_eq]; done)))
 . exact all_succ hI h'
 . have hw:=takeWhile_at (p:=fun x => decide (varI x < varI l)) (Nat.le_of_lt ‹i < c.length›) (fun j hj => by simpa using hI j hj) (.inr (by simpa using h'))
   refine ret_sl 2600000 rfl ?_ plain_ints
   simp only [lk,if_true]
   rw [putI,hw.1,hw.2,List.take_of_length_le (l:=c.drop _) (by rw [List.length_drop]; exact Nat.le_refl _)]
   simp
 . obtain rfl : i=c.length:=by omega
   have hw:=takeWhile_at (p:=fun x => decide (varI x < varI l)) hi (fun j hj => by simpa using hI j hj) (.inl rfl)
   refine ret_sl 2600000 rfl ?_ plain_ints
   simp only [lk,if_true]
   rw [putI,hw.1,hw.2,List.take_of_length_le (l:=c.drop _) (by rw [List.length_drop]; exact Nat.le_refl _)]
   simp
theorem length_putI (c : List Int) (l : Int) : (putI c l).length=c.length + 1:=by
 have:=congrArg List.length (List.takeWhile_append_dropWhile (p:=fun x => decide (varI x < varI l)) (l:=c))
 simp only [List.length_append] at this
 simp only [putI,List.length_append,List.length_cons]; omega
def joinI : List Int->List Int->Option (List Int)
 | a,[] => some a
 | a,x :: r => if a.any (· == IntKind.i64.wrap (0 - x)) then none else joinI (if a.any (· == x) then a else putI a x) r
def optL (o : Option (List Int)) : List Int:=match o with | some c => c | none => []
def resolveI (a b : List Int) (v : Int) : Option (List Int) :=
 if (a.any (· == v) && b.any (· == IntKind.i64.wrap (0 - v)))=true then joinI (a.filter fun l => varI l != v) (b.filter fun l => varI l != v) else none
end Abs.Y

namespace Abs.Y
open Go Go.Proofs Abs
open Nat renaming reduceEqDiff -> Qa, reduceLT -> Qb, reduceAdd -> Qc, reduceMul -> Qd, reduceSub -> Qe, reduceLeDiff -> Qf, reduceSubDiff -> Qg, reduceBEq -> Qh
open Bool renaming not_eq_true' -> Ba, not_eq_false' -> Bb, and_eq_true -> Bc, or_eq_true -> Bh, or_eq_false_iff -> Be
open Int renaming ofNat_lt -> Ia, ofNat_le -> Ib, not_lt -> Ic, not_le -> Ie
open Decidable renaming not_not -> Da
set_option maxRecDepth 100000

@[reducible] def D.ring (p : Int) (u : Nat) : D:=.agg [.int .i64 p,.int .i64 u]
theorem pow_le6 {u : Nat} (h : u<=6) : 2 ^ u<=64:=by
 have : 2 ^ u<=2 ^ 6:=Nat.pow_le_pow_right (by decide) h
 omega
theorem or_lt_pow {a b u : Nat} (ha : a < 2 ^ u) (hb : b < 2 ^ u) : a ||| b < 2 ^ u:=Nat.or_lt_two_pow ha hb
section
variable {p : Int} {u : Nat} (hp : 1 < p∧p<=5) (hu : u<=6)
include hp hu
theorem zero_ok : Ctr Try.prog 146 [D.ring p u] false (.sl 0) [(0,.arr 3 1 ((List.replicate (2 ^ u) (0 : Int)).map (.int .i64)))]:=by
 have h2:=pow_le6 hu
 have e : IntKind.wrap .i64 (1 * 2 ^ min u 64)=((2 ^ u : Nat) : Int):=shl_one (by omega)
 have er : List.replicate (2 ^ u) (D.int .i64 0)=(List.replicate (2 ^ u) (0 : Int)).map (D.int .i64):=by simp
 refine Ctr.of (n:=7) (rs:=[.tmp 2]) Try.func146 rfl rfl Try.ntmps146 rfl rfl (by kernel_rfl) Try.checked.mixed ?_
 simp (disch:=first | omega | decide +kernel) only [e,go_sem,Qa,Qb,Qc,Qd,Qe,↓reduceIte,reduceCtorEq,Qf,Qg,Qh]
 (repeat' (first | ((first | (refine gsel_split (fun q' => ?_) (fun q' => ?_)<;>(have h':=q')<;>(try simp only [za1,za2,Ba,Bb,za3,ne_eq,za4,za5,za6,Ia,Ib,Ic,Ie,Da,Bc,Bh,Be,za7,za8] at h')<;>try (exfalso; omega)) | (have q':=trivial; first | refine hE _ _ ret_ne ?_ | refine hE _ _ exit_ne ?_))<;>(try simp (disch:=first | omega | decide +kernel) only [q',e,go_sem,Qa,Qb,Qc,Qd,Qe,↓reduceIte,reduceCtorEq,Qf,Qg,Qh])<;>clear q') | refine hN _ ?_ ?_ Wk.kk | with_reducible refine And.intro ?_ ?_ | with_reducible omega | exact ok_ints | exact cells_ints | exact no_mem | with_reducible exact plain_ints | (refine le_maxLen ?_; omega) | (refine za9 ⟨?_,?_⟩) | (simp only [go_sem,Qc,Qb,zb1,zb2,forall_eq]; done)))
 generalize 2 ^ u=n at *
 all_goals (first | omega | (rw [er]; exact ret_sl 6 rfl rfl plain_ints))
set_option maxHeartbeats 4000000 in
theorem times_ok {a b : List Int} (ha : Vec p (2 ^ u) a) (hb : Vec p (2 ^ u) b) :
 Ctr Try.prog 115 [D.ring p u,.ints a,.ints b] false (.sl 0) [(0,.arr 3 1 ((mulD p (2 ^ u) a b).map (.int .i64)))]:=by
 have h2:=pow_le6 hu
 have hal:=ha.1
 have hbl:=hb.1
 have c1:=zero_ok hp hu
 refine Ctr.of (n:=49) (rs:=[.tmp 6]) Try.func115 rfl rfl Try.ntmps115 rfl rfl (by kernel_rfl) Try.checked.mixed ?_
 simp (disch:=first | omega | decide +kernel) only [D.ints,go_sem,Qa,Qb,Qc,Qd,Qe,↓reduceIte,reduceCtorEq,Qf,Qg,Qh]
 (repeat' (first | ((first | (refine gsel_split (fun q' => ?_) (fun q' => ?_)<;>(have h':=q')<;>(try simp only [za1,za2,Ba,Bb,za3,ne_eq,za4,za5,za6,Ia,Ib,Ic,Ie,Da,Bc,Bh,Be,za7,za8] at h')<;>try (exfalso; omega)) | (have q':=trivial; first | refine callX_new (c1) rfl (by decide) ?_ | refine callY_new (c1) rfl ?_ | refine hE _ _ ret_ne ?_ | refine hE _ _ exit_ne ?_))<;>(try simp (disch:=first | omega | decide +kernel) only [q',D.ints,go_sem,Qa,Qb,Qc,Qd,Qe,↓reduceIte,reduceCtorEq,Qf,Qg,Qh])<;>clear q') | refine hN _ ?_ ?_ Wk.kk | with_reducible refine And.intro ?_ ?_ | with_reducible omega | exact ok_ints | exact cells_ints | exact no_mem | with_reducible exact plain_ints | (refine le_maxLen ?_; omega) | (refine za9 ⟨?_,?_⟩) | (simp only [go_sem,Qc,Qb,zb1,zb2,forall_eq]; done)))
 refine Ok.loopN [47,46,45,44,43,42,41,40,39,38,37,36,35,34,33,32,31,30,29,28,27,26,25,24,23,22,21,20,19,18,17,16,13,12,11,10,9,8,5,4,1,0] (fun i _ => [(16,.d (.int .i64 (i : Nat)))]) (fun _ (v : List Int) => [(1400000,.arr 3 1 (List.map (D.int .i64) v))]) a.length
  (fun i v => v=(List.range i).foldl (fun v m => rowD p b m (a.getD m 0) v) (List.replicate (2 ^ u) 0)) (List.replicate (2 ^ u) 0) rfl (Wk.kk) ?_
 rintro R i v hN0 hE0 hi hv
 have hvv : Vec p (2 ^ u) v:=by rw [hv]; exact fold_vec (fun v m h => h.rowD (by omega) b m _) _ (Vec.zero (by omega) _)
 by_cases hlt : i < a.length
 . have hsucc : (List.range (i + 1)).foldl (fun v m => rowD p b m (a.getD m 0) v) (List.replicate (2 ^ u) 0)=rowD p b i (a.getD i 0) v:=by
    rw [List.range_succ,List.foldl_append,← hv]; rfl
   have hai:=ha.2 i
   clear hv
   simp (disch:=first | omega | decide +kernel) only [go_sem,Qa,Qb,Qc,Qd,Qe,↓reduceIte,reduceCtorEq,Qf,Qg,Qh]
   (repeat' (first | ((first | (refine gsel_split (fun q' => ?_) (fun q' => ?_)<;>(have h':=q')<;>(try simp only [za1,za2,Ba,Bb,za3,ne_eq,za4,za5,za6,Ia,Ib,Ic,Ie,Da,Bc,Bh,Be,za7,za8] at h')<;>try (exfalso; omega)) | (have q':=trivial; first | refine hE _ _ ret_ne ?_ | refine hE _ _ exit_ne ?_))<;>(try simp (disch:=first | omega | decide +kernel) only [q',go_sem,Qa,Qb,Qc,Qd,Qe,↓reduceIte,reduceCtorEq,Qf,Qg,Qh])<;>clear q') | refine hN _ ?_ ?_ Wk.kk | with_reducible refine And.intro ?_ ?_ | with_reducible omega | exact ok_ints | exact cells_ints | exact no_mem | with_reducible exact plain_ints | (refine le_maxLen ?_; omega) | (refine za9 ⟨?_,?_⟩) | (simp only [go_sem,Qc,Qb,zb1,zb2,forall_eq]; done)))
   refine Ok.loopN [46,45,44,43,42,41,40,39,38,37,36,35,34,33,32,31,30,29,28,27,26,25,24,23,13,12,11,10,5,4,1,0] (fun j _ => [(23,.d (.int .i64 (j : Nat)))]) (fun _ (w : List Int) => [(1400000,.arr 3 1 (List.map (D.int .i64) w))]) b.length
    (fun j w => w=(List.range j).foldl (fun v n => stP p v (i ||| n) (a.getD i 0 * b.getD n 0)) v) v rfl (Wk.kk) ?_
   rintro R2 j w hN hE hj hw
   have hwv : Vec p (2 ^ u) w:=by rw [hw]; exact fold_vec (fun v t h => h.st (by omega) _ _) _ hvv
   by_cases hjt : j < b.length
   . have hs2 : (List.range (j + 1)).foldl (fun v n => stP p v (i ||| n) (a.getD i 0 * b.getD n 0)) v=w.set (i ||| j) ((w.getD (i ||| j) 0 + a.getD i 0 * b.getD j 0) % p):=by
      rw [List.range_succ,List.foldl_append,← hw]; rfl
     have hor:=or_lt_pow (a:=i) (b:=j) (u:=u) (by omega) (by omega)
     have eo:=bitV_or (a:=i) (b:=j) (by omega) (by omega)
     have hbj:=hb.2 j
     have hwk:=hwv.2 (i ||| j)
     have hwl:=hwv.1
     clear hw
     generalize i ||| j=k at *
     have hcd : 0<=a.getD i 0 * b.getD j 0∧a.getD i 0 * b.getD j 0<=25:=⟨Int.mul_nonneg hai.1 hbj.1,Int.le_trans (Int.mul_le_mul (show a.getD i 0<=5 by omega) (show b.getD j 0<=5 by omega) hbj.1 (by decide)) (by decide)⟩
     have em : (w.getD k 0 + a.getD i 0 * b.getD j 0).tmod p=(w.getD k 0 + a.getD i 0 * b.getD j 0) % p:=Int.tmod_eq_emod_of_nonneg (by omega)
     have hp0 : ¬ p=0:=by omega
     simp (disch:=first | omega | decide +kernel) only [eo,em,go_sem,Qa,Qb,Qc,Qd,Qe,↓reduceIte,reduceCtorEq,Qf,Qg,Qh]
     (repeat' (first | ((first | (refine gsel_split (fun q' => ?_) (fun q' => ?_)<;>(have h':=q')<;>(try simp only [za1,za2,Ba,Bb,za3,ne_eq,za4,za5,za6,Ia,Ib,Ic,Ie,Da,Bc,Bh,Be,za7,za8] at h')<;>try (exfalso; omega)) | (have q':=trivial; first | refine hE _ _ ret_ne ?_ | refine hE _ _ exit_ne ?_))<;>(try simp (disch:=first | omega | decide +kernel) only [q',eo,em,go_sem,Qa,Qb,Qc,Qd,Qe,↓reduceIte,reduceCtorEq,Qf,Qg,Qh])<;>clear q') | refine hN _ ?_ ?_ Wk.kk | with_reducible refine And.intro ?_ ?_ | with_reducible omega | exact ok_ints | exact cells_ints | exact no_mem | with_reducible exact plain_ints | (refine le_maxLen ?_; omega) | (refine za9 ⟨?_,?_⟩) | (simp only [go_sem,Qc,Qb,zb1,zb2,forall_eq]; done)))
     all_goals (first | omega | (refine hN (w.set k ((w.getD k 0 + a.getD i 0 * b.getD j 0) % p)) _ hjt hs2.symm (by refine Wk.auto ?_ ?_<;>simp [extraK,lk,killL,St.kill,wipeO,wipeS,AV.has,AV.hasL,AO.wipe,List.map_set,updSt,insL,dropS,ins,]); done))
   . obtain rfl : j=b.length:=by omega
     simp (disch:=first | omega | decide +kernel) only [go_sem,Qa,Qb,Qc,Qd,Qe,↓reduceIte,reduceCtorEq,Qf,Qg,Qh]
     (repeat' (first | ((first | (refine gsel_split (fun q' => ?_) (fun q' => ?_)<;>(have h':=q')<;>(try simp only [za1,za2,Ba,Bb,za3,ne_eq,za4,za5,za6,Ia,Ib,Ic,Ie,Da,Bc,Bh,Be,za7,za8] at h')<;>try (exfalso; omega)) | (have q':=trivial; first | refine hE _ _ ret_ne ?_ | refine hE _ _ exit_ne ?_))<;>(try simp (disch:=first | omega | decide +kernel) only [q',go_sem,Qa,Qb,Qc,Qd,Qe,↓reduceIte,reduceCtorEq,Qf,Qg,Qh])<;>clear q') | refine hN _ ?_ ?_ Wk.kk | with_reducible refine And.intro ?_ ?_ | with_reducible omega | exact ok_ints | exact cells_ints | exact no_mem | with_reducible exact plain_ints | (refine le_maxLen ?_; omega) | (refine za9 ⟨?_,?_⟩) | (simp only [go_sem,Qc,Qb,zb1,zb2,forall_eq]; done)))
     all_goals (first | omega | (refine hN0 w _ hlt (by rw [hw]; exact hsucc.symm) (by refine Wk.auto ?_ ?_<;>simp [extraK,lk,killL,St.kill,wipeO,wipeS,AV.has,AV.hasL,AO.wipe,List.map_set,updSt,insL,dropS,ins,]); done))
 . obtain rfl : i=a.length:=by omega
   have hE:=hE0
   have hv2 : v=mulD p (2 ^ u) a b:=hv
   simp (disch:=first | omega | decide +kernel) only [go_sem,Qa,Qb,Qc,Qd,Qe,↓reduceIte,reduceCtorEq,Qf,Qg,Qh]
   (repeat' (first | ((first | (refine gsel_split (fun q' => ?_) (fun q' => ?_)<;>(have h':=q')<;>(try simp only [za1,za2,Ba,Bb,za3,ne_eq,za4,za5,za6,Ia,Ib,Ic,Ie,Da,Bc,Bh,Be,za7,za8] at h')<;>try (exfalso; omega)) | (have q':=trivial; first | refine hE _ _ ret_ne ?_ | refine hE _ _ exit_ne ?_))<;>(try simp (disch:=first | omega | decide +kernel) only [q',go_sem,Qa,Qb,Qc,Qd,Qe,↓reduceIte,reduceCtorEq,Qf,Qg,Qh])<;>clear q') | refine hN _ ?_ ?_ Wk.kk | with_reducible refine And.intro ?_ ?_ | with_reducible omega | exact ok_ints | exact cells_ints | exact no_mem | with_reducible exact plain_ints | (refine le_maxLen ?_; omega) | (refine za9 ⟨?_,?_⟩) | (simp only [go_sem,Qc,Qb,zb1,zb2,forall_eq]; done)))
   all_goals (first | omega | (rw [← hv2]; exact ret_sl 1400000 rfl rfl plain_ints))
theorem cloneD_ok {a : List Int} (hl : a.length<=4294967296) : Ctr Try.prog 160 [.ints a] false (.sl 0) [(0,.arr 3 1 (a.map (.int .i64)))]:=by
 refine Ctr.of (n:=8) (rs:=[.tmp 2]) Try.func160 rfl rfl Try.ntmps160 rfl rfl (by kernel_rfl) Try.checked.mixed ?_
 simp (disch:=first | omega | decide +kernel) only [D.ints,go_sem,Qa,Qb,Qc,Qd,Qe,↓reduceIte,reduceCtorEq,Qf,Qg,Qh]
 intro b hb
 cases b with
 | true =>
   obtain rfl : a=[]:=by cases a with | nil => rfl | cons x r => simp at hb
   simp (disch:=first | omega | decide +kernel) only [go_sem,Qa,Qb,Qc,Qd,Qe,↓reduceIte,reduceCtorEq,Qf,Qg,Qh]
   (repeat' (first | ((first | (refine gsel_split (fun q' => ?_) (fun q' => ?_)<;>(have h':=q')<;>(try simp only [za1,za2,Ba,Bb,za3,ne_eq,za4,za5,za6,Ia,Ib,Ic,Ie,Da,Bc,Bh,Be,za7,za8] at h')) | (have q':=trivial; first | refine hE _ _ ret_ne ?_ | refine hE _ _ exit_ne ?_))<;>(try simp (disch:=first | omega | decide +kernel) only [q',go_sem,Qa,Qb,Qc,Qd,Qe,↓reduceIte,reduceCtorEq,Qf,Qg,Qh])<;>clear q') | refine hN _ ?_ ?_ Wk.kk | with_reducible refine And.intro ?_ ?_ | with_reducible omega | exact ok_ints | exact cells_ints | exact no_mem | with_reducible exact plain_ints | (refine le_maxLen ?_; omega) | (refine za9 ⟨?_,?_⟩) | (simp only [go_sem,Qc,Qb,zb1,zb2,forall_eq]; done)))
   exact ret_sl 2 rfl rfl no_mem
 | false =>
   simp (disch:=first | omega | decide +kernel) only [go_sem,Qa,Qb,Qc,Qd,Qe,↓reduceIte,reduceCtorEq,Qf,Qg,Qh]
   (repeat' (first | ((first | (refine gsel_split (fun q' => ?_) (fun q' => ?_)<;>(have h':=q')<;>(try simp only [za1,za2,Ba,Bb,za3,ne_eq,za4,za5,za6,Ia,Ib,Ic,Ie,Da,Bc,Bh,Be,za7,za8] at h')) | (have q':=trivial; first | refine hE _ _ ret_ne ?_ | refine hE _ _ exit_ne ?_))<;>(try simp (disch:=first | omega | decide +kernel) only [q',go_sem,Qa,Qb,Qc,Qd,Qe,↓reduceIte,reduceCtorEq,Qf,Qg,Qh])<;>clear q') | refine hN _ ?_ ?_ Wk.kk | with_reducible refine And.intro ?_ ?_ | with_reducible omega | exact ok_ints | exact cells_ints | exact no_mem | with_reducible exact plain_ints | (refine le_maxLen ?_; omega) | (refine za9 ⟨?_,?_⟩) | (simp only [go_sem,Qc,Qb,zb1,zb2,forall_eq]; done)))
   exact ret_sl 5 rfl rfl plain_ints
set_option maxHeartbeats 4000000 in
theorem plus_ok {a b : List Int} {k : Int} (ha : Vec p (2 ^ u) a) (hb : Vec p (2 ^ u) b) (hk : 0<=k∧k<=5) :
 Ctr Try.prog 147 [D.ring p u,.ints a,.ints b,.int .i64 k] false (.sl 0) [(0,.arr 3 1 ((addD p k a b).map (.int .i64)))]:=by
 have h2:=pow_le6 hu
 have hal:=ha.1
 have hbl:=hb.1
 have c1:=cloneD_ok hp hu (a:=a) (by omega)
 refine Ctr.of (n:=37) (rs:=[.tmp 8]) Try.func147 rfl rfl Try.ntmps147 rfl rfl (by kernel_rfl) Try.checked.mixed ?_
 simp (disch:=first | omega | decide +kernel) only [D.ints,go_sem,Qa,Qb,Qc,Qd,Qe,↓reduceIte,reduceCtorEq,Qf,Qg,Qh]
 (repeat' (first | ((first | (refine gsel_split (fun q' => ?_) (fun q' => ?_)<;>(have h':=q')<;>(try simp only [za1,za2,Ba,Bb,za3,ne_eq,za4,za5,za6,Ia,Ib,Ic,Ie,Da,Bc,Bh,Be,za7,za8] at h')<;>try (exfalso; omega)) | (have q':=trivial; first | refine callX_new (c1) rfl (by decide) ?_ | refine callY_new (c1) rfl ?_ | refine hE _ _ ret_ne ?_ | refine hE _ _ exit_ne ?_))<;>(try simp (disch:=first | omega | decide +kernel) only [q',D.ints,go_sem,Qa,Qb,Qc,Qd,Qe,↓reduceIte,reduceCtorEq,Qf,Qg,Qh])<;>clear q') | refine hN _ ?_ ?_ Wk.kk | with_reducible refine And.intro ?_ ?_ | with_reducible omega | exact ok_ints | exact cells_ints | exact no_mem | with_reducible exact plain_ints | (refine le_maxLen ?_; omega) | (refine za9 ⟨?_,?_⟩) | (simp only [go_sem,Qc,Qb,zb1,zb2,forall_eq]; done)))
 refine Ok.loopN [35,34,33,32,31,30,29,28,27,26,25,24,23,22,21,20,19,18,17,16,13,12,11,10,7,6,5,2,1,0] (fun i _ => [(16,.d (.int .i64 (i : Nat)))]) (fun _ (v : List Int) => [(1400000,.arr 3 1 (List.map (D.int .i64) v))]) b.length
  (fun i v => v.length=a.length∧∀ j,v.getD j 0=if j < i then (a.getD j 0 + k * b.getD j 0) % p else a.getD j 0) a ⟨rfl,by simp⟩ (Wk.kk) ?_
 rintro R i v hN hE hi ⟨hvl,hv⟩
 by_cases hlt : i < b.length
 . have hvi:=hv i
   rw [if_neg (by omega)] at hvi
   have hai:=ha.2 i
   have hbi:=hb.2 i
   have hkb : 0<=k * b.getD i 0∧k * b.getD i 0<=25:=⟨Int.mul_nonneg hk.1 hbi.1,Int.le_trans (Int.mul_le_mul hk.2 (show b.getD i 0<=5 by omega) hbi.1 (by decide)) (by decide)⟩
   have em : (a.getD i 0 + k * b.getD i 0).tmod p=(a.getD i 0 + k * b.getD i 0) % p:=Int.tmod_eq_emod_of_nonneg (by omega)
   have hp0 : ¬ p=0:=by omega
   have hset : ∀ j,(v.set i ((a.getD i 0 + k * b.getD i 0) % p)).getD j 0=if j < i + 1 then (a.getD j 0 + k * b.getD j 0) % p else a.getD j 0:=fun j => by
    rw [getD_set]
    by_cases e : i=j
    . subst e; rw [if_pos ⟨rfl,by omega⟩,if_pos (by omega)]
    . rw [if_neg (fun h => e h.1),hv j]
      by_cases e2 : j < i
      . rw [if_pos e2,if_pos (by omega)]
      . rw [if_neg e2,if_neg (by omega)]
   clear hv
   simp (disch:=first | omega | decide +kernel) only [hvi,em,go_sem,Qa,Qb,Qc,Qd,Qe,↓reduceIte,reduceCtorEq,Qf,Qg,Qh]
   (repeat' (first | ((first | (refine gsel_split (fun q' => ?_) (fun q' => ?_)<;>(have h':=q')<;>(try simp only [za1,za2,Ba,Bb,za3,ne_eq,za4,za5,za6,Ia,Ib,Ic,Ie,Da,Bc,Bh,Be,za7,za8] at h')<;>try (exfalso; omega)) | (have q':=trivial; first | refine hE _ _ ret_ne ?_ | refine hE _ _ exit_ne ?_))<;>(try simp (disch:=first | omega | decide +kernel) only [q',hvi,em,go_sem,Qa,Qb,Qc,Qd,Qe,↓reduceIte,reduceCtorEq,Qf,Qg,Qh])<;>clear q') | refine hN _ ?_ ?_ Wk.kk | with_reducible refine And.intro ?_ ?_ | with_reducible omega | exact ok_ints | exact cells_ints | exact no_mem | with_reducible exact plain_ints | (refine le_maxLen ?_; omega) | (refine za9 ⟨?_,?_⟩) | (simp only [go_sem,Qc,Qb,zb1,zb2,forall_eq]; done)))
   all_goals (first | omega | (refine hN (v.set i ((a.getD i 0 + k * b.getD i 0) % p)) _ hlt ⟨by simp [hvl],hset⟩ (by refine Wk.auto ?_ ?_<;>simp [extraK,lk,killL,St.kill,wipeO,wipeS,AV.has,AV.hasL,AO.wipe,List.map_set,updSt,insL,dropS,ins,]); done))
 . obtain rfl : i=b.length:=by omega
   have hv2 : v=addD p k a b:=by
    refine ext_getDz 0 (by simp [addD]; omega) fun j hj => ?_
    rw [hv j,if_pos (by omega),addD,getD_zip _ _ _ (by omega) j (by omega)]
   simp (disch:=first | omega | decide +kernel) only [go_sem,Qa,Qb,Qc,Qd,Qe,↓reduceIte,reduceCtorEq,Qf,Qg,Qh]
   (repeat' (first | ((first | (refine gsel_split (fun q' => ?_) (fun q' => ?_)<;>(have h':=q')<;>(try simp only [za1,za2,Ba,Bb,za3,ne_eq,za4,za5,za6,Ia,Ib,Ic,Ie,Da,Bc,Bh,Be,za7,za8] at h')<;>try (exfalso; omega)) | (have q':=trivial; first | refine hE _ _ ret_ne ?_ | refine hE _ _ exit_ne ?_))<;>(try simp (disch:=first | omega | decide +kernel) only [q',go_sem,Qa,Qb,Qc,Qd,Qe,↓reduceIte,reduceCtorEq,Qf,Qg,Qh])<;>clear q') | refine hN _ ?_ ?_ Wk.kk | with_reducible refine And.intro ?_ ?_ | with_reducible omega | exact ok_ints | exact cells_ints | exact no_mem | with_reducible exact plain_ints | (refine le_maxLen ?_; omega) | (refine za9 ⟨?_,?_⟩) | (simp only [go_sem,Qc,Qb,zb1,zb2,forall_eq]; done)))
   all_goals (first | omega | (rw [← hv2]; exact ret_sl 1400000 rfl rfl plain_ints))
def monoD (u m : Nat) : List Int:=(List.replicate (2 ^ u) 0).set m 1
omit hp hu in
theorem Vec.mono {p : Int} (hp : 1 < p) (u m : Nat) : Vec p (2 ^ u) (monoD u m):=by
 have h:=Vec.zero (p:=p) (by omega) (2 ^ u)
 refine ⟨by simp [monoD],fun i => ?_⟩
 rw [monoD,getD_set]
 split
 . omega
 . exact h.2 i
theorem mono_ok {m : Nat} (hm : m < 2 ^ u) : Ctr Try.prog 114 [D.ring p u,.int .i64 m] false (.sl 0) [(0,.arr 3 1 ((monoD u m).map (.int .i64)))]:=by
 have h2:=pow_le6 hu
 have c1:=zero_ok hp hu
 unfold monoD
 have hl : (List.replicate (2 ^ u) (0 : Int)).length=2 ^ u:=by simp
 generalize List.replicate (2 ^ u) (0 : Int)=z at *
 refine Ctr.of (n:=12) (rs:=[.tmp 4]) Try.func114 rfl rfl Try.ntmps114 rfl rfl (by kernel_rfl) Try.checked.mixed ?_
 simp (disch:=first | omega | decide +kernel) only [go_sem,Qa,Qb,Qc,Qd,Qe,↓reduceIte,reduceCtorEq,Qf,Qg,Qh]
 (repeat' (first | ((first | (refine gsel_split (fun q' => ?_) (fun q' => ?_)<;>(have h':=q')<;>(try simp only [za1,za2,Ba,Bb,za3,ne_eq,za4,za5,za6,Ia,Ib,Ic,Ie,Da,Bc,Bh,Be,za7,za8] at h')<;>try (exfalso; omega)) | (have q':=trivial; first | refine callX_new (c1) rfl (by decide) ?_ | refine callY_new (c1) rfl ?_ | refine hE _ _ ret_ne ?_ | refine hE _ _ exit_ne ?_))<;>(try simp (disch:=first | omega | decide +kernel) only [q',go_sem,Qa,Qb,Qc,Qd,Qe,↓reduceIte,reduceCtorEq,Qf,Qg,Qh])<;>clear q') | refine hN _ ?_ ?_ Wk.kk | with_reducible refine And.intro ?_ ?_ | with_reducible omega | exact ok_ints | exact cells_ints | exact no_mem | with_reducible exact plain_ints | (refine le_maxLen ?_; omega) | (refine za9 ⟨?_,?_⟩) | (simp only [go_sem,Qc,Qb,zb1,zb2,forall_eq]; done)))
 all_goals (first | omega | (rw [List.map_set]; exact ret_sl 800000 rfl rfl (by rw [← List.map_set]; exact plain_ints)))
end
end Abs.Y
