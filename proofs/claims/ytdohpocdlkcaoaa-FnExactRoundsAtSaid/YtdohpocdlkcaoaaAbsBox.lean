/- What functions of this program compute, over plain data. No condition. -/
import Derived.Test.YtdohpocdlkcaoaaAbsBits16
import Derived.Test.YtdohpocdlkcaoaaG3
set_option linter.all false
namespace Abs.Y
open Go Go.Proofs Abs
open Nat renaming reduceEqDiff -> Qa, reduceLT -> Qb, reduceAdd -> Qc, reduceMul -> Qd, reduceSub -> Qe, reduceLeDiff -> Qf, reduceSubDiff -> Qg, reduceBEq -> Qh
open Bool renaming not_eq_true' -> Ba, not_eq_false' -> Bb, and_eq_true -> Bc, or_eq_true -> Bd, or_eq_false_iff -> Be
open Int renaming ofNat_lt -> Ia, ofNat_le -> Ib, not_lt -> Ic, not_le -> Ie
open Decidable renaming not_not -> Da
set_option maxRecDepth 100000

@[reducible] def D.mk (m : Nat) : D:=.int .u16 (m : Int)
theorem swN_lt {m : Nat} (h : m < 4096) : swN m < 4096:=by
 unfold swN
 have h1 : m &&& 63 < 64:=Nat.lt_of_le_of_lt Nat.and_le_right (by omega)
 refine Nat.or_lt_two_pow (n:=12) ?_ ?_
 . rw [Nat.shiftLeft_eq]; omega
 . exact Nat.lt_of_le_of_lt (Nat.shiftRight_le m 6) h
theorem and63 {m : Nat} (h : m < 65536) : bitV .and .u16 (m : Int) 63=((m &&& 63 : Nat) : Int):=and16 (b:=63) h (by omega)
theorem shl6 {m : Nat} (h : m < 1024) : IntKind.wrap .u16 ((m : Int) * 2 ^ min (Int.toNat 6) 16)=((m <<< 6 : Nat) : Int):=shl16 (e:=6) (by omega) (by omega)
theorem shr6 {m : Nat} : (m : Int).fdiv (2 ^ min (Int.toNat 6) 16)=((m >>> 6 : Nat) : Int):=shr16 (e:=6) (by omega)
theorem lt63 (m : Nat) : m &&& 63 < 64:=Nat.lt_of_le_of_lt Nat.and_le_right (by omega)
theorem swapped_ok (m : Nat) (h : m < 4096) : Ctr Try.prog 218 [D.mk m] false (.d (D.mk (swN m))) []:=by
 have h1:=lt63 m
 have e1:=and63 (m:=m) (by omega)
 have e2:=shl6 (m:=m &&& 63) (by omega)
 have e3:=shr6 (m:=m)
 have e4:=or16 (a:=(m &&& 63) <<< 6) (b:=m >>> 6) (by rw [Nat.shiftLeft_eq]; omega) (Nat.lt_of_le_of_lt (Nat.shiftRight_le m 6) (by omega))
 unfold swN
 refine Ctr.of (n:=9) (rs:=[.tmp 2]) Try.func218 rfl rfl Try.ntmps218 rfl rfl (by kernel_rfl) Try.checked.mixed ?_
 simp (disch:=first | omega | decide +kernel) only [e1,e2,e3,e4,go_sem,Qa,Qb,Qc,Qd,Qe,↓reduceIte,reduceCtorEq,Qf,Qg,Qh]
 all_goals decide
theorem clN_lt {a b : Nat} (ha : a < 4096) : clN a b < 4096:=Nat.lt_of_le_of_lt Nat.and_le_left ha
theorem bothOf_ok (a b : Nat) (ha : a < 4096) (hb : b < 4096) : Ctr Try.prog 168 [D.mk a,D.mk b] false (.d (D.mk (boN a b))) []:=by
 have c1:=swapped_ok b hb
 have h1:=swN_lt hb
 have h2:=clN_lt (b:=b) ha
 have e1:=and16 (a:=a) (b:=swN b) (by omega) (by omega)
 have e3:=shr6 (m:=clN a b)
 have h3 : clN a b >>> 6 < 4096:=Nat.lt_of_le_of_lt (Nat.shiftRight_le _ 6) h2
 have e4:=or16 (a:=clN a b) (b:=clN a b >>> 6) (by omega) (by omega)
 have h4 : clN a b ||| clN a b >>> 6 < 4096:=Nat.or_lt_two_pow (n:=12) h2 h3
 have e5:=and63 (m:=clN a b ||| clN a b >>> 6) (by omega)
 rw [show a &&& swN b=clN a b from rfl] at e1
 unfold boN
 refine Ctr.of (n:=15) (rs:=[.tmp 4]) Try.func168 rfl rfl Try.ntmps168 rfl rfl (by kernel_rfl) Try.checked.mixed ?_
 simp (disch:=first | omega | decide +kernel) only [e1,e3,e4,e5,go_sem,Qa,Qb,Qc,Qd,Qe,↓reduceIte,reduceCtorEq,Qf,Qg,Qh]
 (repeat' (first | ((first | (refine gsel_split (fun q' => ?_) (fun q' => ?_)<;>(have h':=q')<;>(try simp only [za1,za2,Ba,Bb,za3,ne_eq,za4,za5,za6,Ia,Ib,Ic,Ie,Da,Bc,Bd,Be,za7,za8] at h')) | (have q':=trivial; first | refine callX_new (c1) rfl (by decide) ?_ | refine callY_new (c1) rfl ?_ | refine hE _ _ ret_ne ?_ | refine hE _ _ exit_ne ?_))<;>(try simp (disch:=first | omega | decide +kernel) only [q',e1,e3,e4,e5,go_sem,Qa,Qb,Qc,Qd,Qe,↓reduceIte,reduceCtorEq,Qf,Qg,Qh])<;>clear q') | refine hN _ ?_ ?_ Wk.kk | with_reducible refine And.intro ?_ ?_ | with_reducible omega | exact ok_ints | exact cells_ints | exact no_mem | with_reducible exact plain_ints | (refine le_maxLen ?_; omega) | (refine za9 ⟨?_,?_⟩) | (simp only [go_sem,Qc,Qb,zb1,zb2,forall_eq]; done)))
 all_goals first | decide | trace_state
theorem one_ok (m : Nat) (h : m < 4096) : Ctr Try.prog 169 [D.mk m] false (.d (.bool (oneN m))) []:=by
 unfold oneN
 refine Ctr.of (n:=12) (rs:=[.tmp 2]) Try.func169 rfl rfl Try.ntmps169 rfl rfl (by kernel_rfl) Try.checked.mixed ?_
 by_cases h0 : m=0
 . subst h0
   simp (disch:=first | omega | decide +kernel) only [go_sem,Qa,Qb,Qc,Qd,Qe,↓reduceIte,reduceCtorEq,Qf,Qg,Qh]
   (repeat' (first | ((first | (refine gsel_split (fun q' => ?_) (fun q' => ?_)<;>(have h':=q')<;>(try simp only [za1,za2,Ba,Bb,za3,ne_eq,za4,za5,za6,Ia,Ib,Ic,Ie,Da,Bc,Bd,Be,za7,za8] at h')<;>try (exfalso; omega)) | (have q':=trivial; first | refine hE _ _ ret_ne ?_ | refine hE _ _ exit_ne ?_))<;>(try simp (disch:=first | omega | decide +kernel) only [q',go_sem,Qa,Qb,Qc,Qd,Qe,↓reduceIte,reduceCtorEq,Qf,Qg,Qh])<;>clear q') | refine hN _ ?_ ?_ Wk.kk | with_reducible refine And.intro ?_ ?_ | with_reducible omega | exact ok_ints | exact cells_ints | exact no_mem | with_reducible exact plain_ints | (refine le_maxLen ?_; omega) | (refine za9 ⟨?_,?_⟩) | (simp only [go_sem,Qc,Qb,zb1,zb2,forall_eq]; done)))
   all_goals first | rfl | exact absurd rfl h'
 . have e0 : IntKind.wrap .u16 ((m : Int) - 1)=((m - 1 : Nat) : Int):=by rw [wrap16' (by omega)]; omega
   have e1:=and16 (a:=m) (b:=m - 1) (by omega) (by omega)
   simp (disch:=first | omega | decide +kernel) only [e0,e1,go_sem,Qa,Qb,Qc,Qd,Qe,↓reduceIte,reduceCtorEq,Qf,Qg,Qh]
   (repeat' (first | ((first | (refine gsel_split (fun q' => ?_) (fun q' => ?_)<;>(have h':=q')<;>(try simp only [za1,za2,Ba,Bb,za3,ne_eq,za4,za5,za6,Ia,Ib,Ic,Ie,Da,Bc,Bd,Be,za7,za8] at h')<;>try (exfalso; omega)) | (have q':=trivial; first | refine hE _ _ ret_ne ?_ | refine hE _ _ exit_ne ?_))<;>(try simp (disch:=first | omega | decide +kernel) only [q',e0,e1,go_sem,Qa,Qb,Qc,Qd,Qe,↓reduceIte,reduceCtorEq,Qf,Qg,Qh])<;>clear q') | refine hN _ ?_ ?_ Wk.kk | with_reducible refine And.intro ?_ ?_ | with_reducible omega | exact ok_ints | exact cells_ints | exact no_mem | with_reducible exact plain_ints | (refine le_maxLen ?_; omega) | (refine za9 ⟨?_,?_⟩) | (simp only [go_sem,Qc,Qb,zb1,zb2,forall_eq]; done)))
   all_goals (rw [show (m != 0)=true by simpa using h0,Bool.true_and]; congr 1; rw [Bool.eq_iff_iff]; simp)
theorem mkN_take {c : List Int} {i : Nat} (hi : i < c.length) : mkN (c.take (i + 1))=mkN (c.take i) ||| 2 ^ bitOf (c.getD i 0):=by
 rw [take_succ 0 c i hi,mkN,List.foldl_append]; rfl
theorem maskOf_ok {c : List Int} (g : G6 c) (hl : c.length<=4294967296) : Ctr Try.prog 167 [.ints c] false (.d (D.mk (mkN c))) []:=by
 refine Ctr.of (n:=27) (rs:=[.tmp 2]) Try.func167 rfl rfl Try.ntmps167 rfl rfl (by kernel_rfl) Try.checked.mixed ?_
 simp (disch:=first | omega | decide +kernel) only [D.ints,go_sem,Qa,Qb,Qc,Qd,Qe,↓reduceIte,reduceCtorEq,Qf,Qg,Qh]
 (repeat' (first | ((first | (refine gsel_split (fun q' => ?_) (fun q' => ?_)<;>(have h':=q')<;>(try simp only [za1,za2,Ba,Bb,za3,ne_eq,za4,za5,za6,Ia,Ib,Ic,Ie,Da,Bc,Bd,Be,za7,za8] at h')) | (have q':=trivial; first | refine hE _ _ ret_ne ?_ | refine hE _ _ exit_ne ?_))<;>(try simp (disch:=first | omega | decide +kernel) only [q',go_sem,Qa,Qb,Qc,Qd,Qe,↓reduceIte,reduceCtorEq,Qf,Qg,Qh])<;>clear q') | refine hN _ ?_ ?_ Wk.kk | with_reducible refine And.intro ?_ ?_ | with_reducible omega | exact ok_ints | exact cells_ints | exact no_mem | with_reducible exact plain_ints | (refine le_maxLen ?_; omega) | (refine za9 ⟨?_,?_⟩) | (simp only [go_sem,Qc,Qb,zb1,zb2,forall_eq]; done)))
 refine Ok.loopN [25,24,23,22,21,20,19,18,17,16,15,14,13,12,11,10,9,8,5,4,3,1,0] (fun i m => [(8,.d (.int .i64 (i : Nat))),(3,.d (D.mk m))]) (fun _ _ => []) c.length (fun i m => m=mkN (c.take i)∧m < 4096) 0 ⟨rfl,by omega⟩ (Wk.kk) ?_
 rintro R i m hN hE hi ⟨hm,hm2⟩
 by_cases hlt : i < c.length
 . have hx:=getD_mem (z:=(0 : Int)) hlt
   have h0:=(g.1.2 _ hx).1
   have h6:=g.2 _ hx
   have hb:=bitOf_lt h0 h6
   have hp : 2 ^ bitOf (c.getD i 0) < 4096:=Nat.pow_lt_pow_right (a:=2) (n:=12) (by omega) hb
   have hs:=mkN_take hlt
   rw [← hm] at hs
   have e1:=shl16 (a:=1) (e:=bitOf (c.getD i 0)) (by omega) (by omega)
   rw [Nat.one_shiftLeft] at e1
   have e2:=or16 (a:=m) (b:=2 ^ bitOf (c.getD i 0)) (by omega) (by omega)
   have e3 : m ||| 2 ^ bitOf (c.getD i 0) < 4096:=Nat.or_lt_two_pow (n:=12) hm2 hp
   have e4 : 0 < c.getD i 0->(c.getD i 0 - 1).toNat=bitOf (c.getD i 0):=fun h => by unfold bitOf; rw [if_pos h]
   have e5 : ¬ 0 < c.getD i 0->(6 - c.getD i 0 - 1).toNat=bitOf (c.getD i 0):=fun h => by unfold bitOf; rw [if_neg h]; omega
   have e6 : c.getD i 0 > 0->IntKind.wrap .u16 (1 * 2 ^ min (c.getD i 0 - 1).toNat 16)=((2 ^ bitOf (c.getD i 0) : Nat) : Int):=fun h => by rw [e4 h]; exact e1
   have e7 : ¬ c.getD i 0 > 0->IntKind.wrap .u16 (1 * 2 ^ min (6 - c.getD i 0 - 1).toNat 16)=((2 ^ bitOf (c.getD i 0) : Nat) : Int):=fun h => by rw [e5 h]; exact e1
   clear e4 e5 e1
   generalize 2 ^ bitOf (c.getD i 0)=B at *
   by_cases hp : c.getD i 0 > 0
   . have e8:=e6 hp
     simp (disch:=first | omega | decide +kernel) only [D.ints,e8,e2,go_sem,Qa,Qb,Qc,Qd,Qe,↓reduceIte,reduceCtorEq,Qf,Qg,Qh]
     (repeat' (first | ((first | (refine gsel_split (fun q' => ?_) (fun q' => ?_)<;>(have h':=q')<;>(try simp only [za1,za2,Ba,Bb,za3,ne_eq,za4,za5,za6,Ia,Ib,Ic,Ie,Da,Bc,Bd,Be,za7,za8] at h')<;>try (exfalso; omega)) | (have q':=trivial; first | refine hE _ _ ret_ne ?_ | refine hE _ _ exit_ne ?_))<;>(try simp (disch:=first | omega | decide +kernel) only [q',e8,e2,go_sem,Qa,Qb,Qc,Qd,Qe,↓reduceIte,reduceCtorEq,Qf,Qg,Qh])<;>clear q') | refine hN _ ?_ ?_ Wk.kk | with_reducible refine And.intro ?_ ?_ | with_reducible omega | exact ok_ints | exact cells_ints | exact no_mem | with_reducible exact plain_ints | (refine le_maxLen ?_; omega) | (refine za9 ⟨?_,?_⟩) | (simp only [go_sem,Qc,Qb,zb1,zb2,forall_eq]; done)))
     all_goals first | omega | exact hN (m ||| B) _ hlt ⟨hs.symm,e3⟩ (Wk.kk)
   . have e8:=e7 hp
     simp (disch:=first | omega | decide +kernel) only [D.ints,e8,e2,go_sem,Qa,Qb,Qc,Qd,Qe,↓reduceIte,reduceCtorEq,Qf,Qg,Qh]
     (repeat' (first | ((first | (refine gsel_split (fun q' => ?_) (fun q' => ?_)<;>(have h':=q')<;>(try simp only [za1,za2,Ba,Bb,za3,ne_eq,za4,za5,za6,Ia,Ib,Ic,Ie,Da,Bc,Bd,Be,za7,za8] at h')<;>try (exfalso; omega)) | (have q':=trivial; first | refine hE _ _ ret_ne ?_ | refine hE _ _ exit_ne ?_))<;>(try simp (disch:=first | omega | decide +kernel) only [q',e8,e2,go_sem,Qa,Qb,Qc,Qd,Qe,↓reduceIte,reduceCtorEq,Qf,Qg,Qh])<;>clear q') | refine hN _ ?_ ?_ Wk.kk | with_reducible refine And.intro ?_ ?_ | with_reducible omega | exact ok_ints | exact cells_ints | exact no_mem | with_reducible exact plain_ints | (refine le_maxLen ?_; omega) | (refine za9 ⟨?_,?_⟩) | (simp only [go_sem,Qc,Qb,zb1,zb2,forall_eq]; done)))
     all_goals first | omega | exact hN (m ||| B) _ hlt ⟨hs.symm,e3⟩ (Wk.kk)
 . obtain rfl : i=c.length:=by omega
   rw [List.take_length] at hm
   subst hm
   simp (disch:=first | omega | decide +kernel) only [go_sem,Qa,Qb,Qc,Qd,Qe,↓reduceIte,reduceCtorEq,Qf,Qg,Qh]
   (repeat' (first | ((first | (refine gsel_split (fun q' => ?_) (fun q' => ?_)<;>(have h':=q')<;>(try simp only [za1,za2,Ba,Bb,za3,ne_eq,za4,za5,za6,Ia,Ib,Ic,Ie,Da,Bc,Bd,Be,za7,za8] at h')<;>try (exfalso; omega)) | (have q':=trivial; first | refine hE _ _ ret_ne ?_ | refine hE _ _ exit_ne ?_))<;>(try simp (disch:=first | omega | decide +kernel) only [q',go_sem,Qa,Qb,Qc,Qd,Qe,↓reduceIte,reduceCtorEq,Qf,Qg,Qh])<;>clear q') | refine hN _ ?_ ?_ Wk.kk | with_reducible refine And.intro ?_ ?_ | with_reducible omega | exact ok_ints | exact cells_ints | exact no_mem | with_reducible exact plain_ints | (refine le_maxLen ?_; omega) | (refine za9 ⟨?_,?_⟩) | (simp only [go_sem,Qc,Qb,zb1,zb2,forall_eq]; done)))
theorem count_ok (m : Nat) (h : m < 4096) : Ctr Try.prog 170 [D.mk m] false (.d (.int .i64 (pcN m : Nat))) []:=by
 have hp12 : ∀ m,pcN m<=12:=fun m => by unfold pcN; exact Nat.le_trans (List.length_filter_le _ _) (by simp)
 refine Ctr.of (n:=13) (rs:=[.tmp 2]) Try.func170 rfl rfl Try.ntmps170 rfl rfl (by kernel_rfl) Try.checked.mixed ?_
 simp (disch:=first | omega | decide +kernel) only [go_sem,Qa,Qb,Qc,Qd,Qe,↓reduceIte,reduceCtorEq,Qf,Qg,Qh]
 refine Ok.loopN [11,10,9,8,7,6,5,4,3,1,0] (fun i k => [(0,.d (D.mk k)),(3,.d (.int .i64 (i : Nat)))]) (fun _ _ => []) (pcN m) (fun i k => k < 4096∧i + pcN k=pcN m) m ⟨h,by omega⟩ (Wk.kk) ?_
 rintro R i k hN hE hi ⟨hk,hs⟩
 have h12:=hp12 m
 by_cases h0 : k=0
 . subst h0
   rw [pc_zero] at hs
   simp (disch:=first | omega | decide +kernel) only [go_sem,Qa,Qb,Qc,Qd,Qe,↓reduceIte,reduceCtorEq,Qf,Qg,Qh]
   (repeat' (first | ((first | (refine gsel_split (fun q' => ?_) (fun q' => ?_)<;>(have h':=q')<;>(try simp only [za1,za2,Ba,Bb,za3,ne_eq,za4,za5,za6,Ia,Ib,Ic,Ie,Da,Bc,Bd,Be,za7,za8] at h')<;>try (exfalso; omega)) | (have q':=trivial; first | refine hE _ _ ret_ne ?_ | refine hE _ _ exit_ne ?_))<;>(try simp (disch:=first | omega | decide +kernel) only [q',go_sem,Qa,Qb,Qc,Qd,Qe,↓reduceIte,reduceCtorEq,Qf,Qg,Qh])<;>clear q') | refine hN _ ?_ ?_ Wk.kk | with_reducible refine And.intro ?_ ?_ | with_reducible omega | exact ok_ints | exact cells_ints | exact no_mem | with_reducible exact plain_ints | (refine le_maxLen ?_; omega) | (refine za9 ⟨?_,?_⟩) | (simp only [go_sem,Qc,Qb,zb1,zb2,forall_eq]; done)))
   all_goals first | (exact absurd rfl h'; done) | skip
   rw [← hs]; simp
 . have e0 : IntKind.wrap .u16 ((k : Int) - 1)=((k - 1 : Nat) : Int):=by rw [wrap16' (by omega)]; omega
   have e1:=and16 (a:=k) (b:=k - 1) (by omega) (by omega)
   have hst:=pc_step k hk h0
   have e2 : k &&& (k - 1) < 4096:=Nat.lt_of_le_of_lt Nat.and_le_left hk
   simp (disch:=first | omega | decide +kernel) only [e0,e1,go_sem,Qa,Qb,Qc,Qd,Qe,↓reduceIte,reduceCtorEq,Qf,Qg,Qh]
   (repeat' (first | ((first | (refine gsel_split (fun q' => ?_) (fun q' => ?_)<;>(have h':=q')<;>(try simp only [za1,za2,Ba,Bb,za3,ne_eq,za4,za5,za6,Ia,Ib,Ic,Ie,Da,Bc,Bd,Be,za7,za8] at h')<;>try (exfalso; omega)) | (have q':=trivial; first | refine hE _ _ ret_ne ?_ | refine hE _ _ exit_ne ?_))<;>(try simp (disch:=first | omega | decide +kernel) only [q',e0,e1,go_sem,Qa,Qb,Qc,Qd,Qe,↓reduceIte,reduceCtorEq,Qf,Qg,Qh])<;>clear q') | refine hN _ ?_ ?_ Wk.kk | with_reducible refine And.intro ?_ ?_ | with_reducible omega | exact ok_ints | exact cells_ints | exact no_mem | with_reducible exact plain_ints | (refine le_maxLen ?_; omega) | (refine za9 ⟨?_,?_⟩) | (simp only [go_sem,Qc,Qb,zb1,zb2,forall_eq]; done)))
   all_goals first | omega | exact hN (k &&& (k - 1)) _ (by omega) ⟨e2,by omega⟩ (Wk.kk)
end Abs.Y

namespace Abs.Y
open Go Go.Proofs Abs
open Nat renaming reduceEqDiff -> Qa, reduceLT -> Qb, reduceAdd -> Qc, reduceMul -> Qd, reduceSub -> Qe, reduceLeDiff -> Qf, reduceSubDiff -> Qg, reduceBEq -> Qh
open Bool renaming not_eq_true' -> Ba, not_eq_false' -> Bb, and_eq_true -> Bc, or_eq_true -> Bd, or_eq_false_iff -> Be
open Int renaming ofNat_lt -> Ia, ofNat_le -> Ib, not_lt -> Ic, not_le -> Ie
open Decidable renaming not_not -> Da
set_option maxRecDepth 100000

theorem bit16 {m v : Nat} (h : m < 4096) (hv : v<=15) : (bitV .and .u16 ((m : Int).fdiv (2 ^ min v 16)) 1 == 1)=m.testBit v:=by
 rw [shr16 (by omega)]
 have h1 : m >>> v < 4096:=Nat.lt_of_le_of_lt (Nat.shiftRight_le m v) h
 have e : bitV .and .u16 ((m >>> v : Nat) : Int) 1=(((m >>> v) &&& 1 : Nat) : Int):=and16 (b:=1) (by omega) (by omega)
 rw [e,Nat.and_one_is_mod,Nat.testBit,Nat.one_and_eq_mod_two]
 rcases Nat.mod_two_eq_zero_or_one (m >>> v) with h | h<;>rw [h]<;>rfl
theorem clsN_len (m : Nat) (v : Nat) : ((List.range v).flatMap (clV m)).length<=2 * v:=by
 induction v with
 | zero => simp
 | succ v ih =>
   rw [List.range_succ,List.flatMap_append,List.length_append]
   have : (clV m v).length<=2:=by unfold clV; split<;>split<;>simp
   simp only [List.flatMap_cons,List.flatMap_nil,List.append_nil]; omega
set_option maxHeartbeats 4000000 in
theorem mclause_ok (m : Nat) (h : m < 4096) : Ctr Try.prog 220 [D.mk m] false (.sl 0) [(0,.arr 3 1 ((clsN m).map (.int .i64)))]:=by
 refine Ctr.of (n:=32) (rs:=[.tmp 2]) Try.func220 rfl rfl Try.ntmps220 rfl rfl (by kernel_rfl) Try.checked.mixed ?_
 simp (disch:=first | omega | decide +kernel) only [go_sem,Qa,Qb,Qc,Qd,Qe,↓reduceIte,reduceCtorEq,Qf,Qg,Qh]
 refine Ok.loopN [30,29,28,27,26,25,24,23,22,21,20,19,18,17,16,15,14,13,12,11,10,9,8,7,6,5,4,3,1] (fun v _ => [(4,.d (.int .i64 (1 + (v : Nat)))),(3,.sl 3)]) (fun _ (out : List Int) => [(3,.arr 3 1 (out.map (.int .i64)))]) 6 (fun v out => out=(List.range v).flatMap (clV m)) [] rfl (Wk.kk) ?_
 rintro R v out hN hE hi ho
 have hl:=clsN_len m v
 rw [← ho] at hl
 by_cases hlt : v < 6
 . have hs : (List.range (v + 1)).flatMap (clV m)=out++clV m v:=by
    rw [List.range_succ,List.flatMap_append,← ho]; simp
   have b1:=bit16 (v:=v) h (by omega)
   have b2:=bit16 (v:=6 + v) h (by omega)
   have e1 : (1 + (v : Int) - 1).toNat=v:=by omega
   have e2 : (6 + (1 + (v : Int)) - 1).toNat=6 + v:=by omega
   unfold clV at hs
   rw [show -((v : Int) + 1)=0 - (1 + (v : Int)) by omega,show (v : Int) + 1=1 + v by omega] at hs
   clear ho
   cases hA : m.testBit v<;>cases hB : m.testBit (6 + v)<;>rw [hA] at b1 hs<;>rw [hB] at b2 hs<;>simp only [Bool.false_eq_true,if_false,if_true,List.append_nil,List.nil_append,List.cons_append] at hs
   all_goals
    simp (disch:=first | omega | decide +kernel) only [e1,e2,b1,b2,go_sem,Qa,Qb,Qc,Qd,Qe,↓reduceIte,reduceCtorEq,Qf,Qg,Qh]
    (repeat' (first | ((first | (refine gsel_split (fun q' => ?_) (fun q' => ?_)<;>(have h':=q')<;>(try simp only [za1,za2,Ba,Bb,za3,ne_eq,za4,za5,za6,Ia,Ib,Ic,Ie,Da,Bc,Bd,Be,za7,za8] at h')<;>try (exfalso; omega)) | (have q':=trivial; first | refine hE _ _ ret_ne ?_ | refine hE _ _ exit_ne ?_))<;>(try simp (disch:=first | omega | decide +kernel) only [q',e1,e2,b1,b2,go_sem,Qa,Qb,Qc,Qd,Qe,↓reduceIte,reduceCtorEq,Qf,Qg,Qh])<;>clear q') | refine hN _ ?_ ?_ Wk.kk | with_reducible refine And.intro ?_ ?_ | with_reducible omega | exact ok_ints | exact cells_ints | exact no_mem | with_reducible exact plain_ints | (refine le_maxLen ?_; omega) | (refine za9 ⟨?_,?_⟩) | (simp only [go_sem,Qc,Qb,zb1,zb2,forall_eq]; done)))
    all_goals first | omega | (refine hN _ _ hlt hs.symm (by refine Wk.auto ?_ ?_<;>simp [extraK,lk,killL,St.kill,wipeO,wipeS,AV.has,AV.hasL,AO.wipe,List.map_set,updSt,insL,dropS,ins,List.map_append,List.map_cons,List.map_nil,Int.add_assoc,List.append_assoc,List.cons_append,List.nil_append]); done) | trace_state
 . obtain rfl : v=6:=by omega
   rw [show (List.range 6).flatMap (clV m)=clsN m from rfl] at ho
   subst ho
   simp (disch:=first | omega | decide +kernel) only [go_sem,Qa,Qb,Qc,Qd,Qe,↓reduceIte,reduceCtorEq,Qf,Qg,Qh]
   (repeat' (first | ((first | (refine gsel_split (fun q' => ?_) (fun q' => ?_)<;>(have h':=q')<;>(try simp only [za1,za2,Ba,Bb,za3,ne_eq,za4,za5,za6,Ia,Ib,Ic,Ie,Da,Bc,Bd,Be,za7,za8] at h')<;>try (exfalso; omega)) | (have q':=trivial; first | refine hE _ _ ret_ne ?_ | refine hE _ _ exit_ne ?_))<;>(try simp (disch:=first | omega | decide +kernel) only [q',go_sem,Qa,Qb,Qc,Qd,Qe,↓reduceIte,reduceCtorEq,Qf,Qg,Qh])<;>clear q') | refine hN _ ?_ ?_ Wk.kk | with_reducible refine And.intro ?_ ?_ | with_reducible omega | exact ok_ints | exact cells_ints | exact no_mem | with_reducible exact plain_ints | (refine le_maxLen ?_; omega) | (refine za9 ⟨?_,?_⟩) | (simp only [go_sem,Qc,Qb,zb1,zb2,forall_eq]; done)))
   exact ret_sl 3 rfl rfl plain_ints
end Abs.Y

namespace Abs
open Go Go.RowKit

mutual
def AV.bfz (j : Nat) (x : D) : AV->AV
 | .sl i => if i=j then .undef else .sl i
 | .p i o => if i=j then (if o=0 then .d (.ptr x) else .undef) else .p i o
 | .pe i k n o => if i=j then .undef else .pe i k n o
 | .mq i => if i=j then .undef else .mq i
 | .sf i k l => if i=j then .undef else .sf i k l
 | .vw i q n k => if q=j then .undef else .vw i q n k
 | .pv i q k n o => if q=j then .undef else .pv i q k n o
 | .tup xs => .tup (AV.bfzL j x xs)
 | .st xs => .st (AV.bfzL j x xs)
 | .fn f cs => .fn f (AV.bfzL j x cs)
 | y => y
def AV.bfzL (j : Nat) (x : D) : List AV->List AV
 | [] => []
 | y :: r => y.bfz j x :: AV.bfzL j x r
end
theorem bfzL_length {j x} : ∀ xs : List AV,(AV.bfzL j x xs).length=xs.length
 | [] => rfl
 | y :: r => by simp [AV.bfzL,bfzL_length r]
theorem bfzL_getD {j x} : ∀ (xs : List AV) (i : Nat),(AV.bfzL j x xs).getD i .undef=(xs.getD i .undef).bfz j x
 | [],i => by simp [AV.bfzL,AV.bfz]
 | y :: r,0 => by simp [AV.bfzL]
 | y :: r,i + 1 => by simpa [AV.bfzL] using bfzL_getD r i
def bfzS (j : Nat) (x : D) : List (Nat × AV)->List (Nat × AV)
 | [] => []
 | (k,v) :: r => (k,v.bfz j x) :: bfzS j x r
def AO.bfz (j : Nat) (x : D) : AO->AO
 | .box e cells => .box e (AV.bfzL j x cells)
 | .dp t xs (some (c,some d)) => .dp t xs (if d=j then some (c,none) else some (c,some d))
 | y => y
def bfzO (j : Nat) (x : D) : List (Nat × AO)->List (Nat × AO)
 | [] => []
 | (k,v) :: r => if k=j then bfzO j x r else (k,v.bfz j x) :: bfzO j x r
theorem lk_bfzS {i j x} : ∀ {l : List (Nat × AV)} {v},lk i (bfzS j x l)=some v->∃ u,lk i l=some u∧v=u.bfz j x
 | [],_,h => by simp [bfzS,lk] at h
 | (k, u) :: r, v, h => by
   simp only [bfzS,lk] at h
   simp only [lk]
   split at h
   . rename_i e; rw [if_pos e]; cases h; exact ⟨u,rfl,rfl⟩
   . rename_i e; rw [if_neg e]; exact lk_bfzS h
theorem lk_bfzO {i j x} : ∀ {l : List (Nat × AO)} {o},lk i (bfzO j x l)=some o->i ≠ j∧∃ o',lk i l=some o'∧o=o'.bfz j x
 | [],_,h => by simp [bfzO,lk] at h
 | (k, v) :: r, o, h => by
   simp only [bfzO] at h
   split at h
   . rename_i hk
     obtain ⟨h1,o',h2,h3⟩:=lk_bfzO h
     exact ⟨h1,o',by simp only [lk]; rw [if_neg (by omega)]; exact h2,h3⟩
   . rename_i hk
     simp only [lk] at h
     split at h
     . rename_i e; subst e; cases h; exact ⟨hk,v,by simp [lk],rfl⟩
     . rename_i e
       obtain ⟨h1,o',h2,h3⟩:=lk_bfzO h
       exact ⟨h1,o',by simp only [lk]; rw [if_neg e]; exact h2,h3⟩
theorem Rel.bfz {β S w j x b n c} (hb : β j=.slice (some ⟨b,0,none⟩) n c) (hr : Rd S w (.ptr x) (.pointer (some ⟨b,0,none⟩))) : ∀ {av v},Rel β S w av v->Rel β S w (av.bfz j x) v:=by
 intro av v h
 induction h with
 | undef v => exact .undef v
 | d h => exact .d h
 | sl i =>
   simp only [AV.bfz]; split
   . exact .undef _
   . exact .sl i
 | p h =>
   simp only [AV.bfz]; split
   . rename_i e; subst e
     rw [hb] at h; cases h
     split
     . rename_i e0; subst e0; exact .d hr
     . exact .undef _
   . exact .p h
 | pe h =>
   simp only [AV.bfz]; split
   . exact .undef _
   . exact .pe h
 | mq h =>
   simp only [AV.bfz]; split
   . exact .undef _
   . exact .mq h
 | sf h hl =>
   simp only [AV.bfz]; split
   . exact .undef _
   . exact .sf h hl
 | vw h =>
   simp only [AV.bfz]; split
   . exact .undef _
   . exact .vw h
 | pv h =>
   simp only [AV.bfz]; split
   . exact .undef _
   . exact .pv h
 | tup hl _ ih => exact .tup (by rw [bfzL_length]; exact hl) fun i hi => by rw [bfzL_length] at hi; rw [bfzL_getD]; exact ih i hi
 | fn hl _ ih => exact .fn (by rw [bfzL_length]; exact hl) fun i hi => by rw [bfzL_length] at hi; rw [bfzL_getD]; exact ih i hi
 | e0n => exact .e0n
 | e0s ad => exact .e0s ad
 | hdr h => exact .hdr h
 | nilS => exact .nilS
 | st hl _ ih => exact .st (by rw [bfzL_length]; exact hl) fun i hi => by rw [bfzL_length] at hi; rw [bfzL_getD]; exact ih i hi
theorem OK.bfz {β S w j x b n c o v F} (hb : β j=.slice (some ⟨b,0,none⟩) n c) (hr : Rd S w (.ptr x) (.pointer (some ⟨b,0,none⟩))) (h : OK β S w o v F) : OK β S w (o.bfz j x) v F:=by
 cases h with
 | box hF xs hv hw hrel =>
   exact .box hF xs hv (by rw [bfzL_length]; exact hw) fun i hi => by rw [bfzL_length] at hi; rw [bfzL_getD]; exact (hrel i hi).bfz hb hr
 | arr hF xs hk0 hk hw hrel => exact .arr hF xs hk0 hk hw hrel
 | arv hF xs hv hk0 hk hw hrel => exact .arv hF xs hv hk0 hk hw hrel
 | mp b ms c hF hv hbb he => exact .mp b ms c hF hv hbb he
 | res hv hlt fs hr2 hf hd => exact .res hv hlt fs hr2 hf hd
 | arw hlt xs hk0 hk hw hbb hr2 hv => exact .arw hlt xs hk0 hk hw hbb hr2 hv
 | view hF b c hv => exact .view hF b c hv
 | d1 hlt h => exact .d1 hlt h
 | dp hlt h =>
   rename_i t xs ho
   rcases h with ⟨rfl,rfl,rfl,h⟩ | ⟨e,k,ys,fs,ht,h⟩
   . exact .dp hlt (.inl ⟨rfl,rfl,rfl,h⟩)
   . rcases ho with _ | ⟨c',_ | d⟩
     . exact .dp hlt (.inr ⟨e,k,ys,fs,ht,h⟩)
     . exact .dp hlt (.inr ⟨e,k,ys,fs,ht,h⟩)
     . simp only [AO.bfz]
       split
       . exact .dp hlt (.inr ⟨e,k,ys,fs,ht,{ h with hr:=fun i hi hn => h.hr i hi fun c' d' e => by cases e; exact hn _ none rfl,hh:=fun _ _ h => by cases h }⟩)
       . exact .dp hlt (.inr ⟨e,k,ys,fs,ht,h⟩)
theorem bfz_res {j x} {o : AO} (h : (o.bfz j x).isRes=false) : o.isRes=false:=by
 cases o<;>first | rfl | exact h
theorem Wk.bfz {N} {S : List (Nat × AV)} {O : List (Nat × AO)} (j : Nat) (x : D) {e : TypeId} {cells : List AV} (hj : lk j O=some (.box e cells)) (hx : cells=x.cells.map .d) : Wk N ⟨S,O⟩ ⟨bfzS j x S,bfzO j x O⟩:=fun Z β φ B M w0 a w h => by
 subst hx
 have hO:=h.objs j _ hj
 have hS : ∀ g,free Z φ O g->g < w.heap.size->free Z φ (bfzO j x O) g∧w.heap[g]? = w.heap[g]? := fun g hg _ => by
  refine ⟨⟨hg.1,fun i y hi hy => ?_⟩,rfl⟩
  obtain ⟨hne,o',ho',rfl⟩:=lk_bfzO hi
  exact hg.2 i o' ho' (bfz_res hy)
 obtain ⟨b,c,hb,hr⟩ : ∃ b c,β j=.slice (some ⟨b,0,none⟩) 1 c∧Rd (free Z φ (bfzO j x O)) w (.ptr x) (.pointer (some ⟨b,0,none⟩)):=by
  have hdis : ∀ g,φ j g->free Z φ (bfzO j x O) g:=fun g hg => ⟨h.z g (h.own j _ g hj hg),fun i y hi _ hgi => by
   obtain ⟨hne,o',ho',_⟩:=lk_bfzO hi
   exact hne (h.disj i j o' _ g ho' hj hgi hg)⟩
  generalize φ j=F at *
  generalize β j=v at *
  cases hO with
  | box hF xs hv hw hrel =>
    have hw':=hw
    rcases hw.2 with ⟨h1,_⟩ | ⟨g,cap,cur,h1,_,h3,h4,_⟩
    . exact absurd h1 hv
    . subst h1
      refine ⟨g,cap,rfl,.ptr (fun i => xs.getD i Go.undef) (fun i hi => ⟨hdis g (by rw [hF]; rfl),?_⟩) fun i hi => ?_⟩
      . have h9 : i < xs.length:=by rw [hw'.1,Nat.one_mul,List.length_map]; exact hi
        have h10:=ownsRow_cell hw' rfl h9
        rwa [Nat.zero_add]
      . have h5:=hrel i (by simpa using hi)
        have h6 : (x.cells.map AV.d).getD i .undef=.d (x.cells.getD i .nilptr):=by
         simp [List.getD_eq_getElem?_getD,hi]
        rw [h6] at h5
        cases h5 with
        | d h5 => exact h5.move hS
 refine ⟨β,φ,h.nd.move hS,h.size,fun i av hi => ?_,fun i o hi => ?_,fun i o g hi hg => ?_,fun i i' o o' g hi hi' hg hg' => ?_,h.fr,h.z⟩
 . obtain ⟨u,hu,rfl⟩:=lk_bfzS hi
   exact ((h.slots i u hu).move hS).bfz hb hr
 . obtain ⟨hne,o',ho',rfl⟩:=lk_bfzO hi
   exact ((h.objs i o' ho').move hS (Nat.le_refl _) (fun _ _ => rfl)).bfz hb hr
 . obtain ⟨hne,o',ho',_⟩:=lk_bfzO hi
   exact h.own i o' g ho' hg
 . obtain ⟨hne,y,hy,_⟩:=lk_bfzO hi
   obtain ⟨hne',y',hy',_⟩:=lk_bfzO hi'
   exact h.disj i i' y y' g hy hy' hg hg'
def cutQ (P : Program) (N : Nat) (y : Code) (Q : Exit->St->Prop) (st : St) : Prop:=∃ st',Wk N st st'∧Awp P N y Q st'
theorem callX_shareK {P N f cavs st dst K} (J : Nat) {avs o res o'} (hs : CtrM P f avs [(0,o)] [0] true res [(0,o')]) (hp : passM P (delL [J] st.o) (nth [J]) true cavs avs) (ho : lkn J st.o=some (o.ren (nth [J])))
 (hd : dstB N dst) (hK : K (impM st dst (nth [J]) [] res [(0,o')])) : callX P N f cavs dst K st :=
 callX_mut [J] [J] [] hs hp ⟨ho,trivial⟩ (by simp [namesOK,keysO,nth]) hd hK
theorem retM_u {P : Program} {u : Nat->Value} {sh : Bool} {ob : AO} {st : St} (ho : lk 0 st.o=some ob) (hk : lk 1000000000 st.s=some (.hdr 0 (u 0))) (hr : ob.ren (fun j => j)=ob) (hs : sh=true∨ob.plain) : retM P [] u [0] sh (.tup []) [(0,ob)] .ret st:=by
 simp only [retM,resV]
 refine ⟨trivial,⟨fun j => j,rfl,by simpa [hr] using ho,by simp,⟨rfl,hk,trivial⟩⟩,?_⟩
 rcases hs with rfl | hs
 . exact .inl rfl
 . exact .inr ⟨trivial,hs,trivial⟩
theorem retM_n {P : Program} {u : Nat->Value} {sh : Bool} {ob : AO} {st : St} (ho : lk 0 st.o=some ob) (hk : lk 1000000000 st.s=some (.hdr 0 (u 0))) (hr : ob.ren (fun j => j)=ob) (hs : sh=true∨ob.plain) : retM P [] u [0] sh (.tup []) [(0,ob)] .normal st :=
 retM_u (P:=P) ho hk hr hs
end Abs
