/- What functions of this program compute, over plain data. No condition. -/
import Derived.Test.YtckigpgkmdhfoaaFR2
set_option linter.all false
open Nat renaming reduceEqDiff -> Qa, reduceLT -> Qb, reduceAdd -> Qc, reduceMul -> Qd, reduceSub -> Qe, reduceLeDiff -> Qf, reduceSubDiff -> Qg, reduceBEq -> Qh
open Bool renaming not_eq_true' -> Ba, not_eq_false' -> Bb, and_eq_true -> Bc, or_eq_true -> Bh, or_eq_false_iff -> Be
open Int renaming ofNat_lt -> Ia, ofNat_le -> Ib, not_lt -> Ic, not_le -> Ie
open Decidable renaming not_not -> Da
namespace Abs
open Go Go.Proofs Go.RowKit
end Abs
namespace Abs.Y
open Go Go.Proofs Abs
set_option maxRecDepth 100000

def rs3 (u : Int) (cs : List (List Int)) (a : List Int) : List (List Int):=if ok3 u cs a then rsI cs a cs.length else []
end Abs.Y

namespace Abs.Y
open Go Go.Proofs Abs
set_option maxRecDepth 100000

theorem isModelOf_ok (u x : Nat) (cs : List (List Int)) (hk : okCnf u cs=true) (hc : ∀ c ∈ cs,c.length<=100000) (hx : x < 2 ^ u) :
 Ctr Try.prog 12 [.agg [.int .i64 (u : Nat),.slice (cs.map D.ints)],.int .i64 (x : Nat)] false (.tup [.d (.bool (tmod cs x)),.d (.bool true)]) []:=by
 obtain ⟨h1,h2,h3⟩:=okCnf_all hk
 unfold okVars at h1
 simp only [Bc,decide_eq_true_eq] at h1
 have hp : 2 ^ u<=2 ^ 12:=Nat.pow_le_pow_right (by decide) (by omega)
 have c1:=isCnf_ok u cs (by omega) fun j => by have:=getD_small (B:=100000) hc j; omega
 have c2:=isModel_ok cs x (cls_of hk fun c hcc => by have:=hc c hcc; omega) (by omega)
 have e : IntKind.wrap .i64 (1 * 2 ^ min u 64)=((2 ^ u : Nat) : Int):=shl_one (by omega)
 have c3:=within_ok x 0 (((2 ^ u : Nat) : Int) - 1)
 rw [hk] at c1
 generalize 2 ^ u=q at *
 rw [show (decide ((0 : Int)<=(x : Int)) && decide ((x : Int)<=((q : Nat) : Int) - 1))=true by simp; omega] at c3
 refine Ctr.of (n:=22) (rs:=[.tmp 4,.tmp 5]) Try.func12 rfl rfl Try.ntmps12 rfl rfl (by kernel_rfl) Try.checked.mixed ?_
 simp (disch:=first | omega | decide +kernel) only [e,Int.toNat_natCast,go_sem,Qa,Qb,Qc,Qd,Qe,↓reduceIte,reduceCtorEq,Qf,Qg,Qh]
 (repeat' (first | ((first | (refine gsel_split (fun q' => ?_) (fun q' => ?_)<;>(have h':=q')<;>(try simp only [za1,za2,Ba,Bb,za3,ne_eq,za4,za5,za6,Ia,Ib,Ic,Ie,Da,Bc,Bh,Be,za7,za8] at h')<;>try (exfalso; omega)) | (have q':=trivial; first | refine callX_new (c1) rfl (by decide) ?_ | refine callY_new (c1) rfl ?_ | refine callX_new (c2) rfl (by decide) ?_ | refine callY_new (c2) rfl ?_ | refine callX_new (c3) rfl (by decide) ?_ | refine callY_new (c3) rfl ?_ | refine hE _ _ ret_ne ?_ | refine hE _ _ exit_ne ?_))<;>(try simp (disch:=first | omega | decide +kernel) only [q',e,Int.toNat_natCast,go_sem,Qa,Qb,Qc,Qd,Qe,↓reduceIte,reduceCtorEq,Qf,Qg,Qh])<;>clear q') | refine hN _ ?_ ?_ Wk.kk | with_reducible refine And.intro ?_ ?_ | with_reducible omega | exact ok_ints | exact cells_ints | exact no_mem | with_reducible exact plain_ints | (refine le_maxLen ?_; omega) | (refine za9 ⟨?_,?_⟩) | (simp only [go_sem,Qc,Qb,zb1,zb2,forall_eq]; done)))
 all_goals (first | omega)
end Abs.Y
