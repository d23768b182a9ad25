/- What functions of this program compute, over plain data. No condition. -/
import Derived.Test.YtiafnejjhnjbfaaDoorFQ1
import Derived.Test.YtiafnejjhnjbfaaDoorBX
import Derived.Test.YtiafnejjhnjbfaaDoorFQ4
import Derived.Test.YtiafnejjhnjbfaaDoorR3
set_option linter.all false
namespace Abs.Y
open Go Go.Proofs Abs
open Nat renaming reduceEqDiff -> Qa, reduceLT -> Qb, reduceAdd -> Qc, reduceMul -> Qd, reduceSub -> Qe, reduceLeDiff -> Qf, reduceSubDiff -> Qg, reduceBEq -> Qh
open Bool renaming not_eq_true' -> Ba, not_eq_false' -> Bb, and_eq_true -> Bc, or_eq_true -> Bh, or_eq_false_iff -> Be
open Int renaming ofNat_lt -> Ia, ofNat_le -> Ib, not_lt -> Ic, not_le -> Ie
open Decidable renaming not_not -> Da
set_option maxRecDepth 100000
end Abs.Y

namespace Abs.Y
open Go Go.Proofs Abs
open Nat renaming reduceEqDiff -> Qa, reduceLT -> Qb, reduceAdd -> Qc, reduceMul -> Qd, reduceSub -> Qe, reduceLeDiff -> Qf, reduceSubDiff -> Qg, reduceBEq -> Qh
open Bool renaming not_eq_true' -> Ba, not_eq_false' -> Bb, and_eq_true -> Bc, or_eq_true -> Bh, or_eq_false_iff -> Be
open Int renaming ofNat_lt -> Ia, ofNat_le -> Ib, not_lt -> Ic, not_le -> Ie
open Decidable renaming not_not -> Da
set_option maxRecDepth 100000

noncomputable def negF (s : ByteArray) : Fm:=(fmS s).sg true
noncomputable def negG (s : ByteArray) : Bool:=okS s && decide ((negF s).T.size<=80)
noncomputable def negS (s : ByteArray) : ByteArray:=if negG s then (negF s).T else ⟨#[]⟩
theorem IsFormula_ok (s : ByteArray) (hs : s.size<=1000000) : Ctr Tryd.prog 35 [.str s] false (.d (.bool (okS s))) []:=by
 obtain ⟨x,hx,c1⟩:=parse_ok s hs
 generalize okS s=b at *
 refine Ctr.of (n:=11) (rs:=[.tmp 2]) Tryd.func35 rfl rfl Tryd.ntmps35 rfl rfl (by kernel_rfl) Tryd.checked.mixed ?_
 simp (disch:=first | omega | decide +kernel) only [go_sem,Qa,Qb,Qc,Qd,Qe,↓reduceIte,reduceCtorEq,Qf,Qg,Qh]
 (repeat' (first | ((first | (refine gsel_split (fun q' => ?_) (fun q' => ?_)<;>(have h':=q')<;>(try simp only [za1,za2,Ba,Bb,za3,ne_eq,za4,za5,za6,Ia,Ib,Ic,Ie,Da,Bc,Bh,Be,za7,za8] at h')<;>try (exfalso; omega)) | (have q':=trivial; first | refine callX_shared (c1) rfl (by decide) ?_ | refine callY_shared (c1) rfl ?_ | refine hE _ _ ret_ne ?_ | refine hE _ _ exit_ne ?_))<;>(try simp (disch:=first | omega | decide +kernel) only [q',go_sem,Qa,Qb,Qc,Qd,Qe,↓reduceIte,reduceCtorEq,Qf,Qg,Qh])<;>clear q') | refine hN _ ?_ ?_ Wk.kk | with_reducible refine And.intro ?_ ?_ | with_reducible omega | exact ok_ints | exact cells_ints | exact no_mem | with_reducible exact plain_ints | (refine le_maxLen ?_; omega) | (refine za9 ⟨?_,?_⟩) | (simp only [go_sem,Qc,Qb,zb1,zb2,forall_eq]; done)))
 all_goals (first | omega | assumption | rfl | exact absurd trivial ‹¬True›)
end Abs.Y

namespace Abs.Y
open Go Go.Proofs Abs
open Nat renaming reduceEqDiff -> Qa, reduceLT -> Qb, reduceAdd -> Qc, reduceMul -> Qd, reduceSub -> Qe, reduceLeDiff -> Qf, reduceSubDiff -> Qg, reduceBEq -> Qh
open Bool renaming not_eq_true' -> Ba, not_eq_false' -> Bb, and_eq_true -> Bc, or_eq_true -> Bh, or_eq_false_iff -> Be
open Int renaming ofNat_lt -> Ia, ofNat_le -> Ib, not_lt -> Ic, not_le -> Ie
open Decidable renaming not_not -> Da
set_option maxRecDepth 100000

def letS (s : ByteArray) : Bool:=decide (s.size=1) && isLet ((BL s).getD 0 0)
theorem isLet_i (c : UInt8) : isLet c=(decide (97<=(c.toNat : Int)) && decide ((c.toNat : Int)<=102)):=by
 unfold isLet
 rw [← Bool.decide_and]
 apply decide_eq_decide.2
 rw [UInt8.le_iff_toNat_le,UInt8.le_iff_toNat_le]
 have e1 : (97 : UInt8).toNat=97:=rfl
 have e2 : (102 : UInt8).toNat=102:=rfl
 omega
theorem l22LetterS_ok (s : ByteArray) : Ctr Tryd.prog 29 [.str s] false (.d (.bool (letS s))) []:=by
 obtain ⟨c,hc⟩ : ∃ c,c=(BL s).getD 0 0:=⟨_,rfl⟩
 have e0 : s.data.toList.getD 0 0=c:=hc.symm
 have t0 : Int.toNat 0=0:=rfl
 rw [letS,← hc,isLet_i]
 by_cases h : s.size=1
 . rw [decide_eq_true h,Bool.true_and]
   refine Ctr.of (n:=16) (rs:=[.tmp 2]) Tryd.func29 rfl rfl Tryd.ntmps29 rfl rfl (by kernel_rfl) Tryd.checked.mixed ?_
   simp (disch:=first | omega | decide +kernel) only [h,e0,t0,go_sem,Qa,Qb,Qc,Qd,Qe,↓reduceIte,reduceCtorEq,Qf,Qg,Qh]
   (repeat' (first | ((first | (refine gsel_split (fun q' => ?_) (fun q' => ?_)<;>(have h':=q')<;>(try simp only [za1,za2,Ba,Bb,za3,ne_eq,za4,za5,za6,Ia,Ib,Ic,Ie,Da,Bc,Bh,Be,za7,za8] at h')<;>try (exfalso; omega)) | (have q':=trivial; first | refine hE _ _ ret_ne ?_ | refine hE _ _ exit_ne ?_))<;>(try simp (disch:=first | omega | decide +kernel) only [q',h,e0,t0,go_sem,Qa,Qb,Qc,Qd,Qe,↓reduceIte,reduceCtorEq,Qf,Qg,Qh])<;>clear q') | refine hN _ ?_ ?_ Wk.kk | with_reducible refine And.intro ?_ ?_ | with_reducible omega | exact ok_ints | exact cells_ints | exact no_mem | with_reducible exact plain_ints | (refine le_maxLen ?_; omega) | (refine za9 ⟨?_,?_⟩) | (simp only [go_sem,Qc,Qb,zb1,zb2,forall_eq]; done)))
   all_goals (first | omega | assumption | rfl | exact absurd trivial ‹¬True› | (congr 1; simp_all; done))
 . rw [decide_eq_false h,Bool.false_and]
   refine Ctr.of (n:=16) (rs:=[.tmp 2]) Tryd.func29 rfl rfl Tryd.ntmps29 rfl rfl (by kernel_rfl) Tryd.checked.mixed ?_
   simp (disch:=first | omega | decide +kernel) only [go_sem,Qa,Qb,Qc,Qd,Qe,↓reduceIte,reduceCtorEq,Qf,Qg,Qh]
   (repeat' (first | ((first | (refine gsel_split (fun q' => ?_) (fun q' => ?_)<;>(have h':=q')<;>(try simp only [za1,za2,Ba,Bb,za3,ne_eq,za4,za5,za6,Ia,Ib,Ic,Ie,Da,Bc,Bh,Be,za7,za8] at h')<;>try (exfalso; omega)) | (have q':=trivial; first | refine hE _ _ ret_ne ?_ | refine hE _ _ exit_ne ?_))<;>(try simp (disch:=first | omega | decide +kernel) only [q',go_sem,Qa,Qb,Qc,Qd,Qe,↓reduceIte,reduceCtorEq,Qf,Qg,Qh])<;>clear q') | refine hN _ ?_ ?_ Wk.kk | with_reducible refine And.intro ?_ ?_ | with_reducible omega | exact ok_ints | exact cells_ints | exact no_mem | with_reducible exact plain_ints | (refine le_maxLen ?_; omega) | (refine za9 ⟨?_,?_⟩) | (simp only [go_sem,Qc,Qb,zb1,zb2,forall_eq]; done)))
   all_goals (first | omega | assumption | rfl | exact absurd trivial ‹¬True›)
noncomputable def giveS (s : ByteArray) : ByteArray:=if okS s then s else ⟨#[]⟩
theorem l22Give_ok (s : ByteArray) (hs : s.size<=1000000) : Ctr Tryd.prog 30 [.str s] true (.tup [.d (.str (giveS s)),.d (.bool (okS s))]) []:=by
 have c1:=l22Good_ok s hs
 rw [giveS]
 cases hk : okS s with
 | true =>
   rw [hk] at c1
   rw [if_pos rfl]
   refine Ctr.of (n:=8) (rs:=[.tmp 2,.tmp 3]) Tryd.func30 rfl rfl Tryd.ntmps30 rfl rfl (by kernel_rfl) Tryd.checked.mixed ?_
   simp (disch:=first | omega | decide +kernel) only [go_sem,Qa,Qb,Qc,Qd,Qe,↓reduceIte,reduceCtorEq,Qf,Qg,Qh]
   (repeat' (first | ((first | (refine gsel_split (fun q' => ?_) (fun q' => ?_)<;>(have h':=q')<;>(try simp only [za1,za2,Ba,Bb,za3,ne_eq,za4,za5,za6,Ia,Ib,Ic,Ie,Da,Bc,Bh,Be,za7,za8] at h')<;>try (exfalso; omega)) | (have q':=trivial; first | refine callX_new (c1) rfl (by decide) ?_ | refine callY_new (c1) rfl ?_ | refine hE _ _ ret_ne ?_ | refine hE _ _ exit_ne ?_))<;>(try simp (disch:=first | omega | decide +kernel) only [q',go_sem,Qa,Qb,Qc,Qd,Qe,↓reduceIte,reduceCtorEq,Qf,Qg,Qh])<;>clear q') | refine hN _ ?_ ?_ Wk.kk | with_reducible refine And.intro ?_ ?_ | with_reducible omega | exact ok_ints | exact cells_ints | exact no_mem | with_reducible exact plain_ints | (refine le_maxLen ?_; omega) | (refine za9 ⟨?_,?_⟩) | (simp only [go_sem,Qc,Qb,zb1,zb2,forall_eq]; done)))
   all_goals (first | omega | assumption | rfl | exact absurd trivial ‹¬True› | exact ret_s2 [] rfl rfl)
 | false =>
   rw [hk] at c1
   rw [if_neg (by simp)]
   refine Ctr.of (n:=8) (rs:=[.tmp 2,.tmp 3]) Tryd.func30 rfl rfl Tryd.ntmps30 rfl rfl (by kernel_rfl) Tryd.checked.mixed ?_
   simp (disch:=first | omega | decide +kernel) only [go_sem,Qa,Qb,Qc,Qd,Qe,↓reduceIte,reduceCtorEq,Qf,Qg,Qh]
   (repeat' (first | ((first | (refine gsel_split (fun q' => ?_) (fun q' => ?_)<;>(have h':=q')<;>(try simp only [za1,za2,Ba,Bb,za3,ne_eq,za4,za5,za6,Ia,Ib,Ic,Ie,Da,Bc,Bh,Be,za7,za8] at h')<;>try (exfalso; omega)) | (have q':=trivial; first | refine callX_new (c1) rfl (by decide) ?_ | refine callY_new (c1) rfl ?_ | refine hE _ _ ret_ne ?_ | refine hE _ _ exit_ne ?_))<;>(try simp (disch:=first | omega | decide +kernel) only [q',go_sem,Qa,Qb,Qc,Qd,Qe,↓reduceIte,reduceCtorEq,Qf,Qg,Qh])<;>clear q') | refine hN _ ?_ ?_ Wk.kk | with_reducible refine And.intro ?_ ?_ | with_reducible omega | exact ok_ints | exact cells_ints | exact no_mem | with_reducible exact plain_ints | (refine le_maxLen ?_; omega) | (refine za9 ⟨?_,?_⟩) | (simp only [go_sem,Qc,Qb,zb1,zb2,forall_eq]; done)))
   all_goals (first | omega | assumption | rfl | exact absurd trivial ‹¬True› | exact ret_s2 [] rfl rfl)
end Abs.Y

namespace Abs.Y
open Go Go.Proofs Abs
open Nat renaming reduceEqDiff -> Qa, reduceLT -> Qb, reduceAdd -> Qc, reduceMul -> Qd, reduceSub -> Qe, reduceLeDiff -> Qf, reduceSubDiff -> Qg, reduceBEq -> Qh
open Bool renaming not_eq_true' -> Ba, not_eq_false' -> Bb, and_eq_true -> Bc, or_eq_true -> Bh, or_eq_false_iff -> Be
open Int renaming ofNat_lt -> Ia, ofNat_le -> Ib, not_lt -> Ic, not_le -> Ie
open Decidable renaming not_not -> Da
set_option maxRecDepth 100000

def one1 (d : UInt8) (B : Fm) (c : UInt8) : Fm:=if c=d then B else .lf c
def one1L (d : UInt8) (b : List UInt8) (c : UInt8) : List UInt8:=if c=d then b else [c]
theorem one1_tl (d : UInt8) (hd : isLet d=true) (B : Fm) : ∀ x : Fm,x.wf=true->x.tl.flatMap (one1L d B.tl)=(x.sub (one1 d B)).tl
 | .lf c, hw => by
   rw [Fm.sub]
   split
   . rename_i hL
     by_cases h : c=d
     . simp [Fm.tl,one1L,one1,h]
     . simp [Fm.tl,one1L,one1,h]
   . rename_i hL
     have : c ≠ d:=fun e => hL (by rw [e]; exact hd)
     simp [Fm.tl,one1L,this]
 | .ng a, hw => by
   have : (126 : UInt8) ≠ d:=fun e => by rw [← e] at hd; exact absurd hd (by decide)
   rw [Fm.sub,Fm.tl,Fm.tl,List.flatMap_cons,one1_tl d hd B a hw,one1L,if_neg this]; rfl
 | .jn o a b, hw => by
   have hw' : (isOp o && a.wf && b.wf)=true:=hw
   simp only [Bc] at hw'
   have h1 : (40 : UInt8) ≠ d:=fun e => by rw [← e] at hd; exact absurd hd (by decide)
   have h2 : (41 : UInt8) ≠ d:=fun e => by rw [← e] at hd; exact absurd hd (by decide)
   have h3 : o ≠ d:=fun e => by
    rw [← e] at hd
    rcases of_decide_eq_true hw'.1.1 with e | e | e<;>(rw [e] at hd; exact absurd hd (by decide))
   rw [Fm.sub,Fm.tl,Fm.tl,List.flatMap_cons,List.flatMap_append,List.flatMap_cons,List.flatMap_append,one1_tl d hd B a hw'.1.2,one1_tl d hd B b hw'.2]
   simp [one1L,h1,h2,h3]
theorem one1_wf {d : UInt8} {B : Fm} (hB : B.wf=true) : ∀ x : Fm,x.wf=true->(x.sub (one1 d B)).wf=true
 | .lf c, h => by
   rw [Fm.sub]
   split
   . unfold one1; split
     . exact hB
     . exact h
   . exact h
 | .ng a,h => by rw [Fm.sub,Fm.wf]; exact one1_wf hB a h
 | .jn o a b, h => by
   have h' : (isOp o && a.wf && b.wf)=true:=h
   simp only [Bc] at h'
   rw [Fm.sub,Fm.wf,one1_wf hB a h'.1.2,one1_wf hB b h'.2,h'.1.1]; rfl
end Abs.Y
