/- What functions of this program compute, over plain data. No condition. -/
import Derived.Test.YtckigpgkmdhfoaaFR3
import Derived.Test.YtckigpgkmdhfoaaFA2
import Derived.Test.YtckigpgkmdhfoaaR6
import Derived.Test.YtckigpgkmdhfoaaE3
import Derived.Test.YtckigpgkmdhfoaaAbsJoin
import Derived.Test.YtckigpgkmdhfoaaST1
set_option linter.all false
namespace Abs.Y
open Go Go.Proofs Abs
open Nat renaming reduceEqDiff -> Qa, reduceLT -> Qb, reduceAdd -> Qc, reduceMul -> Qd, reduceSub -> Qe, reduceLeDiff -> Qf, reduceSubDiff -> Qg, reduceBEq -> Qh
open Bool renaming not_eq_true' -> Ba, not_eq_false' -> Bb, and_eq_true -> Bc, or_eq_true -> Bd, or_eq_false_iff -> Be
open Int renaming ofNat_lt -> Ia, ofNat_le -> Ib, not_lt -> Ic, not_le -> Ie
open Decidable renaming not_not -> Da
set_option maxRecDepth 100000

theorem sRestrict_yes (u : Int) (cs : List (List Int)) (a : List Int) (z : Sz3 cs a) (hk : ok3 u cs a=true) :
 Ctr Try.prog 9 [.agg [.int .i64 u,.slice (cs.map D.ints)],.ints a] true (.tup [.d (.agg [.int .i64 u,.slice ((rsI cs a cs.length).map D.ints)]),.d (.bool true)]) []:=by
 have zl:=z.hl
 have c1:=l3Asked_ok u cs a (by omega) (fun c hc => by have:=z.hc c hc; omega) (by have:=z.ha; omega)
 have hk':=hk
 unfold ok3 at hk'
 rw [hk'] at c1
 rw [Bc] at hk'
 have c2:=l3Under_ok u cs a z (lits3 (u:=u) hk'.1)
 simp only [D.ints] at c1 c2
 refine Ctr.of (n:=14) (rs:=[.cell 4 26,.tmp 5]) Try.func9 rfl rfl Try.ntmps9 rfl rfl (by kernel_rfl) Try.checked.mixed ?_
 simp (disch:=first | omega | decide +kernel) only [D.ints,go_sem,Qa,Qb,Qc,Qd,Qe,↓reduceIte,reduceCtorEq,Qf,Qg,Qh]
 (repeat' (first | ((first | (refine gsel_split (fun q' => ?_) (fun q' => ?_)<;>(have h':=q')<;>(try simp only [za1,za2,Ba,Bb,za3,ne_eq,za4,za5,za6,Ia,Ib,Ic,Ie,Da,Bc,Bd,Be,za7,za8] at h')<;>try (exfalso; omega)) | (have q':=trivial; first | refine callX_new (c1) rfl (by decide) ?_ | refine callY_new (c1) rfl ?_ | refine callX_shared (c2) rfl (by decide) ?_ | refine callY_shared (c2) rfl ?_ | refine hE _ _ ret_ne ?_ | refine hE _ _ exit_ne ?_))<;>(try simp (disch:=first | omega | decide +kernel) only [q',D.ints,go_sem,Qa,Qb,Qc,Qd,Qe,↓reduceIte,reduceCtorEq,Qf,Qg,Qh])<;>clear q') | refine hN _ ?_ ?_ Wk.kk | with_reducible refine And.intro ?_ ?_ | with_reducible omega | exact ok_ints | exact cells_ints | exact no_mem | with_reducible exact plain_ints | (refine le_maxLen ?_; omega) | (refine za9 ⟨?_,?_⟩) | (simp only [go_sem,Qc,Qb,zb1,zb2,forall_eq]; done)))
 all_goals (first | exact ret_scbd1 [] rfl rfl rfl (by simp only [go_sem]) (by simp only [go_sem,List.length_cons,List.length_nil]) rfl (by simp only [go_sem]))
theorem sRestrict_no (u : Int) (cs : List (List Int)) (a : List Int) (z : Sz3 cs a) (hk : ok3 u cs a=false) :
 Ctr Try.prog 9 [.agg [.int .i64 u,.slice (cs.map D.ints)],.ints a] true (.tup [.d (.agg [.int .i64 0,.slice []]),.d (.bool false)]) []:=by
 have zl:=z.hl
 have c1:=l3Asked_ok u cs a (by omega) (fun c hc => by have:=z.hc c hc; omega) (by have:=z.ha; omega)
 have hk':=hk
 unfold ok3 at hk'
 rw [hk'] at c1
 simp only [D.ints] at c1
 refine Ctr.of (n:=14) (rs:=[.cell 4 26,.tmp 5]) Try.func9 rfl rfl Try.ntmps9 rfl rfl (by kernel_rfl) Try.checked.mixed ?_
 simp (disch:=first | omega | decide +kernel) only [D.ints,go_sem,Qa,Qb,Qc,Qd,Qe,↓reduceIte,reduceCtorEq,Qf,Qg,Qh]
 (repeat' (first | ((first | (refine gsel_split (fun q' => ?_) (fun q' => ?_)<;>(have h':=q')<;>(try simp only [za1,za2,Ba,Bb,za3,ne_eq,za4,za5,za6,Ia,Ib,Ic,Ie,Da,Bc,Bd,Be,za7,za8] at h')<;>try (exfalso; omega)) | (have q':=trivial; first | refine callX_new (c1) rfl (by decide) ?_ | refine callY_new (c1) rfl ?_ | refine hE _ _ ret_ne ?_ | refine hE _ _ exit_ne ?_))<;>(try simp (disch:=first | omega | decide +kernel) only [q',D.ints,go_sem,Qa,Qb,Qc,Qd,Qe,↓reduceIte,reduceCtorEq,Qf,Qg,Qh])<;>clear q') | refine hN _ ?_ ?_ Wk.kk | with_reducible refine And.intro ?_ ?_ | with_reducible omega | exact ok_ints | exact cells_ints | exact no_mem | with_reducible exact plain_ints | (refine le_maxLen ?_; omega) | (refine za9 ⟨?_,?_⟩) | (simp only [go_sem,Qc,Qb,zb1,zb2,forall_eq]; done)))
 all_goals (first | exact ret_scbd1 [] rfl rfl rfl (by simp only [go_sem]) (by simp only [go_sem,List.length_cons,List.length_nil]) rfl (by simp only [go_sem]))
theorem iRestrict_no (u : Int) (cs : List (List Int)) (a : List Int) (z : Sz3 cs a) (hk : ok3 u cs a=false) :
 Ctr Try.prog 8 [.agg [.int .i64 u,.slice (cs.map D.ints)],.ints a] true (.tup [.d (.agg [.int .i64 0,.slice []]),.d (.bool false)]) []:=by
 have zl:=z.hl
 have c1:=isCnf_ok u cs (by omega) fun j => by have:=getD_small (B:=100000) z.hc j; omega
 have c2:=isAssignment_ok u a (by have:=z.ha; omega)
 unfold ok3 at hk
 simp only [D.ints] at c2
 cases h1 : okCnf u cs<;>cases h2 : okClause u a<;>rw [h1] at c1 hk<;>rw [h2] at c2 hk<;>first | cases hk | skip
 all_goals
  refine Ctr.of (n:=24) (rs:=[.cell 4 26,.tmp 5]) Try.func8 rfl rfl Try.ntmps8 rfl rfl (by kernel_rfl) Try.checked.mixed ?_
  simp (disch:=first | omega | decide +kernel) only [D.ints,go_sem,Qa,Qb,Qc,Qd,Qe,↓reduceIte,reduceCtorEq,Qf,Qg,Qh]
  (repeat' (first | ((first | (refine gsel_split (fun q' => ?_) (fun q' => ?_)<;>(have h':=q')<;>(try simp only [za1,za2,Ba,Bb,za3,ne_eq,za4,za5,za6,Ia,Ib,Ic,Ie,Da,Bc,Bd,Be,za7,za8] at h')<;>try (exfalso; omega)) | (have q':=trivial; first | refine callX_new (c1) rfl (by decide) ?_ | refine callY_new (c1) rfl ?_ | refine callX_new (c2) rfl (by decide) ?_ | refine callY_new (c2) rfl ?_ | refine hE _ _ ret_ne ?_ | refine hE _ _ exit_ne ?_))<;>(try simp (disch:=first | omega | decide +kernel) only [q',D.ints,go_sem,Qa,Qb,Qc,Qd,Qe,↓reduceIte,reduceCtorEq,Qf,Qg,Qh])<;>clear q') | refine hN _ ?_ ?_ Wk.kk | with_reducible refine And.intro ?_ ?_ | with_reducible omega | exact ok_ints | exact cells_ints | exact no_mem | with_reducible exact plain_ints | (refine le_maxLen ?_; omega) | (refine za9 ⟨?_,?_⟩) | (simp only [go_sem,Qc,Qb,zb1,zb2,forall_eq]; done)))
 all_goals (first | exact ret_scbd1 [] rfl rfl rfl (by simp only [go_sem]) (by simp only [go_sem,List.length_cons,List.length_nil]) rfl (by simp only [go_sem]))
theorem isModelOf_ok (u x : Nat) (cs : List (List Int)) (hk : okCnf u cs=true) (hc : ∀ c ∈ cs,c.length<=100000) (hx : x < 2 ^ u) :
 Ctr Try.prog 12 [.agg [.int .i64 (u : Nat),.slice (cs.map D.ints)],.int .i64 (x : Nat)] false (.tup [.d (.bool (tmod cs x)),.d (.bool true)]) []:=by
 obtain ⟨h1,h2,h3⟩:=okCnf_all hk
 unfold okVars at h1
 simp only [Bc,decide_eq_true_eq] at h1
 have hp : 2 ^ u<=2 ^ 12:=Nat.pow_le_pow_right (by decide) (by omega)
 have c1:=isCnf_ok u cs (by omega) fun j => by have:=getD_small (B:=100000) hc j; omega
 have c2:=isModel_ok cs x (cls_of hk fun c hcc => by have:=hc c hcc; omega) (by omega)
 have e : IntKind.wrap .i64 (1 * 2 ^ min u 64)=((2 ^ u : Nat) : Int):=shl_one (by omega)
 have c3:=within_ok x 0 (((2 ^ u : Nat) : Int) - 1)
 rw [hk] at c1
 generalize 2 ^ u=q at *
 rw [show (decide ((0 : Int)<=(x : Int)) && decide ((x : Int)<=((q : Nat) : Int) - 1))=true by simp; omega] at c3
 refine Ctr.of (n:=22) (rs:=[.tmp 4,.tmp 5]) Try.func12 rfl rfl Try.ntmps12 rfl rfl (by kernel_rfl) Try.checked.mixed ?_
 simp (disch:=first | omega | decide +kernel) only [e,Int.toNat_natCast,go_sem,Qa,Qb,Qc,Qd,Qe,↓reduceIte,reduceCtorEq,Qf,Qg,Qh]
 (repeat' (first | ((first | (refine gsel_split (fun q' => ?_) (fun q' => ?_)<;>(have h':=q')<;>(try simp only [za1,za2,Ba,Bb,za3,ne_eq,za4,za5,za6,Ia,Ib,Ic,Ie,Da,Bc,Bd,Be,za7,za8] at h')<;>try (exfalso; omega)) | (have q':=trivial; first | refine callX_new (c1) rfl (by decide) ?_ | refine callY_new (c1) rfl ?_ | refine callX_new (c2) rfl (by decide) ?_ | refine callY_new (c2) rfl ?_ | refine callX_new (c3) rfl (by decide) ?_ | refine callY_new (c3) rfl ?_ | refine hE _ _ ret_ne ?_ | refine hE _ _ exit_ne ?_))<;>(try simp (disch:=first | omega | decide +kernel) only [q',e,Int.toNat_natCast,go_sem,Qa,Qb,Qc,Qd,Qe,↓reduceIte,reduceCtorEq,Qf,Qg,Qh])<;>clear q') | refine hN _ ?_ ?_ Wk.kk | with_reducible refine And.intro ?_ ?_ | with_reducible omega | exact ok_ints | exact cells_ints | exact no_mem | with_reducible exact plain_ints | (refine le_maxLen ?_; omega) | (refine za9 ⟨?_,?_⟩) | (simp only [go_sem,Qc,Qb,zb1,zb2,forall_eq]; done)))
 all_goals (first | omega)
end Abs.Y

namespace Abs.Y
open Go Go.Proofs Abs
open Nat renaming reduceEqDiff -> Qa, reduceLT -> Qb, reduceAdd -> Qc, reduceMul -> Qd, reduceSub -> Qe, reduceLeDiff -> Qf, reduceSubDiff -> Qg, reduceBEq -> Qh
open Bool renaming not_eq_true' -> Ba, not_eq_false' -> Bb, and_eq_true -> Bc, or_eq_true -> Bd, or_eq_false_iff -> Be
open Int renaming ofNat_lt -> Ia, ofNat_le -> Ib, not_lt -> Ic, not_le -> Ie
open Decidable renaming not_not -> Da
set_option maxRecDepth 100000

def Agree (x : Nat) (a : List Int) : Prop:=∀ l ∈ a,tlit x l=true
theorem tlit_neg0 {x : Nat} {l : Int} (h : l ≠ 0) : tlit x (0 - l)=!(tlit x l):=by
 unfold tlit
 rw [show (0 - l).natAbs=l.natAbs by omega]
 by_cases h0 : 0 < l
 . rw [decide_eq_true h0,decide_eq_false (by omega)]; cases x.testBit (l.natAbs - 1)<;>rfl
 . rw [decide_eq_false h0,decide_eq_true (by omega)]; cases x.testBit (l.natAbs - 1)<;>rfl
theorem tcl_one {x : Nat} {c a : List Int} (ha : Agree x a) (h : cvI c a=1) : tcl x c=true:=by
 unfold cvI at h
 split at h
 . rename_i h1
   obtain ⟨l,h2,h3⟩:=List.any_eq_true.1 h1
   obtain ⟨l',h4,h5⟩:=List.any_eq_true.1 h3
   rw [beq_iff_eq] at h5
   subst h5
   exact List.any_eq_true.2 ⟨l',h2,ha _ h4⟩
 . split at h<;>cases h
theorem tcl_op {x : Nat} {c a : List Int} (ha : Agree x a) (hc : ∀ l ∈ c,l ≠ 0) : tcl x (opI c a)=tcl x c:=by
 unfold tcl opI
 rw [List.any_filter]
 induction c with
 | nil => rfl
 | cons l r ih =>
   rw [List.any_cons,List.any_cons,ih fun y hy => hc y (by simp [hy])]
   congr 1
   cases h : a.any (· == 0 - l) with
   | false => simp
   | true =>
     obtain ⟨l',h4,h5⟩:=List.any_eq_true.1 h
     rw [beq_iff_eq] at h5
     subst h5
     have:=ha _ h4
     rw [tlit_neg0 (hc l (by simp))] at this
     simp only [Ba] at this
     rw [this]; rfl
theorem tmod_app (x : Nat) (l : List (List Int)) (c : List Int) : tmod (l++[c]) x=(tmod l x && tcl x c):=by
 unfold tmod
 rw [List.any_append,List.any_cons,List.any_nil,Bool.or_false,Bool.not_or,Bool.not_not]
theorem tmod_rs {x : Nat} {cs : List (List Int)} {a : List Int} (ha : Agree x a) (hc : ∀ c ∈ cs,∀ l ∈ c,l ≠ 0) : ∀ i,i<=cs.length->tmod (rsI cs a i) x=tmod (cs.take i) x
 | 0,_ => rfl
 | i + 1, h => by
   have ih:=tmod_rs ha hc i (by omega)
   have hm:=getD_mem (z:=([] : List Int)) (l:=cs) (i:=i) (by omega)
   rw [take_succ [] cs i (by omega),tmod_app,← ih,rsI]
   split
   . rw [tmod_app,tcl_op ha (hc _ hm)]
   . rename_i h1
     have:=cvI_bd (cs.getD i []) a
     rw [tcl_one ha (show cvI (cs.getD i []) a=1 by omega),Bool.and_true]
theorem good_filterR {c : List Int} (g : Good c) (p : Int->Bool) : Good (c.filter p):=⟨g.1.sublist List.filter_sublist,fun x hx => g.2 x (List.mem_filter.1 hx).1⟩
theorem okClause_op {u : Int} {c : List Int} (a : List Int) (h : okClause u c=true) : okClause u (opI c a)=true :=
 ok_of_good (vars_of_ok h) (good_filterR (good_of_ok h) _) fun l hl => bd_of_ok h l (List.mem_filter.1 hl).1
theorem mem_rs {cs : List (List Int)} {a c : List Int} : ∀ i,i<=cs.length->c ∈ rsI cs a i->∃ d ∈ cs,c=opI d a
 | 0,_,h => nomatch h
 | i + 1, hi, h => by
   rw [rsI] at h
   split at h
   . rcases List.mem_append.1 h with h | h
     . exact mem_rs i (by omega) h
     . rw [List.mem_singleton] at h
       exact ⟨_,getD_mem (z:=([] : List Int)) (by omega),h⟩
   . exact mem_rs i (by omega) h
theorem okCnf_rs {u : Int} {cs : List (List Int)} (a : List Int) (hk : okCnf u cs=true) : okCnf u (rsI cs a cs.length)=true:=by
 obtain ⟨h1,h2,h3⟩:=okCnf_all hk
 have hl:=rsI_len cs a cs.length
 rw [okCnf,h1,Bool.true_and,decide_eq_true (by omega),Bool.true_and,List.all_eq_true]
 intro c hc
 obtain ⟨d,h4,rfl⟩:=mem_rs cs.length (Nat.le_refl _) hc
 exact okClause_op a (h3 d h4)

end Abs.Y

namespace Abs.Y
open Go Go.Proofs Abs
open Nat renaming reduceEqDiff -> Qa, reduceLT -> Qb, reduceAdd -> Qc, reduceMul -> Qd, reduceSub -> Qe, reduceLeDiff -> Qf, reduceSubDiff -> Qg, reduceBEq -> Qh
open Bool renaming not_eq_true' -> Ba, not_eq_false' -> Bb, and_eq_true -> Bc, or_eq_true -> Bd, or_eq_false_iff -> Be
open Int renaming ofNat_lt -> Ia, ofNat_le -> Ib, not_lt -> Ic, not_le -> Ie
open Decidable renaming not_not -> Da
set_option maxRecDepth 100000

def okCC (u : Int) (a b : List Int) : Bool:=okClause u a && okClause u b
def ccI (u : Int) (a b : List Int) : Int:=if okCC u a b then cmpCI a b else 0
def coB (u : Int) (l : List Int) : Bool:=(okVars u && decide (l.length<=30)) && l.all (okLit u)
def coI (u : Int) (l : List Int) : List Int:=if coB u l then optL (ofI l) else []
def coS (u : Int) (l : List Int) : Bool:=coB u l && (ofI l).isSome
end Abs.Y

namespace Abs.Y
open Go Go.Proofs Abs
open Nat renaming reduceEqDiff -> Qa, reduceLT -> Qb, reduceAdd -> Qc, reduceMul -> Qd, reduceSub -> Qe, reduceLeDiff -> Qf, reduceSubDiff -> Qg, reduceBEq -> Qh
open Bool renaming not_eq_true' -> Ba, not_eq_false' -> Bb, and_eq_true -> Bc, or_eq_true -> Bd, or_eq_false_iff -> Be
open Int renaming ofNat_lt -> Ia, ofNat_le -> Ib, not_lt -> Ic, not_le -> Ie
open Decidable renaming not_not -> Da
set_option maxRecDepth 100000
set_option maxHeartbeats 1000000

@[reducible] def rowI (x : List Int) : AO:=.arr 3 1 (x.map (.int .i64))
@[reducible] def Q3 : AV->List (Nat × AO)->Prop:=fun r oo => ∃ (v : Int) (a b : List Int),r=.tup [.d (.int .i64 v),.sl 1,.sl 2]∧oo=[(1,rowI a),(2,rowI b)]∧-1<=v∧v<=13∧a.length<=1000∧b.length<=1000
end Abs.Y

namespace Abs.Y
open Go Go.Proofs Abs
open Nat renaming reduceEqDiff -> Qa, reduceLT -> Qb, reduceAdd -> Qc, reduceMul -> Qd, reduceSub -> Qe, reduceLeDiff -> Qf, reduceSubDiff -> Qg, reduceBEq -> Qh
open Bool renaming not_eq_true' -> Ba, not_eq_false' -> Bb, and_eq_true -> Bc, or_eq_true -> Bd, or_eq_false_iff -> Be
open Int renaming ofNat_lt -> Ia, ofNat_le -> Ib, not_lt -> Ic, not_le -> Ie
open Decidable renaming not_not -> Da
set_option maxRecDepth 100000

theorem r_bytes {x : D} (h : isSl isU8 x) : ∃ code : List Int,x=D.bytes code∧∀ i,0<=code.getD i 0∧code.getD i 0 < 256:=by
 obtain ⟨es,rfl,_,hes⟩:=h
 have key : ∀ es : List D,(∀ e ∈ es,isU8 e)->∃ code : List Int,es=code.map (D.int .u8)∧∀ b ∈ code,0<=b∧b < 256:=by
  intro es
  induction es with
  | nil => exact fun _ => ⟨[],rfl,fun _ h => by cases h⟩
  | cons e r ih =>
    intro h
    obtain ⟨n,rfl,h1,h2⟩:=h e (by simp)
    obtain ⟨c,rfl,hc⟩:=ih fun x hx => h x (by simp [hx])
    exact ⟨n :: c,rfl,fun b hb => by
     rcases List.mem_cons.1 hb with rfl | hb
     . omega
     . exact hc b hb⟩
 obtain ⟨code,rfl,hc⟩:=key es hes
 refine ⟨code,rfl,fun i => ?_⟩
 by_cases hi : i < code.length
 . exact hc _ (getD_mem hi)
 . simp [List.getD_eq_getElem?_getD,List.getElem?_eq_none (show code.length<=i by omega)]
end Abs.Y

namespace Abs.Y
open Go Go.Proofs Abs
open Nat renaming reduceEqDiff -> Qa, reduceLT -> Qb, reduceAdd -> Qc, reduceMul -> Qd, reduceSub -> Qe, reduceLeDiff -> Qf, reduceSubDiff -> Qg, reduceBEq -> Qh
open Bool renaming not_eq_true' -> Ba, not_eq_false' -> Bb, and_eq_true -> Bc, or_eq_true -> Bd, or_eq_false_iff -> Be
open Int renaming ofNat_lt -> Ia, ofNat_le -> Ib, not_lt -> Ic, not_le -> Ie
open Decidable renaming not_not -> Da
set_option maxRecDepth 100000

theorem vBig_ok (code : List Int) : Ctr Try.prog 6 [D.bytes code] false (.d (.bool (decide (65536 < code.length)))) []:=by
 refine Ctr.of (n:=6) (rs:=[.tmp 2]) Try.func6 rfl rfl Try.ntmps6 rfl rfl (by kernel_rfl) Try.checked.mixed ?_
 simp (disch:=first | omega | decide +kernel) only [D.bytes,go_sem,Qa,Qb,Qc,Qd,Qe,↓reduceIte,reduceCtorEq,Qf,Qg,Qh]
 (repeat' (first | ((first | (refine gsel_split (fun q' => ?_) (fun q' => ?_)<;>(have h':=q')<;>(try simp only [za1,za2,Ba,Bb,za3,ne_eq,za4,za5,za6,Ia,Ib,Ic,Ie,Da,Bc,Bd,Be,za7,za8] at h')) | (have q':=trivial; first | refine hE _ _ ret_ne ?_ | refine hE _ _ exit_ne ?_))<;>(try simp (disch:=first | omega | decide +kernel) only [q',D.bytes,go_sem,Qa,Qb,Qc,Qd,Qe,↓reduceIte,reduceCtorEq,Qf,Qg,Qh])<;>clear q') | refine hN _ ?_ ?_ Wk.kk | with_reducible refine And.intro ?_ ?_ | with_reducible omega | exact ok_ints | exact cells_ints | exact no_mem | with_reducible exact plain_ints | (refine le_maxLen ?_; omega) | (refine za9 ⟨?_,?_⟩) | (simp only [go_sem,Qc,Qb,zb1,zb2,forall_eq]; done)))
 congr 1
 exact decide_eq_decide.2 (by omega)
theorem vInts_ok (a b : List Int) (hl : a.length<=4294967296) : Ctr Try.prog 16 [.ints a,.ints b] false (.d (.bool (decide (a=b)))) []:=by
 refine Ctr.of (n:=26) (rs:=[.tmp 4]) Try.func16 rfl rfl Try.ntmps16 rfl rfl (by kernel_rfl) Try.checked.mixed ?_
 simp (disch:=first | omega | decide +kernel) only [D.ints,go_sem,Qa,Qb,Qc,Qd,Qe,↓reduceIte,reduceCtorEq,Qf,Qg,Qh]
 (repeat' (first | ((first | (refine gsel_split (fun q' => ?_) (fun q' => ?_)<;>(have h':=q')<;>(try simp only [za1,za2,Ba,Bb,za3,ne_eq,za4,za5,za6,Ia,Ib,Ic,Ie,Da,Bc,Bd,Be,za7,za8] at h')) | (have q':=trivial; first | refine hE _ _ ret_ne ?_ | refine hE _ _ exit_ne ?_))<;>(try simp (disch:=first | omega | decide +kernel) only [q',go_sem,Qa,Qb,Qc,Qd,Qe,↓reduceIte,reduceCtorEq,Qf,Qg,Qh])<;>clear q') | refine hN _ ?_ ?_ Wk.kk | with_reducible refine And.intro ?_ ?_ | with_reducible omega | exact ok_ints | exact cells_ints | exact no_mem | with_reducible exact plain_ints | (refine le_maxLen ?_; omega) | (refine za9 ⟨?_,?_⟩) | (simp only [go_sem,Qc,Qb,zb1,zb2,forall_eq]; done)))
 . have : ¬ a=b:=by rintro rfl; simp at h'
   simp [this,D.plain]
 refine Ok.loopC [25,24,23,22,21,20,19,18,17,16,15,14,13,12,11,10,9,8,7,6,5,4,3,2] (fun i => [(5,.d (.int .i64 (i : Nat)))]) a.length (fun i => ∀ j,j < i->a.getD j 0=b.getD j 0) (by simp) (Wk.kk) ?_
 intro R i hN hE hi hI
 simp (disch:=first | omega | decide +kernel) only [go_sem,Qa,Qb,Qc,Qd,Qe,↓reduceIte,reduceCtorEq,Qf,Qg,Qh]
 (repeat' (first | ((first | (refine gsel_split (fun q' => ?_) (fun q' => ?_)<;>(have h':=q')<;>(try simp only [za1,za2,Ba,Bb,za3,ne_eq,za4,za5,za6,Ia,Ib,Ic,Ie,Da,Bc,Bd,Be,za7,za8] at h')) | (have q':=trivial; first | refine hE _ _ ret_ne ?_ | refine hE _ _ exit_ne ?_))<;>(try simp (disch:=first | omega | decide +kernel) only [q',go_sem,Qa,Qb,Qc,Qd,Qe,↓reduceIte,reduceCtorEq,Qf,Qg,Qh])<;>clear q') | refine hN _ ?_ ?_ Wk.kk | with_reducible refine And.intro ?_ ?_ | with_reducible omega | exact ok_ints | exact cells_ints | exact no_mem | with_reducible exact plain_ints | (refine le_maxLen ?_; omega) | (refine za9 ⟨?_,?_⟩) | (simp only [go_sem,Qc,Qb,zb1,zb2,forall_eq]; done)))
 . rename_i h1 h2
   have : ¬ a=b:=by rintro rfl; exact h' rfl
   simp [this,D.plain]
 . exact all_succ hI h'
 . rename_i h1
   have : a=b:=ext_getDz 0 (by omega) fun j hj => hI j (by omega)
   simp [this,D.plain]
end Abs.Y

namespace Abs.Y
open Go Go.Proofs Abs
open Nat renaming reduceEqDiff -> Qa, reduceLT -> Qb, reduceAdd -> Qc, reduceMul -> Qd, reduceSub -> Qe, reduceLeDiff -> Qf, reduceSubDiff -> Qg, reduceBEq -> Qh
open Bool renaming not_eq_true' -> Ba, not_eq_false' -> Bb, and_eq_true -> Bc, or_eq_true -> Bd, or_eq_false_iff -> Be
open Int renaming ofNat_lt -> Ia, ofNat_le -> Ib, not_lt -> Ic, not_le -> Ie
open Decidable renaming not_not -> Da
set_option maxRecDepth 100000

theorem vTable_self (a : List (List Int)) (hl : a.length<=4294967296) (hx : ∀ x ∈ a,x.length<=4294967296) : Ctr Try.prog 47 [.slice (a.map D.ints),.slice (a.map D.ints)] false (.d (.bool true)) []:=by
 refine Ctr.of (n:=27) (rs:=[.tmp 4]) Try.func47 rfl rfl Try.ntmps47 rfl rfl (by kernel_rfl) Try.checked.mixed ?_
 simp (disch:=first | omega | decide +kernel) only [List.length_map,go_sem,Qa,Qb,Qc,Qd,Qe,↓reduceIte,reduceCtorEq,Qf,Qg,Qh]
 (repeat' (first | ((first | (refine gsel_split (fun q' => ?_) (fun q' => ?_)<;>(have h':=q')<;>(try simp only [za1,za2,Ba,Bb,za3,ne_eq,za4,za5,za6,Ia,Ib,Ic,Ie,Da,Bc,Bd,Be,za7,za8] at h')<;>try (exfalso; omega)) | (have q':=trivial; first | refine hE _ _ ret_ne ?_ | refine hE _ _ exit_ne ?_))<;>(try simp (disch:=first | omega | decide +kernel) only [q',List.length_map,go_sem,Qa,Qb,Qc,Qd,Qe,↓reduceIte,reduceCtorEq,Qf,Qg,Qh])<;>clear q') | refine hN _ ?_ ?_ Wk.kk | with_reducible refine And.intro ?_ ?_ | with_reducible omega | exact ok_ints | exact cells_ints | exact no_mem | with_reducible exact plain_ints | (refine le_maxLen ?_; omega) | (refine za9 ⟨?_,?_⟩) | (simp only [go_sem,Qc,Qb,zb1,zb2,forall_eq]; done)))
 all_goals (try (exact absurd trivial h'))
 refine Ok.loopC [26,25,24,23,22,21,20,19,18,17,16,15,14,13,12,11,10,9,8,7,6,5,4,3,2] (fun i => [(5,.d (.int .i64 (i : Nat)))]) a.length (fun _ => True) trivial (Wk.kk) ?_
 intro R i hN hE hi _
 by_cases hlt : i < a.length
 . have hei:=el_intss (xs:=a) hlt
   have c1:=vInts_ok (a.getD i []) (a.getD i []) (hx _ (getD_mem hlt))
   rw [decide_eq_true rfl] at c1
   simp (disch:=first | omega | decide +kernel) only [hei,List.length_map,go_sem,Qa,Qb,Qc,Qd,Qe,↓reduceIte,reduceCtorEq,Qf,Qg,Qh]
   (repeat' (first | ((first | (refine gsel_split (fun q' => ?_) (fun q' => ?_)<;>(have h':=q')<;>(try simp only [za1,za2,Ba,Bb,za3,ne_eq,za4,za5,za6,Ia,Ib,Ic,Ie,Da,Bc,Bd,Be,za7,za8] at h')<;>try (exfalso; omega)) | (have q':=trivial; first | refine callX_new (c1) rfl (by decide) ?_ | refine callY_new (c1) rfl ?_ | refine hE _ _ ret_ne ?_ | refine hE _ _ exit_ne ?_))<;>(try simp (disch:=first | omega | decide +kernel) only [q',hei,List.length_map,go_sem,Qa,Qb,Qc,Qd,Qe,↓reduceIte,reduceCtorEq,Qf,Qg,Qh])<;>clear q') | refine hN _ ?_ ?_ Wk.kk | with_reducible refine And.intro ?_ ?_ | with_reducible omega | exact ok_ints | exact cells_ints | exact no_mem | with_reducible exact plain_ints | (refine le_maxLen ?_; omega) | (refine za9 ⟨?_,?_⟩) | (simp only [go_sem,Qc,Qb,zb1,zb2,forall_eq]; done)))
   all_goals (try (exact absurd trivial h'))
 . simp (disch:=first | omega | decide +kernel) only [List.length_map,go_sem,Qa,Qb,Qc,Qd,Qe,↓reduceIte,reduceCtorEq,Qf,Qg,Qh]
   (repeat' (first | ((first | (refine gsel_split (fun q' => ?_) (fun q' => ?_)<;>(have h':=q')<;>(try simp only [za1,za2,Ba,Bb,za3,ne_eq,za4,za5,za6,Ia,Ib,Ic,Ie,Da,Bc,Bd,Be,za7,za8] at h')<;>try (exfalso; omega)) | (have q':=trivial; first | refine hE _ _ ret_ne ?_ | refine hE _ _ exit_ne ?_))<;>(try simp (disch:=first | omega | decide +kernel) only [q',List.length_map,go_sem,Qa,Qb,Qc,Qd,Qe,↓reduceIte,reduceCtorEq,Qf,Qg,Qh])<;>clear q') | refine hN _ ?_ ?_ Wk.kk | with_reducible refine And.intro ?_ ?_ | with_reducible omega | exact ok_ints | exact cells_ints | exact no_mem | with_reducible exact plain_ints | (refine le_maxLen ?_; omega) | (refine za9 ⟨?_,?_⟩) | (simp only [go_sem,Qc,Qb,zb1,zb2,forall_eq]; done)))
theorem vCnf_self (u : Int) (a : List (List Int)) (hl : a.length<=4294967296) (hx : ∀ x ∈ a,x.length<=4294967296) :
 Ctr Try.prog 10 [.agg [.int .i64 u,.slice (a.map D.ints)],.agg [.int .i64 u,.slice (a.map D.ints)]] false (.d (.bool true)) []:=by
 have c1:=vTable_self a hl hx
 refine Ctr.of (n:=17) (rs:=[.tmp 4]) Try.func10 rfl rfl Try.ntmps10 rfl rfl (by kernel_rfl) Try.checked.mixed ?_
 simp (disch:=first | omega | decide +kernel) only [go_sem,Qa,Qb,Qc,Qd,Qe,↓reduceIte,reduceCtorEq,Qf,Qg,Qh]
 (repeat' (first | ((first | (refine gsel_split (fun q' => ?_) (fun q' => ?_)<;>(have h':=q')<;>(try simp only [za1,za2,Ba,Bb,za3,ne_eq,za4,za5,za6,Ia,Ib,Ic,Ie,Da,Bc,Bd,Be,za7,za8] at h')<;>try (exfalso; omega)) | (have q':=trivial; first | refine callX_new (c1) rfl (by decide) ?_ | refine callY_new (c1) rfl ?_ | refine hE _ _ ret_ne ?_ | refine hE _ _ exit_ne ?_))<;>(try simp (disch:=first | omega | decide +kernel) only [q',go_sem,Qa,Qb,Qc,Qd,Qe,↓reduceIte,reduceCtorEq,Qf,Qg,Qh])<;>clear q') | refine hN _ ?_ ?_ Wk.kk | with_reducible refine And.intro ?_ ?_ | with_reducible omega | exact ok_ints | exact cells_ints | exact no_mem | with_reducible exact plain_ints | (refine le_maxLen ?_; omega) | (refine za9 ⟨?_,?_⟩) | (simp only [go_sem,Qc,Qb,zb1,zb2,forall_eq]; done)))
 all_goals (first | exact absurd trivial h' | rfl)
end Abs.Y

namespace Abs
open Go Go.RowKit
def clrN (b e : Nat) : Nat:=b &&& (2 ^ 64 - (2 ^ e + 1))
theorem bitV_andNot {a e : Nat} (ha : a < 2 ^ 63) (he : e<=62) : bitV .andNot .i64 a ((2 ^ e : Nat) : Int)=((clrN a e : Nat) : Int):=by
 have hp : 2 ^ e<=2 ^ 62:=Nat.pow_le_pow_right (by decide) he
 have h : clrN a e < 2 ^ 63:=Nat.lt_of_le_of_lt Nat.and_le_left ha
 show IntKind.wrap .i64 (((BitVec.ofInt 64 (a : Int)) &&& ~~~(BitVec.ofInt 64 ((2 ^ e : Nat) : Int))).toNat : Nat)=_
 rw [ofInt_nat,ofInt_nat,BitVec.toNat_and,BitVec.toNat_not,BitVec.toNat_ofNat,BitVec.toNat_ofNat,Nat.mod_eq_of_lt (a:=a) (by omega),Nat.mod_eq_of_lt (a:=2 ^ e) (by omega),show 2 ^ 64 - 1 - 2 ^ e=2 ^ 64 - (2 ^ e + 1) by omega]
 change IntKind.wrap .i64 ((clrN a e : Nat) : Int)=_
 rw [wrap_of (by omega)]
theorem clrN_bit (a : Nat) {e i : Nat} (he : e<=62) (hi : i < 64) : (clrN a e).testBit i=(a.testBit i && !(decide (e=i))):=by
 have hp : 2 ^ e<=2 ^ 62:=Nat.pow_le_pow_right (by decide) he
 rw [clrN,Nat.testBit_and,Nat.testBit_two_pow_sub_succ (by omega),Nat.testBit_two_pow,decide_eq_true hi,Bool.true_and]
theorem clrN_le (a e : Nat) : clrN a e<=a:=Nat.and_le_left
end Abs
namespace Abs.Y
open Go Go.Proofs Abs
open Nat renaming reduceEqDiff -> Qa, reduceLT -> Qb, reduceAdd -> Qc, reduceMul -> Qd, reduceSub -> Qe, reduceLeDiff -> Qf, reduceSubDiff -> Qg, reduceBEq -> Qh
open Bool renaming not_eq_true' -> Ba, not_eq_false' -> Bb, and_eq_true -> Bc, or_eq_true -> Bd, or_eq_false_iff -> Be
open Int renaming ofNat_lt -> Ia, ofNat_le -> Ib, not_lt -> Ic, not_le -> Ie
open Decidable renaming not_not -> Da
set_option maxRecDepth 100000

def setB (b : Nat) (l : Int) : Nat:=if 0 < l then b ||| 2 ^ (l.natAbs - 1) else clrN b (l.natAbs - 1)
def setA (b : Nat) (a : List Int) : Nat->Nat
 | 0 => b
 | i + 1 => setB (setA b a i) (a.getD i 0)
theorem setB_bit {b : Nat} {l : Int} (hl : l.natAbs<=12) {i : Nat} (hi : i < 64) : (setB b l).testBit i=if l.natAbs - 1=i then decide (0 < l) else b.testBit i:=by
 unfold setB
 split
 . rename_i h
   rw [Nat.testBit_or,Nat.testBit_two_pow,decide_eq_true h]
   by_cases h2 : l.natAbs - 1=i<;>simp [h2]
 . rename_i h
   rw [clrN_bit _ (by omega) hi,decide_eq_false h]
   by_cases h2 : l.natAbs - 1=i<;>simp [h2]
theorem setB_lt {b u : Nat} {l : Int} (hb : b < 2 ^ u) (hl : l ≠ 0) (hu : l.natAbs<=u) : setB b l < 2 ^ u:=by
 unfold setB
 split
 . exact Nat.or_lt_two_pow hb (Nat.pow_lt_pow_right (by decide) (by omega))
 . exact Nat.lt_of_le_of_lt (clrN_le _ _) hb
theorem setA_ok {u b : Nat} {a : List Int} (hu : u<=12) (hb : b < 2 ^ u) (g : Good a) (hl : ∀ l ∈ a,l.natAbs<=u) : ∀ i,i<=a.length->setA b a i < 2 ^ u∧∀ j,j < i->tlit (setA b a i) (a.getD j 0)=true
 | 0,_ => ⟨hb,fun j h => nomatch h⟩
 | i + 1, h => by
   obtain ⟨h1,h2⟩:=setA_ok hu hb g hl i (by omega)
   have hm:=getD_mem (z:=(0 : Int)) (l:=a) (i:=i) (by omega)
   refine ⟨setB_lt h1 (g.2 _ hm).1 (hl _ hm),fun j hj => ?_⟩
   have hmj:=getD_mem (z:=(0 : Int)) (l:=a) (i:=j) (by omega)
   have hj0:=(g.2 _ hmj).1
   have hju:=hl _ hmj
   have hi0:=(g.2 _ hm).1
   have hiu:=hl _ hm
   unfold tlit
   rw [show setA b a (i + 1)=setB (setA b a i) (a.getD i 0) from rfl,setB_bit (by omega) (by omega)]
   by_cases hji : j=i
   . subst hji
     rw [if_pos rfl]; simp
   . have hlt : (a.getD j 0).natAbs < (a.getD i 0).natAbs:=by
      have:=List.pairwise_iff_getElem.1 g.1 j i (by omega) (by omega) (by omega)
      rw [getD_eq (by omega),getD_eq (by omega)]; exact this
     rw [if_neg (by omega)]
     have:=h2 j (by omega)
     unfold tlit at this
     exact this
theorem agree_setA {u b : Nat} {a : List Int} (hu : u<=12) (hb : b < 2 ^ u) (g : Good a) (hl : ∀ l ∈ a,l.natAbs<=u) : Agree (setA b a a.length) a:=fun l hla => by
 obtain ⟨j,hj,rfl⟩:=List.mem_iff_getElem.1 hla
 have:=(setA_ok hu hb g hl a.length (Nat.le_refl _)).2 j hj
 rwa [getD_eq hj] at this
theorem mv_fc (cs : List (List Int)) (a : List Int) : ∀ i,(mvI cs a i=-1)↔(fcI cs a i ≠ [])
 | 0 => by simp [mvI,fcI]
 | i + 1 => by
   have ih:=mv_fc cs a i
   have h1:=mvI_bd cs a i
   have h2:=cvI_bd (cs.getD i []) a
   rw [mvI,fcI]
   split
   . rename_i h3
     constructor
     . intro _ h; simp at h
     . intro _; omega
   . rename_i h3
     rw [← ih]; omega
theorem vAt_ok {code : List Int} (hc : CodeOK code) (k : Int) (hk : 0<=k∧k<=1000) : ∃ x : Int,0<=x∧x<=255∧Ctr Try.prog 11 [D.bytes code,.int .i64 k] false (.d (.int .i64 x)) []:=by
 have hl:=hc.len
 have hb:=hc.byte k.toNat
 by_cases hlt : k < code.length
 . have hei:=el_u8 (xs:=code) (i:=k.toNat) (by omega)
   generalize code.getD k.toNat 0=b at *
   refine ⟨b,hb.1,by omega,?_⟩
   refine Ctr.of (n:=20) (rs:=[.tmp 4]) Try.func11 rfl rfl Try.ntmps11 rfl rfl (by kernel_rfl) Try.checked.mixed ?_
   simp (disch:=first | omega | decide +kernel) only [D.bytes,hei,go_sem,Qa,Qb,Qc,Qd,Qe,↓reduceIte,reduceCtorEq,Qf,Qg,Qh]
   (repeat' (first | ((first | (refine gsel_split (fun q' => ?_) (fun q' => ?_)<;>(have h':=q')<;>(try simp only [za1,za2,Ba,Bb,za3,ne_eq,za4,za5,za6,Ia,Ib,Ic,Ie,Da,Bc,Bd,Be,za7,za8] at h')<;>try (exfalso; omega)) | (have q':=trivial; first | refine hE _ _ ret_ne ?_ | refine hE _ _ exit_ne ?_))<;>(try simp (disch:=first | omega | decide +kernel) only [q',D.bytes,hei,go_sem,Qa,Qb,Qc,Qd,Qe,↓reduceIte,reduceCtorEq,Qf,Qg,Qh])<;>clear q') | refine hN _ ?_ ?_ Wk.kk | with_reducible refine And.intro ?_ ?_ | with_reducible omega | exact ok_ints | exact cells_ints | exact no_mem | with_reducible exact plain_ints | (refine le_maxLen ?_; omega) | (refine za9 ⟨?_,?_⟩) | (simp only [go_sem,Qc,Qb,zb1,zb2,forall_eq]; done)))
 . have e1 : (k * 7 + (code.length : Int)).tmod 256=(k * 7 + (code.length : Int)) % 256:=Int.tmod_eq_emod_of_nonneg (by omega)
   refine ⟨(k * 7 + (code.length : Int)) % 256,by omega,by omega,?_⟩
   refine Ctr.of (n:=20) (rs:=[.tmp 4]) Try.func11 rfl rfl Try.ntmps11 rfl rfl (by kernel_rfl) Try.checked.mixed ?_
   simp (disch:=first | omega | decide +kernel) only [D.bytes,e1,go_sem,Qa,Qb,Qc,Qd,Qe,↓reduceIte,reduceCtorEq,Qf,Qg,Qh]
   (repeat' (first | ((first | (refine gsel_split (fun q' => ?_) (fun q' => ?_)<;>(have h':=q')<;>(try simp only [za1,za2,Ba,Bb,za3,ne_eq,za4,za5,za6,Ia,Ib,Ic,Ie,Da,Bc,Bd,Be,za7,za8] at h')<;>try (exfalso; omega)) | (have q':=trivial; first | refine hE _ _ ret_ne ?_ | refine hE _ _ exit_ne ?_))<;>(try simp (disch:=first | omega | decide +kernel) only [q',D.bytes,e1,go_sem,Qa,Qb,Qc,Qd,Qe,↓reduceIte,reduceCtorEq,Qf,Qg,Qh])<;>clear q') | refine hN _ ?_ ?_ Wk.kk | with_reducible refine And.intro ?_ ?_ | with_reducible omega | exact ok_ints | exact cells_ints | exact no_mem | with_reducible exact plain_ints | (refine le_maxLen ?_; omega) | (refine za9 ⟨?_,?_⟩) | (simp only [go_sem,Qc,Qb,zb1,zb2,forall_eq]; done)))
end Abs.Y
