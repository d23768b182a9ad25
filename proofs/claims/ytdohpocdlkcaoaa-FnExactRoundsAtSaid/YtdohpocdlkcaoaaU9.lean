/- What functions of this program compute, over plain data. No condition. -/
import Derived.Test.YtdohpocdlkcaoaaU7
import Derived.Test.YtdohpocdlkcaoaaE10
set_option linter.all false
namespace Abs.Y
open Go Go.Proofs Abs
open Nat renaming reduceEqDiff -> Qa, reduceLT -> Qb, reduceAdd -> Qc, reduceMul -> Qd, reduceSub -> Qe, reduceLeDiff -> Qf, reduceSubDiff -> Qg, reduceBEq -> Qh
open Bool renaming not_eq_true' -> Ba, not_eq_false' -> Bb, and_eq_true -> Bc, or_eq_true -> Bd, or_eq_false_iff -> Be
open Int renaming ofNat_lt -> Ia, ofNat_le -> Ib, not_lt -> Ic, not_le -> Ie
open Decidable renaming not_not -> Da
set_option maxRecDepth 100000

theorem mclauseD_ok {c : List Int} (g : G6 c) : Ctr Try.prog 220 [.int .u16 (mkN c : Nat)] false (.sl 0) [(0,.arr 3 1 (c.map (.int .i64)))]:=by
 have:=mclause_ok (mkN c) (mkN_lt g)
 rwa [clsN_mkN g] at this
theorem g6_len {c : List Int} (g : G6 c) : c.length<=12:=by
 rw [← mkN_pc g]; unfold pcN
 exact Nat.le_trans (List.length_filter_le _ _) (by simp)
theorem g6_sm {c : List Int} (g : G6 c) : Sm c:=fun x hx => by
 have:=g.2 x hx
 omega
end Abs.Y

namespace Abs.Y
open Go Go.Proofs Abs
open Nat renaming reduceEqDiff -> Qa, reduceLT -> Qb, reduceAdd -> Qc, reduceMul -> Qd, reduceSub -> Qe, reduceLeDiff -> Qf, reduceSubDiff -> Qg, reduceBEq -> Qh
open Bool renaming not_eq_true' -> Ba, not_eq_false' -> Bb, and_eq_true -> Bc, or_eq_true -> Bd, or_eq_false_iff -> Be
open Int renaming ofNat_lt -> Ia, ofNat_le -> Ib, not_lt -> Ic, not_le -> Ie
open Decidable renaming not_not -> Da
set_option maxRecDepth 100000

def goodN (v : Int) (cs : List (List Int)) (w : Int) : Bool:=(okCnf v cs && decide (v<=6)) && (decide (0<=w) && decide (w<=6))
theorem narrowOk_ok (v : Int) (cs : List (List Int)) (w : Int) (hl : cs.length<=4294967296) (hc : ∀ j,(cs.getD j []).length<=4294967296) :
 Ctr Try.prog 79 [.agg [.int .i64 v,.slice (cs.map D.ints)],.int .i64 w] false (.d (.bool (goodN v cs w))) []:=by
 have c1:=isCnf_ok v cs hl hc
 have c2:=within_ok w 0 6
 unfold goodN
 generalize okCnf v cs=b at *
 refine Ctr.of (n:=16) (rs:=[.tmp 4]) Try.func79 rfl rfl Try.ntmps79 rfl rfl (by kernel_rfl) Try.checked.mixed ?_
 simp (disch:=first | omega | decide +kernel) only [go_sem,Qa,Qb,Qc,Qd,Qe,↓reduceIte,reduceCtorEq,Qf,Qg,Qh]
 cases b
 . (repeat' (first | ((first | (refine gsel_split (fun q' => ?_) (fun q' => ?_)<;>(have h':=q')<;>(try simp only [za1,za2,Ba,Bb,za3,ne_eq,za4,za5,za6,Ia,Ib,Ic,Ie,Da,Bc,Bd,Be,za7,za8] at h')) | (have q':=trivial; first | refine callX_new (c1) rfl (by decide) ?_ | refine callY_new (c1) rfl ?_ | refine callX_new (c2) rfl (by decide) ?_ | refine callY_new (c2) rfl ?_ | refine hE _ _ ret_ne ?_ | refine hE _ _ exit_ne ?_))<;>(try simp (disch:=first | omega | decide +kernel) only [q',go_sem,Qa,Qb,Qc,Qd,Qe,↓reduceIte,reduceCtorEq,Qf,Qg,Qh])<;>clear q') | refine hN _ ?_ ?_ Wk.kk | with_reducible refine And.intro ?_ ?_ | with_reducible omega | exact ok_ints | exact cells_ints | exact no_mem | with_reducible exact plain_ints | (refine le_maxLen ?_; omega) | (refine za9 ⟨?_,?_⟩) | (simp only [go_sem,Qc,Qb,zb1,zb2,forall_eq]; done)))
   all_goals simp
 . (repeat' (first | ((first | (refine gsel_split (fun q' => ?_) (fun q' => ?_)<;>(have h':=q')<;>(try simp only [za1,za2,Ba,Bb,za3,ne_eq,za4,za5,za6,Ia,Ib,Ic,Ie,Da,Bc,Bd,Be,za7,za8] at h')) | (have q':=trivial; first | refine callX_new (c1) rfl (by decide) ?_ | refine callY_new (c1) rfl ?_ | refine callX_new (c2) rfl (by decide) ?_ | refine callY_new (c2) rfl ?_ | refine hE _ _ ret_ne ?_ | refine hE _ _ exit_ne ?_))<;>(try simp (disch:=first | omega | decide +kernel) only [q',go_sem,Qa,Qb,Qc,Qd,Qe,↓reduceIte,reduceCtorEq,Qf,Qg,Qh])<;>clear q') | refine hN _ ?_ ?_ Wk.kk | with_reducible refine And.intro ?_ ?_ | with_reducible omega | exact ok_ints | exact cells_ints | exact no_mem | with_reducible exact plain_ints | (refine le_maxLen ?_; omega) | (refine za9 ⟨?_,?_⟩) | (simp only [go_sem,Qc,Qb,zb1,zb2,forall_eq]; done)))
   all_goals (first | rfl | simp_all)
theorem good6 {v : Int} {cs : List (List Int)} {w : Int} (h : goodN v cs w=true) : (∀ c ∈ cs,G6 c)∧cs.length<=60∧(0<=w∧w<=6)∧0<=v∧v<=6∧okCnf v cs=true:=by
 simp only [goodN,Bc,decide_eq_true_eq] at h
 obtain ⟨⟨h1,h2⟩,h3⟩:=h
 have h1':=h1
 simp only [okCnf,Bc,decide_eq_true_eq,List.all_eq_true] at h1'
 obtain ⟨⟨h4,h5⟩,h6⟩:=h1'
 have h7:=okVars_iff.1 h4
 refine ⟨fun c hc => ⟨good_of_ok (h6 c hc),fun x hx => ?_⟩,h5,h3,h7.1,h2,h1⟩
 have h8:=h6 c hc
 simp only [okClause,Bc,decide_eq_true_eq] at h8
 obtain ⟨j,hj,rfl⟩:=List.getElem_of_mem hx
 have h9:=(h8.2 j hj).1
 simp only [List.getD_eq_getElem?_getD,List.getElem?_eq_getElem hj,Option.getD_some] at h9
 omega
open Classical in
noncomputable def srtV (S : List Int->Prop) : List (List Int):=if h : ∃ l,Srt l∧∀ c,c ∈ l↔S c then h.choose else []
theorem srtV_eq {S : List Int->Prop} {l : List (List Int)} (h1 : Srt l) (h2 : ∀ c,c ∈ l↔S c) : srtV S=l:=by
 have h : ∃ l,Srt l∧∀ c,c ∈ l↔S c:=⟨l,h1,h2⟩
 unfold srtV
 rw [dif_pos h]
 exact srt_uniq h.choose_spec.1 h1 fun c => by rw [h.choose_spec.2,h2]
def CloS (cs : List (List Int)) (w : Nat) (c : List Int) : Prop:=∃ k,NewC cs w k c
noncomputable def closV (cs : List (List Int)) (w : Nat) : List (List Int):=srtV (CloS cs w)
theorem FinC.srt {cs : List (List Int)} {w : Nat} {L : CT} {last : Nat} (hg : ∀ c ∈ cs,G6 c) (h : FinC cs w L last) : Srt (sortC (keysC L))∧∀ c,c ∈ sortC (keysC L)↔CloS cs w c:=by
 have hs : ∀ x ∈ keysC L,Sm x:=fun x hx => by
  obtain ⟨p,hp,rfl⟩:=List.mem_map.1 hx
  exact g6_sm (new_g6 hg ((h.mem p.1 p.2).1 hp))
 refine ⟨srt_of (sortC_sm hs) (sortC_sorted hs) ((sortC_perm _).nodup_iff.2 h.nd),fun c => ?_⟩
 rw [(sortC_perm _).mem_iff]
 constructor
 . intro hc
   obtain ⟨p,hp,rfl⟩:=List.mem_map.1 hc
   exact ⟨p.2,(h.mem _ _).1 hp⟩
 . rintro ⟨k,hk⟩
   exact List.mem_map.2 ⟨(c,k),(h.mem c k).2 hk,rfl⟩
noncomputable def closI (v : Int) (cs : List (List Int)) (w : Int) : List (List Int):=if goodN v cs w then closV cs w.toNat else []
end Abs.Y
