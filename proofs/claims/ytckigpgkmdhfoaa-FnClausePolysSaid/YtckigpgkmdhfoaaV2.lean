/- What functions of this program compute, over plain data. No condition. -/
import Derived.Test.YtckigpgkmdhfoaaAbsRow
import Derived.Test.YtckigpgkmdhfoaaV1
set_option linter.all false
open Nat renaming reduceEqDiff -> Qa, reduceLT -> Qb, reduceAdd -> Qc, reduceMul -> Qd, reduceSub -> Qe, reduceLeDiff -> Qf, reduceSubDiff -> Qg, reduceBEq -> Qh
open Bool renaming not_eq_true' -> Ba, not_eq_false' -> Bb, and_eq_true -> Bc, or_eq_true -> Bh, or_eq_false_iff -> Be
open Int renaming ofNat_lt -> Ia, ofNat_le -> Ib, not_lt -> Ic, not_le -> Ie
open Decidable renaming not_not -> Da
namespace Abs
open Go Go.RowKit

theorem Ctr.data1 {P : Program} {f : FuncId} {xs : List D} {sh : Bool} {e : TypeId} {k : Nat} {es : List D} (h : Ctr P f xs sh (.sl 0) [(0,.arr e k es)]) : Ctr P f xs true (.d (.slice es)) []:=by
 refine ⟨h.1,fun S w vs hl hr => (h.2 S w vs hl hr).mono fun en w' ⟨v,he,hf,β,φ,hrel,hobj,hown,hdis⟩ => ⟨v,he,hf,β,φ,.d ?_,by simp [lk],by simp [lk],by simp [lk]⟩⟩
 cases hrel
 exact rd_of_arr (hobj 0 (.arr e k es) (by simp [lk])) (fun g hg _ => ⟨hg.1.imp id fun h => ⟨rfl,h.2⟩,by simp [lk]⟩) fun g hg => ⟨.inl (hown 0 (.arr e k es) g (by simp [lk]) hg),by simp [lk]⟩
theorem bare_ints {k : IntKind} (xs : List Int) : (∀ x ∈ flat (List.map (D.int k) xs),x.bare=true)=True:=by
 refine eq_true fun x hx => ?_
 obtain ⟨y,hy,hc⟩:=List.mem_flatMap.1 hx
 obtain ⟨z,_,rfl⟩:=List.mem_map.1 hy
 have : x=.int k z:=by simpa [D.cells] using hc
 subst this; rfl
attribute [go_sem] bare_ints
def cntI (k : Int) : Nat->List Int
 | 0 => []
 | n + 1 => k :: cntI (k + 1) n
end Abs
namespace Abs
end Abs
namespace Abs
def cntSS : List (List Int)->Int->List (List Int)
 | [],_ => []
 | x :: r,k => cntI k x.length :: cntSS r (k + x.length)
def lenSS : List (List Int)->Nat
 | [] => 0
 | x :: r => x.length + lenSS r
def offSS (a : List (List Int)) (k : Int) (i : Nat) : Int:=k + (lenSS (a.take i) : Nat)
def lenST : List Step->Nat
 | [] => 0
 | s :: r => s.c.length + 3 + lenST r
def cntST1 (s : Step) (k : Int) : Step:=⟨cntI k s.c.length,k + s.c.length,k + s.c.length + 1,k + s.c.length + 2⟩
def cntST : List Step->Int->List Step
 | [],_ => []
 | s :: r,k => cntST1 s k :: cntST r (k + s.c.length + 3)
def offST (a : List Step) (k : Int) (i : Nat) : Int:=k + (lenST (a.take i) : Nat)
end Abs
namespace Abs
end Abs
namespace Abs
end Abs
namespace Abs
end Abs
namespace Abs
open Go Go.RowKit
end Abs

namespace Abs
open Go Go.RowKit

mutual
def AV.bfz (j : Nat) (x : D) : AV->AV
 | .sl i => if i=j then .undef else .sl i
 | .p i o => if i=j then (if o=0 then .d (.ptr x) else .undef) else .p i o
 | .pe i k n o => if i=j then .undef else .pe i k n o
 | .mq i => if i=j then .undef else .mq i
 | .sf i k l => if i=j then .undef else .sf i k l
 | .vw i q n k => if q=j then .undef else .vw i q n k
 | .pv i q k n o => if q=j then .undef else .pv i q k n o
 | .tup xs => .tup (AV.bfzL j x xs)
 | .st xs => .st (AV.bfzL j x xs)
 | .fn f cs => .fn f (AV.bfzL j x cs)
 | y => y
def AV.bfzL (j : Nat) (x : D) : List AV->List AV
 | [] => []
 | y :: r => y.bfz j x :: AV.bfzL j x r
end
def bfzS (j : Nat) (x : D) : List (Nat × AV)->List (Nat × AV)
 | [] => []
 | (k,v) :: r => (k,v.bfz j x) :: bfzS j x r
def AO.bfz (j : Nat) (x : D) : AO->AO
 | .box e cells => .box e (AV.bfzL j x cells)
 | .dp t xs (some (c,some d)) => .dp t xs (if d=j then some (c,none) else some (c,some d))
 | y => y
def bfzO (j : Nat) (x : D) : List (Nat × AO)->List (Nat × AO)
 | [] => []
 | (k,v) :: r => if k=j then bfzO j x r else (k,v.bfz j x) :: bfzO j x r
def cutQ (P : Program) (N : Nat) (y : Code) (Q : Exit->St->Prop) (st : St) : Prop:=∃ st',Wk N st st'∧Awp P N y Q st'
theorem Ctr.tupN {P : Program} {f : FuncId} {xs ys : List D} {sh : Bool} (h : Ctr P f xs sh (.tup (ys.map .d)) []) : Ctr P f xs sh (.d (.tup ys)) []:=by
 refine ⟨h.1,fun S w vs hvl hvr => (h.2 S w vs hvl hvr).mono fun e w' ⟨v,he,hF,β,φ,hR,h1,h2,h3⟩ => ⟨v,he,hF,β,φ,?_,h1,h2,h3⟩⟩
 cases hR with
 | tup hl hr =>
   refine .d (.tup (by simpa using hl) fun i hi => ?_)
   have:=hr i (by simpa using hi)
   have e : (ys.map AV.d).getD i .undef=.d (ys.getD i .nilptr):=by simp [List.getD_eq_getElem?_getD,hi]
   rw [e] at this
   cases this with
   | d h => exact h
end Abs

namespace Abs.Y
open Go Go.Proofs Abs
set_option maxRecDepth 100000

def litD (p : Int) (u : Nat) (l : Int) : List Int:=if 0 < l then monoD u (2 ^ (l - 1).toNat) else addD p (p - 1) (monoD u 0) (monoD u (2 ^ (0 - l - 1).toNat))
def clauseD (p : Int) (u : Nat) (c : List Int) : List Int:=c.foldl (fun v l => mulD p (2 ^ u) v (litD p u (0 - l))) (monoD u 0)
def LitU (u : Nat) (l : Int) : Prop:=(1<=l∧l<=u)∨(1<=0 - l∧0 - l<=u)
theorem mono_len (u m : Nat) : (monoD u m).length=2 ^ u:=by simp [monoD]
theorem Vec.lit {p : Int} (hp : 1 < p) (u : Nat) (l : Int) : Vec p (2 ^ u) (litD p u l):=by
 unfold litD
 split
 . exact Vec.mono hp u _
 . exact Vec.addD (by omega) (mono_len _ _) (mono_len _ _)
theorem Vec.clause {p : Int} (hp : 1 < p) (u : Nat) (c : List Int) : Vec p (2 ^ u) (clauseD p u c):=by
 unfold clauseD
 refine fold_vec (fun v l h => Vec.mulD (by omega) _ _ _) c (Vec.mono hp u 0)
theorem two_pow_lt {u e : Nat} (h : e < u) : 2 ^ e < 2 ^ u:=Nat.pow_lt_pow_right (by decide) h
section
variable {p : Int} {u : Nat} (hp : 1 < p∧p<=5) (hu : u<=6)
include hp hu
set_option maxHeartbeats 4000000 in
theorem literal_ok {l : Int} (hl : LitU u l) : Ctr Try.prog 116 [D.ring p u,.int .i64 l] true (.d (.ints (litD p u l))) []:=by
 have h2:=pow_le6 hu
 have h1 : 0 < 2 ^ u:=Nat.pow_pos (by decide)
 unfold litD
 by_cases h : 0 < l
 . rw [if_pos h]
   have hlu : l<=u:=by unfold LitU at hl; omega
   obtain ⟨k,hk⟩ : ∃ k : Nat,(l - 1).toNat=k:=⟨_,rfl⟩
   have hlk : l - 1=(k : Int):=by omega
   have hl2 : l=(k : Int) + 1:=by omega
   rw [hk]
   have e : IntKind.wrap .i64 (1 * 2 ^ min k 64)=((2 ^ k : Nat) : Int):=shl_one (by omega)
   have c1:=Ctr.data1 (mono_ok hp hu (m:=2 ^ k) (two_pow_lt (by omega)))
   subst hl2
   have hw : (k : Int) + 1 - 1=(k : Int):=by omega
   generalize monoD u (2 ^ k)=r at *
   generalize 2 ^ k=m at *
   refine Ctr.of (n:=25) (rs:=[.tmp 4]) Try.func116 rfl rfl Try.ntmps116 rfl rfl (by kernel_rfl) Try.checked.mixed ?_
   simp (disch:=first | omega | decide +kernel) only [hw,e,go_sem,Qa,Qb,Qc,Qd,Qe,↓reduceIte,reduceCtorEq,Qf,Qg,Qh]
   (repeat' (first | ((first | (refine gsel_split (fun q' => ?_) (fun q' => ?_)<;>(have h':=q')<;>(try simp only [za1,za2,Ba,Bb,za3,ne_eq,za4,za5,za6,Ia,Ib,Ic,Ie,Da,Bc,Bh,Be,za7,za8] at h')<;>try (exfalso; omega)) | (have q':=trivial; first | refine callX_shared (c1) rfl (by decide) ?_ | refine callY_shared (c1) rfl ?_ | refine hE _ _ ret_ne ?_ | refine hE _ _ exit_ne ?_))<;>(try simp (disch:=first | omega | decide +kernel) only [q',hw,e,D.ints,go_sem,Qa,Qb,Qc,Qd,Qe,↓reduceIte,reduceCtorEq,Qf,Qg,Qh])<;>clear q') | refine hN _ ?_ ?_ Wk.kk | with_reducible refine And.intro ?_ ?_ | with_reducible omega | exact ok_ints | exact cells_ints | exact no_mem | with_reducible exact plain_ints | (refine le_maxLen ?_; omega) | (refine za9 ⟨?_,?_⟩) | (simp only [go_sem,Qc,Qb,zb1,zb2,forall_eq]; done)))
   all_goals (first | omega | exact ret_s1 [] rfl)
 . rw [if_neg h]
   have hlu : 1<=0 - l∧0 - l<=u:=by unfold LitU at hl; omega
   obtain ⟨k,hk⟩ : ∃ k : Nat,(0 - l - 1).toNat=k:=⟨_,rfl⟩
   have hlk : 0 - l - 1=(k : Int):=by omega
   rw [hk]
   have e : IntKind.wrap .i64 (1 * 2 ^ min k 64)=((2 ^ k : Nat) : Int):=shl_one (by omega)
   have c1:=Ctr.data1 (mono_ok hp hu (m:=2 ^ k) (two_pow_lt (by omega)))
   have c2:=Ctr.data1 (mono_ok hp hu (m:=0) h1)
   have c3:=Ctr.data1 (plus_ok hp hu (a:=monoD u 0) (b:=monoD u (2 ^ k)) (k:=p - 1) (Vec.mono hp.1 u _) (Vec.mono hp.1 u _) (by omega))
   generalize addD p (p - 1) (monoD u 0) (monoD u (2 ^ k))=r at *
   generalize monoD u (2 ^ k)=m1 at *
   generalize monoD u 0=m0 at *
   generalize 2 ^ k=m at *
   refine Ctr.of (n:=25) (rs:=[.tmp 4]) Try.func116 rfl rfl Try.ntmps116 rfl rfl (by kernel_rfl) Try.checked.mixed ?_
   simp (disch:=first | omega | decide +kernel) only [hlk,e,go_sem,Qa,Qb,Qc,Qd,Qe,↓reduceIte,reduceCtorEq,Qf,Qg,Qh]
   (repeat' (first | ((first | (refine gsel_split (fun q' => ?_) (fun q' => ?_)<;>(have h':=q')<;>(try simp only [za1,za2,Ba,Bb,za3,ne_eq,za4,za5,za6,Ia,Ib,Ic,Ie,Da,Bc,Bh,Be,za7,za8] at h')<;>try (exfalso; omega)) | (have q':=trivial; first | refine callX_shared (c1) rfl (by decide) ?_ | refine callY_shared (c1) rfl ?_ | refine callX_shared (c2) rfl (by decide) ?_ | refine callY_shared (c2) rfl ?_ | refine callX_shared (c3) rfl (by decide) ?_ | refine callY_shared (c3) rfl ?_ | refine hE _ _ ret_ne ?_ | refine hE _ _ exit_ne ?_))<;>(try simp (disch:=first | omega | decide +kernel) only [q',hlk,e,D.ints,go_sem,Qa,Qb,Qc,Qd,Qe,↓reduceIte,reduceCtorEq,Qf,Qg,Qh])<;>clear q') | refine hN _ ?_ ?_ Wk.kk | with_reducible refine And.intro ?_ ?_ | with_reducible omega | exact ok_ints | exact cells_ints | exact no_mem | with_reducible exact plain_ints | (refine le_maxLen ?_; omega) | (refine za9 ⟨?_,?_⟩) | (simp only [go_sem,Qc,Qb,zb1,zb2,forall_eq]; done)))
   all_goals (first | omega | exact ret_s1 [] rfl)
set_option maxHeartbeats 4000000 in
theorem clauseR_ok {c : List Int} (hl : c.length<=4294967296) (hc : ∀ l ∈ c,LitU u l) : Ctr Try.prog 58 [D.ring p u,.ints c] true (.d (.ints (clauseD p u c))) []:=by
 have h2:=pow_le6 hu
 have h1 : 0 < 2 ^ u:=Nat.pow_pos (by decide)
 have c0:=Ctr.data1 (mono_ok hp hu (m:=0) h1)
 refine Ctr.of (n:=25) (rs:=[.tmp 4]) Try.func58 rfl rfl Try.ntmps58 rfl rfl (by kernel_rfl) Try.checked.mixed ?_
 simp (disch:=first | omega | decide +kernel) only [D.ints,go_sem,Qa,Qb,Qc,Qd,Qe,↓reduceIte,reduceCtorEq,Qf,Qg,Qh]
 (repeat' (first | ((first | (refine gsel_split (fun q' => ?_) (fun q' => ?_)<;>(have h':=q')<;>(try simp only [za1,za2,Ba,Bb,za3,ne_eq,za4,za5,za6,Ia,Ib,Ic,Ie,Da,Bc,Bh,Be,za7,za8] at h')<;>try (exfalso; omega)) | (have q':=trivial; first | refine callX_shared (c0) rfl (by decide) ?_ | refine callY_shared (c0) rfl ?_ | refine hE _ _ ret_ne ?_ | refine hE _ _ exit_ne ?_))<;>(try simp (disch:=first | omega | decide +kernel) only [q',D.ints,go_sem,Qa,Qb,Qc,Qd,Qe,↓reduceIte,reduceCtorEq,Qf,Qg,Qh])<;>clear q') | refine hN _ ?_ ?_ Wk.kk | with_reducible refine And.intro ?_ ?_ | with_reducible omega | exact ok_ints | exact cells_ints | exact no_mem | with_reducible exact plain_ints | (refine le_maxLen ?_; omega) | (refine za9 ⟨?_,?_⟩) | (simp only [go_sem,Qc,Qb,zb1,zb2,forall_eq]; done)))
 refine Ok.loopN [23,22,21,20,19,18,17,16,15,14,13,12,9,8,7,6,5,3,1,0] (fun i (v : List Int) => [(12,.d (.int .i64 (i : Nat))),(5,.d (.ints v))]) (fun _ _ => []) c.length
  (fun i v => v=(c.take i).foldl (fun v l => mulD p (2 ^ u) v (litD p u (0 - l))) (monoD u 0)) (monoD u 0) rfl (by refine Wk.auto ?_ ?_<;>simp [extraK,lk,killL,St.kill,wipeO,wipeS,AV.has,AV.hasL,AO.wipe,List.map_set,updSt,insL,dropS,ins,D.ints]) ?_
 rintro R i v hN hE hi hv
 by_cases hlt : i < c.length
 . have hvv : Vec p (2 ^ u) v:=by rw [hv]; exact fold_vec (fun v l h => Vec.mulD (by omega) _ _ _) _ (Vec.mono hp.1 u 0)
   have hs : (c.take (i + 1)).foldl (fun v l => mulD p (2 ^ u) v (litD p u (0 - l))) (monoD u 0)=mulD p (2 ^ u) v (litD p u (0 - c.getD i 0)):=by
    rw [take_succ 0 c i hlt,List.foldl_append,← hv]; rfl
   have hli:=hc _ (getD_mem (z:=(0 : Int)) hlt)
   have hli2 : LitU u (0 - c.getD i 0):=by unfold LitU at *; omega
   have hb : -100<=c.getD i 0∧c.getD i 0<=100:=by unfold LitU at hli; omega
   have c1:=literal_ok hp hu hli2
   have c2:=Ctr.data1 (times_ok hp hu hvv (Vec.lit hp.1 u (0 - c.getD i 0)))
   clear hv
   generalize mulD p (2 ^ u) v (litD p u (0 - c.getD i 0))=w at *
   generalize litD p u (0 - c.getD i 0)=q at *
   simp (disch:=first | omega | decide +kernel) only [D.ints,go_sem,Qa,Qb,Qc,Qd,Qe,↓reduceIte,reduceCtorEq,Qf,Qg,Qh]
   (repeat' (first | ((first | (refine gsel_split (fun q' => ?_) (fun q' => ?_)<;>(have h':=q')<;>(try simp only [za1,za2,Ba,Bb,za3,ne_eq,za4,za5,za6,Ia,Ib,Ic,Ie,Da,Bc,Bh,Be,za7,za8] at h')<;>try (exfalso; omega)) | (have q':=trivial; first | refine callX_shared (c1) rfl (by decide) ?_ | refine callY_shared (c1) rfl ?_ | refine callX_shared (c2) rfl (by decide) ?_ | refine callY_shared (c2) rfl ?_ | refine hE _ _ ret_ne ?_ | refine hE _ _ exit_ne ?_))<;>(try simp (disch:=first | omega | decide +kernel) only [q',D.ints,go_sem,Qa,Qb,Qc,Qd,Qe,↓reduceIte,reduceCtorEq,Qf,Qg,Qh])<;>clear q') | refine hN _ ?_ ?_ Wk.kk | with_reducible refine And.intro ?_ ?_ | with_reducible omega | exact ok_ints | exact cells_ints | exact no_mem | with_reducible exact plain_ints | (refine le_maxLen ?_; omega) | (refine za9 ⟨?_,?_⟩) | (simp only [go_sem,Qc,Qb,zb1,zb2,forall_eq]; done)))
   all_goals (first | omega | (refine hN w _ hlt hs.symm (by refine Wk.auto ?_ ?_<;>simp [extraK,lk,killL,St.kill,wipeO,wipeS,AV.has,AV.hasL,AO.wipe,List.map_set,updSt,insL,dropS,ins,D.ints]); done))
 . obtain rfl : i=c.length:=by omega
   rw [List.take_length] at hv
   have hv2 : v=clauseD p u c:=hv
   rw [← hv2] at hE
   simp (disch:=first | omega | decide +kernel) only [D.ints,go_sem,Qa,Qb,Qc,Qd,Qe,↓reduceIte,reduceCtorEq,Qf,Qg,Qh]
   (repeat' (first | ((first | (refine gsel_split (fun q' => ?_) (fun q' => ?_)<;>(have h':=q')<;>(try simp only [za1,za2,Ba,Bb,za3,ne_eq,za4,za5,za6,Ia,Ib,Ic,Ie,Da,Bc,Bh,Be,za7,za8] at h')<;>try (exfalso; omega)) | (have q':=trivial; first | refine hE _ _ ret_ne ?_ | refine hE _ _ exit_ne ?_))<;>(try simp (disch:=first | omega | decide +kernel) only [q',D.ints,go_sem,Qa,Qb,Qc,Qd,Qe,↓reduceIte,reduceCtorEq,Qf,Qg,Qh])<;>clear q') | refine hN _ ?_ ?_ Wk.kk | with_reducible refine And.intro ?_ ?_ | with_reducible omega | exact ok_ints | exact cells_ints | exact no_mem | with_reducible exact plain_ints | (refine le_maxLen ?_; omega) | (refine za9 ⟨?_,?_⟩) | (simp only [go_sem,Qc,Qb,zb1,zb2,forall_eq]; done)))
   all_goals (first | omega | exact ret_s1 [] rfl)
end
end Abs.Y
