/- What functions of this program compute, over plain data. No condition. -/
import Derived.Test.YtckigpgkmdhfoaaV2
import Derived.Test.YtckigpgkmdhfoaaK0
import Derived.Test.YtckigpgkmdhfoaaA2
import Derived.Test.YtckigpgkmdhfoaaB1
set_option linter.all false
open Nat renaming reduceEqDiff -> Qa, reduceLT -> Qb, reduceAdd -> Qc, reduceMul -> Qd, reduceSub -> Qe, reduceLeDiff -> Qf, reduceSubDiff -> Qg, reduceBEq -> Qh
open Bool renaming not_eq_true' -> Ba, not_eq_false' -> Bb, and_eq_true -> Bc, or_eq_true -> Bh, or_eq_false_iff -> Be
open Int renaming ofNat_lt -> Ia, ofNat_le -> Ib, not_lt -> Ic, not_le -> Ie
open Decidable renaming not_not -> Da
namespace Abs
open Go Go.RowKit

theorem Ok.go {P : Program} {N : Nat} {c : Code} {Q : Exit->St->Prop} {st : St} (h : Awp P N c Q st) : Ok P N c Q st:=by
 rw [Awp_eq] at h; exact ok_of_awp _ _ _ h
theorem Ok.seq {P : Program} {N : Nat} {x y : Code} {Q : Exit->St->Prop} {st : St} (h : Ok P N x (seqQ (fun st => Ok P N y Q st) Q) st) : Ok P N (.seq x y) Q st:=fun h1 h2 Z B M w0 a w hs => by
 simp only [codeOK,Bc] at h1
 refine sw_mono x (h h1.1 h2 Z B M w0 a w hs) fun e a' w' hl => ?_
 cases e with
 | normal =>
   simp only [lift] at hl
   obtain ⟨st1,hs1,hy⟩:=hl
   exact hy h1.2 h2 Z B M w0 a' w' hs1
 | exit id => exact hl
 | ret => exact hl
 | _ => exact hl
theorem Ok.endsW {P : Program} {N : Nat} {c : Code} {Q : Exit->St->Prop} {st : St} (h : Ok P N c (fun e st => ∃ st',Wk N st st'∧Q e st') st) : Ok P N c Q st:=fun h1 h2 Z B M w0 a w hs =>
 sw_mono c (h h1 h2 Z B M w0 a w hs) fun e a w hl => by
  cases e<;>simp only [lift] at hl ⊢<;>(try exact hl.elim) <;>
  . obtain ⟨st1,⟨β,φ,hs1⟩,st2,hw,hq⟩:=hl
    obtain ⟨β',φ',hs2⟩:=hw _ _ _ _ _ _ _ _ hs1
    exact ⟨st2,⟨β',φ',hs2⟩,hq⟩

def tagC (u : Value) : D->D
 | .slice (x :: r) => .tag u (x :: r)
 | c => c
def D.unt : D->D
 | .tag _ es => .slice es
 | c => c
def mapCells (f : Nat->D->D) (k : Nat) (es : List D) : List D:=es.zipIdx.map fun p => match p.1 with
 | .agg cs => .agg (cs.zipIdx.map fun q => f (p.2 * k + q.2) q.1)
 | c => f (p.2 * k) c
def tagE (us : Nat->Value) (k : Nat) (es : List D) : List D:=mapCells (fun i c => tagC (us i) c) k es
def resOf (us : Nat->Value) (es : List D) : List (Value × List D):=(flat es).zipIdx.map fun p => match p.1 with
 | .slice (x :: r) => (us p.2,x :: r)
 | _ => (.slice none 0 0,[])
abbrev Tg:=Value × List Int
def D.tg (p : Tg) : D:=tagC p.1 (.slice (p.2.map (.int .i64)))
def resP (p : Tg) : Value × List D:=match p.2 with
 | [] => (.slice none 0 0,[])
 | x :: r => (p.1,(x :: r).map (.int .i64))
def tgs (us : Nat->Value) (cs : List (List Int)) : List Tg:=cs.zipIdx.map fun p => (us p.2,p.1)
mutual
def D.strip : D->D
 | .tag _ es => .slice es
 | .agg cs => .agg (D.stripL cs)
 | x => x
def D.stripL : List D->List D
 | [] => []
 | x :: r => x.strip :: D.stripL r
end
end Abs

namespace Abs
open Go Go.RowKit

end Abs

namespace Abs
open Go Go.RowKit
def Z7c (P : Program) (N : Nat) (l : List Oper) (K : St->Prop) (st : St) : List (Oper × Nat)->List (Oper × Nat)->Nat->List Bool->List Oper->Prop
 | hs,ts,_,_,[] => HeadW P N l (fst7 hs) st (kH7 P N l hs ts K)
 | hs,ts,k,true :: cs,o :: r => Z7c P N l K st (hs++[(o,k)]) ts (k + 1) cs r
 | hs,ts,k,false :: cs,o :: r => Z7c P N l K st hs (ts++[(o,k)]) (k + 1) cs r
 | _,_,_,[],_ :: _ => False
@[go_sem] theorem Z7c_nil (P N l K st hs ts k cs) : Z7c P N l K st hs ts k cs []=HeadW P N l (fst7 hs) st (kH7 P N l hs ts K):=by cases cs<;>rfl
@[go_sem] theorem Z7c_in (P N l K st hs ts k cs o r) : Z7c P N l K st hs ts k (true :: cs) (o :: r)=Z7c P N l K st (hs++[(o,k)]) ts (k + 1) cs r:=rfl
@[go_sem] theorem Z7c_out (P N l K st hs ts k cs o r) : Z7c P N l K st hs ts k (false :: cs) (o :: r)=Z7c P N l K st hs (ts++[(o,k)]) (k + 1) cs r:=rfl
theorem Z7c_spec {P : Program} {N : Nat} {l : List Oper} {K : St->Prop} {st : St} : ∀ (r : List Oper) (pre cs : List Bool) (hs ts : List (Oper × Nat)),Z7c P N l K st hs ts pre.length cs r ->
 HeadW P N l (fst7 (hs++(r.zipIdx pre.length).filter fun p => (pre++cs).getD p.2 false)) st (kH7 P N l (hs++(r.zipIdx pre.length).filter fun p => (pre++cs).getD p.2 false) (ts++(r.zipIdx pre.length).filter fun p => !(pre++cs).getD p.2 false) K)
 | [],pre,cs,hs,ts,h => by rw [Z7c_nil] at h; simpa using h
 | o :: r,pre,[],hs,ts,h => h.elim
 | o :: r, pre, b :: cs, hs, ts, h => by
   have e : (pre++b :: cs).getD pre.length false=b:=by simp [List.getD_eq_getElem?_getD]
   have e2 : pre++b :: cs=(pre++[b])++cs:=by simp
   rw [List.zipIdx_cons]
   cases b with
   | true =>
     have:=Z7c_spec r (pre++[true]) cs (hs++[(o,pre.length)]) ts (by rw [Z7c_in] at h; simpa using h)
     rw [List.filter_cons_of_pos (by exact e),List.filter_cons_of_neg (by simp only [e]; simp)]
     rw [List.length_append,List.length_singleton,← e2] at this
     simpa only [List.append_assoc,List.singleton_append] using this
   | false =>
     have:=Z7c_spec r (pre++[false]) cs hs (ts++[(o,pre.length)]) (by rw [Z7c_out] at h; simpa using h)
     rw [List.filter_cons_of_neg (by simp only [e]; simp),List.filter_cons_of_pos (by simp only [e]; rfl)]
     rw [List.length_append,List.length_singleton,← e2] at this
     simpa only [List.append_assoc,List.singleton_append] using this
theorem Ok.reg7 {P : Program} {N id : Nat} {ops : Array Oper} {Q : Exit->St->Prop} {st : St} (cls : List Bool) (h7 : ok7 cls ops.toList=true) (h : Z7c P N ops.toList (Q .normal) st [] [] 0 cls ops.toList) : Ok P N (.region id ops true) Q st:=fun h1 h2 Z B M w0 a w hs => by
 have h' : headA P N ops.toList ((hs7 cls ops.toList).map (·.1)) st fun st' => tail7 P N ops.toList (hs7 cls ops.toList) (ts7 cls ops.toList) st' (Q .normal):=by
  have h:=Z7c_spec ops.toList [] cls [] [] h
  rw [HeadW_eq,← fst7_eq] at h
  have e : ∀ hs ts K,kH7 P N ops.toList hs ts K=fun S => tail7 P N ops.toList hs ts S K:=fun hs ts K => funext fun S => kT7_spec P N ops.toList hs ts K S
  rw [e] at h
  exact h
 obtain ⟨l⟩:=ops
 exact wp_drawn7 h2 h7 (fun st a w hs hk => ⟨st,hs,hk⟩) hs h'
end Abs

namespace Abs.Y
open Go Go.Proofs Abs
set_option maxRecDepth 100000

@[reducible] def D.spP (v : List Int) : D:=D.tms (spT v)
section
variable {p : Int} {u : Nat} (hp : 1 < p∧p<=5) (hu : u<=6)
theorem termsP_ok {v : List Int} (hl : v.length<=64) : Ctr Try.prog 59 [.ints v] true (.d (D.spP v)) []:=by
 refine Ctr.of (n:=23) (rs:=[.tmp 2]) Try.func59 rfl rfl Try.ntmps59 rfl rfl (by kernel_rfl) Try.checked.mixed ?_
 simp (disch:=first | omega | decide +kernel) only [D.ints,go_sem,Qa,Qb,Qc,Qd,Qe,↓reduceIte,reduceCtorEq,Qf,Qg,Qh]
 (repeat' (first | ((first | (refine gsel_split (fun q' => ?_) (fun q' => ?_)<;>(have h':=q')<;>(try simp only [za1,za2,Ba,Bb,za3,ne_eq,za4,za5,za6,Ia,Ib,Ic,Ie,Da,Bc,Bh,Be,za7,za8] at h')<;>try (exfalso; omega)) | (have q':=trivial; first | refine hE _ _ ret_ne ?_ | refine hE _ _ exit_ne ?_))<;>(try simp (disch:=first | omega | decide +kernel) only [q',D.ints,go_sem,Qa,Qb,Qc,Qd,Qe,↓reduceIte,reduceCtorEq,Qf,Qg,Qh])<;>clear q') | refine hN _ ?_ ?_ Wk.kk | with_reducible refine And.intro ?_ ?_ | with_reducible omega | exact ok_ints | exact cells_ints | exact no_mem | with_reducible exact plain_ints | (refine le_maxLen ?_; omega) | (refine za9 ⟨?_,?_⟩) | (simp only [go_sem,Qc,Qb,zb1,zb2,forall_eq]; done)))
 refine Ok.loopN [21,20,19,18,17,16,15,14,13,12,11,10,9,8,5,4,3,1,0] (fun i _ => [(8,.d (.int .i64 (i : Nat))),(3,.sl 3)]) (fun _ (w : List (Int × Int)) => [(3,.arr 93 2 (List.map D.tm w))]) v.length
  (fun i w => w=((List.range i).filter fun m => decide (v.getD m 0 ≠ 0)).map (fun m : Nat => ((m : Int),v.getD m 0))∧w.length<=i) [] ⟨rfl,Nat.le_refl _⟩ (by refine Wk.auto ?_ ?_<;>simp [extraK,lk,killL,St.kill,wipeO,wipeS,AV.has,AV.hasL,AO.wipe,List.map_set,updSt,insL,dropS,ins,D.ints]) ?_
 rintro R i w hN hE hi ⟨hw,hwl⟩
 by_cases hlt : i < v.length
 . have hs : ((List.range (i + 1)).filter fun m => decide (v.getD m 0 ≠ 0)).map (fun m : Nat => ((m : Int),v.getD m 0))=if v.getD i 0=0 then w else w++[((i : Int),v.getD i 0)]:=by
    rw [List.range_succ,List.filter_append,List.map_append,← hw]
    by_cases hz : v.getD i 0=0
    . rw [if_pos hz,List.filter_cons_of_neg (by rw [decide_eq_true_eq]; exact fun h => h hz)]; simp
    . rw [if_neg hz,List.filter_cons_of_pos (by rw [decide_eq_true_eq]; exact hz)]; simp only [List.filter_nil,List.map_cons,List.map_nil]
   clear hw
   by_cases hz : v.getD i 0=0
   . rw [if_pos hz] at hs
     have hb : (v.getD i 0 != 0)=false:=by rw [hz]; rfl
     simp (disch:=first | omega | decide +kernel) only [hb,go_sem,Qa,Qb,Qc,Qd,Qe,↓reduceIte,reduceCtorEq,Qf,Qg,Qh]
     (repeat' (first | ((first | (refine gsel_split (fun q' => ?_) (fun q' => ?_)<;>(have h':=q')<;>(try simp only [za1,za2,Ba,Bb,za3,ne_eq,za4,za5,za6,Ia,Ib,Ic,Ie,Da,Bc,Bh,Be,za7,za8] at h')<;>try (exfalso; omega)) | (have q':=trivial; first | refine hE _ _ ret_ne ?_ | refine hE _ _ exit_ne ?_))<;>(try simp (disch:=first | omega | decide +kernel) only [q',hb,go_sem,Qa,Qb,Qc,Qd,Qe,↓reduceIte,reduceCtorEq,Qf,Qg,Qh])<;>clear q') | refine hN _ ?_ ?_ Wk.kk | with_reducible refine And.intro ?_ ?_ | with_reducible omega | exact ok_ints | exact cells_ints | exact no_mem | with_reducible exact plain_ints | (refine le_maxLen ?_; omega) | (refine za9 ⟨?_,?_⟩) | (simp only [go_sem,Qc,Qb,zb1,zb2,forall_eq]; done)))
     all_goals (first | omega | (refine hN w _ hlt ⟨hs.symm,by omega⟩ (by refine Wk.auto ?_ ?_<;>simp [extraK,lk,killL,St.kill,wipeO,wipeS,AV.has,AV.hasL,AO.wipe,List.map_set,updSt,insL,dropS,ins,D.ints]); done))
   . rw [if_neg hz] at hs
     have hb : (v.getD i 0 != 0)=true:=bne_iff_ne.2 hz
     simp (disch:=first | omega | decide +kernel) only [hb,go_sem,Qa,Qb,Qc,Qd,Qe,↓reduceIte,reduceCtorEq,Qf,Qg,Qh]
     (repeat' (first | ((first | (refine gsel_split (fun q' => ?_) (fun q' => ?_)<;>(have h':=q')<;>(try simp only [za1,za2,Ba,Bb,za3,ne_eq,za4,za5,za6,Ia,Ib,Ic,Ie,Da,Bc,Bh,Be,za7,za8] at h')<;>try (exfalso; omega)) | (have q':=trivial; first | refine hE _ _ ret_ne ?_ | refine hE _ _ exit_ne ?_))<;>(try simp (disch:=first | omega | decide +kernel) only [q',hb,go_sem,Qa,Qb,Qc,Qd,Qe,↓reduceIte,reduceCtorEq,Qf,Qg,Qh])<;>clear q') | refine hN _ ?_ ?_ Wk.kk | with_reducible refine And.intro ?_ ?_ | with_reducible omega | exact ok_ints | exact cells_ints | exact no_mem | with_reducible exact plain_ints | (refine le_maxLen ?_; omega) | (refine za9 ⟨?_,?_⟩) | (simp only [go_sem,Qc,Qb,zb1,zb2,forall_eq]; done)))
     all_goals (first | omega | (rw [ok_agg]; simp [D.atom]; done) | (refine hN (w++[((i : Int),v.getD i 0)]) _ hlt ⟨hs.symm,by simp; omega⟩ (by refine Wk.auto ?_ ?_<;>simp [extraK,lk,killL,St.kill,wipeO,wipeS,AV.has,AV.hasL,AO.wipe,List.map_set,updSt,insL,dropS,ins,D.ints,List.map_append,List.map_cons,List.map_nil]); done))
 . obtain rfl : i=v.length:=by omega
   have hw2 : w=spT v:=by rw [hw,spT]
   clear hw
   subst hw2
   simp (disch:=first | omega | decide +kernel) only [go_sem,Qa,Qb,Qc,Qd,Qe,↓reduceIte,reduceCtorEq,Qf,Qg,Qh]
   (repeat' (first | ((first | (refine gsel_split (fun q' => ?_) (fun q' => ?_)<;>(have h':=q')<;>(try simp only [za1,za2,Ba,Bb,za3,ne_eq,za4,za5,za6,Ia,Ib,Ic,Ie,Da,Bc,Bh,Be,za7,za8] at h')<;>try (exfalso; omega)) | (have q':=trivial; first | refine hE _ _ ret_ne ?_ | refine hE _ _ exit_ne ?_))<;>(try simp (disch:=first | omega | decide +kernel) only [q',go_sem,Qa,Qb,Qc,Qd,Qe,↓reduceIte,reduceCtorEq,Qf,Qg,Qh])<;>clear q') | refine hN _ ?_ ?_ Wk.kk | with_reducible refine And.intro ?_ ?_ | with_reducible omega | exact ok_ints | exact cells_ints | exact no_mem | with_reducible exact plain_ints | (refine le_maxLen ?_; omega) | (refine za9 ⟨?_,?_⟩) | (simp only [go_sem,Qc,Qb,zb1,zb2,forall_eq]; done)))
   all_goals (first | omega | exact ret_s1 [3] rfl)
include hp hu
theorem value_ok {v : List Int} (hv : Vec p (2 ^ u) v) {x : Nat} (hx : x < 64) : Ctr Try.prog 64 [D.ring p u,.ints v,.int .i64 (x : Nat)] false (.d (.int .i64 (ev p v x))) []:=by
 have h2:=pow_le6 hu
 have hvl:=hv.1
 have hev : ev p v x=(sumR v.length fun m => if m &&& x=m then v.getD m 0 else 0) % p:=rfl
 have hS : ∀ k,k<=v.length->0<=sumR k (fun m => if m &&& x=m then v.getD m 0 else 0)∧sumR k (fun m => if m &&& x=m then v.getD m 0 else 0)<=5 * k:=by
  intro k
  induction k with
  | zero => intro _; simp [sumR]
  | succ k ih =>
    intro hk
    have h1:=ih (by omega)
    have h3:=hv.2 k
    rw [sumR_succ]
    split<;>omega
 obtain ⟨S,hSd⟩ : ∃ S : Nat->Int,S=fun k => sumR k (fun m => if m &&& x=m then v.getD m 0 else 0):=⟨_,rfl⟩
 have hsu : ∀ k,S (k + 1)=S k + if k &&& x=k then v.getD k 0 else 0:=fun k => by rw [hSd]; exact sumR_succ _ _
 have h0 : S 0=0:=by rw [hSd]; rfl
 have hfin : ev p v x=S v.length % p:=by rw [hev,hSd]
 have hS : ∀ k,k<=v.length->0<=S k∧S k<=5 * k:=fun k hk => by rw [hSd]; exact hS k hk
 rw [hfin]
 clear hSd hfin hev
 refine Ctr.of (n:=30) (rs:=[.tmp 6]) Try.func64 rfl rfl Try.ntmps64 rfl rfl (by kernel_rfl) Try.checked.mixed ?_
 simp (disch:=first | omega | decide +kernel) only [D.ints,go_sem,Qa,Qb,Qc,Qd,Qe,↓reduceIte,reduceCtorEq,Qf,Qg,Qh]
 (repeat' (first | ((first | (refine gsel_split (fun q' => ?_) (fun q' => ?_)<;>(have h':=q')<;>(try simp only [za1,za2,Ba,Bb,za3,ne_eq,za4,za5,za6,Ia,Ib,Ic,Ie,Da,Bc,Bh,Be,za7,za8] at h')<;>try (exfalso; omega)) | (have q':=trivial; first | refine hE _ _ ret_ne ?_ | refine hE _ _ exit_ne ?_))<;>(try simp (disch:=first | omega | decide +kernel) only [q',D.ints,go_sem,Qa,Qb,Qc,Qd,Qe,↓reduceIte,reduceCtorEq,Qf,Qg,Qh])<;>clear q') | refine hN _ ?_ ?_ Wk.kk | with_reducible refine And.intro ?_ ?_ | with_reducible omega | exact ok_ints | exact cells_ints | exact no_mem | with_reducible exact plain_ints | (refine le_maxLen ?_; omega) | (refine za9 ⟨?_,?_⟩) | (simp only [go_sem,Qc,Qb,zb1,zb2,forall_eq]; done)))
 refine Ok.loopN [29,28,27,26,25,24,23,22,21,20,19,18,17,16,15,14,13,12,9,8,7,6,5,4] (fun i (_ : Unit) => [(12,.d (.int .i64 (i : Nat))),(7,.d (.int .i64 (S i)))]) (fun _ _ => []) v.length (fun _ _ => True) () trivial (by refine Wk.auto ?_ ?_<;>simp [extraK,lk,killL,St.kill,wipeO,wipeS,AV.has,AV.hasL,AO.wipe,List.map_set,updSt,insL,dropS,ins,h0]) ?_
 rintro R i _ hN hE hi _
 have hSi:=hS i hi
 by_cases hlt : i < v.length
 . have hei : el (v.map (D.int .i64)) i=.int .i64 (v.getD i 0):=el_ints hlt
   have hb:=bitV_and (a:=i) (b:=x) (by omega) (by omega)
   have hvi:=hv.2 i
   have hs:=hsu i
   have hil : i &&& x<=i:=Nat.and_le_left
   generalize v.getD i 0=c at *
   generalize S i=s at *
   generalize S (i + 1)=s' at *
   generalize i &&& x=k at *
   by_cases hk : k=i
   . have hbe : ((k : Int) == (i : Int))=true:=by simp [hk]
     rw [if_pos hk] at hs
     simp (disch:=first | omega | decide +kernel) only [D.ints,hei,hb,hbe,go_sem,Qa,Qb,Qc,Qd,Qe,↓reduceIte,reduceCtorEq,Qf,Qg,Qh]
     (repeat' (first | ((first | (refine gsel_split (fun q' => ?_) (fun q' => ?_)<;>(have h':=q')<;>(try simp only [za1,za2,Ba,Bb,za3,ne_eq,za4,za5,za6,Ia,Ib,Ic,Ie,Da,Bc,Bh,Be,za7,za8] at h')<;>try (exfalso; omega)) | (have q':=trivial; first | refine hE _ _ ret_ne ?_ | refine hE _ _ exit_ne ?_))<;>(try simp (disch:=first | omega | decide +kernel) only [q',D.ints,hei,hb,hbe,go_sem,Qa,Qb,Qc,Qd,Qe,↓reduceIte,reduceCtorEq,Qf,Qg,Qh])<;>clear q') | refine hN _ ?_ ?_ Wk.kk | with_reducible refine And.intro ?_ ?_ | with_reducible omega | exact ok_ints | exact cells_ints | exact no_mem | with_reducible exact plain_ints | (refine le_maxLen ?_; omega) | (refine za9 ⟨?_,?_⟩) | (simp only [go_sem,Qc,Qb,zb1,zb2,forall_eq]; done)))
     exact hN () _ hlt trivial (by refine Wk.auto ?_ ?_<;>simp [extraK,lk,killL,St.kill,wipeO,wipeS,AV.has,AV.hasL,AO.wipe,List.map_set,updSt,insL,dropS,ins,hs])
   . have hbe : ((k : Int) == (i : Int))=false:=by simp; omega
     rw [if_neg hk,Int.add_zero] at hs
     simp (disch:=first | omega | decide +kernel) only [D.ints,hei,hb,hbe,go_sem,Qa,Qb,Qc,Qd,Qe,↓reduceIte,reduceCtorEq,Qf,Qg,Qh]
     (repeat' (first | ((first | (refine gsel_split (fun q' => ?_) (fun q' => ?_)<;>(have h':=q')<;>(try simp only [za1,za2,Ba,Bb,za3,ne_eq,za4,za5,za6,Ia,Ib,Ic,Ie,Da,Bc,Bh,Be,za7,za8] at h')<;>try (exfalso; omega)) | (have q':=trivial; first | refine hE _ _ ret_ne ?_ | refine hE _ _ exit_ne ?_))<;>(try simp (disch:=first | omega | decide +kernel) only [q',D.ints,hei,hb,hbe,go_sem,Qa,Qb,Qc,Qd,Qe,↓reduceIte,reduceCtorEq,Qf,Qg,Qh])<;>clear q') | refine hN _ ?_ ?_ Wk.kk | with_reducible refine And.intro ?_ ?_ | with_reducible omega | exact ok_ints | exact cells_ints | exact no_mem | with_reducible exact plain_ints | (refine le_maxLen ?_; omega) | (refine za9 ⟨?_,?_⟩) | (simp only [go_sem,Qc,Qb,zb1,zb2,forall_eq]; done)))
     exact hN () _ hlt trivial (by refine Wk.auto ?_ ?_<;>simp [extraK,lk,killL,St.kill,wipeO,wipeS,AV.has,AV.hasL,AO.wipe,List.map_set,updSt,insL,dropS,ins,hs])
 . obtain rfl : i=v.length:=by omega
   have hm : (S v.length).tmod p=S v.length % p:=Int.tmod_eq_emod_of_nonneg hSi.1
   have hm2:=Int.emod_nonneg (S v.length) (b:=p) (by omega)
   have hm3:=Int.emod_lt_of_pos (S v.length) (b:=p) (by omega)
   simp (disch:=first | omega | decide +kernel) only [D.ints,hm,go_sem,Qa,Qb,Qc,Qd,Qe,↓reduceIte,reduceCtorEq,Qf,Qg,Qh]
   (repeat' (first | ((first | (refine gsel_split (fun q' => ?_) (fun q' => ?_)<;>(have h':=q')<;>(try simp only [za1,za2,Ba,Bb,za3,ne_eq,za4,za5,za6,Ia,Ib,Ic,Ie,Da,Bc,Bh,Be,za7,za8] at h')<;>try (exfalso; omega)) | (have q':=trivial; first | refine hE _ _ ret_ne ?_ | refine hE _ _ exit_ne ?_))<;>(try simp (disch:=first | omega | decide +kernel) only [q',D.ints,hm,go_sem,Qa,Qb,Qc,Qd,Qe,↓reduceIte,reduceCtorEq,Qf,Qg,Qh])<;>clear q') | refine hN _ ?_ ?_ Wk.kk | with_reducible refine And.intro ?_ ?_ | with_reducible omega | exact ok_ints | exact cells_ints | exact no_mem | with_reducible exact plain_ints | (refine le_maxLen ?_; omega) | (refine za9 ⟨?_,?_⟩) | (simp only [go_sem,Qc,Qb,zb1,zb2,forall_eq]; done)))
   all_goals (first | omega)
end
end Abs.Y
