/- What functions of this program compute, over plain data. No condition. -/
import Derived.Test.YtdohpocdlkcaoaaGreatW1
import Derived.Test.YtdohpocdlkcaoaaGreatJ7
set_option linter.all false
namespace Abs.Y
open Go Go.Proofs Abs
open Nat renaming reduceEqDiff -> Qa, reduceLT -> Qb, reduceAdd -> Qc, reduceMul -> Qd, reduceSub -> Qe, reduceLeDiff -> Qf, reduceSubDiff -> Qg, reduceBEq -> Qh
open Bool renaming not_eq_true' -> Ba, not_eq_false' -> Bb, and_eq_true -> Bc, or_eq_true -> Bd, or_eq_false_iff -> Be
open Int renaming ofNat_lt -> Ia, ofNat_le -> Ib, not_lt -> Ic, not_le -> Ie
open Decidable renaming not_not -> Da
set_option maxRecDepth 100000

theorem Wk.thawT {N : Nat} {S S' : List (Nat × AV)} {O O' : List (Nat × AO)} (j r : Nat) {ps : List Tp} (hj : lk j O=some (plR ps)) (hr : lk r O=some (.res (ps.map resT)))
 (hS : ∀ p ∈ S',lk p.1 S=some p.2∧p.2.plain) (hO : ∀ p ∈ O',(p.1=j∧p.2=.dp (some (47,6)) (ps.map fun p => D.pst p.2) none)∨(p.1 ≠ j∧p.1 ≠ r∧lk p.1 O=some p.2∧p.2.plain)) : Wk N ⟨S,O⟩ ⟨S',O'⟩:=by
 have k1 : ∀ x ∈ ps.map fun p : Tp => D.pst p.2,x.cells.length=6:=fun x hx => by obtain ⟨p,_,rfl⟩:=List.mem_map.1 hx; rfl
 have k2 : ∀ x ∈ ps.map D.tp,x.cells.length=6:=fun x hx => by obtain ⟨p,_,rfl⟩:=List.mem_map.1 hx; rfl
 have l1 : (flat (ps.map fun p : Tp => D.pst p.2)).length=ps.length * 6:=by rw [flat_length k1,List.length_map]
 have key : ∀ i,i < ps.length * 6->i / 6 < ps.length∧i % 6 < 6∧i / 6 * 6 + i % 6=i:=fun i hi => by omega
 have g1 : ∀ q,q < ps.length->el (ps.map fun p : Tp => D.pst p.2) q=D.pst (ps.getD q Tp.z).2:=fun q hq => el_map (f:=fun p : Tp => D.pst p.2) Tp.z hq
 have g2 : ∀ q,q < ps.length->el (ps.map D.tp) q=D.tp (ps.getD q Tp.z):=fun q hq => el_tp hq
 have c1 : ∀ i,i < ps.length * 6->(flat (ps.map fun p : Tp => D.pst p.2)).getD i .nilptr=(D.pst (ps.getD (i / 6) Tp.z).2).cells.getD (i % 6) .nilptr:=fun i hi => by
  obtain ⟨h1,h2,h3⟩:=key i hi
  have:=flat_getD k1 (i:=i / 6) (j:=i % 6) (by rw [List.length_map]; exact h1) h2
  rw [h3] at this
  rw [this,g1 _ h1]
 have c2 : ∀ i,i < ps.length * 6->(flat (ps.map D.tp)).getD i .nilptr=(D.tp (ps.getD (i / 6) Tp.z)).cells.getD (i % 6) .nilptr:=fun i hi => by
  obtain ⟨h1,h2,h3⟩:=key i hi
  have:=flat_getD k2 (i:=i / 6) (j:=i % 6) (by rw [List.length_map]; exact h1) h2
  rw [h3] at this
  rw [this,g2 _ h1]
 refine Wk.thaw j r hj hr (ps.map fun p => D.pst p.2) (fun i => i / 6) k1 (by simp) (fun i hi => ?_) (fun i i' hi hi' b1 b2 e => ?_) hS hO
 . rw [l1] at hi
   obtain ⟨h1,h2,h3⟩:=key i hi
   rw [c1 i hi,c2 i hi]
   have h4 : (ps.map resT).getD (i / 6) (.slice none 0 0,[])=resT (ps.getD (i / 6) Tp.z):=by simp [List.getD_eq_getElem?_getD,h1]
   rw [h4]
   generalize ps.getD (i / 6) Tp.z=p at *
   generalize i % 6=c at *
   match c,h2 with
   | 0,_ => exact .inr ⟨_,_,rfl,rfl,by rw [List.length_map]; exact h1,rfl⟩
   | 1,_ => exact .inl ⟨rfl,rfl⟩
   | 2,_ => exact .inl ⟨rfl,rfl⟩
   | 3,_ => exact .inl ⟨rfl,rfl⟩
   | 4,_ => exact .inl ⟨rfl,rfl⟩
   | 5,_ => exact .inl ⟨rfl,rfl⟩
 . rw [l1] at hi hi'
   rw [c2 i hi] at b1
   rw [c2 i' hi'] at b2
   have z : ∀ (p : Tp) (c : Nat),c < 6->((D.tp p).cells.getD c .nilptr).bare=false->c=0:=fun p c hc hb => by
    match c,hc with
    | 0,_ => rfl
    | 1,_ => cases hb
    | 2,_ => cases hb
    | 3,_ => cases hb
    | 4,_ => cases hb
    | 5,_ => cases hb
   have:=z _ _ (by omega) b1
   have:=z _ _ (by omega) b2
   omega

def bdB (q : Pl) : Bool:=q.co.all (fun x => decide (-1000000<=x) && decide (x<=1000000)) && (decide (-1000000<=q.bd) && decide (q.bd<=1000000))
theorem bdB_ok {q : Pl} (h : bdB q=true) : Bd 1000000 q:=by
 simp only [bdB,Bc,List.all_eq_true,decide_eq_true_eq] at h
 refine ⟨fun j => ?_,h.2⟩
 by_cases hj : j < q.co.length
 . exact h.1 _ (getD_mem (z:=(0 : Int)) hj)
 . rw [List.getD_eq_getElem?_getD,List.getElem?_eq_none (by omega)]; simp
def okqB (u : Int) (l : List PSt) : Bool:=decide ((lastq l).co.length=u.toNat) && bdB (lastq l)
theorem okqB_ok {u : Int} {l : List PSt} (h : okqB u l=true) : okq u l:=by
 simp only [okqB,Bc,decide_eq_true_eq] at h
 exact ⟨h.1,bdB_ok h.2⟩
def litsB (u : Int) (c : List Int) : Bool:=c.all fun x => decide (x ≠ 0) && (decide (-u<=x) && decide (x<=u))
def chkP (n j : Nat) : Bool:=(List.range (n + 2)).all fun i => (List.range (n + 2)).all fun k => !(decide (1<=i) && decide (i < k)) ||
 (litsB ((n : Int) * (n + 1)) (clP n j i k) && decide ((cnfS n).getD (atP n j i k).toNat []=clP n j i k) && decide (idxR (fun t => decide ((cnfS n).getD t []=clP n j i k)) (cnfS n).length=atP n j i k) && decide (0<=atP n j i k) && decide (atP n j i k < (cnfS n).length))
def chkH (n j : Nat) (base : List PSt) : Bool:=(List.range (n - 1)).all fun k => okqB ((n : Int) * (n + 1)) (hM ((n : Int) * (n + 1)) (cnfS n) n j base k) &&
 ((List.range (k + 3)).all (fun i => okqB ((n : Int) * (n + 1)) (hI ((n : Int) * (n + 1)) (cnfS n) n j (k + 3) i (hS (k + 1) (hM ((n : Int) * (n + 1)) (cnfS n) n j base k)))) &&
 !oddK (k + 2) (lastq (hI ((n : Int) * (n + 1)) (cnfS n) n j (k + 3) (k + 2) (hS (k + 1) (hM ((n : Int) * (n + 1)) (cnfS n) n j base k)))))
theorem chkP_ok {n j : Nat} (h : chkP n j=true) (hn : 1<=n∧n<=3) {i k : Nat} (hi : 1<=i) (hk : i < k) (hn1 : k<=n + 1) :
 Lits ((n : Int) * (n + 1)) (clP n j i k)∧(cnfS n).getD (atP n j i k).toNat []=clP n j i k∧idxR (fun t => decide ((cnfS n).getD t []=clP n j i k)) (cnfS n).length=atP n j i k∧0<=atP n j i k∧atP n j i k < (cnfS n).length:=by
 have h1:=List.all_eq_true.1 (List.all_eq_true.1 h i (List.mem_range.2 (by omega))) k (List.mem_range.2 (by omega))
 rw [show (decide (1<=i) && decide (i < k))=true by simp [hi,hk],Bool.not_true,Bool.false_or] at h1
 simp only [Bc,decide_eq_true_eq] at h1
 obtain ⟨⟨⟨⟨h2,h3⟩,h4⟩,h5⟩,h6⟩:=h1
 have hu : 0<=(n : Int) * (n + 1)∧(n : Int) * (n + 1)<=12:=by
  rcases (by omega : n=1∨n=2∨n=3) with rfl | rfl | rfl<;>decide
 refine ⟨⟨hu.1,hu.2,fun x hx => ?_⟩,h3,h4,h5,h6⟩
 have:=List.all_eq_true.1 h2 x hx
 simp only [Bc,decide_eq_true_eq] at this
 exact this
theorem pairF_of {n j : Nat} (hn : 1<=n∧n<=3) (hj : 1<=j∧j<=n) (h : chkP n j=true) : PairF ((n : Int) * (n + 1)) (cnfS n) n j where
 n3:=hn
 j3:=hj
 hw:=by rcases (by omega : n=1∨n=2∨n=3) with rfl | rfl | rfl<;>decide
 hl:=⟨by have:=pJ_len id (n:=n) (by omega) n; unfold cnfS; omega,fun t => by have:=getD_small (cnf_small n (by omega)) t; omega⟩
 lits i k h1 h2 h3:=(chkP_ok h hn h1 h2 h3).1
 pl i k h1 h2 h3:=⟨(chkP_ok h hn h1 h2 h3).2.1,(chkP_ok h hn h1 h2 h3).2.2.1⟩
theorem holeF_of {n j : Nat} {base : List PSt} (hn : 1<=n∧n<=3) (h : chkP n j=true) (h' : chkH n j base=true) : HoleF ((n : Int) * (n + 1)) (cnfS n) n j base where
 at_ i k h1 h2 h3:=by
  obtain ⟨a,rfl⟩ : ∃ a : Nat,i=a:=⟨i.toNat,by omega⟩
  obtain ⟨b,rfl⟩ : ∃ b : Nat,k=b:=⟨k.toNat,by omega⟩
  obtain ⟨e1,e2,e3,e4,e5⟩:=chkP_ok h hn (i:=a) (k:=b) (by omega) (by omega) (by omega)
  exact ⟨⟨e4,e5⟩,by rw [e2]; simp [clP],by rw [e2]; exact e1⟩
 q1 k hk:=by
  have:=List.all_eq_true.1 h' k (List.mem_range.2 (by omega))
  simp only [Bc] at this
  exact okqB_ok this.1
 q2 k i hk hi:=by
  have:=List.all_eq_true.1 h' k (List.mem_range.2 (by omega))
  simp only [Bc] at this
  exact okqB_ok (List.all_eq_true.1 this.2.1 i (List.mem_range.2 (by omega)))
 q3 k hk:=by
  have:=List.all_eq_true.1 h' k (List.mem_range.2 (by omega))
  simp only [Bc,Ba] at this
  exact this.2.2
theorem chkP_all : ∀ n,n < 4->∀ j,j < 4->1<=j->j<=n->chkP n j=true:=by decide +kernel
theorem chkH_all : ∀ n,n < 4->∀ j,j < 4->1<=j->j<=n->chkH n j []=true:=by decide +kernel
end Abs.Y

namespace Abs.Y
open Go Go.Proofs Abs
open Nat renaming reduceEqDiff -> Qa, reduceLT -> Qb, reduceAdd -> Qc, reduceMul -> Qd, reduceSub -> Qe, reduceLeDiff -> Qf, reduceSubDiff -> Qg, reduceBEq -> Qh
open Bool renaming not_eq_true' -> Ba, not_eq_false' -> Bb, and_eq_true -> Bc, or_eq_true -> Bd, or_eq_false_iff -> Be
open Int renaming ofNat_lt -> Ia, ofNat_le -> Ib, not_lt -> Ic, not_le -> Ie
open Decidable renaming not_not -> Da
set_option maxRecDepth 100000

def okHS (n j : Int) : Bool:=(decide (1<=n) && decide (n<=3)) && (decide (1<=j) && decide (j<=n))
def hsV (n j : Int) : List PSt:=if okHS n j then hM (n * (n + 1)) (cnfS n.toNat) n j [] (n.toNat - 1) else []
theorem ret_fd {P : Program} {t u : Nat} {x y : D} {st : St} (js : List Nat) (h : lk t (frzs js st).s=some (.d x)) (h' : lk u (frzs js st).s=some (.d y)) : retQ P [.tmp t,.tmp u] true (.tup [.d x,.d y]) [] .ret st:=by
 refine .inr ⟨rfl,js,?_⟩
 simp only [retO,resV,h,h']
 exact ⟨trivial,.nil rfl,.inl trivial⟩
set_option maxHeartbeats 8000000 in
theorem specHS_ok (n j : Int) : Ctr Tryz.prog 17 [.int .i64 n,.int .i64 j] true (.tup [.d (.slice ((hsV n j).map D.pst)),.d (.bool (okHS n j))]) []:=by
 have c1:=l17Holes_ok n
 have c2:=l1In_ok j 1 n
 unfold hsV okHS
 cases h1 : decide (1<=n) && decide (n<=3) with
 | false =>
   rw [h1] at c1
   rw [Bool.false_and,if_neg (by decide)]
   refine Ctr.of (n:=20) (rs:=[.tmp 4,.tmp 5]) Tryz.func17 rfl rfl Tryz.ntmps17 rfl rfl (by kernel_rfl) Tryz.checked.mixed ?_
   simp (disch:=first | omega | decide +kernel) only [List.map_nil,go_sem,Qa,Qb,Qc,Qd,Qe,↓reduceIte,reduceCtorEq,Qf,Qg,Qh]
   (repeat' (first | ((first | (refine gsel_split (fun q' => ?_) (fun q' => ?_)<;>(have h':=q')<;>(try simp only [za1,za2,Ba,Bb,za3,ne_eq,za4,za5,za6,Ia,Ib,Ic,Ie,Da,Bc,Bd,Be,za7,za8] at h')) | (have q':=trivial; first | refine callX_new (c1) rfl (by decide) ?_ | refine callY_new (c1) rfl ?_ | refine callX_new (c2) rfl (by decide) ?_ | refine callY_new (c2) rfl ?_ | refine hE _ _ ret_ne ?_ | refine hE _ _ exit_ne ?_))<;>(try simp (disch:=first | omega | decide +kernel) only [q',List.map_nil,go_sem,Qa,Qb,Qc,Qd,Qe,↓reduceIte,reduceCtorEq,Qf,Qg,Qh])<;>clear q') | refine hN _ ?_ ?_ Wk.kk | with_reducible refine And.intro ?_ ?_ | with_reducible omega | exact ok_ints | exact cells_ints | exact no_mem | with_reducible exact plain_ints | (refine le_maxLen ?_; omega) | (refine za9 ⟨?_,?_⟩) | (simp only [go_sem,Qc,Qb,zb1,zb2,forall_eq]; done)))
   all_goals exact ret_fd [15] rfl rfl
 | true =>
   rw [h1] at c1
   cases h2 : decide (1<=j) && decide (j<=n) with
   | false =>
     rw [h2] at c2
     rw [Bool.and_false,if_neg (by decide)]
     refine Ctr.of (n:=20) (rs:=[.tmp 4,.tmp 5]) Tryz.func17 rfl rfl Tryz.ntmps17 rfl rfl (by kernel_rfl) Tryz.checked.mixed ?_
     simp (disch:=first | omega | decide +kernel) only [List.map_nil,go_sem,Qa,Qb,Qc,Qd,Qe,↓reduceIte,reduceCtorEq,Qf,Qg,Qh]
     (repeat' (first | ((first | (refine gsel_split (fun q' => ?_) (fun q' => ?_)<;>(have h':=q')<;>(try simp only [za1,za2,Ba,Bb,za3,ne_eq,za4,za5,za6,Ia,Ib,Ic,Ie,Da,Bc,Bd,Be,za7,za8] at h')) | (have q':=trivial; first | refine callX_new (c1) rfl (by decide) ?_ | refine callY_new (c1) rfl ?_ | refine callX_new (c2) rfl (by decide) ?_ | refine callY_new (c2) rfl ?_ | refine hE _ _ ret_ne ?_ | refine hE _ _ exit_ne ?_))<;>(try simp (disch:=first | omega | decide +kernel) only [q',List.map_nil,go_sem,Qa,Qb,Qc,Qd,Qe,↓reduceIte,reduceCtorEq,Qf,Qg,Qh])<;>clear q') | refine hN _ ?_ ?_ Wk.kk | with_reducible refine And.intro ?_ ?_ | with_reducible omega | exact ok_ints | exact cells_ints | exact no_mem | with_reducible exact plain_ints | (refine le_maxLen ?_; omega) | (refine za9 ⟨?_,?_⟩) | (simp only [go_sem,Qc,Qb,zb1,zb2,forall_eq]; done)))
     all_goals exact ret_fd [15] rfl rfl
   | true =>
     rw [h2] at c2
     rw [Bool.and_true,if_pos rfl]
     simp only [Bc,decide_eq_true_eq] at h1 h2
     obtain ⟨a,rfl⟩ : ∃ a : Nat,n=a:=⟨n.toNat,by omega⟩
     obtain ⟨b,rfl⟩ : ∃ b : Nat,j=b:=⟨j.toNat,by omega⟩
     have hn : 1<=a∧a<=3:=by omega
     have hj : 1<=b∧b<=a:=by omega
     have hc:=chkP_all a (by omega) b (by omega) hj.1 hj.2
     have c3:=l17Hole_ok [] (pairF_of hn hj hc) (holeF_of hn hc (chkH_all a (by omega) b (by omega) hj.1 hj.2)) (by simp)
     rw [Int.toNat_natCast]
     refine Ctr.of (n:=20) (rs:=[.tmp 4,.tmp 5]) Tryz.func17 rfl rfl Tryz.ntmps17 rfl rfl (by kernel_rfl) Tryz.checked.mixed ?_
     simp (disch:=first | omega | decide +kernel) only [List.map_nil,go_sem,Qa,Qb,Qc,Qd,Qe,↓reduceIte,reduceCtorEq,Qf,Qg,Qh]
     (repeat' (first | ((first | (refine gsel_split (fun q' => ?_) (fun q' => ?_)<;>(have h':=q')<;>(try simp only [za1,za2,Ba,Bb,za3,ne_eq,za4,za5,za6,Ia,Ib,Ic,Ie,Da,Bc,Bd,Be,za7,za8] at h')) | (have q':=trivial; first | refine callX_new (c1) rfl (by decide) ?_ | refine callY_new (c1) rfl ?_ | refine callX_new (c2) rfl (by decide) ?_ | refine callY_new (c2) rfl ?_ | refine hE _ _ ret_ne ?_ | refine hE _ _ exit_ne ?_))<;>(try simp (disch:=first | omega | decide +kernel) only [q',List.map_nil,go_sem,Qa,Qb,Qc,Qd,Qe,↓reduceIte,reduceCtorEq,Qf,Qg,Qh])<;>clear q') | refine hN _ ?_ ?_ Wk.kk | with_reducible refine And.intro ?_ ?_ | with_reducible omega | exact ok_ints | exact cells_ints | exact no_mem | with_reducible exact plain_ints | (refine le_maxLen ?_; omega) | (refine za9 ⟨?_,?_⟩) | (simp only [go_sem,Qc,Qb,zb1,zb2,forall_eq]; done)))
     refine callX_mut [18] [18] [18] c3 ⟨.inl rfl,.inl rfl,.inl rfl,trivial⟩ ⟨rfl,trivial⟩ rfl (by simp [dstB]) ?_
     simp (disch:=first | omega | decide +kernel) only [go_sem,Qa,Qb,Qc,Qd,Qe,↓reduceIte,reduceCtorEq,Qf,Qg,Qh]
     exact ret_fd [18] rfl rfl
set_option maxHeartbeats 8000000 in
theorem implHS_ok (n j : Int) : Ctr Tryz.prog 16 [.int .i64 n,.int .i64 j] false (.tup [.sl 0,.d (.bool (okHS n j))]) [(0,.dp (some (47,6)) ((hsV n j).map D.pst) none)]:=by
 have c2:=within_ok j 1 n
 unfold hsV okHS
 cases h1 : decide (1<=n) && decide (n<=3) with
 | false =>
   have c1:=pigeonCnf_no n h1
   rw [Bool.false_and,if_neg (by decide)]
   refine Ctr.ofK (n:=35) (rs:=[.tmp 4,.tmp 5]) Tryz.func16 rfl rfl Tryz.ntmps16 rfl rfl (by kernel_rfl) Tryz.checked.mixed ?_
   refine Ok.endsW ?_
   refine Ok.go ?_
   simp (disch:=first | omega | decide +kernel) only [List.map_nil,go_sem,Qa,Qb,Qc,Qd,Qe,↓reduceIte,reduceCtorEq,Qf,Qg,Qh]
   (repeat' (first | ((first | (refine gsel_split (fun q' => ?_) (fun q' => ?_)<;>(have h':=q')<;>(try simp only [za1,za2,Ba,Bb,za3,ne_eq,za4,za5,za6,Ia,Ib,Ic,Ie,Da,Bc,Bd,Be,za7,za8] at h')) | (have q':=trivial; first | refine callX_shared (c1) rfl (by decide) ?_ | refine callY_shared (c1) rfl ?_ | refine callX_new (c2) rfl (by decide) ?_ | refine callY_new (c2) rfl ?_ | refine hE _ _ ret_ne ?_ | refine hE _ _ exit_ne ?_))<;>(try simp (disch:=first | omega | decide +kernel) only [q',List.map_nil,go_sem,Qa,Qb,Qc,Qd,Qe,↓reduceIte,reduceCtorEq,Qf,Qg,Qh])<;>clear q') | refine hN _ ?_ ?_ Wk.kk | with_reducible refine And.intro ?_ ?_ | with_reducible omega | exact ok_ints | exact cells_ints | exact no_mem | with_reducible exact plain_ints | (refine le_maxLen ?_; omega) | (refine za9 ⟨?_,?_⟩) | (simp only [go_sem,Qc,Qb,zb1,zb2,forall_eq]; done)))
   all_goals exact ⟨_,Wk.deep 4 rfl (by simp [flat]),ret_dpd 4 rfl rfl rfl rfl⟩
 | true =>
   simp only [Bc,decide_eq_true_eq] at h1
   obtain ⟨a,rfl⟩ : ∃ a : Nat,n=a:=⟨n.toNat,by omega⟩
   have hn : 1<=a∧a<=3:=by omega
   have c1:=pigeonCnfS_ok a hn
   cases h2 : decide (1<=j) && decide (j<=(a : Int)) with
   | false =>
     rw [h2] at c2
     rw [Bool.and_false,if_neg (by decide)]
     refine Ctr.ofK (n:=35) (rs:=[.tmp 4,.tmp 5]) Tryz.func16 rfl rfl Tryz.ntmps16 rfl rfl (by kernel_rfl) Tryz.checked.mixed ?_
     refine Ok.endsW ?_
     refine Ok.go ?_
     simp (disch:=first | omega | decide +kernel) only [List.map_nil,go_sem,Qa,Qb,Qc,Qd,Qe,↓reduceIte,reduceCtorEq,Qf,Qg,Qh]
     (repeat' (first | ((first | (refine gsel_split (fun q' => ?_) (fun q' => ?_)<;>(have h':=q')<;>(try simp only [za1,za2,Ba,Bb,za3,ne_eq,za4,za5,za6,Ia,Ib,Ic,Ie,Da,Bc,Bd,Be,za7,za8] at h')) | (have q':=trivial; first | refine callX_shared (c1) rfl (by decide) ?_ | refine callY_shared (c1) rfl ?_ | refine callX_new (c2) rfl (by decide) ?_ | refine callY_new (c2) rfl ?_ | refine hE _ _ ret_ne ?_ | refine hE _ _ exit_ne ?_))<;>(try simp (disch:=first | omega | decide +kernel) only [q',List.map_nil,go_sem,Qa,Qb,Qc,Qd,Qe,↓reduceIte,reduceCtorEq,Qf,Qg,Qh])<;>clear q') | refine hN _ ?_ ?_ Wk.kk | with_reducible refine And.intro ?_ ?_ | with_reducible omega | exact ok_ints | exact cells_ints | exact no_mem | with_reducible exact plain_ints | (refine le_maxLen ?_; omega) | (refine za9 ⟨?_,?_⟩) | (simp only [go_sem,Qc,Qb,zb1,zb2,forall_eq]; done)))
     all_goals exact ⟨_,Wk.deep 4 rfl (by simp [flat]),ret_dpd 4 rfl rfl rfl rfl⟩
   | true =>
     rw [h2] at c2
     rw [Bool.and_true,if_pos rfl]
     simp only [Bc,decide_eq_true_eq] at h2
     obtain ⟨b,rfl⟩ : ∃ b : Nat,j=b:=⟨j.toNat,by omega⟩
     have hj : 1<=b∧b<=a:=by omega
     have hc:=chkP_all a (by omega) b (by omega) hj.1 hj.2
     have c3:=hole_ok (n:=(a : Int)) (j:=(b : Int)) [] (by omega) (by omega) (by simp) (holeF_of hn hc (chkH_all a (by omega) b (by omega) hj.1 hj.2))
     rw [show ((a : Int) - 1).toNat=a - 1 by omega,List.map_nil] at c3
     rw [Int.toNat_natCast]
     generalize hM ((a : Int) * (a + 1)) (cnfS a) a b [] (a - 1)=V at *
     refine Ctr.ofK (n:=35) (rs:=[.tmp 4,.tmp 5]) Tryz.func16 rfl rfl Tryz.ntmps16 rfl rfl (by kernel_rfl) Tryz.checked.mixed ?_
     refine Ok.endsW ?_
     refine Ok.seq (Ok.go ?_)
     simp (disch:=first | omega | decide +kernel) only [List.map_nil,go_sem,Qa,Qb,Qc,Qd,Qe,↓reduceIte,reduceCtorEq,Qf,Qg,Qh]
     refine Ok.seq (Ok.go ?_)
     simp (disch:=first | omega | decide +kernel) only [List.map_nil,go_sem,Qa,Qb,Qc,Qd,Qe,↓reduceIte,reduceCtorEq,Qf,Qg,Qh]
     (repeat' (first | ((first | (refine gsel_split (fun q' => ?_) (fun q' => ?_)<;>(have h':=q')<;>(try simp only [za1,za2,Ba,Bb,za3,ne_eq,za4,za5,za6,Ia,Ib,Ic,Ie,Da,Bc,Bd,Be,za7,za8] at h')) | (have q':=trivial; first | refine callX_shared (c1) rfl (by decide) ?_ | refine callY_shared (c1) rfl ?_ | refine hE _ _ ret_ne ?_ | refine hE _ _ exit_ne ?_))<;>(try simp (disch:=first | omega | decide +kernel) only [q',go_sem,Qa,Qb,Qc,Qd,Qe,↓reduceIte,reduceCtorEq,Qf,Qg,Qh])<;>clear q') | refine hN _ ?_ ?_ Wk.kk | with_reducible refine And.intro ?_ ?_ | with_reducible omega | exact ok_ints | exact cells_ints | exact no_mem | with_reducible exact plain_ints | (refine le_maxLen ?_; omega) | (refine za9 ⟨?_,?_⟩) | (simp only [go_sem,Qc,Qb,zb1,zb2,forall_eq]; done)))
     refine Ok.seq (Ok.go ?_)
     simp (disch:=first | omega | decide +kernel) only [List.map_nil,go_sem,Qa,Qb,Qc,Qd,Qe,↓reduceIte,reduceCtorEq,Qf,Qg,Qh]
     (repeat' (first | ((first | (refine gsel_split (fun q' => ?_) (fun q' => ?_)<;>(have h':=q')<;>(try simp only [za1,za2,Ba,Bb,za3,ne_eq,za4,za5,za6,Ia,Ib,Ic,Ie,Da,Bc,Bd,Be,za7,za8] at h')) | (have q':=trivial; first | refine callX_new (c2) rfl (by decide) ?_ | refine callY_new (c2) rfl ?_ | refine hE _ _ ret_ne ?_ | refine hE _ _ exit_ne ?_))<;>(try simp (disch:=first | omega | decide +kernel) only [q',go_sem,Qa,Qb,Qc,Qd,Qe,↓reduceIte,reduceCtorEq,Qf,Qg,Qh])<;>clear q') | refine hN _ ?_ ?_ Wk.kk | with_reducible refine And.intro ?_ ?_ | with_reducible omega | exact ok_ints | exact cells_ints | exact no_mem | with_reducible exact plain_ints | (refine le_maxLen ?_; omega) | (refine za9 ⟨?_,?_⟩) | (simp only [go_sem,Qc,Qb,zb1,zb2,forall_eq]; done)))
     refine Ok.seq (Ok.go ?_)
     simp (disch:=first | omega | decide +kernel) only [go_sem,Qa,Qb,Qc,Qd,Qe,↓reduceIte,reduceCtorEq,Qf,Qg,Qh]
     refine Ok.weak (Wk.nilObj 800000003 25 1 rfl rfl (by simp) (by decide) (e:=47) (k:=6) (by decide)) ?_
     refine Ok.seq (Ok.go ?_)
     simp (disch:=first | omega | decide +kernel) only [setL,go_sem,Qa,Qb,Qc,Qd,Qe,↓reduceIte,reduceCtorEq,Qf,Qg,Qh]
     refine callX_rel [25,800000003] [25,800000003,800000001] [800000003,800000001] c3 ⟨.inl rfl,.inl rfl,.inl rfl,.inl rfl,trivial⟩ ⟨rfl,rfl,trivial⟩ (by simp [namesI,keysO,nth]) (by simp [dstB]) ?_
     rintro _ _ ⟨qs,hq,rfl,rfl⟩
     refine ⟨by simp [namesOK,keysO,nth],?_⟩
     simp (disch:=first | omega | decide +kernel) only [List.nil_append,go_sem,Qa,Qb,Qc,Qd,Qe,↓reduceIte,reduceCtorEq,Qf,Qg,Qh]
     refine Ok.go ?_
     simp (disch:=first | omega | decide +kernel) only [List.nil_append,go_sem,Qa,Qb,Qc,Qd,Qe,↓reduceIte,reduceCtorEq,Qf,Qg,Qh]
     have e : qs.map (fun p => D.pst p.2)=V.map D.pst:=by rw [← hq]; simp
     refine ⟨⟨[(4,.sl 800000003),(5,.d (.bool true))],[(800000003,.dp (some (47,6)) (qs.map fun p => D.pst p.2) none)]⟩,Wk.thawT 800000003 800000001 rfl rfl (fun p hp => ?_) (fun p hp => ?_),?_⟩
     . simp only [List.mem_cons,List.not_mem_nil,or_false] at hp
       rcases hp with rfl | rfl
       . exact ⟨rfl,trivial⟩
       . exact ⟨rfl,rfl⟩
     . obtain rfl:=List.mem_singleton.1 hp
       exact .inl ⟨rfl,rfl⟩
     . rw [e]
       exact ret_dpd 800000003 rfl rfl rfl rfl
theorem hs_small : ∀ n : Nat,n < 4->∀ j : Nat,j < 4->1<=j->j<=n->(hM ((n : Int) * (n + 1)) (cnfS n) n j [] (n - 1)).length<=100∧∀ s ∈ hM ((n : Int) * (n + 1)) (cnfS n) n j [] (n - 1),s.q.co.length<=12:=by decide +kernel
theorem hsV_bd (n j : Int) : (hsV n j).length<=100∧∀ s ∈ hsV n j,s.q.co.length<=12:=by
 unfold hsV
 split
 . rename_i h
   simp only [okHS,Bc,decide_eq_true_eq] at h
   obtain ⟨a,rfl⟩ : ∃ a : Nat,n=a:=⟨n.toNat,by omega⟩
   obtain ⟨b,rfl⟩ : ∃ b : Nat,j=b:=⟨j.toNat,by omega⟩
   rw [Int.toNat_natCast]
   exact hs_small a (by omega) b (by omega) (by omega) (by omega)
 . exact ⟨by simp,fun s hs => nomatch hs⟩
end Abs.Y

namespace Abs
open Go Go.RowKit
theorem Wk.res0 {N : Nat} {S : List (Nat × AV)} {O : List (Nat × AO)} (r : Nat) : Wk N ⟨S,O⟩ ⟨wipeS r S,ins r (.res []) (wipeO r O)⟩:=fun Z β φ B M w0 a w hs => by
 let β':=upd β r (.slice none 0 0)
 let φ':=updF φ r (fun _ => False)
 have e1 : φ' r=fun _ => False:=updF_eq
 have e3 : ∀ i,i ≠ r->φ' i=φ i:=fun i h => updF_ne i h
 have b3 : ∀ i,i ≠ r->β' i=β i:=fun i h => upd_ne i h
 have hk : ∀ i x,lk i (ins r (.res []) (wipeO r O))=some x->(i=r∧x=.res [])∨(i ≠ r∧∃ y,lk i O=some y∧x=y.wipe r):=fun i x hi => by
  rw [lk_ins] at hi
  split at hi
  . rename_i h3; cases hi; exact .inl ⟨h3,rfl⟩
  . rename_i h3
    obtain ⟨_,y,h5,h6⟩:=lk_wipeO hi
    exact .inr ⟨h3,y,h5,h6⟩
 have hm : ∀ g,free Z φ O g->g < w.heap.size->free Z φ' (ins r (.res []) (wipeO r O)) g∧w.heap[g]? = w.heap[g]? := fun g hg _ => ⟨⟨hg.1,fun i x hi hx => by
  rcases hk i x hi with ⟨rfl,rfl⟩ | ⟨h3,y,h5,rfl⟩
  . cases hx
  . rw [e3 i h3]; exact hg.2 i y h5 (by rw [← wipe_res (j:=r)]; exact hx)⟩,rfl⟩
 refine ⟨β',φ',hs.nd.move hm,hs.size,fun i av hi => ?_,fun i x hi => ?_,fun i x g hi hg => ?_,fun i i' x x' g hi hi' hg hg' => ?_,hs.fr,hs.z⟩
 . obtain ⟨h3,h4⟩:=lk_wipeS hi
   rcases h4 with rfl | h4
   . exact .undef _
   . exact ((hs.slots i av h4).move hm).other b3 h3
 . rcases hk i x hi with ⟨rfl,rfl⟩ | ⟨h3,y,h5,rfl⟩
   . rw [e1]
     show OK β' _ w _ (upd β i _ i) _
     rw [upd_eq]
     exact .res rfl (fun g hg => hg.elim) (fun _ _ => False) (fun n hn => by simp at hn) (fun n g hg => hg) fun n n' g hg _ => hg.elim
   . rw [e3 i h3,b3 i h3]
     exact ((hs.objs i y h5).move hm (Nat.le_refl _) fun _ _ => rfl).wipe b3
 . rcases hk i x hi with ⟨rfl,rfl⟩ | ⟨h3,y,h5,rfl⟩
   . rw [e1] at hg; exact hg.elim
   . rw [e3 i h3] at hg; exact hs.own i y g h5 hg
 . rcases hk i x hi with ⟨rfl,rfl⟩ | ⟨h3,y,h5,rfl⟩<;>rcases hk i' x' hi' with ⟨rfl,rfl⟩ | ⟨h3',y',h5',rfl⟩
   . rfl
   . rw [e1] at hg; exact hg.elim
   . rw [e1] at hg'; exact hg'.elim
   . rw [e3 i h3] at hg; rw [e3 i' h3'] at hg'; exact hs.disj i i' y y' g h5 h5' hg hg'
end Abs
namespace Abs.Y
open Go Go.Proofs Abs
open Nat renaming reduceEqDiff -> Qa, reduceLT -> Qb, reduceAdd -> Qc, reduceMul -> Qd, reduceSub -> Qe, reduceLeDiff -> Qf, reduceSubDiff -> Qg, reduceBEq -> Qh
open Bool renaming not_eq_true' -> Ba, not_eq_false' -> Bb, and_eq_true -> Bc, or_eq_true -> Bd, or_eq_false_iff -> Be
open Int renaming ofNat_lt -> Ia, ofNat_le -> Ib, not_lt -> Ic, not_le -> Ie
open Decidable renaming not_not -> Da
set_option maxRecDepth 100000

section
variable (n : Nat)
def bP : Nat->List PSt
 | 0 => []
 | j + 1 => hM ((n : Int) * (n + 1)) (cnfS n) n ((j : Int) + 1) (bP j) (n - 1)
def prP : Nat->List Int
 | 0 => []
 | j + 1 => prP j++[((bP n (j + 1)).length : Int) - 1]
def axP (i : Nat) : PSt:=⟨planI ((n : Int) * (n + 1)) ((cnfS n).getD i []),1,i,0,0⟩
def bA : Nat->List PSt
 | 0 => bP n n
 | i + 1 => bA i++[axP n i]
def prA : Nat->List Int
 | 0 => prP n n
 | i + 1 => prA i++[((bA n i).length : Int)]
def allP : List Int:=prA n (n + 1)
def bS : Nat->List PSt × Int
 | 0 => (bA n (n + 1),(allP n).getD 0 0)
 | k + 1 => ((bS k).1++[⟨addP ((bS k).1.getD (bS k).2.toNat PSt.z).q ((bS k).1.getD ((allP n).getD (k + 1) 0).toNat PSt.z).q,4,(bS k).2,(allP n).getD (k + 1) 0,0⟩],(bS k).1.length)
def ppV : List PSt:=(bS n (2 * n)).1
end
def sizB (u : Int) (s : PSt) : Bool:=decide (s.q.co.length=u.toNat) && bdB s.q
def inB (x : Int) (l : List PSt) : Bool:=decide (0<=x) && decide (x < l.length)
def chkS (n : Nat) : Bool:=(List.range (2 * n)).all fun k => inB (bS n k).2 (bS n k).1 && (inB ((allP n).getD (k + 1) 0) (bS n k).1 &&
 (sizB ((n : Int) * (n + 1)) ((bS n k).1.getD (bS n k).2.toNat PSt.z) && sizB ((n : Int) * (n + 1)) ((bS n k).1.getD ((allP n).getD (k + 1) 0).toNat PSt.z)))
theorem chkS_all : ∀ n : Nat,n < 4->chkS n=true:=by decide +kernel
theorem chkB_all : ∀ n : Nat,n < 4->∀ j : Nat,j < 3->j < n->chkH n (j + 1) (bP n j)=true:=by decide +kernel
theorem litsA : ∀ n : Nat,n < 4->∀ i : Nat,i < 4->i < n + 1->litsB ((n : Int) * (n + 1)) ((cnfS n).getD i [])=true∧i < (cnfS n).length:=by decide +kernel
theorem len_all : ∀ n : Nat,n < 4->(allP n).length=2 * n + 1∧((bP n n).length<=100∧(ppV n).length<=100)∧∀ s ∈ ppV n,s.q.co.length<=12:=by decide +kernel
theorem lenP_all : ∀ n : Nat,n < 4->∀ j : Nat,j < 4->j<=n->(bP n j).length<=100:=by decide +kernel
theorem prP_len (n : Nat) : ∀ j,(prP n j).length=j
 | 0 => rfl
 | j + 1 => by rw [prP,List.length_append,prP_len n j]; rfl
theorem prA_len (n : Nat) : ∀ i,(prA n i).length=n + i
 | 0 => prP_len n n
 | i + 1 => by rw [prA,List.length_append,prA_len n i]; rfl
theorem bA_len (n : Nat) : ∀ i,(bA n i).length=(bP n n).length + i
 | 0 => rfl
 | i + 1 => by rw [bA,List.length_append,bA_len n i]; rfl
theorem bS_len (n : Nat) : ∀ k,(bS n k).1.length=(bP n n).length + (n + 1) + k
 | 0 => bA_len n (n + 1)
 | k + 1 => by rw [bS]; simp only [List.length_append,bS_len n k,List.length_singleton]; omega
end Abs.Y
