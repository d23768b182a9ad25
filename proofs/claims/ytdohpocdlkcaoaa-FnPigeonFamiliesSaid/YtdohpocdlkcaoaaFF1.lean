/- What functions of this program compute, over plain data. No condition. -/
import Derived.Test.YtdohpocdlkcaoaaAbsReg7
import Derived.Test.YtdohpocdlkcaoaaG5d
import Derived.Test.YtdohpocdlkcaoaaG3
set_option linter.all false
namespace Abs
open Go Go.RowKit
theorem retM_vs {P : Program} {t1 t2 : Nat} {st : St} {u : Nat->Value} {x : D} {i : Nat} {o1 : AO} (h1 : lk t1 st.s=some (.d x)) (h2 : lk t2 st.s=some (.sl i)) (k1 : lk i st.o=some o1)
 (r1 : ∀ f,o1.ren f=o1) : retM P [.tmp t1,.tmp t2] u [] true (.tup [.d x,.sl 1]) [(1,o1)] .ret st:=by
 simp only [retM,resV,h1,h2]
 refine ⟨trivial,⟨fun _ => i,rfl,?_,?_,trivial⟩,.inl trivial⟩
 . intro p hp
   obtain rfl:=List.mem_singleton.1 hp
   simpa [r1] using k1
 . intro p hp q hq _
   obtain rfl:=List.mem_singleton.1 hp
   obtain rfl:=List.mem_singleton.1 hq
   rfl
theorem Ok.seqJ {P : Program} {N : Nat} {x y : Code} {Q : Exit->St->Prop} {st : St} (Sc : St) (h1 : Ok P N y Q Sc) (h2 : Ok P N x (fun e s => (e=.normal∧Wk N s Sc)∨(e ≠ .normal∧Q e s)) st) : Ok P N (.seq x y) Q st :=
 Ok.seq (h2.mono fun e s h => by
  cases e with
  | normal =>
    rcases h with ⟨_,h⟩ | ⟨h,_⟩
    . exact Ok.weak h h1
    . exact absurd rfl h
  | _ =>
    rcases h with ⟨h,_⟩ | ⟨_,h⟩
    . cases h
    . exact h)
theorem retM_v {P : Program} {t1 : Nat} {st : St} {u : Nat->Value} {x : D} (h1 : lk t1 st.s=some (.d x)) : retM P [.tmp t1] u [] true (.d x) [] .ret st:=by
 simp only [retM,resV,h1]
 exact ⟨trivial,⟨fun q => q,rfl,by simp,by simp,trivial⟩,.inl trivial⟩
end Abs

namespace Abs
open Go Go.Proofs
theorem ret_cstS {P : Program} {a j i : Nat} {t e : TypeId} {cells cs' : List AV} {ob : AO} {st : St} (h : lk a st.s=some (.p j 0)) (hj : lk j st.o=some (.box e cells)) (hag : aggT P t=true) (hn : P.cellsOf t=cells.length) (hd : allD cells=none)
 (hu : (P.underlying t).isSome=true) (hi : lk i st.o=some ob) (hc : cells=AV.renL (fun _ => i) cs') (hr : ob.ren (fun _ => i)=ob) :
 retQ P [.cell a t] true (.st cs') [(0,ob)] .ret st:=by
 refine .inl ?_
 have hl : (lk a st.s).bind (loadV P st.o t)=some (0 + P.cellsOf t<=cells.length∧(P.underlying t).isSome=true,.st cells):=by
  rw [h,Option.bind_some,loadV,hj]
  simp only [hag,if_true,List.drop_zero,hn,List.take_length,hd]
 simp only [retO,resV,hl]
 exact ⟨⟨hu,⟨by omega,hu⟩,trivial⟩,.one i (by simp only [oneOf,AV.ren,hc]) (by rw [hr]; exact hi),.inl trivial⟩
theorem ret_scbd1 {P : Program} {a j u : Nat} {t e : TypeId} {cells : List AV} {ds : List D} {y : D} {st : St} (js : List Nat) (h : lk a (frzs js st).s=some (.p j 0)) (h' : lk u (frzs js st).s=some (.d y)) (hj : lk j (frzs js st).o=some (.box e cells)) (hag : aggT P t=true) (hn : P.cellsOf t=cells.length) (hd : allD cells=some ds) (hu : (P.underlying t).isSome=true) :
 retQ P [.cell a t,.tmp u] true (.tup [.d (.agg ds),.d y]) [] .ret st:=by
 refine .inr ⟨rfl,js,?_⟩
 have hl : (lk a (frzs js st).s).bind (loadV P (frzs js st).o t)=some (0 + P.cellsOf t<=cells.length∧(P.underlying t).isSome=true,.d (.agg ds)):=by
  rw [h,Option.bind_some,loadV,hj]
  simp only [hag,if_true,List.drop_zero,hn,List.take_length,hd]
 simp only [retO,resV,hl,h']
 exact ⟨⟨hu,⟨by omega,hu⟩,trivial⟩,.nil rfl,.inl trivial⟩
end Abs
namespace Abs.Y
open Go Go.Proofs Abs
open Nat renaming reduceEqDiff -> Qa, reduceLT -> Qb, reduceAdd -> Qc, reduceMul -> Qd, reduceSub -> Qe, reduceLeDiff -> Qf, reduceSubDiff -> Qg, reduceBEq -> Qh
open Bool renaming not_eq_true' -> Ba, not_eq_false' -> Bb, and_eq_true -> Bc, or_eq_true -> Bd, or_eq_false_iff -> Be
open Int renaming ofNat_lt -> Ia, ofNat_le -> Ib, not_lt -> Ic, not_le -> Ie
open Decidable renaming not_not -> Da
set_option maxRecDepth 100000

section
variable (g : List Int->List Int) (n : Nat)
def pvar (i j : Nat) : Int:=((i : Int) - 1) * n + j
def pRow (i : Nat) : Nat->List Int
 | 0 => []
 | j + 1 => pRow i j++[pvar n i (j + 1)]
def pA : Nat->List (List Int)
 | 0 => []
 | i + 1 => pA i++[g (pRow n (i + 1) n)]
def pK (j i : Nat) (l : List (List Int)) : Nat->List (List Int)
 | 0 => l
 | c + 1 => pK j i l c++[g [-(pvar n i j),-(pvar n (i + 1 + c) j)]]
def pI (j : Nat) (l : List (List Int)) : Nat->List (List Int)
 | 0 => l
 | c + 1 => pK g n j (c + 1) (pI j l c) (n - c)
def pJ : Nat->List (List Int)
 | 0 => pA g n (n + 1)
 | c + 1 => pI g n (c + 1) (pJ c) (n + 1)
def fM (i j : Nat) (l : List (List Int)) : Nat->List (List Int)
 | 0 => l
 | c + 1 => fM i j l c++[g [-(pvar n i j),-(pvar n i (j + 1 + c))]]
def fJ (i : Nat) (l : List (List Int)) : Nat->List (List Int)
 | 0 => l
 | c + 1 => fM g n i (c + 1) (fJ i l c) (n - (c + 1))
def fI (l : List (List Int)) : Nat->List (List Int)
 | 0 => l
 | c + 1 => fJ g n (c + 1) (fI l c) n
def oRow (j : Nat) : Nat->List Int
 | 0 => []
 | i + 1 => oRow j i++[pvar n (i + 1) j]
def oJ (l : List (List Int)) : Nat->List (List Int)
 | 0 => l
 | c + 1 => oJ l c++[oRow n (c + 1) (n + 1)]
end
theorem pRow_len (n i : Nat) : ∀ j,(pRow n i j).length=j
 | 0 => rfl
 | j + 1 => by rw [pRow,List.length_append,pRow_len n i j]; rfl
theorem oRow_len (n i : Nat) : ∀ j,(oRow n i j).length=j
 | 0 => rfl
 | j + 1 => by rw [oRow,List.length_append,oRow_len n i j]; rfl
theorem pA_len (g : List Int->List Int) (n : Nat) : ∀ i,(pA g n i).length=i
 | 0 => rfl
 | i + 1 => by rw [pA,List.length_append,pA_len g n i]; rfl
theorem pK_len (g : List Int->List Int) (n j i : Nat) (l : List (List Int)) : ∀ c,(pK g n j i l c).length=l.length + c
 | 0 => rfl
 | c + 1 => by rw [pK,List.length_append,pK_len g n j i l c]; simp; omega
theorem pI_len (g : List Int->List Int) {n : Nat} (hn : n<=3) (j : Nat) (l : List (List Int)) : ∀ c,(pI g n j l c).length<=l.length + 4 * c
 | 0 => Nat.le_refl _
 | c + 1 => by
   have:=pI_len g hn j l c
   rw [pI,pK_len]; omega
theorem pJ_len (g : List Int->List Int) {n : Nat} (hn : n<=3) : ∀ c,(pJ g n c).length<=4 + 16 * c
 | 0 => by rw [pJ,pA_len]; omega
 | c + 1 => by
   have h1:=pJ_len g hn c
   have h2:=pI_len g hn (c + 1) (pJ g n c) (n + 1)
   rw [pJ]; omega
theorem fM_len (g : List Int->List Int) (n i j : Nat) (l : List (List Int)) : ∀ c,(fM g n i j l c).length=l.length + c
 | 0 => rfl
 | c + 1 => by rw [fM,List.length_append,fM_len g n i j l c]; simp; omega
theorem fJ_len (g : List Int->List Int) {n : Nat} (hn : n<=3) (i : Nat) (l : List (List Int)) : ∀ c,(fJ g n i l c).length<=l.length + 4 * c
 | 0 => Nat.le_refl _
 | c + 1 => by
   have:=fJ_len g hn i l c
   rw [fJ,fM_len]; omega
theorem fI_len (g : List Int->List Int) {n : Nat} (hn : n<=3) (l : List (List Int)) : ∀ c,(fI g n l c).length<=l.length + 16 * c
 | 0 => Nat.le_refl _
 | c + 1 => by
   have h1:=fI_len g hn l c
   have h2:=fJ_len g hn (c + 1) (fI g n l c) n
   rw [fI]; omega
theorem oJ_len (n : Nat) (l : List (List Int)) : ∀ c,(oJ n l c).length=l.length + c
 | 0 => rfl
 | c + 1 => by rw [oJ,List.length_append,oJ_len n l c]; simp; omega
def cnfS (n : Nat) : List (List Int):=pJ id n n
def funS (n : Nat) : List (List Int):=fI id n (cnfS n) (n + 1)
def ontoS (n : Nat) : List (List Int):=oJ n (funS n) n
theorem cnfS_len {n : Nat} (hn : n<=3) : (cnfS n).length<=60:=by have:=pJ_len id hn n; unfold cnfS; omega
theorem funS_len {n : Nat} (hn : n<=3) : (funS n).length<=130:=by have:=fI_len id hn (cnfS n) (n + 1); have:=cnfS_len hn; unfold funS; omega
theorem pvar_bd {n i j : Nat} (hn : n<=3) (hi : 1<=i∧i<=4) (hj : j<=3) : 0<=((i : Int) - 1) * n∧((i : Int) - 1) * n<=9:=by
 rcases (by omega : n=0∨n=1∨n=2∨n=3) with rfl | rfl | rfl | rfl<;>rcases (by omega : i=1∨i=2∨i=3∨i=4) with rfl | rfl | rfl | rfl<;>decide
theorem l17Var_ok (n i j : Nat) (hn : n<=3) (hi : 1<=i∧i<=4) (hj : j<=3) : Ctr Try.prog 118 [.int .i64 (n : Int),.int .i64 (i : Int),.int .i64 (j : Int)] false (.d (.int .i64 (pvar n i j))) []:=by
 have h1:=pvar_bd hn hi hj
 unfold pvar
 refine Ctr.of (n:=13) (rs:=[.tmp 6]) Try.func118 rfl rfl Try.ntmps118 rfl rfl (by kernel_rfl) Try.checked.mixed ?_
 simp (disch:=first | omega | decide +kernel) only [go_sem,Qa,Qb,Qc,Qd,Qe,↓reduceIte,reduceCtorEq,Qf,Qg,Qh]
 (repeat' (first | ((first | (refine gsel_split (fun q' => ?_) (fun q' => ?_)<;>(have h':=q')<;>(try simp only [za1,za2,Ba,Bb,za3,ne_eq,za4,za5,za6,Ia,Ib,Ic,Ie,Da,Bc,Bd,Be,za7,za8] at h')) | (have q':=trivial; first | refine hE _ _ ret_ne ?_ | refine hE _ _ exit_ne ?_))<;>(try simp (disch:=first | omega | decide +kernel) only [q',go_sem,Qa,Qb,Qc,Qd,Qe,↓reduceIte,reduceCtorEq,Qf,Qg,Qh])<;>clear q') | refine hN _ ?_ ?_ Wk.kk | with_reducible refine And.intro ?_ ?_ | with_reducible omega | exact ok_ints | exact cells_ints | exact no_mem | with_reducible exact plain_ints | (refine le_maxLen ?_; omega) | (refine za9 ⟨?_,?_⟩) | (simp only [go_sem,Qc,Qb,zb1,zb2,forall_eq]; done)))
set_option maxHeartbeats 4000000 in
theorem l17Cnf_own (n : Nat) (hn : n<=3) : Ctr Try.prog 195 [.int .i64 (n : Int)] true (.st [.d (.int .i64 ((n : Int) * (n + 1))),.sl 0]) [(0,.arr 38 1 ((cnfS n).map D.ints))]:=by
 have hnn : 0<=(n : Int) * (n + 1)∧(n : Int) * (n + 1)<=12:=by
  rcases (by omega : n=0∨n=1∨n=2∨n=3) with rfl | rfl | rfl | rfl<;>decide
 have cv : ∀ i j : Nat,1<=i∧i<=4->j<=3->-(1000 : Int)<=pvar n i j∧pvar n i j<=1000:=fun i j h1 h2 => by have:=pvar_bd hn h1 h2; unfold pvar; omega
 refine Ctr.of (n:=77) (rs:=[.cell 2 29]) Try.func195 rfl rfl Try.ntmps195 rfl rfl (by kernel_rfl) Try.checked.mixed ?_
 simp (disch:=first | omega | decide +kernel) only [go_sem,Qa,Qb,Qc,Qd,Qe,↓reduceIte,reduceCtorEq,Qf,Qg,Qh]
 (repeat' (first | ((first | (refine gsel_split (fun q' => ?_) (fun q' => ?_)<;>(have h':=q')<;>(try simp only [za1,za2,Ba,Bb,za3,ne_eq,za4,za5,za6,Ia,Ib,Ic,Ie,Da,Bc,Bd,Be,za7,za8] at h')) | (have q':=trivial; first | refine hE _ _ ret_ne ?_ | refine hE _ _ exit_ne ?_))<;>(try simp (disch:=first | omega | decide +kernel) only [q',go_sem,Qa,Qb,Qc,Qd,Qe,↓reduceIte,reduceCtorEq,Qf,Qg,Qh])<;>clear q') | refine hN _ ?_ ?_ Wk.kk | with_reducible refine And.intro ?_ ?_ | with_reducible omega | exact ok_ints | exact cells_ints | exact no_mem | with_reducible exact plain_ints | (refine le_maxLen ?_; omega) | (refine za9 ⟨?_,?_⟩) | (simp only [go_sem,Qc,Qb,zb1,zb2,forall_eq]; done)))
 refine Ok.loopNO [76,75,74,73,72,71,70,69,68,67,66,65,64,63,62,61,60,59,58,57,56,55,54,53,52,51,50,49,48,47,46,45,44,43,42,41,40,39,38,37,36,35,34,33,32,31,30,29,28,27,26,25,24,23,22,21,20,19,18,17,16,15,14,13,12,11,10,9,8,7,6,5,4,1] (fun i _ => [(4,.d (.int .i64 (1 + (i : Nat))))]) (fun _ (L : List (List Int)) => [(14,.arr 38 1 (L.map D.ints))]) (n + 1)
  (fun i L => L=pA id n i) [] rfl (Wk.kk) ?_
 rintro R i L hN hE hi hL
 have hll : L.length=i:=by rw [hL,pA_len]
 by_cases hlt : i < n + 1
 . have hs : pA id n (i + 1)=L++[pRow n (i + 1) n]:=by rw [pA,← hL]; rfl
   refine Ok.seq (Ok.go ?_)
   simp (disch:=first | omega | decide +kernel) only [go_sem,Qa,Qb,Qc,Qd,Qe,↓reduceIte,reduceCtorEq,Qf,Qg,Qh]
   (repeat' (first | ((first | (refine gsel_split (fun q' => ?_) (fun q' => ?_)<;>(have h':=q')<;>(try simp only [za1,za2,Ba,Bb,za3,ne_eq,za4,za5,za6,Ia,Ib,Ic,Ie,Da,Bc,Bd,Be,za7,za8] at h')<;>try (exfalso; omega)) | (have q':=trivial; first | refine hE _ _ ret_ne ?_ | refine hE _ _ exit_ne ?_))<;>(try simp (disch:=first | omega | decide +kernel) only [q',go_sem,Qa,Qb,Qc,Qd,Qe,↓reduceIte,reduceCtorEq,Qf,Qg,Qh])<;>clear q') | refine hN _ ?_ ?_ Wk.kk | with_reducible refine And.intro ?_ ?_ | with_reducible omega | exact ok_ints | exact cells_ints | exact no_mem | with_reducible exact plain_ints | (refine le_maxLen ?_; omega) | (refine za9 ⟨?_,?_⟩) | (simp only [go_sem,Qc,Qb,zb1,zb2,forall_eq]; done)))
   refine Ok.seq (Ok.block (Ok.seq (Ok.go ?_)))
   simp (disch:=first | omega | decide +kernel) only [go_sem,Qa,Qb,Qc,Qd,Qe,↓reduceIte,reduceCtorEq,Qf,Qg,Qh]
   refine ⟨by simp,?_⟩
   refine Ok.seq (Ok.go ?_)
   simp (disch:=first | omega | decide +kernel) only [go_sem,Qa,Qb,Qc,Qd,Qe,↓reduceIte,reduceCtorEq,Qf,Qg,Qh]
   refine Ok.loopN [76,75,74,73,72,71,70,69,68,67,66,65,64,63,62,61,60,59,58,57,56,55,54,53,52,51,50,49,48,47,46,45,44,43,42,41,40,39,38,37,36,35,34,33,32,31,30,29,28,27,26,25,24,23,22,21,20,19,18,17,16,15,14,13,12,11,10,9,8,7,6,5,1] (fun j _ => [(6,.d (.int .i64 (1 + (j : Nat)))),(5,.sl 22)]) (fun _ (c : List Int) => [(22,.arr 3 1 (c.map (.int .i64)))]) n
    (fun j c => c=pRow n (i + 1) j) [] rfl (Wk.kk) ?_
   rintro R2 j c hN2 hE2 hj hc
   have hcl : c.length=j:=by rw [hc,pRow_len]
   by_cases hlt2 : j < n
   . have c1:=l17Var_ok n (i + 1) (j + 1) hn (by omega) (by omega)
     rw [show ((i + 1 : Nat) : Int)=1 + (i : Int) by omega,show ((j + 1 : Nat) : Int)=1 + (j : Int) by omega] at c1
     have hs2 : pRow n (i + 1) (j + 1)=c++[pvar n (i + 1) (j + 1)]:=by rw [pRow,← hc]
     simp (disch:=first | omega | decide +kernel) only [go_sem,Qa,Qb,Qc,Qd,Qe,↓reduceIte,reduceCtorEq,Qf,Qg,Qh]
     (repeat' (first | ((first | (refine gsel_split (fun q' => ?_) (fun q' => ?_)<;>(have h':=q')<;>(try simp only [za1,za2,Ba,Bb,za3,ne_eq,za4,za5,za6,Ia,Ib,Ic,Ie,Da,Bc,Bd,Be,za7,za8] at h')) | (have q':=trivial; first | refine callX_new (c1) rfl (by decide) ?_ | refine callY_new (c1) rfl ?_ | refine hE _ _ ret_ne ?_ | refine hE _ _ exit_ne ?_))<;>(try simp (disch:=first | omega | decide +kernel) only [q',go_sem,Qa,Qb,Qc,Qd,Qe,↓reduceIte,reduceCtorEq,Qf,Qg,Qh])<;>clear q') | refine hN _ ?_ ?_ Wk.kk | with_reducible refine And.intro ?_ ?_ | with_reducible omega | exact ok_ints | exact cells_ints | exact no_mem | with_reducible exact plain_ints | (refine le_maxLen ?_; omega) | (refine za9 ⟨?_,?_⟩) | (simp only [go_sem,Qc,Qb,zb1,zb2,forall_eq]; done)))
     refine hN2 (c++[pvar n (i + 1) (j + 1)]) _ hlt2 hs2.symm (by refine Wk.auto ?_ ?_<;>simp [extraK,lk,killL,St.kill,wipeO,wipeS,AV.has,AV.hasL,AO.wipe,List.map_set,updSt,insL,dropS,ins,List.map_append,List.map_cons,List.map_nil,Int.add_assoc])
   . obtain rfl : j=n:=by omega
     simp (disch:=first | omega | decide +kernel) only [go_sem,Qa,Qb,Qc,Qd,Qe,↓reduceIte,reduceCtorEq,Qf,Qg,Qh]
     (repeat' (first | ((first | (refine gsel_split (fun q' => ?_) (fun q' => ?_)<;>(have h':=q')<;>(try simp only [za1,za2,Ba,Bb,za3,ne_eq,za4,za5,za6,Ia,Ib,Ic,Ie,Da,Bc,Bd,Be,za7,za8] at h')<;>try (exfalso; omega)) | (have q':=trivial; first | refine hE _ _ ret_ne ?_ | refine hE _ _ exit_ne ?_))<;>(try simp (disch:=first | omega | decide +kernel) only [q',go_sem,Qa,Qb,Qc,Qd,Qe,↓reduceIte,reduceCtorEq,Qf,Qg,Qh])<;>clear q') | refine hN _ ?_ ?_ Wk.kk | with_reducible refine And.intro ?_ ?_ | with_reducible omega | exact ok_ints | exact cells_ints | exact no_mem | with_reducible exact plain_ints | (refine le_maxLen ?_; omega) | (refine za9 ⟨?_,?_⟩) | (simp only [go_sem,Qc,Qb,zb1,zb2,forall_eq]; done)))
     refine hE2 _ _ exit_ne ?_
     simp (disch:=first | omega | decide +kernel) only [go_sem,Qa,Qb,Qc,Qd,Qe,↓reduceIte,reduceCtorEq,Qf,Qg,Qh]
     refine Ok.weak (Wk.frz (j:=22) rfl) ?_
     refine Ok.go ?_
     simp (disch:=first | omega | decide +kernel) only [go_sem,Qa,Qb,Qc,Qd,Qe,↓reduceIte,reduceCtorEq,Qf,Qg,Qh]
     (repeat' (first | ((first | (refine gsel_split (fun q' => ?_) (fun q' => ?_)<;>(have h':=q')<;>(try simp only [za1,za2,Ba,Bb,za3,ne_eq,za4,za5,za6,Ia,Ib,Ic,Ie,Da,Bc,Bd,Be,za7,za8] at h')<;>try (exfalso; omega)) | (have q':=trivial; first | refine hE _ _ ret_ne ?_ | refine hE _ _ exit_ne ?_))<;>(try simp (disch:=first | omega | decide +kernel) only [q',go_sem,Qa,Qb,Qc,Qd,Qe,↓reduceIte,reduceCtorEq,Qf,Qg,Qh])<;>clear q') | refine hN _ ?_ ?_ Wk.kk | with_reducible refine And.intro ?_ ?_ | with_reducible omega | exact ok_ints | exact cells_ints | exact no_mem | with_reducible exact plain_ints | (refine le_maxLen ?_; omega) | (refine za9 ⟨?_,?_⟩) | (simp only [go_sem,Qc,Qb,zb1,zb2,forall_eq]; done)))
     refine Ok.go ?_
     simp (disch:=first | omega | decide +kernel) only [go_sem,Qa,Qb,Qc,Qd,Qe,↓reduceIte,reduceCtorEq,Qf,Qg,Qh]
     refine hN (L++[pRow j (i + 1) j]) _ hlt hs.symm ?_
     rw [← hc]
     exact (by refine Wk.auto ?_ ?_<;>simp [extraK,lk,killL,St.kill,wipeO,wipeS,AV.has,AV.hasL,AO.wipe,List.map_set,updSt,insL,dropS,ins,List.map_append,List.map_cons,List.map_nil,Int.add_assoc,D.ints])
 . obtain rfl : i=n + 1:=by omega
   refine Ok.go ?_
   simp (disch:=first | omega | decide +kernel) only [go_sem,Qa,Qb,Qc,Qd,Qe,↓reduceIte,reduceCtorEq,Qf,Qg,Qh]
   (repeat' (first | ((first | (refine gsel_split (fun q' => ?_) (fun q' => ?_)<;>(have h':=q')<;>(try simp only [za1,za2,Ba,Bb,za3,ne_eq,za4,za5,za6,Ia,Ib,Ic,Ie,Da,Bc,Bd,Be,za7,za8] at h')) | (have q':=trivial; first | refine hE _ _ ret_ne ?_ | refine hE _ _ exit_ne ?_))<;>(try simp (disch:=first | omega | decide +kernel) only [q',go_sem,Qa,Qb,Qc,Qd,Qe,↓reduceIte,reduceCtorEq,Qf,Qg,Qh])<;>clear q') | refine hN _ ?_ ?_ Wk.kk | with_reducible refine And.intro ?_ ?_ | with_reducible omega | exact ok_ints | exact cells_ints | exact no_mem | with_reducible exact plain_ints | (refine le_maxLen ?_; omega) | (refine za9 ⟨?_,?_⟩) | (simp only [go_sem,Qc,Qb,zb1,zb2,forall_eq]; done)))
   refine Ok.loopN [76,75,74,73,72,71,70,69,68,67,66,65,64,63,62,61,60,59,58,57,56,55,54,53,52,51,50,49,48,47,46,45,44,43,42,41,40,39,38,37,36,35,34,33,32,31,30,29,28,27,26,25,24,23,22,21,20,19,18,17,16,15,14,13,12,11,10,9,8,7,6,5,4,1] (fun j _ => [(7,.d (.int .i64 (1 + (j : Nat))))]) (fun _ (L : List (List Int)) => [(14,.arr 38 1 (L.map D.ints))]) n
    (fun j L => L=pJ id n j) L (by rw [hL]; rfl) (Wk.kk) ?_
   rintro R1 j L1 hN1 hE1 hj hL1
   have hl1:=pJ_len id hn j
   rw [← hL1] at hl1
   by_cases hlt1 : j < n
   . have hsJ : pJ id n (j + 1)=pI id n (j + 1) L1 (n + 1):=by rw [pJ,← hL1]
     simp (disch:=first | omega | decide +kernel) only [go_sem,Qa,Qb,Qc,Qd,Qe,↓reduceIte,reduceCtorEq,Qf,Qg,Qh]
     (repeat' (first | ((first | (refine gsel_split (fun q' => ?_) (fun q' => ?_)<;>(have h':=q')<;>(try simp only [za1,za2,Ba,Bb,za3,ne_eq,za4,za5,za6,Ia,Ib,Ic,Ie,Da,Bc,Bd,Be,za7,za8] at h')) | (have q':=trivial; first | refine hE _ _ ret_ne ?_ | refine hE _ _ exit_ne ?_))<;>(try simp (disch:=first | omega | decide +kernel) only [q',go_sem,Qa,Qb,Qc,Qd,Qe,↓reduceIte,reduceCtorEq,Qf,Qg,Qh])<;>clear q') | refine hN _ ?_ ?_ Wk.kk | with_reducible refine And.intro ?_ ?_ | with_reducible omega | exact ok_ints | exact cells_ints | exact no_mem | with_reducible exact plain_ints | (refine le_maxLen ?_; omega) | (refine za9 ⟨?_,?_⟩) | (simp only [go_sem,Qc,Qb,zb1,zb2,forall_eq]; done)))
     refine Ok.loopN [76,75,74,73,72,71,70,69,68,67,66,65,64,63,62,61,60,59,58,57,56,55,54,53,52,51,50,49,48,47,46,45,44,43,42,41,40,39,38,37,36,35,34,33,32,31,30,29,28,27,26,25,24,23,22,21,20,19,18,17,16,15,14,13,12,11,10,9,8,6,5,4,1] (fun i _ => [(8,.d (.int .i64 (1 + (i : Nat))))]) (fun _ (L : List (List Int)) => [(14,.arr 38 1 (L.map D.ints))]) (n + 1)
      (fun i L => L=pI id n (j + 1) L1 i) L1 rfl (Wk.kk) ?_
     rintro R2 i L2 hN2 hE2 hi2 hL2
     have hl2:=pI_len id hn (j + 1) L1 i
     rw [← hL2] at hl2
     by_cases hlt2 : i < n + 1
     . have hsI : pI id n (j + 1) L1 (i + 1)=pK id n (j + 1) (i + 1) L2 (n - i):=by rw [pI,← hL2]
       simp (disch:=first | omega | decide +kernel) only [go_sem,Qa,Qb,Qc,Qd,Qe,↓reduceIte,reduceCtorEq,Qf,Qg,Qh]
       (repeat' (first | ((first | (refine gsel_split (fun q' => ?_) (fun q' => ?_)<;>(have h':=q')<;>(try simp only [za1,za2,Ba,Bb,za3,ne_eq,za4,za5,za6,Ia,Ib,Ic,Ie,Da,Bc,Bd,Be,za7,za8] at h')) | (have q':=trivial; first | refine hE _ _ ret_ne ?_ | refine hE _ _ exit_ne ?_))<;>(try simp (disch:=first | omega | decide +kernel) only [q',go_sem,Qa,Qb,Qc,Qd,Qe,↓reduceIte,reduceCtorEq,Qf,Qg,Qh])<;>clear q') | refine hN _ ?_ ?_ Wk.kk | with_reducible refine And.intro ?_ ?_ | with_reducible omega | exact ok_ints | exact cells_ints | exact no_mem | with_reducible exact plain_ints | (refine le_maxLen ?_; omega) | (refine za9 ⟨?_,?_⟩) | (simp only [go_sem,Qc,Qb,zb1,zb2,forall_eq]; done)))
       refine Ok.loopN [76,75,74,73,72,71,70,69,68,67,66,65,64,63,62,61,60,59,58,57,56,55,54,53,52,51,50,49,48,47,46,45,44,43,42,41,40,39,38,37,36,35,34,33,32,31,30,29,28,27,26,25,24,23,22,21,20,19,18,17,16,15,14,13,12,11,10,9,6,5,4,1] (fun k _ => [(9,.d (.int .i64 (1 + (i : Nat) + 1 + (k : Nat))))]) (fun _ (L : List (List Int)) => [(14,.arr 38 1 (L.map D.ints))]) (n - i)
        (fun k L => L=pK id n (j + 1) (i + 1) L2 k) L2 rfl (Wk.kk) ?_
       rintro R3 k L3 hN3 hE3 hk hL3
       have hl3:=pK_len id n (j + 1) (i + 1) L2 k
       rw [← hL3] at hl3
       by_cases hlt3 : k < n - i
       . have c1:=l17Var_ok n (i + 1) (j + 1) hn (by omega) (by omega)
         have c2:=l17Var_ok n (i + 1 + 1 + k) (j + 1) hn (by omega) (by omega)
         have b1:=cv (i + 1) (j + 1) (by omega) (by omega)
         have b2:=cv (i + 1 + 1 + k) (j + 1) (by omega) (by omega)
         rw [show ((i + 1 : Nat) : Int)=1 + (i : Int) by omega,show ((j + 1 : Nat) : Int)=1 + (j : Int) by omega] at c1
         rw [show ((i + 1 + 1 + k : Nat) : Int)=1 + (i : Int) + 1 + k by omega,show ((j + 1 : Nat) : Int)=1 + (j : Int) by omega] at c2
         have hs3 : pK id n (j + 1) (i + 1) L2 (k + 1)=L3++[[-(pvar n (i + 1) (j + 1)),-(pvar n (i + 1 + 1 + k) (j + 1))]]:=by rw [pK,← hL3]; rfl
         rw [← Int.zero_sub (pvar n (i + 1) (j + 1)),← Int.zero_sub (pvar n (i + 1 + 1 + k) (j + 1))] at hs3
         clear cv
         generalize pvar n (i + 1) (j + 1)=x1 at *
         generalize pvar n (i + 1 + 1 + k) (j + 1)=x2 at *
         simp (disch:=first | omega | decide +kernel) only [go_sem,Qa,Qb,Qc,Qd,Qe,↓reduceIte,reduceCtorEq,Qf,Qg,Qh]
         (repeat' (first | ((first | (refine gsel_split (fun q' => ?_) (fun q' => ?_)<;>(have h':=q')<;>(try simp only [za1,za2,Ba,Bb,za3,ne_eq,za4,za5,za6,Ia,Ib,Ic,Ie,Da,Bc,Bd,Be,za7,za8] at h')<;>try (exfalso; omega)) | (have q':=trivial; first | refine callX_new (c1) rfl (by decide) ?_ | refine callY_new (c1) rfl ?_ | refine callX_new (c2) rfl (by decide) ?_ | refine callY_new (c2) rfl ?_ | refine hE _ _ ret_ne ?_ | refine hE _ _ exit_ne ?_))<;>(try simp (disch:=first | omega | decide +kernel) only [q',go_sem,Qa,Qb,Qc,Qd,Qe,↓reduceIte,reduceCtorEq,Qf,Qg,Qh])<;>clear q') | refine hN _ ?_ ?_ Wk.kk | with_reducible refine And.intro ?_ ?_ | with_reducible omega | exact ok_ints | exact cells_ints | exact no_mem | with_reducible exact plain_ints | (refine le_maxLen ?_; omega) | (refine za9 ⟨?_,?_⟩) | (simp only [go_sem,Qc,Qb,zb1,zb2,forall_eq]; done)))
         refine hN3 (L3++[[0 - x1,0 - x2]]) _ hlt3 hs3.symm (by refine Wk.auto ?_ ?_<;>simp [extraK,lk,killL,St.kill,wipeO,wipeS,AV.has,AV.hasL,AO.wipe,List.map_set,updSt,insL,dropS,ins,List.map_append,List.map_cons,List.map_nil,Int.add_assoc,D.ints])
       . obtain rfl : k=n - i:=by omega
         simp (disch:=first | omega | decide +kernel) only [go_sem,Qa,Qb,Qc,Qd,Qe,↓reduceIte,reduceCtorEq,Qf,Qg,Qh]
         (repeat' (first | ((first | (refine gsel_split (fun q' => ?_) (fun q' => ?_)<;>(have h':=q')<;>(try simp only [za1,za2,Ba,Bb,za3,ne_eq,za4,za5,za6,Ia,Ib,Ic,Ie,Da,Bc,Bd,Be,za7,za8] at h')<;>try (exfalso; omega)) | (have q':=trivial; first | refine hE _ _ ret_ne ?_ | refine hE _ _ exit_ne ?_))<;>(try simp (disch:=first | omega | decide +kernel) only [q',go_sem,Qa,Qb,Qc,Qd,Qe,↓reduceIte,reduceCtorEq,Qf,Qg,Qh])<;>clear q') | refine hN _ ?_ ?_ Wk.kk | with_reducible refine And.intro ?_ ?_ | with_reducible omega | exact ok_ints | exact cells_ints | exact no_mem | with_reducible exact plain_ints | (refine le_maxLen ?_; omega) | (refine za9 ⟨?_,?_⟩) | (simp only [go_sem,Qc,Qb,zb1,zb2,forall_eq]; done)))
         refine hE3 _ _ exit_ne ?_
         simp (disch:=first | omega | decide +kernel) only [go_sem,Qa,Qb,Qc,Qd,Qe,↓reduceIte,reduceCtorEq,Qf,Qg,Qh]
         (repeat' (first | ((first | (refine gsel_split (fun q' => ?_) (fun q' => ?_)<;>(have h':=q')<;>(try simp only [za1,za2,Ba,Bb,za3,ne_eq,za4,za5,za6,Ia,Ib,Ic,Ie,Da,Bc,Bd,Be,za7,za8] at h')<;>try (exfalso; omega)) | (have q':=trivial; first | refine hE _ _ ret_ne ?_ | refine hE _ _ exit_ne ?_))<;>(try simp (disch:=first | omega | decide +kernel) only [q',go_sem,Qa,Qb,Qc,Qd,Qe,↓reduceIte,reduceCtorEq,Qf,Qg,Qh])<;>clear q') | refine hN _ ?_ ?_ Wk.kk | with_reducible refine And.intro ?_ ?_ | with_reducible omega | exact ok_ints | exact cells_ints | exact no_mem | with_reducible exact plain_ints | (refine le_maxLen ?_; omega) | (refine za9 ⟨?_,?_⟩) | (simp only [go_sem,Qc,Qb,zb1,zb2,forall_eq]; done)))
         refine hN2 L3 _ hlt2 (by rw [hsI,hL3]) (by refine Wk.auto ?_ ?_<;>simp [extraK,lk,killL,St.kill,wipeO,wipeS,AV.has,AV.hasL,AO.wipe,List.map_set,updSt,insL,dropS,ins,Int.add_assoc])
     . obtain rfl : i=n + 1:=by omega
       simp (disch:=first | omega | decide +kernel) only [go_sem,Qa,Qb,Qc,Qd,Qe,↓reduceIte,reduceCtorEq,Qf,Qg,Qh]
       (repeat' (first | ((first | (refine gsel_split (fun q' => ?_) (fun q' => ?_)<;>(have h':=q')<;>(try simp only [za1,za2,Ba,Bb,za3,ne_eq,za4,za5,za6,Ia,Ib,Ic,Ie,Da,Bc,Bd,Be,za7,za8] at h')<;>try (exfalso; omega)) | (have q':=trivial; first | refine hE _ _ ret_ne ?_ | refine hE _ _ exit_ne ?_))<;>(try simp (disch:=first | omega | decide +kernel) only [q',go_sem,Qa,Qb,Qc,Qd,Qe,↓reduceIte,reduceCtorEq,Qf,Qg,Qh])<;>clear q') | refine hN _ ?_ ?_ Wk.kk | with_reducible refine And.intro ?_ ?_ | with_reducible omega | exact ok_ints | exact cells_ints | exact no_mem | with_reducible exact plain_ints | (refine le_maxLen ?_; omega) | (refine za9 ⟨?_,?_⟩) | (simp only [go_sem,Qc,Qb,zb1,zb2,forall_eq]; done)))
       refine hE2 _ _ exit_ne ?_
       simp (disch:=first | omega | decide +kernel) only [go_sem,Qa,Qb,Qc,Qd,Qe,↓reduceIte,reduceCtorEq,Qf,Qg,Qh]
       (repeat' (first | ((first | (refine gsel_split (fun q' => ?_) (fun q' => ?_)<;>(have h':=q')<;>(try simp only [za1,za2,Ba,Bb,za3,ne_eq,za4,za5,za6,Ia,Ib,Ic,Ie,Da,Bc,Bd,Be,za7,za8] at h')<;>try (exfalso; omega)) | (have q':=trivial; first | refine hE _ _ ret_ne ?_ | refine hE _ _ exit_ne ?_))<;>(try simp (disch:=first | omega | decide +kernel) only [q',go_sem,Qa,Qb,Qc,Qd,Qe,↓reduceIte,reduceCtorEq,Qf,Qg,Qh])<;>clear q') | refine hN _ ?_ ?_ Wk.kk | with_reducible refine And.intro ?_ ?_ | with_reducible omega | exact ok_ints | exact cells_ints | exact no_mem | with_reducible exact plain_ints | (refine le_maxLen ?_; omega) | (refine za9 ⟨?_,?_⟩) | (simp only [go_sem,Qc,Qb,zb1,zb2,forall_eq]; done)))
       refine hN1 L2 _ hlt1 (by rw [hsJ,hL2]) (by refine Wk.auto ?_ ?_<;>simp [extraK,lk,killL,St.kill,wipeO,wipeS,AV.has,AV.hasL,AO.wipe,List.map_set,updSt,insL,dropS,ins,Int.add_assoc])
   . obtain rfl : j=n:=by omega
     simp (disch:=first | omega | decide +kernel) only [go_sem,Qa,Qb,Qc,Qd,Qe,↓reduceIte,reduceCtorEq,Qf,Qg,Qh]
     (repeat' (first | ((first | (refine gsel_split (fun q' => ?_) (fun q' => ?_)<;>(have h':=q')<;>(try simp only [za1,za2,Ba,Bb,za3,ne_eq,za4,za5,za6,Ia,Ib,Ic,Ie,Da,Bc,Bd,Be,za7,za8] at h')<;>try (exfalso; omega)) | (have q':=trivial; first | refine hE _ _ ret_ne ?_ | refine hE _ _ exit_ne ?_))<;>(try simp (disch:=first | omega | decide +kernel) only [q',go_sem,Qa,Qb,Qc,Qd,Qe,↓reduceIte,reduceCtorEq,Qf,Qg,Qh])<;>clear q') | refine hN _ ?_ ?_ Wk.kk | with_reducible refine And.intro ?_ ?_ | with_reducible omega | exact ok_ints | exact cells_ints | exact no_mem | with_reducible exact plain_ints | (refine le_maxLen ?_; omega) | (refine za9 ⟨?_,?_⟩) | (simp only [go_sem,Qc,Qb,zb1,zb2,forall_eq]; done)))
     refine hE1 _ _ exit_ne ?_
     simp (disch:=first | omega | decide +kernel) only [go_sem,Qa,Qb,Qc,Qd,Qe,↓reduceIte,reduceCtorEq,Qf,Qg,Qh]
     (repeat' (first | ((first | (refine gsel_split (fun q' => ?_) (fun q' => ?_)<;>(have h':=q')<;>(try simp only [za1,za2,Ba,Bb,za3,ne_eq,za4,za5,za6,Ia,Ib,Ic,Ie,Da,Bc,Bd,Be,za7,za8] at h')<;>try (exfalso; omega)) | (have q':=trivial; first | refine hE _ _ ret_ne ?_ | refine hE _ _ exit_ne ?_))<;>(try simp (disch:=first | omega | decide +kernel) only [q',go_sem,Qa,Qb,Qc,Qd,Qe,↓reduceIte,reduceCtorEq,Qf,Qg,Qh])<;>clear q') | refine hN _ ?_ ?_ Wk.kk | with_reducible refine And.intro ?_ ?_ | with_reducible omega | exact ok_ints | exact cells_ints | exact no_mem | with_reducible exact plain_ints | (refine le_maxLen ?_; omega) | (refine za9 ⟨?_,?_⟩) | (simp only [go_sem,Qc,Qb,zb1,zb2,forall_eq]; done)))
     rw [show cnfS j=L1 from hL1.symm]
     exact ret_cstS rfl rfl (by simp only [go_sem]) (by simp only [go_sem,List.length_cons,List.length_nil]) rfl (by simp only [go_sem]) rfl rfl rfl
end Abs.Y
