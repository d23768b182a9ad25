/- What functions of this program compute, over plain data. No condition. -/
import Derived.Test.YtdohpocdlkcaoaaGreatAbsLoopO
import Derived.Test.YtdohpocdlkcaoaaGreatT1
set_option linter.all false
namespace Abs.Y
open Go Go.Proofs Abs
open Nat renaming reduceEqDiff -> Qa, reduceLT -> Qb, reduceAdd -> Qc, reduceMul -> Qd, reduceSub -> Qe, reduceLeDiff -> Qf, reduceSubDiff -> Qg, reduceBEq -> Qh
open Bool renaming not_eq_true' -> Ba, not_eq_false' -> Bb, and_eq_true -> Bc, or_eq_true -> Bd, or_eq_false_iff -> Be
open Int renaming ofNat_lt -> Ia, ofNat_le -> Ib, not_lt -> Ic, not_le -> Ie
open Decidable renaming not_not -> Da
set_option maxRecDepth 100000

theorem retM_s1 {P : Program} {t : Nat} {st : St} {u : Nat->Value} {o : AO} (i : Nat) (h : lk t st.s=some (.sl i)) (ho : lk i st.o=some o) (hr : ∀ f,o.ren f=o) : retM P [.tmp t] u [] true (.sl 0) [(0,o)] .ret st:=by
 simp only [retM,resV,h]
 refine ⟨trivial,⟨nth [i],rfl,?_,?_,trivial⟩,.inl trivial⟩
 . intro p hp
   obtain rfl:=List.mem_singleton.1 hp
   rw [hr]; exact ho
 . intro p hp q hq _
   obtain rfl:=List.mem_singleton.1 hp
   obtain rfl:=List.mem_singleton.1 hq
   rfl
section
variable (g : List Int->List Int) (n : Nat)
def pvar (i j : Nat) : Int:=((i : Int) - 1) * n + j
def pRow (i : Nat) : Nat->List Int
 | 0 => []
 | j + 1 => pRow i j++[pvar n i (j + 1)]
def pA : Nat->List (List Int)
 | 0 => []
 | i + 1 => pA i++[g (pRow n (i + 1) n)]
def pK (j i : Nat) (l : List (List Int)) : Nat->List (List Int)
 | 0 => l
 | c + 1 => pK j i l c++[g [-(pvar n i j),-(pvar n (i + 1 + c) j)]]
def pI (j : Nat) (l : List (List Int)) : Nat->List (List Int)
 | 0 => l
 | c + 1 => pK g n j (c + 1) (pI j l c) (n - c)
def pJ : Nat->List (List Int)
 | 0 => pA g n (n + 1)
 | c + 1 => pI g n (c + 1) (pJ c) (n + 1)
end
theorem pRow_len (n i : Nat) : ∀ j,(pRow n i j).length=j
 | 0 => rfl
 | j + 1 => by rw [pRow,List.length_append,pRow_len n i j]; rfl
theorem pA_len (g : List Int->List Int) (n : Nat) : ∀ i,(pA g n i).length=i
 | 0 => rfl
 | i + 1 => by rw [pA,List.length_append,pA_len g n i]; rfl
theorem pK_len (g : List Int->List Int) (n j i : Nat) (l : List (List Int)) : ∀ c,(pK g n j i l c).length=l.length + c
 | 0 => rfl
 | c + 1 => by rw [pK,List.length_append,pK_len g n j i l c]; simp; omega
theorem pI_len (g : List Int->List Int) {n : Nat} (hn : n<=3) (j : Nat) (l : List (List Int)) : ∀ c,(pI g n j l c).length<=l.length + 4 * c
 | 0 => Nat.le_refl _
 | c + 1 => by
   have:=pI_len g hn j l c
   rw [pI,pK_len]; omega
theorem pJ_len (g : List Int->List Int) {n : Nat} (hn : n<=3) : ∀ c,(pJ g n c).length<=4 + 16 * c
 | 0 => by rw [pJ,pA_len]; omega
 | c + 1 => by
   have h1:=pJ_len g hn c
   have h2:=pI_len g hn (c + 1) (pJ g n c) (n + 1)
   rw [pJ]; omega
def cnfS (n : Nat) : List (List Int):=pJ id n n
theorem pvar_bd {n i j : Nat} (hn : n<=3) (hi : 1<=i∧i<=4) (hj : j<=3) : 0<=((i : Int) - 1) * n∧((i : Int) - 1) * n<=9:=by
 rcases (by omega : n=0∨n=1∨n=2∨n=3) with rfl | rfl | rfl | rfl<;>rcases (by omega : i=1∨i=2∨i=3∨i=4) with rfl | rfl | rfl | rfl<;>decide
theorem l17Var_ok (n i j : Nat) (hn : n<=3) (hi : 1<=i∧i<=4) (hj : j<=3) : Ctr Tryz.prog 74 [.int .i64 (n : Int),.int .i64 (i : Int),.int .i64 (j : Int)] false (.d (.int .i64 (pvar n i j))) []:=by
 have h1:=pvar_bd hn hi hj
 unfold pvar
 refine Ctr.of (n:=13) (rs:=[.tmp 6]) Tryz.func74 rfl rfl Tryz.ntmps74 rfl rfl (by kernel_rfl) Tryz.checked.mixed ?_
 simp (disch:=first | omega | decide +kernel) only [go_sem,Qa,Qb,Qc,Qd,Qe,↓reduceIte,reduceCtorEq,Qf,Qg,Qh]
 (repeat' (first | ((first | (refine gsel_split (fun q' => ?_) (fun q' => ?_)<;>(have h':=q')<;>(try simp only [za1,za2,Ba,Bb,za3,ne_eq,za4,za5,za6,Ia,Ib,Ic,Ie,Da,Bc,Bd,Be,za7,za8] at h')) | (have q':=trivial; first | refine hE _ _ ret_ne ?_ | refine hE _ _ exit_ne ?_))<;>(try simp (disch:=first | omega | decide +kernel) only [q',go_sem,Qa,Qb,Qc,Qd,Qe,↓reduceIte,reduceCtorEq,Qf,Qg,Qh])<;>clear q') | refine hN _ ?_ ?_ Wk.kk | with_reducible refine And.intro ?_ ?_ | with_reducible omega | exact ok_ints | exact cells_ints | exact no_mem | with_reducible exact plain_ints | (refine le_maxLen ?_; omega) | (refine za9 ⟨?_,?_⟩) | (simp only [go_sem,Qc,Qb,zb1,zb2,forall_eq]; done)))
theorem l11PlaceJ_ok (a : List (List Int)) (l : List Int) (ha : a.length<=4294967296) (hx : ∀ j,(a.getD j []).length<=4294967296) (hl : l.length<=4294967296) :
 Ctr Tryz.prog 118 [.slice (a.map D.ints),.ints l] false (.d (.int .i64 (idxR (fun j => decide (a.getD j []=l)) a.length))) []:=by
 refine Ctr.of (n:=19) (rs:=[.tmp 4]) Tryz.func118 rfl rfl Tryz.ntmps118 rfl rfl (by kernel_rfl) Tryz.checked.mixed ?_
 simp (disch:=first | omega | decide +kernel) only [D.ints,go_sem,Qa,Qb,Qc,Qd,Qe,↓reduceIte,reduceCtorEq,Qf,Qg,Qh]
 refine Ok.loopC [18,17,16,15,14,13,12,11,10,9,8,7,6,5,4,3,2] (fun i => [(5,.d (.int .i64 (i : Nat)))]) a.length (fun i => ∀ j,j < i->decide (a.getD j []=l)=false) (by simp) (Wk.kk) ?_
 intro R i hN hE hi hI
 by_cases hlt : i < a.length
 . have c1:=l1Same_ok (a.getD i []) l (hx i)
   cases hb : decide (a.getD i []=l) with
   | true =>
     rw [hb] at c1
     simp (disch:=first | omega | decide +kernel) only [go_sem,Qa,Qb,Qc,Qd,Qe,↓reduceIte,reduceCtorEq,Qf,Qg,Qh]
     (repeat' (first | ((first | (refine gsel_split (fun q' => ?_) (fun q' => ?_)<;>(have h':=q')<;>(try simp only [za1,za2,Ba,Bb,za3,ne_eq,za4,za5,za6,Ia,Ib,Ic,Ie,Da,Bc,Bd,Be,za7,za8] at h')) | (have q':=trivial; first | refine callX_new (c1) rfl (by decide) ?_ | refine callY_new (c1) rfl ?_ | refine hE _ _ ret_ne ?_ | refine hE _ _ exit_ne ?_))<;>(try simp (disch:=first | omega | decide +kernel) only [q',D.ints,go_sem,Qa,Qb,Qc,Qd,Qe,↓reduceIte,reduceCtorEq,Qf,Qg,Qh])<;>clear q') | refine hN _ ?_ ?_ Wk.kk | with_reducible refine And.intro ?_ ?_ | with_reducible omega | exact ok_ints | exact cells_ints | exact no_mem | with_reducible exact plain_ints | (refine le_maxLen ?_; omega) | (refine za9 ⟨?_,?_⟩) | (simp only [go_sem,Qc,Qb,zb1,zb2,forall_eq]; done)))
     rw [idxR_some hlt hb hI]
   | false =>
     rw [hb] at c1
     simp (disch:=first | omega | decide +kernel) only [go_sem,Qa,Qb,Qc,Qd,Qe,↓reduceIte,reduceCtorEq,Qf,Qg,Qh]
     (repeat' (first | ((first | (refine gsel_split (fun q' => ?_) (fun q' => ?_)<;>(have h':=q')<;>(try simp only [za1,za2,Ba,Bb,za3,ne_eq,za4,za5,za6,Ia,Ib,Ic,Ie,Da,Bc,Bd,Be,za7,za8] at h')) | (have q':=trivial; first | refine callX_new (c1) rfl (by decide) ?_ | refine callY_new (c1) rfl ?_ | refine hE _ _ ret_ne ?_ | refine hE _ _ exit_ne ?_))<;>(try simp (disch:=first | omega | decide +kernel) only [q',D.ints,go_sem,Qa,Qb,Qc,Qd,Qe,↓reduceIte,reduceCtorEq,Qf,Qg,Qh])<;>clear q') | refine hN _ ?_ ?_ Wk.kk | with_reducible refine And.intro ?_ ?_ | with_reducible omega | exact ok_ints | exact cells_ints | exact no_mem | with_reducible exact plain_ints | (refine le_maxLen ?_; omega) | (refine za9 ⟨?_,?_⟩) | (simp only [go_sem,Qc,Qb,zb1,zb2,forall_eq]; done)))
     exact all_succ hI hb
 . simp (disch:=first | omega | decide +kernel) only [go_sem,Qa,Qb,Qc,Qd,Qe,↓reduceIte,reduceCtorEq,Qf,Qg,Qh]
   (repeat' (first | ((first | (refine gsel_split (fun q' => ?_) (fun q' => ?_)<;>(have h':=q')<;>(try simp only [za1,za2,Ba,Bb,za3,ne_eq,za4,za5,za6,Ia,Ib,Ic,Ie,Da,Bc,Bd,Be,za7,za8] at h')) | (have q':=trivial; first | refine hE _ _ ret_ne ?_ | refine hE _ _ exit_ne ?_))<;>(try simp (disch:=first | omega | decide +kernel) only [q',go_sem,Qa,Qb,Qc,Qd,Qe,↓reduceIte,reduceCtorEq,Qf,Qg,Qh])<;>clear q') | refine hN _ ?_ ?_ Wk.kk | with_reducible refine And.intro ?_ ?_ | with_reducible omega | exact ok_ints | exact cells_ints | exact no_mem | with_reducible exact plain_ints | (refine le_maxLen ?_; omega) | (refine za9 ⟨?_,?_⟩) | (simp only [go_sem,Qc,Qb,zb1,zb2,forall_eq]; done)))
   rw [idxR_none fun j hj => hI j (by omega)]

set_option maxHeartbeats 4000000 in
theorem l17Add_ok (ps : List PSt) (ru a b k : Int) (q : Pl) (hl : ps.length<=100000) : CtrM Tryz.prog 43 [.sl 0,.d (.int .i64 ru),.d (.int .i64 a),.d (.int .i64 b),.d (.int .i64 k),.d (D.pl q)] [(0,.arr 47 6 (ps.map D.pst))] [] true (.sl 0)
 [(0,.arr 47 6 ((ps++[(⟨q,ru,a,b,k⟩ : PSt)]).map D.pst))]:=by
 refine CtrM.of (n:=22) (rs:=[.tmp 12]) Tryz.func43 rfl rfl Tryz.ntmps43 rfl rfl (by kernel_rfl) Tryz.checked.mixed ?_; intro u
 simp (disch:=first | omega | decide +kernel) only [D.ints,go_sem,Qa,Qb,Qc,Qd,Qe,↓reduceIte,reduceCtorEq,Qf,Qg,Qh]
 (repeat' (first | ((first | (refine gsel_split (fun q' => ?_) (fun q' => ?_)<;>(have h':=q')<;>(try simp only [za1,za2,Ba,Bb,za3,ne_eq,za4,za5,za6,Ia,Ib,Ic,Ie,Da,Bc,Bd,Be,za7,za8] at h')) | (have q':=trivial; first | refine hE _ _ ret_ne ?_ | refine hE _ _ exit_ne ?_))<;>(try simp (disch:=first | omega | decide +kernel) only [q',D.ints,go_sem,Qa,Qb,Qc,Qd,Qe,↓reduceIte,reduceCtorEq,Qf,Qg,Qh])<;>clear q') | refine hN _ ?_ ?_ Wk.kk | with_reducible refine And.intro ?_ ?_ | with_reducible omega | exact ok_ints | exact cells_ints | exact no_mem | with_reducible exact plain_ints | (refine le_maxLen ?_; omega) | (refine za9 ⟨?_,?_⟩) | (simp only [go_sem,Qc,Qb,zb1,zb2,forall_eq]; done)))
 . rw [ok_agg]; simp [D.atom]
 . rw [List.map_append]
   exact retM_s1 0 rfl rfl fun _ => rfl
set_option maxHeartbeats 4000000 in
theorem l17Cnf_ok (n : Nat) (hn : n<=3) : Ctr Tryz.prog 37 [.int .i64 (n : Int)] true (.d (.agg [.int .i64 ((n : Int) * (n + 1)),.slice ((cnfS n).map D.ints)])) []:=by
 have hnn : 0<=(n : Int) * (n + 1)∧(n : Int) * (n + 1)<=12:=by
  rcases (by omega : n=0∨n=1∨n=2∨n=3) with rfl | rfl | rfl | rfl<;>decide
 have cv : ∀ i j : Nat,1<=i∧i<=4->j<=3->-(1000 : Int)<=pvar n i j∧pvar n i j<=1000:=fun i j h1 h2 => by have:=pvar_bd hn h1 h2; unfold pvar; omega
 refine Ctr.of (n:=77) (rs:=[.cell 2 27]) Tryz.func37 rfl rfl Tryz.ntmps37 rfl rfl (by kernel_rfl) Tryz.checked.mixed ?_
 simp (disch:=first | omega | decide +kernel) only [go_sem,Qa,Qb,Qc,Qd,Qe,↓reduceIte,reduceCtorEq,Qf,Qg,Qh]
 (repeat' (first | ((first | (refine gsel_split (fun q' => ?_) (fun q' => ?_)<;>(have h':=q')<;>(try simp only [za1,za2,Ba,Bb,za3,ne_eq,za4,za5,za6,Ia,Ib,Ic,Ie,Da,Bc,Bd,Be,za7,za8] at h')) | (have q':=trivial; first | refine hE _ _ ret_ne ?_ | refine hE _ _ exit_ne ?_))<;>(try simp (disch:=first | omega | decide +kernel) only [q',go_sem,Qa,Qb,Qc,Qd,Qe,↓reduceIte,reduceCtorEq,Qf,Qg,Qh])<;>clear q') | refine hN _ ?_ ?_ Wk.kk | with_reducible refine And.intro ?_ ?_ | with_reducible omega | exact ok_ints | exact cells_ints | exact no_mem | with_reducible exact plain_ints | (refine le_maxLen ?_; omega) | (refine za9 ⟨?_,?_⟩) | (simp only [go_sem,Qc,Qb,zb1,zb2,forall_eq]; done)))
 refine Ok.loopNO [76,75,74,73,72,71,70,69,68,67,66,65,64,63,62,61,60,59,58,57,56,55,54,53,52,51,50,49,48,47,46,45,44,43,42,41,40,39,38,37,36,35,34,33,32,31,30,29,28,27,26,25,24,23,22,21,20,19,18,17,16,15,14,13,12,11,10,9,8,7,6,5,4,1] (fun i _ => [(4,.d (.int .i64 (1 + (i : Nat))))]) (fun _ (L : List (List Int)) => [(14,.arr 41 1 (L.map D.ints))]) (n + 1)
  (fun i L => L=pA id n i) [] rfl (Wk.kk) ?_
 rintro R i L hN hE hi hL
 have hll : L.length=i:=by rw [hL,pA_len]
 by_cases hlt : i < n + 1
 . have hs : pA id n (i + 1)=L++[pRow n (i + 1) n]:=by rw [pA,← hL]; rfl
   refine Ok.seq (Ok.go ?_)
   simp (disch:=first | omega | decide +kernel) only [go_sem,Qa,Qb,Qc,Qd,Qe,↓reduceIte,reduceCtorEq,Qf,Qg,Qh]
   (repeat' (first | ((first | (refine gsel_split (fun q' => ?_) (fun q' => ?_)<;>(have h':=q')<;>(try simp only [za1,za2,Ba,Bb,za3,ne_eq,za4,za5,za6,Ia,Ib,Ic,Ie,Da,Bc,Bd,Be,za7,za8] at h')<;>try (exfalso; omega)) | (have q':=trivial; first | refine hE _ _ ret_ne ?_ | refine hE _ _ exit_ne ?_))<;>(try simp (disch:=first | omega | decide +kernel) only [q',go_sem,Qa,Qb,Qc,Qd,Qe,↓reduceIte,reduceCtorEq,Qf,Qg,Qh])<;>clear q') | refine hN _ ?_ ?_ Wk.kk | with_reducible refine And.intro ?_ ?_ | with_reducible omega | exact ok_ints | exact cells_ints | exact no_mem | with_reducible exact plain_ints | (refine le_maxLen ?_; omega) | (refine za9 ⟨?_,?_⟩) | (simp only [go_sem,Qc,Qb,zb1,zb2,forall_eq]; done)))
   refine Ok.seq (Ok.block (Ok.seq (Ok.go ?_)))
   simp (disch:=first | omega | decide +kernel) only [go_sem,Qa,Qb,Qc,Qd,Qe,↓reduceIte,reduceCtorEq,Qf,Qg,Qh]
   refine ⟨by simp,?_⟩
   refine Ok.seq (Ok.go ?_)
   simp (disch:=first | omega | decide +kernel) only [go_sem,Qa,Qb,Qc,Qd,Qe,↓reduceIte,reduceCtorEq,Qf,Qg,Qh]
   refine Ok.loopN [76,75,74,73,72,71,70,69,68,67,66,65,64,63,62,61,60,59,58,57,56,55,54,53,52,51,50,49,48,47,46,45,44,43,42,41,40,39,38,37,36,35,34,33,32,31,30,29,28,27,26,25,24,23,22,21,20,19,18,17,16,15,14,13,12,11,10,9,8,7,6,5,1] (fun j _ => [(6,.d (.int .i64 (1 + (j : Nat)))),(5,.sl 22)]) (fun _ (c : List Int) => [(22,.arr 3 1 (c.map (.int .i64)))]) n
    (fun j c => c=pRow n (i + 1) j) [] rfl (Wk.kk) ?_
   rintro R2 j c hN2 hE2 hj hc
   have hcl : c.length=j:=by rw [hc,pRow_len]
   by_cases hlt2 : j < n
   . have c1:=l17Var_ok n (i + 1) (j + 1) hn (by omega) (by omega)
     rw [show ((i + 1 : Nat) : Int)=1 + (i : Int) by omega,show ((j + 1 : Nat) : Int)=1 + (j : Int) by omega] at c1
     have hs2 : pRow n (i + 1) (j + 1)=c++[pvar n (i + 1) (j + 1)]:=by rw [pRow,← hc]
     simp (disch:=first | omega | decide +kernel) only [go_sem,Qa,Qb,Qc,Qd,Qe,↓reduceIte,reduceCtorEq,Qf,Qg,Qh]
     (repeat' (first | ((first | (refine gsel_split (fun q' => ?_) (fun q' => ?_)<;>(have h':=q')<;>(try simp only [za1,za2,Ba,Bb,za3,ne_eq,za4,za5,za6,Ia,Ib,Ic,Ie,Da,Bc,Bd,Be,za7,za8] at h')) | (have q':=trivial; first | refine callX_new (c1) rfl (by decide) ?_ | refine callY_new (c1) rfl ?_ | refine hE _ _ ret_ne ?_ | refine hE _ _ exit_ne ?_))<;>(try simp (disch:=first | omega | decide +kernel) only [q',go_sem,Qa,Qb,Qc,Qd,Qe,↓reduceIte,reduceCtorEq,Qf,Qg,Qh])<;>clear q') | refine hN _ ?_ ?_ Wk.kk | with_reducible refine And.intro ?_ ?_ | with_reducible omega | exact ok_ints | exact cells_ints | exact no_mem | with_reducible exact plain_ints | (refine le_maxLen ?_; omega) | (refine za9 ⟨?_,?_⟩) | (simp only [go_sem,Qc,Qb,zb1,zb2,forall_eq]; done)))
     refine hN2 (c++[pvar n (i + 1) (j + 1)]) _ hlt2 hs2.symm (by refine Wk.auto ?_ ?_<;>simp [extraK,lk,killL,St.kill,wipeO,wipeS,AV.has,AV.hasL,AO.wipe,List.map_set,updSt,insL,dropS,ins,List.map_append,List.map_cons,List.map_nil,Int.add_assoc])
   . obtain rfl : j=n:=by omega
     simp (disch:=first | omega | decide +kernel) only [go_sem,Qa,Qb,Qc,Qd,Qe,↓reduceIte,reduceCtorEq,Qf,Qg,Qh]
     (repeat' (first | ((first | (refine gsel_split (fun q' => ?_) (fun q' => ?_)<;>(have h':=q')<;>(try simp only [za1,za2,Ba,Bb,za3,ne_eq,za4,za5,za6,Ia,Ib,Ic,Ie,Da,Bc,Bd,Be,za7,za8] at h')<;>try (exfalso; omega)) | (have q':=trivial; first | refine hE _ _ ret_ne ?_ | refine hE _ _ exit_ne ?_))<;>(try simp (disch:=first | omega | decide +kernel) only [q',go_sem,Qa,Qb,Qc,Qd,Qe,↓reduceIte,reduceCtorEq,Qf,Qg,Qh])<;>clear q') | refine hN _ ?_ ?_ Wk.kk | with_reducible refine And.intro ?_ ?_ | with_reducible omega | exact ok_ints | exact cells_ints | exact no_mem | with_reducible exact plain_ints | (refine le_maxLen ?_; omega) | (refine za9 ⟨?_,?_⟩) | (simp only [go_sem,Qc,Qb,zb1,zb2,forall_eq]; done)))
     refine hE2 _ _ exit_ne ?_
     simp (disch:=first | omega | decide +kernel) only [go_sem,Qa,Qb,Qc,Qd,Qe,↓reduceIte,reduceCtorEq,Qf,Qg,Qh]
     refine Ok.weak (Wk.frz (j:=22) rfl) ?_
     refine Ok.go ?_
     simp (disch:=first | omega | decide +kernel) only [go_sem,Qa,Qb,Qc,Qd,Qe,↓reduceIte,reduceCtorEq,Qf,Qg,Qh]
     (repeat' (first | ((first | (refine gsel_split (fun q' => ?_) (fun q' => ?_)<;>(have h':=q')<;>(try simp only [za1,za2,Ba,Bb,za3,ne_eq,za4,za5,za6,Ia,Ib,Ic,Ie,Da,Bc,Bd,Be,za7,za8] at h')<;>try (exfalso; omega)) | (have q':=trivial; first | refine hE _ _ ret_ne ?_ | refine hE _ _ exit_ne ?_))<;>(try simp (disch:=first | omega | decide +kernel) only [q',go_sem,Qa,Qb,Qc,Qd,Qe,↓reduceIte,reduceCtorEq,Qf,Qg,Qh])<;>clear q') | refine hN _ ?_ ?_ Wk.kk | with_reducible refine And.intro ?_ ?_ | with_reducible omega | exact ok_ints | exact cells_ints | exact no_mem | with_reducible exact plain_ints | (refine le_maxLen ?_; omega) | (refine za9 ⟨?_,?_⟩) | (simp only [go_sem,Qc,Qb,zb1,zb2,forall_eq]; done)))
     refine Ok.go ?_
     simp (disch:=first | omega | decide +kernel) only [go_sem,Qa,Qb,Qc,Qd,Qe,↓reduceIte,reduceCtorEq,Qf,Qg,Qh]
     refine hN (L++[pRow j (i + 1) j]) _ hlt hs.symm ?_
     rw [← hc]
     exact (by refine Wk.auto ?_ ?_<;>simp [extraK,lk,killL,St.kill,wipeO,wipeS,AV.has,AV.hasL,AO.wipe,List.map_set,updSt,insL,dropS,ins,List.map_append,List.map_cons,List.map_nil,Int.add_assoc,D.ints])
 . obtain rfl : i=n + 1:=by omega
   refine Ok.go ?_
   simp (disch:=first | omega | decide +kernel) only [go_sem,Qa,Qb,Qc,Qd,Qe,↓reduceIte,reduceCtorEq,Qf,Qg,Qh]
   (repeat' (first | ((first | (refine gsel_split (fun q' => ?_) (fun q' => ?_)<;>(have h':=q')<;>(try simp only [za1,za2,Ba,Bb,za3,ne_eq,za4,za5,za6,Ia,Ib,Ic,Ie,Da,Bc,Bd,Be,za7,za8] at h')) | (have q':=trivial; first | refine hE _ _ ret_ne ?_ | refine hE _ _ exit_ne ?_))<;>(try simp (disch:=first | omega | decide +kernel) only [q',go_sem,Qa,Qb,Qc,Qd,Qe,↓reduceIte,reduceCtorEq,Qf,Qg,Qh])<;>clear q') | refine hN _ ?_ ?_ Wk.kk | with_reducible refine And.intro ?_ ?_ | with_reducible omega | exact ok_ints | exact cells_ints | exact no_mem | with_reducible exact plain_ints | (refine le_maxLen ?_; omega) | (refine za9 ⟨?_,?_⟩) | (simp only [go_sem,Qc,Qb,zb1,zb2,forall_eq]; done)))
   refine Ok.loopN [76,75,74,73,72,71,70,69,68,67,66,65,64,63,62,61,60,59,58,57,56,55,54,53,52,51,50,49,48,47,46,45,44,43,42,41,40,39,38,37,36,35,34,33,32,31,30,29,28,27,26,25,24,23,22,21,20,19,18,17,16,15,14,13,12,11,10,9,8,7,6,5,4,1] (fun j _ => [(7,.d (.int .i64 (1 + (j : Nat))))]) (fun _ (L : List (List Int)) => [(14,.arr 41 1 (L.map D.ints))]) n
    (fun j L => L=pJ id n j) L (by rw [hL]; rfl) (Wk.kk) ?_
   rintro R1 j L1 hN1 hE1 hj hL1
   have hl1:=pJ_len id hn j
   rw [← hL1] at hl1
   by_cases hlt1 : j < n
   . have hsJ : pJ id n (j + 1)=pI id n (j + 1) L1 (n + 1):=by rw [pJ,← hL1]
     simp (disch:=first | omega | decide +kernel) only [go_sem,Qa,Qb,Qc,Qd,Qe,↓reduceIte,reduceCtorEq,Qf,Qg,Qh]
     (repeat' (first | ((first | (refine gsel_split (fun q' => ?_) (fun q' => ?_)<;>(have h':=q')<;>(try simp only [za1,za2,Ba,Bb,za3,ne_eq,za4,za5,za6,Ia,Ib,Ic,Ie,Da,Bc,Bd,Be,za7,za8] at h')) | (have q':=trivial; first | refine hE _ _ ret_ne ?_ | refine hE _ _ exit_ne ?_))<;>(try simp (disch:=first | omega | decide +kernel) only [q',go_sem,Qa,Qb,Qc,Qd,Qe,↓reduceIte,reduceCtorEq,Qf,Qg,Qh])<;>clear q') | refine hN _ ?_ ?_ Wk.kk | with_reducible refine And.intro ?_ ?_ | with_reducible omega | exact ok_ints | exact cells_ints | exact no_mem | with_reducible exact plain_ints | (refine le_maxLen ?_; omega) | (refine za9 ⟨?_,?_⟩) | (simp only [go_sem,Qc,Qb,zb1,zb2,forall_eq]; done)))
     refine Ok.loopN [76,75,74,73,72,71,70,69,68,67,66,65,64,63,62,61,60,59,58,57,56,55,54,53,52,51,50,49,48,47,46,45,44,43,42,41,40,39,38,37,36,35,34,33,32,31,30,29,28,27,26,25,24,23,22,21,20,19,18,17,16,15,14,13,12,11,10,9,8,6,5,4,1] (fun i _ => [(8,.d (.int .i64 (1 + (i : Nat))))]) (fun _ (L : List (List Int)) => [(14,.arr 41 1 (L.map D.ints))]) (n + 1)
      (fun i L => L=pI id n (j + 1) L1 i) L1 rfl (Wk.kk) ?_
     rintro R2 i L2 hN2 hE2 hi2 hL2
     have hl2:=pI_len id hn (j + 1) L1 i
     rw [← hL2] at hl2
     by_cases hlt2 : i < n + 1
     . have hsI : pI id n (j + 1) L1 (i + 1)=pK id n (j + 1) (i + 1) L2 (n - i):=by rw [pI,← hL2]
       simp (disch:=first | omega | decide +kernel) only [go_sem,Qa,Qb,Qc,Qd,Qe,↓reduceIte,reduceCtorEq,Qf,Qg,Qh]
       (repeat' (first | ((first | (refine gsel_split (fun q' => ?_) (fun q' => ?_)<;>(have h':=q')<;>(try simp only [za1,za2,Ba,Bb,za3,ne_eq,za4,za5,za6,Ia,Ib,Ic,Ie,Da,Bc,Bd,Be,za7,za8] at h')) | (have q':=trivial; first | refine hE _ _ ret_ne ?_ | refine hE _ _ exit_ne ?_))<;>(try simp (disch:=first | omega | decide +kernel) only [q',go_sem,Qa,Qb,Qc,Qd,Qe,↓reduceIte,reduceCtorEq,Qf,Qg,Qh])<;>clear q') | refine hN _ ?_ ?_ Wk.kk | with_reducible refine And.intro ?_ ?_ | with_reducible omega | exact ok_ints | exact cells_ints | exact no_mem | with_reducible exact plain_ints | (refine le_maxLen ?_; omega) | (refine za9 ⟨?_,?_⟩) | (simp only [go_sem,Qc,Qb,zb1,zb2,forall_eq]; done)))
       refine Ok.loopN [76,75,74,73,72,71,70,69,68,67,66,65,64,63,62,61,60,59,58,57,56,55,54,53,52,51,50,49,48,47,46,45,44,43,42,41,40,39,38,37,36,35,34,33,32,31,30,29,28,27,26,25,24,23,22,21,20,19,18,17,16,15,14,13,12,11,10,9,6,5,4,1] (fun k _ => [(9,.d (.int .i64 (1 + (i : Nat) + 1 + (k : Nat))))]) (fun _ (L : List (List Int)) => [(14,.arr 41 1 (L.map D.ints))]) (n - i)
        (fun k L => L=pK id n (j + 1) (i + 1) L2 k) L2 rfl (Wk.kk) ?_
       rintro R3 k L3 hN3 hE3 hk hL3
       have hl3:=pK_len id n (j + 1) (i + 1) L2 k
       rw [← hL3] at hl3
       by_cases hlt3 : k < n - i
       . have c1:=l17Var_ok n (i + 1) (j + 1) hn (by omega) (by omega)
         have c2:=l17Var_ok n (i + 1 + 1 + k) (j + 1) hn (by omega) (by omega)
         have b1:=cv (i + 1) (j + 1) (by omega) (by omega)
         have b2:=cv (i + 1 + 1 + k) (j + 1) (by omega) (by omega)
         rw [show ((i + 1 : Nat) : Int)=1 + (i : Int) by omega,show ((j + 1 : Nat) : Int)=1 + (j : Int) by omega] at c1
         rw [show ((i + 1 + 1 + k : Nat) : Int)=1 + (i : Int) + 1 + k by omega,show ((j + 1 : Nat) : Int)=1 + (j : Int) by omega] at c2
         have hs3 : pK id n (j + 1) (i + 1) L2 (k + 1)=L3++[[-(pvar n (i + 1) (j + 1)),-(pvar n (i + 1 + 1 + k) (j + 1))]]:=by rw [pK,← hL3]; rfl
         rw [← Int.zero_sub (pvar n (i + 1) (j + 1)),← Int.zero_sub (pvar n (i + 1 + 1 + k) (j + 1))] at hs3
         clear cv
         generalize pvar n (i + 1) (j + 1)=x1 at *
         generalize pvar n (i + 1 + 1 + k) (j + 1)=x2 at *
         simp (disch:=first | omega | decide +kernel) only [go_sem,Qa,Qb,Qc,Qd,Qe,↓reduceIte,reduceCtorEq,Qf,Qg,Qh]
         (repeat' (first | ((first | (refine gsel_split (fun q' => ?_) (fun q' => ?_)<;>(have h':=q')<;>(try simp only [za1,za2,Ba,Bb,za3,ne_eq,za4,za5,za6,Ia,Ib,Ic,Ie,Da,Bc,Bd,Be,za7,za8] at h')<;>try (exfalso; omega)) | (have q':=trivial; first | refine callX_new (c1) rfl (by decide) ?_ | refine callY_new (c1) rfl ?_ | refine callX_new (c2) rfl (by decide) ?_ | refine callY_new (c2) rfl ?_ | refine hE _ _ ret_ne ?_ | refine hE _ _ exit_ne ?_))<;>(try simp (disch:=first | omega | decide +kernel) only [q',go_sem,Qa,Qb,Qc,Qd,Qe,↓reduceIte,reduceCtorEq,Qf,Qg,Qh])<;>clear q') | refine hN _ ?_ ?_ Wk.kk | with_reducible refine And.intro ?_ ?_ | with_reducible omega | exact ok_ints | exact cells_ints | exact no_mem | with_reducible exact plain_ints | (refine le_maxLen ?_; omega) | (refine za9 ⟨?_,?_⟩) | (simp only [go_sem,Qc,Qb,zb1,zb2,forall_eq]; done)))
         refine hN3 (L3++[[0 - x1,0 - x2]]) _ hlt3 hs3.symm (by refine Wk.auto ?_ ?_<;>simp [extraK,lk,killL,St.kill,wipeO,wipeS,AV.has,AV.hasL,AO.wipe,List.map_set,updSt,insL,dropS,ins,List.map_append,List.map_cons,List.map_nil,Int.add_assoc,D.ints])
       . obtain rfl : k=n - i:=by omega
         simp (disch:=first | omega | decide +kernel) only [go_sem,Qa,Qb,Qc,Qd,Qe,↓reduceIte,reduceCtorEq,Qf,Qg,Qh]
         (repeat' (first | ((first | (refine gsel_split (fun q' => ?_) (fun q' => ?_)<;>(have h':=q')<;>(try simp only [za1,za2,Ba,Bb,za3,ne_eq,za4,za5,za6,Ia,Ib,Ic,Ie,Da,Bc,Bd,Be,za7,za8] at h')<;>try (exfalso; omega)) | (have q':=trivial; first | refine hE _ _ ret_ne ?_ | refine hE _ _ exit_ne ?_))<;>(try simp (disch:=first | omega | decide +kernel) only [q',go_sem,Qa,Qb,Qc,Qd,Qe,↓reduceIte,reduceCtorEq,Qf,Qg,Qh])<;>clear q') | refine hN _ ?_ ?_ Wk.kk | with_reducible refine And.intro ?_ ?_ | with_reducible omega | exact ok_ints | exact cells_ints | exact no_mem | with_reducible exact plain_ints | (refine le_maxLen ?_; omega) | (refine za9 ⟨?_,?_⟩) | (simp only [go_sem,Qc,Qb,zb1,zb2,forall_eq]; done)))
         refine hE3 _ _ exit_ne ?_
         simp (disch:=first | omega | decide +kernel) only [go_sem,Qa,Qb,Qc,Qd,Qe,↓reduceIte,reduceCtorEq,Qf,Qg,Qh]
         (repeat' (first | ((first | (refine gsel_split (fun q' => ?_) (fun q' => ?_)<;>(have h':=q')<;>(try simp only [za1,za2,Ba,Bb,za3,ne_eq,za4,za5,za6,Ia,Ib,Ic,Ie,Da,Bc,Bd,Be,za7,za8] at h')<;>try (exfalso; omega)) | (have q':=trivial; first | refine hE _ _ ret_ne ?_ | refine hE _ _ exit_ne ?_))<;>(try simp (disch:=first | omega | decide +kernel) only [q',go_sem,Qa,Qb,Qc,Qd,Qe,↓reduceIte,reduceCtorEq,Qf,Qg,Qh])<;>clear q') | refine hN _ ?_ ?_ Wk.kk | with_reducible refine And.intro ?_ ?_ | with_reducible omega | exact ok_ints | exact cells_ints | exact no_mem | with_reducible exact plain_ints | (refine le_maxLen ?_; omega) | (refine za9 ⟨?_,?_⟩) | (simp only [go_sem,Qc,Qb,zb1,zb2,forall_eq]; done)))
         refine hN2 L3 _ hlt2 (by rw [hsI,hL3]) (by refine Wk.auto ?_ ?_<;>simp [extraK,lk,killL,St.kill,wipeO,wipeS,AV.has,AV.hasL,AO.wipe,List.map_set,updSt,insL,dropS,ins,Int.add_assoc])
     . obtain rfl : i=n + 1:=by omega
       simp (disch:=first | omega | decide +kernel) only [go_sem,Qa,Qb,Qc,Qd,Qe,↓reduceIte,reduceCtorEq,Qf,Qg,Qh]
       (repeat' (first | ((first | (refine gsel_split (fun q' => ?_) (fun q' => ?_)<;>(have h':=q')<;>(try simp only [za1,za2,Ba,Bb,za3,ne_eq,za4,za5,za6,Ia,Ib,Ic,Ie,Da,Bc,Bd,Be,za7,za8] at h')<;>try (exfalso; omega)) | (have q':=trivial; first | refine hE _ _ ret_ne ?_ | refine hE _ _ exit_ne ?_))<;>(try simp (disch:=first | omega | decide +kernel) only [q',go_sem,Qa,Qb,Qc,Qd,Qe,↓reduceIte,reduceCtorEq,Qf,Qg,Qh])<;>clear q') | refine hN _ ?_ ?_ Wk.kk | with_reducible refine And.intro ?_ ?_ | with_reducible omega | exact ok_ints | exact cells_ints | exact no_mem | with_reducible exact plain_ints | (refine le_maxLen ?_; omega) | (refine za9 ⟨?_,?_⟩) | (simp only [go_sem,Qc,Qb,zb1,zb2,forall_eq]; done)))
       refine hE2 _ _ exit_ne ?_
       simp (disch:=first | omega | decide +kernel) only [go_sem,Qa,Qb,Qc,Qd,Qe,↓reduceIte,reduceCtorEq,Qf,Qg,Qh]
       (repeat' (first | ((first | (refine gsel_split (fun q' => ?_) (fun q' => ?_)<;>(have h':=q')<;>(try simp only [za1,za2,Ba,Bb,za3,ne_eq,za4,za5,za6,Ia,Ib,Ic,Ie,Da,Bc,Bd,Be,za7,za8] at h')<;>try (exfalso; omega)) | (have q':=trivial; first | refine hE _ _ ret_ne ?_ | refine hE _ _ exit_ne ?_))<;>(try simp (disch:=first | omega | decide +kernel) only [q',go_sem,Qa,Qb,Qc,Qd,Qe,↓reduceIte,reduceCtorEq,Qf,Qg,Qh])<;>clear q') | refine hN _ ?_ ?_ Wk.kk | with_reducible refine And.intro ?_ ?_ | with_reducible omega | exact ok_ints | exact cells_ints | exact no_mem | with_reducible exact plain_ints | (refine le_maxLen ?_; omega) | (refine za9 ⟨?_,?_⟩) | (simp only [go_sem,Qc,Qb,zb1,zb2,forall_eq]; done)))
       refine hN1 L2 _ hlt1 (by rw [hsJ,hL2]) (by refine Wk.auto ?_ ?_<;>simp [extraK,lk,killL,St.kill,wipeO,wipeS,AV.has,AV.hasL,AO.wipe,List.map_set,updSt,insL,dropS,ins,Int.add_assoc])
   . obtain rfl : j=n:=by omega
     simp (disch:=first | omega | decide +kernel) only [go_sem,Qa,Qb,Qc,Qd,Qe,↓reduceIte,reduceCtorEq,Qf,Qg,Qh]
     (repeat' (first | ((first | (refine gsel_split (fun q' => ?_) (fun q' => ?_)<;>(have h':=q')<;>(try simp only [za1,za2,Ba,Bb,za3,ne_eq,za4,za5,za6,Ia,Ib,Ic,Ie,Da,Bc,Bd,Be,za7,za8] at h')<;>try (exfalso; omega)) | (have q':=trivial; first | refine hE _ _ ret_ne ?_ | refine hE _ _ exit_ne ?_))<;>(try simp (disch:=first | omega | decide +kernel) only [q',go_sem,Qa,Qb,Qc,Qd,Qe,↓reduceIte,reduceCtorEq,Qf,Qg,Qh])<;>clear q') | refine hN _ ?_ ?_ Wk.kk | with_reducible refine And.intro ?_ ?_ | with_reducible omega | exact ok_ints | exact cells_ints | exact no_mem | with_reducible exact plain_ints | (refine le_maxLen ?_; omega) | (refine za9 ⟨?_,?_⟩) | (simp only [go_sem,Qc,Qb,zb1,zb2,forall_eq]; done)))
     refine hE1 _ _ exit_ne ?_
     simp (disch:=first | omega | decide +kernel) only [go_sem,Qa,Qb,Qc,Qd,Qe,↓reduceIte,reduceCtorEq,Qf,Qg,Qh]
     (repeat' (first | ((first | (refine gsel_split (fun q' => ?_) (fun q' => ?_)<;>(have h':=q')<;>(try simp only [za1,za2,Ba,Bb,za3,ne_eq,za4,za5,za6,Ia,Ib,Ic,Ie,Da,Bc,Bd,Be,za7,za8] at h')<;>try (exfalso; omega)) | (have q':=trivial; first | refine hE _ _ ret_ne ?_ | refine hE _ _ exit_ne ?_))<;>(try simp (disch:=first | omega | decide +kernel) only [q',go_sem,Qa,Qb,Qc,Qd,Qe,↓reduceIte,reduceCtorEq,Qf,Qg,Qh])<;>clear q') | refine hN _ ?_ ?_ Wk.kk | with_reducible refine And.intro ?_ ?_ | with_reducible omega | exact ok_ints | exact cells_ints | exact no_mem | with_reducible exact plain_ints | (refine le_maxLen ?_; omega) | (refine za9 ⟨?_,?_⟩) | (simp only [go_sem,Qc,Qb,zb1,zb2,forall_eq]; done)))
     rw [show cnfS j=L1 from hL1.symm]
     exact ret_scb [14] rfl rfl (by simp only [go_sem]) (by simp only [go_sem,List.length_cons,List.length_nil]) rfl (by simp only [go_sem])
end Abs.Y
