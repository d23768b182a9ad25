/- What functions of this program compute, over plain data. No condition. -/
import Derived.Test.YtkccabajcdphkaaDoorPO3
set_option linter.all false
namespace Abs.Y
open Go Go.Proofs Abs
open Nat renaming reduceEqDiff -> Qa, reduceLT -> Qb, reduceAdd -> Qc, reduceMul -> Qd, reduceSub -> Qe, reduceLeDiff -> Qf, reduceSubDiff -> Qg, reduceBEq -> Qh
open Bool renaming not_eq_true' -> Ba, not_eq_false' -> Bb, and_eq_true -> Bc, or_eq_true -> Bh, or_eq_false_iff -> Be
open Int renaming ofNat_lt -> Ia, ofNat_le -> Ib, not_lt -> Ic, not_le -> Ie
open Decidable renaming not_not -> Da
set_option maxRecDepth 100000

theorem iIsPoly_ok (p v : Int) (a : List (Int × Int)) (hal : a.length<=1000) : Ctr Tryd.prog 14 [.int .i64 p,.int .i64 v,D.tms a] false (.d (.bool (ok1 p v a))) []:=by
 have c1:=Ctr.tupN (ys:=[_,_]) (ringOf_ok p v)
 unfold ok1
 cases hpr : primeB p v with
 | false =>
   rw [hpr] at c1
   refine Ctr.of (n:=21) (rs:=[.tmp 6]) Tryd.func14 rfl rfl Tryd.ntmps14 rfl rfl (by kernel_rfl) Tryd.checked.mixed ?_
   simp (disch:=first | omega | decide +kernel) only [go_sem,Qa,Qb,Qc,Qd,Qe,↓reduceIte,reduceCtorEq,Qf,Qg,Qh]
   (repeat' (first | ((first | (refine gsel_split (fun q' => ?_) (fun q' => ?_)<;>(have h':=q')<;>(try simp only [za1,za2,Ba,Bb,za3,ne_eq,za4,za5,za6,Ia,Ib,Ic,Ie,Da,Bc,Bh,Be,za7,za8] at h')<;>try (exfalso; omega)) | (have q':=trivial; first | refine callX_new (c1) rfl (by decide) ?_ | refine callY_new (c1) rfl ?_ | refine hE _ _ ret_ne ?_ | refine hE _ _ exit_ne ?_))<;>(try simp (disch:=first | omega | decide +kernel) only [q',go_sem,Qa,Qb,Qc,Qd,Qe,↓reduceIte,reduceCtorEq,Qf,Qg,Qh])<;>clear q') | refine hN _ ?_ ?_ Wk.kk | with_reducible refine And.intro ?_ ?_ | with_reducible omega | exact ok_ints | exact cells_ints | exact no_mem | with_reducible exact plain_ints | (refine le_maxLen ?_; omega) | (refine za9 ⟨?_,?_⟩) | (simp only [go_sem,Qc,Qb,zb1,zb2,forall_eq]; done)))
 | true =>
   rw [hpr] at c1
   obtain ⟨hp,hu0,hu6⟩:=primeB_of hpr
   obtain ⟨u,rfl⟩:=Int.eq_ofNat_of_zero_le hu0
   have c2 : Ctr Tryd.prog 66 [D.ring p u,D.tms a] false (.d (.bool (isT p (nV u) a))) []:=is_ok hp (by omega) (by omega)
   generalize isT p (nV (u : Int)) a=t at *
   refine Ctr.of (n:=21) (rs:=[.tmp 6]) Tryd.func14 rfl rfl Tryd.ntmps14 rfl rfl (by kernel_rfl) Tryd.checked.mixed ?_
   simp (disch:=first | omega | decide +kernel) only [go_sem,Qa,Qb,Qc,Qd,Qe,↓reduceIte,reduceCtorEq,Qf,Qg,Qh]
   (repeat' (first | ((first | (refine gsel_split (fun q' => ?_) (fun q' => ?_)<;>(have h':=q')<;>(try simp only [za1,za2,Ba,Bb,za3,ne_eq,za4,za5,za6,Ia,Ib,Ic,Ie,Da,Bc,Bh,Be,za7,za8] at h')<;>try (exfalso; omega)) | (have q':=trivial; first | refine callX_new (c1) rfl (by decide) ?_ | refine callY_new (c1) rfl ?_ | refine callX_new (c2) rfl (by decide) ?_ | refine callY_new (c2) rfl ?_ | refine hE _ _ ret_ne ?_ | refine hE _ _ exit_ne ?_))<;>(try simp (disch:=first | omega | decide +kernel) only [q',go_sem,Qa,Qb,Qc,Qd,Qe,↓reduceIte,reduceCtorEq,Qf,Qg,Qh])<;>clear q') | refine hN _ ?_ ?_ Wk.kk | with_reducible refine And.intro ?_ ?_ | with_reducible omega | exact ok_ints | exact cells_ints | exact no_mem | with_reducible exact plain_ints | (refine le_maxLen ?_; omega) | (refine za9 ⟨?_,?_⟩) | (simp only [go_sem,Qc,Qb,zb1,zb2,forall_eq]; done)))
section
variable {p : Int} {u : Nat} (hp : 1 < p∧p<=5) (hu : u<=6)
include hp hu
set_option maxHeartbeats 4000000 in
theorem denseG_ok {a : List (Int × Int)} (hl : a.length<=4294967296) (hT : Tms p (2 ^ u) a) : Ctr Tryd.prog 81 [D.ring p u,D.tms a] false (.sl 0) [(0,.arr 3 1 ((sumP p (2 ^ u) a).map (.int .i64)))]:=by
 have h2:=pow_le6 hu
 have hp0 : ¬ p=0:=by omega
 have c1:=zero_ok hp hu
 have hz:=Vec.zero (p:=p) (by omega) (2 ^ u)
 generalize hG : sumP p (2 ^ u) a=G
 generalize 2 ^ u=n at *
 refine Ctr.of (n:=33) (rs:=[.tmp 4]) Tryd.func81 rfl rfl Tryd.ntmps81 rfl rfl (by kernel_rfl) Tryd.checked.mixed ?_
 simp (disch:=first | omega | decide +kernel) only [go_sem,Qa,Qb,Qc,Qd,Qe,↓reduceIte,reduceCtorEq,Qf,Qg,Qh]
 (repeat' (first | ((first | (refine gsel_split (fun q' => ?_) (fun q' => ?_)<;>(have h':=q')<;>(try simp only [za1,za2,Ba,Bb,za3,ne_eq,za4,za5,za6,Ia,Ib,Ic,Ie,Da,Bc,Bh,Be,za7,za8] at h')<;>try (exfalso; omega)) | (have q':=trivial; first | refine callX_new (c1) rfl (by decide) ?_ | refine callY_new (c1) rfl ?_ | refine hE _ _ ret_ne ?_ | refine hE _ _ exit_ne ?_))<;>(try simp (disch:=first | omega | decide +kernel) only [q',go_sem,Qa,Qb,Qc,Qd,Qe,↓reduceIte,reduceCtorEq,Qf,Qg,Qh])<;>clear q') | refine hN _ ?_ ?_ Wk.kk | with_reducible refine And.intro ?_ ?_ | with_reducible omega | exact ok_ints | exact cells_ints | exact no_mem | with_reducible exact plain_ints | (refine le_maxLen ?_; omega) | (refine za9 ⟨?_,?_⟩) | (simp only [go_sem,Qc,Qb,zb1,zb2,forall_eq]; done)))
 refine Ok.loopN [31,30,29,28,27,26,25,24,23,22,21,20,19,18,17,16,15,14,13,12,9,8,7,6,3,1,0] (fun i _ => [(12,.d (.int .i64 (i : Nat)))]) (fun _ (v : List Int) => [(1000000,.arr 3 1 (List.map (D.int .i64) v))]) a.length
  (fun i v => v=(a.take i).foldl (fun v t => stP p v t.1.toNat t.2) (List.replicate n 0)∧Vec p n v) (List.replicate n 0) ⟨rfl,hz⟩ (Wk.kk) ?_
 rintro R i v hN hE hi ⟨hv,hvv⟩
 by_cases hlt : i < a.length
 . obtain ⟨k,hk,hk1,hc⟩:=mem_tms hT hlt
   have hs : (a.take (i + 1)).foldl (fun v t => stP p v t.1.toNat t.2) (List.replicate n 0)=v.set k ((v.getD k 0 + (a.getD i (0,0)).2) % p):=by
    rw [take_succ (0,0) a i hlt,List.foldl_append,← hv,List.foldl_cons,List.foldl_nil,stP,hk1,Int.toNat_natCast]
   have hes:=el_tm hlt
   rw [hk1] at hes
   have hvk:=hvv.2 k
   have hvl:=hvv.1
   have hvs : Vec p n (v.set k ((v.getD k 0 + (a.getD i (0,0)).2) % p)):=hvv.st (by omega) k _
   have em : (v.getD k 0 + (a.getD i (0,0)).2).tmod p=(v.getD k 0 + (a.getD i (0,0)).2) % p:=Int.tmod_eq_emod_of_nonneg (by omega)
   clear hv
   generalize (a.getD i (0,0)).2=c at *
   simp (disch:=first | omega | decide +kernel) only [hes,em,go_sem,Qa,Qb,Qc,Qd,Qe,↓reduceIte,reduceCtorEq,Qf,Qg,Qh]
   (repeat' (first | ((first | (refine gsel_split (fun q' => ?_) (fun q' => ?_)<;>(have h':=q')<;>(try simp only [za1,za2,Ba,Bb,za3,ne_eq,za4,za5,za6,Ia,Ib,Ic,Ie,Da,Bc,Bh,Be,za7,za8] at h')<;>try (exfalso; omega)) | (have q':=trivial; first | refine hE _ _ ret_ne ?_ | refine hE _ _ exit_ne ?_))<;>(try simp (disch:=first | omega | decide +kernel) only [q',hes,em,go_sem,Qa,Qb,Qc,Qd,Qe,↓reduceIte,reduceCtorEq,Qf,Qg,Qh])<;>clear q') | refine hN _ ?_ ?_ Wk.kk | with_reducible refine And.intro ?_ ?_ | with_reducible omega | exact ok_ints | exact cells_ints | exact no_mem | with_reducible exact plain_ints | (refine le_maxLen ?_; omega) | (refine za9 ⟨?_,?_⟩) | (simp only [go_sem,Qc,Qb,zb1,zb2,forall_eq]; done)))
   all_goals (first | omega | (refine hN _ _ hlt ⟨hs.symm,hvs⟩ (by refine Wk.auto ?_ ?_<;>simp [extraK,lk,killL,St.kill,wipeO,wipeS,AV.has,AV.hasL,AO.wipe,List.map_set,updSt,insL,dropS,ins,]); done))
 . obtain rfl : i=a.length:=by omega
   rw [List.take_length] at hv
   have hv2 : v=G:=by rw [hv,← hG]; rfl
   subst hv2
   simp (disch:=first | omega | decide +kernel) only [go_sem,Qa,Qb,Qc,Qd,Qe,↓reduceIte,reduceCtorEq,Qf,Qg,Qh]
   (repeat' (first | ((first | (refine gsel_split (fun q' => ?_) (fun q' => ?_)<;>(have h':=q')<;>(try simp only [za1,za2,Ba,Bb,za3,ne_eq,za4,za5,za6,Ia,Ib,Ic,Ie,Da,Bc,Bh,Be,za7,za8] at h')<;>try (exfalso; omega)) | (have q':=trivial; first | refine hE _ _ ret_ne ?_ | refine hE _ _ exit_ne ?_))<;>(try simp (disch:=first | omega | decide +kernel) only [q',go_sem,Qa,Qb,Qc,Qd,Qe,↓reduceIte,reduceCtorEq,Qf,Qg,Qh])<;>clear q') | refine hN _ ?_ ?_ Wk.kk | with_reducible refine And.intro ?_ ?_ | with_reducible omega | exact ok_ints | exact cells_ints | exact no_mem | with_reducible exact plain_ints | (refine le_maxLen ?_; omega) | (refine za9 ⟨?_,?_⟩) | (simp only [go_sem,Qc,Qb,zb1,zb2,forall_eq]; done)))
   all_goals (first | omega | exact ret_sl 1000000 rfl rfl plain_ints)
end
def badT (p n : Int) (t : Int × Int) : Bool:=!(decide (0<=t.1) && decide (t.1<=n - 1)) || !(decide (0<=t.2) && decide (t.2<=p - 1))
theorem bad_ok {u : Nat} (hu : u<=6) (p : Int) (hp : 1 < p∧p<=5) (t : Int × Int) : Ctr Tryd.prog 79 [D.tm t,.ptr (.int .i64 u),.ptr (.int .i64 p)] false (.d (.bool (badT p ((2 ^ u : Nat) : Int) t))) []:=by
 have c1:=bitsOk_ok hu t.1
 have c2:=within_ok t.2 0 (p - 1)
 have hw : IntKind.wrap .i64 (p - 1)=p - 1:=wrap_of (by omega)
 unfold badT
 generalize (decide (0<=t.1) && decide (t.1<=((2 ^ u : Nat) : Int) - 1))=b1 at *
 generalize (decide (0<=t.2) && decide (t.2<=p - 1))=b2 at *
 cases b1<;>cases b2
 all_goals
  refine Ctr.of (n:=18) (rs:=[.tmp 4]) Tryd.func79 rfl rfl Tryd.ntmps79 rfl rfl (by kernel_rfl) Tryd.checked.mixed ?_
  simp (disch:=first | omega | decide +kernel) only [hw,go_sem,Qa,Qb,Qc,Qd,Qe,↓reduceIte,reduceCtorEq,Qf,Qg,Qh]
  (repeat' (first | ((first | (refine gsel_split (fun q' => ?_) (fun q' => ?_)<;>(have h':=q')<;>(try simp only [za1,za2,Ba,Bb,za3,ne_eq,za4,za5,za6,Ia,Ib,Ic,Ie,Da,Bc,Bh,Be,za7,za8] at h')<;>try (exfalso; omega)) | (have q':=trivial; first | refine callX_new (c1) rfl (by decide) ?_ | refine callY_new (c1) rfl ?_ | refine callX_new (c2) rfl (by decide) ?_ | refine callY_new (c2) rfl ?_ | refine hE _ _ ret_ne ?_ | refine hE _ _ exit_ne ?_))<;>(try simp (disch:=first | omega | decide +kernel) only [q',hw,go_sem,Qa,Qb,Qc,Qd,Qe,↓reduceIte,reduceCtorEq,Qf,Qg,Qh])<;>clear q') | refine hN _ ?_ ?_ Wk.kk | with_reducible refine And.intro ?_ ?_ | with_reducible omega | exact ok_ints | exact cells_ints | exact no_mem | with_reducible exact plain_ints | (refine le_maxLen ?_; omega) | (refine za9 ⟨?_,?_⟩) | (simp only [go_sem,Qc,Qb,zb1,zb2,forall_eq]; done)))
 all_goals trace_state
def idxT (p : (Int × Int)->Bool) (l : List (Int × Int)) : Int:=match l.findIdx? p with | some i => (i : Int) | none => -1
theorem idxT_some {p : (Int × Int)->Bool} {l : List (Int × Int)} {i : Nat} (h : i < l.length) (h1 : p (l.getD i (0,0))=true) (h2 : ∀ j,j < i->p (l.getD j (0,0))=false) : idxT p l=i:=by
 have e : l.findIdx? p=some i:=by
  rw [List.findIdx?_eq_some_iff_getElem]
  refine ⟨h,by simpa [List.getD_eq_getElem?_getD,h] using h1,fun j hj => ?_⟩
  have:=h2 j hj
  simpa [List.getD_eq_getElem?_getD,show j < l.length by omega] using this
 unfold idxT; rw [e]
theorem idxT_none {p : (Int × Int)->Bool} {l : List (Int × Int)} (h2 : ∀ j,j < l.length->p (l.getD j (0,0))=false) : idxT p l=-1:=by
 have e : l.findIdx? p=none:=by
  rw [List.findIdx?_eq_none_iff]
  intro x hx
  obtain ⟨j,hj,rfl⟩:=mem_getD (0,0) hx
  exact h2 j hj
 unfold idxT; rw [e]
theorem idxT_ge (p : (Int × Int)->Bool) (l : List (Int × Int)) : decide (0<=idxT p l)=l.any p:=by
 unfold idxT
 cases h : l.findIdx? p with
 | some i =>
   have:=List.findIdx?_eq_some_iff_getElem.1 h
   obtain ⟨h1,h2,_⟩:=this
   rw [List.any_eq_true.2 ⟨_,List.getElem_mem h1,h2⟩]
   simp
 | none =>
   rw [List.findIdx?_eq_none_iff] at h
   rw [List.any_eq_false.2 fun x hx => by rw [h x hx]; simp]
   simp
theorem indexFuncT_ok (l : List (Int × Int)) (g : FuncId) (c c' : D) (p : (Int × Int)->Bool) (hl : l.length<=4294967296) (hp : ∀ i,i < l.length->Ctr Tryd.prog g [D.tm (l.getD i (0,0)),c,c'] false (.d (.bool (p (l.getD i (0,0))))) []) :
 Ctr Tryd.prog 135 [D.tms l,.fn (.func g) [] [c,c']] false (.d (.int .i64 (idxT p l))) []:=by
 refine Ctr.of (n:=19) (rs:=[.tmp 4]) Tryd.func135 rfl rfl Tryd.ntmps135 rfl rfl (by kernel_rfl) Tryd.checked.mixed ?_
 simp (disch:=first | omega | decide +kernel) only [go_sem,Qa,Qb,Qc,Qd,Qe,↓reduceIte,reduceCtorEq,Qf,Qg,Qh]
 refine Ok.loopC [18,17,16,15,14,13,12,11,10,9,8,6,5,4,3,2] (fun i => [(8,.d (.int .i64 (i : Nat)))]) l.length (fun i => ∀ j,j < i->p (l.getD j (0,0))=false) (by simp) (Wk.kk) ?_
 intro R i hN hE hi hI
 by_cases hlt : i < l.length
 . have el1:=el_tm hlt
   have c1:=hp i hlt
   cases hpi : p (l.getD i (0,0)) with
   | true =>
     rw [hpi] at c1
     simp (disch:=first | omega | decide +kernel) only [el1,List.length_map,go_sem,Qa,Qb,Qc,Qd,Qe,↓reduceIte,reduceCtorEq,Qf,Qg,Qh]
     (repeat' (first | ((first | (refine gsel_split (fun q' => ?_) (fun q' => ?_)<;>(have h':=q')<;>(try simp only [za1,za2,Ba,Bb,za3,ne_eq,za4,za5,za6,Ia,Ib,Ic,Ie,Da,Bc,Bh,Be,za7,za8] at h')<;>try (exfalso; omega)) | (have q':=trivial; first | refine callX_new (c1) rfl (by decide) ?_ | refine callY_new (c1) rfl ?_ | refine hE _ _ ret_ne ?_ | refine hE _ _ exit_ne ?_))<;>(try simp (disch:=first | omega | decide +kernel) only [q',el1,List.length_map,go_sem,Qa,Qb,Qc,Qd,Qe,↓reduceIte,reduceCtorEq,Qf,Qg,Qh])<;>clear q') | refine hN _ ?_ ?_ Wk.kk | with_reducible refine And.intro ?_ ?_ | with_reducible omega | (refine le_maxLen ?_; omega) | (refine za9 ⟨?_,?_⟩)))
     all_goals (first | (rw [idxT_some hlt hpi hI]; done))
   | false =>
     rw [hpi] at c1
     simp (disch:=first | omega | decide +kernel) only [el1,List.length_map,go_sem,Qa,Qb,Qc,Qd,Qe,↓reduceIte,reduceCtorEq,Qf,Qg,Qh]
     (repeat' (first | ((first | (refine gsel_split (fun q' => ?_) (fun q' => ?_)<;>(have h':=q')<;>(try simp only [za1,za2,Ba,Bb,za3,ne_eq,za4,za5,za6,Ia,Ib,Ic,Ie,Da,Bc,Bh,Be,za7,za8] at h')<;>try (exfalso; omega)) | (have q':=trivial; first | refine callX_new (c1) rfl (by decide) ?_ | refine callY_new (c1) rfl ?_ | refine hE _ _ ret_ne ?_ | refine hE _ _ exit_ne ?_))<;>(try simp (disch:=first | omega | decide +kernel) only [q',el1,List.length_map,go_sem,Qa,Qb,Qc,Qd,Qe,↓reduceIte,reduceCtorEq,Qf,Qg,Qh])<;>clear q') | refine hN _ ?_ ?_ Wk.kk | with_reducible refine And.intro ?_ ?_ | with_reducible omega | (refine le_maxLen ?_; omega) | (refine za9 ⟨?_,?_⟩)))
     all_goals (first | exact all_succ (P:=fun j => p (l.getD j (0,0))=false) hI hpi)
 . obtain rfl : i=l.length:=by omega
   simp (disch:=first | omega | decide +kernel) only [List.length_map,go_sem,Qa,Qb,Qc,Qd,Qe,↓reduceIte,reduceCtorEq,Qf,Qg,Qh]
   (repeat' (first | ((first | (refine gsel_split (fun q' => ?_) (fun q' => ?_)<;>(have h':=q')<;>(try simp only [za1,za2,Ba,Bb,za3,ne_eq,za4,za5,za6,Ia,Ib,Ic,Ie,Da,Bc,Bh,Be,za7,za8] at h')<;>try (exfalso; omega)) | (have q':=trivial; first | refine hE _ _ ret_ne ?_ | refine hE _ _ exit_ne ?_))<;>(try simp (disch:=first | omega | decide +kernel) only [q',List.length_map,go_sem,Qa,Qb,Qc,Qd,Qe,↓reduceIte,reduceCtorEq,Qf,Qg,Qh])<;>clear q') | refine hN _ ?_ ?_ Wk.kk | with_reducible refine And.intro ?_ ?_ | with_reducible omega | (refine le_maxLen ?_; omega) | (refine za9 ⟨?_,?_⟩)))
   rw [idxT_none hI]
theorem containsFuncT_ok (l : List (Int × Int)) (g : FuncId) (c c' : D) (p : (Int × Int)->Bool) (hl : l.length<=4294967296) (hp : ∀ i,i < l.length->Ctr Tryd.prog g [D.tm (l.getD i (0,0)),c,c'] false (.d (.bool (p (l.getD i (0,0))))) []) :
 Ctr Tryd.prog 78 [D.tms l,.fn (.func g) [] [c,c']] false (.d (.bool (l.any p))) []:=by
 have c1:=indexFuncT_ok l g c c' p hl hp
 refine Ctr.of (n:=9) (rs:=[.tmp 4]) Tryd.func78 rfl rfl Tryd.ntmps78 rfl rfl (by kernel_rfl) Tryd.checked.mixed ?_
 simp (disch:=first | omega | decide +kernel) only [go_sem,Qa,Qb,Qc,Qd,Qe,↓reduceIte,reduceCtorEq,Qf,Qg,Qh]
 (repeat' (first | ((first | (refine gsel_split (fun q' => ?_) (fun q' => ?_)<;>(have h':=q')<;>(try simp only [za1,za2,Ba,Bb,za3,ne_eq,za4,za5,za6,Ia,Ib,Ic,Ie,Da,Bc,Bh,Be,za7,za8] at h')<;>try (exfalso; omega)) | (have q':=trivial; first | refine callX_new (c1) rfl (by decide) ?_ | refine callY_new (c1) rfl ?_ | refine hE _ _ ret_ne ?_ | refine hE _ _ exit_ne ?_))<;>(try simp (disch:=first | omega | decide +kernel) only [q',go_sem,Qa,Qb,Qc,Qd,Qe,↓reduceIte,reduceCtorEq,Qf,Qg,Qh])<;>clear q') | refine hN _ ?_ ?_ Wk.kk | with_reducible refine And.intro ?_ ?_ | with_reducible omega | (refine le_maxLen ?_; omega) | (refine za9 ⟨?_,?_⟩)))
 rw [← idxT_ge]
def okPO (p v : Int) (ts : List (Int × Int)) : Bool:=primeB p v && (decide (ts.length<=100) && !(ts.any (badT p (nV v : Nat))))
def polyR (p v : Int) (ts : List (Int × Int)) : List (Int × Int):=if okPO p v ts then spT (sumP p (nV v) ts) else []
theorem tms_of {p : Int} {n : Nat} {ts : List (Int × Int)} (h : ts.any (badT p (n : Nat))=false) : Tms p n ts:=fun t ht => by
 have:=List.any_eq_false.1 h t ht
 simp only [badT,Bh,Ba,Bool.and_eq_false_iff,decide_eq_false_iff_not,not_or,not_and] at this
 omega
theorem iPolyOf_ok (p v : Int) (ts : List (Int × Int)) (hl : ts.length<=1000) :
 Ctr Tryd.prog 20 [.int .i64 p,.int .i64 v,D.tms ts] true (.tup [.d (D.tms (polyR p v ts)),.d (.bool (okPO p v ts))]) []:=by
 have c1:=Ctr.tupN (ys:=[_,_]) (ringOf_ok p v)
 unfold polyR okPO
 cases hpr : primeB p v with
 | false =>
   rw [hpr] at c1
   simp only [Bool.false_and,Bool.false_eq_true,if_false]
   refine Ctr.of (n:=32) (rs:=[.tmp 6,.tmp 7]) Tryd.func20 rfl rfl Tryd.ntmps20 rfl rfl (by kernel_rfl) Tryd.checked.mixed ?_
   simp (disch:=first | omega | decide +kernel) only [go_sem,Qa,Qb,Qc,Qd,Qe,↓reduceIte,reduceCtorEq,Qf,Qg,Qh]
   (repeat' (first | ((first | (refine gsel_split (fun q' => ?_) (fun q' => ?_)<;>(have h':=q')<;>(try simp only [za1,za2,Ba,Bb,za3,ne_eq,za4,za5,za6,Ia,Ib,Ic,Ie,Da,Bc,Bh,Be,za7,za8] at h')<;>try (exfalso; omega)) | (have q':=trivial; first | refine callX_new (c1) rfl (by decide) ?_ | refine callY_new (c1) rfl ?_ | refine hE _ _ ret_ne ?_ | refine hE _ _ exit_ne ?_))<;>(try simp (disch:=first | omega | decide +kernel) only [q',go_sem,Qa,Qb,Qc,Qd,Qe,↓reduceIte,reduceCtorEq,Qf,Qg,Qh])<;>clear q') | refine hN _ ?_ ?_ Wk.kk | with_reducible refine And.intro ?_ ?_ | with_reducible omega | exact ok_ints | exact cells_ints | exact no_mem | with_reducible exact plain_ints | (refine le_maxLen ?_; omega) | (refine za9 ⟨?_,?_⟩) | (simp only [go_sem,Qc,Qb,zb1,zb2,forall_eq]; done)))
   all_goals (first | exact ret_s2 [6] rfl rfl)
 | true =>
   rw [hpr] at c1
   obtain ⟨hp,hu0,hu6⟩:=primeB_of hpr
   obtain ⟨u,rfl⟩:=Int.eq_ofNat_of_zero_le hu0
   by_cases h100 : ts.length<=100
   . have c2:=containsFuncT_ok ts 79 (.ptr (.int .i64 u)) (.ptr (.int .i64 p)) (badT p ((2 ^ u : Nat) : Int)) (by omega) fun i _ => bad_ok (by omega) p hp _
     have e : nV (u : Int)=2 ^ u:=rfl
     rw [decide_eq_true h100,e]
     cases hb : ts.any (badT p ((2 ^ u : Nat) : Int)) with
     | true =>
       rw [hb] at c2
       simp only [Bool.not_true,Bool.and_false,Bool.false_eq_true,if_false]
       refine Ctr.of (n:=32) (rs:=[.tmp 6,.tmp 7]) Tryd.func20 rfl rfl Tryd.ntmps20 rfl rfl (by kernel_rfl) Tryd.checked.mixed ?_
       simp (disch:=first | omega | decide +kernel) only [go_sem,Qa,Qb,Qc,Qd,Qe,↓reduceIte,reduceCtorEq,Qf,Qg,Qh]
       (repeat' (first | ((first | (refine gsel_split (fun q' => ?_) (fun q' => ?_)<;>(have h':=q')<;>(try simp only [za1,za2,Ba,Bb,za3,ne_eq,za4,za5,za6,Ia,Ib,Ic,Ie,Da,Bc,Bh,Be,za7,za8] at h')<;>try (exfalso; omega)) | (have q':=trivial; first | refine callX_new (c1) rfl (by decide) ?_ | refine callY_new (c1) rfl ?_ | refine callX_new (c2) rfl (by decide) ?_ | refine callY_new (c2) rfl ?_ | refine hE _ _ ret_ne ?_ | refine hE _ _ exit_ne ?_))<;>(try simp (disch:=first | omega | decide +kernel) only [q',go_sem,Qa,Qb,Qc,Qd,Qe,↓reduceIte,reduceCtorEq,Qf,Qg,Qh])<;>clear q') | refine hN _ ?_ ?_ Wk.kk | with_reducible refine And.intro ?_ ?_ | with_reducible omega | exact ok_ints | exact cells_ints | exact no_mem | with_reducible exact plain_ints | (refine le_maxLen ?_; omega) | (refine za9 ⟨?_,?_⟩) | (simp only [go_sem,Qc,Qb,zb1,zb2,forall_eq]; done)))
       all_goals (first | exact ret_s2 [6] rfl rfl)
     | false =>
       rw [hb] at c2
       have hT:=tms_of hb
       have c3:=Ctr.data1 (denseG_ok hp (u:=u) (by omega) (a:=ts) (by omega) hT)
       have h6:=pow_le6 (u:=u) (by omega)
       have c4:=termsP_ok (v:=sumP p (2 ^ u) ts) (by have:=(Vec.sumP (p:=p) (by omega) (2 ^ u) ts).1; omega)
       unfold D.spP at c4
       simp only [D.ints] at c3 c4
       simp only [Bool.not_false,Bool.and_true,if_true]
       generalize spT (sumP p (2 ^ u) ts)=T at *
       generalize sumP p (2 ^ u) ts=m at *
       refine Ctr.of (n:=32) (rs:=[.tmp 6,.tmp 7]) Tryd.func20 rfl rfl Tryd.ntmps20 rfl rfl (by kernel_rfl) Tryd.checked.mixed ?_
       simp (disch:=first | omega | decide +kernel) only [go_sem,Qa,Qb,Qc,Qd,Qe,↓reduceIte,reduceCtorEq,Qf,Qg,Qh]
       (repeat' (first | ((first | (refine gsel_split (fun q' => ?_) (fun q' => ?_)<;>(have h':=q')<;>(try simp only [za1,za2,Ba,Bb,za3,ne_eq,za4,za5,za6,Ia,Ib,Ic,Ie,Da,Bc,Bh,Be,za7,za8] at h')<;>try (exfalso; omega)) | (have q':=trivial; first | refine callX_new (c1) rfl (by decide) ?_ | refine callY_new (c1) rfl ?_ | refine callX_new (c2) rfl (by decide) ?_ | refine callY_new (c2) rfl ?_ | refine callX_shared (c3) rfl (by decide) ?_ | refine callY_shared (c3) rfl ?_ | refine callX_shared (c4) rfl (by decide) ?_ | refine callY_shared (c4) rfl ?_ | refine hE _ _ ret_ne ?_ | refine hE _ _ exit_ne ?_))<;>(try simp (disch:=first | omega | decide +kernel) only [q',go_sem,Qa,Qb,Qc,Qd,Qe,↓reduceIte,reduceCtorEq,Qf,Qg,Qh])<;>clear q') | refine hN _ ?_ ?_ Wk.kk | with_reducible refine And.intro ?_ ?_ | with_reducible omega | exact ok_ints | exact cells_ints | exact no_mem | with_reducible exact plain_ints | (refine le_maxLen ?_; omega) | (refine za9 ⟨?_,?_⟩) | (simp only [go_sem,Qc,Qb,zb1,zb2,forall_eq]; done)))
       all_goals (first | exact ret_s2 [] rfl rfl)
   . rw [decide_eq_false h100]
     simp only [Bool.false_and,Bool.and_false,Bool.false_eq_true,if_false]
     refine Ctr.of (n:=32) (rs:=[.tmp 6,.tmp 7]) Tryd.func20 rfl rfl Tryd.ntmps20 rfl rfl (by kernel_rfl) Tryd.checked.mixed ?_
     simp (disch:=first | omega | decide +kernel) only [go_sem,Qa,Qb,Qc,Qd,Qe,↓reduceIte,reduceCtorEq,Qf,Qg,Qh]
     (repeat' (first | ((first | (refine gsel_split (fun q' => ?_) (fun q' => ?_)<;>(have h':=q')<;>(try simp only [za1,za2,Ba,Bb,za3,ne_eq,za4,za5,za6,Ia,Ib,Ic,Ie,Da,Bc,Bh,Be,za7,za8] at h')<;>try (exfalso; omega)) | (have q':=trivial; first | refine callX_new (c1) rfl (by decide) ?_ | refine callY_new (c1) rfl ?_ | refine hE _ _ ret_ne ?_ | refine hE _ _ exit_ne ?_))<;>(try simp (disch:=first | omega | decide +kernel) only [q',go_sem,Qa,Qb,Qc,Qd,Qe,↓reduceIte,reduceCtorEq,Qf,Qg,Qh])<;>clear q') | refine hN _ ?_ ?_ Wk.kk | with_reducible refine And.intro ?_ ?_ | with_reducible omega | exact ok_ints | exact cells_ints | exact no_mem | with_reducible exact plain_ints | (refine le_maxLen ?_; omega) | (refine za9 ⟨?_,?_⟩) | (simp only [go_sem,Qc,Qb,zb1,zb2,forall_eq]; done)))
     all_goals (first | exact ret_s2 [6] rfl rfl)
end Abs.Y
