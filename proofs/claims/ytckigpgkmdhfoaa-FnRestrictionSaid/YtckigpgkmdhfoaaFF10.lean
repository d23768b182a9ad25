/- What functions of this program compute, over plain data. No condition. -/
import Derived.Test.YtckigpgkmdhfoaaFF8
set_option linter.all false
namespace Abs.Y
open Go Go.Proofs Abs
open Nat renaming reduceEqDiff -> Qa, reduceLT -> Qb, reduceAdd -> Qc, reduceMul -> Qd, reduceSub -> Qe, reduceLeDiff -> Qf, reduceSubDiff -> Qg, reduceBEq -> Qh
open Bool renaming not_eq_true' -> Ba, not_eq_false' -> Bb, and_eq_true -> Bc, or_eq_true -> Bd, or_eq_false_iff -> Be
open Int renaming ofNat_lt -> Ia, ofNat_le -> Ib, not_lt -> Ic, not_le -> Ie
open Decidable renaming not_not -> Da
set_option maxRecDepth 100000

theorem isAssignment_ok (v : Int) (c : List Int) (hl : c.length<=4294967296) : Ctr Try.prog 43 [.int .i64 v,.ints c] false (.d (.bool (okClause v c))) []:=by
 have c1:=isClause_ok v c hl
 refine Ctr.of (n:=8) (rs:=[.tmp 4]) Try.func43 rfl rfl Try.ntmps43 rfl rfl (by kernel_rfl) Try.checked.mixed ?_
 simp (disch:=first | omega | decide +kernel) only [D.ints,go_sem,Qa,Qb,Qc,Qd,Qe,↓reduceIte,reduceCtorEq,Qf,Qg,Qh]
 (repeat' (first | ((first | (refine gsel_split (fun q' => ?_) (fun q' => ?_)<;>(have h':=q')<;>(try simp only [za1,za2,Ba,Bb,za3,ne_eq,za4,za5,za6,Ia,Ib,Ic,Ie,Da,Bc,Bd,Be,za7,za8] at h')<;>try (exfalso; omega)) | (have q':=trivial; first | refine callX_new (c1) rfl (by decide) ?_ | refine callY_new (c1) rfl ?_ | refine hE _ _ ret_ne ?_ | refine hE _ _ exit_ne ?_))<;>(try simp (disch:=first | omega | decide +kernel) only [q',D.ints,go_sem,Qa,Qb,Qc,Qd,Qe,↓reduceIte,reduceCtorEq,Qf,Qg,Qh])<;>clear q') | refine hN _ ?_ ?_ Wk.kk | with_reducible refine And.intro ?_ ?_ | with_reducible omega | exact ok_ints | exact cells_ints | exact no_mem | with_reducible exact plain_ints | (refine le_maxLen ?_; omega) | (refine za9 ⟨?_,?_⟩) | (simp only [go_sem,Qc,Qb,zb1,zb2,forall_eq]; done)))
theorem indexFuncZ_ok (xs : List Int) (g : FuncId) (c : D) (p : Int->Bool) (hl : xs.length<=4294967296) (hp : ∀ i,i < xs.length->Ctr Try.prog g [.int .i64 (xs.getD i 0),c] false (.d (.bool (p (xs.getD i 0)))) []) :
 Ctr Try.prog 158 [.ints xs,.fn (.func g) [] [c]] false (.d (.int .i64 (idxG p xs))) []:=by
 refine Ctr.of (n:=19) (rs:=[.tmp 4]) Try.func158 rfl rfl Try.ntmps158 rfl rfl (by kernel_rfl) Try.checked.mixed ?_
 simp (disch:=first | omega | decide +kernel) only [D.ints,go_sem,Qa,Qb,Qc,Qd,Qe,↓reduceIte,reduceCtorEq,Qf,Qg,Qh]
 refine Ok.loopC [18,17,16,15,14,13,12,11,10,9,8,6,5,4,3,2] (fun i => [(8,.d (.int .i64 (i : Nat)))]) xs.length (fun i => ∀ j,j < i->p (xs.getD j 0)=false) (by simp) (Wk.kk) ?_
 intro R i hN hE hi hI
 by_cases hlt : i < xs.length
 . have c1:=hp i hlt
   simp (disch:=first | omega | decide +kernel) only [go_sem,Qa,Qb,Qc,Qd,Qe,↓reduceIte,reduceCtorEq,Qf,Qg,Qh]
   (repeat' (first | ((first | (refine gsel_split (fun q' => ?_) (fun q' => ?_)<;>(have h':=q')<;>(try simp only [za1,za2,Ba,Bb,za3,ne_eq,za4,za5,za6,Ia,Ib,Ic,Ie,Da,Bc,Bd,Be,za7,za8] at h')) | (have q':=trivial; first | refine callX_new (c1) rfl (by decide) ?_ | refine callY_new (c1) rfl ?_ | refine hE _ _ ret_ne ?_ | refine hE _ _ exit_ne ?_))<;>(try simp (disch:=first | omega | decide +kernel) only [q',go_sem,Qa,Qb,Qc,Qd,Qe,↓reduceIte,reduceCtorEq,Qf,Qg,Qh])<;>clear q') | refine hN _ ?_ ?_ Wk.kk | with_reducible refine And.intro ?_ ?_ | with_reducible omega | exact ok_ints | exact cells_ints | exact no_mem | with_reducible exact plain_ints | (refine le_maxLen ?_; omega) | (refine za9 ⟨?_,?_⟩) | (simp only [go_sem,Qc,Qb,zb1,zb2,forall_eq]; done)))
   . rw [idxG_some hlt h' hI]
   . exact all_succ hI h'
 . simp (disch:=first | omega | decide +kernel) only [go_sem,Qa,Qb,Qc,Qd,Qe,↓reduceIte,reduceCtorEq,Qf,Qg,Qh]
   (repeat' (first | ((first | (refine gsel_split (fun q' => ?_) (fun q' => ?_)<;>(have h':=q')<;>(try simp only [za1,za2,Ba,Bb,za3,ne_eq,za4,za5,za6,Ia,Ib,Ic,Ie,Da,Bc,Bd,Be,za7,za8] at h')) | (have q':=trivial; first | refine hE _ _ ret_ne ?_ | refine hE _ _ exit_ne ?_))<;>(try simp (disch:=first | omega | decide +kernel) only [q',go_sem,Qa,Qb,Qc,Qd,Qe,↓reduceIte,reduceCtorEq,Qf,Qg,Qh])<;>clear q') | refine hN _ ?_ ?_ Wk.kk | with_reducible refine And.intro ?_ ?_ | with_reducible omega | exact ok_ints | exact cells_ints | exact no_mem | with_reducible exact plain_ints | (refine le_maxLen ?_; omega) | (refine za9 ⟨?_,?_⟩) | (simp only [go_sem,Qc,Qb,zb1,zb2,forall_eq]; done)))
   rw [idxG_none fun j hj => hI j (by omega)]
def keepZ (p : Int->Bool) (ps : List Int) (j : Nat) : List Int:=(ps.take j).filter fun q => !(p q)
theorem keepZ_succ {p : Int->Bool} {ps : List Int} {j : Nat} (h : j < ps.length) : keepZ p ps (j + 1)=if p (ps.getD j 0)=true then keepZ p ps j else keepZ p ps j++[ps.getD j 0]:=by
 unfold keepZ
 rw [take_succ 0 ps j h,List.filter_append]
 rw [List.filter_cons,List.filter_nil]
 cases p (ps.getD j 0)<;>simp
theorem keepZ_le {p : Int->Bool} {ps : List Int} {j : Nat} (h : j<=ps.length) : (keepZ p ps j).length<=j:=by
 have:=List.length_filter_le (fun q => !(p q)) (ps.take j)
 rw [List.length_take] at this
 unfold keepZ; omega
theorem keepZ_first {p : Int->Bool} {ps : List Int} {i : Nat} (h : ∀ j,j < i->p (ps.getD j 0)=false) : ∀ k,k<=i->k<=ps.length->keepZ p ps k=ps.take k
 | 0,_,_ => rfl
 | k + 1, hk, hl => by
   rw [keepZ_succ (by omega),h k (by omega),keepZ_first h k (by omega) (by omega),take_succ 0 ps k (by omega)]
   simp
set_option maxHeartbeats 8000000 in
theorem deleteI1_ok (ps : List Int) (g : FuncId) (c : D) (p : Int->Bool) (hl : ps.length<=1048576) (hp : ∀ q ∈ ps,Ctr Try.prog g [D.int .i64 q,c] false (.d (.bool (p q))) []) :
 CtrM Try.prog 138 [.sl 0,.fn (.func g) [.d c]] [(0,.arr 3 1 (ps.map (D.int .i64)))] [] true (.sl 0) [(0,.arr 3 1 ((ps.filter fun q => !(p q)).map (D.int .i64)))]:=by
 have c1:=indexFuncZ_ok ps g c p (by omega) fun i hi => hp _ (getD_mem hi)
 have hall : (ps.filter fun q => !(p q))=keepZ (p) ps ps.length:=by rw [keepZ,List.take_length]
 rw [hall]
 refine CtrR.eq ?_
 refine CtrR.ofO (n:=42) (rs:=[.tmp 4]) Try.func138 rfl rfl Try.ntmps138 rfl rfl (by kernel_rfl) Try.checked.mixed ?_; intro u
 refine Ok.weak Wk.cutOn ?_
 simp (disch:=first | omega | decide +kernel) only [ins,cutKey,go_sem,Qa,Qb,Qc,Qd,Qe,↓reduceIte,reduceCtorEq,Qf,Qg,Qh]
 rcases idxG_or (p:=p) (l:=ps) (0 : Int) with ⟨e1,e2⟩ | ⟨i,hi,e1,e2,e3⟩
 . rw [e1] at c1
   rw [keepZ_first (i:=ps.length) e2 _ (Nat.le_refl _) (Nat.le_refl _),List.take_length]
   refine Ok.go ?_
   simp (disch:=first | omega | decide +kernel) only [List.length_map,go_sem,Qa,Qb,Qc,Qd,Qe,↓reduceIte,reduceCtorEq,Qf,Qg,Qh]
   (repeat' (first | ((first | (refine gsel_split (fun q' => ?_) (fun q' => ?_)<;>(have h':=q')<;>(try simp only [za1,za2,Ba,Bb,za3,ne_eq,za4,za5,za6,Ia,Ib,Ic,Ie,Da,Bc,Bd,Be,za7,za8] at h')<;>try (exfalso; omega)) | (have q':=trivial; first | refine callX_new (c1) rfl (by decide) ?_ | refine callY_new (c1) rfl ?_ | refine hE _ _ ret_ne ?_ | refine hE _ _ exit_ne ?_))<;>(try simp (disch:=first | omega | decide +kernel) only [q',List.length_map,go_sem,Qa,Qb,Qc,Qd,Qe,↓reduceIte,reduceCtorEq,Qf,Qg,Qh])<;>clear q') | refine hN _ ?_ ?_ Wk.kk | with_reducible refine And.intro ?_ ?_ | with_reducible omega | (refine le_maxLen ?_; omega) | (refine za9 ⟨?_,?_⟩)))
   all_goals exact ⟨_,_,⟨rfl,rfl⟩,retM_s1x 0 rfl rfl fun _ => rfl⟩
 . rw [e1] at c1
   have hk0 : keepZ (p) ps (i + 1)=ps.take i:=by
    rw [keepZ_succ hi,if_pos e2,keepZ_first e3 _ (Nat.le_refl _) (by omega)]
   refine Ok.seq (Ok.go ?_)
   simp (disch:=first | omega | decide +kernel) only [go_sem,Qa,Qb,Qc,Qd,Qe,↓reduceIte,reduceCtorEq,Qf,Qg,Qh]
   refine Ok.seq (Ok.go ?_)
   simp (disch:=first | omega | decide +kernel) only [List.length_map,go_sem,Qa,Qb,Qc,Qd,Qe,↓reduceIte,reduceCtorEq,Qf,Qg,Qh]
   (repeat' (first | ((first | (refine gsel_split (fun q' => ?_) (fun q' => ?_)<;>(have h':=q')<;>(try simp only [za1,za2,Ba,Bb,za3,ne_eq,za4,za5,za6,Ia,Ib,Ic,Ie,Da,Bc,Bd,Be,za7,za8] at h')<;>try (exfalso; omega)) | (have q':=trivial; first | refine callX_new (c1) rfl (by decide) ?_ | refine callY_new (c1) rfl ?_ | refine hE _ _ ret_ne ?_ | refine hE _ _ exit_ne ?_))<;>(try simp (disch:=first | omega | decide +kernel) only [q',List.length_map,go_sem,Qa,Qb,Qc,Qd,Qe,↓reduceIte,reduceCtorEq,Qf,Qg,Qh])<;>clear q') | refine hN _ ?_ ?_ Wk.kk | with_reducible refine And.intro ?_ ?_ | with_reducible omega | (refine le_maxLen ?_; omega) | (refine za9 ⟨?_,?_⟩)))
   refine Ok.seq (Ok.go ?_)
   simp (disch:=first | omega | decide +kernel) only [List.length_map,go_sem,Qa,Qb,Qc,Qd,Qe,↓reduceIte,reduceCtorEq,Qf,Qg,Qh]
   (repeat' (first | ((first | (refine gsel_split (fun q' => ?_) (fun q' => ?_)<;>(have h':=q')<;>(try simp only [za1,za2,Ba,Bb,za3,ne_eq,za4,za5,za6,Ia,Ib,Ic,Ie,Da,Bc,Bd,Be,za7,za8] at h')<;>try (exfalso; omega)) | (have q':=trivial; first | refine hE _ _ ret_ne ?_ | refine hE _ _ exit_ne ?_))<;>(try simp (disch:=first | omega | decide +kernel) only [q',List.length_map,go_sem,Qa,Qb,Qc,Qd,Qe,↓reduceIte,reduceCtorEq,Qf,Qg,Qh])<;>clear q') | refine hN _ ?_ ?_ Wk.kk | with_reducible refine And.intro ?_ ?_ | with_reducible omega | (refine le_maxLen ?_; omega) | (refine za9 ⟨?_,?_⟩)))
   refine Ok.seq (Ok.seq (Ok.go ?_))
   simp (disch:=first | omega | decide +kernel) only [List.length_map,go_sem,Qa,Qb,Qc,Qd,Qe,↓reduceIte,reduceCtorEq,Qf,Qg,Qh]
   (repeat' (first | ((first | (refine gsel_split (fun q' => ?_) (fun q' => ?_)<;>(have h':=q')<;>(try simp only [za1,za2,Ba,Bb,za3,ne_eq,za4,za5,za6,Ia,Ib,Ic,Ie,Da,Bc,Bd,Be,za7,za8] at h')<;>try (exfalso; omega)) | (have q':=trivial; first | refine hE _ _ ret_ne ?_ | refine hE _ _ exit_ne ?_))<;>(try simp (disch:=first | omega | decide +kernel) only [q',List.length_map,go_sem,Qa,Qb,Qc,Qd,Qe,↓reduceIte,reduceCtorEq,Qf,Qg,Qh])<;>clear q') | refine hN _ ?_ ?_ Wk.kk | with_reducible refine And.intro ?_ ?_ | with_reducible omega | (refine le_maxLen ?_; omega) | (refine za9 ⟨?_,?_⟩)))
   refine Ok.block ?_
   have hti : (ps.take i).length=i:=by rw [List.length_take]; omega
   have hk1 : keepZ (p) ps (i + 1 + 0)=ps.take i:=hk0
   refine Ok.loopNO [41,40,39,38,37,36,35,34,33,32,31,30,29,28,27,26,25,24,23,22,21,20,19,18,17,16,15,14,13,12,11,10,9,8,7,6,5,4,3,2] (fun m (_ : Unit) => [(6,.d (.int .i64 ((i : Int) + 1 + (m : Nat)))),(5,.d (.int .i64 ((keepZ (p) ps (i + 1 + m)).length : Nat)))]) (fun m (_ : Unit) => [(0,.arr 3 1 ((keepZ (p) ps (i + 1 + m)++ps.drop (keepZ (p) ps (i + 1 + m)).length).map (D.int .i64)))]) (ps.length - (i + 1))
    (fun _ _ => True) () trivial (by refine Wk.auto ?_ ?_<;>simp [extraK,lk,killL,St.kill,wipeO,wipeS,AV.has,AV.hasL,AO.wipe,List.map_set,updSt,insL,dropS,ins,hk1,hti,List.take_append_drop]) ?_
   rintro R m _ hN hE hm _
   clear hk1 hti hk0 c1
   have ht : ((i : Int) + 1 + (m : Nat)).toNat=i + 1 + m:=by omega
   have hkl:=keepZ_le (p:=p) (ps:=ps) (j:=i + 1 + m) (by omega)
   have hrl : ∀ K : List Int,K.length<=ps.length->(K++ps.drop K.length).length=ps.length:=fun K h => by rw [List.length_append,List.length_drop]; omega
   by_cases hlt : m < ps.length - (i + 1)
   . have hj : i + 1 + m < ps.length:=by omega
     have hks:=keepZ_succ (p:=p) hj
     have c2:=hp _ (getD_mem (z:=0) hj)
     have hrK:=hrl (keepZ (p) ps (i + 1 + m)) (by omega)
     have el1 : el ((keepZ (p) ps (i + 1 + m)++ps.drop (keepZ (p) ps (i + 1 + m)).length).map (D.int .i64)) (i + 1 + m)=D.int .i64 (ps.getD (i + 1 + m) 0):=by
      rw [el_ints (by rw [hrK]; exact hj)]
      congr 1
      rw [getD_app,if_neg (by omega),List.getD_eq_getElem?_getD,List.getElem?_drop,← List.getD_eq_getElem?_getD]
      congr 1
      omega
     have ea : (el ((keepZ (p) ps (i + 1 + m)++ps.drop (keepZ (p) ps (i + 1 + m)).length).map (D.int .i64)) (keepZ (p) ps (i + 1 + m)).length).isAgg=false:=by
      rw [el_ints (by rw [hrK]; omega)]; rfl
     have hst : ((keepZ (p) ps (i + 1 + m)++ps.drop (keepZ (p) ps (i + 1 + m)).length).map (D.int .i64)).set (keepZ (p) ps (i + 1 + m)).length (D.int .i64 (ps.getD (i + 1 + m) 0))=((keepZ (p) ps (i + 1 + m)++[ps.getD (i + 1 + m) 0])++ps.drop (keepZ (p) ps (i + 1 + m)++[ps.getD (i + 1 + m) 0]).length).map (D.int .i64):=by
      rw [← set_keep _ (by omega),List.map_set]
     rw [show i + 1 + m + 1=i + 1 + (m + 1) by omega] at hks
     generalize keepZ (p) ps (i + 1 + m)=K at *
     generalize ps.getD (i + 1 + m) 0=x at *
     refine Ok.seq (Ok.go ?_)
     simp (disch:=first | omega | decide +kernel) only [ht,hrK,List.length_map,go_sem,Qa,Qb,Qc,Qd,Qe,↓reduceIte,reduceCtorEq,Qf,Qg,Qh]
     (repeat' (first | ((first | (refine gsel_split (fun q' => ?_) (fun q' => ?_)<;>(have h':=q')<;>(try simp only [za1,za2,Ba,Bb,za3,ne_eq,za4,za5,za6,Ia,Ib,Ic,Ie,Da,Bc,Bd,Be,za7,za8] at h')<;>try (exfalso; omega)) | (have q':=trivial; first | refine hE _ _ ret_ne ?_ | refine hE _ _ exit_ne ?_))<;>(try simp (disch:=first | omega | decide +kernel) only [q',ht,hrK,List.length_map,go_sem,Qa,Qb,Qc,Qd,Qe,↓reduceIte,reduceCtorEq,Qf,Qg,Qh])<;>clear q') | refine hN _ ?_ ?_ Wk.kk | with_reducible refine And.intro ?_ ?_ | with_reducible omega | (refine le_maxLen ?_; omega) | (refine za9 ⟨?_,?_⟩)))
     cases hpi : p x with
     | true =>
       rw [if_pos hpi] at hks
       rw [hpi] at c2
       refine Ok.seq (Ok.block (Ok.go ?_))
       simp (disch:=first | omega | decide +kernel) only [ht,hrK,el1,List.length_map,go_sem,Qa,Qb,Qc,Qd,Qe,↓reduceIte,reduceCtorEq,Qf,Qg,Qh]
       (repeat' (first | ((first | (refine gsel_split (fun q' => ?_) (fun q' => ?_)<;>(have h':=q')<;>(try simp only [za1,za2,Ba,Bb,za3,ne_eq,za4,za5,za6,Ia,Ib,Ic,Ie,Da,Bc,Bd,Be,za7,za8] at h')<;>try (exfalso; omega)) | (have q':=trivial; first | refine callX_new (c2) rfl (by decide) ?_ | refine callY_new (c2) rfl ?_ | refine hE _ _ ret_ne ?_ | refine hE _ _ exit_ne ?_))<;>(try simp (disch:=first | omega | decide +kernel) only [q',ht,hrK,el1,List.length_map,go_sem,Qa,Qb,Qc,Qd,Qe,↓reduceIte,reduceCtorEq,Qf,Qg,Qh])<;>clear q') | refine hN _ ?_ ?_ Wk.kk | with_reducible refine And.intro ?_ ?_ | with_reducible omega | (refine le_maxLen ?_; omega) | (refine za9 ⟨?_,?_⟩)))
       refine Ok.go ?_
       simp (disch:=first | omega | decide +kernel) only [go_sem,Qa,Qb,Qc,Qd,Qe,↓reduceIte,reduceCtorEq,Qf,Qg,Qh]
       rw [show (i : Int) + 1 + (m : Nat) + 1=(i : Int) + 1 + ((m + 1 : Nat) : Int) by omega]
       refine hN () _ hlt trivial ?_
       rw [hks]
       exact (by refine Wk.auto ?_ ?_<;>simp [extraK,lk,killL,St.kill,wipeO,wipeS,AV.has,AV.hasL,AO.wipe,List.map_set,updSt,insL,dropS,ins,])
     | false =>
       rw [if_neg (by rw [hpi]; decide)] at hks
       rw [hpi] at c2
       refine Ok.seq (Ok.block (Ok.go ?_))
       simp (disch:=first | omega | decide +kernel) only [ht,hrK,el1,List.length_map,go_sem,Qa,Qb,Qc,Qd,Qe,↓reduceIte,reduceCtorEq,Qf,Qg,Qh]
       (repeat' (first | ((first | (refine gsel_split (fun q' => ?_) (fun q' => ?_)<;>(have h':=q')<;>(try simp only [za1,za2,Ba,Bb,za3,ne_eq,za4,za5,za6,Ia,Ib,Ic,Ie,Da,Bc,Bd,Be,za7,za8] at h')<;>try (exfalso; omega)) | (have q':=trivial; first | refine callX_new (c2) rfl (by decide) ?_ | refine callY_new (c2) rfl ?_ | refine hE _ _ ret_ne ?_ | refine hE _ _ exit_ne ?_))<;>(try simp (disch:=first | omega | decide +kernel) only [q',ht,hrK,el1,ea,List.length_map,go_sem,Qa,Qb,Qc,Qd,Qe,↓reduceIte,reduceCtorEq,Qf,Qg,Qh])<;>clear q') | refine hN _ ?_ ?_ Wk.kk | with_reducible refine And.intro ?_ ?_ | with_reducible omega | (refine le_maxLen ?_; omega) | (refine za9 ⟨?_,?_⟩)))
       all_goals (first | rfl | omega | skip)
       refine Ok.go ?_
       simp (disch:=first | omega | decide +kernel) only [go_sem,Qa,Qb,Qc,Qd,Qe,↓reduceIte,reduceCtorEq,Qf,Qg,Qh]
       rw [show (i : Int) + 1 + (m : Nat) + 1=(i : Int) + 1 + ((m + 1 : Nat) : Int) by omega]
       refine hN () _ hlt trivial ?_
       rw [hks,← hst]
       exact (by refine Wk.auto ?_ ?_<;>simp [extraK,lk,killL,St.kill,wipeO,wipeS,AV.has,AV.hasL,AO.wipe,List.map_set,updSt,insL,dropS,ins,List.length_append,List.length_singleton])
   . obtain rfl : m=ps.length - (i + 1):=by omega
     rw [show i + 1 + (ps.length - (i + 1))=ps.length by omega] at *
     clear hN
     have hrK:=hrl (keepZ (p) ps ps.length) (by omega)
     generalize keepZ (p) ps ps.length=K at *
     refine Ok.go ?_
     simp (disch:=first | omega | decide +kernel) only [ht,hrK,List.length_map,go_sem,Qa,Qb,Qc,Qd,Qe,↓reduceIte,reduceCtorEq,Qf,Qg,Qh]
     (repeat' (first | ((first | (refine gsel_split (fun q' => ?_) (fun q' => ?_)<;>(have h':=q')<;>(try simp only [za1,za2,Ba,Bb,za3,ne_eq,za4,za5,za6,Ia,Ib,Ic,Ie,Da,Bc,Bd,Be,za7,za8] at h')<;>try (exfalso; omega)) | (have q':=trivial; first | refine hE _ _ ret_ne ?_ | refine hE _ _ exit_ne ?_))<;>(try simp (disch:=first | omega | decide +kernel) only [q',ht,hrK,List.length_map,go_sem,Qa,Qb,Qc,Qd,Qe,↓reduceIte,reduceCtorEq,Qf,Qg,Qh])<;>clear q') | refine hN _ ?_ ?_ Wk.kk | with_reducible refine And.intro ?_ ?_ | with_reducible omega | (refine le_maxLen ?_; omega) | (refine za9 ⟨?_,?_⟩)))
     refine Ok.seq (Ok.go ?_)
     simp (disch:=first | omega | decide +kernel) only [hrK,List.length_map,go_sem,Qa,Qb,Qc,Qd,Qe,↓reduceIte,reduceCtorEq,Qf,Qg,Qh]
     (repeat' (first | ((first | (refine gsel_split (fun q' => ?_) (fun q' => ?_)<;>(have h':=q')<;>(try simp only [za1,za2,Ba,Bb,za3,ne_eq,za4,za5,za6,Ia,Ib,Ic,Ie,Da,Bc,Bd,Be,za7,za8] at h')<;>try (exfalso; omega)) | (have q':=trivial; first | refine hE _ _ ret_ne ?_ | refine hE _ _ exit_ne ?_))<;>(try simp (disch:=first | omega | decide +kernel) only [q',hrK,List.length_map,go_sem,Qa,Qb,Qc,Qd,Qe,↓reduceIte,reduceCtorEq,Qf,Qg,Qh])<;>clear q') | refine hN _ ?_ ?_ Wk.kk | with_reducible refine And.intro ?_ ?_ | with_reducible omega | (refine le_maxLen ?_; omega) | (refine za9 ⟨?_,?_⟩)))
     refine Ok.go ?_
     simp (disch:=first | omega | decide +kernel) only [hrK,List.length_map,go_sem,Qa,Qb,Qc,Qd,Qe,↓reduceIte,reduceCtorEq,Qf,Qg,Qh]
     (repeat' (first | ((first | (refine gsel_split (fun q' => ?_) (fun q' => ?_)<;>(have h':=q')<;>(try simp only [za1,za2,Ba,Bb,za3,ne_eq,za4,za5,za6,Ia,Ib,Ic,Ie,Da,Bc,Bd,Be,za7,za8] at h')<;>try (exfalso; omega)) | (have q':=trivial; first | refine hE _ _ ret_ne ?_ | refine hE _ _ exit_ne ?_))<;>(try simp (disch:=first | omega | decide +kernel) only [q',hrK,List.length_map,go_sem,Qa,Qb,Qc,Qd,Qe,↓reduceIte,reduceCtorEq,Qf,Qg,Qh])<;>clear q') | refine hN _ ?_ ?_ Wk.kk | with_reducible refine And.intro ?_ ?_ | with_reducible omega | (refine le_maxLen ?_; omega) | (refine za9 ⟨?_,?_⟩)))
     have hfin : List.take K.length (List.map (D.int .i64) (List.take K.length (K++ps.drop K.length))++List.replicate (ps.length - K.length) (D.int .i64 0))=K.map (D.int .i64):=by
      rw [List.take_left' rfl,List.take_left' (List.length_map _)]
     rw [hfin]
     exact ⟨_,_,⟨rfl,rfl⟩,retM_s1x 0 rfl rfl fun _ => rfl⟩
end Abs.Y
