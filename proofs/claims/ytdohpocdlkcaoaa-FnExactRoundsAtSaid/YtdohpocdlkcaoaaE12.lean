/- What functions of this program compute, over plain data. No condition. -/
import Derived.Test.YtdohpocdlkcaoaaE10
import Derived.Test.YtdohpocdlkcaoaaE11
import Derived.Test.YtdohpocdlkcaoaaU6
import Derived.Test.YtdohpocdlkcaoaaAbsArw
set_option linter.all false
namespace Abs
open Go Go.RowKit
theorem el_tg {ps : List Tg} {z : Tg} {i : Nat} (h : i < ps.length) : el (ps.map D.tg) i=D.tg (ps.getD i z):=el_map (f:=D.tg) z h
theorem retM_s1x {P : Program} {t : Nat} {st : St} {u : Nat->Value} {o : AO} (i : Nat) (h : lk t st.s=some (.sl i)) (ho : lk i st.o=some o) (hr : ∀ f,o.ren f=o) : retM P [.tmp t] u [] true (.sl 0) [(0,o)] .ret st:=by
 simp only [retM,resV,h]
 exact ⟨trivial,⟨fun _ => i,rfl,fun p hp => by simp only [List.mem_cons,List.not_mem_nil,or_false] at hp; subst hp; rw [hr]; exact ho,fun p hp q hq _ => by simp only [List.mem_cons,List.not_mem_nil,or_false] at hp hq; subst hp; subst hq; rfl,trivial⟩,.inl trivial⟩
theorem tg_agg (p : Tg) : (D.tg p).isAgg=false:=tagC_nonagg rfl
theorem tg_atom (p : Tg) : (D.tg p).atom=true:=by
 unfold D.tg tagC
 split<;>rfl
theorem tg_ok (p : Tg) : D.ok 1 (D.tg p):=by
 refine ⟨by rw [tg_cells]; rfl,fun x hx => ?_⟩
 rw [tg_cells] at hx
 cases hx with
 | head => exact tg_atom p
 | tail _ h => cases h
end Abs
namespace Abs.Y
open Go Go.Proofs Abs
open Nat renaming reduceEqDiff -> Qa, reduceLT -> Qb, reduceAdd -> Qc, reduceMul -> Qd, reduceSub -> Qe, reduceLeDiff -> Qf, reduceSubDiff -> Qg, reduceBEq -> Qh
open Bool renaming not_eq_true' -> Ba, not_eq_false' -> Bb, and_eq_true -> Bc, or_eq_true -> Bd, or_eq_false_iff -> Be
open Int renaming ofNat_lt -> Ia, ofNat_le -> Ib, not_lt -> Ic, not_le -> Ie
open Decidable renaming not_not -> Da
set_option maxRecDepth 100000

def idxG {α : Type} (p : α->Bool) (l : List α) : Int:=match l.findIdx? p with | some i => (i : Nat) | none => -1
section
variable {α : Type} {z : α} {p : α->Bool} {l : List α}
theorem idxG_some {i : Nat} (h : i < l.length) (hp : p (l.getD i z)=true) (hn : ∀ j,j < i->p (l.getD j z)=false) : idxG p l=i:=by
 have : l.findIdx? p=some i:=by
  rw [List.findIdx?_eq_some_iff_getElem]
  refine ⟨h,by simpa [List.getD_eq_getElem?_getD,h] using hp,fun j hj => ?_⟩
  have h2 : j < l.length:=by omega
  simpa [List.getD_eq_getElem?_getD,h2] using hn j hj
 simp [idxG,this]
theorem idxG_none (hn : ∀ j,j < l.length->p (l.getD j z)=false) : idxG p l=-1:=by
 have : l.findIdx? p=none:=by
  rw [List.findIdx?_eq_none_iff]
  intro x hx
  obtain ⟨j,hj,rfl⟩:=List.getElem_of_mem hx
  simpa [List.getD_eq_getElem?_getD,hj] using hn j hj
 simp [idxG,this]
theorem idxG_or (z : α) : (idxG p l=-1∧∀ j,j < l.length->p (l.getD j z)=false)∨∃ i : Nat,i < l.length∧idxG p l=i∧p (l.getD i z)=true∧∀ j,j < i->p (l.getD j z)=false:=by
 cases h : l.findIdx? p with
 | none =>
   refine .inl ⟨by simp [idxG,h],fun j hj => ?_⟩
   rw [List.findIdx?_eq_none_iff] at h
   have:=h _ (getD_mem (z:=z) hj)
   simpa using this
 | some i =>
   rw [List.findIdx?_eq_some_iff_getElem] at h
   obtain ⟨h1,h2,h3⟩:=h
   refine .inr ⟨i,h1,?_,by simpa [List.getD_eq_getElem?_getD,h1] using h2,fun j hj => ?_⟩
   . have : l.findIdx? p=some i:=by
      rw [List.findIdx?_eq_some_iff_getElem]; exact ⟨h1,h2,h3⟩
     simp [idxG,this]
   . have h4:=h3 j hj
     have h5 : j < l.length:=by omega
     simpa [List.getD_eq_getElem?_getD,h5] using h4
end
theorem all_succG {q : Nat->Prop} {i : Nat} (h : ∀ j,j < i->q j) (hi : q i) : ∀ j,j < i + 1->q j:=fun j hj => by
 by_cases e : j=i
 . subst e; exact hi
 . exact h j (by omega)
theorem indexFuncT2_ok (ps : List Tg) (g : FuncId) (c d : D) (p : List Int->Bool) (hl : ps.length<=4294967296) (hp : ∀ q ∈ ps,Ctr Try.prog g [D.tg q,c,d] false (.d (.bool (p q.2))) []) :
 Ctr Try.prog 219 [.slice (ps.map D.tg),.fn (.func g) [] [c,d]] false (.d (.int .i64 (idxG (fun q : Tg => p q.2) ps))) []:=by
 refine Ctr.of (n:=19) (rs:=[.tmp 4]) Try.func219 rfl rfl Try.ntmps219 rfl rfl (by kernel_rfl) Try.checked.mixed ?_
 simp (disch:=first | omega | decide +kernel) only [go_sem,Qa,Qb,Qc,Qd,Qe,↓reduceIte,reduceCtorEq,Qf,Qg,Qh]
 refine Ok.loopC [18,17,16,15,14,13,12,11,10,9,8,6,5,4,3,2] (fun i => [(8,.d (.int .i64 (i : Nat)))]) ps.length (fun i => ∀ j,j < i->p (ps.getD j zTg).2=false) (by simp) (Wk.kk) ?_
 intro R i hN hE hi hI
 by_cases hlt : i < ps.length
 . have el1 : el (ps.map D.tg) i=D.tg (ps.getD i zTg):=el_tg hlt
   have c1:=hp _ (getD_mem (z:=zTg) hlt)
   cases hpi : p (ps.getD i zTg).2 with
   | true =>
     rw [hpi] at c1
     simp (disch:=first | omega | decide +kernel) only [el1,tg_cells,tg_agg,List.length_map,go_sem,Qa,Qb,Qc,Qd,Qe,↓reduceIte,reduceCtorEq,Qf,Qg,Qh]
     (repeat' (first | ((first | (refine gsel_split (fun q' => ?_) (fun q' => ?_)<;>(have h':=q')<;>(try simp only [za1,za2,Ba,Bb,za3,ne_eq,za4,za5,za6,Ia,Ib,Ic,Ie,Da,Bc,Bd,Be,za7,za8] at h')<;>try (exfalso; omega)) | (have q':=trivial; first | refine callX_new (c1) rfl (by decide) ?_ | refine callY_new (c1) rfl ?_ | refine hE _ _ ret_ne ?_ | refine hE _ _ exit_ne ?_))<;>(try simp (disch:=first | omega | decide +kernel) only [q',el1,tg_cells,tg_agg,List.length_map,go_sem,Qa,Qb,Qc,Qd,Qe,↓reduceIte,reduceCtorEq,Qf,Qg,Qh])<;>clear q') | refine hN _ ?_ ?_ Wk.kk | with_reducible refine And.intro ?_ ?_ | with_reducible omega | (refine le_maxLen ?_; omega) | (refine za9 ⟨?_,?_⟩)))
     rw [idxG_some (p:=fun q : Tg => p q.2) (z:=zTg) hlt hpi hI]
   | false =>
     rw [hpi] at c1
     simp (disch:=first | omega | decide +kernel) only [el1,tg_cells,tg_agg,List.length_map,go_sem,Qa,Qb,Qc,Qd,Qe,↓reduceIte,reduceCtorEq,Qf,Qg,Qh]
     (repeat' (first | ((first | (refine gsel_split (fun q' => ?_) (fun q' => ?_)<;>(have h':=q')<;>(try simp only [za1,za2,Ba,Bb,za3,ne_eq,za4,za5,za6,Ia,Ib,Ic,Ie,Da,Bc,Bd,Be,za7,za8] at h')<;>try (exfalso; omega)) | (have q':=trivial; first | refine callX_new (c1) rfl (by decide) ?_ | refine callY_new (c1) rfl ?_ | refine hE _ _ ret_ne ?_ | refine hE _ _ exit_ne ?_))<;>(try simp (disch:=first | omega | decide +kernel) only [q',el1,tg_cells,tg_agg,List.length_map,go_sem,Qa,Qb,Qc,Qd,Qe,↓reduceIte,reduceCtorEq,Qf,Qg,Qh])<;>clear q') | refine hN _ ?_ ?_ Wk.kk | with_reducible refine And.intro ?_ ?_ | with_reducible omega | (refine le_maxLen ?_; omega) | (refine za9 ⟨?_,?_⟩)))
     exact all_succG hI hpi
 . obtain rfl : i=ps.length:=by omega
   simp (disch:=first | omega | decide +kernel) only [List.length_map,go_sem,Qa,Qb,Qc,Qd,Qe,↓reduceIte,reduceCtorEq,Qf,Qg,Qh]
   (repeat' (first | ((first | (refine gsel_split (fun q' => ?_) (fun q' => ?_)<;>(have h':=q')<;>(try simp only [za1,za2,Ba,Bb,za3,ne_eq,za4,za5,za6,Ia,Ib,Ic,Ie,Da,Bc,Bd,Be,za7,za8] at h')<;>try (exfalso; omega)) | (have q':=trivial; first | refine hE _ _ ret_ne ?_ | refine hE _ _ exit_ne ?_))<;>(try simp (disch:=first | omega | decide +kernel) only [q',List.length_map,go_sem,Qa,Qb,Qc,Qd,Qe,↓reduceIte,reduceCtorEq,Qf,Qg,Qh])<;>clear q') | refine hN _ ?_ ?_ Wk.kk | with_reducible refine And.intro ?_ ?_ | with_reducible omega | (refine le_maxLen ?_; omega) | (refine za9 ⟨?_,?_⟩)))
   rw [idxG_none (p:=fun q : Tg => p q.2) (z:=zTg) hI]
theorem set_keep {α : Type} (v : α) {A l : List α} (h : A.length < l.length) : (A++l.drop A.length).set A.length v=(A++[v])++l.drop (A++[v]).length:=by
 rw [List.set_append_right _ _ (Nat.le_refl _),Nat.sub_self,List.drop_eq_getElem_cons h,List.set_cons_zero,List.append_assoc,List.length_append]
 rfl
def keepN (p : Tg->Bool) (ps : List Tg) (j : Nat) : List Tg:=(ps.take j).filter fun q => !(p q)
theorem keepN_succ {p : Tg->Bool} {ps : List Tg} {j : Nat} (h : j < ps.length) : keepN p ps (j + 1)=if p (ps.getD j zTg)=true then keepN p ps j else keepN p ps j++[ps.getD j zTg]:=by
 unfold keepN
 rw [take_succ zTg ps j h,List.filter_append]
 rw [List.filter_cons,List.filter_nil]
 cases p (ps.getD j zTg)<;>simp
theorem keepN_le {p : Tg->Bool} {ps : List Tg} {j : Nat} (h : j<=ps.length) : (keepN p ps j).length<=j:=by
 have:=List.length_filter_le (fun q => !(p q)) (ps.take j)
 rw [List.length_take] at this
 unfold keepN; omega
theorem keepN_first {p : Tg->Bool} {ps : List Tg} {i : Nat} (h : ∀ j,j < i->p (ps.getD j zTg)=false) : ∀ k,k<=i->k<=ps.length->keepN p ps k=ps.take k
 | 0,_,_ => rfl
 | k + 1, hk, hl => by
   rw [keepN_succ (by omega),h k (by omega),keepN_first h k (by omega) (by omega),take_succ zTg ps k (by omega)]
   simp
set_option maxHeartbeats 8000000 in
theorem deleteT2_ok (ps : List Tg) (g : FuncId) (c d : D) (p : List Int->Bool) (hl : ps.length<=1048576) (hp : ∀ q ∈ ps,Ctr Try.prog g [D.tg q,c,d] false (.d (.bool (p q.2))) []) :
 CtrM Try.prog 171 [.sl 0,.fn (.func g) [.d c,.d d]] [(0,.arr 38 1 (ps.map D.tg))] [] true (.sl 0) [(0,.arr 38 1 ((ps.filter fun q => !(p q.2)).map D.tg))]:=by
 have c1:=indexFuncT2_ok ps g c d p (by omega) hp
 have hall : (ps.filter fun q => !(p q.2))=keepN (fun q => p q.2) ps ps.length:=by rw [keepN,List.take_length]
 rw [hall]
 refine CtrR.eq ?_
 refine CtrR.ofO (n:=42) (rs:=[.tmp 4]) Try.func171 rfl rfl Try.ntmps171 rfl rfl (by kernel_rfl) Try.checked.mixed ?_; intro u
 refine Ok.weak Wk.cutOn ?_
 simp (disch:=first | omega | decide +kernel) only [ins,cutKey,go_sem,Qa,Qb,Qc,Qd,Qe,↓reduceIte,reduceCtorEq,Qf,Qg,Qh]
 rcases idxG_or (p:=fun q : Tg => p q.2) (l:=ps) zTg with ⟨e1,e2⟩ | ⟨i,hi,e1,e2,e3⟩
 . rw [e1] at c1
   rw [keepN_first (i:=ps.length) e2 _ (Nat.le_refl _) (Nat.le_refl _),List.take_length]
   refine Ok.go ?_
   simp (disch:=first | omega | decide +kernel) only [List.length_map,go_sem,Qa,Qb,Qc,Qd,Qe,↓reduceIte,reduceCtorEq,Qf,Qg,Qh]
   (repeat' (first | ((first | (refine gsel_split (fun q' => ?_) (fun q' => ?_)<;>(have h':=q')<;>(try simp only [za1,za2,Ba,Bb,za3,ne_eq,za4,za5,za6,Ia,Ib,Ic,Ie,Da,Bc,Bd,Be,za7,za8] at h')<;>try (exfalso; omega)) | (have q':=trivial; first | refine callX_new (c1) rfl (by decide) ?_ | refine callY_new (c1) rfl ?_ | refine hE _ _ ret_ne ?_ | refine hE _ _ exit_ne ?_))<;>(try simp (disch:=first | omega | decide +kernel) only [q',List.length_map,go_sem,Qa,Qb,Qc,Qd,Qe,↓reduceIte,reduceCtorEq,Qf,Qg,Qh])<;>clear q') | refine hN _ ?_ ?_ Wk.kk | with_reducible refine And.intro ?_ ?_ | with_reducible omega | (refine le_maxLen ?_; omega) | (refine za9 ⟨?_,?_⟩)))
   all_goals exact ⟨_,_,⟨rfl,rfl⟩,retM_s1x 0 rfl rfl fun _ => rfl⟩
 . rw [e1] at c1
   have hk0 : keepN (fun q => p q.2) ps (i + 1)=ps.take i:=by
    rw [keepN_succ hi,if_pos e2,keepN_first e3 _ (Nat.le_refl _) (by omega)]
   refine Ok.seq (Ok.go ?_)
   simp (disch:=first | omega | decide +kernel) only [go_sem,Qa,Qb,Qc,Qd,Qe,↓reduceIte,reduceCtorEq,Qf,Qg,Qh]
   refine Ok.seq (Ok.go ?_)
   simp (disch:=first | omega | decide +kernel) only [List.length_map,go_sem,Qa,Qb,Qc,Qd,Qe,↓reduceIte,reduceCtorEq,Qf,Qg,Qh]
   (repeat' (first | ((first | (refine gsel_split (fun q' => ?_) (fun q' => ?_)<;>(have h':=q')<;>(try simp only [za1,za2,Ba,Bb,za3,ne_eq,za4,za5,za6,Ia,Ib,Ic,Ie,Da,Bc,Bd,Be,za7,za8] at h')<;>try (exfalso; omega)) | (have q':=trivial; first | refine callX_new (c1) rfl (by decide) ?_ | refine callY_new (c1) rfl ?_ | refine hE _ _ ret_ne ?_ | refine hE _ _ exit_ne ?_))<;>(try simp (disch:=first | omega | decide +kernel) only [q',List.length_map,go_sem,Qa,Qb,Qc,Qd,Qe,↓reduceIte,reduceCtorEq,Qf,Qg,Qh])<;>clear q') | refine hN _ ?_ ?_ Wk.kk | with_reducible refine And.intro ?_ ?_ | with_reducible omega | (refine le_maxLen ?_; omega) | (refine za9 ⟨?_,?_⟩)))
   refine Ok.seq (Ok.go ?_)
   simp (disch:=first | omega | decide +kernel) only [List.length_map,go_sem,Qa,Qb,Qc,Qd,Qe,↓reduceIte,reduceCtorEq,Qf,Qg,Qh]
   (repeat' (first | ((first | (refine gsel_split (fun q' => ?_) (fun q' => ?_)<;>(have h':=q')<;>(try simp only [za1,za2,Ba,Bb,za3,ne_eq,za4,za5,za6,Ia,Ib,Ic,Ie,Da,Bc,Bd,Be,za7,za8] at h')<;>try (exfalso; omega)) | (have q':=trivial; first | refine hE _ _ ret_ne ?_ | refine hE _ _ exit_ne ?_))<;>(try simp (disch:=first | omega | decide +kernel) only [q',List.length_map,go_sem,Qa,Qb,Qc,Qd,Qe,↓reduceIte,reduceCtorEq,Qf,Qg,Qh])<;>clear q') | refine hN _ ?_ ?_ Wk.kk | with_reducible refine And.intro ?_ ?_ | with_reducible omega | (refine le_maxLen ?_; omega) | (refine za9 ⟨?_,?_⟩)))
   refine Ok.seq (Ok.seq (Ok.go ?_))
   simp (disch:=first | omega | decide +kernel) only [List.length_map,go_sem,Qa,Qb,Qc,Qd,Qe,↓reduceIte,reduceCtorEq,Qf,Qg,Qh]
   (repeat' (first | ((first | (refine gsel_split (fun q' => ?_) (fun q' => ?_)<;>(have h':=q')<;>(try simp only [za1,za2,Ba,Bb,za3,ne_eq,za4,za5,za6,Ia,Ib,Ic,Ie,Da,Bc,Bd,Be,za7,za8] at h')<;>try (exfalso; omega)) | (have q':=trivial; first | refine hE _ _ ret_ne ?_ | refine hE _ _ exit_ne ?_))<;>(try simp (disch:=first | omega | decide +kernel) only [q',List.length_map,go_sem,Qa,Qb,Qc,Qd,Qe,↓reduceIte,reduceCtorEq,Qf,Qg,Qh])<;>clear q') | refine hN _ ?_ ?_ Wk.kk | with_reducible refine And.intro ?_ ?_ | with_reducible omega | (refine le_maxLen ?_; omega) | (refine za9 ⟨?_,?_⟩)))
   refine Ok.block ?_
   have hti : (ps.take i).length=i:=by rw [List.length_take]; omega
   have hk1 : keepN (fun q => p q.2) ps (i + 1 + 0)=ps.take i:=hk0
   refine Ok.loopNO [41,40,39,38,37,36,35,34,33,32,31,30,29,28,27,26,25,24,23,22,21,20,19,18,17,16,15,14,13,12,11,10,9,8,7,6,5,4,3,2] (fun m (_ : Unit) => [(6,.d (.int .i64 ((i : Int) + 1 + (m : Nat)))),(5,.d (.int .i64 ((keepN (fun q => p q.2) ps (i + 1 + m)).length : Nat)))]) (fun m (_ : Unit) => [(0,.arr 38 1 ((keepN (fun q => p q.2) ps (i + 1 + m)++ps.drop (keepN (fun q => p q.2) ps (i + 1 + m)).length).map D.tg))]) (ps.length - (i + 1))
    (fun _ _ => True) () trivial (by refine Wk.auto ?_ ?_<;>simp [extraK,lk,killL,St.kill,wipeO,wipeS,AV.has,AV.hasL,AO.wipe,List.map_set,updSt,insL,dropS,ins,hk1,hti,List.take_append_drop]) ?_
   rintro R m _ hN hE hm _
   clear hk1 hti hk0 c1
   have ht : ((i : Int) + 1 + (m : Nat)).toNat=i + 1 + m:=by omega
   have hkl:=keepN_le (p:=fun q : Tg => p q.2) (ps:=ps) (j:=i + 1 + m) (by omega)
   have hrl : ∀ K : List Tg,K.length<=ps.length->(K++ps.drop K.length).length=ps.length:=fun K h => by rw [List.length_append,List.length_drop]; omega
   by_cases hlt : m < ps.length - (i + 1)
   . have hj : i + 1 + m < ps.length:=by omega
     have hks:=keepN_succ (p:=fun q : Tg => p q.2) hj
     have c2:=hp _ (getD_mem (z:=zTg) hj)
     have hrK:=hrl (keepN (fun q => p q.2) ps (i + 1 + m)) (by omega)
     have el1 : el ((keepN (fun q => p q.2) ps (i + 1 + m)++ps.drop (keepN (fun q => p q.2) ps (i + 1 + m)).length).map D.tg) (i + 1 + m)=D.tg (ps.getD (i + 1 + m) zTg):=by
      rw [el_tg (z:=zTg) (by rw [hrK]; exact hj)]
      congr 1
      rw [getD_app,if_neg (by omega),List.getD_eq_getElem?_getD,List.getElem?_drop,← List.getD_eq_getElem?_getD]
      congr 1
      omega
     have ea : (el ((keepN (fun q => p q.2) ps (i + 1 + m)++ps.drop (keepN (fun q => p q.2) ps (i + 1 + m)).length).map D.tg) (keepN (fun q => p q.2) ps (i + 1 + m)).length).isAgg=false:=by
      rw [el_tg (z:=zTg) (by rw [hrK]; omega)]; exact tg_agg _
     have hst : ((keepN (fun q => p q.2) ps (i + 1 + m)++ps.drop (keepN (fun q => p q.2) ps (i + 1 + m)).length).map D.tg).set (keepN (fun q => p q.2) ps (i + 1 + m)).length (D.tg (ps.getD (i + 1 + m) zTg))=((keepN (fun q => p q.2) ps (i + 1 + m)++[ps.getD (i + 1 + m) zTg])++ps.drop (keepN (fun q => p q.2) ps (i + 1 + m)++[ps.getD (i + 1 + m) zTg]).length).map D.tg:=by
      rw [← set_keep _ (by omega),List.map_set]
     rw [show i + 1 + m + 1=i + 1 + (m + 1) by omega] at hks
     generalize keepN (fun q => p q.2) ps (i + 1 + m)=K at *
     generalize ps.getD (i + 1 + m) zTg=x at *
     refine Ok.seq (Ok.go ?_)
     simp (disch:=first | omega | decide +kernel) only [ht,hrK,List.length_map,go_sem,Qa,Qb,Qc,Qd,Qe,↓reduceIte,reduceCtorEq,Qf,Qg,Qh]
     (repeat' (first | ((first | (refine gsel_split (fun q' => ?_) (fun q' => ?_)<;>(have h':=q')<;>(try simp only [za1,za2,Ba,Bb,za3,ne_eq,za4,za5,za6,Ia,Ib,Ic,Ie,Da,Bc,Bd,Be,za7,za8] at h')<;>try (exfalso; omega)) | (have q':=trivial; first | refine hE _ _ ret_ne ?_ | refine hE _ _ exit_ne ?_))<;>(try simp (disch:=first | omega | decide +kernel) only [q',ht,hrK,List.length_map,go_sem,Qa,Qb,Qc,Qd,Qe,↓reduceIte,reduceCtorEq,Qf,Qg,Qh])<;>clear q') | refine hN _ ?_ ?_ Wk.kk | with_reducible refine And.intro ?_ ?_ | with_reducible omega | (refine le_maxLen ?_; omega) | (refine za9 ⟨?_,?_⟩)))
     cases hpi : p x.2 with
     | true =>
       rw [if_pos hpi] at hks
       rw [hpi] at c2
       refine Ok.seq (Ok.block (Ok.go ?_))
       simp (disch:=first | omega | decide +kernel) only [ht,hrK,el1,tg_cells,tg_agg,List.length_map,go_sem,Qa,Qb,Qc,Qd,Qe,↓reduceIte,reduceCtorEq,Qf,Qg,Qh]
       (repeat' (first | ((first | (refine gsel_split (fun q' => ?_) (fun q' => ?_)<;>(have h':=q')<;>(try simp only [za1,za2,Ba,Bb,za3,ne_eq,za4,za5,za6,Ia,Ib,Ic,Ie,Da,Bc,Bd,Be,za7,za8] at h')<;>try (exfalso; omega)) | (have q':=trivial; first | refine callX_new (c2) rfl (by decide) ?_ | refine callY_new (c2) rfl ?_ | refine hE _ _ ret_ne ?_ | refine hE _ _ exit_ne ?_))<;>(try simp (disch:=first | omega | decide +kernel) only [q',ht,hrK,el1,tg_cells,tg_agg,List.length_map,go_sem,Qa,Qb,Qc,Qd,Qe,↓reduceIte,reduceCtorEq,Qf,Qg,Qh])<;>clear q') | refine hN _ ?_ ?_ Wk.kk | with_reducible refine And.intro ?_ ?_ | with_reducible omega | (refine le_maxLen ?_; omega) | (refine za9 ⟨?_,?_⟩)))
       refine Ok.go ?_
       simp (disch:=first | omega | decide +kernel) only [go_sem,Qa,Qb,Qc,Qd,Qe,↓reduceIte,reduceCtorEq,Qf,Qg,Qh]
       rw [show (i : Int) + 1 + (m : Nat) + 1=(i : Int) + 1 + ((m + 1 : Nat) : Int) by omega]
       refine hN () _ hlt trivial ?_
       rw [hks]
       exact (by refine Wk.auto ?_ ?_<;>simp [extraK,lk,killL,St.kill,wipeO,wipeS,AV.has,AV.hasL,AO.wipe,List.map_set,updSt,insL,dropS,ins,])
     | false =>
       rw [if_neg (by rw [hpi]; decide)] at hks
       rw [hpi] at c2
       refine Ok.seq (Ok.block (Ok.go ?_))
       simp (disch:=first | omega | decide +kernel) only [ht,hrK,el1,tg_cells,tg_agg,List.length_map,go_sem,Qa,Qb,Qc,Qd,Qe,↓reduceIte,reduceCtorEq,Qf,Qg,Qh]
       (repeat' (first | ((first | (refine gsel_split (fun q' => ?_) (fun q' => ?_)<;>(have h':=q')<;>(try simp only [za1,za2,Ba,Bb,za3,ne_eq,za4,za5,za6,Ia,Ib,Ic,Ie,Da,Bc,Bd,Be,za7,za8] at h')<;>try (exfalso; omega)) | (have q':=trivial; first | refine callX_new (c2) rfl (by decide) ?_ | refine callY_new (c2) rfl ?_ | refine hE _ _ ret_ne ?_ | refine hE _ _ exit_ne ?_))<;>(try simp (disch:=first | omega | decide +kernel) only [q',ht,hrK,el1,ea,tg_cells,tg_agg,List.length_map,go_sem,Qa,Qb,Qc,Qd,Qe,↓reduceIte,reduceCtorEq,Qf,Qg,Qh])<;>clear q') | refine hN _ ?_ ?_ Wk.kk | with_reducible refine And.intro ?_ ?_ | with_reducible omega | (refine le_maxLen ?_; omega) | (refine za9 ⟨?_,?_⟩)))
       all_goals (first | exact tg_ok _ | omega | skip)
       refine Ok.go ?_
       simp (disch:=first | omega | decide +kernel) only [go_sem,Qa,Qb,Qc,Qd,Qe,↓reduceIte,reduceCtorEq,Qf,Qg,Qh]
       rw [show (i : Int) + 1 + (m : Nat) + 1=(i : Int) + 1 + ((m + 1 : Nat) : Int) by omega]
       refine hN () _ hlt trivial ?_
       rw [hks,← hst]
       exact (by refine Wk.auto ?_ ?_<;>simp [extraK,lk,killL,St.kill,wipeO,wipeS,AV.has,AV.hasL,AO.wipe,List.map_set,updSt,insL,dropS,ins,List.length_append,List.length_singleton])
   . obtain rfl : m=ps.length - (i + 1):=by omega
     rw [show i + 1 + (ps.length - (i + 1))=ps.length by omega] at *
     clear hN
     have hrK:=hrl (keepN (fun q => p q.2) ps ps.length) (by omega)
     generalize keepN (fun q => p q.2) ps ps.length=K at *
     refine Ok.go ?_
     simp (disch:=first | omega | decide +kernel) only [ht,hrK,List.length_map,go_sem,Qa,Qb,Qc,Qd,Qe,↓reduceIte,reduceCtorEq,Qf,Qg,Qh]
     (repeat' (first | ((first | (refine gsel_split (fun q' => ?_) (fun q' => ?_)<;>(have h':=q')<;>(try simp only [za1,za2,Ba,Bb,za3,ne_eq,za4,za5,za6,Ia,Ib,Ic,Ie,Da,Bc,Bd,Be,za7,za8] at h')<;>try (exfalso; omega)) | (have q':=trivial; first | refine hE _ _ ret_ne ?_ | refine hE _ _ exit_ne ?_))<;>(try simp (disch:=first | omega | decide +kernel) only [q',ht,hrK,List.length_map,go_sem,Qa,Qb,Qc,Qd,Qe,↓reduceIte,reduceCtorEq,Qf,Qg,Qh])<;>clear q') | refine hN _ ?_ ?_ Wk.kk | with_reducible refine And.intro ?_ ?_ | with_reducible omega | (refine le_maxLen ?_; omega) | (refine za9 ⟨?_,?_⟩)))
     refine Ok.seq (Ok.go ?_)
     simp (disch:=first | omega | decide +kernel) only [hrK,List.length_map,go_sem,Qa,Qb,Qc,Qd,Qe,↓reduceIte,reduceCtorEq,Qf,Qg,Qh]
     (repeat' (first | ((first | (refine gsel_split (fun q' => ?_) (fun q' => ?_)<;>(have h':=q')<;>(try simp only [za1,za2,Ba,Bb,za3,ne_eq,za4,za5,za6,Ia,Ib,Ic,Ie,Da,Bc,Bd,Be,za7,za8] at h')<;>try (exfalso; omega)) | (have q':=trivial; first | refine hE _ _ ret_ne ?_ | refine hE _ _ exit_ne ?_))<;>(try simp (disch:=first | omega | decide +kernel) only [q',hrK,List.length_map,go_sem,Qa,Qb,Qc,Qd,Qe,↓reduceIte,reduceCtorEq,Qf,Qg,Qh])<;>clear q') | refine hN _ ?_ ?_ Wk.kk | with_reducible refine And.intro ?_ ?_ | with_reducible omega | (refine le_maxLen ?_; omega) | (refine za9 ⟨?_,?_⟩)))
     refine Ok.go ?_
     simp (disch:=first | omega | decide +kernel) only [hrK,List.length_map,go_sem,Qa,Qb,Qc,Qd,Qe,↓reduceIte,reduceCtorEq,Qf,Qg,Qh]
     (repeat' (first | ((first | (refine gsel_split (fun q' => ?_) (fun q' => ?_)<;>(have h':=q')<;>(try simp only [za1,za2,Ba,Bb,za3,ne_eq,za4,za5,za6,Ia,Ib,Ic,Ie,Da,Bc,Bd,Be,za7,za8] at h')<;>try (exfalso; omega)) | (have q':=trivial; first | refine hE _ _ ret_ne ?_ | refine hE _ _ exit_ne ?_))<;>(try simp (disch:=first | omega | decide +kernel) only [q',hrK,List.length_map,go_sem,Qa,Qb,Qc,Qd,Qe,↓reduceIte,reduceCtorEq,Qf,Qg,Qh])<;>clear q') | refine hN _ ?_ ?_ Wk.kk | with_reducible refine And.intro ?_ ?_ | with_reducible omega | (refine le_maxLen ?_; omega) | (refine za9 ⟨?_,?_⟩)))
     have hfin : List.take K.length (List.map D.tg (List.take K.length (K++ps.drop K.length))++List.replicate (ps.length - K.length) (D.slice []))=K.map D.tg:=by
      rw [List.take_left' rfl,List.take_left' (List.length_map _)]
     rw [hfin]
     exact ⟨_,_,⟨rfl,rfl⟩,retM_s1x 0 rfl rfl fun _ => rfl⟩
end Abs.Y
