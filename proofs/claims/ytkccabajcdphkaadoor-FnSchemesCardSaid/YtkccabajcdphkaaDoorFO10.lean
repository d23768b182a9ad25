/- What functions of this program compute, over plain data. No condition. -/
import Derived.Test.YtkccabajcdphkaaDoorAbsTagR
import Derived.Test.YtkccabajcdphkaaDoorAbsMfz
import Derived.Test.YtkccabajcdphkaaDoorFacts
import Derived.Test.YtkccabajcdphkaaDoorAbsLoopO
set_option linter.all false
open Nat renaming reduceEqDiff -> Qa, reduceLT -> Qb, reduceAdd -> Qc, reduceMul -> Qd, reduceSub -> Qe, reduceLeDiff -> Qf, reduceSubDiff -> Qg, reduceBEq -> Qh
open Bool renaming not_eq_true' -> Ba, not_eq_false' -> Bb, and_eq_true -> Bc, or_eq_true -> Bh, or_eq_false_iff -> Be
open Int renaming ofNat_lt -> Ia, ofNat_le -> Ib, not_lt -> Ic, not_le -> Ie
open Decidable renaming not_not -> Da
namespace Abs
open Go Go.RowKit

theorem Wk.arw {N : Nat} {S : List (Nat × AV)} {O : List (Nat × AO)} (j : Nat) {e : TypeId} {k : Nat} {es : List D} (hj : lk j O=some (.arr e k es)) : Wk N ⟨S,O⟩ ⟨S,ins j (.arw e k es []) O⟩ :=
 Wk.obj (st:=⟨S,O⟩) j hj fun _ _ _ _ _ h => by
  cases h with
  | arr hF xs hk0 hk hw hr => subst hF; exact .arw (fun g hg => (hw.lt g hg).2) xs hk0 hk hw (fun b hb => hb) hr (by simp)
theorem Wk.cutOn {N : Nat} {S : List (Nat × AV)} {O : List (Nat × AO)} : Wk N ⟨S,O⟩ ⟨ins cutKey .undef S,O⟩:=fun Z β φ B M w0 a w h =>
 ⟨β,φ,h.nd,h.size,fun i av hi => by
  have hi : lk i (ins cutKey .undef S)=some av:=hi
  rw [lk_ins] at hi
  split at hi
  . cases hi; exact .undef _
  . exact h.slots i av hi,h.objs,h.own,h.disj,h.fr,h.z,h.gw⟩
end Abs

namespace Abs
open Go Go.RowKit
theorem retM_s1x {P : Program} {t : Nat} {st : St} {u : Nat->Value} {o : AO} (i : Nat) (h : lk t st.s=some (.sl i)) (ho : lk i st.o=some o) (hr : ∀ f,o.ren f=o) : retM P [.tmp t] u [] true (.sl 0) [(0,o)] .ret st:=by
 simp only [retM,resV,h]
 exact ⟨trivial,⟨fun _ => i,rfl,fun p hp => by simp only [List.mem_cons,List.not_mem_nil,or_false] at hp; subst hp; rw [hr]; exact ho,fun p hp q hq _ => by simp only [List.mem_cons,List.not_mem_nil,or_false] at hp hq; subst hp; subst hq; rfl,trivial⟩,.inl trivial⟩
end Abs
namespace Abs.Y
open Go Go.Proofs Abs
set_option maxRecDepth 100000

def idxG {α : Type} (p : α->Bool) (l : List α) : Int:=match l.findIdx? p with | some i => (i : Nat) | none => -1
section
variable {α : Type} {z : α} {p : α->Bool} {l : List α}
theorem idxG_some {i : Nat} (h : i < l.length) (hp : p (l.getD i z)=true) (hn : ∀ j,j < i->p (l.getD j z)=false) : idxG p l=i:=by
 have : l.findIdx? p=some i:=by
  rw [List.findIdx?_eq_some_iff_getElem]
  refine ⟨h,by simpa [List.getD_eq_getElem?_getD,h] using hp,fun j hj => ?_⟩
  have h2 : j < l.length:=by omega
  simpa [List.getD_eq_getElem?_getD,h2] using hn j hj
 simp [idxG,this]
theorem idxG_none (hn : ∀ j,j < l.length->p (l.getD j z)=false) : idxG p l=-1:=by
 have : l.findIdx? p=none:=by
  rw [List.findIdx?_eq_none_iff]
  intro x hx
  obtain ⟨j,hj,rfl⟩:=List.getElem_of_mem hx
  simpa [List.getD_eq_getElem?_getD,hj] using hn j hj
 simp [idxG,this]
theorem idxG_or (z : α) : (idxG p l=-1∧∀ j,j < l.length->p (l.getD j z)=false)∨∃ i : Nat,i < l.length∧idxG p l=i∧p (l.getD i z)=true∧∀ j,j < i->p (l.getD j z)=false:=by
 cases h : l.findIdx? p with
 | none =>
   refine .inl ⟨by simp [idxG,h],fun j hj => ?_⟩
   rw [List.findIdx?_eq_none_iff] at h
   have:=h _ (getD_mem (z:=z) hj)
   simpa using this
 | some i =>
   rw [List.findIdx?_eq_some_iff_getElem] at h
   obtain ⟨h1,h2,h3⟩:=h
   refine .inr ⟨i,h1,?_,by simpa [List.getD_eq_getElem?_getD,h1] using h2,fun j hj => ?_⟩
   . have : l.findIdx? p=some i:=by
      rw [List.findIdx?_eq_some_iff_getElem]; exact ⟨h1,h2,h3⟩
     simp [idxG,this]
   . have h4:=h3 j hj
     have h5 : j < l.length:=by omega
     simpa [List.getD_eq_getElem?_getD,h5] using h4
end
theorem set_keep {α : Type} (v : α) {A l : List α} (h : A.length < l.length) : (A++l.drop A.length).set A.length v=(A++[v])++l.drop (A++[v]).length:=by
 rw [List.set_append_right _ _ (Nat.le_refl _),Nat.sub_self,List.drop_eq_getElem_cons h,List.set_cons_zero,List.append_assoc,List.length_append]
 rfl
theorem indexFuncZ_ok (xs : List Int) (g : FuncId) (c : D) (p : Int->Bool) (hl : xs.length<=4294967296) (hp : ∀ i,i < xs.length->Ctr Tryd.prog g [.int .i64 (xs.getD i 0),c] false (.d (.bool (p (xs.getD i 0)))) []) :
 Ctr Tryd.prog 150 [.ints xs,.fn (.func g) [] [c]] false (.d (.int .i64 (idxG p xs))) []:=by
 refine Ctr.of (n:=19) (rs:=[.tmp 4]) Tryd.func150 rfl rfl Tryd.ntmps150 rfl rfl (by kernel_rfl) Tryd.checked.mixed ?_
 simp (disch:=first | omega | decide +kernel) only [D.ints,go_sem,Qa,Qb,Qc,Qd,Qe,↓reduceIte,reduceCtorEq,Qf,Qg,Qh]
 refine Ok.loopC [18,17,16,15,14,13,12,11,10,9,8,6,5,4,3,2] (fun i => [(8,.d (.int .i64 (i : Nat)))]) xs.length (fun i => ∀ j,j < i->p (xs.getD j 0)=false) (by simp) (Wk.kk) ?_
 intro R i hN hE hi hI
 by_cases hlt : i < xs.length
 . have c1:=hp i hlt
   simp (disch:=first | omega | decide +kernel) only [go_sem,Qa,Qb,Qc,Qd,Qe,↓reduceIte,reduceCtorEq,Qf,Qg,Qh]
   (repeat' (first | ((first | (refine gsel_split (fun q' => ?_) (fun q' => ?_)<;>(have h':=q')<;>(try simp only [za1,za2,Ba,Bb,za3,ne_eq,za4,za5,za6,Ia,Ib,Ic,Ie,Da,Bc,Bh,Be,za7,za8] at h')) | (have q':=trivial; first | refine callX_new (c1) rfl (by decide) ?_ | refine callY_new (c1) rfl ?_ | refine hE _ _ ret_ne ?_ | refine hE _ _ exit_ne ?_))<;>(try simp (disch:=first | omega | decide +kernel) only [q',go_sem,Qa,Qb,Qc,Qd,Qe,↓reduceIte,reduceCtorEq,Qf,Qg,Qh])<;>clear q') | refine hN _ ?_ ?_ Wk.kk | with_reducible refine And.intro ?_ ?_ | with_reducible omega | exact ok_ints | exact cells_ints | exact no_mem | with_reducible exact plain_ints | (refine le_maxLen ?_; omega) | (refine za9 ⟨?_,?_⟩) | (simp only [go_sem,Qc,Qb,zb1,zb2,forall_eq]; done)))
   . rw [idxG_some hlt h' hI]
   . exact all_succ hI h'
 . simp (disch:=first | omega | decide +kernel) only [go_sem,Qa,Qb,Qc,Qd,Qe,↓reduceIte,reduceCtorEq,Qf,Qg,Qh]
   (repeat' (first | ((first | (refine gsel_split (fun q' => ?_) (fun q' => ?_)<;>(have h':=q')<;>(try simp only [za1,za2,Ba,Bb,za3,ne_eq,za4,za5,za6,Ia,Ib,Ic,Ie,Da,Bc,Bh,Be,za7,za8] at h')) | (have q':=trivial; first | refine hE _ _ ret_ne ?_ | refine hE _ _ exit_ne ?_))<;>(try simp (disch:=first | omega | decide +kernel) only [q',go_sem,Qa,Qb,Qc,Qd,Qe,↓reduceIte,reduceCtorEq,Qf,Qg,Qh])<;>clear q') | refine hN _ ?_ ?_ Wk.kk | with_reducible refine And.intro ?_ ?_ | with_reducible omega | exact ok_ints | exact cells_ints | exact no_mem | with_reducible exact plain_ints | (refine le_maxLen ?_; omega) | (refine za9 ⟨?_,?_⟩) | (simp only [go_sem,Qc,Qb,zb1,zb2,forall_eq]; done)))
   rw [idxG_none fun j hj => hI j (by omega)]
def keepZ (p : Int->Bool) (ps : List Int) (j : Nat) : List Int:=(ps.take j).filter fun q => !(p q)
theorem keepZ_succ {p : Int->Bool} {ps : List Int} {j : Nat} (h : j < ps.length) : keepZ p ps (j + 1)=if p (ps.getD j 0)=true then keepZ p ps j else keepZ p ps j++[ps.getD j 0]:=by
 unfold keepZ
 rw [take_succ 0 ps j h,List.filter_append]
 rw [List.filter_cons,List.filter_nil]
 cases p (ps.getD j 0)<;>simp
theorem keepZ_le {p : Int->Bool} {ps : List Int} {j : Nat} (h : j<=ps.length) : (keepZ p ps j).length<=j:=by
 have:=List.length_filter_le (fun q => !(p q)) (ps.take j)
 rw [List.length_take] at this
 unfold keepZ; omega
theorem keepZ_first {p : Int->Bool} {ps : List Int} {i : Nat} (h : ∀ j,j < i->p (ps.getD j 0)=false) : ∀ k,k<=i->k<=ps.length->keepZ p ps k=ps.take k
 | 0,_,_ => rfl
 | k + 1, hk, hl => by
   rw [keepZ_succ (by omega),h k (by omega),keepZ_first h k (by omega) (by omega),take_succ 0 ps k (by omega)]
   simp
set_option maxHeartbeats 8000000 in
theorem deleteI1_ok (ps : List Int) (g : FuncId) (c : D) (p : Int->Bool) (hl : ps.length<=1048576) (hp : ∀ q ∈ ps,Ctr Tryd.prog g [D.int .i64 q,c] false (.d (.bool (p q))) []) :
 CtrM Tryd.prog 112 [.sl 0,.fn (.func g) [.d c]] [(0,.arr 3 1 (ps.map (D.int .i64)))] [] true (.sl 0) [(0,.arr 3 1 ((ps.filter fun q => !(p q)).map (D.int .i64)))]:=by
 have c1:=indexFuncZ_ok ps g c p (by omega) fun i hi => hp _ (getD_mem hi)
 have hall : (ps.filter fun q => !(p q))=keepZ (p) ps ps.length:=by rw [keepZ,List.take_length]
 rw [hall]
 refine CtrR.eq ?_
 refine CtrR.ofO (n:=42) (rs:=[.tmp 4]) Tryd.func112 rfl rfl Tryd.ntmps112 rfl rfl (by kernel_rfl) Tryd.checked.mixed ?_; intro u
 refine Ok.weak Wk.cutOn ?_
 simp (disch:=first | omega | decide +kernel) only [ins,cutKey,go_sem,Qa,Qb,Qc,Qd,Qe,↓reduceIte,reduceCtorEq,Qf,Qg,Qh]
 rcases idxG_or (p:=p) (l:=ps) (0 : Int) with ⟨e1,e2⟩ | ⟨i,hi,e1,e2,e3⟩
 . rw [e1] at c1
   rw [keepZ_first (i:=ps.length) e2 _ (Nat.le_refl _) (Nat.le_refl _),List.take_length]
   refine Ok.go ?_
   simp (disch:=first | omega | decide +kernel) only [List.length_map,go_sem,Qa,Qb,Qc,Qd,Qe,↓reduceIte,reduceCtorEq,Qf,Qg,Qh]
   (repeat' (first | ((first | (refine gsel_split (fun q' => ?_) (fun q' => ?_)<;>(have h':=q')<;>(try simp only [za1,za2,Ba,Bb,za3,ne_eq,za4,za5,za6,Ia,Ib,Ic,Ie,Da,Bc,Bh,Be,za7,za8] at h')<;>try (exfalso; omega)) | (have q':=trivial; first | refine callX_new (c1) rfl (by decide) ?_ | refine callY_new (c1) rfl ?_ | refine hE _ _ ret_ne ?_ | refine hE _ _ exit_ne ?_))<;>(try simp (disch:=first | omega | decide +kernel) only [q',List.length_map,go_sem,Qa,Qb,Qc,Qd,Qe,↓reduceIte,reduceCtorEq,Qf,Qg,Qh])<;>clear q') | refine hN _ ?_ ?_ Wk.kk | with_reducible refine And.intro ?_ ?_ | with_reducible omega | (refine le_maxLen ?_; omega) | (refine za9 ⟨?_,?_⟩)))
   all_goals exact ⟨_,_,⟨rfl,rfl⟩,retM_s1x 0 rfl rfl fun _ => rfl⟩
 . rw [e1] at c1
   have hk0 : keepZ (p) ps (i + 1)=ps.take i:=by
    rw [keepZ_succ hi,if_pos e2,keepZ_first e3 _ (Nat.le_refl _) (by omega)]
   refine Ok.seq (Ok.go ?_)
   simp (disch:=first | omega | decide +kernel) only [go_sem,Qa,Qb,Qc,Qd,Qe,↓reduceIte,reduceCtorEq,Qf,Qg,Qh]
   refine Ok.seq (Ok.go ?_)
   simp (disch:=first | omega | decide +kernel) only [List.length_map,go_sem,Qa,Qb,Qc,Qd,Qe,↓reduceIte,reduceCtorEq,Qf,Qg,Qh]
   (repeat' (first | ((first | (refine gsel_split (fun q' => ?_) (fun q' => ?_)<;>(have h':=q')<;>(try simp only [za1,za2,Ba,Bb,za3,ne_eq,za4,za5,za6,Ia,Ib,Ic,Ie,Da,Bc,Bh,Be,za7,za8] at h')<;>try (exfalso; omega)) | (have q':=trivial; first | refine callX_new (c1) rfl (by decide) ?_ | refine callY_new (c1) rfl ?_ | refine hE _ _ ret_ne ?_ | refine hE _ _ exit_ne ?_))<;>(try simp (disch:=first | omega | decide +kernel) only [q',List.length_map,go_sem,Qa,Qb,Qc,Qd,Qe,↓reduceIte,reduceCtorEq,Qf,Qg,Qh])<;>clear q') | refine hN _ ?_ ?_ Wk.kk | with_reducible refine And.intro ?_ ?_ | with_reducible omega | (refine le_maxLen ?_; omega) | (refine za9 ⟨?_,?_⟩)))
   refine Ok.seq (Ok.go ?_)
   simp (disch:=first | omega | decide +kernel) only [List.length_map,go_sem,Qa,Qb,Qc,Qd,Qe,↓reduceIte,reduceCtorEq,Qf,Qg,Qh]
   (repeat' (first | ((first | (refine gsel_split (fun q' => ?_) (fun q' => ?_)<;>(have h':=q')<;>(try simp only [za1,za2,Ba,Bb,za3,ne_eq,za4,za5,za6,Ia,Ib,Ic,Ie,Da,Bc,Bh,Be,za7,za8] at h')<;>try (exfalso; omega)) | (have q':=trivial; first | refine hE _ _ ret_ne ?_ | refine hE _ _ exit_ne ?_))<;>(try simp (disch:=first | omega | decide +kernel) only [q',List.length_map,go_sem,Qa,Qb,Qc,Qd,Qe,↓reduceIte,reduceCtorEq,Qf,Qg,Qh])<;>clear q') | refine hN _ ?_ ?_ Wk.kk | with_reducible refine And.intro ?_ ?_ | with_reducible omega | (refine le_maxLen ?_; omega) | (refine za9 ⟨?_,?_⟩)))
   refine Ok.seq (Ok.seq (Ok.go ?_))
   simp (disch:=first | omega | decide +kernel) only [List.length_map,go_sem,Qa,Qb,Qc,Qd,Qe,↓reduceIte,reduceCtorEq,Qf,Qg,Qh]
   (repeat' (first | ((first | (refine gsel_split (fun q' => ?_) (fun q' => ?_)<;>(have h':=q')<;>(try simp only [za1,za2,Ba,Bb,za3,ne_eq,za4,za5,za6,Ia,Ib,Ic,Ie,Da,Bc,Bh,Be,za7,za8] at h')<;>try (exfalso; omega)) | (have q':=trivial; first | refine hE _ _ ret_ne ?_ | refine hE _ _ exit_ne ?_))<;>(try simp (disch:=first | omega | decide +kernel) only [q',List.length_map,go_sem,Qa,Qb,Qc,Qd,Qe,↓reduceIte,reduceCtorEq,Qf,Qg,Qh])<;>clear q') | refine hN _ ?_ ?_ Wk.kk | with_reducible refine And.intro ?_ ?_ | with_reducible omega | (refine le_maxLen ?_; omega) | (refine za9 ⟨?_,?_⟩)))
   refine Ok.block ?_
   have hti : (ps.take i).length=i:=by rw [List.length_take]; omega
   have hk1 : keepZ (p) ps (i + 1 + 0)=ps.take i:=hk0
   refine Ok.loopNO [41,40,39,38,37,36,35,34,33,32,31,30,29,28,27,26,25,24,23,22,21,20,19,18,17,16,15,14,13,12,11,10,9,8,7,6,5,4,3,2] (fun m (_ : Unit) => [(6,.d (.int .i64 ((i : Int) + 1 + (m : Nat)))),(5,.d (.int .i64 ((keepZ (p) ps (i + 1 + m)).length : Nat)))]) (fun m (_ : Unit) => [(0,.arr 3 1 ((keepZ (p) ps (i + 1 + m)++ps.drop (keepZ (p) ps (i + 1 + m)).length).map (D.int .i64)))]) (ps.length - (i + 1))
    (fun _ _ => True) () trivial (by refine Wk.auto ?_ ?_<;>simp [extraK,lk,killL,St.kill,wipeO,wipeS,AV.has,AV.hasL,AO.wipe,List.map_set,updSt,insL,dropS,ins,hk1,hti,List.take_append_drop]) ?_
   rintro R m _ hN hE hm _
   clear hk1 hti hk0 c1
   have ht : ((i : Int) + 1 + (m : Nat)).toNat=i + 1 + m:=by omega
   have hkl:=keepZ_le (p:=p) (ps:=ps) (j:=i + 1 + m) (by omega)
   have hrl : ∀ K : List Int,K.length<=ps.length->(K++ps.drop K.length).length=ps.length:=fun K h => by rw [List.length_append,List.length_drop]; omega
   by_cases hlt : m < ps.length - (i + 1)
   . have hj : i + 1 + m < ps.length:=by omega
     have hks:=keepZ_succ (p:=p) hj
     have c2:=hp _ (getD_mem (z:=0) hj)
     have hrK:=hrl (keepZ (p) ps (i + 1 + m)) (by omega)
     have el1 : el ((keepZ (p) ps (i + 1 + m)++ps.drop (keepZ (p) ps (i + 1 + m)).length).map (D.int .i64)) (i + 1 + m)=D.int .i64 (ps.getD (i + 1 + m) 0):=by
      rw [el_ints (by rw [hrK]; exact hj)]
      congr 1
      rw [getD_app,if_neg (by omega),List.getD_eq_getElem?_getD,List.getElem?_drop,← List.getD_eq_getElem?_getD]
      congr 1
      omega
     have ea : (el ((keepZ (p) ps (i + 1 + m)++ps.drop (keepZ (p) ps (i + 1 + m)).length).map (D.int .i64)) (keepZ (p) ps (i + 1 + m)).length).isAgg=false:=by
      rw [el_ints (by rw [hrK]; omega)]; rfl
     have hst : ((keepZ (p) ps (i + 1 + m)++ps.drop (keepZ (p) ps (i + 1 + m)).length).map (D.int .i64)).set (keepZ (p) ps (i + 1 + m)).length (D.int .i64 (ps.getD (i + 1 + m) 0))=((keepZ (p) ps (i + 1 + m)++[ps.getD (i + 1 + m) 0])++ps.drop (keepZ (p) ps (i + 1 + m)++[ps.getD (i + 1 + m) 0]).length).map (D.int .i64):=by
      rw [← set_keep _ (by omega),List.map_set]
     rw [show i + 1 + m + 1=i + 1 + (m + 1) by omega] at hks
     generalize keepZ (p) ps (i + 1 + m)=K at *
     generalize ps.getD (i + 1 + m) 0=x at *
     refine Ok.seq (Ok.go ?_)
     simp (disch:=first | omega | decide +kernel) only [ht,hrK,List.length_map,go_sem,Qa,Qb,Qc,Qd,Qe,↓reduceIte,reduceCtorEq,Qf,Qg,Qh]
     (repeat' (first | ((first | (refine gsel_split (fun q' => ?_) (fun q' => ?_)<;>(have h':=q')<;>(try simp only [za1,za2,Ba,Bb,za3,ne_eq,za4,za5,za6,Ia,Ib,Ic,Ie,Da,Bc,Bh,Be,za7,za8] at h')<;>try (exfalso; omega)) | (have q':=trivial; first | refine hE _ _ ret_ne ?_ | refine hE _ _ exit_ne ?_))<;>(try simp (disch:=first | omega | decide +kernel) only [q',ht,hrK,List.length_map,go_sem,Qa,Qb,Qc,Qd,Qe,↓reduceIte,reduceCtorEq,Qf,Qg,Qh])<;>clear q') | refine hN _ ?_ ?_ Wk.kk | with_reducible refine And.intro ?_ ?_ | with_reducible omega | (refine le_maxLen ?_; omega) | (refine za9 ⟨?_,?_⟩)))
     cases hpi : p x with
     | true =>
       rw [if_pos hpi] at hks
       rw [hpi] at c2
       refine Ok.seq (Ok.block (Ok.go ?_))
       simp (disch:=first | omega | decide +kernel) only [ht,hrK,el1,List.length_map,go_sem,Qa,Qb,Qc,Qd,Qe,↓reduceIte,reduceCtorEq,Qf,Qg,Qh]
       (repeat' (first | ((first | (refine gsel_split (fun q' => ?_) (fun q' => ?_)<;>(have h':=q')<;>(try simp only [za1,za2,Ba,Bb,za3,ne_eq,za4,za5,za6,Ia,Ib,Ic,Ie,Da,Bc,Bh,Be,za7,za8] at h')<;>try (exfalso; omega)) | (have q':=trivial; first | refine callX_new (c2) rfl (by decide) ?_ | refine callY_new (c2) rfl ?_ | refine hE _ _ ret_ne ?_ | refine hE _ _ exit_ne ?_))<;>(try simp (disch:=first | omega | decide +kernel) only [q',ht,hrK,el1,List.length_map,go_sem,Qa,Qb,Qc,Qd,Qe,↓reduceIte,reduceCtorEq,Qf,Qg,Qh])<;>clear q') | refine hN _ ?_ ?_ Wk.kk | with_reducible refine And.intro ?_ ?_ | with_reducible omega | (refine le_maxLen ?_; omega) | (refine za9 ⟨?_,?_⟩)))
       refine Ok.go ?_
       simp (disch:=first | omega | decide +kernel) only [go_sem,Qa,Qb,Qc,Qd,Qe,↓reduceIte,reduceCtorEq,Qf,Qg,Qh]
       rw [show (i : Int) + 1 + (m : Nat) + 1=(i : Int) + 1 + ((m + 1 : Nat) : Int) by omega]
       refine hN () _ hlt trivial ?_
       rw [hks]
       exact (by refine Wk.auto ?_ ?_<;>simp [extraK,lk,killL,St.kill,wipeO,wipeS,AV.has,AV.hasL,AO.wipe,List.map_set,updSt,insL,dropS,ins,])
     | false =>
       rw [if_neg (by rw [hpi]; decide)] at hks
       rw [hpi] at c2
       refine Ok.seq (Ok.block (Ok.go ?_))
       simp (disch:=first | omega | decide +kernel) only [ht,hrK,el1,List.length_map,go_sem,Qa,Qb,Qc,Qd,Qe,↓reduceIte,reduceCtorEq,Qf,Qg,Qh]
       (repeat' (first | ((first | (refine gsel_split (fun q' => ?_) (fun q' => ?_)<;>(have h':=q')<;>(try simp only [za1,za2,Ba,Bb,za3,ne_eq,za4,za5,za6,Ia,Ib,Ic,Ie,Da,Bc,Bh,Be,za7,za8] at h')<;>try (exfalso; omega)) | (have q':=trivial; first | refine callX_new (c2) rfl (by decide) ?_ | refine callY_new (c2) rfl ?_ | refine hE _ _ ret_ne ?_ | refine hE _ _ exit_ne ?_))<;>(try simp (disch:=first | omega | decide +kernel) only [q',ht,hrK,el1,ea,List.length_map,go_sem,Qa,Qb,Qc,Qd,Qe,↓reduceIte,reduceCtorEq,Qf,Qg,Qh])<;>clear q') | refine hN _ ?_ ?_ Wk.kk | with_reducible refine And.intro ?_ ?_ | with_reducible omega | (refine le_maxLen ?_; omega) | (refine za9 ⟨?_,?_⟩)))
       all_goals (first | rfl | omega | skip)
       refine Ok.go ?_
       simp (disch:=first | omega | decide +kernel) only [go_sem,Qa,Qb,Qc,Qd,Qe,↓reduceIte,reduceCtorEq,Qf,Qg,Qh]
       rw [show (i : Int) + 1 + (m : Nat) + 1=(i : Int) + 1 + ((m + 1 : Nat) : Int) by omega]
       refine hN () _ hlt trivial ?_
       rw [hks,← hst]
       exact (by refine Wk.auto ?_ ?_<;>simp [extraK,lk,killL,St.kill,wipeO,wipeS,AV.has,AV.hasL,AO.wipe,List.map_set,updSt,insL,dropS,ins,List.length_append,List.length_singleton])
   . obtain rfl : m=ps.length - (i + 1):=by omega
     rw [show i + 1 + (ps.length - (i + 1))=ps.length by omega] at *
     clear hN
     have hrK:=hrl (keepZ (p) ps ps.length) (by omega)
     generalize keepZ (p) ps ps.length=K at *
     refine Ok.go ?_
     simp (disch:=first | omega | decide +kernel) only [ht,hrK,List.length_map,go_sem,Qa,Qb,Qc,Qd,Qe,↓reduceIte,reduceCtorEq,Qf,Qg,Qh]
     (repeat' (first | ((first | (refine gsel_split (fun q' => ?_) (fun q' => ?_)<;>(have h':=q')<;>(try simp only [za1,za2,Ba,Bb,za3,ne_eq,za4,za5,za6,Ia,Ib,Ic,Ie,Da,Bc,Bh,Be,za7,za8] at h')<;>try (exfalso; omega)) | (have q':=trivial; first | refine hE _ _ ret_ne ?_ | refine hE _ _ exit_ne ?_))<;>(try simp (disch:=first | omega | decide +kernel) only [q',ht,hrK,List.length_map,go_sem,Qa,Qb,Qc,Qd,Qe,↓reduceIte,reduceCtorEq,Qf,Qg,Qh])<;>clear q') | refine hN _ ?_ ?_ Wk.kk | with_reducible refine And.intro ?_ ?_ | with_reducible omega | (refine le_maxLen ?_; omega) | (refine za9 ⟨?_,?_⟩)))
     refine Ok.seq (Ok.go ?_)
     simp (disch:=first | omega | decide +kernel) only [hrK,List.length_map,go_sem,Qa,Qb,Qc,Qd,Qe,↓reduceIte,reduceCtorEq,Qf,Qg,Qh]
     (repeat' (first | ((first | (refine gsel_split (fun q' => ?_) (fun q' => ?_)<;>(have h':=q')<;>(try simp only [za1,za2,Ba,Bb,za3,ne_eq,za4,za5,za6,Ia,Ib,Ic,Ie,Da,Bc,Bh,Be,za7,za8] at h')<;>try (exfalso; omega)) | (have q':=trivial; first | refine hE _ _ ret_ne ?_ | refine hE _ _ exit_ne ?_))<;>(try simp (disch:=first | omega | decide +kernel) only [q',hrK,List.length_map,go_sem,Qa,Qb,Qc,Qd,Qe,↓reduceIte,reduceCtorEq,Qf,Qg,Qh])<;>clear q') | refine hN _ ?_ ?_ Wk.kk | with_reducible refine And.intro ?_ ?_ | with_reducible omega | (refine le_maxLen ?_; omega) | (refine za9 ⟨?_,?_⟩)))
     refine Ok.go ?_
     simp (disch:=first | omega | decide +kernel) only [hrK,List.length_map,go_sem,Qa,Qb,Qc,Qd,Qe,↓reduceIte,reduceCtorEq,Qf,Qg,Qh]
     (repeat' (first | ((first | (refine gsel_split (fun q' => ?_) (fun q' => ?_)<;>(have h':=q')<;>(try simp only [za1,za2,Ba,Bb,za3,ne_eq,za4,za5,za6,Ia,Ib,Ic,Ie,Da,Bc,Bh,Be,za7,za8] at h')<;>try (exfalso; omega)) | (have q':=trivial; first | refine hE _ _ ret_ne ?_ | refine hE _ _ exit_ne ?_))<;>(try simp (disch:=first | omega | decide +kernel) only [q',hrK,List.length_map,go_sem,Qa,Qb,Qc,Qd,Qe,↓reduceIte,reduceCtorEq,Qf,Qg,Qh])<;>clear q') | refine hN _ ?_ ?_ Wk.kk | with_reducible refine And.intro ?_ ?_ | with_reducible omega | (refine le_maxLen ?_; omega) | (refine za9 ⟨?_,?_⟩)))
     have hfin : List.take K.length (List.map (D.int .i64) (List.take K.length (K++ps.drop K.length))++List.replicate (ps.length - K.length) (D.int .i64 0))=K.map (D.int .i64):=by
      rw [List.take_left' rfl,List.take_left' (List.length_map _)]
     rw [hfin]
     exact ⟨_,_,⟨rfl,rfl⟩,retM_s1x 0 rfl rfl fun _ => rfl⟩
end Abs.Y

namespace Abs.Y
open Go Go.Proofs Abs
set_option maxRecDepth 100000

theorem isCase_ok (j : Nat) (hj : j < 10) (y : Fm) (hy : y.wf=true) : Ctr Tryd.prog 115 [.int .i64 ((j + 1 : Nat) : Int),fmD y] false (.d (.bool (isC j y))) []:=by
 have c1:=parse_sch j
 have c2:=fits_ok (sch j) y (fun _ => none) (sch_wf j) (sch_abc j) hy (by intro c z h; cases h)
 have hP : By.P (fun _ => none)=[.nilptr,.nilptr,.nilptr]:=rfl
 rw [hP] at c2
 rw [isC]
 have hG : globD 0=some (.ptr (.agg schemesD)):=rfl
 have hgl : schemesD.length=10:=rfl
 have hg:=sch_el j hj
 have e1 : ((j + 1 : Nat) : Int) - 1=(j : Nat):=by omega
 have ra : argV (fmD y)=.d (fmD y):=by obtain ⟨_,_,_,e⟩:=fmD_sh y; rw [e]; rfl
 have na:=fmD_na y
 have ma:=fmD_nc y
 generalize (sch j).T=t at *
 generalize fmD (sch j)=x at *
 generalize fmD y=yd at *
 generalize (mt (sch j) y fun _ => none).2=fl at *
 generalize (mt (sch j) y fun _ => none).1.P=L' at *
 generalize hL : schemesD=L at *
 refine Ctr.of (n:=20) (rs:=[.tmp 4]) Tryd.func115 rfl rfl Tryd.ntmps115 rfl rfl (by kernel_rfl) Tryd.checked.mixed ?_
 simp (disch:=first | omega | decide +kernel) only [Nat.mul_one,ra,hG,hL,hg,e1,Int.toNat_natCast,go_sem,Qa,Qb,Qc,Qd,Qe,↓reduceIte,reduceCtorEq,Qf,Qg,Qh]
 (repeat' (first | ((first | (refine gsel_split (fun q' => ?_) (fun q' => ?_)<;>(have h':=q')<;>(try simp only [za1,za2,Ba,Bb,za3,ne_eq,za4,za5,za6,Ia,Ib,Ic,Ie,Da,Bc,Bh,Be,za7,za8] at h')<;>try (exfalso; omega)) | (have q':=trivial; first | refine callX_shared (c1) rfl (by decide) ?_ | refine callY_shared (c1) rfl ?_ | refine callX_mut [18] [18] [] (c2) ⟨.inl rfl,.inl rfl,.inl rfl,trivial⟩ ⟨rfl,trivial⟩ rfl (by simp [dstB]) ?_ | refine hE _ _ ret_ne ?_ | refine hE _ _ exit_ne ?_))<;>(try simp (disch:=first | omega | decide +kernel) only [q',Nat.mul_one,ra,hG,hL,hg,e1,Int.toNat_natCast,go_sem,Qa,Qb,Qc,Qd,Qe,↓reduceIte,reduceCtorEq,Qf,Qg,Qh])<;>clear q') | refine hN _ ?_ ?_ Wk.kk | with_reducible refine And.intro ?_ ?_ | with_reducible omega | exact ok_ints | exact cells_ints | exact no_mem | with_reducible exact plain_ints | (refine le_maxLen ?_; omega) | (refine za9 ⟨?_,?_⟩) | (simp only [go_sem,Qc,Qb,zb1,zb2,forall_eq]; done)))
 all_goals (first | omega | assumption | exact isp | rfl | exact absurd trivial ‹¬True›)
theorem notCase_ok (j : Nat) (hj : j < 10) (y : Fm) (hy : y.wf=true) : Ctr Tryd.prog 114 [.int .i64 ((j + 1 : Nat) : Int),.ptr (fmD y)] false (.d (.bool (!isC j y))) []:=by
 have c1:=isCase_ok j hj y hy
 have na:=fmD_na y
 have ma:=fmD_nc y
 have hg0:=fm_g0 y
 generalize fmD y=yd at *
 refine Ctr.of (n:=8) (rs:=[.tmp 3]) Tryd.func114 rfl rfl Tryd.ntmps114 rfl rfl (by kernel_rfl) Tryd.checked.mixed ?_
 simp (disch:=first | omega | decide +kernel) only [hg0,go_sem,Qa,Qb,Qc,Qd,Qe,↓reduceIte,reduceCtorEq,Qf,Qg,Qh]
 (repeat' (first | ((first | (refine gsel_split (fun q' => ?_) (fun q' => ?_)<;>(have h':=q')<;>(try simp only [za1,za2,Ba,Bb,za3,ne_eq,za4,za5,za6,Ia,Ib,Ic,Ie,Da,Bc,Bh,Be,za7,za8] at h')<;>try (exfalso; omega)) | (have q':=trivial; first | refine callX_new (c1) rfl (by decide) ?_ | refine callY_new (c1) rfl ?_ | refine hE _ _ ret_ne ?_ | refine hE _ _ exit_ne ?_))<;>(try simp (disch:=first | omega | decide +kernel) only [q',hg0,go_sem,Qa,Qb,Qc,Qd,Qe,↓reduceIte,reduceCtorEq,Qf,Qg,Qh])<;>clear q') | refine hN _ ?_ ?_ Wk.kk | with_reducible refine And.intro ?_ ?_ | with_reducible omega | exact ok_ints | exact cells_ints | exact no_mem | with_reducible exact plain_ints | (refine le_maxLen ?_; omega) | (refine za9 ⟨?_,?_⟩) | (simp only [go_sem,Qc,Qb,zb1,zb2,forall_eq]; done)))
 all_goals (first | omega | assumption | exact isp | rfl | exact absurd trivial ‹¬True›)
def upL (n : Nat) : List Int:=(List.range n).map fun i => ((i + 1 : Nat) : Int)
theorem upL_succ (n : Nat) : upL (n + 1)=upL n++[((n + 1 : Nat) : Int)]:=by rw [upL,List.range_succ,List.map_append]; rfl
theorem upL_len (n : Nat) : (upL n).length=n:=by rw [upL,List.length_map,List.length_range]
theorem upTo_ok : Ctr Tryd.prog 113 [.int .i64 10] true (.sl 0) [(0,.arr 3 1 ((upL 10).map (.int .i64)))]:=by
 refine Ctr.of (n:=15) (rs:=[.tmp 2]) Tryd.func113 rfl rfl Tryd.ntmps113 rfl rfl (by kernel_rfl) Tryd.checked.mixed ?_
 simp (disch:=first | omega | decide +kernel) only [go_sem,Qa,Qb,Qc,Qd,Qe,↓reduceIte,reduceCtorEq,Qf,Qg,Qh]
 (repeat' (first | ((first | (refine gsel_split (fun q' => ?_) (fun q' => ?_)<;>(have h':=q')<;>(try simp only [za1,za2,Ba,Bb,za3,ne_eq,za4,za5,za6,Ia,Ib,Ic,Ie,Da,Bc,Bh,Be,za7,za8] at h')<;>try (exfalso; omega)) | (have q':=trivial; first | refine hE _ _ ret_ne ?_ | refine hE _ _ exit_ne ?_))<;>(try simp (disch:=first | omega | decide +kernel) only [q',go_sem,Qa,Qb,Qc,Qd,Qe,↓reduceIte,reduceCtorEq,Qf,Qg,Qh])<;>clear q') | refine hN _ ?_ ?_ Wk.kk | with_reducible refine And.intro ?_ ?_ | with_reducible omega | exact ok_ints | exact cells_ints | exact no_mem | with_reducible exact plain_ints | (refine le_maxLen ?_; omega) | (refine za9 ⟨?_,?_⟩) | (simp only [go_sem,Qc,Qb,zb1,zb2,forall_eq]; done)))
 refine Ok.loopN [14,13,12,11,10,9,8,7,6,5,4,3,1] (fun i (q : List Int) => [(4,.d (.int .i64 ((i + 1 : Nat) : Int))),(3,.sl 3)]) (fun _ q => [(3,.arr 3 1 (q.map (.int .i64)))]) 10 (fun i q => q=upL i) [] rfl (Wk.kk) ?_
 rintro R i q hM hE hi hq
 have hql : q.length=i:=by rw [hq,upL_len]
 by_cases hlt : i < 10
 . have hs:=upL_succ i
   rw [← hq] at hs
   clear hq
   have e1 : ((i + 1 : Nat) : Int) + 1=((i + 1 + 1 : Nat) : Int):=by omega
   simp (disch:=first | omega | decide +kernel) only [e1,List.length_map,go_sem,Qa,Qb,Qc,Qd,Qe,↓reduceIte,reduceCtorEq,Qf,Qg,Qh]
   (repeat' (first | ((first | (refine gsel_split (fun q' => ?_) (fun q' => ?_)<;>(have h':=q')<;>(try simp only [za1,za2,Ba,Bb,za3,ne_eq,za4,za5,za6,Ia,Ib,Ic,Ie,Da,Bc,Bh,Be,za7,za8] at h')<;>try (exfalso; omega)) | (have q':=trivial; first | refine hE _ _ ret_ne ?_ | refine hE _ _ exit_ne ?_))<;>(try simp (disch:=first | omega | decide +kernel) only [q',e1,List.length_map,go_sem,Qa,Qb,Qc,Qd,Qe,↓reduceIte,reduceCtorEq,Qf,Qg,Qh])<;>clear q') | refine hN _ ?_ ?_ Wk.kk | with_reducible refine And.intro ?_ ?_ | with_reducible omega | exact ok_ints | exact cells_ints | exact no_mem | with_reducible exact plain_ints | (refine le_maxLen ?_; omega) | (refine za9 ⟨?_,?_⟩) | (simp only [go_sem,Qc,Qb,zb1,zb2,forall_eq]; done)))
   all_goals (first | omega | (refine le_maxLen ?_; omega) | (refine hM (q++[((i + 1 : Nat) : Int)]) _ hlt hs.symm (by refine Wk.auto ?_ ?_<;>simp [extraK,lk,killL,St.kill,wipeO,wipeS,AV.has,AV.hasL,AO.wipe,List.map_set,updSt,insL,dropS,ins,List.map_append,List.map_cons,List.map_nil]); done))
 . obtain rfl : i=10:=by omega
   rw [← hq] at hE
   simp (disch:=first | omega | decide +kernel) only [go_sem,Qa,Qb,Qc,Qd,Qe,↓reduceIte,reduceCtorEq,Qf,Qg,Qh]
   (repeat' (first | ((first | (refine gsel_split (fun q' => ?_) (fun q' => ?_)<;>(have h':=q')<;>(try simp only [za1,za2,Ba,Bb,za3,ne_eq,za4,za5,za6,Ia,Ib,Ic,Ie,Da,Bc,Bh,Be,za7,za8] at h')<;>try (exfalso; omega)) | (have q':=trivial; first | refine hE _ _ ret_ne ?_ | refine hE _ _ exit_ne ?_))<;>(try simp (disch:=first | omega | decide +kernel) only [q',go_sem,Qa,Qb,Qc,Qd,Qe,↓reduceIte,reduceCtorEq,Qf,Qg,Qh])<;>clear q') | refine hN _ ?_ ?_ Wk.kk | with_reducible refine And.intro ?_ ?_ | with_reducible omega | exact ok_ints | exact cells_ints | exact no_mem | with_reducible exact plain_ints | (refine le_maxLen ?_; omega) | (refine za9 ⟨?_,?_⟩) | (simp only [go_sem,Qc,Qb,zb1,zb2,forall_eq]; done)))
   all_goals (first | omega | exact ret_sls 3 rfl rfl)
noncomputable def schL (s : ByteArray) : List Int:=if okS s then (upL 10).filter (fun q => !(!isC (q - 1).toNat (fmS s))) else []
theorem ret_slS {P t u y st e k es} (j : Nat) (h : lk t st.s=some (.sl j)) (h' : lk u st.s=some (.d y)) (ho : lk j st.o=some (.arr e k es)) : retQ P [.tmp t,.tmp u] true (.tup [.sl 0,.d y]) [(0,.arr e k es)] .ret st:=by
 refine .inr ⟨rfl,[],?_⟩
 simp only [frzs,retO,resV,h,h']
 exact ⟨trivial,.one j rfl ho,.inl trivial⟩
set_option maxHeartbeats 8000000 in
theorem SchemesOf_ok (s : ByteArray) (hs : s.size<=1000000) : Ctr Tryd.prog 39 [.str s] true (.tup [.sl 0,.d (.bool (okS s))]) [(0,.arr 3 1 ((schL s).map (.int .i64)))]:=by
 obtain ⟨x,hx,hsh,c1⟩:=parse_okN s hs
 have kc : x.cells=[x]:=by
  rcases hsh with rfl | ⟨a,rfl⟩
  . rfl
  . exact fm_cells a
 have ka : x.isAgg=false:=by
  rcases hsh with rfl | ⟨a,rfl⟩
  . rfl
  . exact fmD_na a
 have kt : x.atom=true:=by
  rcases hsh with rfl | ⟨a,rfl⟩
  . rfl
  . obtain ⟨_,_,_,e⟩:=fmD_sh a
    rw [e]; rfl
 have kx : ∀ c,c ∈ [x]->c.atom=true:=fun c hc => by rw [List.mem_singleton] at hc; rw [hc]; exact kt
 have c2:=upTo_ok
 cases hk : okS s with
 | true =>
   have hw:=(okS_spec hk).1
   have hxe:=hx hk
   rw [hk] at c1
   have c3:=deleteI1_ok (upL 10) 114 (.ptr (fmD (fmS s))) (fun q => !isC (q - 1).toNat (fmS s)) (by rw [upL_len]; omega) fun q hq => by
    obtain ⟨j,hj,rfl⟩:=List.mem_map.1 hq
    rw [show (((j + 1 : Nat) : Int) - 1).toNat=j by omega]
    exact notCase_ok j (List.mem_range.1 hj) _ hw
   rw [← hxe] at c3
   rw [schL,hk,if_pos rfl]
   generalize (upL 10).filter (fun q => !(!isC (q - 1).toNat (fmS s)))=R at *
   generalize upL 10=U at *
   clear hx hxe hsh
   refine Ctr.ofK (n:=16) (rs:=[.tmp 2,.tmp 3]) Tryd.func39 rfl rfl Tryd.ntmps39 rfl rfl (by kernel_rfl) Tryd.checked.mixed ?_
   refine Ok.seq (Ok.go ?_)
   simp (disch:=first | omega | decide +kernel) only [go_sem,Qa,Qb,Qc,Qd,Qe,↓reduceIte,reduceCtorEq,Qf,Qg,Qh]
   (repeat' (first | ((first | (refine gsel_split (fun q' => ?_) (fun q' => ?_)<;>(have h':=q')<;>(try simp only [za1,za2,Ba,Bb,za3,ne_eq,za4,za5,za6,Ia,Ib,Ic,Ie,Da,Bc,Bh,Be,za7,za8] at h')<;>try (exfalso; omega)) | (have q':=trivial; first | refine hE _ _ ret_ne ?_ | refine hE _ _ exit_ne ?_))<;>(try simp (disch:=first | omega | decide +kernel) only [q',go_sem,Qa,Qb,Qc,Qd,Qe,↓reduceIte,reduceCtorEq,Qf,Qg,Qh])<;>clear q') | refine hN _ ?_ ?_ Wk.kk | with_reducible refine And.intro ?_ ?_ | with_reducible omega | exact ok_ints | exact cells_ints | exact no_mem | with_reducible exact plain_ints | (refine le_maxLen ?_; omega) | (refine za9 ⟨?_,?_⟩) | (simp only [go_sem,Qc,Qb,zb1,zb2,forall_eq]; done)))
   refine Ok.seq (Ok.go ?_)
   simp (disch:=first | omega | decide +kernel) only [kc,List.length_cons,List.length_nil,List.map_cons,List.map_nil,List.drop_succ_cons,List.drop_nil,List.drop_zero,List.append_nil,go_sem,Qa,Qb,Qc,Qd,Qe,↓reduceIte,reduceCtorEq,Qf,Qg,Qh]
   (repeat' (first | ((first | (refine gsel_split (fun q' => ?_) (fun q' => ?_)<;>(have h':=q')<;>(try simp only [za1,za2,Ba,Bb,za3,ne_eq,za4,za5,za6,Ia,Ib,Ic,Ie,Da,Bc,Bh,Be,za7,za8] at h')<;>try (exfalso; omega)) | (have q':=trivial; first | refine callX_shared (c1) rfl (by decide) ?_ | refine callY_shared (c1) rfl ?_ | refine hE _ _ ret_ne ?_ | refine hE _ _ exit_ne ?_))<;>(try simp (disch:=first | omega | decide +kernel) only [q',kc,List.length_cons,List.length_nil,List.map_cons,List.map_nil,List.drop_succ_cons,List.drop_nil,List.drop_zero,List.append_nil,go_sem,Qa,Qb,Qc,Qd,Qe,↓reduceIte,reduceCtorEq,Qf,Qg,Qh])<;>clear q') | refine hN _ ?_ ?_ Wk.kk | with_reducible refine And.intro ?_ ?_ | with_reducible omega | exact ok_ints | exact cells_ints | exact no_mem | with_reducible exact plain_ints | (refine le_maxLen ?_; omega) | (refine za9 ⟨?_,?_⟩) | (simp only [go_sem,Qc,Qb,zb1,zb2,forall_eq]; done)))
   all_goals (first | omega | assumption | exact isp | rfl | skip)
   refine Ok.weak (Wk.bfz 4 x rfl (by rw [kc]; rfl)) ?_
   simp (disch:=first | omega | decide +kernel) only [bfzS,bfzO,AV.bfz,AV.bfzL,AO.bfz,go_sem,Qa,Qb,Qc,Qd,Qe,↓reduceIte,reduceCtorEq,Qf,Qg,Qh]
   refine Ok.go ?_
   simp (disch:=first | omega | decide +kernel) only [go_sem,Qa,Qb,Qc,Qd,Qe,↓reduceIte,reduceCtorEq,Qf,Qg,Qh]
   (repeat' (first | ((first | (refine gsel_split (fun q' => ?_) (fun q' => ?_)<;>(have h':=q')<;>(try simp only [za1,za2,Ba,Bb,za3,ne_eq,za4,za5,za6,Ia,Ib,Ic,Ie,Da,Bc,Bh,Be,za7,za8] at h')<;>try (exfalso; omega)) | (have q':=trivial; first | refine callX_shared (c2) rfl (by decide) ?_ | refine callY_shared (c2) rfl ?_ | refine hE _ _ ret_ne ?_ | refine hE _ _ exit_ne ?_))<;>(try simp (disch:=first | omega | decide +kernel) only [q',go_sem,Qa,Qb,Qc,Qd,Qe,↓reduceIte,reduceCtorEq,Qf,Qg,Qh])<;>clear q') | refine hN _ ?_ ?_ Wk.kk | with_reducible refine And.intro ?_ ?_ | with_reducible omega | exact ok_ints | exact cells_ints | exact no_mem | with_reducible exact plain_ints | (refine le_maxLen ?_; omega) | (refine za9 ⟨?_,?_⟩) | (simp only [go_sem,Qc,Qb,zb1,zb2,forall_eq]; done)))
   refine callX_mut [1400000] [1600000] [1400000,1600000] c3 ⟨.inl rfl,.inl rfl,trivial⟩ ⟨rfl,trivial⟩ rfl (by simp [dstB]) ?_
   simp (disch:=first | omega | decide +kernel) only [go_sem,Qa,Qb,Qc,Qd,Qe,↓reduceIte,reduceCtorEq,Qf,Qg,Qh]
   (repeat' (first | ((first | (refine gsel_split (fun q' => ?_) (fun q' => ?_)<;>(have h':=q')<;>(try simp only [za1,za2,Ba,Bb,za3,ne_eq,za4,za5,za6,Ia,Ib,Ic,Ie,Da,Bc,Bh,Be,za7,za8] at h')<;>try (exfalso; omega)) | (have q':=trivial; first | refine hE _ _ ret_ne ?_ | refine hE _ _ exit_ne ?_))<;>(try simp (disch:=first | omega | decide +kernel) only [q',go_sem,Qa,Qb,Qc,Qd,Qe,↓reduceIte,reduceCtorEq,Qf,Qg,Qh])<;>clear q') | refine hN _ ?_ ?_ Wk.kk | with_reducible refine And.intro ?_ ?_ | with_reducible omega | exact ok_ints | exact cells_ints | exact no_mem | with_reducible exact plain_ints | (refine le_maxLen ?_; omega) | (refine za9 ⟨?_,?_⟩) | (simp only [go_sem,Qc,Qb,zb1,zb2,forall_eq]; done)))
   all_goals (first | exact ret_slS 1600000 rfl rfl rfl)
 | false =>
   rw [hk] at c1
   rw [schL,hk,if_neg (by simp)]
   refine Ctr.of (n:=16) (rs:=[.tmp 2,.tmp 3]) Tryd.func39 rfl rfl Tryd.ntmps39 rfl rfl (by kernel_rfl) Tryd.checked.mixed ?_
   simp (disch:=first | omega | decide +kernel) only [kc,List.length_cons,List.length_nil,List.map_cons,List.map_nil,List.drop_succ_cons,List.drop_nil,List.drop_zero,List.append_nil,go_sem,Qa,Qb,Qc,Qd,Qe,↓reduceIte,reduceCtorEq,Qf,Qg,Qh]
   (repeat' (first | ((first | (refine gsel_split (fun q' => ?_) (fun q' => ?_)<;>(have h':=q')<;>(try simp only [za1,za2,Ba,Bb,za3,ne_eq,za4,za5,za6,Ia,Ib,Ic,Ie,Da,Bc,Bh,Be,za7,za8] at h')<;>try (exfalso; omega)) | (have q':=trivial; first | refine callX_shared (c1) rfl (by decide) ?_ | refine callY_shared (c1) rfl ?_ | refine hE _ _ ret_ne ?_ | refine hE _ _ exit_ne ?_))<;>(try simp (disch:=first | omega | decide +kernel) only [q',kc,List.length_cons,List.length_nil,List.map_cons,List.map_nil,List.drop_succ_cons,List.drop_nil,List.drop_zero,List.append_nil,go_sem,Qa,Qb,Qc,Qd,Qe,↓reduceIte,reduceCtorEq,Qf,Qg,Qh])<;>clear q') | refine hN _ ?_ ?_ Wk.kk | with_reducible refine And.intro ?_ ?_ | with_reducible omega | exact ok_ints | exact cells_ints | exact no_mem | with_reducible exact plain_ints | (refine le_maxLen ?_; omega) | (refine za9 ⟨?_,?_⟩) | (simp only [go_sem,Qc,Qb,zb1,zb2,forall_eq]; done)))
   all_goals (first | omega | assumption | exact isp | rfl | exact ret_slS 2 rfl rfl rfl | exact ret_sld 2 rfl rfl rfl plain_ints rfl)
end Abs.Y
