/- What functions of this program compute, over plain data. No condition. -/
import Derived.Test.YtkccabajcdphkaaDoorAbsJoin
import Derived.Test.YtkccabajcdphkaaDoorPO9
set_option linter.all false
namespace Abs.Y
open Go Go.Proofs Abs
open Nat renaming reduceEqDiff -> Qa, reduceLT -> Qb, reduceAdd -> Qc, reduceMul -> Qd, reduceSub -> Qe, reduceLeDiff -> Qf, reduceSubDiff -> Qg, reduceBEq -> Qh
open Bool renaming not_eq_true' -> Ba, not_eq_false' -> Bb, and_eq_true -> Bc, or_eq_true -> Bh, or_eq_false_iff -> Be
open Int renaming ofNat_lt -> Ia, ofNat_le -> Ib, not_lt -> Ic, not_le -> Ie
open Decidable renaming not_not -> Da
set_option maxRecDepth 100000

theorem isT_sp' {p : Int} {n : Nat} {v : List Int} (h : Vec p n v) : isT p n (spT v)=true:=by
 refine isT_good fun j hj => ?_
 have hm : ∀ k,k < (spT v).length->∃ m : Nat,m < v.length∧v.getD m 0 ≠ 0∧(spT v).getD k (0,0)=((m : Int),v.getD m 0):=fun k hk =>
  mem_sp.1 (getD_mem (z:=((0 : Int),(0 : Int))) hk)
 have hlt : ∀ i k,i < k->k < (spT v).length->((spT v).getD i (0,0)).1 < ((spT v).getD k (0,0)).1:=fun i k hik hk => by
  have hp : (spT v).Pairwise fun s t => s.1 < t.1:=by
   unfold spT
   rw [List.pairwise_map]
   exact ((List.pairwise_lt_range (n:=v.length)).sublist List.filter_sublist).imp fun h => by dsimp only; omega
  have:=List.pairwise_iff_getElem.1 hp i k (by omega) hk hik
  simpa [List.getD_eq_getElem?_getD,hk,show i < (spT v).length by omega] using this
 obtain ⟨m,h1,h2,h3⟩:=hm j hj
 have hb:=h.2 m
 have hn:=h.1
 unfold okTm
 rw [h3]
 simp only [Bc,Bh,decide_eq_true_eq]
 refine ⟨⟨⟨by omega,by omega⟩,by omega,by omega⟩,?_⟩
 by_cases h0 : j=0
 . exact .inl h0
 . right
   have:=hlt (j - 1) j (by omega) hj
   rw [h3] at this; exact this
theorem dn_spV {p : Int} {n : Nat} {w : List Int} (h : Vec p n w) : dnT n (spT w)=w:=by
 have:=dn_sp w
 rwa [h.1] at this
structure MulF (p v : Int) (a b : T2) : Prop where
 o1 : ok2 p v b a=true
 e1 : mulR p v b a=mulR p v a b
 o2 : ok2 p v a (addR p v a b)=true
 o3 : ok2 p v a a=true
 o4 : ok2 p v (mulR p v a a) (mulR p v a b)=true
 e5 : addR p v (mulR p v a a) (mulR p v a b)=mulR p v a (addR p v a b)
 o6 : ok1 p v (mulR p v a b)=true
theorem mulR_len (p v : Int) (a b : T2) : (mulR p v a b).length<=64:=by
 unfold mulR
 cases h : ok2 p v a b with
 | false => simp
 | true =>
   obtain ⟨u,g,hn,ha,hb⟩:=ok2_of h
   have h6:=pow_le6 g.hu
   have hp:=g.hp
   rw [if_pos rfl,hn]
   have:=(Vec.mulD (p:=p) (by omega) (2 ^ u) (dnV v a) (dnV v b)).1
   have h8:=sp_len (mulD p (2 ^ u) (dnV v a) (dnV v b))
   omega
theorem addR_len (p v : Int) (a b : T2) : (addR p v a b).length<=64:=by
 unfold addR
 cases h : ok2 p v a b with
 | false => simp
 | true =>
   obtain ⟨u,g,hn,ha,hb⟩:=ok2_of h
   have h6:=pow_le6 g.hu
   have hp:=g.hp
   rw [if_pos rfl,dnV,dnV,hn]
   have:=(Vec.addD (p:=p) (k:=1) (n:=2 ^ u) (a:=dnT (2 ^ u) a) (b:=dnT (2 ^ u) b) (by omega) (dnT_len _ _) (dnT_len _ _)).1
   have h8:=sp_len (addD p 1 (dnT (2 ^ u) a) (dnT (2 ^ u) b))
   omega
theorem mulF_of {p v : Int} {a b : T2} (h : ok2 p v a b=true) : MulF p v a b:=by
 obtain ⟨u,g,hn,ha,hb⟩:=ok2_of h
 have hp:=g.hp
 have pr:=g.pr
 obtain rfl:=g.hv
 have va:=Vec.dn (p:=p) (by omega) (isT_tms ha)
 have vb:=Vec.dn (p:=p) (by omega) (isT_tms hb)
 have o : ∀ x y : T2,isT p (2 ^ u) x=true->isT p (2 ^ u) y=true->ok2 p (u : Int) x y=true:=fun x y hx hy => by rw [ok2,pr,hn,hx,hy]; rfl
 have vm : ∀ x y : List Int,Vec p (2 ^ u) (mulD p (2 ^ u) x y):=fun x y => Vec.mulD (by omega) _ _ _
 have vs : Vec p (2 ^ u) (addD p 1 (dnT (2 ^ u) a) (dnT (2 ^ u) b)):=Vec.addD (by omega) va.1 vb.1
 have m : ∀ x y : T2,isT p (2 ^ u) x=true->isT p (2 ^ u) y=true->mulR p (u : Int) x y=spT (mulD p (2 ^ u) (dnT (2 ^ u) x) (dnT (2 ^ u) y)):=fun x y hx hy => by
  rw [mulR,o x y hx hy,if_pos rfl,dnV,dnV,hn]
 have s : ∀ x y : T2,isT p (2 ^ u) x=true->isT p (2 ^ u) y=true->addR p (u : Int) x y=spT (addD p 1 (dnT (2 ^ u) x) (dnT (2 ^ u) y)):=fun x y hx hy => by
  rw [addR,o x y hx hy,if_pos rfl,dnV,dnV,hn]
 have tm : ∀ x y : T2,isT p (2 ^ u) x=true->isT p (2 ^ u) y=true->isT p (2 ^ u) (mulR p (u : Int) x y)=true:=fun x y hx hy => by rw [m x y hx hy]; exact isT_sp' (vm _ _)
 have ts : isT p (2 ^ u) (addR p (u : Int) a b)=true:=by rw [s a b ha hb]; exact isT_sp' vs
 refine ⟨o _ _ hb ha,?_,o _ _ ha ts,o _ _ ha ha,o _ _ (tm _ _ ha ha) (tm _ _ ha hb),?_,by rw [ok1,pr,hn,tm _ _ ha hb]; rfl⟩
 . rw [m _ _ hb ha,m _ _ ha hb,mul_comm' hp.1 vb va]
 . rw [s _ _ (tm _ _ ha ha) (tm _ _ ha hb),m _ _ ha ts,m _ _ ha ha,m _ _ ha hb,s _ _ ha hb,dn_spV (vm _ _),dn_spV (vm _ _),dn_spV vs,mul_add' hp.1 va vb]
theorem deg_mulR {p v : Int} {a b : T2} (h : ok2 p v a b=true) : (0<=degD (dnV v a)->0<=degD (dnV v b)->degD (dnV v (mulR p v a b))<=degD (dnV v a) + degD (dnV v b)) ∧
 ((degD (dnV v a) < 0∨degD (dnV v b) < 0)->degD (dnV v (mulR p v a b)) < 0):=by
 obtain ⟨u,g,hn,ha,hb⟩:=ok2_of h
 have hp:=g.hp
 have va:=Vec.dn (p:=p) (by omega) (isT_tms ha)
 have vb:=Vec.dn (p:=p) (by omega) (isT_tms hb)
 have vm : Vec p (2 ^ u) (mulD p (2 ^ u) (dnT (2 ^ u) a) (dnT (2 ^ u) b)):=Vec.mulD (by omega) _ _ _
 rw [mulR,h,if_pos rfl]
 simp only [dnV,hn]
 rw [dn_spV vm]
 exact deg_mul hp.1 g.hu va vb
theorem polyR_ok1 {p v : Int} {ts : T2} (h : okPO p v ts=true) : ok1 p v (polyR p v ts)=true:=by
 have h':=h
 rw [okPO,Bc] at h'
 obtain ⟨hp,hu0,hu6⟩:=primeB_of h'.1
 rw [polyR,h,if_pos rfl,ok1,h'.1,isT_sp' (Vec.sumP (by omega) _ _)]
 rfl
theorem polyR_len (p v : Int) (ts : T2) : (polyR p v ts).length<=64:=by
 unfold polyR
 cases h : okPO p v ts with
 | false => simp
 | true =>
   rw [okPO,Bc] at h
   obtain ⟨hp,hu0,hu6⟩:=primeB_of h.1
   obtain ⟨u,rfl⟩:=Int.eq_ofNat_of_zero_le hu0
   rw [if_pos rfl]
   have h6:=pow_le6 (u:=u) (by omega)
   have:=(Vec.sumP (p:=p) (by omega) (nV u) ts).1
   have h8:=sp_len (sumP p (nV u) ts)
   have e : nV (u : Int)=2 ^ u:=rfl
   omega
theorem setR_len (p v : Int) (a : T2) (l : Int) : (setR p v a l).length<=64:=by
 unfold setR
 cases h : okL p v a l with
 | false => simp
 | true =>
   rw [okL,Bc] at h
   obtain ⟨u,g,hn,ha⟩:=ok1_of h.1
   have h6:=pow_le6 g.hu
   have hp:=g.hp
   rw [if_pos rfl,hn]
   have:=(Vec.sumP (p:=p) (by omega) (2 ^ u) (setL (l.natAbs - 1) (decide (0 < l)) a)).1
   have h8:=sp_len (setV p (2 ^ u) (l.natAbs - 1) (decide (0 < l)) a)
   unfold setV at h8 ⊢
   omega
theorem scaleR_len (p v : Int) (a : T2) (k : Int) : (scaleR p v a k).length<=64:=by
 unfold scaleR
 cases h : okS p v a k with
 | false => simp
 | true =>
   rw [okS,Bc] at h
   obtain ⟨u,g,hn,ha⟩:=ok1_of h.1
   have h6:=pow_le6 g.hu
   have hp:=g.hp
   rw [if_pos rfl,dnV,hn]
   have:=(Vec.addD (p:=p) (k:=k) (n:=2 ^ u) (a:=List.replicate (2 ^ u) 0) (b:=dnT (2 ^ u) a) (by omega) (by simp) (dnT_len _ _)).1
   have h8:=sp_len (addD p k (List.replicate (2 ^ u) 0) (dnT (2 ^ u) a))
   omega
theorem setR_again {p v : Int} {a : T2} {l : Int} (h : okL p v a l=true) : okL p v (setR p v a l) (0 - l)=true∧setR p v (setR p v a l) (0 - l)=setR p v a l:=by
 have h':=h
 rw [okL,Bc] at h'
 obtain ⟨u,g,hn,ha⟩:=ok1_of h'.1
 obtain ⟨hl0,hlu⟩:=lit_of g.hu (by rw [← g.hv]; exact h'.2)
 have hp:=g.hp
 have hu:=g.hu
 have pr:=g.pr
 obtain rfl:=g.hv
 have h6:=pow_le6 hu
 have hv : Vec p (2 ^ u) (setV p (2 ^ u) (l.natAbs - 1) (decide (0 < l)) a):=Vec.sumP (by omega) _ _
 have e : setR p (u : Int) a l=spT (setV p (2 ^ u) (l.natAbs - 1) (decide (0 < l)) a):=by rw [setR,h,if_pos rfl,hn]
 have hk : okL p (u : Int) (setR p (u : Int) a l) (0 - l)=true:=by
  rw [okL,ok1,pr,hn,e,isT_sp' hv]
  have ew : IntKind.i64.wrap (0 - (u : Int))=0 - u:=wrap_of (by omega)
  simp only [okLit,ew,Bool.true_and,Bc,decide_eq_true_eq]
  omega
 refine ⟨hk,?_⟩
 rw [setR,hk,if_pos rfl,hn,e,show (0 - l).natAbs=l.natAbs by omega,set_again (by omega) (by omega) (by omega)]
theorem vPoly_self (a : T2) (hl : a.length<=4294967296) : Ctr Tryd.prog 11 [D.tms a,D.tms a] false (.d (.bool true)) []:=by
 refine Ctr.of (n:=26) (rs:=[.tmp 4]) Tryd.func11 rfl rfl Tryd.ntmps11 rfl rfl (by kernel_rfl) Tryd.checked.mixed ?_
 simp (disch:=first | omega | decide +kernel) only [List.length_map,go_sem,Qa,Qb,Qc,Qd,Qe,↓reduceIte,reduceCtorEq,Qf,Qg,Qh]
 (repeat' (first | ((first | (refine gsel_split (fun q' => ?_) (fun q' => ?_)<;>(have h':=q')<;>(try simp only [za1,za2,Ba,Bb,za3,ne_eq,za4,za5,za6,Ia,Ib,Ic,Ie,Da,Bc,Bh,Be,za7,za8] at h')<;>try (exfalso; omega)) | (have q':=trivial; first | refine hE _ _ ret_ne ?_ | refine hE _ _ exit_ne ?_))<;>(try simp (disch:=first | omega | decide +kernel) only [q',List.length_map,go_sem,Qa,Qb,Qc,Qd,Qe,↓reduceIte,reduceCtorEq,Qf,Qg,Qh])<;>clear q') | refine hN _ ?_ ?_ Wk.kk | with_reducible refine And.intro ?_ ?_ | with_reducible omega | exact ok_ints | exact cells_ints | exact no_mem | with_reducible exact plain_ints | (refine le_maxLen ?_; omega) | (refine za9 ⟨?_,?_⟩) | (simp only [go_sem,Qc,Qb,zb1,zb2,forall_eq]; done)))
 . exact absurd trivial h'
 refine Ok.loopC [25,24,23,22,21,20,19,18,17,16,15,14,13,12,11,10,9,8,7,6,5,4,3,2] (fun i => [(5,.d (.int .i64 (i : Nat)))]) a.length (fun i => True) trivial (Wk.kk) ?_
 intro R i hN hE hi _
 by_cases hlt : i < a.length
 . have h1:=el_tm (xs:=a) hlt
   generalize a.getD i (0,0)=t at *
   simp (disch:=first | omega | decide +kernel) only [h1,go_sem,Qa,Qb,Qc,Qd,Qe,↓reduceIte,reduceCtorEq,Qf,Qg,Qh]
   (repeat' (first | ((first | (refine gsel_split (fun q' => ?_) (fun q' => ?_)<;>(have h':=q')<;>(try simp only [za1,za2,Ba,Bb,za3,ne_eq,za4,za5,za6,Ia,Ib,Ic,Ie,Da,Bc,Bh,Be,za7,za8] at h')<;>try (exfalso; omega)) | (have q':=trivial; first | refine hE _ _ ret_ne ?_ | refine hE _ _ exit_ne ?_))<;>(try simp (disch:=first | omega | decide +kernel) only [q',h1,go_sem,Qa,Qb,Qc,Qd,Qe,↓reduceIte,reduceCtorEq,Qf,Qg,Qh])<;>clear q') | refine hN _ ?_ ?_ Wk.kk | with_reducible refine And.intro ?_ ?_ | with_reducible omega | exact ok_ints | exact cells_ints | exact no_mem | with_reducible exact plain_ints | (refine le_maxLen ?_; omega) | (refine za9 ⟨?_,?_⟩) | (simp only [go_sem,Qc,Qb,zb1,zb2,forall_eq]; done)))
   all_goals (first | omega | exact absurd rfl h' | exact absurd trivial h' | (simp at h'; done))
 . obtain rfl : i=a.length:=by omega
   simp (disch:=first | omega | decide +kernel) only [List.length_map,go_sem,Qa,Qb,Qc,Qd,Qe,↓reduceIte,reduceCtorEq,Qf,Qg,Qh]
   (repeat' (first | ((first | (refine gsel_split (fun q' => ?_) (fun q' => ?_)<;>(have h':=q')<;>(try simp only [za1,za2,Ba,Bb,za3,ne_eq,za4,za5,za6,Ia,Ib,Ic,Ie,Da,Bc,Bh,Be,za7,za8] at h')<;>try (exfalso; omega)) | (have q':=trivial; first | refine hE _ _ ret_ne ?_ | refine hE _ _ exit_ne ?_))<;>(try simp (disch:=first | omega | decide +kernel) only [q',List.length_map,go_sem,Qa,Qb,Qc,Qd,Qe,↓reduceIte,reduceCtorEq,Qf,Qg,Qh])<;>clear q') | refine hN _ ?_ ?_ Wk.kk | with_reducible refine And.intro ?_ ?_ | with_reducible omega | exact ok_ints | exact cells_ints | exact no_mem | with_reducible exact plain_ints | (refine le_maxLen ?_; omega) | (refine za9 ⟨?_,?_⟩) | (simp only [go_sem,Qc,Qb,zb1,zb2,forall_eq]; done)))
theorem vBigP_ok (code : List Int) : Ctr Tryd.prog 7 [D.bytes code] false (.d (.bool (decide (65536 < code.length)))) []:=by
 refine Ctr.of (n:=6) (rs:=[.tmp 2]) Tryd.func7 rfl rfl Tryd.ntmps7 rfl rfl (by kernel_rfl) Tryd.checked.mixed ?_
 simp (disch:=first | omega | decide +kernel) only [D.bytes,go_sem,Qa,Qb,Qc,Qd,Qe,↓reduceIte,reduceCtorEq,Qf,Qg,Qh]
 (repeat' (first | ((first | (refine gsel_split (fun q' => ?_) (fun q' => ?_)<;>(have h':=q')<;>(try simp only [za1,za2,Ba,Bb,za3,ne_eq,za4,za5,za6,Ia,Ib,Ic,Ie,Da,Bc,Bh,Be,za7,za8] at h')) | (have q':=trivial; first | refine hE _ _ ret_ne ?_ | refine hE _ _ exit_ne ?_))<;>(try simp (disch:=first | omega | decide +kernel) only [q',D.bytes,go_sem,Qa,Qb,Qc,Qd,Qe,↓reduceIte,reduceCtorEq,Qf,Qg,Qh])<;>clear q') | refine hN _ ?_ ?_ Wk.kk | with_reducible refine And.intro ?_ ?_ | with_reducible omega | exact ok_ints | exact cells_ints | exact no_mem | with_reducible exact plain_ints | (refine le_maxLen ?_; omega) | (refine za9 ⟨?_,?_⟩) | (simp only [go_sem,Qc,Qb,zb1,zb2,forall_eq]; done)))
 congr 1
 exact decide_eq_decide.2 (by omega)
theorem polyDeg_ok (p v : Int) (a : T2) (hal : a.length<=1000) (h : ok1 p v a=true) : Ctr Tryd.prog 15 [.int .i64 p,.int .i64 v,D.tms a] false (.tup [.d (.int .i64 (degD (dnV v a))),.d (.bool true)]) []:=by
 obtain ⟨u,g,hn,ha⟩:=ok1_of h
 obtain rfl:=g.hv
 have:=polyDegree_ok g.hp g.hu g.pr (a:=a) (by omega) ha
 rw [dnV,hn]
 exact this
end Abs.Y
