/- What functions of this program compute, over plain data. No condition. -/
import Derived.Test.YtdohpocdlkcaoaaGreatK0
import Derived.Test.YtdohpocdlkcaoaaGreatAbsOwn
set_option linter.all false
namespace Abs
open Go Go.Proofs
theorem ret_scb {P : Program} {a j : Nat} {t e : TypeId} {cells : List AV} {ds : List D} {st : St} (js : List Nat) (h : lk a (frzs js st).s=some (.p j 0)) (hj : lk j (frzs js st).o=some (.box e cells)) (hag : aggT P t=true) (hn : P.cellsOf t=cells.length) (hd : allD cells=some ds) (hu : (P.underlying t).isSome=true) :
 retQ P [.cell a t] true (.d (.agg ds)) [] .ret st:=by
 refine .inr ⟨rfl,js,?_⟩
 have hl : (lk a (frzs js st).s).bind (loadV P (frzs js st).o t)=some (0 + P.cellsOf t<=cells.length∧(P.underlying t).isSome=true,.d (.agg ds)):=by
  rw [h,Option.bind_some,loadV,hj]
  simp only [hag,if_true,List.drop_zero,hn,List.take_length,hd]
 simp only [retO,resV,hl]
 exact ⟨⟨hu,⟨by omega,hu⟩,trivial⟩,.nil rfl,.inl trivial⟩
theorem ret_cstd {P : Program} {a j i u : Nat} {t e : TypeId} {cells cs' : List AV} {ob : AO} {y : D} {st : St} (h : lk a st.s=some (.p j 0)) (h' : lk u st.s=some (.d y)) (hj : lk j st.o=some (.box e cells)) (hag : aggT P t=true) (hn : P.cellsOf t=cells.length) (hd : allD cells=none)
 (hu : (P.underlying t).isSome=true) (hi : lk i st.o=some ob) (hc : cells=AV.renL (fun _ => i) cs') (hp : AV.plainL cs') (hop : ob.plain) (hr : ob.ren (fun _ => i)=ob) (hy : y.plain=true) :
 retQ P [.cell a t,.tmp u] false (.tup [.st cs',.d y]) [(0,ob)] .ret st:=by
 refine .inl ?_
 have hl : (lk a st.s).bind (loadV P st.o t)=some (0 + P.cellsOf t<=cells.length∧(P.underlying t).isSome=true,.st cells):=by
  rw [h,Option.bind_some,loadV,hj]
  simp only [hag,if_true,List.drop_zero,hn,List.take_length,hd]
 simp only [retO,resV,hl,h']
 exact ⟨⟨hu,⟨by omega,hu⟩,trivial⟩,.one i (by simp only [oneOf,AV.ren,AV.renL,hc]) (by rw [hr]; exact hi),.inr ⟨⟨hp,hy,trivial⟩,hop,trivial⟩⟩
theorem ret_cbd {P : Program} {a j u : Nat} {t e : TypeId} {cells : List AV} {ds : List D} {y : D} {st : St} (h : lk a st.s=some (.p j 0)) (h' : lk u st.s=some (.d y)) (hj : lk j st.o=some (.box e cells)) (hag : aggT P t=true) (hn : P.cellsOf t=cells.length) (hd : allD cells=some ds)
 (hu : (P.underlying t).isSome=true) (hp : (D.agg ds).plain=true) (hy : y.plain=true) : retQ P [.cell a t,.tmp u] false (.tup [.d (.agg ds),.d y]) [] .ret st:=by
 refine .inl ?_
 have hl : (lk a st.s).bind (loadV P st.o t)=some (0 + P.cellsOf t<=cells.length∧(P.underlying t).isSome=true,.d (.agg ds)):=by
  rw [h,Option.bind_some,loadV,hj]
  simp only [hag,if_true,List.drop_zero,hn,List.take_length,hd]
 simp only [retO,resV,hl,h']
 exact ⟨⟨hu,⟨by omega,hu⟩,trivial⟩,.nil rfl,.inr ⟨⟨hp,hy,trivial⟩,trivial⟩⟩
theorem ret_scbd {P : Program} {a j u : Nat} {t e : TypeId} {cells : List AV} {ds : List D} {y : D} {st : St} (js : List Nat) (h : lk a (frzs js st).s=some (.p j 0)) (h' : lk u (frzs js st).s=some (.d y)) (hj : lk j (frzs js st).o=some (.box e cells)) (hag : aggT P t=true) (hn : P.cellsOf t=cells.length) (hd : allD cells=some ds) (hu : (P.underlying t).isSome=true) :
 retQ P [.cell a t,.tmp u] true (.tup [.d (.agg ds),.d y]) [] .ret st:=by
 refine .inr ⟨rfl,js,?_⟩
 have hl : (lk a (frzs js st).s).bind (loadV P (frzs js st).o t)=some (0 + P.cellsOf t<=cells.length∧(P.underlying t).isSome=true,.d (.agg ds)):=by
  rw [h,Option.bind_some,loadV,hj]
  simp only [hag,if_true,List.drop_zero,hn,List.take_length,hd]
 simp only [retO,resV,hl,h']
 exact ⟨⟨hu,⟨by omega,hu⟩,trivial⟩,.nil rfl,.inl trivial⟩
end Abs
namespace Abs.Y
open Go Go.Proofs Abs
open Nat renaming reduceEqDiff -> Qa, reduceLT -> Qb, reduceAdd -> Qc, reduceMul -> Qd, reduceSub -> Qe, reduceLeDiff -> Qf, reduceSubDiff -> Qg, reduceBEq -> Qh
open Bool renaming not_eq_true' -> Ba, not_eq_false' -> Bb, and_eq_true -> Bc, or_eq_true -> Bd, or_eq_false_iff -> Be
open Int renaming ofNat_lt -> Ia, ofNat_le -> Ib, not_lt -> Ic, not_le -> Ie
open Decidable renaming not_not -> Da
set_option maxRecDepth 100000

structure Pl where
 co : List Int
 bd : Int
deriving DecidableEq
@[reducible] def D.pl (p : Pl) : D:=.agg [.ints p.co,.int .i64 p.bd]
def plS (p : Pl) (l : Int) : Pl:=if 0 < l then ⟨p.co.set (l - 1).toNat 1,p.bd⟩ else ⟨p.co.set (0 - l - 1).toNat (-1),p.bd - 1⟩
def planI (u : Int) (c : List Int) : Pl:=c.foldl plS ⟨List.replicate u.toNat 0,1⟩
def Bd (n : Int) (p : Pl) : Prop:=(∀ j,-n<=p.co.getD j 0∧p.co.getD j 0<=n)∧-n<=p.bd∧p.bd<=n
theorem plS_len (p : Pl) (l : Int) : (plS p l).co.length=p.co.length:=by unfold plS; split<;>simp
theorem bd_plS {n : Int} {p : Pl} (h : Bd n p) (hn : 1<=n) (l : Int) : Bd (n + 1) (plS p l):=by
 obtain ⟨h1,h2⟩:=h
 unfold plS
 split
 . refine ⟨fun j => ?_,by simp only; omega⟩
   by_cases hl : (l - 1).toNat < p.co.length
   . dsimp only; rw [set_getDz 0 _ _ _ _ hl]; have:=h1 j; split<;>omega
   . dsimp only; rw [List.set_eq_of_length_le (by omega)]; have:=h1 j; omega
 . refine ⟨fun j => ?_,by simp only; omega⟩
   by_cases hl : (0 - l - 1).toNat < p.co.length
   . dsimp only; rw [set_getDz 0 _ _ _ _ hl]; have:=h1 j; split<;>omega
   . dsimp only; rw [List.set_eq_of_length_le (by omega)]; have:=h1 j; omega
theorem bd_zero (n : Nat) (b : Int) (h : -1<=b∧b<=1) : Bd 1 ⟨List.replicate n 0,b⟩:=⟨fun j => by simp [List.getD_eq_getElem?_getD,List.getElem?_replicate]; split<;>simp,h⟩
theorem plane_inv (u : Int) : ∀ (c : List Int) (p : Pl) (n : Int),1<=n->Bd n p->p.co.length=u.toNat->Bd (n + c.length) (c.foldl plS p)∧(c.foldl plS p).co.length=u.toNat
 | [],p,n,_,h,hl => ⟨by simpa using h,hl⟩
 | l :: r, p, n, hn, h, hl => by
   have:=plane_inv u r (plS p l) (n + 1) (by omega) (bd_plS h hn l) (by rw [plS_len]; exact hl)
   refine ⟨?_,this.2⟩
   have e : n + 1 + (r.length : Int)=n + ((l :: r).length : Nat):=by simp; omega
   rw [← e]; exact this.1
theorem planI_inv (u : Int) (c : List Int) : Bd (1 + c.length) (planI u c)∧(planI u c).co.length=u.toNat :=
 plane_inv u c _ 1 (by omega) (bd_zero _ _ (by omega)) (by simp)
def Lits (u : Int) (c : List Int) : Prop:=0<=u∧u<=12∧∀ x ∈ c,x ≠ 0∧-u<=x∧x<=u
theorem lits_ok {u : Int} {c : List Int} (h : okClause u c=true) : Lits u c:=by
 simp only [okClause,Bc,decide_eq_true_eq] at h
 obtain ⟨h1,h2⟩:=h
 have:=okVars_iff.1 h1
 refine ⟨this.1,this.2,fun x hx => ?_⟩
 obtain ⟨j,hj,rfl⟩:=List.getElem_of_mem hx
 have:=(h2 j hj).1
 simpa [List.getD_eq_getElem?_getD,hj] using this
set_option maxHeartbeats 4000000 in
theorem planeOf_ok (u : Int) (c : List Int) (hl : c.length<=4294967296) (hc : Lits u c) : Ctr Tryz.prog 79 [.int .i64 u,.ints c] true (.d (D.pl (planI u c))) []:=by
 obtain ⟨hu0,hu1,hcx⟩:=hc
 refine Ctr.of (n:=36) (rs:=[.cell 4 43]) Tryz.func79 rfl rfl Tryz.ntmps79 rfl rfl (by kernel_rfl) Tryz.checked.mixed ?_
 simp (disch:=first | omega | decide +kernel) only [D.ints,go_sem,Qa,Qb,Qc,Qd,Qe,↓reduceIte,reduceCtorEq,Qf,Qg,Qh]
 refine ⟨by omega,?_⟩
 rw [show List.replicate u.toNat (D.int .i64 0)=(List.replicate u.toNat (0 : Int)).map (D.int .i64) by simp]
 refine Ok.loopN [34,33,32,31,30,29,28,27,26,25,24,23,22,21,20,19,18,17,16,15,14,13,10,9,8,7,6,3,2,1,0] (fun i _ => [(13,.d (.int .i64 (i : Nat)))]) (fun _ (cur : Pl) => [(5,.box 43 [.sl 9,.d (.int .i64 cur.bd)]),(9,.arr 3 1 (List.map (D.int .i64) cur.co))]) c.length
  (fun i cur => cur.co.length=u.toNat∧Bd (1 + (i : Int)) cur∧(c.drop i).foldl plS cur=planI u c) ⟨List.replicate u.toNat 0,1⟩
  ⟨by simp,by simpa using bd_zero u.toNat 1 (by omega),rfl⟩ (Wk.kk) ?_
 rintro R i cur hN hE hi ⟨hcl,hcb,hcu⟩
 by_cases hlt : i < c.length
 . have hx:=hcx _ (getD_mem (z:=(0 : Int)) hlt)
   have hb:=hcb.2
   have hi1 : (1 : Int) + ((i + 1 : Nat) : Int)=1 + (i : Int) + 1:=by omega
   rw [drop_cons 0 c i hlt,List.foldl_cons] at hcu
   simp (disch:=first | omega | decide +kernel) only [go_sem,Qa,Qb,Qc,Qd,Qe,↓reduceIte,reduceCtorEq,Qf,Qg,Qh]
   (repeat' (first | ((first | (refine gsel_split (fun q' => ?_) (fun q' => ?_)<;>(have h':=q')<;>(try simp only [za1,za2,Ba,Bb,za3,ne_eq,za4,za5,za6,Ia,Ib,Ic,Ie,Da,Bc,Bd,Be,za7,za8] at h')) | (have q':=trivial; first | refine hE _ _ ret_ne ?_ | refine hE _ _ exit_ne ?_))<;>(try simp (disch:=first | omega | decide +kernel) only [q',go_sem,Qa,Qb,Qc,Qd,Qe,↓reduceIte,reduceCtorEq,Qf,Qg,Qh])<;>clear q') | refine hN _ ?_ ?_ Wk.kk | with_reducible refine And.intro ?_ ?_ | with_reducible omega | exact ok_ints | exact cells_ints | exact no_mem | with_reducible exact plain_ints | (refine le_maxLen ?_; omega) | (refine za9 ⟨?_,?_⟩) | (simp only [go_sem,Qc,Qb,zb1,zb2,forall_eq]; done)))
   . have e : plS cur (c.getD i 0)=⟨cur.co.set (c.getD i 0 - 1).toNat 1,cur.bd⟩:=by rw [plS,if_pos h']
     rw [e] at hcu
     exact hN ⟨cur.co.set (c.getD i 0 - 1).toNat 1,cur.bd⟩ _ hlt ⟨by simp [hcl],by rw [← e,hi1]; exact bd_plS hcb (by omega) _,hcu⟩ (Wk.kk)
   . have e : plS cur (c.getD i 0)=⟨cur.co.set (0 - c.getD i 0 - 1).toNat (-1),cur.bd - 1⟩:=by rw [plS,if_neg (by omega)]
     rw [e] at hcu
     exact hN ⟨cur.co.set (0 - c.getD i 0 - 1).toNat (-1),cur.bd - 1⟩ _ hlt ⟨by simp [hcl],by rw [← e,hi1]; exact bd_plS hcb (by omega) _,hcu⟩ (Wk.kk)
 . rw [List.drop_eq_nil_of_le (by omega)] at hcu
   simp (disch:=first | omega | decide +kernel) only [go_sem,Qa,Qb,Qc,Qd,Qe,↓reduceIte,reduceCtorEq,Qf,Qg,Qh]
   (repeat' (first | ((first | (refine gsel_split (fun q' => ?_) (fun q' => ?_)<;>(have h':=q')<;>(try simp only [za1,za2,Ba,Bb,za3,ne_eq,za4,za5,za6,Ia,Ib,Ic,Ie,Da,Bc,Bd,Be,za7,za8] at h')) | (have q':=trivial; first | refine hE _ _ ret_ne ?_ | refine hE _ _ exit_ne ?_))<;>(try simp (disch:=first | omega | decide +kernel) only [q',go_sem,Qa,Qb,Qc,Qd,Qe,↓reduceIte,reduceCtorEq,Qf,Qg,Qh])<;>clear q') | refine hN _ ?_ ?_ Wk.kk | with_reducible refine And.intro ?_ ?_ | with_reducible omega | exact ok_ints | exact cells_ints | exact no_mem | with_reducible exact plain_ints | (refine le_maxLen ?_; omega) | (refine za9 ⟨?_,?_⟩) | (simp only [go_sem,Qc,Qb,zb1,zb2,forall_eq]; done)))
   rw [← hcu]
   exact ret_scb [9] rfl rfl (by simp only [go_sem]) (by simp only [go_sem,List.length_cons,List.length_nil]) rfl (by simp only [go_sem])
set_option maxHeartbeats 4000000 in
theorem l16OfClause_ok (u : Int) (c : List Int) (hl : c.length<=4294967296) (hc : Lits u c) : Ctr Tryz.prog 44 [.int .i64 u,.ints c] true (.d (D.pl (planI u c))) []:=by
 obtain ⟨hu0,hu1,hcx⟩:=hc
 refine Ctr.of (n:=43) (rs:=[.cell 4 43]) Tryz.func44 rfl rfl Tryz.ntmps44 rfl rfl (by kernel_rfl) Tryz.checked.mixed ?_
 simp (disch:=first | omega | decide +kernel) only [D.ints,go_sem,Qa,Qb,Qc,Qd,Qe,↓reduceIte,reduceCtorEq,Qf,Qg,Qh]
 refine ⟨by omega,?_⟩
 rw [show List.replicate u.toNat (D.int .i64 0)=(List.replicate u.toNat (0 : Int)).map (D.int .i64) by simp]
 refine Ok.loopN [41,40,39,38,37,36,35,34,33,32,31,30,29,28,27,26,25,24,23,22,21,20,19,18,17,16,15,14,13,12,11,10,9,8,7,6,3,2,0] (fun i _ => [(6,.d (.int .i64 (i : Nat)))]) (fun _ (cur : Pl) => [(5,.box 43 [.sl 8,.d (.int .i64 cur.bd)]),(8,.arr 3 1 (List.map (D.int .i64) cur.co))]) c.length
  (fun i cur => cur.co.length=u.toNat∧Bd (1 + (i : Int)) cur∧(c.drop i).foldl plS cur=planI u c) ⟨List.replicate u.toNat 0,1⟩
  ⟨by simp,by simpa using bd_zero u.toNat 1 (by omega),rfl⟩ (Wk.kk) ?_
 rintro R i cur hN hE hi ⟨hcl,hcb,hcu⟩
 by_cases hlt : i < c.length
 . have hx:=hcx _ (getD_mem (z:=(0 : Int)) hlt)
   have hb:=hcb.2
   have hi1 : (1 : Int) + ((i + 1 : Nat) : Int)=1 + (i : Int) + 1:=by omega
   rw [drop_cons 0 c i hlt,List.foldl_cons] at hcu
   simp (disch:=first | omega | decide +kernel) only [go_sem,Qa,Qb,Qc,Qd,Qe,↓reduceIte,reduceCtorEq,Qf,Qg,Qh]
   (repeat' (first | ((first | (refine gsel_split (fun q' => ?_) (fun q' => ?_)<;>(have h':=q')<;>(try simp only [za1,za2,Ba,Bb,za3,ne_eq,za4,za5,za6,Ia,Ib,Ic,Ie,Da,Bc,Bd,Be,za7,za8] at h')) | (have q':=trivial; first | refine hE _ _ ret_ne ?_ | refine hE _ _ exit_ne ?_))<;>(try simp (disch:=first | omega | decide +kernel) only [q',go_sem,Qa,Qb,Qc,Qd,Qe,↓reduceIte,reduceCtorEq,Qf,Qg,Qh])<;>clear q') | refine hN _ ?_ ?_ Wk.kk | with_reducible refine And.intro ?_ ?_ | with_reducible omega | exact ok_ints | exact cells_ints | exact no_mem | with_reducible exact plain_ints | (refine le_maxLen ?_; omega) | (refine za9 ⟨?_,?_⟩) | (simp only [go_sem,Qc,Qb,zb1,zb2,forall_eq]; done)))
   . have e : plS cur (c.getD i 0)=⟨cur.co.set (c.getD i 0 - 1).toNat 1,cur.bd⟩:=by rw [plS,if_pos h']
     rw [e] at hcu
     exact hN ⟨cur.co.set (c.getD i 0 - 1).toNat 1,cur.bd⟩ _ hlt ⟨by simp [hcl],by rw [← e,hi1]; exact bd_plS hcb (by omega) _,hcu⟩ (Wk.kk)
   . have e : plS cur (c.getD i 0)=⟨cur.co.set (0 - c.getD i 0 - 1).toNat (-1),cur.bd - 1⟩:=by rw [plS,if_neg (by omega)]
     rw [e] at hcu
     exact hN ⟨cur.co.set (0 - c.getD i 0 - 1).toNat (-1),cur.bd - 1⟩ _ hlt ⟨by simp [hcl],by rw [← e,hi1]; exact bd_plS hcb (by omega) _,hcu⟩ (Wk.kk)
 . rw [List.drop_eq_nil_of_le (by omega)] at hcu
   simp (disch:=first | omega | decide +kernel) only [go_sem,Qa,Qb,Qc,Qd,Qe,↓reduceIte,reduceCtorEq,Qf,Qg,Qh]
   (repeat' (first | ((first | (refine gsel_split (fun q' => ?_) (fun q' => ?_)<;>(have h':=q')<;>(try simp only [za1,za2,Ba,Bb,za3,ne_eq,za4,za5,za6,Ia,Ib,Ic,Ie,Da,Bc,Bd,Be,za7,za8] at h')) | (have q':=trivial; first | refine hE _ _ ret_ne ?_ | refine hE _ _ exit_ne ?_))<;>(try simp (disch:=first | omega | decide +kernel) only [q',go_sem,Qa,Qb,Qc,Qd,Qe,↓reduceIte,reduceCtorEq,Qf,Qg,Qh])<;>clear q') | refine hN _ ?_ ?_ Wk.kk | with_reducible refine And.intro ?_ ?_ | with_reducible omega | exact ok_ints | exact cells_ints | exact no_mem | with_reducible exact plain_ints | (refine le_maxLen ?_; omega) | (refine za9 ⟨?_,?_⟩) | (simp only [go_sem,Qc,Qb,zb1,zb2,forall_eq]; done)))
   rw [← hcu]
   exact ret_scb [8] rfl rfl (by simp only [go_sem]) (by simp only [go_sem,List.length_cons,List.length_nil]) rfl (by simp only [go_sem])

def sgl (u v n b : Int) : Pl:=⟨(List.replicate u.toNat 0).set (v - 1).toNat n,b⟩
def litI (u l : Int) : Pl:=if 0 < l then sgl u l 1 0 else sgl u (0 - l) (-1) (-1)
theorem el_rep {x : D} {i n : Nat} (h : i < n) : el (List.replicate n x) i=x:=by simp [el,List.getD_eq_getElem?_getD,h]
theorem varPlane_ok (u v n b : Int) (hu : 0<=u∧u<=12) (hv : 1<=v∧v<=u) : Ctr Tryz.prog 153 [.int .i64 u,.int .i64 v,.int .i64 n,.int .i64 b] true (.d (D.pl (sgl u v n b))) []:=by
 rw [show D.pl (sgl u v n b)=.agg [.slice ((List.replicate u.toNat (D.int .i64 0)).set (v - 1).toNat (.int .i64 n)),.int .i64 b] by simp [sgl,List.map_set,D.ints]]
 refine Ctr.of (n:=21) (rs:=[.cell 8 43]) Tryz.func153 rfl rfl Tryz.ntmps153 rfl rfl (by kernel_rfl) Tryz.checked.mixed ?_
 simp (disch:=first | omega | decide +kernel) only [D.ints,el_rep,go_sem,Qa,Qb,Qc,Qd,Qe,↓reduceIte,reduceCtorEq,Qf,Qg,Qh]
 (repeat' (first | ((first | (refine gsel_split (fun q' => ?_) (fun q' => ?_)<;>(have h':=q')<;>(try simp only [za1,za2,Ba,Bb,za3,ne_eq,za4,za5,za6,Ia,Ib,Ic,Ie,Da,Bc,Bd,Be,za7,za8] at h')) | (have q':=trivial; first | refine hE _ _ ret_ne ?_ | refine hE _ _ exit_ne ?_))<;>(try simp (disch:=first | omega | decide +kernel) only [q',el_rep,go_sem,Qa,Qb,Qc,Qd,Qe,↓reduceIte,reduceCtorEq,Qf,Qg,Qh])<;>clear q') | refine hN _ ?_ ?_ Wk.kk | with_reducible refine And.intro ?_ ?_ | with_reducible omega | exact ok_ints | exact cells_ints | exact no_mem | with_reducible exact plain_ints | (refine le_maxLen ?_; omega) | (refine za9 ⟨?_,?_⟩) | (simp only [go_sem,Qc,Qb,zb1,zb2,forall_eq]; done)))
 exact ret_scb [11] rfl rfl (by simp only [go_sem]) (by simp only [go_sem,List.length_cons,List.length_nil]) rfl (by simp only [go_sem])
def zipL (F : Int->Int->Int) (a b : List Int) : List Int:=(List.range a.length).map fun i => F (a.getD i 0) (b.getD i 0)
def zipP (F : Int->Int->Int) (q r : Pl) : Pl:=⟨zipL F q.co r.co,F q.bd r.bd⟩
theorem zipL_len (F : Int->Int->Int) (a b : List Int) : (zipL F a b).length=a.length:=by simp [zipL]
set_option maxHeartbeats 4000000 in
theorem combined0_ok (q r : Pl) (g : FuncId) (F : Int->Int->Int) (hl : q.co.length<=4294967296) (hr : q.co.length<=r.co.length) (h0 : Ctr Tryz.prog g [.int .i64 q.bd,.int .i64 r.bd] false (.d (.int .i64 (F q.bd r.bd))) [])
 (hF : ∀ i,i < q.co.length->Ctr Tryz.prog g [.int .i64 (q.co.getD i 0),.int .i64 (r.co.getD i 0)] false (.d (.int .i64 (F (q.co.getD i 0) (r.co.getD i 0)))) []) :
 Ctr Tryz.prog 114 [D.pl q,D.pl r,.fn (.func g) [] []] false (.st [.sl 0,.d (.int .i64 (F q.bd r.bd))]) [(0,.arr 3 1 ((zipL F q.co r.co).map (.int .i64)))]:=by
 refine Ctr.of (n:=40) (rs:=[.cell 6 43]) Tryz.func114 rfl rfl Tryz.ntmps114 rfl rfl (by kernel_rfl) Tryz.checked.mixed ?_
 simp (disch:=first | omega | decide +kernel) only [D.ints,go_sem,Qa,Qb,Qc,Qd,Qe,↓reduceIte,reduceCtorEq,Qf,Qg,Qh]
 (repeat' (first | ((first | (refine gsel_split (fun q' => ?_) (fun q' => ?_)<;>(have h':=q')<;>(try simp only [za1,za2,Ba,Bb,za3,ne_eq,za4,za5,za6,Ia,Ib,Ic,Ie,Da,Bc,Bd,Be,za7,za8] at h')) | (have q':=trivial; first | refine callX_new (h0) rfl (by decide) ?_ | refine callY_new (h0) rfl ?_ | refine hE _ _ ret_ne ?_ | refine hE _ _ exit_ne ?_))<;>(try simp (disch:=first | omega | decide +kernel) only [q',D.ints,go_sem,Qa,Qb,Qc,Qd,Qe,↓reduceIte,reduceCtorEq,Qf,Qg,Qh])<;>clear q') | refine hN _ ?_ ?_ Wk.kk | with_reducible refine And.intro ?_ ?_ | with_reducible omega | exact ok_ints | exact cells_ints | exact no_mem | with_reducible exact plain_ints | (refine le_maxLen ?_; omega) | (refine za9 ⟨?_,?_⟩) | (simp only [go_sem,Qc,Qb,zb1,zb2,forall_eq]; done)))
 refine Ok.loopN [38,37,36,35,34,33,32,31,30,29,28,27,26,25,24,23,22,21,20,17,16,15,14,13,12,11,10,9,8,5,3,1,0] (fun i _ => [(20,.d (.int .i64 (i : Nat)))]) (fun _ (cur : List Int) => [(7,.box 43 [.sl 36,.d (.int .i64 (F q.bd r.bd))]),(36,.arr 3 1 (List.map (D.int .i64) cur))]) q.co.length
  (fun i cur => cur=(List.range i).map fun i => F (q.co.getD i 0) (r.co.getD i 0)) [] rfl ((Wk.nilObj 36 7 0 rfl rfl (by simp) (by decide) (e:=3) (k:=1) (by decide)).trans (by refine Wk.auto ?_ ?_<;>simp [extraK,lk,killL,St.kill,wipeO,wipeS,AV.has,AV.hasL,AO.wipe,List.map_set,updSt,insL,dropS,ins,setL])) ?_
 rintro R i cur hN hE hi hcu
 by_cases hlt : i < q.co.length
 . have c1:=hF i hlt
   have hcl : cur.length=i:=by rw [hcu]; simp
   simp (disch:=first | omega | decide +kernel) only [D.ints,go_sem,Qa,Qb,Qc,Qd,Qe,↓reduceIte,reduceCtorEq,Qf,Qg,Qh]
   (repeat' (first | ((first | (refine gsel_split (fun q' => ?_) (fun q' => ?_)<;>(have h':=q')<;>(try simp only [za1,za2,Ba,Bb,za3,ne_eq,za4,za5,za6,Ia,Ib,Ic,Ie,Da,Bc,Bd,Be,za7,za8] at h')) | (have q':=trivial; first | refine callX_new (c1) rfl (by decide) ?_ | refine callY_new (c1) rfl ?_ | refine hE _ _ ret_ne ?_ | refine hE _ _ exit_ne ?_))<;>(try simp (disch:=first | omega | decide +kernel) only [q',D.ints,go_sem,Qa,Qb,Qc,Qd,Qe,↓reduceIte,reduceCtorEq,Qf,Qg,Qh])<;>clear q') | refine hN _ ?_ ?_ Wk.kk | with_reducible refine And.intro ?_ ?_ | with_reducible omega | exact ok_ints | exact cells_ints | exact no_mem | with_reducible exact plain_ints | (refine le_maxLen ?_; omega) | (refine za9 ⟨?_,?_⟩) | (simp only [go_sem,Qc,Qb,zb1,zb2,forall_eq]; done)))
   exact hN (cur++[F (q.co.getD i 0) (r.co.getD i 0)]) _ hlt (by rw [hcu,List.range_succ,List.map_append]; rfl) (by refine Wk.auto ?_ ?_<;>simp [extraK,lk,killL,St.kill,wipeO,wipeS,AV.has,AV.hasL,AO.wipe,List.map_set,updSt,insL,dropS,ins,List.map_append])
 . simp (disch:=first | omega | decide +kernel) only [D.ints,go_sem,Qa,Qb,Qc,Qd,Qe,↓reduceIte,reduceCtorEq,Qf,Qg,Qh]
   (repeat' (first | ((first | (refine gsel_split (fun q' => ?_) (fun q' => ?_)<;>(have h':=q')<;>(try simp only [za1,za2,Ba,Bb,za3,ne_eq,za4,za5,za6,Ia,Ib,Ic,Ie,Da,Bc,Bd,Be,za7,za8] at h')) | (have q':=trivial; first | refine hE _ _ ret_ne ?_ | refine hE _ _ exit_ne ?_))<;>(try simp (disch:=first | omega | decide +kernel) only [q',go_sem,Qa,Qb,Qc,Qd,Qe,↓reduceIte,reduceCtorEq,Qf,Qg,Qh])<;>clear q') | refine hN _ ?_ ?_ Wk.kk | with_reducible refine And.intro ?_ ?_ | with_reducible omega | exact ok_ints | exact cells_ints | exact no_mem | with_reducible exact plain_ints | (refine le_maxLen ?_; omega) | (refine za9 ⟨?_,?_⟩) | (simp only [go_sem,Qc,Qb,zb1,zb2,forall_eq]; done)))
   obtain rfl : i=q.co.length:=by omega
   rw [zipL,← hcu]
   exact ret_cst rfl rfl (by simp only [go_sem]) (by simp only [go_sem,List.length_cons,List.length_nil]) rfl (by simp only [go_sem]) rfl rfl ⟨trivial,rfl,trivial⟩ plain_ints rfl
def addP (q r : Pl) : Pl:=zipP (· + ·) q r
theorem add1_ok (a b : Int) (h : -4611686018427387904<=a∧a < 4611686018427387904) (h' : -4611686018427387904<=b∧b < 4611686018427387904) : Ctr Tryz.prog 117 [.int .i64 a,.int .i64 b] false (.d (.int .i64 (a + b))) []:=by
 refine Ctr.of (n:=8) (rs:=[.tmp 4]) Tryz.func117 rfl rfl Tryz.ntmps117 rfl rfl (by kernel_rfl) Tryz.checked.mixed ?_
 simp (disch:=first | omega | decide +kernel) only [go_sem,Qa,Qb,Qc,Qd,Qe,↓reduceIte,reduceCtorEq,Qf,Qg,Qh]
 (repeat' (first | ((first | (refine gsel_split (fun q' => ?_) (fun q' => ?_)<;>(have h':=q')<;>(try simp only [za1,za2,Ba,Bb,za3,ne_eq,za4,za5,za6,Ia,Ib,Ic,Ie,Da,Bc,Bd,Be,za7,za8] at h')) | (have q':=trivial; first | refine hE _ _ ret_ne ?_ | refine hE _ _ exit_ne ?_))<;>(try simp (disch:=first | omega | decide +kernel) only [q',go_sem,Qa,Qb,Qc,Qd,Qe,↓reduceIte,reduceCtorEq,Qf,Qg,Qh])<;>clear q') | refine hN _ ?_ ?_ Wk.kk | with_reducible refine And.intro ?_ ?_ | with_reducible omega | exact ok_ints | exact cells_ints | exact no_mem | with_reducible exact plain_ints | (refine le_maxLen ?_; omega) | (refine za9 ⟨?_,?_⟩) | (simp only [go_sem,Qc,Qb,zb1,zb2,forall_eq]; done)))
theorem addPlanes_ok {q r : Pl} {n m : Int} (hl : q.co.length<=4294967296) (hr : q.co.length<=r.co.length) (bq : Bd n q) (br : Bd m r) (hn : n < 4611686018427387904) (hm : m < 4611686018427387904) :
 Ctr Tryz.prog 80 [D.pl q,D.pl r] true (.d (D.pl (addP q r))) []:=by
 have c1:=combined0_ok q r 117 (· + ·) hl hr (add1_ok _ _ (by have:=bq.2; omega) (by have:=br.2; omega)) fun i _ => add1_ok _ _ (by have:=bq.1 i; omega) (by have:=br.1 i; omega)
 refine Ctr.of (n:=8) (rs:=[.cell 4 43]) Tryz.func80 rfl rfl Tryz.ntmps80 rfl rfl (by kernel_rfl) Tryz.checked.mixed ?_
 simp (disch:=first | omega | decide +kernel) only [D.ints,go_sem,Qa,Qb,Qc,Qd,Qe,↓reduceIte,reduceCtorEq,Qf,Qg,Qh]
 (repeat' (first | ((first | (refine gsel_split (fun q' => ?_) (fun q' => ?_)<;>(have h':=q')<;>(try simp only [za1,za2,Ba,Bb,za3,ne_eq,za4,za5,za6,Ia,Ib,Ic,Ie,Da,Bc,Bd,Be,za7,za8] at h')) | (have q':=trivial; first | refine callX_new (c1) rfl (by decide) ?_ | refine callY_new (c1) rfl ?_ | refine hE _ _ ret_ne ?_ | refine hE _ _ exit_ne ?_))<;>(try simp (disch:=first | omega | decide +kernel) only [q',D.ints,go_sem,Qa,Qb,Qc,Qd,Qe,↓reduceIte,reduceCtorEq,Qf,Qg,Qh])<;>clear q') | refine hN _ ?_ ?_ Wk.kk | with_reducible refine And.intro ?_ ?_ | with_reducible omega | exact ok_ints | exact cells_ints | exact no_mem | with_reducible exact plain_ints | (refine le_maxLen ?_; omega) | (refine za9 ⟨?_,?_⟩) | (simp only [go_sem,Qc,Qb,zb1,zb2,forall_eq]; done)))
 exact ret_scb [800000] rfl rfl (by simp only [go_sem]) (by simp only [go_sem,List.length_cons,List.length_nil]) rfl (by simp only [go_sem])

set_option maxHeartbeats 4000000 in
theorem l16Add_ok {q r : Pl} {n m : Int} (hl : q.co.length<=4294967296) (hr : q.co.length<=r.co.length) (bq : Bd n q) (br : Bd m r) (hn : n < 4611686018427387904) (hm : m < 4611686018427387904) :
 Ctr Tryz.prog 45 [D.pl q,D.pl r] true (.d (D.pl (addP q r))) []:=by
 have b1:=bq.2
 have b2:=br.2
 refine Ctr.of (n:=37) (rs:=[.cell 4 43]) Tryz.func45 rfl rfl Tryz.ntmps45 rfl rfl (by kernel_rfl) Tryz.checked.mixed ?_
 simp (disch:=first | omega | decide +kernel) only [D.ints,go_sem,Qa,Qb,Qc,Qd,Qe,↓reduceIte,reduceCtorEq,Qf,Qg,Qh]
 (repeat' (first | ((first | (refine gsel_split (fun q' => ?_) (fun q' => ?_)<;>(have h':=q')<;>(try simp only [za1,za2,Ba,Bb,za3,ne_eq,za4,za5,za6,Ia,Ib,Ic,Ie,Da,Bc,Bd,Be,za7,za8] at h')) | (have q':=trivial; first | refine hE _ _ ret_ne ?_ | refine hE _ _ exit_ne ?_))<;>(try simp (disch:=first | omega | decide +kernel) only [q',go_sem,Qa,Qb,Qc,Qd,Qe,↓reduceIte,reduceCtorEq,Qf,Qg,Qh])<;>clear q') | refine hN _ ?_ ?_ Wk.kk | with_reducible refine And.intro ?_ ?_ | with_reducible omega | exact ok_ints | exact cells_ints | exact no_mem | with_reducible exact plain_ints | (refine le_maxLen ?_; omega) | (refine za9 ⟨?_,?_⟩) | (simp only [go_sem,Qc,Qb,zb1,zb2,forall_eq]; done)))
 refine Ok.loopN [35,34,33,32,31,30,29,28,27,26,25,24,23,22,21,20,19,18,17,16,15,14,13,12,11,10,9,8,7,6,1,0] (fun i _ => [(6,.d (.int .i64 (i : Nat)))]) (fun _ (cur : List Int) => [(5,.box 43 [.sl 34,.d (.int .i64 (q.bd + r.bd))]),(34,.arr 3 1 (List.map (D.int .i64) cur))]) q.co.length
  (fun i cur => cur=(List.range i).map fun i => q.co.getD i 0 + r.co.getD i 0) [] rfl ((Wk.nilObj 34 5 0 rfl rfl (by simp) (by decide) (e:=3) (k:=1) (by decide)).trans (by refine Wk.auto ?_ ?_<;>simp [extraK,lk,killL,St.kill,wipeO,wipeS,AV.has,AV.hasL,AO.wipe,List.map_set,updSt,insL,dropS,ins,setL])) ?_
 rintro R i cur hN hE hi hcu
 by_cases hlt : i < q.co.length
 . have hcl : cur.length=i:=by rw [hcu]; simp
   have b3:=bq.1 i
   have b4:=br.1 i
   simp (disch:=first | omega | decide +kernel) only [D.ints,go_sem,Qa,Qb,Qc,Qd,Qe,↓reduceIte,reduceCtorEq,Qf,Qg,Qh]
   (repeat' (first | ((first | (refine gsel_split (fun q' => ?_) (fun q' => ?_)<;>(have h':=q')<;>(try simp only [za1,za2,Ba,Bb,za3,ne_eq,za4,za5,za6,Ia,Ib,Ic,Ie,Da,Bc,Bd,Be,za7,za8] at h')) | (have q':=trivial; first | refine hE _ _ ret_ne ?_ | refine hE _ _ exit_ne ?_))<;>(try simp (disch:=first | omega | decide +kernel) only [q',go_sem,Qa,Qb,Qc,Qd,Qe,↓reduceIte,reduceCtorEq,Qf,Qg,Qh])<;>clear q') | refine hN _ ?_ ?_ Wk.kk | with_reducible refine And.intro ?_ ?_ | with_reducible omega | exact ok_ints | exact cells_ints | exact no_mem | with_reducible exact plain_ints | (refine le_maxLen ?_; omega) | (refine za9 ⟨?_,?_⟩) | (simp only [go_sem,Qc,Qb,zb1,zb2,forall_eq]; done)))
   exact hN (cur++[q.co.getD i 0 + r.co.getD i 0]) _ hlt (by rw [hcu,List.range_succ,List.map_append]; rfl) (by refine Wk.auto ?_ ?_<;>simp [extraK,lk,killL,St.kill,wipeO,wipeS,AV.has,AV.hasL,AO.wipe,List.map_set,updSt,insL,dropS,ins,List.map_append])
 . simp (disch:=first | omega | decide +kernel) only [D.ints,go_sem,Qa,Qb,Qc,Qd,Qe,↓reduceIte,reduceCtorEq,Qf,Qg,Qh]
   (repeat' (first | ((first | (refine gsel_split (fun q' => ?_) (fun q' => ?_)<;>(have h':=q')<;>(try simp only [za1,za2,Ba,Bb,za3,ne_eq,za4,za5,za6,Ia,Ib,Ic,Ie,Da,Bc,Bd,Be,za7,za8] at h')) | (have q':=trivial; first | refine hE _ _ ret_ne ?_ | refine hE _ _ exit_ne ?_))<;>(try simp (disch:=first | omega | decide +kernel) only [q',go_sem,Qa,Qb,Qc,Qd,Qe,↓reduceIte,reduceCtorEq,Qf,Qg,Qh])<;>clear q') | refine hN _ ?_ ?_ Wk.kk | with_reducible refine And.intro ?_ ?_ | with_reducible omega | exact ok_ints | exact cells_ints | exact no_mem | with_reducible exact plain_ints | (refine le_maxLen ?_; omega) | (refine za9 ⟨?_,?_⟩) | (simp only [go_sem,Qc,Qb,zb1,zb2,forall_eq]; done)))
   obtain rfl : i=q.co.length:=by omega
   rw [addP,zipP,zipL,← hcu]
   exact ret_scb [34] rfl rfl (by simp only [go_sem]) (by simp only [go_sem,List.length_cons,List.length_nil]) rfl (by simp only [go_sem])
set_option maxHeartbeats 4000000 in
theorem combined1_ok (q r : Pl) (g : FuncId) (c : D) (F : Int->Int->Int) (hl : q.co.length<=4294967296) (hr : q.co.length<=r.co.length) (h0 : Ctr Tryz.prog g [.int .i64 q.bd,.int .i64 r.bd,c] false (.d (.int .i64 (F q.bd r.bd))) [])
 (hF : ∀ i,i < q.co.length->Ctr Tryz.prog g [.int .i64 (q.co.getD i 0),.int .i64 (r.co.getD i 0),c] false (.d (.int .i64 (F (q.co.getD i 0) (r.co.getD i 0)))) []) :
 Ctr Tryz.prog 114 [D.pl q,D.pl r,.fn (.func g) [] [c]] false (.st [.sl 0,.d (.int .i64 (F q.bd r.bd))]) [(0,.arr 3 1 ((zipL F q.co r.co).map (.int .i64)))]:=by
 refine Ctr.of (n:=40) (rs:=[.cell 6 43]) Tryz.func114 rfl rfl Tryz.ntmps114 rfl rfl (by kernel_rfl) Tryz.checked.mixed ?_
 simp (disch:=first | omega | decide +kernel) only [D.ints,go_sem,Qa,Qb,Qc,Qd,Qe,↓reduceIte,reduceCtorEq,Qf,Qg,Qh]
 (repeat' (first | ((first | (refine gsel_split (fun q' => ?_) (fun q' => ?_)<;>(have h':=q')<;>(try simp only [za1,za2,Ba,Bb,za3,ne_eq,za4,za5,za6,Ia,Ib,Ic,Ie,Da,Bc,Bd,Be,za7,za8] at h')) | (have q':=trivial; first | refine callX_new (h0) rfl (by decide) ?_ | refine callY_new (h0) rfl ?_ | refine hE _ _ ret_ne ?_ | refine hE _ _ exit_ne ?_))<;>(try simp (disch:=first | omega | decide +kernel) only [q',D.ints,go_sem,Qa,Qb,Qc,Qd,Qe,↓reduceIte,reduceCtorEq,Qf,Qg,Qh])<;>clear q') | refine hN _ ?_ ?_ Wk.kk | with_reducible refine And.intro ?_ ?_ | with_reducible omega | exact ok_ints | exact cells_ints | exact no_mem | with_reducible exact plain_ints | (refine le_maxLen ?_; omega) | (refine za9 ⟨?_,?_⟩) | (simp only [go_sem,Qc,Qb,zb1,zb2,forall_eq]; done)))
 refine Ok.loopN [38,37,36,35,34,33,32,31,30,29,28,27,26,25,24,23,22,21,20,17,16,15,14,13,12,11,10,9,8,5,3,1,0] (fun i _ => [(20,.d (.int .i64 (i : Nat)))]) (fun _ (cur : List Int) => [(7,.box 43 [.sl 36,.d (.int .i64 (F q.bd r.bd))]),(36,.arr 3 1 (List.map (D.int .i64) cur))]) q.co.length
  (fun i cur => cur=(List.range i).map fun i => F (q.co.getD i 0) (r.co.getD i 0)) [] rfl ((Wk.nilObj 36 7 0 rfl rfl (by simp) (by decide) (e:=3) (k:=1) (by decide)).trans (by refine Wk.auto ?_ ?_<;>simp [extraK,lk,killL,St.kill,wipeO,wipeS,AV.has,AV.hasL,AO.wipe,List.map_set,updSt,insL,dropS,ins,setL])) ?_
 rintro R i cur hN hE hi hcu
 by_cases hlt : i < q.co.length
 . have c1:=hF i hlt
   have hcl : cur.length=i:=by rw [hcu]; simp
   simp (disch:=first | omega | decide +kernel) only [D.ints,go_sem,Qa,Qb,Qc,Qd,Qe,↓reduceIte,reduceCtorEq,Qf,Qg,Qh]
   (repeat' (first | ((first | (refine gsel_split (fun q' => ?_) (fun q' => ?_)<;>(have h':=q')<;>(try simp only [za1,za2,Ba,Bb,za3,ne_eq,za4,za5,za6,Ia,Ib,Ic,Ie,Da,Bc,Bd,Be,za7,za8] at h')) | (have q':=trivial; first | refine callX_new (c1) rfl (by decide) ?_ | refine callY_new (c1) rfl ?_ | refine hE _ _ ret_ne ?_ | refine hE _ _ exit_ne ?_))<;>(try simp (disch:=first | omega | decide +kernel) only [q',D.ints,go_sem,Qa,Qb,Qc,Qd,Qe,↓reduceIte,reduceCtorEq,Qf,Qg,Qh])<;>clear q') | refine hN _ ?_ ?_ Wk.kk | with_reducible refine And.intro ?_ ?_ | with_reducible omega | exact ok_ints | exact cells_ints | exact no_mem | with_reducible exact plain_ints | (refine le_maxLen ?_; omega) | (refine za9 ⟨?_,?_⟩) | (simp only [go_sem,Qc,Qb,zb1,zb2,forall_eq]; done)))
   exact hN (cur++[F (q.co.getD i 0) (r.co.getD i 0)]) _ hlt (by rw [hcu,List.range_succ,List.map_append]; rfl) (by refine Wk.auto ?_ ?_<;>simp [extraK,lk,killL,St.kill,wipeO,wipeS,AV.has,AV.hasL,AO.wipe,List.map_set,updSt,insL,dropS,ins,List.map_append])
 . simp (disch:=first | omega | decide +kernel) only [D.ints,go_sem,Qa,Qb,Qc,Qd,Qe,↓reduceIte,reduceCtorEq,Qf,Qg,Qh]
   (repeat' (first | ((first | (refine gsel_split (fun q' => ?_) (fun q' => ?_)<;>(have h':=q')<;>(try simp only [za1,za2,Ba,Bb,za3,ne_eq,za4,za5,za6,Ia,Ib,Ic,Ie,Da,Bc,Bd,Be,za7,za8] at h')) | (have q':=trivial; first | refine hE _ _ ret_ne ?_ | refine hE _ _ exit_ne ?_))<;>(try simp (disch:=first | omega | decide +kernel) only [q',go_sem,Qa,Qb,Qc,Qd,Qe,↓reduceIte,reduceCtorEq,Qf,Qg,Qh])<;>clear q') | refine hN _ ?_ ?_ Wk.kk | with_reducible refine And.intro ?_ ?_ | with_reducible omega | exact ok_ints | exact cells_ints | exact no_mem | with_reducible exact plain_ints | (refine le_maxLen ?_; omega) | (refine za9 ⟨?_,?_⟩) | (simp only [go_sem,Qc,Qb,zb1,zb2,forall_eq]; done)))
   obtain rfl : i=q.co.length:=by omega
   rw [zipL,← hcu]
   exact ret_cst rfl rfl (by simp only [go_sem]) (by simp only [go_sem,List.length_cons,List.length_nil]) rfl (by simp only [go_sem]) rfl rfl ⟨trivial,rfl,trivial⟩ plain_ints rfl
end Abs.Y
