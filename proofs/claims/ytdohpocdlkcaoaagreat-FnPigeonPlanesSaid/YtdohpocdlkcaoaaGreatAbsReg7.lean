/- What functions of this program compute, over plain data. No condition. -/
import Derived.Test.YtdohpocdlkcaoaaGreatAbsBox
import Derived.Test.YtdohpocdlkcaoaaGreatAbsTagR
set_option linter.all false
namespace Abs.Y
open Go Go.Proofs Abs
open Nat renaming reduceEqDiff -> Qa, reduceLT -> Qb, reduceAdd -> Qc, reduceMul -> Qd, reduceSub -> Qe, reduceLeDiff -> Qf, reduceSubDiff -> Qg, reduceBEq -> Qh
open Bool renaming not_eq_true' -> Ba, not_eq_false' -> Bb, and_eq_true -> Bc, or_eq_true -> Bd, or_eq_false_iff -> Be
open Int renaming ofNat_lt -> Ia, ofNat_le -> Ib, not_lt -> Ic, not_le -> Ie
open Decidable renaming not_not -> Da
set_option maxRecDepth 100000

abbrev Tp:=Value × PSt
def Tp.z : Tp:=(.slice none 0 0,PSt.z)
@[reducible] def D.tpl (p : Tp) : D:=.agg [.tag p.1 (p.2.q.co.map (.int .i64)),.int .i64 p.2.q.bd]
@[reducible] def D.tp (p : Tp) : D:=.agg [.tag p.1 (p.2.q.co.map (.int .i64)),.int .i64 p.2.q.bd,.int .i64 p.2.ru,.int .i64 p.2.l,.int .i64 p.2.r,.int .i64 p.2.n]
def resT (p : Tp) : Value × List D:=(p.1,p.2.q.co.map (.int .i64))
theorem el_tp {xs : List Tp} {i : Nat} (h : i < xs.length) : el (xs.map D.tp) i=D.tp (xs.getD i Tp.z):=el_map (f:=D.tp) Tp.z h
@[reducible] def plB (vars : Int) (k : Nat) : AO:=.box 69 [.d (.int .i64 vars),.sl k]
@[reducible] def plR (ps : List Tp) : AO:=.arr 47 6 (ps.map D.tp)
theorem retR_pl {P : Program} {t k1 k2 : Nat} {u : Nat->Value} {st : St} {R : AV->List (Nat × AO)->Prop} {vars : Int} {row : AO} {rs : List (Value × List D)} {x : D} (hne : k1 ≠ 0∧k2 ≠ 0∧k1 ≠ k2) (h : lk t st.s=some (.d x)) (h0 : lk 0 st.o=some (plB vars k1)) (h1 : lk k1 st.o=some row) (hrow : ∀ f,row.ren f=row) (h2 : lk k2 st.o=some (.res rs))
 (hk : lk 1000000000 st.s=some (.hdr 0 (u 0))) (hR : R (.d x) [(0,plB vars 1),(1,row),(2,.res rs)]) : retR P [.tmp t] u [0] true R .ret st:=by
 refine ⟨_,_,hR,?_⟩
 simp only [retM,resV,h]
 obtain ⟨n1,n2,n3⟩:=hne
 refine ⟨trivial,⟨nth [0,k1,k2],rfl,?_,?_,⟨rfl,hk,trivial⟩⟩,.inl trivial⟩
 . intro p hp
   simp only [List.mem_cons,List.not_mem_nil,or_false] at hp
   rcases hp with rfl | rfl | rfl
   . exact h0
   . rw [hrow]; exact h1
   . exact h2
 . intro p hp q hq e
   simp only [List.mem_cons,List.not_mem_nil,or_false] at hp hq
   rcases hp with rfl | rfl | rfl<;>rcases hq with rfl | rfl | rfl<;>simp [nth] at e<;>first | rfl | omega
def PlP (vars : Int) (ps : List Tp) (s : PSt) : AV->List (Nat × AO)->Prop:=fun r oo => ∃ v,r=.d (.int .i64 (ps.length : Nat))∧oo=[(0,plB vars 1),(1,plR (ps++[(v,s)])),(2,.res [resT (v,s)])]
set_option maxHeartbeats 4000000 in
theorem put_ok (vars : Int) (ps : List Tp) (s : PSt) (hl : ps.length<=100000) : CtrR Tryz.prog 76 [.p 0 0,.st [.sl 2,.d (.int .i64 s.q.bd),.d (.int .i64 s.ru),.d (.int .i64 s.l),.d (.int .i64 s.r),.d (.int .i64 s.n)]]
 [(0,plB vars 1),(1,plR ps),(2,.arr 3 1 (s.q.co.map (.int .i64)))] [0] true (PlP vars ps s):=by
 refine CtrR.ofO (n:=21) (rs:=[.tmp 4]) Tryz.func76 rfl rfl Tryz.ntmps76 rfl rfl (by kernel_rfl) Tryz.checked.mixed ?_; intro u
 refine Ok.tagRow 2 1 rfl (by rw [bare_ints]; trivial) rfl (fun u => .agg [.tag u (s.q.co.map (.int .i64)),.int .i64 s.q.bd,.int .i64 s.ru,.int .i64 s.l,.int .i64 s.r,.int .i64 s.n]) (fun u β F w v hb hr h => ?_) fun v => ?_
 . cases h with
   | st hl' hr' =>
     rename_i vs
     refine .agg hl' fun i hi => ?_
     have h1:=hr' i hi
     match i,hi with
     | 0, _ =>
       simp only [List.getD_cons_zero] at h1 ⊢
       generalize vs.getD 0 Go.undef=x at *
       cases h1; rw [hb]; exact .tag hr
     | 1, _ =>
       simp only [List.getD_cons_zero,List.getD_cons_succ] at h1 ⊢
       generalize vs.getD 1 Go.undef=x at *
       cases h1 with | d h => exact h
     | 2, _ =>
       simp only [List.getD_cons_zero,List.getD_cons_succ] at h1 ⊢
       generalize vs.getD 2 Go.undef=x at *
       cases h1 with | d h => exact h
     | 3, _ =>
       simp only [List.getD_cons_zero,List.getD_cons_succ] at h1 ⊢
       generalize vs.getD 3 Go.undef=x at *
       cases h1 with | d h => exact h
     | 4, _ =>
       simp only [List.getD_cons_zero,List.getD_cons_succ] at h1 ⊢
       generalize vs.getD 4 Go.undef=x at *
       cases h1 with | d h => exact h
     | 5, _ =>
       simp only [List.getD_cons_zero,List.getD_cons_succ] at h1 ⊢
       generalize vs.getD 5 Go.undef=x at *
       cases h1 with | d h => exact h
 refine Ok.go ?_
 simp (disch:=first | omega | decide +kernel) only [go_sem,Qa,Qb,Qc,Qd,Qe,↓reduceIte,reduceCtorEq,Qf,Qg,Qh]
 (repeat' (first | ((first | (refine gsel_split (fun q' => ?_) (fun q' => ?_)<;>(have h':=q')<;>(try simp only [za1,za2,Ba,Bb,za3,ne_eq,za4,za5,za6,Ia,Ib,Ic,Ie,Da,Bc,Bd,Be,za7,za8] at h')) | (have q':=trivial; first | refine hE _ _ ret_ne ?_ | refine hE _ _ exit_ne ?_))<;>(try simp (disch:=first | omega | decide +kernel) only [q',go_sem,Qa,Qb,Qc,Qd,Qe,↓reduceIte,reduceCtorEq,Qf,Qg,Qh])<;>clear q') | refine hN _ ?_ ?_ Wk.kk | with_reducible refine And.intro ?_ ?_ | with_reducible omega | exact ok_ints | exact cells_ints | exact no_mem | with_reducible exact plain_ints | (refine le_maxLen ?_; omega) | (refine za9 ⟨?_,?_⟩) | (simp only [go_sem,Qc,Qb,zb1,zb2,forall_eq]; done)))
 . rw [ok_agg]; simp [D.atom]
 . rw [show (((ps.length + 1 : Nat) : Int) - 1)=(ps.length : Nat) by omega]
   exact retR_pl (k1:=1) (k2:=2) (row:=plR (ps++[(v,s)])) (by decide) rfl rfl (by simp only [plR,List.map_append]; rfl) (fun _ => rfl) rfl rfl ⟨v,rfl,rfl⟩

@[reducible] def AV.plO (q : Pl) (j : Nat) : AV:=.st [.sl j,.d (.int .i64 q.bd)]
@[reducible] def AO.co (q : Pl) : AO:=.arr 3 1 (q.co.map (.int .i64))
theorem addPlanesO_ok {q r : Pl} {n m : Int} (hl : q.co.length<=4294967296) (hr : q.co.length<=r.co.length) (bq : Bd n q) (br : Bd m r) (hn : n < 4611686018427387904) (hm : m < 4611686018427387904) :
 Ctr Tryz.prog 80 [D.pl q,D.pl r] false (AV.plO (addP q r) 0) [(0,AO.co (addP q r))]:=by
 have c1:=combined0_ok q r 117 (· + ·) hl hr (add1_ok _ _ (by have:=bq.2; omega) (by have:=br.2; omega)) fun i _ => add1_ok _ _ (by have:=bq.1 i; omega) (by have:=br.1 i; omega)
 refine Ctr.of (n:=8) (rs:=[.cell 4 43]) Tryz.func80 rfl rfl Tryz.ntmps80 rfl rfl (by kernel_rfl) Tryz.checked.mixed ?_
 simp (disch:=first | omega | decide +kernel) only [D.ints,go_sem,Qa,Qb,Qc,Qd,Qe,↓reduceIte,reduceCtorEq,Qf,Qg,Qh]
 (repeat' (first | ((first | (refine gsel_split (fun q' => ?_) (fun q' => ?_)<;>(have h':=q')<;>(try simp only [za1,za2,Ba,Bb,za3,ne_eq,za4,za5,za6,Ia,Ib,Ic,Ie,Da,Bc,Bd,Be,za7,za8] at h')) | (have q':=trivial; first | refine callX_new (c1) rfl (by decide) ?_ | refine callY_new (c1) rfl ?_ | refine hE _ _ ret_ne ?_ | refine hE _ _ exit_ne ?_))<;>(try simp (disch:=first | omega | decide +kernel) only [q',D.ints,go_sem,Qa,Qb,Qc,Qd,Qe,↓reduceIte,reduceCtorEq,Qf,Qg,Qh])<;>clear q') | refine hN _ ?_ ?_ Wk.kk | with_reducible refine And.intro ?_ ?_ | with_reducible omega | exact ok_ints | exact cells_ints | exact no_mem | with_reducible exact plain_ints | (refine le_maxLen ?_; omega) | (refine za9 ⟨?_,?_⟩) | (simp only [go_sem,Qc,Qb,zb1,zb2,forall_eq]; done)))
 exact ret_cst rfl rfl (by simp only [go_sem]) (by simp only [go_sem,List.length_cons,List.length_nil]) rfl (by simp only [go_sem]) rfl rfl ⟨trivial,rfl,trivial⟩ plain_ints rfl
section
variable {k : Int} (hk : 1<=k∧k<=1000) {q : Pl} {n : Int} (hl : q.co.length<=4294967296) (bq : Bd n q) (hn : n < 4611686018427387904)
include hk hl bq hn
theorem scalePlaneO_ok (hn2 : n<=1000000) : Ctr Tryz.prog 77 [D.pl q,.int .i64 k] false (AV.plO (zipP (fun a _ => k * a) q q) 0) [(0,AO.co (zipP (fun a _ => k * a) q q))]:=by
 have b1:=bq.2
 have s1 : ∀ a b : Int,-n<=a∧a<=n->Ctr Tryz.prog 115 [.int .i64 a,.int .i64 b,.ptr (.int .i64 k)] false (.d (.int .i64 (k * a))) []:=fun a b ha => by
  refine Ctr.of (n:=9) (rs:=[.tmp 5]) Tryz.func115 rfl rfl Tryz.ntmps115 rfl rfl (by kernel_rfl) Tryz.checked.mixed ?_
  simp (disch:=first | omega | decide +kernel) only [go_sem,Qa,Qb,Qc,Qd,Qe,↓reduceIte,reduceCtorEq,Qf,Qg,Qh]
  (repeat' (first | ((first | (refine gsel_split (fun q' => ?_) (fun q' => ?_)<;>(have h':=q')<;>(try simp only [za1,za2,Ba,Bb,za3,ne_eq,za4,za5,za6,Ia,Ib,Ic,Ie,Da,Bc,Bd,Be,za7,za8] at h')) | (have q':=trivial; first | refine hE _ _ ret_ne ?_ | refine hE _ _ exit_ne ?_))<;>(try simp (disch:=first | omega | decide +kernel) only [q',go_sem,Qa,Qb,Qc,Qd,Qe,↓reduceIte,reduceCtorEq,Qf,Qg,Qh])<;>clear q') | refine hN _ ?_ ?_ Wk.kk | with_reducible refine And.intro ?_ ?_ | with_reducible omega | exact ok_ints | exact cells_ints | exact no_mem | with_reducible exact plain_ints | (refine le_maxLen ?_; omega) | (refine za9 ⟨?_,?_⟩) | (simp only [go_sem,Qc,Qb,zb1,zb2,forall_eq]; done)))
  all_goals (have:=mul_bd hk ha; rw [wrap_of (by omega)])
 have c2:=combined1_ok q q 115 (.ptr (.int .i64 k)) (fun a _ => k * a) hl (Nat.le_refl _) (s1 _ _ b1) fun i _ => s1 _ _ (bq.1 i)
 refine Ctr.of (n:=9) (rs:=[.cell 4 43]) Tryz.func77 rfl rfl Tryz.ntmps77 rfl rfl (by kernel_rfl) Tryz.checked.mixed ?_
 simp (disch:=first | omega | decide +kernel) only [D.ints,go_sem,Qa,Qb,Qc,Qd,Qe,↓reduceIte,reduceCtorEq,Qf,Qg,Qh]
 (repeat' (first | ((first | (refine gsel_split (fun q' => ?_) (fun q' => ?_)<;>(have h':=q')<;>(try simp only [za1,za2,Ba,Bb,za3,ne_eq,za4,za5,za6,Ia,Ib,Ic,Ie,Da,Bc,Bd,Be,za7,za8] at h')) | (have q':=trivial; first | refine callX_new (c2) rfl (by decide) ?_ | refine callY_new (c2) rfl ?_ | refine hE _ _ ret_ne ?_ | refine hE _ _ exit_ne ?_))<;>(try simp (disch:=first | omega | decide +kernel) only [q',D.ints,go_sem,Qa,Qb,Qc,Qd,Qe,↓reduceIte,reduceCtorEq,Qf,Qg,Qh])<;>clear q') | refine hN _ ?_ ?_ Wk.kk | with_reducible refine And.intro ?_ ?_ | with_reducible omega | exact ok_ints | exact cells_ints | exact no_mem | with_reducible exact plain_ints | (refine le_maxLen ?_; omega) | (refine za9 ⟨?_,?_⟩) | (simp only [go_sem,Qc,Qb,zb1,zb2,forall_eq]; done)))
 exact ret_cst rfl rfl (by simp only [go_sem]) (by simp only [go_sem,List.length_cons,List.length_nil]) rfl (by simp only [go_sem]) rfl rfl ⟨trivial,rfl,trivial⟩ plain_ints rfl
set_option maxHeartbeats 4000000 in
theorem dividePlaneO_ok (ho : oddK k q=false) :
 Ctr Tryz.prog 116 [D.pl q,.int .i64 k] false (.tup [AV.plO (halfK k q) 0,.d (.bool true)]) [(0,AO.co (halfK k q))]:=by
 have c1:=containsFunc1_ok q.co 135 (.ptr (.int .i64 k)) (fun x => !decide (x.tmod k=0)) hl fun x => divK1_ok k x hk.1
 have c2:=combined1_ok q q 136 (.ptr (.int .i64 k)) (fun a _ => upK k a) hl (Nat.le_refl _) (divK2_ok _ _ _ hk (by have:=bq.2; omega)) fun i _ => divK2_ok _ _ _ hk (by have:=bq.1 i; omega)
 change Ctr _ _ _ _ (AV.d (D.bool (oddK k q))) _ at c1
 rw [ho] at c1
 refine Ctr.of (n:=15) (rs:=[.cell 4 43,.tmp 5]) Tryz.func116 rfl rfl Tryz.ntmps116 rfl rfl (by kernel_rfl) Tryz.checked.mixed ?_
 simp (disch:=first | omega | decide +kernel) only [D.ints,go_sem,Qa,Qb,Qc,Qd,Qe,↓reduceIte,reduceCtorEq,Qf,Qg,Qh]
 (repeat' (first | ((first | (refine gsel_split (fun q' => ?_) (fun q' => ?_)<;>(have h':=q')<;>(try simp only [za1,za2,Ba,Bb,za3,ne_eq,za4,za5,za6,Ia,Ib,Ic,Ie,Da,Bc,Bd,Be,za7,za8] at h')) | (have q':=trivial; first | refine callX_new (c1) rfl (by decide) ?_ | refine callY_new (c1) rfl ?_ | refine callX_new (c2) rfl (by decide) ?_ | refine callY_new (c2) rfl ?_ | refine hE _ _ ret_ne ?_ | refine hE _ _ exit_ne ?_))<;>(try simp (disch:=first | omega | decide +kernel) only [q',D.ints,go_sem,Qa,Qb,Qc,Qd,Qe,↓reduceIte,reduceCtorEq,Qf,Qg,Qh])<;>clear q') | refine hN _ ?_ ?_ Wk.kk | with_reducible refine And.intro ?_ ?_ | with_reducible omega | exact ok_ints | exact cells_ints | exact no_mem | with_reducible exact plain_ints | (refine le_maxLen ?_; omega) | (refine za9 ⟨?_,?_⟩) | (simp only [go_sem,Qc,Qb,zb1,zb2,forall_eq]; done)))
 exact ret_cstd rfl rfl rfl (by simp only [go_sem]) (by simp only [go_sem,List.length_cons,List.length_nil]) rfl (by simp only [go_sem]) rfl rfl ⟨trivial,rfl,trivial⟩ plain_ints rfl rfl
end
set_option maxHeartbeats 4000000 in
theorem planeOfO_ok (u : Int) (c : List Int) (hl : c.length<=4294967296) (hc : Lits u c) : Ctr Tryz.prog 79 [.int .i64 u,.ints c] false (AV.plO (planI u c) 0) [(0,AO.co (planI u c))]:=by
 obtain ⟨hu0,hu1,hcx⟩:=hc
 refine Ctr.of (n:=36) (rs:=[.cell 4 43]) Tryz.func79 rfl rfl Tryz.ntmps79 rfl rfl (by kernel_rfl) Tryz.checked.mixed ?_
 simp (disch:=first | omega | decide +kernel) only [D.ints,go_sem,Qa,Qb,Qc,Qd,Qe,↓reduceIte,reduceCtorEq,Qf,Qg,Qh]
 refine ⟨by omega,?_⟩
 rw [show List.replicate u.toNat (D.int .i64 0)=(List.replicate u.toNat (0 : Int)).map (D.int .i64) by simp]
 refine Ok.loopN [34,33,32,31,30,29,28,27,26,25,24,23,22,21,20,19,18,17,16,15,14,13,10,9,8,7,6,3,2,1,0] (fun i _ => [(13,.d (.int .i64 (i : Nat)))]) (fun _ (cur : Pl) => [(5,.box 43 [.sl 9,.d (.int .i64 cur.bd)]),(9,.arr 3 1 (List.map (D.int .i64) cur.co))]) c.length
  (fun i cur => cur.co.length=u.toNat∧Bd (1 + (i : Int)) cur∧(c.drop i).foldl plS cur=planI u c) ⟨List.replicate u.toNat 0,1⟩
  ⟨by simp,by simpa using bd_zero u.toNat 1 (by omega),rfl⟩ (Wk.kk) ?_
 rintro R i cur hN hE hi ⟨hcl,hcb,hcu⟩
 by_cases hlt : i < c.length
 . have hx:=hcx _ (getD_mem (z:=(0 : Int)) hlt)
   have hb:=hcb.2
   have hi1 : (1 : Int) + ((i + 1 : Nat) : Int)=1 + (i : Int) + 1:=by omega
   rw [drop_cons 0 c i hlt,List.foldl_cons] at hcu
   simp (disch:=first | omega | decide +kernel) only [go_sem,Qa,Qb,Qc,Qd,Qe,↓reduceIte,reduceCtorEq,Qf,Qg,Qh]
   (repeat' (first | ((first | (refine gsel_split (fun q' => ?_) (fun q' => ?_)<;>(have h':=q')<;>(try simp only [za1,za2,Ba,Bb,za3,ne_eq,za4,za5,za6,Ia,Ib,Ic,Ie,Da,Bc,Bd,Be,za7,za8] at h')) | (have q':=trivial; first | refine hE _ _ ret_ne ?_ | refine hE _ _ exit_ne ?_))<;>(try simp (disch:=first | omega | decide +kernel) only [q',go_sem,Qa,Qb,Qc,Qd,Qe,↓reduceIte,reduceCtorEq,Qf,Qg,Qh])<;>clear q') | refine hN _ ?_ ?_ Wk.kk | with_reducible refine And.intro ?_ ?_ | with_reducible omega | exact ok_ints | exact cells_ints | exact no_mem | with_reducible exact plain_ints | (refine le_maxLen ?_; omega) | (refine za9 ⟨?_,?_⟩) | (simp only [go_sem,Qc,Qb,zb1,zb2,forall_eq]; done)))
   . have e : plS cur (c.getD i 0)=⟨cur.co.set (c.getD i 0 - 1).toNat 1,cur.bd⟩:=by rw [plS,if_pos h']
     rw [e] at hcu
     exact hN ⟨cur.co.set (c.getD i 0 - 1).toNat 1,cur.bd⟩ _ hlt ⟨by simp [hcl],by rw [← e,hi1]; exact bd_plS hcb (by omega) _,hcu⟩ (Wk.kk)
   . have e : plS cur (c.getD i 0)=⟨cur.co.set (0 - c.getD i 0 - 1).toNat (-1),cur.bd - 1⟩:=by rw [plS,if_neg (by omega)]
     rw [e] at hcu
     exact hN ⟨cur.co.set (0 - c.getD i 0 - 1).toNat (-1),cur.bd - 1⟩ _ hlt ⟨by simp [hcl],by rw [← e,hi1]; exact bd_plS hcb (by omega) _,hcu⟩ (Wk.kk)
 . rw [List.drop_eq_nil_of_le (by omega)] at hcu
   simp (disch:=first | omega | decide +kernel) only [go_sem,Qa,Qb,Qc,Qd,Qe,↓reduceIte,reduceCtorEq,Qf,Qg,Qh]
   (repeat' (first | ((first | (refine gsel_split (fun q' => ?_) (fun q' => ?_)<;>(have h':=q')<;>(try simp only [za1,za2,Ba,Bb,za3,ne_eq,za4,za5,za6,Ia,Ib,Ic,Ie,Da,Bc,Bd,Be,za7,za8] at h')) | (have q':=trivial; first | refine hE _ _ ret_ne ?_ | refine hE _ _ exit_ne ?_))<;>(try simp (disch:=first | omega | decide +kernel) only [q',go_sem,Qa,Qb,Qc,Qd,Qe,↓reduceIte,reduceCtorEq,Qf,Qg,Qh])<;>clear q') | refine hN _ ?_ ?_ Wk.kk | with_reducible refine And.intro ?_ ?_ | with_reducible omega | exact ok_ints | exact cells_ints | exact no_mem | with_reducible exact plain_ints | (refine le_maxLen ?_; omega) | (refine za9 ⟨?_,?_⟩) | (simp only [go_sem,Qc,Qb,zb1,zb2,forall_eq]; done)))
   rw [← hcu]
   exact ret_cst rfl rfl (by simp only [go_sem]) (by simp only [go_sem,List.length_cons,List.length_nil]) rfl (by simp only [go_sem]) rfl rfl ⟨trivial,rfl,trivial⟩ plain_ints rfl
end Abs.Y

namespace Abs.Y
open Go Go.Proofs Abs
open Nat renaming reduceEqDiff -> Qa, reduceLT -> Qb, reduceAdd -> Qc, reduceMul -> Qd, reduceSub -> Qe, reduceLeDiff -> Qf, reduceSubDiff -> Qg, reduceBEq -> Qh
open Bool renaming not_eq_true' -> Ba, not_eq_false' -> Bb, and_eq_true -> Bc, or_eq_true -> Bd, or_eq_false_iff -> Be
open Int renaming ofNat_lt -> Ia, ofNat_le -> Ib, not_lt -> Ic, not_le -> Ie
open Decidable renaming not_not -> Da
set_option maxRecDepth 100000

theorem tpl_strip2 (a b : Tp) : D.stripL [D.tpl a,D.tpl b]=[D.pl a.2.q,D.pl b.2.q]:=rfl
theorem tpl_strip1 (a : Tp) (k : Int) : D.stripL [D.tpl a,.int .i64 k]=[D.pl a.2.q,.int .i64 k]:=rfl
set_option maxHeartbeats 4000000 in
theorem axiom_ok (vars u : Int) (cs : List (List Int)) (ps : List Tp) (i : Nat) (hl : ps.length<=10000) (hi : i < cs.length) (hx : (cs.getD i []).length<=4294967296) (hc : Lits vars (cs.getD i [])) : CtrR Tryz.prog 40
 [.p 0 0,.d (.agg [.int .i64 u,.slice (cs.map D.ints)]),.d (.int .i64 (i : Nat))] [(0,plB vars 1),(1,plR ps)] [0] true (PlP vars ps ⟨planI vars (cs.getD i []),1,(i : Nat),0,0⟩):=by
 have c1:=planeOfO_ok vars _ hx hc
 have c2:=put_ok vars ps ⟨planI vars (cs.getD i []),1,(i : Nat),0,0⟩ (by omega)
 refine CtrR.of (n:=21) (rs:=[.tmp 6]) Tryz.func40 rfl rfl Tryz.ntmps40 rfl rfl (by kernel_rfl) Tryz.checked.mixed ?_; intro u
 simp (disch:=first | omega | decide +kernel) only [go_sem,Qa,Qb,Qc,Qd,Qe,↓reduceIte,reduceCtorEq,Qf,Qg,Qh]
 (repeat' (first | ((first | (refine gsel_split (fun q' => ?_) (fun q' => ?_)<;>(have h':=q')<;>(try simp only [za1,za2,Ba,Bb,za3,ne_eq,za4,za5,za6,Ia,Ib,Ic,Ie,Da,Bc,Bd,Be,za7,za8] at h')) | (have q':=trivial; first | refine callX_new (c1) rfl (by decide) ?_ | refine callY_new (c1) rfl ?_ | refine hE _ _ ret_ne ?_ | refine hE _ _ exit_ne ?_))<;>(try simp (disch:=first | omega | decide +kernel) only [q',go_sem,Qa,Qb,Qc,Qd,Qe,↓reduceIte,reduceCtorEq,Qf,Qg,Qh])<;>clear q') | refine hN _ ?_ ?_ Wk.kk | with_reducible refine And.intro ?_ ?_ | with_reducible omega | exact ok_ints | exact cells_ints | exact no_mem | with_reducible exact plain_ints | (refine le_maxLen ?_; omega) | (refine za9 ⟨?_,?_⟩) | (simp only [go_sem,Qc,Qb,zb1,zb2,forall_eq]; done)))
 refine callX_rel [0,1,1800000] [0,1,1800000] [1,1800000] c2 ⟨.inl rfl,.inl rfl,trivial⟩ ⟨rfl,rfl,rfl,trivial⟩ (by simp [namesI,keysO,nth]) (by simp [dstB]) ?_
 rintro _ _ ⟨v,rfl,rfl⟩
 refine ⟨by simp [namesOK,keysO,nth],?_⟩
 simp (disch:=first | omega | decide +kernel) only [go_sem,Qa,Qb,Qc,Qd,Qe,↓reduceIte,reduceCtorEq,Qf,Qg,Qh]
 exact retR_pl (k1:=1) (k2:=1800000) (row:=plR (ps++[(v,_)])) (by decide) rfl rfl rfl (fun _ => rfl) rfl rfl ⟨v,rfl,rfl⟩
set_option maxHeartbeats 4000000 in
theorem add_ok (vars : Int) (ps : List Tp) (a b : Nat) (hl : ps.length<=10000) (ha : a < ps.length) (hb : b < ps.length) {qa qb : Pl} (hqa : (ps.getD a Tp.z).2.q=qa) (hqb : (ps.getD b Tp.z).2.q=qb)
 (h1 : qa.co.length<=4294967296) (h2 : qa.co.length<=qb.co.length) (bq : Bd 1000000 qa) (br : Bd 1000000 qb) : CtrR Tryz.prog 41
 [.p 0 0,.d (.int .i64 (a : Nat)),.d (.int .i64 (b : Nat))] [(0,plB vars 1),(1,plR ps)] [0] true (PlP vars ps ⟨addP qa qb,4,(a : Nat),(b : Nat),0⟩):=by
 have c1:=(addPlanesO_ok h1 h2 bq br (by omega) (by omega)).strip (ys:=[D.tpl (ps.getD a Tp.z),D.tpl (ps.getD b Tp.z)]) (by rw [tpl_strip2,hqa,hqb])
 have c2:=put_ok vars ps ⟨addP qa qb,4,(a : Nat),(b : Nat),0⟩ (by omega)
 refine CtrR.of (n:=29) (rs:=[.tmp 6]) Tryz.func41 rfl rfl Tryz.ntmps41 rfl rfl (by kernel_rfl) Tryz.checked.mixed ?_; intro u
 simp (disch:=first | omega | decide +kernel) only [el_tp,go_sem,Qa,Qb,Qc,Qd,Qe,↓reduceIte,reduceCtorEq,Qf,Qg,Qh]
 (repeat' (first | ((first | (refine gsel_split (fun q' => ?_) (fun q' => ?_)<;>(have h':=q')<;>(try simp only [za1,za2,Ba,Bb,za3,ne_eq,za4,za5,za6,Ia,Ib,Ic,Ie,Da,Bc,Bd,Be,za7,za8] at h')) | (have q':=trivial; first | refine callX_new (c1) rfl (by decide) ?_ | refine callY_new (c1) rfl ?_ | refine hE _ _ ret_ne ?_ | refine hE _ _ exit_ne ?_))<;>(try simp (disch:=first | omega | decide +kernel) only [q',el_tp,go_sem,Qa,Qb,Qc,Qd,Qe,↓reduceIte,reduceCtorEq,Qf,Qg,Qh])<;>clear q') | refine hN _ ?_ ?_ Wk.kk | with_reducible refine And.intro ?_ ?_ | with_reducible omega | exact ok_ints | exact cells_ints | exact no_mem | with_reducible exact plain_ints | (refine le_maxLen ?_; omega) | (refine za9 ⟨?_,?_⟩) | (simp only [go_sem,Qc,Qb,zb1,zb2,forall_eq]; done)))
 refine callX_rel [0,1,2500000] [0,1,2500000] [1,2500000] c2 ⟨.inl rfl,.inl rfl,trivial⟩ ⟨rfl,rfl,rfl,trivial⟩ (by simp [namesI,keysO,nth]) (by simp [dstB]) ?_
 rintro _ _ ⟨v,rfl,rfl⟩
 refine ⟨by simp [namesOK,keysO,nth],?_⟩
 simp (disch:=first | omega | decide +kernel) only [go_sem,Qa,Qb,Qc,Qd,Qe,↓reduceIte,reduceCtorEq,Qf,Qg,Qh]
 exact retR_pl (k1:=1) (k2:=2500000) (row:=plR (ps++[(v,_)])) (by decide) rfl rfl rfl (fun _ => rfl) rfl rfl ⟨v,rfl,rfl⟩
set_option maxHeartbeats 4000000 in
theorem divide_ok (vars : Int) (ps : List Tp) (a : Nat) (k : Int) (hk : 1<=k∧k<=1000) (hl : ps.length<=10000) (ha : a < ps.length) {qa : Pl} (hqa : (ps.getD a Tp.z).2.q=qa)
 (h1 : qa.co.length<=4294967296) (bq : Bd 1000000 qa) (ho : oddK k qa=false) : CtrR Tryz.prog 78
 [.p 0 0,.d (.int .i64 (a : Nat)),.d (.int .i64 k)] [(0,plB vars 1),(1,plR ps)] [0] true (PlP vars ps ⟨halfK k qa,6,(a : Nat),0,k⟩):=by
 have c1:=(dividePlaneO_ok hk h1 bq (by omega) ho).strip (ys:=[D.tpl (ps.getD a Tp.z),.int .i64 k]) (by rw [tpl_strip1,hqa])
 have c2:=put_ok vars ps ⟨halfK k qa,6,(a : Nat),0,k⟩ (by omega)
 refine CtrR.of (n:=28) (rs:=[.tmp 6]) Tryz.func78 rfl rfl Tryz.ntmps78 rfl rfl (by kernel_rfl) Tryz.checked.mixed ?_; intro u
 simp (disch:=first | omega | decide +kernel) only [el_tp,go_sem,Qa,Qb,Qc,Qd,Qe,↓reduceIte,reduceCtorEq,Qf,Qg,Qh]
 (repeat' (first | ((first | (refine gsel_split (fun q' => ?_) (fun q' => ?_)<;>(have h':=q')<;>(try simp only [za1,za2,Ba,Bb,za3,ne_eq,za4,za5,za6,Ia,Ib,Ic,Ie,Da,Bc,Bd,Be,za7,za8] at h')) | (have q':=trivial; first | refine callX_new (c1) rfl (by decide) ?_ | refine callY_new (c1) rfl ?_ | refine hE _ _ ret_ne ?_ | refine hE _ _ exit_ne ?_))<;>(try simp (disch:=first | omega | decide +kernel) only [q',el_tp,go_sem,Qa,Qb,Qc,Qd,Qe,↓reduceIte,reduceCtorEq,Qf,Qg,Qh])<;>clear q') | refine hN _ ?_ ?_ Wk.kk | with_reducible refine And.intro ?_ ?_ | with_reducible omega | exact ok_ints | exact cells_ints | exact no_mem | with_reducible exact plain_ints | (refine le_maxLen ?_; omega) | (refine za9 ⟨?_,?_⟩) | (simp only [go_sem,Qc,Qb,zb1,zb2,forall_eq]; done)))
 refine callX_rel [0,1,2000000] [0,1,2000000] [1,2000000] c2 ⟨.inl rfl,.inl rfl,trivial⟩ ⟨rfl,rfl,rfl,trivial⟩ (by simp [namesI,keysO,nth]) (by simp [dstB]) ?_
 rintro _ _ ⟨v,rfl,rfl⟩
 refine ⟨by simp [namesOK,keysO,nth],?_⟩
 simp (disch:=first | omega | decide +kernel) only [go_sem,Qa,Qb,Qc,Qd,Qe,↓reduceIte,reduceCtorEq,Qf,Qg,Qh]
 exact retR_pl (k1:=1) (k2:=2000000) (row:=plR (ps++[(v,_)])) (by decide) rfl rfl rfl (fun _ => rfl) rfl rfl ⟨v,rfl,rfl⟩

def prs (n : Int) : Int:=(n * (n - 1)).tdiv 2
def pno (n i k : Int) : Int:=((i - 1) * (2 * n - i)).tdiv 2 + k - i
def atP (n j i k : Int) : Int:=n + 1 + (j - 1) * prs (n + 1) + pno (n + 1) i k - 1
theorem pairsOf_ok (n : Int) (h : 2<=n∧n<=4) : Ctr Tryz.prog 112 [.int .i64 n] false (.d (.int .i64 (prs n))) []:=by
 have h1 : 0<=n * (n - 1)∧n * (n - 1)<=100∧0<=(n * (n - 1)).tdiv 2∧(n * (n - 1)).tdiv 2<=100:=by
  rcases (by omega : n=2∨n=3∨n=4) with rfl | rfl | rfl<;>decide
 unfold prs
 refine Ctr.of (n:=8) (rs:=[.tmp 2]) Tryz.func112 rfl rfl Tryz.ntmps112 rfl rfl (by kernel_rfl) Tryz.checked.mixed ?_
 simp (disch:=first | omega | decide +kernel) only [go_sem,Qa,Qb,Qc,Qd,Qe,↓reduceIte,reduceCtorEq,Qf,Qg,Qh]
 (repeat' (first | ((first | (refine gsel_split (fun q' => ?_) (fun q' => ?_)<;>(have h':=q')<;>(try simp only [za1,za2,Ba,Bb,za3,ne_eq,za4,za5,za6,Ia,Ib,Ic,Ie,Da,Bc,Bd,Be,za7,za8] at h')) | (have q':=trivial; first | refine hE _ _ ret_ne ?_ | refine hE _ _ exit_ne ?_))<;>(try simp (disch:=first | omega | decide +kernel) only [q',go_sem,Qa,Qb,Qc,Qd,Qe,↓reduceIte,reduceCtorEq,Qf,Qg,Qh])<;>clear q') | refine hN _ ?_ ?_ Wk.kk | with_reducible refine And.intro ?_ ?_ | with_reducible omega | exact ok_ints | exact cells_ints | exact no_mem | with_reducible exact plain_ints | (refine le_maxLen ?_; omega) | (refine za9 ⟨?_,?_⟩) | (simp only [go_sem,Qc,Qb,zb1,zb2,forall_eq]; done)))
theorem pairNumber_ok (n i k : Int) (h : 2<=n∧n<=4) (hi : 1<=i∧i < k∧k<=n) : Ctr Tryz.prog 113 [.int .i64 n,.int .i64 i,.int .i64 k] false (.d (.int .i64 (pno n i k))) []:=by
 have h1 : 0<=(i - 1) * (2 * n - i)∧(i - 1) * (2 * n - i)<=100∧0<=((i - 1) * (2 * n - i)).tdiv 2∧((i - 1) * (2 * n - i)).tdiv 2<=100:=by
  rcases (by omega : n=2∨n=3∨n=4) with rfl | rfl | rfl<;>rcases (by omega : i=1∨i=2∨i=3) with rfl | rfl | rfl<;>decide
 unfold pno
 refine Ctr.of (n:=25) (rs:=[.tmp 6]) Tryz.func113 rfl rfl Tryz.ntmps113 rfl rfl (by kernel_rfl) Tryz.checked.mixed ?_
 simp (disch:=first | omega | decide +kernel) only [go_sem,Qa,Qb,Qc,Qd,Qe,↓reduceIte,reduceCtorEq,Qf,Qg,Qh]
 (repeat' (first | ((first | (refine gsel_split (fun q' => ?_) (fun q' => ?_)<;>(have h':=q')<;>(try simp only [za1,za2,Ba,Bb,za3,ne_eq,za4,za5,za6,Ia,Ib,Ic,Ie,Da,Bc,Bd,Be,za7,za8] at h')<;>try (exfalso; omega)) | (have q':=trivial; first | refine hE _ _ ret_ne ?_ | refine hE _ _ exit_ne ?_))<;>(try simp (disch:=first | omega | decide +kernel) only [q',go_sem,Qa,Qb,Qc,Qd,Qe,↓reduceIte,reduceCtorEq,Qf,Qg,Qh])<;>clear q') | refine hN _ ?_ ?_ Wk.kk | with_reducible refine And.intro ?_ ?_ | with_reducible omega | exact ok_ints | exact cells_ints | exact no_mem | with_reducible exact plain_ints | (refine le_maxLen ?_; omega) | (refine za9 ⟨?_,?_⟩) | (simp only [go_sem,Qc,Qb,zb1,zb2,forall_eq]; done)))
 rw [if_neg (show ¬ k < i by omega),if_pos (show k > i by omega)]
 generalize (i - 1) * (2 * n - i)=x at *
 rw [wrap_of (n:=x) (by omega),wrap_of (n:=x.tdiv 2) (by omega),wrap_of (n:=x.tdiv 2 + k) (by omega),wrap_of (by omega)]
end Abs.Y

namespace Abs
open Go Go.RowKit
def Z7c (P : Program) (N : Nat) (l : List Oper) (K : St->Prop) (st : St) : List (Oper × Nat)->List (Oper × Nat)->Nat->List Bool->List Oper->Prop
 | hs,ts,_,_,[] => HeadW P N l (fst7 hs) st (kH7 P N l hs ts K)
 | hs,ts,k,true :: cs,o :: r => Z7c P N l K st (hs++[(o,k)]) ts (k + 1) cs r
 | hs,ts,k,false :: cs,o :: r => Z7c P N l K st hs (ts++[(o,k)]) (k + 1) cs r
 | _,_,_,[],_ :: _ => False
@[go_sem] theorem Z7c_nil (P N l K st hs ts k cs) : Z7c P N l K st hs ts k cs []=HeadW P N l (fst7 hs) st (kH7 P N l hs ts K):=by cases cs<;>rfl
@[go_sem] theorem Z7c_in (P N l K st hs ts k cs o r) : Z7c P N l K st hs ts k (true :: cs) (o :: r)=Z7c P N l K st (hs++[(o,k)]) ts (k + 1) cs r:=rfl
@[go_sem] theorem Z7c_out (P N l K st hs ts k cs o r) : Z7c P N l K st hs ts k (false :: cs) (o :: r)=Z7c P N l K st hs (ts++[(o,k)]) (k + 1) cs r:=rfl
theorem Z7c_spec {P : Program} {N : Nat} {l : List Oper} {K : St->Prop} {st : St} : ∀ (r : List Oper) (pre cs : List Bool) (hs ts : List (Oper × Nat)),Z7c P N l K st hs ts pre.length cs r ->
 HeadW P N l (fst7 (hs++(r.zipIdx pre.length).filter fun p => (pre++cs).getD p.2 false)) st (kH7 P N l (hs++(r.zipIdx pre.length).filter fun p => (pre++cs).getD p.2 false) (ts++(r.zipIdx pre.length).filter fun p => !(pre++cs).getD p.2 false) K)
 | [],pre,cs,hs,ts,h => by rw [Z7c_nil] at h; simpa using h
 | o :: r,pre,[],hs,ts,h => h.elim
 | o :: r, pre, b :: cs, hs, ts, h => by
   have e : (pre++b :: cs).getD pre.length false=b:=by simp [List.getD_eq_getElem?_getD]
   have e2 : pre++b :: cs=(pre++[b])++cs:=by simp
   rw [List.zipIdx_cons]
   cases b with
   | true =>
     have:=Z7c_spec r (pre++[true]) cs (hs++[(o,pre.length)]) ts (by rw [Z7c_in] at h; simpa using h)
     rw [List.filter_cons_of_pos (by exact e),List.filter_cons_of_neg (by simp only [e]; simp)]
     rw [List.length_append,List.length_singleton,← e2] at this
     simpa only [List.append_assoc,List.singleton_append] using this
   | false =>
     have:=Z7c_spec r (pre++[false]) cs hs (ts++[(o,pre.length)]) (by rw [Z7c_out] at h; simpa using h)
     rw [List.filter_cons_of_neg (by simp only [e]; simp),List.filter_cons_of_pos (by simp only [e]; rfl)]
     rw [List.length_append,List.length_singleton,← e2] at this
     simpa only [List.append_assoc,List.singleton_append] using this
theorem Ok.reg7 {P : Program} {N id : Nat} {ops : Array Oper} {Q : Exit->St->Prop} {st : St} (cls : List Bool) (h7 : ok7 cls ops.toList=true) (h : Z7c P N ops.toList (Q .normal) st [] [] 0 cls ops.toList) : Ok P N (.region id ops true) Q st:=fun h1 h2 Z B M w0 a w hs => by
 have h' : headA P N ops.toList ((hs7 cls ops.toList).map (·.1)) st fun st' => tail7 P N ops.toList (hs7 cls ops.toList) (ts7 cls ops.toList) st' (Q .normal):=by
  have h:=Z7c_spec ops.toList [] cls [] [] h
  rw [HeadW_eq,← fst7_eq] at h
  have e : ∀ hs ts K,kH7 P N ops.toList hs ts K=fun S => tail7 P N ops.toList hs ts S K:=fun hs ts K => funext fun S => kT7_spec P N ops.toList hs ts K S
  rw [e] at h
  exact h
 obtain ⟨l⟩:=ops
 exact wp_drawn7 h2 h7 (fun st a w hs hk => ⟨st,hs,hk⟩) hs h'
end Abs
