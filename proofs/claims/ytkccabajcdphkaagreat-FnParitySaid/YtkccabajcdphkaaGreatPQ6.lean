/- What functions of this program compute, over plain data. No condition. -/
import Derived.Test.YtkccabajcdphkaaGreatPQP
import Derived.Test.YtkccabajcdphkaaGreatR3
set_option linter.all false
namespace Abs.Y
open Go Go.Proofs Abs
open Nat renaming reduceEqDiff -> Qa, reduceLT -> Qb, reduceAdd -> Qc, reduceMul -> Qd, reduceSub -> Qe, reduceLeDiff -> Qf, reduceSubDiff -> Qg, reduceBEq -> Qh
open Bool renaming not_eq_true' -> Ba, not_eq_false' -> Bb, and_eq_true -> Bc, or_eq_true -> Bh, or_eq_false_iff -> Be
open Int renaming ofNat_lt -> Ia, ofNat_le -> Ib, not_lt -> Ic, not_le -> Ie
open Decidable renaming not_not -> Da
set_option maxRecDepth 100000

def pU (g : Chg) : Int:=if xc7 g=true then (g.ed.length : Nat) else 0
def pL (g : Chg) : List (List Int):=if xc7 g=true then parI g else []
theorem pI_ok (g : Chg) (hl : g.ed.length<=4294967296) (hc : g.ch.length<=4294967296) : Ctr Tryz.prog 7 [D.chg g] true (.tup [.d (.agg [.int .i64 (pU g),.slice ((pL g).map D.ints)]),.d (.bool (xc7 g))]) []:=by
 unfold pU pL
 cases hb : xc7 g with
 | false => exact parityCnfNo_ok g hl hc hb
 | true => exact yi0 g (xf0.1 hb)
theorem pS_ok (g : Chg) (hl : g.ed.length<=4294967296) (hc : g.ch.length<=4294967296) : Ctr Tryz.prog 8 [D.chg g] true (.tup [.d (.agg [.int .i64 (pU g),.slice ((pL g).map D.ints)]),.d (.bool (xc7 g))]) []:=by
 unfold pU pL
 cases hb : xc7 g with
 | false => exact specParityNo_ok g hl hc hb
 | true => exact specParity_ok g (xf0.1 hb)
theorem yx3 (g : Chg) : (pL g).length<=50∧∀ c ∈ pL g,c.length<=1048576:=by
 unfold pL
 split
 . rename_i h
   exact ⟨parI_50 (xf0.1 h),xy6 (xf0.1 h)⟩
 . exact ⟨by decide,fun _ h => (nomatch h)⟩
def chS (ch : List Int) (i : Nat) : Int:=rs i fun i => ch.getD i 0
theorem zn6 (ch : List Int) (i : Nat) : chS ch (i + 1)=chS ch i + ch.getD i 0:=xf1 i _
theorem zy8 {ch : List Int} (h : ∀ v,v < ch.length->0<=ch.getD v 0∧ch.getD v 0<=1) : ∀ {i},i<=ch.length->0<=chS ch i∧chS ch i<=i
 | 0,_ => by simp [chS,rs]
 | i + 1, hi => by
   have h1:=zy8 h (i:=i) (by omega)
   have h2:=h i (by omega)
   rw [zn6]
   omega
theorem wvL_le (g : Chg) (x : Int) : (wvL g x).length<=8:=by
 unfold wvL
 split
 . rename_i h
   unfold wvB at h
   have:=(xf0.1 (Bool.and_eq_true_iff.1 h).1).n1
   have:=yw2 g x.toNat g.n.toNat
   omega
 . exact Nat.zero_le _
theorem yv6 {P N f cavs st dst K} {avs : List AV} {R : AV->Prop} (hs : CtrR P f avs [] [] true fun r oo => oo=[]∧R r) (hp : ya7 P st.o (nth []) true cavs avs) (hd : dstB N dst) (hK : ∀ res,R res->K (impM st dst (nth []) [] res [])) : yq6 P N f cavs dst K st :=
 yv7 hs hp hd hK
set_option maxHeartbeats 16000000 in
theorem law_FnParity : ∀ xs,AllR [isSl isU8] xs->Ctr Tryz.prog 3 xs false (.d (.bool true)) []:=by
 intro xs hx
 obtain ⟨x0,ys,rfl,h0,hx⟩:=allR_cons hx
 obtain rfl:=allR_nil hx
 obtain ⟨code,rfl,hcb⟩:=r_bytes h0
 have c0:=rBig_ok code
 by_cases hbig : 65536 < code.length
 . rw [decide_eq_true hbig] at c0
   refine Ctr.of (n:=232) (rs:=[.tmp 2]) Tryz.func3 rfl rfl Tryz.ntmps3 rfl rfl (by kernel_rfl) Tryz.checked.mixed ?_
   simp (disch:=first | omega | decide +kernel) only [go_sem,Qa,Qb,Qc,Qd,Qe,↓reduceIte,reduceCtorEq,Qf,Qg,Qh]
   refine xa3 (c0) rfl (by decide) ?_
   simp (disch:=first | omega | decide +kernel) only [go_sem,Qa,Qb,Qc,Qd,Qe,↓reduceIte,reduceCtorEq,Qf,Qg,Qh]
 have hc : CodeOK code:=⟨by omega,hcb⟩
 rw [decide_eq_false hbig] at c0
 refine Ctr.ofK (n:=232) (rs:=[.tmp 2]) Tryz.func3 rfl rfl Tryz.ntmps3 rfl rfl (by kernel_rfl) Tryz.checked.mixed ?_
 refine Ok.seq (Ok.go ?_)
 simp (disch:=first | omega | decide +kernel) only [go_sem,Qa,Qb,Qc,Qd,Qe,↓reduceIte,reduceCtorEq,Qf,Qg,Qh]
 refine Ok.seq (Ok.go ?_)
 simp (disch:=first | omega | decide +kernel) only [go_sem,Qa,Qb,Qc,Qd,Qe,↓reduceIte,reduceCtorEq,Qf,Qg,Qh]
 (repeat' (first | ((first | (refine xa0 ?_ ?_<;>intro q'<;>(have h':=q')<;>(try simp only [zz] at h')<;>try (exfalso; omega)) | (have q':=trivial; first | refine xa3 (c0) rfl (by decide) ?_ | refine xa4 (c0) rfl ?_))<;>(try simp (disch:=first | omega | decide +kernel) only [q',go_sem,Qa,Qb,Qc,Qd,Qe,↓reduceIte,reduceCtorEq,Qf,Qg,Qh])<;>clear q') | (with_reducible first | refine And.intro ?_ ?_ | omega) | exact xa6 | (refine xa1 ?_; omega) | (refine za9 ⟨?_,?_⟩) | (simp only [go_sem,Qc,Qb,zb1,zb2,forall_eq]; done)))
 refine Ok.seq (Ok.go ?_)
 simp (disch:=first | omega | decide +kernel) only [go_sem,Qa,Qb,Qc,Qd,Qe,↓reduceIte,reduceCtorEq,Qf,Qg,Qh]
 refine yv6 (drawParityCnf_ok hc) ⟨.inl rfl,trivial⟩ (by simp [dstB]) ?_
 rintro _ ⟨g,rfl,hgl,hgc⟩
 have p1:=pI_ok g (by omega) (by omega)
 have p2:=pS_ok g (by omega) (by omega)
 have p3:=xl8 g (by omega) (by omega)
 have p4:=rCnf_self (pU g) (pL g) (by have:=(yx3 g).1; omega) (fun c hc => by have:=(yx3 g).2 c hc; omega)
 have o1:=impl_OddParts_ok g (by omega) (by omega)
 have o2:=spec_OddParts_ok g (by omega) (by omega)
 have o3:=yf6 (yd3 g) (by have:=yd2 (g:=g); omega)
 have m1:=impl_Model_ok g (by omega) (by omega)
 have m2:=spec_Model_ok g (by omega) (by omega)
 have hcase : (xc7 g=false∧xe1 g=false∧yd3 g=[])∨(xc7 g=true∧xe1 g=true∧(yd3 g).length=0)∨(xc7 g=true∧xe1 g=false∧¬ (yd3 g).length=0):=by
  unfold yd3 xe1
  cases hb : xc7 g with
  | false => exact .inl ⟨rfl,rfl,rfl⟩
  | true =>
    by_cases h : (oddI g).length=0
    . exact .inr (.inl ⟨rfl,by rw [decide_eq_true h]; rfl,h⟩)
    . exact .inr (.inr ⟨rfl,by rw [decide_eq_false h]; rfl,h⟩)
 have hL50:=(yx3 g).1
 have q1 : xc7 g=true->Ctr Tryz.prog 16 [.agg [.int .i64 (pU g),.slice ((pL g).map D.ints)]] false (.tup [.d (.bool (xe1 g)),.d (.bool true)]) []:=fun hb => by
  have:=isSatP_ok g.ed.length (parI g) (zl0 (xf0.1 hb)) (xy6 (xf0.1 hb))
  rw [model_sat hb] at this
  unfold pU pL
  rw [if_pos hb,if_pos hb]
  exact this
 have q2 : xe1 g=true->xc7 g=true->Ctr Tryz.prog 17 [.agg [.int .i64 (pU g),.slice ((pL g).map D.ints)],.int .i64 (xg6 g : Nat)] false (.tup [.d (.bool true),.d (.bool true)]) []:=fun ho hb => by
  have:=yp5 g.ed.length (xg6 g) (parI g) (zl0 (xf0.1 hb)) (xy6 (xf0.1 hb)) (yd5 g)
  rw [yx2 (xf0.1 hb),yw4 hb ho] at this
  unfold pU pL
  rw [if_pos hb,if_pos hb]
  exact this
 have q3 : xe1 g=true->xc7 g=true->Ctr Tryz.prog 18 [D.chg g,.int .i64 (xg6 g : Nat)] true (.tup [.d (D.ints []),.d (.bool true)]) []:=fun ho hb => by
  have:=yz9 g (xg6 g : Nat) (by omega) (by omega)
  rw [(zp5 hb ho).1,(zp5 hb ho).2] at this
  exact this
 have hml:=yd5 g
 have hml2 : 2 ^ g.ed.length<=2 ^ 60:=Nat.pow_le_pow_right (by decide) (by omega)
 have hol:=yd2 (g:=g)
 have hml3 : xg6 g < 2 ^ 60:=by omega
 clear hml hml2
 generalize xg6 g=MB at *
 generalize xe1 g=M at *
 generalize xc7 g=B at *
 generalize pU g=U at *
 generalize pL g=L at *
 generalize yd3 g=O at *
 simp only [D.chg,D.ints] at p1 p2 p3 p4 o1 o2 o3 m1 m2 q1 q2 q3
 simp (disch:=first | omega | decide +kernel) only [D.chg,D.ints,go_sem,Qa,Qb,Qc,Qd,Qe,↓reduceIte,reduceCtorEq,Qf,Qg,Qh]
 (repeat' (first | ((first | (refine xa0 ?_ ?_<;>intro q'<;>(have h':=q')<;>(try simp only [zz] at h')<;>try (exfalso; omega)))<;>(try simp (disch:=first | omega | decide +kernel) only [q',go_sem,Qa,Qb,Qc,Qd,Qe,↓reduceIte,reduceCtorEq,Qf,Qg,Qh])<;>clear q') | (with_reducible first | refine And.intro ?_ ?_ | omega) | exact xa6 | (refine xa1 ?_; omega) | (refine za9 ⟨?_,?_⟩) | (simp only [go_sem,Qc,Qb,zb1,zb2,forall_eq]; done)))
 refine Ok.seq (Ok.go ?_)
 simp (disch:=first | omega | decide +kernel) only [go_sem,Qa,Qb,Qc,Qd,Qe,↓reduceIte,reduceCtorEq,Qf,Qg,Qh]
 (repeat' (first | ((first | (refine xa0 ?_ ?_<;>intro q'<;>(have h':=q')<;>(try simp only [zz] at h')<;>try (exfalso; omega)) | (have q':=trivial; first | refine xb3 (p1) rfl (by decide) ?_ | refine xb2 (p1) rfl ?_))<;>(try simp (disch:=first | omega | decide +kernel) only [q',go_sem,Qa,Qb,Qc,Qd,Qe,↓reduceIte,reduceCtorEq,Qf,Qg,Qh])<;>clear q') | (with_reducible first | refine And.intro ?_ ?_ | omega) | exact xa6 | (refine xa1 ?_; omega) | (refine za9 ⟨?_,?_⟩) | (simp only [go_sem,Qc,Qb,zb1,zb2,forall_eq]; done)))
 rcases hcase with ⟨rfl,rfl,rfl⟩ | ⟨rfl,rfl,hO⟩ | ⟨rfl,rfl,hO⟩
 have hOz : (((([] : List Int)).length : Nat) : Int)=0:=rfl
 rotate_left
 have hOz : ((O.length : Nat) : Int)=0:=by omega
 rotate_left
 have hOz : ¬ ((O.length : Nat) : Int)=0:=by omega
 rotate_left
 all_goals
  refine Ok.seq (Ok.go ?_)
  simp (disch:=first | omega | decide +kernel) only [go_sem,Qa,Qb,Qc,Qd,Qe,↓reduceIte,reduceCtorEq,Qf,Qg,Qh]
  (repeat' (first | ((first | (refine xa0 ?_ ?_<;>intro q'<;>(have h':=q')<;>(try simp only [zz] at h')<;>try (exfalso; omega)) | (have q':=trivial; first | refine xb3 (p2) rfl (by decide) ?_ | refine xb2 (p2) rfl ?_ | refine xa3 (p3) rfl (by decide) ?_ | refine xa4 (p3) rfl ?_ | refine xa3 (p4) rfl (by decide) ?_ | refine xa4 (p4) rfl ?_))<;>(try simp (disch:=first | omega | decide +kernel) only [q',go_sem,Qa,Qb,Qc,Qd,Qe,↓reduceIte,reduceCtorEq,Qf,Qg,Qh])<;>clear q') | (with_reducible first | refine And.intro ?_ ?_ | omega) | exact xa6 | (refine xa1 ?_; omega) | (refine za9 ⟨?_,?_⟩) | (simp only [go_sem,Qc,Qb,zb1,zb2,forall_eq]; done)))
  all_goals (try (exact absurd trivial h'))
  refine Ok.seq (Ok.go ?_)
  simp (disch:=first | omega | decide +kernel) only [go_sem,Qa,Qb,Qc,Qd,Qe,↓reduceIte,reduceCtorEq,Qf,Qg,Qh]
  (repeat' (first | ((first | (refine xa0 ?_ ?_<;>intro q'<;>(have h':=q')<;>(try simp only [zz] at h')<;>try (exfalso; omega)) | (have q':=trivial; first | refine xa3 (o1) rfl (by decide) ?_ | refine xa4 (o1) rfl ?_))<;>(try simp (disch:=first | omega | decide +kernel) only [q',go_sem,Qa,Qb,Qc,Qd,Qe,↓reduceIte,reduceCtorEq,Qf,Qg,Qh])<;>clear q') | (with_reducible first | refine And.intro ?_ ?_ | omega) | exact xa6 | (refine xa1 ?_; omega) | (refine za9 ⟨?_,?_⟩) | (simp only [go_sem,Qc,Qb,zb1,zb2,forall_eq]; done)))
  refine Ok.weak (Wk.frz (j:=6600000) rfl) ?_
  simp (disch:=first | omega | decide +kernel) only [St.frz,frzS,frzO,AV.frz,AV.frzL,AO.frz,go_sem,Qa,Qb,Qc,Qd,Qe,↓reduceIte,reduceCtorEq,Qf,Qg,Qh]
  refine Ok.seq (Ok.go ?_)
  simp (disch:=first | omega | decide +kernel) only [go_sem,Qa,Qb,Qc,Qd,Qe,↓reduceIte,reduceCtorEq,Qf,Qg,Qh]
  (repeat' (first | ((first | (refine xa0 ?_ ?_<;>intro q'<;>(have h':=q')<;>(try simp only [zz] at h')<;>try (exfalso; omega)) | (have q':=trivial; first | refine xb3 (o2) rfl (by decide) ?_ | refine xb2 (o2) rfl ?_ | refine xa3 (o3) rfl (by decide) ?_ | refine xa4 (o3) rfl ?_))<;>(try simp (disch:=first | omega | decide +kernel) only [q',go_sem,Qa,Qb,Qc,Qd,Qe,↓reduceIte,reduceCtorEq,Qf,Qg,Qh])<;>clear q') | (with_reducible first | refine And.intro ?_ ?_ | omega) | exact xa6 | (refine xa1 ?_; omega) | (refine za9 ⟨?_,?_⟩) | (simp only [go_sem,Qc,Qb,zb1,zb2,forall_eq]; done)))
  all_goals (try (exact absurd trivial h'))
  refine Ok.seq (Ok.go ?_)
  simp (disch:=first | omega | decide +kernel) only [go_sem,Qa,Qb,Qc,Qd,Qe,↓reduceIte,reduceCtorEq,Qf,Qg,Qh]
  (repeat' (first | ((first | (refine xa0 ?_ ?_<;>intro q'<;>(have h':=q')<;>(try simp only [zz] at h')<;>try (exfalso; omega)) | (have q':=trivial; first | refine xa3 (m1) rfl (by decide) ?_ | refine xa4 (m1) rfl ?_))<;>(try simp (disch:=first | omega | decide +kernel) only [q',go_sem,Qa,Qb,Qc,Qd,Qe,↓reduceIte,reduceCtorEq,Qf,Qg,Qh])<;>clear q') | (with_reducible first | refine And.intro ?_ ?_ | omega) | exact xa6 | (refine xa1 ?_; omega) | (refine za9 ⟨?_,?_⟩) | (simp only [go_sem,Qc,Qb,zb1,zb2,forall_eq]; done)))
  refine Ok.seq (Ok.go ?_)
  simp (disch:=first | omega | decide +kernel) only [List.length_map,hOz,go_sem,Qa,Qb,Qc,Qd,Qe,↓reduceIte,reduceCtorEq,Qf,Qg,Qh]
  (repeat' (first | ((first | (refine xa0 ?_ ?_<;>intro q'<;>(have h':=q')<;>(try simp only [zz] at h')<;>try (exfalso; omega)) | (have q':=trivial; first | refine xa3 (m2) rfl (by decide) ?_ | refine xa4 (m2) rfl ?_))<;>(try simp (disch:=first | omega | decide +kernel) only [q',List.length_map,hOz,go_sem,Qa,Qb,Qc,Qd,Qe,↓reduceIte,reduceCtorEq,Qf,Qg,Qh])<;>clear q') | (with_reducible first | refine And.intro ?_ ?_ | omega) | exact xa6 | (refine xa1 ?_; omega) | (refine za9 ⟨?_,?_⟩) | (simp only [go_sem,Qc,Qb,zb1,zb2,forall_eq]; done)))
  all_goals (try (exact absurd trivial h'))
  all_goals (try (exfalso; exact absurd (show false=(((O.length : Nat) : Int) == 0) by simp [hO]) h'))
  refine Ok.seq (Ok.go ?_)
 simp (disch:=first | omega | decide +kernel) only [go_sem,Qa,Qb,Qc,Qd,Qe,↓reduceIte,reduceCtorEq,Qf,Qg,Qh]
 (repeat' (first | ((first | (refine xa0 ?_ ?_<;>intro q'<;>(have h':=q')<;>(try simp only [zz] at h')<;>try (exfalso; omega)))<;>(try simp (disch:=first | omega | decide +kernel) only [q',go_sem,Qa,Qb,Qc,Qd,Qe,↓reduceIte,reduceCtorEq,Qf,Qg,Qh])<;>clear q') | (with_reducible first | refine And.intro ?_ ?_ | omega) | (refine xa1 ?_; omega)))
 rotate_left
 have q1:=q1 rfl
 have q2:=q2 rfl rfl
 have q3:=q3 rfl rfl
 simp (disch:=first | omega | decide +kernel) only [go_sem,Qa,Qb,Qc,Qd,Qe,↓reduceIte,reduceCtorEq,Qf,Qg,Qh]
 (repeat' (first | ((first | (refine xa0 ?_ ?_<;>intro q'<;>(have h':=q')<;>(try simp only [zz] at h')<;>try (exfalso; omega)) | (have q':=trivial; first | refine xa3 (q1) rfl (by decide) ?_ | refine xa4 (q1) rfl ?_ | refine xa3 (q2) rfl (by decide) ?_ | refine xa4 (q2) rfl ?_ | refine xb3 (q3) rfl (by decide) ?_ | refine xb2 (q3) rfl ?_))<;>(try simp (disch:=first | omega | decide +kernel) only [q',List.length_map,go_sem,Qa,Qb,Qc,Qd,Qe,↓reduceIte,reduceCtorEq,Qf,Qg,Qh])<;>clear q') | (with_reducible first | refine And.intro ?_ ?_ | omega) | exact xa6 | (refine xa1 ?_; omega) | (refine za9 ⟨?_,?_⟩) | (simp only [go_sem,Qc,Qb,zb1,zb2,forall_eq]; done)))
 all_goals (try (exact absurd trivial h'))
 rotate_left
 have q1:=q1 rfl
 simp (disch:=first | omega | decide +kernel) only [go_sem,Qa,Qb,Qc,Qd,Qe,↓reduceIte,reduceCtorEq,Qf,Qg,Qh]
 (repeat' (first | ((first | (refine xa0 ?_ ?_<;>intro q'<;>(have h':=q')<;>(try simp only [zz] at h')<;>try (exfalso; omega)) | (have q':=trivial; first | refine xa3 (q1) rfl (by decide) ?_ | refine xa4 (q1) rfl ?_))<;>(try simp (disch:=first | omega | decide +kernel) only [q',List.length_map,go_sem,Qa,Qb,Qc,Qd,Qe,↓reduceIte,reduceCtorEq,Qf,Qg,Qh])<;>clear q') | (with_reducible first | refine And.intro ?_ ?_ | omega) | exact xa6 | (refine xa1 ?_; omega) | (refine za9 ⟨?_,?_⟩) | (simp only [go_sem,Qc,Qb,zb1,zb2,forall_eq]; done)))
 all_goals (try (exact absurd trivial h'))
 rotate_left
 all_goals
  refine Ok.weak (st':=⟨[(2,.d (.bool false)),(0,.d (D.bytes code))],[]⟩) (by refine Wk.auto ?_ ?_<;>simp [xb1,lk,killL,St.kill,xb4,xb6,AV.has,AV.hasL,AO.wipe,List.map_set,xc2,insL,xc4,ins,]) ?_
  refine Ok.seq (Ok.go ?_)
  simp (disch:=first | omega | decide +kernel) only [go_sem,Qa,Qb,Qc,Qd,Qe,↓reduceIte,reduceCtorEq,Qf,Qg,Qh]
  refine yv6 (drawWrong_ok hc) ⟨.inl rfl,trivial⟩ (by simp [dstB]) ?_
  rintro _ ⟨⟨h,x⟩,rfl,hhl,hhc,hx1,hx2⟩
  dsimp only at hhl hhc hx1 hx2 ⊢
  have w1:=yz9 h x (by omega) (by omega)
  have w2:=wrongS_ok h x (by omega) (by omega)
  have hwl:=wvL_le h x
  have w3:=yf6 (wvL h x) (by omega)
  cases hw : wvB h x with
  | false =>
    have hwz : wvL h x=[]:=by unfold wvL; rw [hw]; rfl
    rw [hw,hwz] at w1 w2
    rw [hwz] at w3
    simp only [D.chg,D.ints] at w1 w2 w3
    simp (disch:=first | omega | decide +kernel) only [D.chg,D.ints,go_sem,Qa,Qb,Qc,Qd,Qe,↓reduceIte,reduceCtorEq,Qf,Qg,Qh]
    (repeat' (first | ((first | (refine xa0 ?_ ?_<;>intro q'<;>(have h':=q')<;>(try simp only [zz] at h')<;>try (exfalso; omega)))<;>(try simp (disch:=first | omega | decide +kernel) only [q',go_sem,Qa,Qb,Qc,Qd,Qe,↓reduceIte,reduceCtorEq,Qf,Qg,Qh])<;>clear q') | (with_reducible first | refine And.intro ?_ ?_ | omega) | exact xa6 | (refine xa1 ?_; omega) | (refine za9 ⟨?_,?_⟩) | (simp only [go_sem,Qc,Qb,zb1,zb2,forall_eq]; done)))
    refine Ok.seq (Ok.go ?_)
    simp (disch:=first | omega | decide +kernel) only [go_sem,Qa,Qb,Qc,Qd,Qe,↓reduceIte,reduceCtorEq,Qf,Qg,Qh]
    (repeat' (first | ((first | (refine xa0 ?_ ?_<;>intro q'<;>(have h':=q')<;>(try simp only [zz] at h')<;>try (exfalso; omega)) | (have q':=trivial; first | refine xb3 (w1) rfl (by decide) ?_ | refine xb2 (w1) rfl ?_))<;>(try simp (disch:=first | omega | decide +kernel) only [q',go_sem,Qa,Qb,Qc,Qd,Qe,↓reduceIte,reduceCtorEq,Qf,Qg,Qh])<;>clear q') | (with_reducible first | refine And.intro ?_ ?_ | omega) | exact xa6 | (refine xa1 ?_; omega) | (refine za9 ⟨?_,?_⟩) | (simp only [go_sem,Qc,Qb,zb1,zb2,forall_eq]; done)))
    refine Ok.seq (Ok.go ?_)
    simp (disch:=first | omega | decide +kernel) only [go_sem,Qa,Qb,Qc,Qd,Qe,↓reduceIte,reduceCtorEq,Qf,Qg,Qh]
    (repeat' (first | ((first | (refine xa0 ?_ ?_<;>intro q'<;>(have h':=q')<;>(try simp only [zz] at h')<;>try (exfalso; omega)) | (have q':=trivial; first | refine xb3 (w2) rfl (by decide) ?_ | refine xb2 (w2) rfl ?_ | refine xa3 (w3) rfl (by decide) ?_ | refine xa4 (w3) rfl ?_))<;>(try simp (disch:=first | omega | decide +kernel) only [q',go_sem,Qa,Qb,Qc,Qd,Qe,↓reduceIte,reduceCtorEq,Qf,Qg,Qh])<;>clear q') | (with_reducible first | refine And.intro ?_ ?_ | omega) | exact xa6 | (refine xa1 ?_; omega) | (refine za9 ⟨?_,?_⟩) | (simp only [go_sem,Qc,Qb,zb1,zb2,forall_eq]; done)))
    all_goals (try (exact absurd trivial h'))
    refine Ok.seq (Ok.go ?_)
    simp (disch:=first | omega | decide +kernel) only [go_sem,Qa,Qb,Qc,Qd,Qe,↓reduceIte,reduceCtorEq,Qf,Qg,Qh]
    (repeat' (first | ((first | (refine xa0 ?_ ?_<;>intro q'<;>(have h':=q')<;>(try simp only [zz] at h')<;>try (exfalso; omega)))<;>(try simp (disch:=first | omega | decide +kernel) only [q',go_sem,Qa,Qb,Qc,Qd,Qe,↓reduceIte,reduceCtorEq,Qf,Qg,Qh])<;>clear q') | (with_reducible first | refine And.intro ?_ ?_ | omega) | (refine xa1 ?_; omega)))
    refine Ok.go ?_
    simp (disch:=first | omega | decide +kernel) only [go_sem,Qa,Qb,Qc,Qd,Qe,↓reduceIte,reduceCtorEq,Qf,Qg,Qh]
    (repeat' (first | ((first | (refine xa0 ?_ ?_<;>intro q'<;>(have h':=q')<;>(try simp only [zz] at h')<;>try (exfalso; omega)))<;>(try simp (disch:=first | omega | decide +kernel) only [q',go_sem,Qa,Qb,Qc,Qd,Qe,↓reduceIte,reduceCtorEq,Qf,Qg,Qh])<;>clear q') | (with_reducible first | refine And.intro ?_ ?_ | omega) | (refine xa1 ?_; omega)))
  | true =>
    have hb : xc7 h=true:=by unfold wvB at hw; exact (Bool.and_eq_true_iff.1 hw).1
    have hG:=xf0.1 hb
    have hxr : 0<=x∧x<=((2 ^ h.ed.length : Nat) : Int) - 1:=by
     unfold wvB at hw
     rw [hb,Bool.true_and,Bc,decide_eq_true_eq,decide_eq_true_eq] at hw
     exact hw
    have hwe : wvL h x=wrTo h x.toNat h.n.toNat:=by unfold wvL; rw [if_pos hw]
    have hpar : Int.tmod ((wrTo h x.toNat h.n.toNat).length : Int) 2=Int.tmod (chS h.ch h.ch.length) 2:=wr_par hG x.toNat
    have hz:=zv4 h x.toNat
    have hxx : ((x.toNat : Nat) : Int)=x:=by omega
    have p1:=yi0 h hG
    have k1:=yp5 h.ed.length x.toNat (parI h) (zl0 hG) (xy6 hG) (by omega)
    rw [yx2 hG,← hz,hxx,show decide ((wrTo h x.toNat h.n.toNat).length=0)=((((wrTo h x.toNat h.n.toNat).length : Nat) : Int) == 0) by rw [Bool.eq_iff_iff]; simp] at k1
    rw [← hwe] at hpar k1
    rw [hw] at w1 w2
    have hn:=hG.n1
    have hcl:=hG.c
    have hq:=hG.q
    generalize parI h=PL at *
    clear hz hwe
    generalize wvL h x=wl at *
    simp only [D.chg,D.ints] at w1 w2 w3 p1 k1
    simp (disch:=first | omega | decide +kernel) only [D.chg,D.ints,go_sem,Qa,Qb,Qc,Qd,Qe,↓reduceIte,reduceCtorEq,Qf,Qg,Qh]
    (repeat' (first | ((first | (refine xa0 ?_ ?_<;>intro q'<;>(have h':=q')<;>(try simp only [zz] at h')<;>try (exfalso; omega)))<;>(try simp (disch:=first | omega | decide +kernel) only [q',go_sem,Qa,Qb,Qc,Qd,Qe,↓reduceIte,reduceCtorEq,Qf,Qg,Qh])<;>clear q') | (with_reducible first | refine And.intro ?_ ?_ | omega) | exact xa6 | (refine xa1 ?_; omega) | (refine za9 ⟨?_,?_⟩) | (simp only [go_sem,Qc,Qb,zb1,zb2,forall_eq]; done)))
    refine Ok.seq (Ok.go ?_)
    simp (disch:=first | omega | decide +kernel) only [go_sem,Qa,Qb,Qc,Qd,Qe,↓reduceIte,reduceCtorEq,Qf,Qg,Qh]
    (repeat' (first | ((first | (refine xa0 ?_ ?_<;>intro q'<;>(have h':=q')<;>(try simp only [zz] at h')<;>try (exfalso; omega)) | (have q':=trivial; first | refine xb3 (w1) rfl (by decide) ?_ | refine xb2 (w1) rfl ?_))<;>(try simp (disch:=first | omega | decide +kernel) only [q',go_sem,Qa,Qb,Qc,Qd,Qe,↓reduceIte,reduceCtorEq,Qf,Qg,Qh])<;>clear q') | (with_reducible first | refine And.intro ?_ ?_ | omega) | exact xa6 | (refine xa1 ?_; omega) | (refine za9 ⟨?_,?_⟩) | (simp only [go_sem,Qc,Qb,zb1,zb2,forall_eq]; done)))
    refine Ok.seq (Ok.go ?_)
    simp (disch:=first | omega | decide +kernel) only [go_sem,Qa,Qb,Qc,Qd,Qe,↓reduceIte,reduceCtorEq,Qf,Qg,Qh]
    (repeat' (first | ((first | (refine xa0 ?_ ?_<;>intro q'<;>(have h':=q')<;>(try simp only [zz] at h')<;>try (exfalso; omega)) | (have q':=trivial; first | refine xb3 (w2) rfl (by decide) ?_ | refine xb2 (w2) rfl ?_ | refine xa3 (w3) rfl (by decide) ?_ | refine xa4 (w3) rfl ?_))<;>(try simp (disch:=first | omega | decide +kernel) only [q',go_sem,Qa,Qb,Qc,Qd,Qe,↓reduceIte,reduceCtorEq,Qf,Qg,Qh])<;>clear q') | (with_reducible first | refine And.intro ?_ ?_ | omega) | exact xa6 | (refine xa1 ?_; omega) | (refine za9 ⟨?_,?_⟩) | (simp only [go_sem,Qc,Qb,zb1,zb2,forall_eq]; done)))
    all_goals (try (exact absurd trivial h'))
    refine Ok.seq (Ok.seq (Ok.go ?_))
    simp (disch:=first | omega | decide +kernel) only [go_sem,Qa,Qb,Qc,Qd,Qe,↓reduceIte,reduceCtorEq,Qf,Qg,Qh]
    refine Ok.condT2 rfl ?_
    clear w1 w2 w3
    refine Ok.seq (Ok.go ?_)
    simp (disch:=first | omega | decide +kernel) only [go_sem,Qa,Qb,Qc,Qd,Qe,↓reduceIte,reduceCtorEq,Qf,Qg,Qh]
    refine Ok.seq (Ok.seq (Ok.go ?_))
    simp (disch:=first | omega | decide +kernel) only [go_sem,Qa,Qb,Qc,Qd,Qe,↓reduceIte,reduceCtorEq,Qf,Qg,Qh]
    refine Ok.block ?_
    have hr0 : chS h.ch 0=0:=rfl
    refine Ok.loopNO [231,230,229,228,227,226,225,224,223,222,221,220,219,218,217,216,215,214,213,212,211,210,209,208,207,206,205,204,203,202,201,200,199,198,197,196,195,194,193,192,191,190,189,188,187,186,185,184,183,182,181,180,179,178,177,176,175,174,173,172,171,170,169,168,167,166,165,164,163,162,161,160,159,158,157,156,155,154,153,152,151,150,149,148,147,146,145,144,143,142,141,140,139,138,137,136,135,134,133,132,131,130,129,128,127,126,125,124,123,122,121,120,119,118,117,116,115,114,113,112,111,110,109,108,107,106,105,104,103,102,101,100,99,98,97,96,95,94,93,92,91,90,89,88,87,86,85,84,83,82,81,80,79,78,77,76,75,74,73,72,71,70,69,68,67,66,65,64,63,62,61,60,59,58,57,56,55,54,53,52,51,50,49,48,47,46,45,44,43,42,41,40,39,38,37,36,35,34,33,32,31,30,29,28,27,26,25,21,20,19,18,17,16,15,14,13,12,11,10,9,8,7,6,5,4,3,1,0] (fun i _ => [(29,.d (.int .i64 (i : Nat))),(28,.d (.int .i64 (chS h.ch i)))]) (fun _ (_ : Unit) => []) h.ch.length (fun _ _ => True) () trivial (by refine Wk.auto ?_ ?_<;>simp [xb1,lk,killL,St.kill,xb4,xb6,AV.has,AV.hasL,AO.wipe,List.map_set,xc2,insL,xc4,ins,hr0]) ?_
    rintro R i _ hN hE1 hi _
    have hrb:=zy8 hq hi
    by_cases hlt : i < h.ch.length
    . have hei:=xl3 (xs:=h.ch) hlt
      have hsu:=zn6 h.ch i
      have hqi:=hq i hlt
      have his : ((i : Int) + 1)=((i + 1 : Nat) : Int):=by omega
      refine Ok.seq (Ok.go ?_)
      simp (disch:=first | omega | decide +kernel) only [go_sem,Qa,Qb,Qc,Qd,Qe,↓reduceIte,reduceCtorEq,Qf,Qg,Qh]
      (repeat' (first | ((first | (refine xa0 ?_ ?_<;>intro q'<;>(have h':=q')<;>(try simp only [zz] at h')<;>try (exfalso; omega)))<;>(try simp (disch:=first | omega | decide +kernel) only [q',go_sem,Qa,Qb,Qc,Qd,Qe,↓reduceIte,reduceCtorEq,Qf,Qg,Qh])<;>clear q') | (with_reducible first | refine And.intro ?_ ?_ | omega) | (refine xa1 ?_; omega)))
      refine Ok.go ?_
      simp (disch:=first | omega | decide +kernel) only [hei,go_sem,Qa,Qb,Qc,Qd,Qe,↓reduceIte,reduceCtorEq,Qf,Qg,Qh]
      (repeat' (first | ((first | (refine xa0 ?_ ?_<;>intro q'<;>(have h':=q')<;>(try simp only [zz] at h')<;>try (exfalso; omega)))<;>(try simp (disch:=first | omega | decide +kernel) only [q',hei,go_sem,Qa,Qb,Qc,Qd,Qe,↓reduceIte,reduceCtorEq,Qf,Qg,Qh])<;>clear q') | (with_reducible first | refine And.intro ?_ ?_ | omega) | (refine xa1 ?_; omega)))
      rw [his]
      refine hN () _ hlt trivial ?_
      rw [hsu]
      exact (by refine Wk.auto ?_ ?_<;>simp [xb1,lk,killL,St.kill,xb4,xb6,AV.has,AV.hasL,AO.wipe,List.map_set,xc2,insL,xc4,ins,])
    . obtain rfl : i=h.ch.length:=by omega
      clear hN
      refine Ok.go ?_
      simp (disch:=first | omega | decide +kernel) only [go_sem,Qa,Qb,Qc,Qd,Qe,↓reduceIte,reduceCtorEq,Qf,Qg,Qh]
      (repeat' (first | ((first | (refine xa0 ?_ ?_<;>intro q'<;>(have h':=q')<;>(try simp only [zz] at h')<;>try (exfalso; omega)))<;>(try simp (disch:=first | omega | decide +kernel) only [q',go_sem,Qa,Qb,Qc,Qd,Qe,↓reduceIte,reduceCtorEq,Qf,Qg,Qh])<;>clear q') | (with_reducible first | refine And.intro ?_ ?_ | omega) | (refine xa1 ?_; omega)))
      refine hE1 _ _ xa2 ?_
      simp (disch:=first | omega | decide +kernel) only [go_sem,Qa,Qb,Qc,Qd,Qe,↓reduceIte,reduceCtorEq,Qf,Qg,Qh]
      generalize chS h.ch h.ch.length=S at *
      refine Ok.seq (Ok.go ?_)
      simp (disch:=first | omega | decide +kernel) only [List.length_map,hpar,go_sem,Qa,Qb,Qc,Qd,Qe,↓reduceIte,reduceCtorEq,Qf,Qg,Qh]
      (repeat' (first | ((first | (refine xa0 ?_ ?_<;>intro q'<;>(have h':=q')<;>(try simp only [zz] at h')<;>try (exfalso; omega)))<;>(try simp (disch:=first | omega | decide +kernel) only [q',List.length_map,hpar,go_sem,Qa,Qb,Qc,Qd,Qe,↓reduceIte,reduceCtorEq,Qf,Qg,Qh])<;>clear q') | (with_reducible first | refine And.intro ?_ ?_ | omega) | (refine xa1 ?_; omega)))
      all_goals (try (exact absurd trivial h'))
      refine Ok.seq (Ok.go ?_)
      simp (disch:=first | omega | decide +kernel) only [go_sem,Qa,Qb,Qc,Qd,Qe,↓reduceIte,reduceCtorEq,Qf,Qg,Qh]
      (repeat' (first | ((first | (refine xa0 ?_ ?_<;>intro q'<;>(have h':=q')<;>(try simp only [zz] at h')<;>try (exfalso; omega)) | (have q':=trivial; first | refine xb3 (p1) rfl (by decide) ?_ | refine xb2 (p1) rfl ?_))<;>(try simp (disch:=first | omega | decide +kernel) only [q',go_sem,Qa,Qb,Qc,Qd,Qe,↓reduceIte,reduceCtorEq,Qf,Qg,Qh])<;>clear q') | (with_reducible first | refine And.intro ?_ ?_ | omega) | exact xa6 | (refine xa1 ?_; omega) | (refine za9 ⟨?_,?_⟩) | (simp only [go_sem,Qc,Qb,zb1,zb2,forall_eq]; done)))
      refine Ok.go ?_
      simp (disch:=first | omega | decide +kernel) only [List.length_map,go_sem,Qa,Qb,Qc,Qd,Qe,↓reduceIte,reduceCtorEq,Qf,Qg,Qh]
      (repeat' (first | ((first | (refine xa0 ?_ ?_<;>intro q'<;>(have h':=q')<;>(try simp only [zz] at h')<;>try (exfalso; omega)) | (have q':=trivial; first | refine xa3 (k1) rfl (by decide) ?_ | refine xa4 (k1) rfl ?_))<;>(try simp (disch:=first | omega | decide +kernel) only [q',List.length_map,go_sem,Qa,Qb,Qc,Qd,Qe,↓reduceIte,reduceCtorEq,Qf,Qg,Qh])<;>clear q') | (with_reducible first | refine And.intro ?_ ?_ | omega) | exact xa6 | (refine xa1 ?_; omega) | (refine za9 ⟨?_,?_⟩) | (simp only [go_sem,Qc,Qb,zb1,zb2,forall_eq]; done)))
      all_goals (try (exact absurd trivial h'))
      refine Ok.go ?_
      simp (disch:=first | omega | decide +kernel) only [go_sem,Qa,Qb,Qc,Qd,Qe,↓reduceIte,reduceCtorEq,Qf,Qg,Qh]
      (repeat' (first | ((first | (refine xa0 ?_ ?_<;>intro q'<;>(have h':=q')<;>(try simp only [zz] at h')<;>try (exfalso; omega)))<;>(try simp (disch:=first | omega | decide +kernel) only [q',go_sem,Qa,Qb,Qc,Qd,Qe,↓reduceIte,reduceCtorEq,Qf,Qg,Qh])<;>clear q') | (with_reducible first | refine And.intro ?_ ?_ | omega) | (refine xa1 ?_; omega)))
end Abs.Y
