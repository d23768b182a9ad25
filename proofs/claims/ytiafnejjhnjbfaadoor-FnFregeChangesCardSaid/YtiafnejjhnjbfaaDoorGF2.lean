/- What functions of this program compute, over plain data. No condition. -/
import Derived.Test.YtiafnejjhnjbfaaDoorAbsReg7
import Derived.Test.YtiafnejjhnjbfaaDoorAbsMfz
import Derived.Test.YtiafnejjhnjbfaaDoorFO1
import Derived.Test.YtiafnejjhnjbfaaDoorAbsLoopO
import Derived.Test.YtiafnejjhnjbfaaDoorFO8
set_option linter.all false
open Nat renaming reduceEqDiff -> Qa, reduceLT -> Qb, reduceAdd -> Qc, reduceMul -> Qd, reduceSub -> Qe, reduceLeDiff -> Qf, reduceSubDiff -> Qg, reduceBEq -> Qh
open Bool renaming not_eq_true' -> Ba, not_eq_false' -> Bb, and_eq_true -> Bc, or_eq_true -> Bh, or_eq_false_iff -> Be
open Int renaming ofNat_lt -> Ia, ofNat_le -> Ib, not_lt -> Ic, not_le -> Ie
open Decidable renaming not_not -> Da
namespace Abs
open Go Go.RowKit

theorem Wk.arw {N : Nat} {S : List (Nat × AV)} {O : List (Nat × AO)} (j : Nat) {e : TypeId} {k : Nat} {es : List D} (hj : lk j O=some (.arr e k es)) : Wk N ⟨S,O⟩ ⟨S,ins j (.arw e k es []) O⟩ :=
 Wk.obj (st:=⟨S,O⟩) j hj fun _ _ _ _ _ h => by
  cases h with
  | arr hF xs hk0 hk hw hr => subst hF; exact .arw (fun g hg => (hw.lt g hg).2) xs hk0 hk hw (fun b hb => hb) hr (by simp)
end Abs

namespace Abs
open Go Go.RowKit
end Abs
namespace Abs.Y
open Go Go.Proofs Abs
set_option maxRecDepth 100000

def idxG {α : Type} (p : α->Bool) (l : List α) : Int:=match l.findIdx? p with | some i => (i : Nat) | none => -1
section
variable {α : Type} {z : α} {p : α->Bool} {l : List α}
end
def keepZ (p : Int->Bool) (ps : List Int) (j : Nat) : List Int:=(ps.take j).filter fun q => !(p q)
end Abs.Y

namespace Abs.Y
open Go Go.Proofs Abs
set_option maxRecDepth 100000

theorem isCase_ok (j : Nat) (hj : j < 10) (y : Fm) (hy : y.wf=true) : Ctr Tryd.prog 83 [.int .i64 ((j + 1 : Nat) : Int),fmD y] false (.d (.bool (isC j y))) []:=by
 have c1:=parse_sch j
 have c2:=fits_ok (sch j) y (fun _ => none) (sch_wf j) (sch_abc j) hy (by intro c z h; cases h)
 have hP : By.P (fun _ => none)=[.nilptr,.nilptr,.nilptr]:=rfl
 rw [hP] at c2
 rw [isC]
 have hG : globD 1=some (.ptr (.agg schemesD)):=rfl
 have hgl : schemesD.length=10:=rfl
 have hg:=sch_el j hj
 have e1 : ((j + 1 : Nat) : Int) - 1=(j : Nat):=by omega
 have ra : argV (fmD y)=.d (fmD y):=by obtain ⟨_,_,_,e⟩:=fmD_sh y; rw [e]; rfl
 have na:=fmD_na y
 have ma:=fmD_nc y
 generalize (sch j).T=t at *
 generalize fmD (sch j)=x at *
 generalize fmD y=yd at *
 generalize (mt (sch j) y fun _ => none).2=fl at *
 generalize (mt (sch j) y fun _ => none).1.P=L' at *
 generalize hL : schemesD=L at *
 refine Ctr.of (n:=20) (rs:=[.tmp 4]) Tryd.func83 rfl rfl Tryd.ntmps83 rfl rfl (by kernel_rfl) Tryd.checked.mixed ?_
 simp (disch:=first | omega | decide +kernel) only [Nat.mul_one,ra,hG,hL,hg,e1,Int.toNat_natCast,go_sem,Qa,Qb,Qc,Qd,Qe,↓reduceIte,reduceCtorEq,Qf,Qg,Qh]
 (repeat' (first | ((first | (refine gsel_split (fun q' => ?_) (fun q' => ?_)<;>(have h':=q')<;>(try simp only [za1,za2,Ba,Bb,za3,ne_eq,za4,za5,za6,Ia,Ib,Ic,Ie,Da,Bc,Bh,Be,za7,za8] at h')<;>try (exfalso; omega)) | (have q':=trivial; first | refine callX_shared (c1) rfl (by decide) ?_ | refine callY_shared (c1) rfl ?_ | refine callX_mut [18] [18] [] (c2) ⟨.inl rfl,.inl rfl,.inl rfl,trivial⟩ ⟨rfl,trivial⟩ rfl (by simp [dstB]) ?_ | refine hE _ _ ret_ne ?_ | refine hE _ _ exit_ne ?_))<;>(try simp (disch:=first | omega | decide +kernel) only [q',Nat.mul_one,ra,hG,hL,hg,e1,Int.toNat_natCast,go_sem,Qa,Qb,Qc,Qd,Qe,↓reduceIte,reduceCtorEq,Qf,Qg,Qh])<;>clear q') | refine hN _ ?_ ?_ Wk.kk | with_reducible refine And.intro ?_ ?_ | with_reducible omega | exact ok_ints | exact cells_ints | exact no_mem | with_reducible exact plain_ints | (refine le_maxLen ?_; omega) | (refine za9 ⟨?_,?_⟩) | (simp only [go_sem,Qc,Qb,zb1,zb2,forall_eq]; done)))
 all_goals (first | omega | assumption | exact isp | rfl | exact absurd trivial ‹¬True›)
def upL (n : Nat) : List Int:=(List.range n).map fun i => ((i + 1 : Nat) : Int)
noncomputable def schL (s : ByteArray) : List Int:=if okS s then (upL 10).filter (fun q => !(!isC (q - 1).toNat (fmS s))) else []
end Abs.Y

namespace Abs.Y
open Go Go.Proofs Abs
set_option maxRecDepth 100000

structure Fs where
 f : ByteArray
 r : Int
 a : Int
 b : Int
def Fs.z : Fs:=⟨⟨#[]⟩,0,0,0⟩
def fsD (s : Fs) : D:=.agg [.str s.f,.int .i64 s.r,.int .i64 s.a,.int .i64 s.b]
theorem el_fs {xs : List Fs} {i : Nat} (h : i < xs.length) : el (xs.map fsD) i=.agg [.str (xs.getD i Fs.z).f,.int .i64 (xs.getD i Fs.z).r,.int .i64 (xs.getD i Fs.z).a,.int .i64 (xs.getD i Fs.z).b]:=el_map (f:=fsD) Fs.z h
def nilB : ByteArray:=⟨#[]⟩
theorem el_gs {xs : List ByteArray} {i : Nat} (h : i < xs.length) : el (xs.map D.str) i=.str (xs.getD i nilB):=el_map (f:=D.str) nilB h
def impS (x y : ByteArray) : ByteArray:=ByteArray.mk #[40]++x++ByteArray.mk #[62]++y++ByteArray.mk #[41]
noncomputable def corB (m : Bool) (gs : List ByteArray) (ss : List Fs) (k : Nat) (s : Fs) : Bool :=
 okS s.f && (if 1<=s.r∧s.r<=10 then decide (s.a=0) && decide (s.b=0) && isC (s.r - 1).toNat (fmS s.f)
  else if s.r=0 then decide (s.b=0) && (decide (0<=s.a) && decide (s.a<=(gs.length : Int) - 1)) && decide (gs.getD s.a.toNat nilB=s.f)
  else if s.r=-1 then (decide (0<=s.a) && decide (s.a<=(k : Int) - 1)) && (decide (0<=s.b) && decide (s.b<=(k : Int) - 1)) &&
   (!m || (okS (ss.getD s.a.toNat Fs.z).f && okS (ss.getD s.b.toNat Fs.z).f)) && decide ((ss.getD s.b.toNat Fs.z).f=impS (ss.getD s.a.toNat Fs.z).f s.f)
  else false)
theorem cor_ok {m gs ss k s} (h : corB m gs ss k s=true) : okS s.f=true:=by
 rw [corB,Bc] at h; exact h.1
theorem cor_tf {gs ss k s} (h : corB true gs ss k s=true) : corB false gs ss k s=true:=by
 rw [corB,Bc] at h ⊢
 refine ⟨h.1,?_⟩
 have h2:=h.2
 split
 . rename_i h1; rw [if_pos h1] at h2; exact h2
 . rename_i h1
   rw [if_neg h1] at h2
   split
   . rename_i h3; rw [if_pos h3] at h2; exact h2
   . rename_i h3
     rw [if_neg h3] at h2
     split
     . rename_i h4
       rw [if_pos h4] at h2
       simp only [Bc] at h2 ⊢
       exact ⟨⟨h2.1.1,rfl⟩,h2.2⟩
     . rename_i h4; rw [if_neg h4] at h2; exact h2
theorem cor_ft {gs : List ByteArray} {ss : List Fs} {k : Nat} {s : Fs} (hp : ∀ j,j < k->okS (ss.getD j Fs.z).f=true) (h : corB false gs ss k s=true) : corB true gs ss k s=true:=by
 rw [corB,Bc] at h ⊢
 refine ⟨h.1,?_⟩
 have h2:=h.2
 split
 . rename_i h1; rw [if_pos h1] at h2; exact h2
 . rename_i h1
   rw [if_neg h1] at h2
   split
   . rename_i h3; rw [if_pos h3] at h2; exact h2
   . rename_i h3
     rw [if_neg h3] at h2
     split
     . rename_i h4
       rw [if_pos h4] at h2
       simp only [Bc,decide_eq_true_eq] at h2 ⊢
       refine ⟨⟨h2.1.1,?_⟩,h2.2⟩
       rw [hp _ (by omega),hp _ (by omega)]; rfl
     . rename_i h4; rw [if_neg h4] at h2; exact h2
noncomputable def wrongF (m : Bool) (gs : List ByteArray) (ss : List Fs) : Int:=idxR (fun k => !corB m gs ss k (ss.getD k Fs.z)) ss.length
theorem first_or (p : Nat->Bool) : ∀ n : Nat,(∀ j,j < n->p j=false)∨∃ k,k < n∧p k=true∧∀ j,j < k->p j=false
 | 0 => .inl fun j hj => absurd hj (by omega)
 | n + 1 => by
   rcases first_or p n with h | ⟨k,h1,h2,h3⟩
   . cases hp : p n with
     | true => exact .inr ⟨n,by omega,hp,h⟩
     | false =>
       refine .inl fun j hj => ?_
       rcases Nat.lt_or_ge j n with h4 | h4
       . exact h j h4
       . obtain rfl : j=n:=by omega
         exact hp
   . exact .inr ⟨k,by omega,h2,h3⟩
theorem wrong_eq (gs : List ByteArray) (ss : List Fs) : wrongF true gs ss=wrongF false gs ss:=by
 rw [wrongF,wrongF]
 rcases first_or (fun k => !corB true gs ss k (ss.getD k Fs.z)) ss.length with h | ⟨k,h1,h2,h3⟩
 . rw [idxR_none h,idxR_none fun j hj => by
    have:=h j hj
    simp only [Bb] at this ⊢
    exact cor_tf this]
 . rw [idxR_some h1 h2 h3,idxR_some h1 ?_ fun j hj => ?_]
   . simp only [Ba] at h2 ⊢
     cases hc : corB false gs ss k (ss.getD k Fs.z) with
     | false => rfl
     | true =>
       rw [cor_ft (fun j hj => ?_) hc] at h2
       . cases h2
       . have:=h3 j hj
         simp only [Bb] at this
         exact cor_ok this
   . have:=h3 j hj
     simp only [Bb] at this ⊢
     exact cor_tf this
theorem wrong_neg {m gs ss} : wrongF m gs ss < 0↔∀ k,k < ss.length->corB m gs ss k (ss.getD k Fs.z)=true:=by
 rw [wrongF]
 constructor
 . intro h k hk
   rcases first_or (fun k => !corB m gs ss k (ss.getD k Fs.z)) ss.length with h' | ⟨j,h1,h2,h3⟩
   . simpa using h' k hk
   . rw [idxR_some h1 h2 h3] at h; omega
 . intro h
   rw [idxR_none fun j hj => by rw [h j hj]; rfl]; decide
noncomputable def okF (gs : List ByteArray) (ss : List Fs) : Bool:=decide (gs.length<=6) && decide (ss.length<=80) && gs.all okS
noncomputable def proofF (gs : List ByteArray) (ss : List Fs) : Bool:=okF gs ss && decide (0 < ss.length) && decide (wrongF true gs ss < 0)
theorem proof_spec {gs ss} (h : proofF gs ss=true) : gs.length<=6∧ss.length<=80∧(∀ g ∈ gs,okS g=true)∧0 < ss.length∧∀ k,k < ss.length->corB true gs ss k (ss.getD k Fs.z)=true:=by
 rw [proofF,okF] at h
 simp only [Bc,decide_eq_true_eq,List.all_eq_true] at h
 exact ⟨h.1.1.1.1,h.1.1.1.2,h.1.1.2,h.1.2,wrong_neg.1 h.2⟩
theorem proof_of {gs ss} (h1 : gs.length<=6) (h2 : ss.length<=80) (h3 : ∀ g ∈ gs,okS g=true) (h4 : 0 < ss.length) (h5 : ∀ k,k < ss.length->corB true gs ss k (ss.getD k Fs.z)=true) : proofF gs ss=true:=by
 rw [proofF,okF]
 simp only [Bc,decide_eq_true_eq,List.all_eq_true]
 exact ⟨⟨⟨⟨h1,h2⟩,h3⟩,h4⟩,wrong_neg.2 h5⟩
theorem impS_T (x y : Fm) : impS x.T y.T=(Fm.jn 62 x y).T:=by
 apply ext_BL
 simp [impS,BL,Fm.T,Fm.tl,ByteArray.data_append]
theorem impS_ok {x y : ByteArray} (hx : okS x=true) (hy : okS y=true) : impS x y=(Fm.jn 62 (fmS x) (fmS y)).T∧(Fm.jn 62 (fmS x) (fmS y)).wf=true:=by
 obtain ⟨w1,t1,_⟩:=okS_spec hx
 obtain ⟨w2,t2,_⟩:=okS_spec hy
 refine ⟨?_,by rw [Fm.wf,w1,w2]; rfl⟩
 rw [← impS_T,← t1,← t2]
theorem fmS_imp {x y : ByteArray} (hx : okS x=true) (hy : okS y=true) : fmS (impS x y)=.jn 62 (fmS x) (fmS y):=by
 obtain ⟨h1,h2⟩:=impS_ok hx hy
 rw [h1,fmS_T h2]
def impR : Fm->Option (Fm × Fm)
 | .lf _ => none
 | .ng _ => none
 | .jn o a b => if o=62 then some (a,b) else none
theorem impR_some {x a b : Fm} (h : impR x=some (a,b)) : x=.jn 62 a b:=by
 cases x with
 | lf _ => cases h
 | ng _ => cases h
 | jn o p q =>
   rw [impR] at h
   split at h
   . rename_i e; cases h; rw [e]
   . cases h
def lastF (ss : List Fs) : Fs:=ss.getD (ss.length - 1) Fs.z
def mvS (n : Nat) (s : Fs) : Fs:=if s.r=-1 then ⟨s.f,s.r,s.a + n,s.b + n⟩ else s
noncomputable def amR (two : List Fs) : Option (Fm × Fm):=impR (fmS (lastF two).f)
noncomputable def amG (gs : List ByteArray) (one two : List Fs) : Bool:=proofF gs one && proofF gs two && decide (one.length + two.length + 1<=80) && (match amR two with | some (a,_) => decide (a.T=(lastF one).f) | none => false)
noncomputable def amB (two : List Fs) : ByteArray:=match amR two with | some (_,b) => b.T | none => nilB
noncomputable def amL (one two : List Fs) : List Fs:=one++two.map (mvS one.length)++[⟨amB two,-1,(one.length : Int) - 1,((one.length + two.length : Nat) : Int) - 1⟩]
noncomputable def amV (gs : List ByteArray) (one two : List Fs) : List Fs:=if amG gs one two then amL one two else []
theorem mvS_f (n : Nat) (s : Fs) : (mvS n s).f=s.f:=by rw [mvS]; split<;>rfl
theorem getD_app1 {α : Type} {z : α} {l r : List α} {k : Nat} (h : k < l.length) : (l++r).getD k z=l.getD k z:=by
 simp [List.getD_eq_getElem?_getD,List.getElem?_append_left h]
theorem getD_app2 {α : Type} {z : α} {l r : List α} {k : Nat} (h : l.length<=k) : (l++r).getD k z=r.getD (k - l.length) z:=by
 simp [List.getD_eq_getElem?_getD,List.getElem?_append_right h]
theorem getD_map1 {α β : Type} {z : α} {z' : β} {f : α->β} {l : List α} {k : Nat} (h : k < l.length) : (l.map f).getD k z'=f (l.getD k z):=by
 simp [List.getD_eq_getElem?_getD,h]
theorem am_len (one two : List Fs) : (amL one two).length=one.length + two.length + 1:=by simp [amL]; omega
theorem am_1 {one two : List Fs} {k : Nat} (h : k < one.length) : (amL one two).getD k Fs.z=one.getD k Fs.z:=by
 rw [amL,List.append_assoc,getD_app1 h]
theorem am_2 {one two : List Fs} {k : Nat} (h : k < two.length) : (amL one two).getD (one.length + k) Fs.z=mvS one.length (two.getD k Fs.z):=by
 rw [amL,List.append_assoc,getD_app2 (by omega),Nat.add_sub_cancel_left,getD_app1 (by simpa using h),getD_map1 h]
theorem am_3 {one two : List Fs} : (amL one two).getD (one.length + two.length) Fs.z=⟨amB two,-1,(one.length : Int) - 1,((one.length + two.length : Nat) : Int) - 1⟩:=by
 have e : (one++two.map (mvS one.length)).length=one.length + two.length:=by simp
 rw [amL,getD_app2 (by omega),e,Nat.sub_self]; rfl
theorem am_law {gs : List ByteArray} {one two : List Fs} (h : amG gs one two=true) : proofF gs one=true∧proofF gs two=true∧proofF gs (amL one two)=true∧(lastF (amL one two)).f=amB two∧(lastF two).f=impS (lastF one).f (amB two)∧okS (amB two)=true:=by
 rw [amG] at h
 simp only [Bc,decide_eq_true_eq] at h
 obtain ⟨⟨⟨p1,p2⟩,hz⟩,hm⟩:=h
 cases hr : amR two with
 | none => rw [hr] at hm; cases hm
 | some ab =>
   obtain ⟨a,b⟩:=ab
   rw [hr] at hm
   have hB : amB two=b.T:=by rw [amB,hr]
   have ha : a.T=(lastF one).f:=by simpa using hm
   have hf : fmS (lastF two).f=.jn 62 a b:=impR_some hr
   obtain ⟨g1,l1,ok1,n1,c1⟩:=proof_spec p1
   obtain ⟨g2,l2,ok2,n2,c2⟩:=proof_spec p2
   have k1 : okS (lastF one).f=true:=cor_ok (c1 _ (by omega))
   have k2 : okS (lastF two).f=true:=cor_ok (c2 _ (by omega))
   obtain ⟨w2,t2,z2⟩:=okS_spec k2
   rw [hf] at w2 t2
   have hw : (isOp 62 && a.wf && b.wf)=true:=w2
   simp only [Bc] at hw
   have hz2 : (Fm.jn 62 a b).T.size<=80:=by rw [← t2]; exact z2
   rw [size_jn] at hz2
   have kb : okS b.T=true:=okS_T hw.2 (by omega)
   have himp : (lastF two).f=impS (lastF one).f b.T:=by rw [t2,← ha,impS_T]
   have hlast : (lastF (amL one two)).f=amB two:=by
    rw [lastF,am_len,Nat.add_sub_cancel,am_3]
   refine ⟨p1,p2,proof_of g1 (by rw [am_len]; omega) ok1 (by rw [am_len]; omega) fun k hk => ?_,hlast,by rw [hB]; exact himp,by rw [hB]; exact kb⟩
   rw [am_len] at hk
   rcases Nat.lt_or_ge k one.length with h1 | h1
   . rw [am_1 h1]
     have hc:=c1 k h1
     rw [corB,Bc] at hc ⊢
     refine ⟨hc.1,?_⟩
     have hc:=hc.2
     split
     . rename_i q; rw [if_pos q] at hc; exact hc
     . rename_i q
       rw [if_neg q] at hc
       split
       . rename_i q2; rw [if_pos q2] at hc; exact hc
       . rename_i q2
         rw [if_neg q2] at hc
         split
         . rename_i q3
           rw [if_pos q3] at hc
           simp only [Bc,decide_eq_true_eq] at hc
           rw [am_1 (by omega),am_1 (by omega)]
           simp only [Bc,decide_eq_true_eq]
           exact hc
         . rename_i q3; rw [if_neg q3] at hc; exact hc
   . obtain ⟨i,rfl⟩ : ∃ i,k=one.length + i:=⟨k - one.length,by omega⟩
     rcases Nat.lt_or_ge i two.length with h2 | h2
     . rw [am_2 h2]
       have hc:=c2 i h2
       rw [corB,Bc] at hc ⊢
       rw [mvS_f]
       refine ⟨hc.1,?_⟩
       have hc:=hc.2
       generalize hs : two.getD i Fs.z=s at *
       by_cases q3 : s.r=-1
       . have e1 : mvS one.length s=⟨s.f,s.r,s.a + one.length,s.b + one.length⟩:=by rw [mvS,if_pos q3]
         rw [e1]
         dsimp only
         have m1 : ¬ (1<=s.r∧s.r<=10):=by omega
         have m2 : ¬ s.r=0:=by omega
         rw [if_neg m1,if_neg m2,if_pos q3] at hc ⊢
         simp only [Bc,decide_eq_true_eq] at hc
         obtain ⟨⟨⟨⟨a0,a1⟩,b0,b1⟩,hok⟩,he⟩:=hc
         have ea : (s.a + (one.length : Int)).toNat=one.length + s.a.toNat:=by omega
         have eb : (s.b + (one.length : Int)).toNat=one.length + s.b.toNat:=by omega
         rw [ea,eb,am_2 (by omega),am_2 (by omega),mvS_f,mvS_f]
         simp only [Bc,decide_eq_true_eq]
         exact ⟨⟨⟨⟨by omega,by omega⟩,by omega,by omega⟩,hok⟩,he⟩
       . have e1 : mvS one.length s=s:=by rw [mvS,if_neg q3]
         rw [e1]
         rw [if_neg q3] at hc ⊢
         exact hc
     . obtain rfl : i=two.length:=by omega
       rw [am_3,corB,hB]
       have q1 : (one.length : Int) - 1=((one.length - 1 : Nat) : Int):=by omega
       have q2 : ((one.length + two.length : Nat) : Int) - 1=((one.length + (two.length - 1) : Nat) : Int):=by omega
       dsimp only
       rw [q1,q2,Int.toNat_natCast,Int.toNat_natCast,am_1 (by omega),am_2 (by omega),mvS_f,if_neg (by decide),if_neg (by decide),if_pos rfl]
       have e1 : one.getD (one.length - 1) Fs.z=lastF one:=rfl
       have e2 : two.getD (two.length - 1) Fs.z=lastF two:=rfl
       rw [e1,e2,k1,k2,kb]
       simp only [Bc,decide_eq_true_eq,Bool.and_self,Bool.or_true,and_true,true_and]
       exact ⟨⟨⟨by omega,by omega⟩,by omega,by omega⟩,himp⟩
noncomputable def pfP (l t : ByteArray) (s : Fs) : Fs:=⟨putS s.f l t,s.r,s.a,s.b⟩
noncomputable def pfG (gs : List ByteArray) (ss : List Fs) (l t : ByteArray) : Bool:=(okF gs ss && decide (wrongF true gs ss < 0) && okS t && letS l) && ss.all (fun s => putG s.f l t)
noncomputable def pfV (gs : List ByteArray) (ss : List Fs) (l t : ByteArray) : List Fs:=if pfG gs ss l t then ss.map (pfP l t) else []
theorem sub_sub (f g : UInt8->Fm) : ∀ x : Fm,(x.sub f).sub g=x.sub fun c => (f c).sub g
 | .lf c => by
   cases h : isLet c with
   | true => rw [Fm.sub,Fm.sub,h,if_pos rfl,if_pos rfl]
   | false => rw [Fm.sub,Fm.sub,h,if_neg (by simp),if_neg (by simp),Fm.sub,h,if_neg (by simp)]
 | .ng a => by rw [Fm.sub,Fm.sub,Fm.sub,sub_sub f g a]
 | .jn o a b => by rw [Fm.sub,Fm.sub,Fm.sub,sub_sub f g a,sub_sub f g b]
theorem isC_put {k : Nat} {y : Fm} (σ : UInt8->Fm) (h : isC k y=true) : isC k (y.sub σ)=true:=by
 obtain ⟨f,hf⟩ : ∃ f,y=(sch k).sub f:=⟨_,mt_found (fun c => ((mt (sch k) y fun _ => none).1 c).getD (.lf 48)) (sch k) y _ h (fun c z hz => by rw [hz]; rfl)⟩
 rw [hf,sub_sub]; exact isC_sub _ _
theorem put_f {s l t : ByteArray} (h : putG s l t=true) : okS s=true∧okS t=true∧letS l=true∧putS s l t=(putF s l t).T∧okS (putS s l t)=true∧fmS (putS s l t)=putF s l t:=by
 have h':=h
 rw [putG] at h'
 simp only [Bc,decide_eq_true_eq] at h'
 obtain ⟨⟨⟨os,ot⟩,oL⟩,hz⟩:=h'
 have hw : (putF s l t).wf=true:=one1_wf (okS_spec ot).1 (fmS s) (okS_spec os).1
 have hS : putS s l t=(putF s l t).T:=by rw [putS,if_pos h]
 refine ⟨os,ot,oL,hS,by rw [hS]; exact okS_T hw hz,by rw [hS]; exact fmS_T hw⟩
theorem put_imp {x y l t : ByteArray} (h : putG (impS x y) l t=true) (hx : putG x l t=true) (hy : putG y l t=true) : putS (impS x y) l t=impS (putS x l t) (putS y l t):=by
 rw [(put_f h).2.2.2.1,(put_f hx).2.2.2.1,(put_f hy).2.2.2.1,impS_T]
 have e : fmS (impS x y)=.jn 62 (fmS x) (fmS y):=fmS_imp (put_f hx).1 (put_f hy).1
 show ((fmS (impS x y)).sub _).T=_
 rw [e]; rfl
theorem pf_law {gs : List ByteArray} {ss : List Fs} {l t : ByteArray} (h : pfG gs ss l t=true) (hn : 0 < ss.length) (hg : ∀ g ∈ gs,putG g l t=true) : proofF (gs.map fun g => putS g l t) (ss.map (pfP l t))=true:=by
 rw [pfG,okF] at h
 simp only [Bc,decide_eq_true_eq,List.all_eq_true] at h
 obtain ⟨⟨⟨⟨⟨⟨l6,l80⟩,hgs⟩,hw⟩,ht⟩,hl⟩,hput⟩:=h
 have hc:=wrong_neg.1 hw
 have hp : ∀ k,k < ss.length->putG (ss.getD k Fs.z).f l t=true:=fun k hk => hput _ (getD_mem hk)
 refine proof_of (by simpa using l6) (by simpa using l80) (fun g hg' => ?_) (by simpa using hn) fun k hk => ?_
 . obtain ⟨g0,h1,rfl⟩:=List.mem_map.1 hg'
   exact (put_f (hg g0 h1)).2.2.2.2.1
 . have hk : k < ss.length:=by simpa using hk
   rw [getD_map1 hk]
   have hck:=hc k hk
   have hpk:=hp k hk
   generalize ss.getD k Fs.z=s at *
   rw [corB,Bc] at hck ⊢
   refine ⟨(put_f hpk).2.2.2.2.1,?_⟩
   have hck:=hck.2
   show (if 1<=s.r∧s.r<=10 then _ else if s.r=0 then _ else if s.r=-1 then _ else _)=true
   split
   . rename_i q
     rw [if_pos q] at hck
     simp only [Bc] at hck ⊢
     refine ⟨hck.1,?_⟩
     show isC _ (fmS (putS s.f l t))=true
     rw [(put_f hpk).2.2.2.2.2]
     exact isC_put _ hck.2
   . rename_i q
     rw [if_neg q] at hck
     split
     . rename_i q2
       rw [if_pos q2] at hck
       simp only [Bc,decide_eq_true_eq] at hck
       obtain ⟨⟨hb,ha0,ha1⟩,he⟩:=hck
       show ((decide (s.b=0) && (decide (0<=s.a) && decide (s.a<=((gs.map fun g => putS g l t).length : Int) - 1))) && decide ((gs.map fun g => putS g l t).getD s.a.toNat nilB=putS s.f l t))=true
       rw [getD_map1 (z:=nilB) (by omega),he,List.length_map]
       simp only [Bc,decide_eq_true_eq]
       exact ⟨⟨hb,ha0,ha1⟩,trivial⟩
     . rename_i q2
       rw [if_neg q2] at hck
       split
       . rename_i q3
         rw [if_pos q3] at hck
         simp only [Bc,decide_eq_true_eq] at hck
         obtain ⟨⟨⟨⟨a0,a1⟩,b0,b1⟩,_⟩,he⟩:=hck
         have hA:=hp s.a.toNat (by omega)
         have hB:=hp s.b.toNat (by omega)
         show ((decide (0<=s.a) && decide (s.a<=(k : Int) - 1)) && (decide (0<=s.b) && decide (s.b<=(k : Int) - 1)) &&
          (!true || (okS ((ss.map (pfP l t)).getD s.a.toNat Fs.z).f && okS ((ss.map (pfP l t)).getD s.b.toNat Fs.z).f)) && decide (((ss.map (pfP l t)).getD s.b.toNat Fs.z).f=impS ((ss.map (pfP l t)).getD s.a.toNat Fs.z).f (putS s.f l t)))=true
         rw [getD_map1 (z:=Fs.z) (by omega),getD_map1 (z:=Fs.z) (by omega)]
         have e1 : (pfP l t (ss.getD s.a.toNat Fs.z)).f=putS (ss.getD s.a.toNat Fs.z).f l t:=rfl
         have e2 : (pfP l t (ss.getD s.b.toNat Fs.z)).f=putS (ss.getD s.b.toNat Fs.z).f l t:=rfl
         rw [e1,e2,(put_f hA).2.2.2.2.1,(put_f hB).2.2.2.2.1]
         have e3 : putS (ss.getD s.b.toNat Fs.z).f l t=impS (putS (ss.getD s.a.toNat Fs.z).f l t) (putS s.f l t):=by
          rw [he] at hB ⊢
          exact put_imp hB hA hpk
         rw [e3]
         simp only [Bc,decide_eq_true_eq,Bool.and_self,Bool.or_true,and_true]
         exact ⟨⟨a0,a1⟩,b0,b1⟩
       . rename_i q3; rw [if_neg q3] at hck; exact hck
end Abs.Y

namespace Abs.Y
open Go Go.Proofs Abs
set_option maxRecDepth 100000

structure SzF (gs : List ByteArray) (ss : List Fs) : Prop where
 gl : gs.length<=1000
 sl : ss.length<=1000
 gz : ∀ j,(gs.getD j nilB).size<=1000
 sz : ∀ j,(ss.getD j Fs.z).f.size<=1000
theorem beq_str (a b : ByteArray) : (a.toList == b.toList)=decide (a=b):=by
 rw [Bool.eq_iff_iff,beq_iff_eq,decide_eq_true_eq]
 refine ⟨fun h => ?_,fun h => by rw [h]⟩
 rw [ByteArray.toList_eq,ByteArray.toList_eq] at h
 exact ext_BL h
set_option maxHeartbeats 16000000 in
theorem fregeCorrect_ok (gs : List ByteArray) (ss : List Fs) (k : Nat) (hk : k < ss.length) (z : SzF gs ss) :
 Ctr Tryd.prog 69 [.slice (gs.map .str),.slice (ss.map fsD),.int .i64 k] false (.d (.bool (corB true gs ss k (ss.getD k Fs.z)))) []:=by
 have hel:=el_fs (xs:=ss) hk
 have hgl:=z.gl
 have hsl:=z.sl
 have hz:=z.sz k
 have hfs:=fun (i : Nat) (h : i < ss.length) => el_fs (xs:=ss) h
 have hgs:=fun (i : Nat) (h : i < gs.length) => el_gs (xs:=gs) h
 have hzs:=z.sz
 generalize hs : ss.getD k Fs.z=s at *
 obtain ⟨f,r,a,b⟩:=s
 dsimp only at hel hz
 obtain ⟨x,hx,c1⟩:=parse_ok f (by omega)
 have cw1:=within_ok r 1 10
 cases hok : okS f with
 | false =>
   rw [hok] at c1
   have hres : corB true gs ss k ⟨f,r,a,b⟩=false:=by rw [corB,hok]; rfl
   rw [hres]
   refine Ctr.of (n:=120) (rs:=[.tmp 6]) Tryd.func69 rfl rfl Tryd.ntmps69 rfl rfl (by kernel_rfl) Tryd.checked.mixed ?_
   simp (disch:=first | omega | decide +kernel) only [hel,go_sem,Qa,Qb,Qc,Qd,Qe,↓reduceIte,reduceCtorEq,Qf,Qg,Qh]
   (repeat' (first | ((first | (refine gsel_split (fun q' => ?_) (fun q' => ?_)<;>(have h':=q')<;>(try simp only [za1,za2,Ba,Bb,za3,ne_eq,za4,za5,za6,Ia,Ib,Ic,Ie,Da,Bc,Bh,Be,za7,za8] at h')<;>try (exfalso; omega)) | (have q':=trivial; first | refine callX_shared (c1) rfl (by decide) ?_ | refine callY_shared (c1) rfl ?_ | refine hE _ _ ret_ne ?_ | refine hE _ _ exit_ne ?_))<;>(try simp (disch:=first | omega | decide +kernel) only [q',hel,go_sem,Qa,Qb,Qc,Qd,Qe,↓reduceIte,reduceCtorEq,Qf,Qg,Qh])<;>clear q') | refine hN _ ?_ ?_ Wk.kk | with_reducible refine And.intro ?_ ?_ | with_reducible omega | exact ok_ints | exact cells_ints | exact no_mem | with_reducible exact plain_ints | (refine le_maxLen ?_; omega) | (refine za9 ⟨?_,?_⟩) | (simp only [go_sem,Qc,Qb,zb1,zb2,forall_eq]; done)))
   all_goals (first | omega | assumption | rfl | exact absurd trivial ‹¬True›)
 | true =>
   rw [hx hok,hok] at c1
   have n1:=fmD_na (fmS f)
   have n2:=fmD_nc (fmS f)
   have hw:=(okS_spec hok).1
   by_cases q1 : 1<=r∧r<=10
   . obtain ⟨j,hj,hj10⟩ : ∃ j : Nat,r=((j + 1 : Nat) : Int)∧j < 10:=⟨(r - 1).toNat,by omega,by omega⟩
     have c2:=isCase_ok j hj10 (fmS f) hw
     rw [← hj] at c2
     rw [decide_eq_true q1.1,decide_eq_true q1.2] at cw1
     have hres : corB true gs ss k ⟨f,r,a,b⟩=(decide (a=0) && decide (b=0) && isC j (fmS f)):=by
      rw [corB,hok,Bool.true_and]
      dsimp only
      rw [if_pos q1,show (r - 1).toNat=j by omega]
     rw [hres]
     clear hres
     generalize isC j (fmS f)=ic at *
     generalize fmD (fmS f)=y at *
     by_cases ha : a=0<;>by_cases hb : b=0
     all_goals
      refine Ctr.of (n:=120) (rs:=[.tmp 6]) Tryd.func69 rfl rfl Tryd.ntmps69 rfl rfl (by kernel_rfl) Tryd.checked.mixed ?_
      simp (disch:=first | omega | decide +kernel) only [hel,Bool.and_self,ha,hb,decide_true,decide_false,Bool.true_and,Bool.false_and,Bool.and_false,go_sem,Qa,Qb,Qc,Qd,Qe,↓reduceIte,reduceCtorEq,Qf,Qg,Qh]
      (repeat' (first | ((first | (refine gsel_split (fun q' => ?_) (fun q' => ?_)<;>(have h':=q')<;>(try simp only [za1,za2,Ba,Bb,za3,ne_eq,za4,za5,za6,Ia,Ib,Ic,Ie,Da,Bc,Bh,Be,za7,za8] at h')<;>try (exfalso; omega)) | (have q':=trivial; first | refine callX_shared (c1) rfl (by decide) ?_ | refine callY_shared (c1) rfl ?_ | refine callX_new (cw1) rfl (by decide) ?_ | refine callY_new (cw1) rfl ?_ | refine callX_new (c2) rfl (by decide) ?_ | refine callY_new (c2) rfl ?_ | refine hE _ _ ret_ne ?_ | refine hE _ _ exit_ne ?_))<;>(try simp (disch:=first | omega | decide +kernel) only [q',hel,Bool.and_self,ha,hb,decide_true,decide_false,Bool.true_and,Bool.false_and,Bool.and_false,go_sem,Qa,Qb,Qc,Qd,Qe,↓reduceIte,reduceCtorEq,Qf,Qg,Qh])<;>clear q') | refine hN _ ?_ ?_ Wk.kk | with_reducible refine And.intro ?_ ?_ | with_reducible omega | exact ok_ints | exact cells_ints | exact no_mem | with_reducible exact plain_ints | (refine le_maxLen ?_; omega) | (refine za9 ⟨?_,?_⟩) | (simp only [go_sem,Qc,Qb,zb1,zb2,forall_eq]; done)))
     all_goals (first | omega | assumption | rfl | exact absurd trivial ‹¬True› | (simp [ha,hb]; done))
   . have hr0 : (decide (1<=r) && decide (r<=10))=false:=by
      rw [← Bool.decide_and]; exact decide_eq_false q1
     rw [hr0] at cw1
     generalize fmD (fmS f)=y at *
     by_cases q2 : r=0
     . have cw2:=within_ok a 0 ((gs.length : Int) - 1)
       have hres : corB true gs ss k ⟨f,r,a,b⟩=(decide (b=0) && (decide (0<=a) && decide (a<=(gs.length : Int) - 1)) && decide (gs.getD a.toNat nilB=f)):=by
        rw [corB,hok,Bool.true_and]
        dsimp only
        rw [if_neg q1,if_pos q2]
       rw [hres]
       clear hres
       subst q2
       by_cases hr : 0<=a∧a<=(gs.length : Int) - 1
       . rw [decide_eq_true hr.1,decide_eq_true hr.2] at cw2 ⊢
         have hg:=hgs a.toNat (by omega)
         generalize gs.getD a.toNat nilB=g at *
         by_cases hb : b=0
         all_goals
          refine Ctr.of (n:=120) (rs:=[.tmp 6]) Tryd.func69 rfl rfl Tryd.ntmps69 rfl rfl (by kernel_rfl) Tryd.checked.mixed ?_
          simp (disch:=first | omega | decide +kernel) only [hel,hg,hb,beq_str,Bool.and_self,decide_true,decide_false,Bool.true_and,Bool.false_and,go_sem,Qa,Qb,Qc,Qd,Qe,↓reduceIte,reduceCtorEq,Qf,Qg,Qh]
          (repeat' (first | ((first | (refine gsel_split (fun q' => ?_) (fun q' => ?_)<;>(have h':=q')<;>(try simp only [za1,za2,Ba,Bb,za3,ne_eq,za4,za5,za6,Ia,Ib,Ic,Ie,Da,Bc,Bh,Be,za7,za8] at h')<;>try (exfalso; omega)) | (have q':=trivial; first | refine callX_shared (c1) rfl (by decide) ?_ | refine callY_shared (c1) rfl ?_ | refine callX_new (cw1) rfl (by decide) ?_ | refine callY_new (cw1) rfl ?_ | refine callX_new (cw2) rfl (by decide) ?_ | refine callY_new (cw2) rfl ?_ | refine hE _ _ ret_ne ?_ | refine hE _ _ exit_ne ?_))<;>(try simp (disch:=first | omega | decide +kernel) only [q',hel,hg,hb,beq_str,Bool.and_self,List.length_map,decide_true,decide_false,Bool.true_and,Bool.false_and,go_sem,Qa,Qb,Qc,Qd,Qe,↓reduceIte,reduceCtorEq,Qf,Qg,Qh])<;>clear q') | refine hN _ ?_ ?_ Wk.kk | with_reducible refine And.intro ?_ ?_ | with_reducible omega | exact ok_ints | exact cells_ints | exact no_mem | with_reducible exact plain_ints | (refine le_maxLen ?_; omega) | (refine za9 ⟨?_,?_⟩) | (simp only [go_sem,Qc,Qb,zb1,zb2,forall_eq]; done)))
         all_goals (first | omega | assumption | rfl | exact absurd trivial ‹¬True› | (simp [hb]; done))
       . have hd : (decide (0<=a) && decide (a<=(gs.length : Int) - 1))=false:=by
          rw [← Bool.decide_and]; exact decide_eq_false hr
         rw [hd] at cw2 ⊢
         refine Ctr.of (n:=120) (rs:=[.tmp 6]) Tryd.func69 rfl rfl Tryd.ntmps69 rfl rfl (by kernel_rfl) Tryd.checked.mixed ?_
         simp (disch:=first | omega | decide +kernel) only [hel,Bool.and_false,Bool.false_and,go_sem,Qa,Qb,Qc,Qd,Qe,↓reduceIte,reduceCtorEq,Qf,Qg,Qh]
         (repeat' (first | ((first | (refine gsel_split (fun q' => ?_) (fun q' => ?_)<;>(have h':=q')<;>(try simp only [za1,za2,Ba,Bb,za3,ne_eq,za4,za5,za6,Ia,Ib,Ic,Ie,Da,Bc,Bh,Be,za7,za8] at h')<;>try (exfalso; omega)) | (have q':=trivial; first | refine callX_shared (c1) rfl (by decide) ?_ | refine callY_shared (c1) rfl ?_ | refine callX_new (cw1) rfl (by decide) ?_ | refine callY_new (cw1) rfl ?_ | refine callX_new (cw2) rfl (by decide) ?_ | refine callY_new (cw2) rfl ?_ | refine hE _ _ ret_ne ?_ | refine hE _ _ exit_ne ?_))<;>(try simp (disch:=first | omega | decide +kernel) only [q',hel,List.length_map,Bool.and_false,Bool.false_and,go_sem,Qa,Qb,Qc,Qd,Qe,↓reduceIte,reduceCtorEq,Qf,Qg,Qh])<;>clear q') | refine hN _ ?_ ?_ Wk.kk | with_reducible refine And.intro ?_ ?_ | with_reducible omega | exact ok_ints | exact cells_ints | exact no_mem | with_reducible exact plain_ints | (refine le_maxLen ?_; omega) | (refine za9 ⟨?_,?_⟩) | (simp only [go_sem,Qc,Qb,zb1,zb2,forall_eq]; done)))
         all_goals (first | omega | assumption | rfl | exact absurd trivial ‹¬True›)
     . by_cases q3 : r=-1
       . have cwa:=within_ok a 0 ((k : Int) - 1)
         have cwb:=within_ok b 0 ((k : Int) - 1)
         have hres : corB true gs ss k ⟨f,r,a,b⟩=((decide (0<=a) && decide (a<=(k : Int) - 1)) && (decide (0<=b) && decide (b<=(k : Int) - 1)) && (okS (ss.getD a.toNat Fs.z).f && okS (ss.getD b.toNat Fs.z).f) && decide ((ss.getD b.toNat Fs.z).f=impS (ss.getD a.toNat Fs.z).f f)):=by
          rw [corB,hok,Bool.true_and]
          dsimp only
          rw [if_neg q1,if_neg q2,if_pos q3]
          simp
         rw [hres]
         clear hres
         subst q3
         by_cases hra : 0<=a∧a<=(k : Int) - 1
         . rw [decide_eq_true hra.1,decide_eq_true hra.2] at cwa ⊢
           by_cases hrb : 0<=b∧b<=(k : Int) - 1
           . rw [decide_eq_true hrb.1,decide_eq_true hrb.2] at cwb ⊢
             have ha:=hfs a.toNat (by omega)
             have hb:=hfs b.toNat (by omega)
             have za:=hzs a.toNat
             have zb:=hzs b.toNat
             have ia:=IsFormula_ok (ss.getD a.toNat Fs.z).f (by omega)
             have ib:=IsFormula_ok (ss.getD b.toNat Fs.z).f (by omega)
             rw [impS]
             generalize ss.getD a.toNat Fs.z=sa at *
             generalize ss.getD b.toNat Fs.z=sb at *
             obtain ⟨fa,_,_,_⟩:=sa
             obtain ⟨fb,_,_,_⟩:=sb
             dsimp only at ha hb za zb ia ib ⊢
             generalize okS fa=oa at *
             generalize okS fb=ob at *
             have y1 : (ByteArray.mk #[40]).size=1:=rfl
             have y2 : (ByteArray.mk #[62]).size=1:=rfl
             have y3 : (ByteArray.mk #[41]).size=1:=rfl
             cases oa<;>cases ob
             all_goals
              refine Ctr.of (n:=120) (rs:=[.tmp 6]) Tryd.func69 rfl rfl Tryd.ntmps69 rfl rfl (by kernel_rfl) Tryd.checked.mixed ?_
              simp (disch:=first | omega | decide +kernel) only [hel,ha,hb,beq_str,Bool.and_self,Bool.true_and,Bool.false_and,Bool.and_false,go_sem,Qa,Qb,Qc,Qd,Qe,↓reduceIte,reduceCtorEq,Qf,Qg,Qh]
              (repeat' (first | ((first | (refine gsel_split (fun q' => ?_) (fun q' => ?_)<;>(have h':=q')<;>(try simp only [za1,za2,Ba,Bb,za3,ne_eq,za4,za5,za6,Ia,Ib,Ic,Ie,Da,Bc,Bh,Be,za7,za8] at h')<;>try (exfalso; omega)) | (have q':=trivial; first | refine callX_shared (c1) rfl (by decide) ?_ | refine callY_shared (c1) rfl ?_ | refine callX_new (cw1) rfl (by decide) ?_ | refine callY_new (cw1) rfl ?_ | refine callX_new (cwa) rfl (by decide) ?_ | refine callY_new (cwa) rfl ?_ | refine callX_new (cwb) rfl (by decide) ?_ | refine callY_new (cwb) rfl ?_ | refine callX_new (ia) rfl (by decide) ?_ | refine callY_new (ia) rfl ?_ | refine callX_new (ib) rfl (by decide) ?_ | refine callY_new (ib) rfl ?_ | refine hE _ _ ret_ne ?_ | refine hE _ _ exit_ne ?_))<;>(try simp (disch:=first | omega | decide +kernel) only [q',hel,ha,hb,beq_str,Bool.and_self,Bool.true_and,Bool.false_and,Bool.and_false,y1,y2,y3,ByteArray.size_append,go_sem,Qa,Qb,Qc,Qd,Qe,↓reduceIte,reduceCtorEq,Qf,Qg,Qh])<;>clear q') | refine hN _ ?_ ?_ Wk.kk | with_reducible refine And.intro ?_ ?_ | with_reducible omega | exact ok_ints | exact cells_ints | exact no_mem | with_reducible exact plain_ints | (refine le_maxLen ?_; omega) | (refine za9 ⟨?_,?_⟩) | (simp only [go_sem,Qc,Qb,zb1,zb2,forall_eq]; done)))
             all_goals (first | omega | assumption | rfl | exact absurd trivial ‹¬True›)
           . have hd : (decide (0<=b) && decide (b<=(k : Int) - 1))=false:=by
              rw [← Bool.decide_and]; exact decide_eq_false hrb
             rw [hd] at cwb ⊢
             refine Ctr.of (n:=120) (rs:=[.tmp 6]) Tryd.func69 rfl rfl Tryd.ntmps69 rfl rfl (by kernel_rfl) Tryd.checked.mixed ?_
             simp (disch:=first | omega | decide +kernel) only [hel,Bool.and_false,Bool.false_and,Bool.and_self,go_sem,Qa,Qb,Qc,Qd,Qe,↓reduceIte,reduceCtorEq,Qf,Qg,Qh]
             (repeat' (first | ((first | (refine gsel_split (fun q' => ?_) (fun q' => ?_)<;>(have h':=q')<;>(try simp only [za1,za2,Ba,Bb,za3,ne_eq,za4,za5,za6,Ia,Ib,Ic,Ie,Da,Bc,Bh,Be,za7,za8] at h')<;>try (exfalso; omega)) | (have q':=trivial; first | refine callX_shared (c1) rfl (by decide) ?_ | refine callY_shared (c1) rfl ?_ | refine callX_new (cw1) rfl (by decide) ?_ | refine callY_new (cw1) rfl ?_ | refine callX_new (cwa) rfl (by decide) ?_ | refine callY_new (cwa) rfl ?_ | refine callX_new (cwb) rfl (by decide) ?_ | refine callY_new (cwb) rfl ?_ | refine hE _ _ ret_ne ?_ | refine hE _ _ exit_ne ?_))<;>(try simp (disch:=first | omega | decide +kernel) only [q',hel,Bool.and_false,Bool.false_and,Bool.and_self,go_sem,Qa,Qb,Qc,Qd,Qe,↓reduceIte,reduceCtorEq,Qf,Qg,Qh])<;>clear q') | refine hN _ ?_ ?_ Wk.kk | with_reducible refine And.intro ?_ ?_ | with_reducible omega | exact ok_ints | exact cells_ints | exact no_mem | with_reducible exact plain_ints | (refine le_maxLen ?_; omega) | (refine za9 ⟨?_,?_⟩) | (simp only [go_sem,Qc,Qb,zb1,zb2,forall_eq]; done)))
             all_goals (first | omega | assumption | rfl | exact absurd trivial ‹¬True›)
         . have hd : (decide (0<=a) && decide (a<=(k : Int) - 1))=false:=by
            rw [← Bool.decide_and]; exact decide_eq_false hra
           rw [hd] at cwa ⊢
           refine Ctr.of (n:=120) (rs:=[.tmp 6]) Tryd.func69 rfl rfl Tryd.ntmps69 rfl rfl (by kernel_rfl) Tryd.checked.mixed ?_
           simp (disch:=first | omega | decide +kernel) only [hel,Bool.and_false,Bool.false_and,go_sem,Qa,Qb,Qc,Qd,Qe,↓reduceIte,reduceCtorEq,Qf,Qg,Qh]
           (repeat' (first | ((first | (refine gsel_split (fun q' => ?_) (fun q' => ?_)<;>(have h':=q')<;>(try simp only [za1,za2,Ba,Bb,za3,ne_eq,za4,za5,za6,Ia,Ib,Ic,Ie,Da,Bc,Bh,Be,za7,za8] at h')<;>try (exfalso; omega)) | (have q':=trivial; first | refine callX_shared (c1) rfl (by decide) ?_ | refine callY_shared (c1) rfl ?_ | refine callX_new (cw1) rfl (by decide) ?_ | refine callY_new (cw1) rfl ?_ | refine callX_new (cwa) rfl (by decide) ?_ | refine callY_new (cwa) rfl ?_ | refine hE _ _ ret_ne ?_ | refine hE _ _ exit_ne ?_))<;>(try simp (disch:=first | omega | decide +kernel) only [q',hel,Bool.and_false,Bool.false_and,go_sem,Qa,Qb,Qc,Qd,Qe,↓reduceIte,reduceCtorEq,Qf,Qg,Qh])<;>clear q') | refine hN _ ?_ ?_ Wk.kk | with_reducible refine And.intro ?_ ?_ | with_reducible omega | exact ok_ints | exact cells_ints | exact no_mem | with_reducible exact plain_ints | (refine le_maxLen ?_; omega) | (refine za9 ⟨?_,?_⟩) | (simp only [go_sem,Qc,Qb,zb1,zb2,forall_eq]; done)))
           all_goals (first | omega | assumption | rfl | exact absurd trivial ‹¬True›)
       . have hres : corB true gs ss k ⟨f,r,a,b⟩=false:=by
          rw [corB,hok,Bool.true_and]
          dsimp only
          rw [if_neg q1,if_neg q2,if_neg q3]
         rw [hres]
         refine Ctr.of (n:=120) (rs:=[.tmp 6]) Tryd.func69 rfl rfl Tryd.ntmps69 rfl rfl (by kernel_rfl) Tryd.checked.mixed ?_
         simp (disch:=first | omega | decide +kernel) only [hel,q1,q2,q3,go_sem,Qa,Qb,Qc,Qd,Qe,↓reduceIte,reduceCtorEq,Qf,Qg,Qh]
         (repeat' (first | ((first | (refine gsel_split (fun q' => ?_) (fun q' => ?_)<;>(have h':=q')<;>(try simp only [za1,za2,Ba,Bb,za3,ne_eq,za4,za5,za6,Ia,Ib,Ic,Ie,Da,Bc,Bh,Be,za7,za8] at h')<;>try (exfalso; omega)) | (have q':=trivial; first | refine callX_shared (c1) rfl (by decide) ?_ | refine callY_shared (c1) rfl ?_ | refine callX_new (cw1) rfl (by decide) ?_ | refine callY_new (cw1) rfl ?_ | refine hE _ _ ret_ne ?_ | refine hE _ _ exit_ne ?_))<;>(try simp (disch:=first | omega | decide +kernel) only [q',hel,q1,q2,q3,go_sem,Qa,Qb,Qc,Qd,Qe,↓reduceIte,reduceCtorEq,Qf,Qg,Qh])<;>clear q') | refine hN _ ?_ ?_ Wk.kk | with_reducible refine And.intro ?_ ?_ | with_reducible omega | exact ok_ints | exact cells_ints | exact no_mem | with_reducible exact plain_ints | (refine le_maxLen ?_; omega) | (refine za9 ⟨?_,?_⟩) | (simp only [go_sem,Qc,Qb,zb1,zb2,forall_eq]; done)))
         all_goals (first | omega | assumption | rfl | exact absurd trivial ‹¬True›)
end Abs.Y
