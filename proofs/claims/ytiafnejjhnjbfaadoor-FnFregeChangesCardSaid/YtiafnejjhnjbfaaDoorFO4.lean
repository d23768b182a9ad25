/- What functions of this program compute, over plain data. No condition. -/
import Derived.Test.YtiafnejjhnjbfaaDoorBX
import Derived.Test.YtiafnejjhnjbfaaDoorFO1
import Derived.Test.YtiafnejjhnjbfaaDoorChecked
import Derived.Shelf.Strings.Search3
import Derived.Ground.NamesProg
set_option linter.all false
namespace Abs.Y
open Go Go.Proofs Abs
open Nat renaming reduceEqDiff -> Qa, reduceLT -> Qb, reduceAdd -> Qc, reduceMul -> Qd, reduceSub -> Qe, reduceLeDiff -> Qf, reduceSubDiff -> Qg, reduceBEq -> Qh
open Bool renaming not_eq_true' -> Ba, not_eq_false' -> Bb, and_eq_true -> Bc, or_eq_true -> Bh, or_eq_false_iff -> Be
open Int renaming ofNat_lt -> Ia, ofNat_le -> Ib, not_lt -> Ic, not_le -> Ie
open Decidable renaming not_not -> Da
set_option maxRecDepth 100000

def fmD : Fm->D
 | .lf c => .ptr (.agg [.int .u8 c.toNat,.nilptr,.nilptr,.str (Fm.lf c).T])
 | .ng a => .ptr (.agg [.int .u8 126,fmD a,.nilptr,.str (Fm.ng a).T])
 | .jn o a b => .ptr (.agg [.int .u8 o.toNat,fmD a,fmD b,.str (Fm.jn o a b).T])
theorem enc_b : ∀ c : UInt8,c.toNat < 128->Utf8.encode (c.toNat : Int)=⟨#[c]⟩:=by
 have h : ∀ n,n < 128->Utf8.encode ((UInt8.ofNat n).toNat : Int)=⟨#[UInt8.ofNat n]⟩:=by decide +kernel
 intro c hc
 have:=h c.toNat hc
 rwa [UInt8.ofNat_toNat] at this
theorem lf_128 {c : UInt8} (h : isLf c=true) : c.toNat < 128:=by
 simp only [isLf,isLet,Bh,decide_eq_true_eq] at h
 rcases h with (h | h) | h
 . subst h; decide
 . subst h; decide
 . have:=UInt8.le_iff_toNat_le.1 h.2
   have e : (102 : UInt8).toNat=102:=rfl
   omega
theorem op_128 {c : UInt8} (h : isOp c=true) : c.toNat < 128:=by
 simp only [isOp,decide_eq_true_eq] at h
 rcases h with h | h | h<;>(subst h; decide)
theorem T_ng (a : Fm) : (ByteArray.mk #[126])++a.T=(Fm.ng a).T:=by
 apply ext_BL
 show ((ByteArray.mk #[126])++a.T).data.toList=_
 rw [ByteArray.data_append,Array.toList_append]; rfl
theorem T_jn (o : UInt8) (a b : Fm) : (ByteArray.mk #[40])++a.T++⟨#[o]⟩++b.T++ByteArray.mk #[41]=(Fm.jn o a b).T:=by
 apply ext_BL
 show (((((ByteArray.mk #[40])++a.T)++⟨#[o]⟩)++b.T)++ByteArray.mk #[41]).data.toList=_
 simp only [ByteArray.data_append,Array.toList_append]
 show ([40]++a.tl++[o]++b.tl)++[41]=40 :: (a.tl++o :: (b.tl++[41]))
 simp

@[reducible] def fmC (x : Fm) (c : Int) (a b : D) : D:=.agg [.int .u8 c,a,b,.str x.T]
theorem leaf_ok (c : UInt8) (h : c.toNat < 128) : Ctr Tryd.prog 72 [.int .u8 c.toNat] true (.d (fmD (.lf c))) []:=by
 unfold fmD
 refine Ctr.boxD1 (e:=71) (cells:=[.d (.int .u8 c.toNat),.d .nilptr,.d .nilptr,.d (.str (Fm.lf c).T)]) ⟨.inl rfl,.inl rfl,.inl rfl,.inl rfl,trivial⟩ ?_
 have e:=enc_b c h
 have e2 : (Fm.lf c).T=⟨#[c]⟩:=rfl
 rw [e2]
 refine Ctr.of (n:=8) (rs:=[.tmp 2]) Tryd.func72 rfl rfl Tryd.ntmps72 rfl rfl (by kernel_rfl) Tryd.checked.mixed ?_
 simp (disch:=first | omega | decide +kernel) only [e,Tryd.underlying9,go_sem,Qa,Qb,Qc,Qd,Qe,↓reduceIte,reduceCtorEq,Qf,Qg,Qh]
 (repeat' (first | ((first | (refine gsel_split (fun q' => ?_) (fun q' => ?_)<;>(have h':=q')<;>(try simp only [za1,za2,Ba,Bb,za3,ne_eq,za4,za5,za6,Ia,Ib,Ic,Ie,Da,Bc,Bh,Be,za7,za8] at h')<;>try (exfalso; omega)) | (have q':=trivial; first | refine hE _ _ ret_ne ?_ | refine hE _ _ exit_ne ?_))<;>(try simp (disch:=first | omega | decide +kernel) only [q',e,Tryd.underlying9,go_sem,Qa,Qb,Qc,Qd,Qe,↓reduceIte,reduceCtorEq,Qf,Qg,Qh])<;>clear q') | refine hN _ ?_ ?_ Wk.kk | with_reducible refine And.intro ?_ ?_ | with_reducible omega | exact ok_ints | exact cells_ints | exact no_mem | with_reducible exact plain_ints | (refine le_maxLen ?_; omega) | (refine za9 ⟨?_,?_⟩) | (simp only [go_sem,Qc,Qb,zb1,zb2,forall_eq]; done)))
 all_goals (first | exact ret_p1 [] rfl rfl rfl)
theorem not_ok (a : Fm) (hs : a.T.size<=1000000) : Ctr Tryd.prog 74 [fmD a] true (.d (fmD (.ng a))) []:=by
 rw [show fmD (.ng a)=.ptr (.agg [.int .u8 126,fmD a,.nilptr,.str (Fm.ng a).T]) from rfl]
 refine Ctr.boxD1 (e:=71) (cells:=[.d (.int .u8 126),.d (fmD a),.d .nilptr,.d (.str (Fm.ng a).T)]) ⟨.inl rfl,.inl rfl,.inl rfl,.inl rfl,trivial⟩ ?_
 have e:=T_ng a
 have hz : (ByteArray.mk #[126]).size=1:=rfl
 generalize (Fm.ng a).T=t at *
 obtain ⟨c,x,y,h⟩ : ∃ (c : Int) (x y : D),fmD a=.ptr (.agg [.int .u8 c,x,y,.str a.T]):=by cases a<;>exact ⟨_,_,_,rfl⟩
 generalize a.T=at_ at *
 rw [h]
 refine Ctr.of (n:=11) (rs:=[.tmp 2]) Tryd.func74 rfl rfl Tryd.ntmps74 rfl rfl (by kernel_rfl) Tryd.checked.mixed ?_
 simp (disch:=first | omega | decide +kernel) only [e,go_sem,Qa,Qb,Qc,Qd,Qe,↓reduceIte,reduceCtorEq,Qf,Qg,Qh]
 (repeat' (first | ((first | (refine gsel_split (fun q' => ?_) (fun q' => ?_)<;>(have h':=q')<;>(try simp only [za1,za2,Ba,Bb,za3,ne_eq,za4,za5,za6,Ia,Ib,Ic,Ie,Da,Bc,Bh,Be,za7,za8] at h')<;>try (exfalso; omega)) | (have q':=trivial; first | refine hE _ _ ret_ne ?_ | refine hE _ _ exit_ne ?_))<;>(try simp (disch:=first | omega | decide +kernel) only [q',e,hz,go_sem,Qa,Qb,Qc,Qd,Qe,↓reduceIte,reduceCtorEq,Qf,Qg,Qh])<;>clear q') | refine hN _ ?_ ?_ Wk.kk | with_reducible refine And.intro ?_ ?_ | with_reducible omega | exact ok_ints | exact cells_ints | exact no_mem | with_reducible exact plain_ints | (refine le_maxLen ?_; omega) | (refine za9 ⟨?_,?_⟩) | (simp only [go_sem,Qc,Qb,zb1,zb2,forall_eq]; done)))
 all_goals (first | exact ret_p1 [] rfl rfl rfl)
theorem join_ok (o : UInt8) (a b : Fm) (ho : o.toNat < 128) (ha : a.T.size<=1000000) (hb : b.T.size<=1000000) : Ctr Tryd.prog 73 [.int .u8 o.toNat,fmD a,fmD b] true (.d (fmD (.jn o a b))) []:=by
 rw [show fmD (.jn o a b)=.ptr (.agg [.int .u8 o.toNat,fmD a,fmD b,.str (Fm.jn o a b).T]) from rfl]
 refine Ctr.boxD1 (e:=71) (cells:=[.d (.int .u8 o.toNat),.d (fmD a),.d (fmD b),.d (.str (Fm.jn o a b).T)]) ⟨.inl rfl,.inl rfl,.inl rfl,.inl rfl,trivial⟩ ?_
 have e:=T_jn o a b
 have e1:=enc_b o ho
 have hz1 : (ByteArray.mk #[40]).size=1:=rfl
 have hz2 : (ByteArray.mk #[41]).size=1:=rfl
 have hz3 : (ByteArray.mk #[o]).size=1:=rfl
 generalize (Fm.jn o a b).T=t at *
 obtain ⟨c,x,y,h⟩ : ∃ (c : Int) (x y : D),fmD a=.ptr (.agg [.int .u8 c,x,y,.str a.T]):=by cases a<;>exact ⟨_,_,_,rfl⟩
 obtain ⟨c',x',y',h'⟩ : ∃ (c : Int) (x y : D),fmD b=.ptr (.agg [.int .u8 c,x,y,.str b.T]):=by cases b<;>exact ⟨_,_,_,rfl⟩
 generalize a.T=at_ at *
 generalize b.T=bt at *
 rw [h,h']
 refine Ctr.of (n:=26) (rs:=[.tmp 6]) Tryd.func73 rfl rfl Tryd.ntmps73 rfl rfl (by kernel_rfl) Tryd.checked.mixed ?_
 simp (disch:=first | omega | decide +kernel) only [e1,e,Tryd.underlying9,go_sem,Qa,Qb,Qc,Qd,Qe,↓reduceIte,reduceCtorEq,Qf,Qg,Qh]
 (repeat' (first | ((first | (refine gsel_split (fun q' => ?_) (fun q' => ?_)<;>(have h':=q')<;>(try simp only [za1,za2,Ba,Bb,za3,ne_eq,za4,za5,za6,Ia,Ib,Ic,Ie,Da,Bc,Bh,Be,za7,za8] at h')<;>try (exfalso; omega)) | (have q':=trivial; first | refine hE _ _ ret_ne ?_ | refine hE _ _ exit_ne ?_))<;>(try simp (disch:=first | omega | decide +kernel) only [q',e1,e,Tryd.underlying9,hz1,hz2,hz3,ByteArray.size_append,go_sem,Qa,Qb,Qc,Qd,Qe,↓reduceIte,reduceCtorEq,Qf,Qg,Qh])<;>clear q') | refine hN _ ?_ ?_ Wk.kk | with_reducible refine And.intro ?_ ?_ | with_reducible omega | exact ok_ints | exact cells_ints | exact no_mem | with_reducible exact plain_ints | (refine le_maxLen ?_; omega) | (refine za9 ⟨?_,?_⟩) | (simp only [go_sem,Qc,Qb,zb1,zb2,forall_eq]; done)))
 all_goals (first | exact ret_p1 [] rfl rfl rfl)
end Abs.Y

namespace Go.Proofs
open Go.Shelf Go.RowKit Go.Lib
def Tryd.layN_ren : Go.Shelf.Ren:=⟨fun | 144 => 76 | 143 => 58 | 219 => 75 | 217 => 84 | 225 => 85 | 224 => 86 | 267 => 87 | 266 => 96 | 314 => 97 | n => n,fun | 9 => 9 | 4 => 4 | 3 => 3 | 5 => 5 | 46 => 110 | 146 => 118 | 51 => 117 | n => n,fun | 1 => 0 | n => n⟩
theorem Tryd.layN : Go.Proofs.Lays.n144 Tryd.prog Tryd.layN_ren:={
 mixed:=by kernel_rfl
 f143:=Tryd.func58.trans (congrArg some (by kernel_rfl))
 f144:=Tryd.func76.trans (congrArg some (by kernel_rfl))
 f217:=Tryd.func84.trans (congrArg some (by kernel_rfl))
 f219:=Tryd.func75.trans (congrArg some (by kernel_rfl))
 f224:=Tryd.func86.trans (congrArg some (by kernel_rfl))
 f225:=Tryd.func85.trans (congrArg some (by kernel_rfl))
 f266:=Tryd.func96.trans (congrArg some (by kernel_rfl))
 f267:=Tryd.func87.trans (congrArg some (by kernel_rfl))
 f314:=Tryd.func97.trans (congrArg some (by kernel_rfl))
 t3:=Tryd.underlying3
 a3:=Tryd.isAgg3
 z3:=Tryd.sizeOf3
 v3:=Tryd.zeroValue3
 t4:=Tryd.underlying4
 a4:=Tryd.isAgg4
 z4:=Tryd.sizeOf4
 v4:=Tryd.zeroValue4
 t5:=Tryd.underlying5
 a5:=Tryd.isAgg5
 z5:=Tryd.sizeOf5
 v5:=Tryd.zeroValue5
 t9:=Tryd.underlying9
 a9:=Tryd.isAgg9
 z9:=Tryd.sizeOf9
 v9:=Tryd.zeroValue9
 t46:=Tryd.underlying110
 a46:=Tryd.isAgg110
 z46:=Tryd.sizeOf110
 v46:=Tryd.zeroValue110
 t51:=Tryd.underlying117
 a51:=Tryd.isAgg117
 z51:=Tryd.sizeOf117
 v51:=Tryd.zeroValue117
 t146:=Tryd.underlying118
 a146:=Tryd.isAgg118
 z146:=Tryd.sizeOf118
 v146:=Tryd.zeroValue118
 g1:=by kernel_rfl }
theorem Tryd.has_w (s : ByteArray) (c : UInt8) (w : World) : Calls Tryd.prog 76 #[.string s,.string ⟨#[c]⟩] w fun e w' => e=.returned (.bool (decide (0<=Lib.indexByte s.data.toList c)))∧w'=w :=
 Any.strings_Contains_one Tryd.layN s c w
end Go.Proofs

namespace Abs.Y
open Go Go.Proofs Abs
open Nat renaming reduceEqDiff -> Qa, reduceLT -> Qb, reduceAdd -> Qc, reduceMul -> Qd, reduceSub -> Qe, reduceLeDiff -> Qf, reduceSubDiff -> Qg, reduceBEq -> Qh
open Bool renaming not_eq_true' -> Ba, not_eq_false' -> Bb, and_eq_true -> Bc, or_eq_true -> Bh, or_eq_false_iff -> Be
open Int renaming ofNat_lt -> Ia, ofNat_le -> Ib, not_lt -> Ic, not_le -> Ie
open Decidable renaming not_not -> Da
set_option maxRecDepth 100000

theorem isLetter_ok (c : UInt8) : Ctr Tryd.prog 26 [.int .u8 c.toNat] false (.d (.bool (isLet c))) []:=by
 have h : isLet c=(decide (97<=(c.toNat : Int)) && decide ((c.toNat : Int) < 103)):=by
  unfold isLet
  rw [← Bool.decide_and]
  apply decide_eq_decide.2
  rw [UInt8.le_iff_toNat_le,UInt8.le_iff_toNat_le]
  have e1 : (97 : UInt8).toNat=97:=rfl
  have e2 : (102 : UInt8).toNat=102:=rfl
  omega
 rw [h]
 refine Ctr.of (n:=9) (rs:=[.tmp 2]) Tryd.func26 rfl rfl Tryd.ntmps26 rfl rfl (by kernel_rfl) Tryd.checked.mixed ?_
 simp (disch:=first | omega | decide +kernel) only [go_sem,Qa,Qb,Qc,Qd,Qe,↓reduceIte,reduceCtorEq,Qf,Qg,Qh]
 (repeat' (first | ((first | (refine gsel_split (fun q' => ?_) (fun q' => ?_)<;>(have h':=q')<;>(try simp only [za1,za2,Ba,Bb,za3,ne_eq,za4,za5,za6,Ia,Ib,Ic,Ie,Da,Bc,Bh,Be,za7,za8] at h')<;>try (exfalso; omega)) | (have q':=trivial; first | refine hE _ _ ret_ne ?_ | refine hE _ _ exit_ne ?_))<;>(try simp (disch:=first | omega | decide +kernel) only [q',go_sem,Qa,Qb,Qc,Qd,Qe,↓reduceIte,reduceCtorEq,Qf,Qg,Qh])<;>clear q') | refine hN _ ?_ ?_ Wk.kk | with_reducible refine And.intro ?_ ?_ | with_reducible omega | exact ok_ints | exact cells_ints | exact no_mem | with_reducible exact plain_ints | (refine le_maxLen ?_; omega) | (refine za9 ⟨?_,?_⟩) | (simp only [go_sem,Qc,Qb,zb1,zb2,forall_eq]; done)))
 all_goals (first | (simp_all; done) | (congr 1; simp; omega))
theorem op_idx (c : UInt8) : decide (0<=Lib.indexByte [38,124,62] c)=isOp c:=by
 have h : ∀ n,n < 256->decide (0<=Lib.indexByte [38,124,62] (UInt8.ofNat n))=isOp (UInt8.ofNat n):=by decide +kernel
 have:=h c.toNat c.toNat_lt
 rwa [UInt8.ofNat_toNat] at this
theorem hasOp_ok (c : UInt8) : Ctr Tryd.prog 76 [.str ⟨#[38,124,62]⟩,.str ⟨#[c]⟩] false (.d (.bool (isOp c))) []:=by
 refine ⟨⟨_,Tryd.func76,by kernel_rfl,by kernel_rfl⟩,fun S w vs hl hr hG => ?_⟩
 obtain ⟨v,v',rfl⟩ : ∃ v v',vs=[v,v']:=by
  match vs,hl with
  | [a,b],_ => exact ⟨a,b,rfl⟩
 have h:=hr 0 (by simp)
 have h':=hr 1 (by simp)
 simp only [List.getD_cons_zero,List.getD_cons_succ] at h h'
 cases h
 cases h'
 refine (Tryd.has_w _ c w).mono fun en w' ⟨he,hw⟩ => ⟨_,he,?_,?_⟩
 . subst hw; exact ⟨rfl,rfl,rfl,Nat.le_refl _,Nat.le_refl _,fun _ _ _ => rfl,Nat.le_refl _⟩
 . rw [show decide (0<=Lib.indexByte (ByteArray.mk #[38,124,62]).data.toList c)=isOp c from op_idx c]
   exact ⟨fun _ => Go.undef,fun _ _ => False,.d (.bool _),fun j o hj => by simp [lk] at hj,fun j o g hj => by simp [lk] at hj,fun j j' o o' g hj hj' => by simp [lk] at hj⟩
def resL : Option (Fm × List UInt8)->List D
 | none => [.nilptr,.str ⟨#[]⟩,.bool false]
 | some (x,r) => [fmD x,.str ⟨r.toArray⟩,.bool true]
theorem BL_mk (l : List UInt8) : BL ⟨l.toArray⟩=l:=rfl
theorem ext_tail {s : ByteArray} {c : UInt8} {l : List UInt8} (h : BL s=c :: l) : s.extract 1 s.size=⟨l.toArray⟩:=by
 apply ext_BL
 show (s.extract 1 s.size).data.toList=l
 have h' : s.data.toList=c :: l:=h
 rw [ByteArray.data_extract,Array.toList_extract,h',size_BL,h]
 simp
theorem ext_one {s : ByteArray} {c : UInt8} {l : List UInt8} (h : BL s=c :: l) : s.extract 0 1=⟨#[c]⟩:=by
 apply ext_BL
 show (s.extract 0 1).data.toList=[c]
 have h' : s.data.toList=c :: l:=h
 rw [ByteArray.data_extract,Array.toList_extract,h']
 simp
theorem ne_emp {s : ByteArray} {c : UInt8} {l : List UInt8} (h : BL s=c :: l) : (s.toList == (ByteArray.mk #[]).toList)=false:=by
 rw [beq_eq_false_iff_ne,ByteArray.toList_eq,ByteArray.toList_eq,show s.data.toList=c :: l from h]
 exact List.cons_ne_nil _ _
theorem toN_eq {c d : UInt8} : (c.toNat : Int)=(d.toNat : Int)↔c=d:=⟨fun h => UInt8.toNat_inj.1 (by omega),fun h => by rw [h]⟩
set_option maxHeartbeats 8000000 in
theorem parseFrom_ok : ∀ (n : Nat) (s : ByteArray),s.size<=n->s.size<=1000000->Ctr Tryd.prog 61 [.str s] true (.tup ((resL (prs (BL s))).map .d)) []:=by
 intro n
 induction n with
 | zero =>
   intro s hn _
   have hs : BL s=[]:=List.eq_nil_of_length_eq_zero (by rw [← size_BL]; omega)
   obtain rfl : s=ByteArray.mk #[]:=ext_BL hs
   rw [hs,prs_nil]
   simp only [resL,List.map_cons,List.map_nil]
   refine Ctr.of (n:=95) (rs:=[.tmp 2,.tmp 3,.tmp 4]) Tryd.func61 rfl rfl Tryd.ntmps61 rfl rfl (by kernel_rfl) Tryd.checked.mixed ?_
   simp (disch:=first | omega | decide +kernel) only [beq_self_eq_true,go_sem,Qa,Qb,Qc,Qd,Qe,↓reduceIte,reduceCtorEq,Qf,Qg,Qh]
   (repeat' (first | ((first | (refine gsel_split (fun q' => ?_) (fun q' => ?_)<;>(have h':=q')<;>(try simp only [za1,za2,Ba,Bb,za3,ne_eq,za4,za5,za6,Ia,Ib,Ic,Ie,Da,Bc,Bh,Be,za7,za8] at h')<;>try (exfalso; omega)) | (have q':=trivial; first | refine hE _ _ ret_ne ?_ | refine hE _ _ exit_ne ?_))<;>(try simp (disch:=first | omega | decide +kernel) only [q',beq_self_eq_true,go_sem,Qa,Qb,Qc,Qd,Qe,↓reduceIte,reduceCtorEq,Qf,Qg,Qh])<;>clear q') | refine hN _ ?_ ?_ Wk.kk | with_reducible refine And.intro ?_ ?_ | with_reducible omega | exact ok_ints | exact cells_ints | exact no_mem | with_reducible exact plain_ints | (refine le_maxLen ?_; omega) | (refine za9 ⟨?_,?_⟩) | (simp only [go_sem,Qc,Qb,zb1,zb2,forall_eq]; done)))
   all_goals (first | exact ret_f3 [] rfl rfl rfl)
 | succ n ih =>
   intro s hn hs6
   cases hs : BL s with
   | nil =>
     obtain rfl : s=ByteArray.mk #[]:=ext_BL hs
     rw [prs_nil]
     simp only [resL,List.map_cons,List.map_nil]
     refine Ctr.of (n:=95) (rs:=[.tmp 2,.tmp 3,.tmp 4]) Tryd.func61 rfl rfl Tryd.ntmps61 rfl rfl (by kernel_rfl) Tryd.checked.mixed ?_
     simp (disch:=first | omega | decide +kernel) only [beq_self_eq_true,go_sem,Qa,Qb,Qc,Qd,Qe,↓reduceIte,reduceCtorEq,Qf,Qg,Qh]
     (repeat' (first | ((first | (refine gsel_split (fun q' => ?_) (fun q' => ?_)<;>(have h':=q')<;>(try simp only [za1,za2,Ba,Bb,za3,ne_eq,za4,za5,za6,Ia,Ib,Ic,Ie,Da,Bc,Bh,Be,za7,za8] at h')<;>try (exfalso; omega)) | (have q':=trivial; first | refine hE _ _ ret_ne ?_ | refine hE _ _ exit_ne ?_))<;>(try simp (disch:=first | omega | decide +kernel) only [q',beq_self_eq_true,go_sem,Qa,Qb,Qc,Qd,Qe,↓reduceIte,reduceCtorEq,Qf,Qg,Qh])<;>clear q') | refine hN _ ?_ ?_ Wk.kk | with_reducible refine And.intro ?_ ?_ | with_reducible omega | exact ok_ints | exact cells_ints | exact no_mem | with_reducible exact plain_ints | (refine le_maxLen ?_; omega) | (refine za9 ⟨?_,?_⟩) | (simp only [go_sem,Qc,Qb,zb1,zb2,forall_eq]; done)))
     all_goals (first | exact ret_f3 [] rfl rfl rfl)
   | cons c l =>
     have hsz : s.size=l.length + 1:=by rw [size_BL,hs]; rfl
     have e0 : s.data.toList.getD 0 0=c:=by show (BL s).getD 0 0=c; rw [hs]; rfl
     have e1:=ext_tail hs
     have en:=ne_emp hs
     have t0 : Int.toNat 0=0:=rfl
     have t1 : Int.toNat 1=1:=rfl
     have cl:=isLetter_ok c
     have ihl:=Ctr.tupN (ih ⟨l.toArray⟩ (by rw [size_BL,BL_mk]; omega) (by rw [size_BL,BL_mk]; omega))
     rw [BL_mk] at ihl
     by_cases hlf : isLf c=true
     . have c1:=leaf_ok c (lf_128 hlf)
       rw [prs_lf hlf]
       simp only [resL,List.map_cons,List.map_nil]
       rw [isLf,Bh,decide_eq_true_eq] at hlf
       have h48 : c=48∨c=49->(c.toNat : Int)=48∨(c.toNat : Int)=49:=fun h => h.elim (fun h => .inl (by rw [h]; rfl)) fun h => .inr (by rw [h]; rfl)
       generalize fmD (Fm.lf c)=x at *
       cases hL : isLet c with
       | true =>
         rw [hL] at cl
         refine Ctr.of (n:=95) (rs:=[.tmp 2,.tmp 3,.tmp 4]) Tryd.func61 rfl rfl Tryd.ntmps61 rfl rfl (by kernel_rfl) Tryd.checked.mixed ?_
         simp (disch:=first | omega | decide +kernel) only [en,e0,e1,t0,t1,Int.toNat_natCast,go_sem,Qa,Qb,Qc,Qd,Qe,↓reduceIte,reduceCtorEq,Qf,Qg,Qh]
         (repeat' (first | ((first | (refine gsel_split (fun q' => ?_) (fun q' => ?_)<;>(have h':=q')<;>(try simp only [za1,za2,Ba,Bb,za3,ne_eq,za4,za5,za6,Ia,Ib,Ic,Ie,Da,Bc,Bh,Be,za7,za8] at h')<;>try (exfalso; omega)) | (have q':=trivial; first | refine callX_new (cl) rfl (by decide) ?_ | refine callY_new (cl) rfl ?_ | refine callX_shared (c1) rfl (by decide) ?_ | refine callY_shared (c1) rfl ?_ | refine hE _ _ ret_ne ?_ | refine hE _ _ exit_ne ?_))<;>(try simp (disch:=first | omega | decide +kernel) only [q',en,e0,e1,t0,t1,Int.toNat_natCast,go_sem,Qa,Qb,Qc,Qd,Qe,↓reduceIte,reduceCtorEq,Qf,Qg,Qh])<;>clear q') | refine hN _ ?_ ?_ Wk.kk | with_reducible refine And.intro ?_ ?_ | with_reducible omega | exact ok_ints | exact cells_ints | exact no_mem | with_reducible exact plain_ints | (refine le_maxLen ?_; omega) | (refine za9 ⟨?_,?_⟩) | (simp only [go_sem,Qc,Qb,zb1,zb2,forall_eq]; done)))
         all_goals (first | omega | exact absurd trivial ‹¬True› | exact ret_f3 [] rfl rfl rfl)
       | false =>
         rw [hL] at cl
         have h4:=h48 (hlf.resolve_right (by rw [hL]; simp))
         refine Ctr.of (n:=95) (rs:=[.tmp 2,.tmp 3,.tmp 4]) Tryd.func61 rfl rfl Tryd.ntmps61 rfl rfl (by kernel_rfl) Tryd.checked.mixed ?_
         simp (disch:=first | omega | decide +kernel) only [en,e0,e1,t0,t1,Int.toNat_natCast,go_sem,Qa,Qb,Qc,Qd,Qe,↓reduceIte,reduceCtorEq,Qf,Qg,Qh]
         (repeat' (first | ((first | (refine gsel_split (fun q' => ?_) (fun q' => ?_)<;>(have h':=q')<;>(try simp only [za1,za2,Ba,Bb,za3,ne_eq,za4,za5,za6,Ia,Ib,Ic,Ie,Da,Bc,Bh,Be,za7,za8] at h')<;>try (exfalso; omega)) | (have q':=trivial; first | refine callX_new (cl) rfl (by decide) ?_ | refine callY_new (cl) rfl ?_ | refine callX_shared (c1) rfl (by decide) ?_ | refine callY_shared (c1) rfl ?_ | refine hE _ _ ret_ne ?_ | refine hE _ _ exit_ne ?_))<;>(try simp (disch:=first | omega | decide +kernel) only [q',en,e0,e1,t0,t1,Int.toNat_natCast,go_sem,Qa,Qb,Qc,Qd,Qe,↓reduceIte,reduceCtorEq,Qf,Qg,Qh])<;>clear q') | refine hN _ ?_ ?_ Wk.kk | with_reducible refine And.intro ?_ ?_ | with_reducible omega | exact ok_ints | exact cells_ints | exact no_mem | with_reducible exact plain_ints | (refine le_maxLen ?_; omega) | (refine za9 ⟨?_,?_⟩) | (simp only [go_sem,Qc,Qb,zb1,zb2,forall_eq]; done)))
         all_goals (first | omega | exact absurd trivial ‹¬True› | exact ret_f3 [] rfl rfl rfl)
     . have hlf : isLf c=false:=by simpa using hlf
       have hL : isLet c=false:=by rw [isLf,Be] at hlf; exact hlf.2
       have h48 : (c.toNat : Int) ≠ 48:=fun h => by have : c=48:=toN_eq.1 h; subst this; cases hlf
       have h49 : (c.toNat : Int) ≠ 49:=fun h => by have : c=49:=toN_eq.1 h; subst this; cases hlf
       by_cases h126 : c=126
       . have hn : (c.toNat : Int)=126:=by rw [h126]; rfl
         rw [h126,prs_ng]
         rw [hn,hL] at cl
         cases hp : prs l with
         | none =>
           rw [hp] at ihl
           simp only [resL,Option.map_none,List.map_cons,List.map_nil] at ihl ⊢
           refine Ctr.of (n:=95) (rs:=[.tmp 2,.tmp 3,.tmp 4]) Tryd.func61 rfl rfl Tryd.ntmps61 rfl rfl (by kernel_rfl) Tryd.checked.mixed ?_
           simp (disch:=first | omega | decide +kernel) only [en,e0,e1,t0,t1,hn,Int.toNat_natCast,go_sem,Qa,Qb,Qc,Qd,Qe,↓reduceIte,reduceCtorEq,Qf,Qg,Qh]
           (repeat' (first | ((first | (refine gsel_split (fun q' => ?_) (fun q' => ?_)<;>(have h':=q')<;>(try simp only [za1,za2,Ba,Bb,za3,ne_eq,za4,za5,za6,Ia,Ib,Ic,Ie,Da,Bc,Bh,Be,za7,za8] at h')<;>try (exfalso; omega)) | (have q':=trivial; first | refine callX_new (cl) rfl (by decide) ?_ | refine callY_new (cl) rfl ?_ | refine callX_shared (ihl) rfl (by decide) ?_ | refine callY_shared (ihl) rfl ?_ | refine hE _ _ ret_ne ?_ | refine hE _ _ exit_ne ?_))<;>(try simp (disch:=first | omega | decide +kernel) only [q',en,e0,e1,t0,t1,hn,Int.toNat_natCast,go_sem,Qa,Qb,Qc,Qd,Qe,↓reduceIte,reduceCtorEq,Qf,Qg,Qh])<;>clear q') | refine hN _ ?_ ?_ Wk.kk | with_reducible refine And.intro ?_ ?_ | with_reducible omega | exact ok_ints | exact cells_ints | exact no_mem | with_reducible exact plain_ints | (refine le_maxLen ?_; omega) | (refine za9 ⟨?_,?_⟩) | (simp only [go_sem,Qc,Qb,zb1,zb2,forall_eq]; done)))
           all_goals (first | omega | exact absurd trivial ‹¬True› | exact ret_f3 [] rfl rfl rfl)
         | some p =>
           obtain ⟨a,r⟩:=p
           have hz:=prs_some hp
           have hsa : a.T.size<=1000000:=by
            have : l.length=a.tl.length + r.length:=by rw [hz.2,List.length_append]
            rw [size_BL,BL_T]; omega
           have c2:=not_ok a hsa
           rw [hp] at ihl
           simp only [resL,Option.map_some,List.map_cons,List.map_nil] at ihl ⊢
           generalize fmD (Fm.ng a)=y at *
           generalize fmD a=x at *
           generalize (ByteArray.mk r.toArray)=rb at *
           refine Ctr.of (n:=95) (rs:=[.tmp 2,.tmp 3,.tmp 4]) Tryd.func61 rfl rfl Tryd.ntmps61 rfl rfl (by kernel_rfl) Tryd.checked.mixed ?_
           simp (disch:=first | omega | decide +kernel) only [en,e0,e1,t0,t1,hn,Int.toNat_natCast,go_sem,Qa,Qb,Qc,Qd,Qe,↓reduceIte,reduceCtorEq,Qf,Qg,Qh]
           (repeat' (first | ((first | (refine gsel_split (fun q' => ?_) (fun q' => ?_)<;>(have h':=q')<;>(try simp only [za1,za2,Ba,Bb,za3,ne_eq,za4,za5,za6,Ia,Ib,Ic,Ie,Da,Bc,Bh,Be,za7,za8] at h')<;>try (exfalso; omega)) | (have q':=trivial; first | refine callX_new (cl) rfl (by decide) ?_ | refine callY_new (cl) rfl ?_ | refine callX_shared (ihl) rfl (by decide) ?_ | refine callY_shared (ihl) rfl ?_ | refine callX_shared (c2) rfl (by decide) ?_ | refine callY_shared (c2) rfl ?_ | refine hE _ _ ret_ne ?_ | refine hE _ _ exit_ne ?_))<;>(try simp (disch:=first | omega | decide +kernel) only [q',en,e0,e1,t0,t1,hn,Int.toNat_natCast,go_sem,Qa,Qb,Qc,Qd,Qe,↓reduceIte,reduceCtorEq,Qf,Qg,Qh])<;>clear q') | refine hN _ ?_ ?_ Wk.kk | with_reducible refine And.intro ?_ ?_ | with_reducible omega | exact ok_ints | exact cells_ints | exact no_mem | with_reducible exact plain_ints | (refine le_maxLen ?_; omega) | (refine za9 ⟨?_,?_⟩) | (simp only [go_sem,Qc,Qb,zb1,zb2,forall_eq]; done)))
           all_goals (first | omega | exact absurd trivial ‹¬True› | exact ret_f3 [] rfl rfl rfl)
       . have hn6 : ¬ (c.toNat : Int)=126:=fun h => h126 (toN_eq.1 h)
         by_cases h40 : c=40
         . have hn : (c.toNat : Int)=40:=by rw [h40]; rfl
           rw [h40]
           rw [hn,hL] at cl
           cases hp : prs l with
           | none =>
             rw [prs_jn1 hp]
             rw [hp] at ihl
             simp only [resL,List.map_cons,List.map_nil] at ihl ⊢
             refine Ctr.of (n:=95) (rs:=[.tmp 2,.tmp 3,.tmp 4]) Tryd.func61 rfl rfl Tryd.ntmps61 rfl rfl (by kernel_rfl) Tryd.checked.mixed ?_
             simp (disch:=first | omega | decide +kernel) only [en,e0,e1,t0,t1,hn,Int.toNat_natCast,go_sem,Qa,Qb,Qc,Qd,Qe,↓reduceIte,reduceCtorEq,Qf,Qg,Qh]
             (repeat' (first | ((first | (refine gsel_split (fun q' => ?_) (fun q' => ?_)<;>(have h':=q')<;>(try simp only [za1,za2,Ba,Bb,za3,ne_eq,za4,za5,za6,Ia,Ib,Ic,Ie,Da,Bc,Bh,Be,za7,za8] at h')<;>try (exfalso; omega)) | (have q':=trivial; first | refine callX_new (cl) rfl (by decide) ?_ | refine callY_new (cl) rfl ?_ | refine callX_shared (ihl) rfl (by decide) ?_ | refine callY_shared (ihl) rfl ?_ | refine hE _ _ ret_ne ?_ | refine hE _ _ exit_ne ?_))<;>(try simp (disch:=first | omega | decide +kernel) only [q',en,e0,e1,t0,t1,hn,Int.toNat_natCast,go_sem,Qa,Qb,Qc,Qd,Qe,↓reduceIte,reduceCtorEq,Qf,Qg,Qh])<;>clear q') | refine hN _ ?_ ?_ Wk.kk | with_reducible refine And.intro ?_ ?_ | with_reducible omega | exact ok_ints | exact cells_ints | exact no_mem | with_reducible exact plain_ints | (refine le_maxLen ?_; omega) | (refine za9 ⟨?_,?_⟩) | (simp only [go_sem,Qc,Qb,zb1,zb2,forall_eq]; done)))
             all_goals (first | omega | exact absurd trivial ‹¬True› | exact ret_f3 [] rfl rfl rfl)
           | some p =>
             obtain ⟨a,r⟩:=p
             have hz:=prs_some hp
             have hzl : l.length=a.tl.length + r.length:=by rw [hz.2,List.length_append]
             have hsa : a.T.size<=1000000:=by rw [size_BL,BL_T]; omega
             rw [hp] at ihl
             cases r with
             | nil =>
               rw [prs_jn2 hp]
               simp only [resL,List.map_cons,List.map_nil] at ihl ⊢
               generalize fmD a=x at *
               refine Ctr.of (n:=95) (rs:=[.tmp 2,.tmp 3,.tmp 4]) Tryd.func61 rfl rfl Tryd.ntmps61 rfl rfl (by kernel_rfl) Tryd.checked.mixed ?_
               simp (disch:=first | omega | decide +kernel) only [en,e0,e1,t0,t1,hn,Int.toNat_natCast,beq_self_eq_true,go_sem,Qa,Qb,Qc,Qd,Qe,↓reduceIte,reduceCtorEq,Qf,Qg,Qh]
               (repeat' (first | ((first | (refine gsel_split (fun q' => ?_) (fun q' => ?_)<;>(have h':=q')<;>(try simp only [za1,za2,Ba,Bb,za3,ne_eq,za4,za5,za6,Ia,Ib,Ic,Ie,Da,Bc,Bh,Be,za7,za8] at h')<;>try (exfalso; omega)) | (have q':=trivial; first | refine callX_new (cl) rfl (by decide) ?_ | refine callY_new (cl) rfl ?_ | refine callX_shared (ihl) rfl (by decide) ?_ | refine callY_shared (ihl) rfl ?_ | refine hE _ _ ret_ne ?_ | refine hE _ _ exit_ne ?_))<;>(try simp (disch:=first | omega | decide +kernel) only [q',en,e0,e1,t0,t1,hn,Int.toNat_natCast,beq_self_eq_true,go_sem,Qa,Qb,Qc,Qd,Qe,↓reduceIte,reduceCtorEq,Qf,Qg,Qh])<;>clear q') | refine hN _ ?_ ?_ Wk.kk | with_reducible refine And.intro ?_ ?_ | with_reducible omega | exact ok_ints | exact cells_ints | exact no_mem | with_reducible exact plain_ints | (refine le_maxLen ?_; omega) | (refine za9 ⟨?_,?_⟩) | (simp only [go_sem,Qc,Qb,zb1,zb2,forall_eq]; done)))
               all_goals (first | omega | exact absurd trivial ‹¬True› | exact ret_f3 [] rfl rfl rfl)
             | cons o r1 =>
               have hzl : l.length=a.tl.length + (r1.length + 1):=hzl
               have co:=hasOp_ok o
               have ihr:=Ctr.tupN (ih ⟨r1.toArray⟩ (by rw [size_BL,BL_mk]; omega) (by rw [size_BL,BL_mk]; omega))
               rw [BL_mk] at ihr
               obtain ⟨t,ht⟩ : ∃ t : ByteArray,t=⟨(o :: r1).toArray⟩:=⟨_,rfl⟩
               have hbt : BL t=o :: r1:=by rw [ht]
               have hst : t.size=r1.length + 1:=by rw [size_BL,hbt]; rfl
               have f0 : t.data.toList.getD 0 0=o:=by show (BL t).getD 0 0=o; rw [hbt]; rfl
               have f1:=ext_tail hbt
               have f2:=ext_one hbt
               have fn:=ne_emp hbt
               simp only [resL,← ht] at ihl
               cases ho : isOp o with
               | false =>
                 rw [prs_jn3 hp ho]
                 rw [ho] at co
                 simp only [resL,List.map_cons,List.map_nil]
                 generalize fmD a=x at *
                 refine Ctr.of (n:=95) (rs:=[.tmp 2,.tmp 3,.tmp 4]) Tryd.func61 rfl rfl Tryd.ntmps61 rfl rfl (by kernel_rfl) Tryd.checked.mixed ?_
                 simp (disch:=first | omega | decide +kernel) only [en,e0,e1,t0,t1,hn,Int.toNat_natCast,f0,f1,f2,fn,go_sem,Qa,Qb,Qc,Qd,Qe,↓reduceIte,reduceCtorEq,Qf,Qg,Qh]
                 (repeat' (first | ((first | (refine gsel_split (fun q' => ?_) (fun q' => ?_)<;>(have h':=q')<;>(try simp only [za1,za2,Ba,Bb,za3,ne_eq,za4,za5,za6,Ia,Ib,Ic,Ie,Da,Bc,Bh,Be,za7,za8] at h')<;>try (exfalso; omega)) | (have q':=trivial; first | refine callX_new (cl) rfl (by decide) ?_ | refine callY_new (cl) rfl ?_ | refine callX_shared (ihl) rfl (by decide) ?_ | refine callY_shared (ihl) rfl ?_ | refine callX_new (co) rfl (by decide) ?_ | refine callY_new (co) rfl ?_ | refine hE _ _ ret_ne ?_ | refine hE _ _ exit_ne ?_))<;>(try simp (disch:=first | omega | decide +kernel) only [q',en,e0,e1,t0,t1,hn,Int.toNat_natCast,f0,f1,f2,fn,go_sem,Qa,Qb,Qc,Qd,Qe,↓reduceIte,reduceCtorEq,Qf,Qg,Qh])<;>clear q') | refine hN _ ?_ ?_ Wk.kk | with_reducible refine And.intro ?_ ?_ | with_reducible omega | exact ok_ints | exact cells_ints | exact no_mem | with_reducible exact plain_ints | (refine le_maxLen ?_; omega) | (refine za9 ⟨?_,?_⟩) | (simp only [go_sem,Qc,Qb,zb1,zb2,forall_eq]; done)))
                 all_goals (first | omega | exact absurd trivial ‹¬True› | exact ret_f3 [] rfl rfl rfl)
               | true =>
                 rw [ho] at co
                 cases hq : prs r1 with
                 | none =>
                   rw [prs_jn4 hp hq]
                   rw [hq] at ihr
                   simp only [resL,List.map_cons,List.map_nil] at ihr ⊢
                   generalize fmD a=x at *
                   refine Ctr.of (n:=95) (rs:=[.tmp 2,.tmp 3,.tmp 4]) Tryd.func61 rfl rfl Tryd.ntmps61 rfl rfl (by kernel_rfl) Tryd.checked.mixed ?_
                   simp (disch:=first | omega | decide +kernel) only [en,e0,e1,t0,t1,hn,Int.toNat_natCast,f0,f1,f2,fn,go_sem,Qa,Qb,Qc,Qd,Qe,↓reduceIte,reduceCtorEq,Qf,Qg,Qh]
                   (repeat' (first | ((first | (refine gsel_split (fun q' => ?_) (fun q' => ?_)<;>(have h':=q')<;>(try simp only [za1,za2,Ba,Bb,za3,ne_eq,za4,za5,za6,Ia,Ib,Ic,Ie,Da,Bc,Bh,Be,za7,za8] at h')<;>try (exfalso; omega)) | (have q':=trivial; first | refine callX_new (cl) rfl (by decide) ?_ | refine callY_new (cl) rfl ?_ | refine callX_shared (ihl) rfl (by decide) ?_ | refine callY_shared (ihl) rfl ?_ | refine callX_new (co) rfl (by decide) ?_ | refine callY_new (co) rfl ?_ | refine callX_shared (ihr) rfl (by decide) ?_ | refine callY_shared (ihr) rfl ?_ | refine hE _ _ ret_ne ?_ | refine hE _ _ exit_ne ?_))<;>(try simp (disch:=first | omega | decide +kernel) only [q',en,e0,e1,t0,t1,hn,Int.toNat_natCast,f0,f1,f2,fn,go_sem,Qa,Qb,Qc,Qd,Qe,↓reduceIte,reduceCtorEq,Qf,Qg,Qh])<;>clear q') | refine hN _ ?_ ?_ Wk.kk | with_reducible refine And.intro ?_ ?_ | with_reducible omega | exact ok_ints | exact cells_ints | exact no_mem | with_reducible exact plain_ints | (refine le_maxLen ?_; omega) | (refine za9 ⟨?_,?_⟩) | (simp only [go_sem,Qc,Qb,zb1,zb2,forall_eq]; done)))
                   all_goals (first | omega | exact absurd trivial ‹¬True› | exact ret_f3 [] rfl rfl rfl)
                 | some q =>
                   obtain ⟨b,r2⟩:=q
                   have hy:=prs_some hq
                   have hyl : r1.length=b.tl.length + r2.length:=by rw [hy.2,List.length_append]
                   have hsb : b.T.size<=1000000:=by rw [size_BL,BL_T]; omega
                   rw [hq] at ihr
                   cases r2 with
                   | nil =>
                     rw [prs_jn5 hp hq (by simp)]
                     simp only [resL,List.map_cons,List.map_nil] at ihr ⊢
                     generalize fmD a=x at *
                     generalize fmD b=y at *
                     refine Ctr.of (n:=95) (rs:=[.tmp 2,.tmp 3,.tmp 4]) Tryd.func61 rfl rfl Tryd.ntmps61 rfl rfl (by kernel_rfl) Tryd.checked.mixed ?_
                     simp (disch:=first | omega | decide +kernel) only [en,e0,e1,t0,t1,hn,Int.toNat_natCast,f0,f1,f2,fn,beq_self_eq_true,go_sem,Qa,Qb,Qc,Qd,Qe,↓reduceIte,reduceCtorEq,Qf,Qg,Qh]
                     (repeat' (first | ((first | (refine gsel_split (fun q' => ?_) (fun q' => ?_)<;>(have h':=q')<;>(try simp only [za1,za2,Ba,Bb,za3,ne_eq,za4,za5,za6,Ia,Ib,Ic,Ie,Da,Bc,Bh,Be,za7,za8] at h')<;>try (exfalso; omega)) | (have q':=trivial; first | refine callX_new (cl) rfl (by decide) ?_ | refine callY_new (cl) rfl ?_ | refine callX_shared (ihl) rfl (by decide) ?_ | refine callY_shared (ihl) rfl ?_ | refine callX_new (co) rfl (by decide) ?_ | refine callY_new (co) rfl ?_ | refine callX_shared (ihr) rfl (by decide) ?_ | refine callY_shared (ihr) rfl ?_ | refine hE _ _ ret_ne ?_ | refine hE _ _ exit_ne ?_))<;>(try simp (disch:=first | omega | decide +kernel) only [q',en,e0,e1,t0,t1,hn,Int.toNat_natCast,f0,f1,f2,fn,beq_self_eq_true,go_sem,Qa,Qb,Qc,Qd,Qe,↓reduceIte,reduceCtorEq,Qf,Qg,Qh])<;>clear q') | refine hN _ ?_ ?_ Wk.kk | with_reducible refine And.intro ?_ ?_ | with_reducible omega | exact ok_ints | exact cells_ints | exact no_mem | with_reducible exact plain_ints | (refine le_maxLen ?_; omega) | (refine za9 ⟨?_,?_⟩) | (simp only [go_sem,Qc,Qb,zb1,zb2,forall_eq]; done)))
                     all_goals (first | omega | exact absurd trivial ‹¬True› | exact ret_f3 [] rfl rfl rfl)
                   | cons d r3 =>
                     obtain ⟨u,hu⟩ : ∃ u : ByteArray,u=⟨(d :: r3).toArray⟩:=⟨_,rfl⟩
                     have hbu : BL u=d :: r3:=by rw [hu]
                     have hsu : u.size=r3.length + 1:=by rw [size_BL,hbu]; rfl
                     have g0 : u.data.toList.getD 0 0=d:=by show (BL u).getD 0 0=d; rw [hbu]; rfl
                     have g1:=ext_tail hbu
                     have gn:=ne_emp hbu
                     simp only [resL,← hu] at ihr
                     by_cases hd : d=41
                     . have hdn : (d.toNat : Int)=41:=by rw [hd]; rfl
                       rw [hd] at hq
                       rw [prs_jn6 hp ho hq]
                       have cj:=join_ok o a b (op_128 ho) hsa hsb
                       simp only [resL,List.map_cons,List.map_nil]
                       generalize fmD (Fm.jn o a b)=z at *
                       generalize fmD a=x at *
                       generalize fmD b=y at *
                       generalize (ByteArray.mk r3.toArray)=rb at *
                       refine Ctr.of (n:=95) (rs:=[.tmp 2,.tmp 3,.tmp 4]) Tryd.func61 rfl rfl Tryd.ntmps61 rfl rfl (by kernel_rfl) Tryd.checked.mixed ?_
                       simp (disch:=first | omega | decide +kernel) only [en,e0,e1,t0,t1,hn,Int.toNat_natCast,f0,f1,f2,fn,g0,g1,gn,hdn,go_sem,Qa,Qb,Qc,Qd,Qe,↓reduceIte,reduceCtorEq,Qf,Qg,Qh]
                       (repeat' (first | ((first | (refine gsel_split (fun q' => ?_) (fun q' => ?_)<;>(have h':=q')<;>(try simp only [za1,za2,Ba,Bb,za3,ne_eq,za4,za5,za6,Ia,Ib,Ic,Ie,Da,Bc,Bh,Be,za7,za8] at h')<;>try (exfalso; omega)) | (have q':=trivial; first | refine callX_new (cl) rfl (by decide) ?_ | refine callY_new (cl) rfl ?_ | refine callX_shared (ihl) rfl (by decide) ?_ | refine callY_shared (ihl) rfl ?_ | refine callX_new (co) rfl (by decide) ?_ | refine callY_new (co) rfl ?_ | refine callX_shared (ihr) rfl (by decide) ?_ | refine callY_shared (ihr) rfl ?_ | refine callX_shared (cj) rfl (by decide) ?_ | refine callY_shared (cj) rfl ?_ | refine hE _ _ ret_ne ?_ | refine hE _ _ exit_ne ?_))<;>(try simp (disch:=first | omega | decide +kernel) only [q',en,e0,e1,t0,t1,hn,Int.toNat_natCast,f0,f1,f2,fn,g0,g1,gn,hdn,go_sem,Qa,Qb,Qc,Qd,Qe,↓reduceIte,reduceCtorEq,Qf,Qg,Qh])<;>clear q') | refine hN _ ?_ ?_ Wk.kk | with_reducible refine And.intro ?_ ?_ | with_reducible omega | exact ok_ints | exact cells_ints | exact no_mem | with_reducible exact plain_ints | (refine le_maxLen ?_; omega) | (refine za9 ⟨?_,?_⟩) | (simp only [go_sem,Qc,Qb,zb1,zb2,forall_eq]; done)))
                       all_goals (first | omega | exact absurd trivial ‹¬True› | exact ret_f3 [] rfl rfl rfl)
                     . have hdn : ¬ (d.toNat : Int)=41:=fun h => hd (toN_eq.1 h)
                       rw [prs_jn5 hp hq (by simp [hd])]
                       simp only [resL,List.map_cons,List.map_nil]
                       generalize fmD a=x at *
                       generalize fmD b=y at *
                       refine Ctr.of (n:=95) (rs:=[.tmp 2,.tmp 3,.tmp 4]) Tryd.func61 rfl rfl Tryd.ntmps61 rfl rfl (by kernel_rfl) Tryd.checked.mixed ?_
                       simp (disch:=first | omega | decide +kernel) only [en,e0,e1,t0,t1,hn,Int.toNat_natCast,f0,f1,f2,fn,g0,g1,gn,hdn,go_sem,Qa,Qb,Qc,Qd,Qe,↓reduceIte,reduceCtorEq,Qf,Qg,Qh]
                       (repeat' (first | ((first | (refine gsel_split (fun q' => ?_) (fun q' => ?_)<;>(have h':=q')<;>(try simp only [za1,za2,Ba,Bb,za3,ne_eq,za4,za5,za6,Ia,Ib,Ic,Ie,Da,Bc,Bh,Be,za7,za8] at h')<;>try (exfalso; omega)) | (have q':=trivial; first | refine callX_new (cl) rfl (by decide) ?_ | refine callY_new (cl) rfl ?_ | refine callX_shared (ihl) rfl (by decide) ?_ | refine callY_shared (ihl) rfl ?_ | refine callX_new (co) rfl (by decide) ?_ | refine callY_new (co) rfl ?_ | refine callX_shared (ihr) rfl (by decide) ?_ | refine callY_shared (ihr) rfl ?_ | refine hE _ _ ret_ne ?_ | refine hE _ _ exit_ne ?_))<;>(try simp (disch:=first | omega | decide +kernel) only [q',en,e0,e1,t0,t1,hn,Int.toNat_natCast,f0,f1,f2,fn,g0,g1,gn,hdn,go_sem,Qa,Qb,Qc,Qd,Qe,↓reduceIte,reduceCtorEq,Qf,Qg,Qh])<;>clear q') | refine hN _ ?_ ?_ Wk.kk | with_reducible refine And.intro ?_ ?_ | with_reducible omega | exact ok_ints | exact cells_ints | exact no_mem | with_reducible exact plain_ints | (refine le_maxLen ?_; omega) | (refine za9 ⟨?_,?_⟩) | (simp only [go_sem,Qc,Qb,zb1,zb2,forall_eq]; done)))
                       all_goals (first | omega | exact absurd trivial ‹¬True› | exact ret_f3 [] rfl rfl rfl)
         . have hn0 : ¬ (c.toNat : Int)=40:=fun h => h40 (toN_eq.1 h)
           rw [prs_other hlf h126 h40]
           rw [hL] at cl
           simp only [resL,List.map_cons,List.map_nil]
           refine Ctr.of (n:=95) (rs:=[.tmp 2,.tmp 3,.tmp 4]) Tryd.func61 rfl rfl Tryd.ntmps61 rfl rfl (by kernel_rfl) Tryd.checked.mixed ?_
           simp (disch:=first | omega | decide +kernel) only [en,e0,e1,t0,t1,h48,h49,hn6,hn0,Int.toNat_natCast,go_sem,Qa,Qb,Qc,Qd,Qe,↓reduceIte,reduceCtorEq,Qf,Qg,Qh]
           (repeat' (first | ((first | (refine gsel_split (fun q' => ?_) (fun q' => ?_)<;>(have h':=q')<;>(try simp only [za1,za2,Ba,Bb,za3,ne_eq,za4,za5,za6,Ia,Ib,Ic,Ie,Da,Bc,Bh,Be,za7,za8] at h')<;>try (exfalso; omega)) | (have q':=trivial; first | refine callX_new (cl) rfl (by decide) ?_ | refine callY_new (cl) rfl ?_ | refine hE _ _ ret_ne ?_ | refine hE _ _ exit_ne ?_))<;>(try simp (disch:=first | omega | decide +kernel) only [q',en,e0,e1,t0,t1,h48,h49,hn6,hn0,Int.toNat_natCast,go_sem,Qa,Qb,Qc,Qd,Qe,↓reduceIte,reduceCtorEq,Qf,Qg,Qh])<;>clear q') | refine hN _ ?_ ?_ Wk.kk | with_reducible refine And.intro ?_ ?_ | with_reducible omega | exact ok_ints | exact cells_ints | exact no_mem | with_reducible exact plain_ints | (refine le_maxLen ?_; omega) | (refine za9 ⟨?_,?_⟩) | (simp only [go_sem,Qc,Qb,zb1,zb2,forall_eq]; done)))
           all_goals (first | omega | exact absurd trivial ‹¬True› | exact ret_f3 [] rfl rfl rfl)
end Abs.Y
