/- What functions of this program compute, over plain data. No condition. -/
import Derived.Test.YtkccabajcdphkaaDoorFS3
set_option linter.all false
namespace Abs.Y
open Go Go.Proofs Abs
open Nat renaming reduceEqDiff -> Qa, reduceLT -> Qb, reduceAdd -> Qc, reduceMul -> Qd, reduceSub -> Qe, reduceLeDiff -> Qf, reduceSubDiff -> Qg, reduceBEq -> Qh
open Bool renaming not_eq_true' -> Ba, not_eq_false' -> Bb, and_eq_true -> Bc, or_eq_true -> Bh, or_eq_false_iff -> Be
open Int renaming ofNat_lt -> Ia, ofNat_le -> Ib, not_lt -> Ic, not_le -> Ie
open Decidable renaming not_not -> Da
set_option maxRecDepth 100000

theorem prs_app (x : Fm) (h : x.wf=true) (r : List UInt8) : prs (x.tl++r)=some (x,r):=prs_of ⟨h,rfl⟩
theorem T_drop (t : ByteArray) (k : Nat) (l : List UInt8) (h : (BL t).drop k=l) : t.extract k t.size=⟨l.toArray⟩:=by
 apply ext_BL
 show (t.extract k t.size).data.toList=l
 rw [ByteArray.data_extract,Array.toList_extract,List.extract_eq_drop_take]
 show ((BL t).drop k).take (t.size - k)=l
 rw [List.take_of_length_le (by rw [List.length_drop,← size_BL]; omega),h]
theorem T_cut (t : ByteArray) (k n : Nat) (l r : List UInt8) (h : (BL t).drop k=l++r) (hn : n=k + l.length) : t.extract k n=⟨l.toArray⟩:=by
 apply ext_BL
 show (t.extract k n).data.toList=l
 rw [ByteArray.data_extract,Array.toList_extract,List.extract_eq_drop_take]
 show ((BL t).drop k).take (n - k)=l
 rw [h,hn,Nat.add_sub_cancel_left,List.take_left]
theorem l22Parts_ok (x : Fm) (hw : x.wf=true) (hz : x.T.size<=1000000) : Ctr Tryd.prog 126 [.str x.T] true (.tup [.d (.int .u8 x.op.toNat),.d (.str x.p1),.d (.str x.p2)]) []:=by
 have t0 : Int.toNat 0=0:=rfl
 have t1 : Int.toNat 1=1:=rfl
 cases x with
 | lf c =>
   obtain ⟨h1,h2⟩:=lf_ne hw
   have h1 : ¬ (c.toNat : Int)=126:=fun h => h1 (toN_eq.1 h)
   have h2 : ¬ (c.toNat : Int)=40:=fun h => h2 (toN_eq.1 h)
   have e0 : (Fm.lf c).T.data.toList.getD 0 0=c:=rfl
   have hz : (Fm.lf c).T.size=1:=rfl
   show Ctr _ _ _ _ (.tup [.d (.int .u8 c.toNat),.d (.str ⟨#[]⟩),.d (.str ⟨#[]⟩)]) _
   generalize (Fm.lf c).T=t at *
   refine Ctr.of (n:=31) (rs:=[.tmp 2,.tmp 3,.tmp 4]) Tryd.func126 rfl rfl Tryd.ntmps126 rfl rfl (by kernel_rfl) Tryd.checked.mixed ?_
   simp (disch:=first | omega | decide +kernel) only [e0,t0,h1,h2,go_sem,Qa,Qb,Qc,Qd,Qe,↓reduceIte,reduceCtorEq,Qf,Qg,Qh]
   (repeat' (first | ((first | (refine gsel_split (fun q' => ?_) (fun q' => ?_)<;>(have h':=q')<;>(try simp only [za1,za2,Ba,Bb,za3,ne_eq,za4,za5,za6,Ia,Ib,Ic,Ie,Da,Bc,Bh,Be,za7,za8] at h')<;>try (exfalso; omega)) | (have q':=trivial; first | refine hE _ _ ret_ne ?_ | refine hE _ _ exit_ne ?_))<;>(try simp (disch:=first | omega | decide +kernel) only [q',e0,t0,h1,h2,go_sem,Qa,Qb,Qc,Qd,Qe,↓reduceIte,reduceCtorEq,Qf,Qg,Qh])<;>clear q') | refine hN _ ?_ ?_ Wk.kk | with_reducible refine And.intro ?_ ?_ | with_reducible omega | exact ok_ints | exact cells_ints | exact no_mem | with_reducible exact plain_ints | (refine le_maxLen ?_; omega) | (refine za9 ⟨?_,?_⟩) | (simp only [go_sem,Qc,Qb,zb1,zb2,forall_eq]; done)))
   all_goals (first | omega | assumption | rfl | exact ret_f3 [] rfl rfl rfl | exact absurd trivial ‹¬True›)
 | ng a =>
   have e0 : (Fm.ng a).T.data.toList.getD 0 0=126:=rfl
   have hn : ((126 : UInt8).toNat : Int)=126:=rfl
   have ex : (Fm.ng a).T.extract 1 (Fm.ng a).T.size=a.T:=T_drop _ 1 a.tl rfl
   have hs : (Fm.ng a).T.size=a.T.size + 1:=size_ng a
   show Ctr _ _ _ _ (.tup [.d (.int .u8 ((126 : UInt8).toNat)),.d (.str a.T),.d (.str ⟨#[]⟩)]) _
   rw [hn]
   generalize a.T=u at *
   generalize (Fm.ng a).T=t at *
   refine Ctr.of (n:=31) (rs:=[.tmp 2,.tmp 3,.tmp 4]) Tryd.func126 rfl rfl Tryd.ntmps126 rfl rfl (by kernel_rfl) Tryd.checked.mixed ?_
   simp (disch:=first | omega | decide +kernel) only [e0,t0,t1,hn,ex,go_sem,Qa,Qb,Qc,Qd,Qe,↓reduceIte,reduceCtorEq,Qf,Qg,Qh]
   (repeat' (first | ((first | (refine gsel_split (fun q' => ?_) (fun q' => ?_)<;>(have h':=q')<;>(try simp only [za1,za2,Ba,Bb,za3,ne_eq,za4,za5,za6,Ia,Ib,Ic,Ie,Da,Bc,Bh,Be,za7,za8] at h')<;>try (exfalso; omega)) | (have q':=trivial; first | refine hE _ _ ret_ne ?_ | refine hE _ _ exit_ne ?_))<;>(try simp (disch:=first | omega | decide +kernel) only [q',e0,t0,t1,hn,ex,go_sem,Qa,Qb,Qc,Qd,Qe,↓reduceIte,reduceCtorEq,Qf,Qg,Qh])<;>clear q') | refine hN _ ?_ ?_ Wk.kk | with_reducible refine And.intro ?_ ?_ | with_reducible omega | exact ok_ints | exact cells_ints | exact no_mem | with_reducible exact plain_ints | (refine le_maxLen ?_; omega) | (refine za9 ⟨?_,?_⟩) | (simp only [go_sem,Qc,Qb,zb1,zb2,forall_eq]; done)))
   all_goals (first | omega | assumption | rfl | exact ret_f3 [] rfl rfl rfl | exact absurd trivial ‹¬True›)
 | jn o a b =>
   have e0 : (Fm.jn o a b).T.data.toList.getD 0 0=40:=rfl
   have hn : ((40 : UInt8).toNat : Int)=40:=rfl
   have hw' : (isOp o && a.wf && b.wf)=true:=hw
   simp only [Bc] at hw'
   have hs : (Fm.jn o a b).T.size=a.T.size + b.T.size + 3:=size_jn o a b
   have c1:=l22End_ok (Fm.jn o a b).T hz _ 1 (Nat.le_refl _) (by omega)
   have hd : (BL (Fm.jn o a b).T).drop 1=a.tl++o :: (b.tl++[41]):=rfl
   have he : endI (Fm.jn o a b).T 1=((a.T.size + 1 : Nat) : Int):=by
    rw [endI,hd,prs_app a hw'.1.2]
    show ((Fm.jn o a b).T.size : Int) - (o :: (b.tl++[41])).length=_
    rw [List.length_cons,List.length_append,hs]
    have : b.T.size=b.tl.length:=rfl
    simp only [List.length_cons,List.length_nil]
    omega
   have hd2 : (BL (Fm.jn o a b).T).drop (a.T.size + 1)=o :: (b.tl++[41]):=by
    rw [Nat.add_comm,← List.drop_drop,hd]
    exact List.drop_left' rfl
   have hd3 : (BL (Fm.jn o a b).T).drop (a.T.size + 1 + 1)=b.tl++[41]:=by
    rw [← List.drop_drop,hd2]; rfl
   have eo : (Fm.jn o a b).T.data.toList.getD (a.T.size + 1) 0=o:=by
    have:=drop_cons (s:=(Fm.jn o a b).T) (k:=a.T.size + 1) (by omega)
    rw [hd2] at this
    exact (List.cons.inj this).1.symm
   have ex1 : (Fm.jn o a b).T.extract 1 (a.T.size + 1)=a.T:=T_cut _ 1 _ a.tl _ hd (by rw [size_BL,BL_T]; omega)
   have ex2 : (Fm.jn o a b).T.extract (a.T.size + 1 + 1) ((Fm.jn o a b).T.size - 1)=b.T:=T_cut _ _ _ b.tl _ hd3 (by rw [hs,size_BL,size_BL,BL_T,BL_T]; omega)
   rw [he] at c1
   show Ctr _ _ _ _ (.tup [.d (.int .u8 o.toNat),.d (.str a.T),.d (.str b.T)]) _
   clear hd hd2 hd3 he
   have e11 : ((1 : Nat) : Int)=1:=rfl
   rw [e11] at c1
   generalize hA : a.T=ta at *
   generalize hB : b.T=tb at *
   generalize (Fm.jn o a b).T=t at *
   generalize hm : ta.size + 1=m at *
   have tm : (((m : Nat) : Int) + 1).toNat=m + 1:=by omega
   have ts : (((t.size : Nat) : Int) - 1).toNat=t.size - 1:=by omega
   refine Ctr.of (n:=31) (rs:=[.tmp 2,.tmp 3,.tmp 4]) Tryd.func126 rfl rfl Tryd.ntmps126 rfl rfl (by kernel_rfl) Tryd.checked.mixed ?_
   simp (disch:=first | omega | decide +kernel) only [e0,eo,t0,t1,hn,tm,ts,ex1,ex2,Int.toNat_natCast,go_sem,Qa,Qb,Qc,Qd,Qe,↓reduceIte,reduceCtorEq,Qf,Qg,Qh]
   (repeat' (first | ((first | (refine gsel_split (fun q' => ?_) (fun q' => ?_)<;>(have h':=q')<;>(try simp only [za1,za2,Ba,Bb,za3,ne_eq,za4,za5,za6,Ia,Ib,Ic,Ie,Da,Bc,Bh,Be,za7,za8] at h')<;>try (exfalso; omega)) | (have q':=trivial; first | refine callX_new (c1) rfl (by decide) ?_ | refine callY_new (c1) rfl ?_ | refine hE _ _ ret_ne ?_ | refine hE _ _ exit_ne ?_))<;>(try simp (disch:=first | omega | decide +kernel) only [q',e0,eo,t0,t1,hn,tm,ts,ex1,ex2,Int.toNat_natCast,go_sem,Qa,Qb,Qc,Qd,Qe,↓reduceIte,reduceCtorEq,Qf,Qg,Qh])<;>clear q') | refine hN _ ?_ ?_ Wk.kk | with_reducible refine And.intro ?_ ?_ | with_reducible omega | exact ok_ints | exact cells_ints | exact no_mem | with_reducible exact plain_ints | (refine le_maxLen ?_; omega) | (refine za9 ⟨?_,?_⟩) | (simp only [go_sem,Qc,Qb,zb1,zb2,forall_eq]; done)))
   all_goals (first | omega | assumption | rfl | exact ret_f3 [] rfl rfl rfl | exact absurd trivial ‹¬True›)
end Abs.Y

namespace Abs.Y
open Go Go.Proofs Abs
open Nat renaming reduceEqDiff -> Qa, reduceLT -> Qb, reduceAdd -> Qc, reduceMul -> Qd, reduceSub -> Qe, reduceLeDiff -> Qf, reduceSubDiff -> Qg, reduceBEq -> Qh
open Bool renaming not_eq_true' -> Ba, not_eq_false' -> Bb, and_eq_true -> Bc, or_eq_true -> Bh, or_eq_false_iff -> Be
open Int renaming ofNat_lt -> Ia, ofNat_le -> Ib, not_lt -> Ic, not_le -> Ie
open Decidable renaming not_not -> Da
set_option maxRecDepth 100000

def By.st (b : By) (c : UInt8) : ByteArray:=match b c with
 | none => ⟨#[]⟩
 | some y => y.T
def By.L (b : By) : List D:=[.str (b.st 97),.str (b.st 98),.str (b.st 99)]
theorem T_inj {x y : Fm} (hx : x.wf=true) (hy : y.wf=true) : (x.T.toList == y.T.toList)=decide (x=y):=by
 rw [ByteArray.toList_eq,ByteArray.toList_eq]
 show (x.tl == y.tl)=decide (x=y)
 by_cases h : x=y
 . rw [h,decide_eq_true rfl,beq_self_eq_true]
 . rw [decide_eq_false h,beq_eq_false_iff_ne]
   exact fun e => h (par_uniq x y [] [] hx hy (by rw [List.append_nil,List.append_nil,e])).1
theorem T_nn (x : Fm) : (x.T.toList == (ByteArray.mk #[]).toList)=false:=by
 rw [beq_eq_false_iff_ne,ByteArray.toList_eq,ByteArray.toList_eq]
 exact tl_ne x
theorem mt_wf : ∀ (x y : Fm) (b : By),y.wf=true->(∀ c z,b c=some z->z.wf=true)->∀ c z,(mt x y b).1 c=some z->z.wf=true
 | .lf c, y, b, hy, hb => by
   rw [mt]
   split
   . cases hc : b c with
     | none =>
       intro d z hd
       dsimp only [By.set] at hd
       split at hd
       . rw [← Option.some.inj hd]; exact hy
       . exact hb _ _ hd
     | some o => exact hb
   . exact hb
 | .ng a,.ng a',b,hy,hb => by rw [mt]; exact mt_wf a a' b hy hb
 | .jn o a1 a2, .jn o' b1 b2, b, hy, hb => by
   have hy' : (isOp o' && b1.wf && b2.wf)=true:=hy
   simp only [Bc] at hy'
   rw [mt]
   split
   . split
     . exact mt_wf a2 b2 _ hy'.2 (mt_wf a1 b1 b hy'.1.2 hb)
     . exact mt_wf a1 b1 b hy'.1.2 hb
   . exact hb
 | .ng _,.lf _,b,_,hb => hb
 | .ng _,.jn _ _ _,b,_,hb => hb
 | .jn _ _ _,.lf _,b,_,hb => hb
 | .jn _ _ _,.ng _,b,_,hb => hb
theorem st_set {b : By} {c : UInt8} {y : Fm} (h : c=97∨c=98∨c=99) : (b.set c y).L=b.L.set (c.toNat - 97) (.str y.T):=by
 rcases h with rfl | rfl | rfl<;>rfl
theorem st_get {b : By} {c : UInt8} (h : c=97∨c=98∨c=99) : el b.L (c.toNat - 97)=.str (b.st c):=by
 rcases h with rfl | rfl | rfl<;>rfl
theorem op_ng {y : Fm} (hy : y.wf=true) (h : y.op=126) : ∃ a,y=.ng a:=by
 cases y with
 | lf c => exact absurd h (lf_ne hy).1
 | ng a => exact ⟨a,rfl⟩
 | jn o a b =>
   have hy' : (isOp o && a.wf && b.wf)=true:=hy
   simp only [Bc] at hy'
   have:=of_decide_eq_true hy'.1.1
   have h : o=126:=h
   rw [h] at this
   exact absurd this (by decide)
theorem op_jn {y : Fm} {o : UInt8} (ho : isOp o=true) (hy : y.wf=true) (h : y.op=o) : ∃ a b,y=.jn o a b:=by
 have:=of_decide_eq_true ho
 cases y with
 | lf c =>
   have h : c=o:=h
   have hy : isLf c=true:=hy
   rw [h] at hy
   rcases this with e | e | e<;>(rw [e] at hy; exact absurd hy (by decide))
 | ng a =>
   have h : 126=o:=h
   rcases this with e | e | e<;>(rw [e] at h; exact absurd h (by decide))
 | jn o' a b => exact ⟨a,b,by rw [← h]; rfl⟩
theorem op_lf {y : Fm} {c : UInt8} (hc : isLf c=true) (hy : y.wf=true) (h : y.op=c) : y=.lf c:=by
 cases y with
 | lf d => rw [← h]; rfl
 | ng a =>
   have h : 126=c:=h
   rw [← h] at hc
   exact absurd hc (by decide)
 | jn o a b =>
   have h : o=c:=h
   have hy' : (isOp o && a.wf && b.wf)=true:=hy
   simp only [Bc] at hy'
   have:=of_decide_eq_true hy'.1.1
   rw [h] at this
   rcases this with e | e | e<;>(rw [e] at hc; exact absurd hc (by decide))
theorem L_ok (b : By) : ∀ y,y ∈ b.L->D.ok 1 y:=by
 intro y hy
 simp only [By.L,List.mem_cons,List.not_mem_nil,or_false] at hy
 rcases hy with rfl | rfl | rfl<;>exact ⟨rfl,fun c hc => by rw [show (D.str _).cells=[D.str _] from rfl,List.mem_singleton] at hc; subst hc; rfl⟩
set_option maxHeartbeats 16000000 in
theorem l24Match_ok : ∀ (x y : Fm) (b : By),x.wf=true->x.abc=true->y.wf=true->x.T.size<=1000000->y.T.size<=1000000->(∀ c z,b c=some z->z.wf=true) ->
 Ctr Tryd.prog 152 [.str x.T,.str y.T,.slice b.L] true (.tup [.d (.slice (mt x y b).1.L),.d (.bool (mt x y b).2)]) []
 | .lf c, y, b, hx, ha, hy, hxs, hys, hb => by
   have c1:=l22Letter_ok (.lf c) hx
   have hbl : b.L.length=3:=rfl
   have hok:=L_ok b
   rw [mt]
   cases hL : isLet c with
   | true =>
     have c1 : Ctr Tryd.prog 99 [.str (Fm.lf c).T] false (.d (.bool (isLet c))) []:=c1
     rw [hL] at c1
     rw [if_pos rfl]
     have h3:=abc_let ha hL
     have hc97 : 97<=c.toNat∧c.toNat<=99:=by rcases h3 with rfl | rfl | rfl<;>decide
     have e0 : (Fm.lf c).T.data.toList.getD 0 0=c:=rfl
     have hz : (Fm.lf c).T.size=1:=rfl
     have t0 : Int.toNat 0=0:=rfl
     have hi : IntKind.u8.wrap ((c.toNat : Int) - 97)=((c.toNat - 97 : Nat) : Int):=by
      rcases h3 with rfl | rfl | rfl<;>decide
     have hi2 : IntKind.i64.wrap ((c.toNat - 97 : Nat) : Int)=((c.toNat - 97 : Nat) : Int):=by
      rcases h3 with rfl | rfl | rfl<;>decide
     have hg:=st_get (b:=b) h3
     have hs:=st_set (b:=b) (y:=y) h3
     have hu:=Tryd.underlying3
     cases hc : b c with
     | none =>
       have hst : b.st c=⟨#[]⟩:=by rw [By.st,hc]
       rw [hst] at hg
       show Ctr _ _ _ _ (.tup [.d (.slice (b.set c y).L),.d (.bool true)]) _
       rw [hs]
       generalize b.L=L at *
       generalize (Fm.lf c).T=t at *
       generalize y.T=u at *
       have hi3 : c.toNat - 97 < 3:=by omega
       generalize c.toNat - 97=i at *
       refine Ctr.of (n:=84) (rs:=[.tmp 6,.tmp 7]) Tryd.func152 rfl rfl Tryd.ntmps152 rfl rfl (by kernel_rfl) Tryd.checked.mixed ?_
       simp (disch:=first | omega | decide +kernel) only [hz,e0,t0,hi,hi2,hg,hu,hbl,beq_self_eq_true,Int.toNat_natCast,go_sem,Qa,Qb,Qc,Qd,Qe,↓reduceIte,reduceCtorEq,Qf,Qg,Qh]
       (repeat' (first | ((first | (refine gsel_split (fun q' => ?_) (fun q' => ?_)<;>(have h':=q')<;>(try simp only [za1,za2,Ba,Bb,za3,ne_eq,za4,za5,za6,Ia,Ib,Ic,Ie,Da,Bc,Bh,Be,za7,za8] at h')<;>try (exfalso; omega)) | (have q':=trivial; first | refine callX_new (c1) rfl (by decide) ?_ | refine callY_new (c1) rfl ?_ | refine hE _ _ ret_ne ?_ | refine hE _ _ exit_ne ?_))<;>(try simp (disch:=first | omega | decide +kernel) only [q',hz,e0,t0,hi,hi2,hg,hu,hbl,beq_self_eq_true,Int.toNat_natCast,List.length_append,List.length_nil,go_sem,Qa,Qb,Qc,Qd,Qe,↓reduceIte,reduceCtorEq,Qf,Qg,Qh])<;>clear q') | refine hN _ ?_ ?_ Wk.kk | with_reducible refine And.intro ?_ ?_ | with_reducible omega | exact ok_ints | exact cells_ints | exact no_mem | with_reducible exact plain_ints | (refine le_maxLen ?_; omega) | (refine za9 ⟨?_,?_⟩) | (simp only [go_sem,Qc,Qb,zb1,zb2,forall_eq]; done)))
       all_goals (first | omega | assumption | rfl | exact ret_s2 [36] rfl rfl | exact absurd trivial ‹¬True›)
     | some o =>
       have hst : b.st c=o.T:=by rw [By.st,hc]
       rw [hst] at hg
       have hon:=T_nn o
       have hoy:=T_inj (hb _ _ hc) hy
       show Ctr _ _ _ _ (.tup [.d (.slice b.L),.d (.bool (decide (o=y)))]) _
       rw [← hoy]
       clear hoy hs
       generalize b.L=L at *
       generalize (Fm.lf c).T=t at *
       generalize y.T=u at *
       generalize o.T=v at *
       have hi3 : c.toNat - 97 < 3:=by omega
       generalize c.toNat - 97=i at *
       refine Ctr.of (n:=84) (rs:=[.tmp 6,.tmp 7]) Tryd.func152 rfl rfl Tryd.ntmps152 rfl rfl (by kernel_rfl) Tryd.checked.mixed ?_
       simp (disch:=first | omega | decide +kernel) only [hz,e0,t0,hi,hi2,hg,hu,hbl,hon,Int.toNat_natCast,go_sem,Qa,Qb,Qc,Qd,Qe,↓reduceIte,reduceCtorEq,Qf,Qg,Qh]
       (repeat' (first | ((first | (refine gsel_split (fun q' => ?_) (fun q' => ?_)<;>(have h':=q')<;>(try simp only [za1,za2,Ba,Bb,za3,ne_eq,za4,za5,za6,Ia,Ib,Ic,Ie,Da,Bc,Bh,Be,za7,za8] at h')<;>try (exfalso; omega)) | (have q':=trivial; first | refine callX_new (c1) rfl (by decide) ?_ | refine callY_new (c1) rfl ?_ | refine hE _ _ ret_ne ?_ | refine hE _ _ exit_ne ?_))<;>(try simp (disch:=first | omega | decide +kernel) only [q',hz,e0,t0,hi,hi2,hg,hu,hbl,hon,Int.toNat_natCast,go_sem,Qa,Qb,Qc,Qd,Qe,↓reduceIte,reduceCtorEq,Qf,Qg,Qh])<;>clear q') | refine hN _ ?_ ?_ Wk.kk | with_reducible refine And.intro ?_ ?_ | with_reducible omega | exact ok_ints | exact cells_ints | exact no_mem | with_reducible exact plain_ints | (refine le_maxLen ?_; omega) | (refine za9 ⟨?_,?_⟩) | (simp only [go_sem,Qc,Qb,zb1,zb2,forall_eq]; done)))
       all_goals (first | omega | assumption | rfl | exact ret_s2 [] rfl rfl | exact absurd trivial ‹¬True›)
   | false =>
     have c1 : Ctr Tryd.prog 99 [.str (Fm.lf c).T] false (.d (.bool (isLet c))) []:=c1
     rw [hL] at c1
     rw [if_neg (by simp)]
     have c2:=l22Parts_ok (.lf c) hx hxs
     have c3:=l22Parts_ok y hy hys
     have c2 : Ctr Tryd.prog 126 [.str (Fm.lf c).T] true (.tup [.d (.int .u8 c.toNat),.d (.str ⟨#[]⟩),.d (.str ⟨#[]⟩)]) []:=c2
     show Ctr _ _ _ _ (.tup [.d (.slice b.L),.d (.bool (decide (y=.lf c)))]) _
     by_cases hop : y.op=c
     . have hyc:=op_lf hx hy hop
       rw [decide_eq_true hyc]
       rw [hop] at c3
       generalize y.p1=q1 at *
       generalize y.p2=q2 at *
       generalize y.T=u at *
       generalize (Fm.lf c).T=t at *
       generalize b.L=L at *
       refine Ctr.of (n:=84) (rs:=[.tmp 6,.tmp 7]) Tryd.func152 rfl rfl Tryd.ntmps152 rfl rfl (by kernel_rfl) Tryd.checked.mixed ?_
       simp (disch:=first | omega | decide +kernel) only [beq_self_eq_true,go_sem,Qa,Qb,Qc,Qd,Qe,↓reduceIte,reduceCtorEq,Qf,Qg,Qh]
       (repeat' (first | ((first | (refine gsel_split (fun q' => ?_) (fun q' => ?_)<;>(have h':=q')<;>(try simp only [za1,za2,Ba,Bb,za3,ne_eq,za4,za5,za6,Ia,Ib,Ic,Ie,Da,Bc,Bh,Be,za7,za8] at h')<;>try (exfalso; omega)) | (have q':=trivial; first | refine callX_new (c1) rfl (by decide) ?_ | refine callY_new (c1) rfl ?_ | refine callX_shared (c2) rfl (by decide) ?_ | refine callY_shared (c2) rfl ?_ | refine callX_shared (c3) rfl (by decide) ?_ | refine callY_shared (c3) rfl ?_ | refine hE _ _ ret_ne ?_ | refine hE _ _ exit_ne ?_))<;>(try simp (disch:=first | omega | decide +kernel) only [q',beq_self_eq_true,go_sem,Qa,Qb,Qc,Qd,Qe,↓reduceIte,reduceCtorEq,Qf,Qg,Qh])<;>clear q') | refine hN _ ?_ ?_ Wk.kk | with_reducible refine And.intro ?_ ?_ | with_reducible omega | exact ok_ints | exact cells_ints | exact no_mem | with_reducible exact plain_ints | (refine le_maxLen ?_; omega) | (refine za9 ⟨?_,?_⟩) | (simp only [go_sem,Qc,Qb,zb1,zb2,forall_eq]; done)))
       all_goals (first | omega | assumption | rfl | exact ret_s2 [] rfl rfl | exact absurd trivial ‹¬True›)
     . have hyc : y ≠ .lf c:=fun e => hop (by rw [e]; rfl)
       have hop' : ¬ (c.toNat : Int)=(y.op.toNat : Int):=fun e => hop (toN_eq.1 e).symm
       rw [decide_eq_false hyc]
       generalize y.p1=q1 at *
       generalize y.p2=q2 at *
       generalize y.T=u at *
       generalize y.op=po at *
       generalize (Fm.lf c).T=t at *
       generalize b.L=L at *
       refine Ctr.of (n:=84) (rs:=[.tmp 6,.tmp 7]) Tryd.func152 rfl rfl Tryd.ntmps152 rfl rfl (by kernel_rfl) Tryd.checked.mixed ?_
       simp (disch:=first | omega | decide +kernel) only [hop',go_sem,Qa,Qb,Qc,Qd,Qe,↓reduceIte,reduceCtorEq,Qf,Qg,Qh]
       (repeat' (first | ((first | (refine gsel_split (fun q' => ?_) (fun q' => ?_)<;>(have h':=q')<;>(try simp only [za1,za2,Ba,Bb,za3,ne_eq,za4,za5,za6,Ia,Ib,Ic,Ie,Da,Bc,Bh,Be,za7,za8] at h')<;>try (exfalso; omega)) | (have q':=trivial; first | refine callX_new (c1) rfl (by decide) ?_ | refine callY_new (c1) rfl ?_ | refine callX_shared (c2) rfl (by decide) ?_ | refine callY_shared (c2) rfl ?_ | refine callX_shared (c3) rfl (by decide) ?_ | refine callY_shared (c3) rfl ?_ | refine hE _ _ ret_ne ?_ | refine hE _ _ exit_ne ?_))<;>(try simp (disch:=first | omega | decide +kernel) only [q',hop',go_sem,Qa,Qb,Qc,Qd,Qe,↓reduceIte,reduceCtorEq,Qf,Qg,Qh])<;>clear q') | refine hN _ ?_ ?_ Wk.kk | with_reducible refine And.intro ?_ ?_ | with_reducible omega | exact ok_ints | exact cells_ints | exact no_mem | with_reducible exact plain_ints | (refine le_maxLen ?_; omega) | (refine za9 ⟨?_,?_⟩) | (simp only [go_sem,Qc,Qb,zb1,zb2,forall_eq]; done)))
       all_goals (first | omega | assumption | rfl | exact ret_s2 [] rfl rfl | exact absurd trivial ‹¬True›)
 | .ng a, y, b, hx, ha, hy, hxs, hys, hb => by
   have c1:=l22Letter_ok (.ng a) hx
   have c2:=l22Parts_ok (.ng a) hx hxs
   have c3:=l22Parts_ok y hy hys
   have hn : ((126 : UInt8).toNat : Int)=126:=rfl
   have c1 : Ctr Tryd.prog 99 [.str (Fm.ng a).T] false (.d (.bool false)) []:=c1
   have c2 : Ctr Tryd.prog 126 [.str (Fm.ng a).T] true (.tup [.d (.int .u8 (126 : UInt8).toNat),.d (.str a.T),.d (.str ⟨#[]⟩)]) []:=c2
   rw [hn] at c2
   have hna:=T_nn a
   have ih:=fun a' => l24Match_ok a a' b hx ha
   by_cases hop : y.op=126
   . obtain ⟨a',rfl⟩:=op_ng hy hop
     have c4:=ih a' hy (by rw [size_ng] at hxs; omega) (by rw [size_ng] at hys; omega) hb
     have c3 : Ctr Tryd.prog 126 [.str (Fm.ng a').T] true (.tup [.d (.int .u8 (126 : UInt8).toNat),.d (.str a'.T),.d (.str ⟨#[]⟩)]) []:=c3
     rw [hn] at c3
     rw [mt]
     generalize (mt a a' b).1.L=L' at *
     generalize (mt a a' b).2=fl at *
     clear ih
     generalize (Fm.ng a').T=u at *
     generalize (Fm.ng a).T=t at *
     generalize a'.T=u' at *
     generalize a.T=t' at *
     generalize b.L=L at *
     cases fl
     all_goals (
      refine Ctr.of (n:=84) (rs:=[.tmp 6,.tmp 7]) Tryd.func152 rfl rfl Tryd.ntmps152 rfl rfl (by kernel_rfl) Tryd.checked.mixed ?_
      simp (disch:=first | omega | decide +kernel) only [hna,beq_self_eq_true,go_sem,Qa,Qb,Qc,Qd,Qe,↓reduceIte,reduceCtorEq,Qf,Qg,Qh]
      (repeat' (first | ((first | (refine gsel_split (fun q' => ?_) (fun q' => ?_)<;>(have h':=q')<;>(try simp only [za1,za2,Ba,Bb,za3,ne_eq,za4,za5,za6,Ia,Ib,Ic,Ie,Da,Bc,Bh,Be,za7,za8] at h')<;>try (exfalso; omega)) | (have q':=trivial; first | refine callX_new (c1) rfl (by decide) ?_ | refine callY_new (c1) rfl ?_ | refine callX_shared (c2) rfl (by decide) ?_ | refine callY_shared (c2) rfl ?_ | refine callX_shared (c3) rfl (by decide) ?_ | refine callY_shared (c3) rfl ?_ | refine callX_shared (c4) rfl (by decide) ?_ | refine callY_shared (c4) rfl ?_ | refine hE _ _ ret_ne ?_ | refine hE _ _ exit_ne ?_))<;>(try simp (disch:=first | omega | decide +kernel) only [q',hna,beq_self_eq_true,go_sem,Qa,Qb,Qc,Qd,Qe,↓reduceIte,reduceCtorEq,Qf,Qg,Qh])<;>clear q') | refine hN _ ?_ ?_ Wk.kk | with_reducible refine And.intro ?_ ?_ | with_reducible omega | exact ok_ints | exact cells_ints | exact no_mem | with_reducible exact plain_ints | (refine le_maxLen ?_; omega) | (refine za9 ⟨?_,?_⟩) | (simp only [go_sem,Qc,Qb,zb1,zb2,forall_eq]; done)))
      all_goals (first | omega | assumption | rfl | exact ret_s2 [] rfl rfl | exact absurd trivial ‹¬True›))
   . have hm : mt (.ng a) y b=(b,false):=by
      cases y with
      | lf d => rfl
      | ng a' => exact absurd rfl hop
      | jn o p q => rfl
     have hop' : ¬ 126=(y.op.toNat : Int):=fun e => hop (toN_eq.1 (by rw [← e]; rfl))
     rw [hm]
     show Ctr _ _ _ _ (.tup [.d (.slice b.L),.d (.bool false)]) _
     clear ih
     generalize y.p1=q1 at *
     generalize y.p2=q2 at *
     generalize y.T=u at *
     generalize y.op=po at *
     generalize (Fm.ng a).T=t at *
     generalize a.T=t' at *
     generalize b.L=L at *
     refine Ctr.of (n:=84) (rs:=[.tmp 6,.tmp 7]) Tryd.func152 rfl rfl Tryd.ntmps152 rfl rfl (by kernel_rfl) Tryd.checked.mixed ?_
     simp (disch:=first | omega | decide +kernel) only [hop',go_sem,Qa,Qb,Qc,Qd,Qe,↓reduceIte,reduceCtorEq,Qf,Qg,Qh]
     (repeat' (first | ((first | (refine gsel_split (fun q' => ?_) (fun q' => ?_)<;>(have h':=q')<;>(try simp only [za1,za2,Ba,Bb,za3,ne_eq,za4,za5,za6,Ia,Ib,Ic,Ie,Da,Bc,Bh,Be,za7,za8] at h')<;>try (exfalso; omega)) | (have q':=trivial; first | refine callX_new (c1) rfl (by decide) ?_ | refine callY_new (c1) rfl ?_ | refine callX_shared (c2) rfl (by decide) ?_ | refine callY_shared (c2) rfl ?_ | refine callX_shared (c3) rfl (by decide) ?_ | refine callY_shared (c3) rfl ?_ | refine hE _ _ ret_ne ?_ | refine hE _ _ exit_ne ?_))<;>(try simp (disch:=first | omega | decide +kernel) only [q',hop',go_sem,Qa,Qb,Qc,Qd,Qe,↓reduceIte,reduceCtorEq,Qf,Qg,Qh])<;>clear q') | refine hN _ ?_ ?_ Wk.kk | with_reducible refine And.intro ?_ ?_ | with_reducible omega | exact ok_ints | exact cells_ints | exact no_mem | with_reducible exact plain_ints | (refine le_maxLen ?_; omega) | (refine za9 ⟨?_,?_⟩) | (simp only [go_sem,Qc,Qb,zb1,zb2,forall_eq]; done)))
     all_goals (first | omega | assumption | rfl | exact ret_s2 [] rfl rfl | exact absurd trivial ‹¬True›)
 | .jn o a1 a2, y, b, hx, ha, hy, hxs, hys, hb => by
   have c1:=l22Letter_ok (.jn o a1 a2) hx
   have c2:=l22Parts_ok (.jn o a1 a2) hx hxs
   have c3:=l22Parts_ok y hy hys
   have c1 : Ctr Tryd.prog 99 [.str (Fm.jn o a1 a2).T] false (.d (.bool false)) []:=c1
   have c2 : Ctr Tryd.prog 126 [.str (Fm.jn o a1 a2).T] true (.tup [.d (.int .u8 o.toNat),.d (.str a1.T),.d (.str a2.T)]) []:=c2
   have hn1:=T_nn a1
   have hn2:=T_nn a2
   have hx' : (isOp o && a1.wf && a2.wf)=true:=hx
   have ha' : (a1.abc && a2.abc)=true:=ha
   simp only [Bc] at hx' ha'
   rw [size_jn] at hxs
   have ih1:=fun a' => l24Match_ok a1 a' b hx'.1.2 ha'.1
   have ih2:=fun a' b' => l24Match_ok a2 a' b' hx'.2 ha'.2
   by_cases hop : y.op=o
   . obtain ⟨b1,b2,rfl⟩:=op_jn hx'.1.1 hy hop
     have hy' : (isOp o && b1.wf && b2.wf)=true:=hy
     simp only [Bc] at hy'
     rw [size_jn] at hys
     have c4:=ih1 b1 hy'.1.2 (by omega) (by omega) hb
     have c5:=ih2 b2 (mt a1 b1 b).1 hy'.2 (by omega) (by omega) (mt_wf a1 b1 b hy'.1.2 hb)
     have c3 : Ctr Tryd.prog 126 [.str (Fm.jn o b1 b2).T] true (.tup [.d (.int .u8 o.toNat),.d (.str b1.T),.d (.str b2.T)]) []:=c3
     rw [mt,if_pos rfl]
     clear ih1 ih2
     cases hf : (mt a1 b1 b).2 with
     | true =>
       rw [hf] at c4
       rw [if_pos rfl]
       generalize (mt a2 b2 (mt a1 b1 b).1).1.L=L'' at *
       generalize (mt a2 b2 (mt a1 b1 b).1).2=fl at *
       generalize (mt a1 b1 b).1.L=L' at *
       generalize (Fm.jn o b1 b2).T=u at *
       generalize (Fm.jn o a1 a2).T=t at *
       generalize a1.T=t1 at *
       generalize a2.T=t2 at *
       generalize b1.T=u1 at *
       generalize b2.T=u2 at *
       generalize b.L=L at *
       refine Ctr.of (n:=84) (rs:=[.tmp 6,.tmp 7]) Tryd.func152 rfl rfl Tryd.ntmps152 rfl rfl (by kernel_rfl) Tryd.checked.mixed ?_
       simp (disch:=first | omega | decide +kernel) only [hn1,hn2,go_sem,Qa,Qb,Qc,Qd,Qe,↓reduceIte,reduceCtorEq,Qf,Qg,Qh]
       (repeat' (first | ((first | (refine gsel_split (fun q' => ?_) (fun q' => ?_)<;>(have h':=q')<;>(try simp only [za1,za2,Ba,Bb,za3,ne_eq,za4,za5,za6,Ia,Ib,Ic,Ie,Da,Bc,Bh,Be,za7,za8] at h')<;>try (exfalso; omega)) | (have q':=trivial; first | refine callX_new (c1) rfl (by decide) ?_ | refine callY_new (c1) rfl ?_ | refine callX_shared (c2) rfl (by decide) ?_ | refine callY_shared (c2) rfl ?_ | refine callX_shared (c3) rfl (by decide) ?_ | refine callY_shared (c3) rfl ?_ | refine callX_shared (c4) rfl (by decide) ?_ | refine callY_shared (c4) rfl ?_ | refine callX_shared (c5) rfl (by decide) ?_ | refine callY_shared (c5) rfl ?_ | refine hE _ _ ret_ne ?_ | refine hE _ _ exit_ne ?_))<;>(try simp (disch:=first | omega | decide +kernel) only [q',hn1,hn2,go_sem,Qa,Qb,Qc,Qd,Qe,↓reduceIte,reduceCtorEq,Qf,Qg,Qh])<;>clear q') | refine hN _ ?_ ?_ Wk.kk | with_reducible refine And.intro ?_ ?_ | with_reducible omega | exact ok_ints | exact cells_ints | exact no_mem | with_reducible exact plain_ints | (refine le_maxLen ?_; omega) | (refine za9 ⟨?_,?_⟩) | (simp only [go_sem,Qc,Qb,zb1,zb2,forall_eq]; done)))
       all_goals (first | omega | assumption | rfl | exact ret_s2 [] rfl rfl | exact absurd trivial ‹¬True›)
     | false =>
       rw [hf] at c4
       rw [if_neg (by simp)]
       show Ctr _ _ _ _ (.tup [.d (.slice (mt a1 b1 b).1.L),.d (.bool false)]) _
       clear c5
       generalize (mt a1 b1 b).1.L=L' at *
       generalize (Fm.jn o b1 b2).T=u at *
       generalize (Fm.jn o a1 a2).T=t at *
       generalize a1.T=t1 at *
       generalize a2.T=t2 at *
       generalize b1.T=u1 at *
       generalize b2.T=u2 at *
       generalize b.L=L at *
       refine Ctr.of (n:=84) (rs:=[.tmp 6,.tmp 7]) Tryd.func152 rfl rfl Tryd.ntmps152 rfl rfl (by kernel_rfl) Tryd.checked.mixed ?_
       simp (disch:=first | omega | decide +kernel) only [hn1,hn2,go_sem,Qa,Qb,Qc,Qd,Qe,↓reduceIte,reduceCtorEq,Qf,Qg,Qh]
       (repeat' (first | ((first | (refine gsel_split (fun q' => ?_) (fun q' => ?_)<;>(have h':=q')<;>(try simp only [za1,za2,Ba,Bb,za3,ne_eq,za4,za5,za6,Ia,Ib,Ic,Ie,Da,Bc,Bh,Be,za7,za8] at h')<;>try (exfalso; omega)) | (have q':=trivial; first | refine callX_new (c1) rfl (by decide) ?_ | refine callY_new (c1) rfl ?_ | refine callX_shared (c2) rfl (by decide) ?_ | refine callY_shared (c2) rfl ?_ | refine callX_shared (c3) rfl (by decide) ?_ | refine callY_shared (c3) rfl ?_ | refine callX_shared (c4) rfl (by decide) ?_ | refine callY_shared (c4) rfl ?_ | refine hE _ _ ret_ne ?_ | refine hE _ _ exit_ne ?_))<;>(try simp (disch:=first | omega | decide +kernel) only [q',hn1,hn2,go_sem,Qa,Qb,Qc,Qd,Qe,↓reduceIte,reduceCtorEq,Qf,Qg,Qh])<;>clear q') | refine hN _ ?_ ?_ Wk.kk | with_reducible refine And.intro ?_ ?_ | with_reducible omega | exact ok_ints | exact cells_ints | exact no_mem | with_reducible exact plain_ints | (refine le_maxLen ?_; omega) | (refine za9 ⟨?_,?_⟩) | (simp only [go_sem,Qc,Qb,zb1,zb2,forall_eq]; done)))
       all_goals (first | omega | assumption | rfl | exact ret_s2 [] rfl rfl | exact absurd trivial ‹¬True›)
   . have hm : mt (.jn o a1 a2) y b=(b,false):=by
      cases y with
      | lf d => rfl
      | ng a' => rfl
      | jn o' p q => rw [mt,if_neg (fun e => hop e.symm)]
     have hop' : ¬ (o.toNat : Int)=(y.op.toNat : Int):=fun e => hop (toN_eq.1 e).symm
     rw [hm]
     show Ctr _ _ _ _ (.tup [.d (.slice b.L),.d (.bool false)]) _
     clear ih1 ih2
     generalize y.p1=q1 at *
     generalize y.p2=q2 at *
     generalize y.T=u at *
     generalize y.op=po at *
     generalize (Fm.jn o a1 a2).T=t at *
     generalize a1.T=t1 at *
     generalize a2.T=t2 at *
     generalize b.L=L at *
     refine Ctr.of (n:=84) (rs:=[.tmp 6,.tmp 7]) Tryd.func152 rfl rfl Tryd.ntmps152 rfl rfl (by kernel_rfl) Tryd.checked.mixed ?_
     simp (disch:=first | omega | decide +kernel) only [hop',go_sem,Qa,Qb,Qc,Qd,Qe,↓reduceIte,reduceCtorEq,Qf,Qg,Qh]
     (repeat' (first | ((first | (refine gsel_split (fun q' => ?_) (fun q' => ?_)<;>(have h':=q')<;>(try simp only [za1,za2,Ba,Bb,za3,ne_eq,za4,za5,za6,Ia,Ib,Ic,Ie,Da,Bc,Bh,Be,za7,za8] at h')<;>try (exfalso; omega)) | (have q':=trivial; first | refine callX_new (c1) rfl (by decide) ?_ | refine callY_new (c1) rfl ?_ | refine callX_shared (c2) rfl (by decide) ?_ | refine callY_shared (c2) rfl ?_ | refine callX_shared (c3) rfl (by decide) ?_ | refine callY_shared (c3) rfl ?_ | refine hE _ _ ret_ne ?_ | refine hE _ _ exit_ne ?_))<;>(try simp (disch:=first | omega | decide +kernel) only [q',hop',go_sem,Qa,Qb,Qc,Qd,Qe,↓reduceIte,reduceCtorEq,Qf,Qg,Qh])<;>clear q') | refine hN _ ?_ ?_ Wk.kk | with_reducible refine And.intro ?_ ?_ | with_reducible omega | exact ok_ints | exact cells_ints | exact no_mem | with_reducible exact plain_ints | (refine le_maxLen ?_; omega) | (refine za9 ⟨?_,?_⟩) | (simp only [go_sem,Qc,Qb,zb1,zb2,forall_eq]; done)))
     all_goals (first | omega | assumption | rfl | exact ret_s2 [] rfl rfl | exact absurd trivial ‹¬True›)
end Abs.Y

namespace Abs.Y
open Go Go.Proofs Abs
open Nat renaming reduceEqDiff -> Qa, reduceLT -> Qb, reduceAdd -> Qc, reduceMul -> Qd, reduceSub -> Qe, reduceLeDiff -> Qf, reduceSubDiff -> Qg, reduceBEq -> Qh
open Bool renaming not_eq_true' -> Ba, not_eq_false' -> Bb, and_eq_true -> Bc, or_eq_true -> Bh, or_eq_false_iff -> Be
open Int renaming ofNat_lt -> Ia, ofNat_le -> Ib, not_lt -> Ic, not_le -> Ie
open Decidable renaming not_not -> Da
set_option maxRecDepth 100000

noncomputable def caseF (k : Int) (a b c : ByteArray) : Fm:=(sch (k - 1).toNat).sub (f3 (fmS a) (fmS b) (fmS c))
noncomputable def caseG (k : Int) (a b c : ByteArray) : Bool:=decide (1<=k) && decide (k<=10) && okS a && okS b && okS c && decide ((caseF k a b c).T.size<=80)
noncomputable def caseS (k : Int) (a b c : ByteArray) : ByteArray:=if caseG k a b c then (caseF k a b c).T else ⟨#[]⟩
theorem caseF_sz {k : Int} {a b c : ByteArray} (ha : okS a=true) (hb : okS b=true) (hc : okS c=true) : (caseF k a b c).T.size<=2400:=by
 have h1:=sch_sz (k - 1).toNat
 have hz : ∀ {s},okS s=true->(fmS s).T.size<=80:=fun {s} h => by
  obtain ⟨_,h2,h3⟩:=okS_spec h
  rw [← h2]; exact h3
 have h2:=size_sub (f3_sz (hz ha) (hz hb) (hz hc)) (sch (k - 1).toNat)
 rw [caseF]; omega
set_option maxHeartbeats 8000000 in
theorem CaseOf_ok (k : Int) (a b c : ByteArray) (ha : a.size<=1000000) (hb : b.size<=1000000) (hc : c.size<=1000000) :
 Ctr Tryd.prog 37 [.int .i64 k,.str a,.str b,.str c] true (.tup [.d (.str (caseS k a b c)),.d (.bool (caseG k a b c))]) []:=by
 obtain ⟨xa,hxa,c1⟩:=parse_ok a ha
 obtain ⟨xb,hxb,c2⟩:=parse_ok b hb
 obtain ⟨xc,hxc,c3⟩:=parse_ok c hc
 have cw:=within_ok k 1 10
 have e1:=Int.toNat_natCast
 by_cases hg : (1<=k∧k<=10)∧okS a=true∧okS b=true∧okS c=true
 . obtain ⟨⟨hk1,hk2⟩,oa,ob,oc⟩:=hg
   rw [hxa oa,oa] at c1
   rw [hxb ob,ob] at c2
   rw [hxc oc,oc] at c3
   rw [decide_eq_true hk1,decide_eq_true hk2] at cw
   have hz:=caseF_sz (k:=k) oa ob oc
   have c4:=caseOf_ok (k - 1).toNat (by omega) (fmS a) (fmS b) (fmS c) (by have:=hz; rw [caseF] at this; omega)
   rw [show (((k - 1).toNat : Nat) : Int) + 1=k by omega] at c4
   have c5:=shown_ok ((sch (k - 1).toNat).sub (f3 (fmS a) (fmS b) (fmS c)))
   have hS : caseS k a b c=if (caseF k a b c).T.size<=80 then (caseF k a b c).T else ⟨#[]⟩:=by
    rw [caseS,caseG,oa,ob,oc,decide_eq_true hk1,decide_eq_true hk2]
    simp
   have hG : caseG k a b c=decide ((caseF k a b c).T.size<=80):=by
    rw [caseG,oa,ob,oc,decide_eq_true hk1,decide_eq_true hk2]; rfl
   rw [hS,hG,caseF]
   have n1:=fmD_na (fmS a)
   have n2:=fmD_na (fmS b)
   have n3:=fmD_na (fmS c)
   have n4:=fmD_na ((sch (k - 1).toNat).sub (f3 (fmS a) (fmS b) (fmS c)))
   generalize (sch (k - 1).toNat).sub (f3 (fmS a) (fmS b) (fmS c))=z at *
   generalize fmD z=w at *
   generalize (if z.T.size<=80 then z.T else ⟨#[]⟩)=t at *
   generalize (decide (z.T.size<=80))=g at *
   generalize fmD (fmS a)=pa at *
   generalize fmD (fmS b)=pb at *
   generalize fmD (fmS c)=pc at *
   refine Ctr.of (n:=54) (rs:=[.tmp 8,.tmp 9]) Tryd.func37 rfl rfl Tryd.ntmps37 rfl rfl (by kernel_rfl) Tryd.checked.mixed ?_
   simp (disch:=first | omega | decide +kernel) only [Bool.and_self,Bool.not_true,go_sem,Qa,Qb,Qc,Qd,Qe,↓reduceIte,reduceCtorEq,Qf,Qg,Qh]
   (repeat' (first | ((first | (refine gsel_split (fun q' => ?_) (fun q' => ?_)<;>(have h':=q')<;>(try simp only [za1,za2,Ba,Bb,za3,ne_eq,za4,za5,za6,Ia,Ib,Ic,Ie,Da,Bc,Bh,Be,za7,za8] at h')<;>try (exfalso; omega)) | (have q':=trivial; first | refine callX_shared (c1) rfl (by decide) ?_ | refine callY_shared (c1) rfl ?_ | refine callX_shared (c2) rfl (by decide) ?_ | refine callY_shared (c2) rfl ?_ | refine callX_shared (c3) rfl (by decide) ?_ | refine callY_shared (c3) rfl ?_ | refine callX_new (cw) rfl (by decide) ?_ | refine callY_new (cw) rfl ?_ | refine callX_shared (c4) rfl (by decide) ?_ | refine callY_shared (c4) rfl ?_ | refine callX_new (c5) rfl (by decide) ?_ | refine callY_new (c5) rfl ?_ | refine hE _ _ ret_ne ?_ | refine hE _ _ exit_ne ?_))<;>(try simp (disch:=first | omega | decide +kernel) only [q',Bool.and_self,Bool.not_true,go_sem,Qa,Qb,Qc,Qd,Qe,↓reduceIte,reduceCtorEq,Qf,Qg,Qh])<;>clear q') | refine hN _ ?_ ?_ Wk.kk | with_reducible refine And.intro ?_ ?_ | with_reducible omega | exact ok_ints | exact cells_ints | exact no_mem | with_reducible exact plain_ints | (refine le_maxLen ?_; omega) | (refine za9 ⟨?_,?_⟩) | (simp only [go_sem,Qc,Qb,zb1,zb2,forall_eq]; done)))
   all_goals (first | omega | assumption | rfl | exact absurd trivial ‹¬True› | exact ret_s2 [] rfl rfl)
 . have hw : (decide (1<=k) && decide (k<=10) && okS a && okS b && okS c)=false:=by
    rw [Bool.eq_false_iff]; intro h
    simp only [Bc,decide_eq_true_eq] at h
    exact hg ⟨h.1.1.1,h.1.1.2,h.1.2,h.2⟩
   have hG : caseG k a b c=false:=by rw [caseG,hw]; rfl
   have hS : caseS k a b c=⟨#[]⟩:=by rw [caseS,hG]; rfl
   rw [hS,hG]
   generalize (decide (1<=k) && decide (k<=10))=wi at *
   generalize okS a=oa at *
   generalize okS b=ob at *
   generalize okS c=oc at *
   clear hxa hxb hxc hg hG hS
   cases wi<;>cases oa<;>cases ob<;>cases oc<;>first
   | exact absurd hw (by decide)
   | (refine Ctr.of (n := 54) (rs := [.tmp 8, .tmp 9]) Tryd.func37 rfl rfl Tryd.ntmps37 rfl rfl (by kernel_rfl) Tryd.checked.mixed ?_
      simp (disch:=first | omega | decide +kernel) only [Bool.not_true,Bool.not_false,go_sem,Qa,Qb,Qc,Qd,Qe,↓reduceIte,reduceCtorEq,Qf,Qg,Qh]
      (repeat' (first | ((first | (refine gsel_split (fun q' => ?_) (fun q' => ?_)<;>(have h':=q')<;>(try simp only [za1,za2,Ba,Bb,za3,ne_eq,za4,za5,za6,Ia,Ib,Ic,Ie,Da,Bc,Bh,Be,za7,za8] at h')<;>try (exfalso; omega)) | (have q':=trivial; first | refine callX_shared (c1) rfl (by decide) ?_ | refine callY_shared (c1) rfl ?_ | refine callX_shared (c2) rfl (by decide) ?_ | refine callY_shared (c2) rfl ?_ | refine callX_shared (c3) rfl (by decide) ?_ | refine callY_shared (c3) rfl ?_ | refine callX_new (cw) rfl (by decide) ?_ | refine callY_new (cw) rfl ?_ | refine hE _ _ ret_ne ?_ | refine hE _ _ exit_ne ?_))<;>(try simp (disch:=first | omega | decide +kernel) only [q',Bool.not_true,Bool.not_false,go_sem,Qa,Qb,Qc,Qd,Qe,↓reduceIte,reduceCtorEq,Qf,Qg,Qh])<;>clear q') | refine hN _ ?_ ?_ Wk.kk | with_reducible refine And.intro ?_ ?_ | with_reducible omega | exact ok_ints | exact cells_ints | exact no_mem | with_reducible exact plain_ints | (refine le_maxLen ?_; omega) | (refine za9 ⟨?_,?_⟩) | (simp only [go_sem,Qc,Qb,zb1,zb2,forall_eq]; done)))
      all_goals (first | omega | assumption | rfl | exact absurd trivial ‹¬True› | exact ret_s2 [] rfl rfl))
noncomputable def schS (k : Int) : ByteArray:=if 1<=k∧k<=10 then (sch (k - 1).toNat).T else ⟨#[]⟩
theorem SchemeOf_ok (k : Int) : Ctr Tryd.prog 43 [.int .i64 k] true (.tup [.d (.str (schS k)),.d (.bool (decide (1<=k) && decide (k<=10)))]) []:=by
 have cw:=within_ok k 1 10
 have hG : globD 0=some (.ptr (.agg schemesD)):=rfl
 have hgl : schemesD.length=10:=rfl
 by_cases h : 1<=k∧k<=10
 . have hg:=sch_el (k - 1).toNat (by omega)
   rw [decide_eq_true h.1,decide_eq_true h.2] at cw ⊢
   rw [schS,if_pos h]
   generalize (sch (k - 1).toNat).T=t at *
   generalize hL : schemesD=L at *
   obtain ⟨h1,h2⟩:=h
   refine Ctr.of (n:=11) (rs:=[.tmp 2,.tmp 3]) Tryd.func43 rfl rfl Tryd.ntmps43 rfl rfl (by kernel_rfl) Tryd.checked.mixed ?_
   simp (disch:=first | omega | decide +kernel) only [Nat.mul_one,hG,hL,hg,go_sem,Qa,Qb,Qc,Qd,Qe,↓reduceIte,reduceCtorEq,Qf,Qg,Qh]
   (repeat' (first | ((first | (refine gsel_split (fun q' => ?_) (fun q' => ?_)<;>(have h':=q')<;>(try simp only [za1,za2,Ba,Bb,za3,ne_eq,za4,za5,za6,Ia,Ib,Ic,Ie,Da,Bc,Bh,Be,za7,za8] at h')<;>try (exfalso; omega)) | (have q':=trivial; first | refine callX_new (cw) rfl (by decide) ?_ | refine callY_new (cw) rfl ?_ | refine hE _ _ ret_ne ?_ | refine hE _ _ exit_ne ?_))<;>(try simp (disch:=first | omega | decide +kernel) only [q',Nat.mul_one,hG,hL,hg,go_sem,Qa,Qb,Qc,Qd,Qe,↓reduceIte,reduceCtorEq,Qf,Qg,Qh])<;>clear q') | refine hN _ ?_ ?_ Wk.kk | with_reducible refine And.intro ?_ ?_ | with_reducible omega | exact ok_ints | exact cells_ints | exact no_mem | with_reducible exact plain_ints | (refine le_maxLen ?_; omega) | (refine za9 ⟨?_,?_⟩) | (simp only [go_sem,Qc,Qb,zb1,zb2,forall_eq]; done)))
   all_goals (first | omega | assumption | rfl | exact absurd trivial ‹¬True› | exact ret_s2 [] rfl rfl)
 . have hw : (decide (1<=k) && decide (k<=10))=false:=by
    rw [Bool.eq_false_iff]; intro h'
    simp only [Bc,decide_eq_true_eq] at h'
    exact h h'
   rw [schS,if_neg h]
   rw [hw] at cw ⊢
   refine Ctr.of (n:=11) (rs:=[.tmp 2,.tmp 3]) Tryd.func43 rfl rfl Tryd.ntmps43 rfl rfl (by kernel_rfl) Tryd.checked.mixed ?_
   simp (disch:=first | omega | decide +kernel) only [go_sem,Qa,Qb,Qc,Qd,Qe,↓reduceIte,reduceCtorEq,Qf,Qg,Qh]
   (repeat' (first | ((first | (refine gsel_split (fun q' => ?_) (fun q' => ?_)<;>(have h':=q')<;>(try simp only [za1,za2,Ba,Bb,za3,ne_eq,za4,za5,za6,Ia,Ib,Ic,Ie,Da,Bc,Bh,Be,za7,za8] at h')<;>try (exfalso; omega)) | (have q':=trivial; first | refine callX_new (cw) rfl (by decide) ?_ | refine callY_new (cw) rfl ?_ | refine hE _ _ ret_ne ?_ | refine hE _ _ exit_ne ?_))<;>(try simp (disch:=first | omega | decide +kernel) only [q',go_sem,Qa,Qb,Qc,Qd,Qe,↓reduceIte,reduceCtorEq,Qf,Qg,Qh])<;>clear q') | refine hN _ ?_ ?_ Wk.kk | with_reducible refine And.intro ?_ ?_ | with_reducible omega | exact ok_ints | exact cells_ints | exact no_mem | with_reducible exact plain_ints | (refine le_maxLen ?_; omega) | (refine za9 ⟨?_,?_⟩) | (simp only [go_sem,Qc,Qb,zb1,zb2,forall_eq]; done)))
   all_goals (first | omega | assumption | rfl | exact absurd trivial ‹¬True› | exact ret_s2 [] rfl rfl)
end Abs.Y
