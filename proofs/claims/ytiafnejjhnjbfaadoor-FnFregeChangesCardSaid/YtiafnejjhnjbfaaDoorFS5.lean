/- What functions of this program compute, over plain data. No condition. -/
import Derived.Test.YtiafnejjhnjbfaaDoorR3
set_option linter.all false
namespace Abs.Y
open Go Go.Proofs Abs
open Nat renaming reduceEqDiff -> Qa, reduceLT -> Qb, reduceAdd -> Qc, reduceMul -> Qd, reduceSub -> Qe, reduceLeDiff -> Qf, reduceSubDiff -> Qg, reduceBEq -> Qh
open Bool renaming not_eq_true' -> Ba, not_eq_false' -> Bb, and_eq_true -> Bc, or_eq_true -> Bh, or_eq_false_iff -> Be
open Int renaming ofNat_lt -> Ia, ofNat_le -> Ib, not_lt -> Ic, not_le -> Ie
open Decidable renaming not_not -> Da
set_option maxRecDepth 100000

def By.st (b : By) (c : UInt8) : ByteArray:=match b c with
 | none => ⟨#[]⟩
 | some y => y.T
def By.L (b : By) : List D:=[.str (b.st 97),.str (b.st 98),.str (b.st 99)]
theorem T_inj {x y : Fm} (hx : x.wf=true) (hy : y.wf=true) : (x.T.toList == y.T.toList)=decide (x=y):=by
 rw [ByteArray.toList_eq,ByteArray.toList_eq]
 show (x.tl == y.tl)=decide (x=y)
 by_cases h : x=y
 . rw [h,decide_eq_true rfl,beq_self_eq_true]
 . rw [decide_eq_false h,beq_eq_false_iff_ne]
   exact fun e => h (par_uniq x y [] [] hx hy (by rw [List.append_nil,List.append_nil,e])).1
theorem T_nn (x : Fm) : (x.T.toList == (ByteArray.mk #[]).toList)=false:=by
 rw [beq_eq_false_iff_ne,ByteArray.toList_eq,ByteArray.toList_eq]
 exact tl_ne x
theorem mt_wf : ∀ (x y : Fm) (b : By),y.wf=true->(∀ c z,b c=some z->z.wf=true)->∀ c z,(mt x y b).1 c=some z->z.wf=true
 | .lf c, y, b, hy, hb => by
   rw [mt]
   split
   . cases hc : b c with
     | none =>
       intro d z hd
       dsimp only [By.set] at hd
       split at hd
       . rw [← Option.some.inj hd]; exact hy
       . exact hb _ _ hd
     | some o => exact hb
   . exact hb
 | .ng a,.ng a',b,hy,hb => by rw [mt]; exact mt_wf a a' b hy hb
 | .jn o a1 a2, .jn o' b1 b2, b, hy, hb => by
   have hy' : (isOp o' && b1.wf && b2.wf)=true:=hy
   simp only [Bc] at hy'
   rw [mt]
   split
   . split
     . exact mt_wf a2 b2 _ hy'.2 (mt_wf a1 b1 b hy'.1.2 hb)
     . exact mt_wf a1 b1 b hy'.1.2 hb
   . exact hb
 | .ng _,.lf _,b,_,hb => hb
 | .ng _,.jn _ _ _,b,_,hb => hb
 | .jn _ _ _,.lf _,b,_,hb => hb
 | .jn _ _ _,.ng _,b,_,hb => hb
theorem st_set {b : By} {c : UInt8} {y : Fm} (h : c=97∨c=98∨c=99) : (b.set c y).L=b.L.set (c.toNat - 97) (.str y.T):=by
 rcases h with rfl | rfl | rfl<;>rfl
theorem st_get {b : By} {c : UInt8} (h : c=97∨c=98∨c=99) : el b.L (c.toNat - 97)=.str (b.st c):=by
 rcases h with rfl | rfl | rfl<;>rfl
theorem op_ng {y : Fm} (hy : y.wf=true) (h : y.op=126) : ∃ a,y=.ng a:=by
 cases y with
 | lf c => exact absurd h (lf_ne hy).1
 | ng a => exact ⟨a,rfl⟩
 | jn o a b =>
   have hy' : (isOp o && a.wf && b.wf)=true:=hy
   simp only [Bc] at hy'
   have:=of_decide_eq_true hy'.1.1
   have h : o=126:=h
   rw [h] at this
   exact absurd this (by decide)
theorem op_jn {y : Fm} {o : UInt8} (ho : isOp o=true) (hy : y.wf=true) (h : y.op=o) : ∃ a b,y=.jn o a b:=by
 have:=of_decide_eq_true ho
 cases y with
 | lf c =>
   have h : c=o:=h
   have hy : isLf c=true:=hy
   rw [h] at hy
   rcases this with e | e | e<;>(rw [e] at hy; exact absurd hy (by decide))
 | ng a =>
   have h : 126=o:=h
   rcases this with e | e | e<;>(rw [e] at h; exact absurd h (by decide))
 | jn o' a b => exact ⟨a,b,by rw [← h]; rfl⟩
theorem op_lf {y : Fm} {c : UInt8} (hc : isLf c=true) (hy : y.wf=true) (h : y.op=c) : y=.lf c:=by
 cases y with
 | lf d => rw [← h]; rfl
 | ng a =>
   have h : 126=c:=h
   rw [← h] at hc
   exact absurd hc (by decide)
 | jn o a b =>
   have h : o=c:=h
   have hy' : (isOp o && a.wf && b.wf)=true:=hy
   simp only [Bc] at hy'
   have:=of_decide_eq_true hy'.1.1
   rw [h] at this
   rcases this with e | e | e<;>(rw [e] at hc; exact absurd hc (by decide))
theorem L_ok (b : By) : ∀ y,y ∈ b.L->D.ok 1 y:=by
 intro y hy
 simp only [By.L,List.mem_cons,List.not_mem_nil,or_false] at hy
 rcases hy with rfl | rfl | rfl<;>exact ⟨rfl,fun c hc => by rw [show (D.str _).cells=[D.str _] from rfl,List.mem_singleton] at hc; subst hc; rfl⟩
set_option maxHeartbeats 16000000 in
theorem l24Match_ok : ∀ (x y : Fm) (b : By),x.wf=true->x.abc=true->y.wf=true->x.T.size<=1000000->y.T.size<=1000000->(∀ c z,b c=some z->z.wf=true) ->
 Ctr Tryd.prog 100 [.str x.T,.str y.T,.slice b.L] true (.tup [.d (.slice (mt x y b).1.L),.d (.bool (mt x y b).2)]) []
 | .lf c, y, b, hx, ha, hy, hxs, hys, hb => by
   have c1:=l22Letter_ok (.lf c) hx
   have hbl : b.L.length=3:=rfl
   have hok:=L_ok b
   rw [mt]
   cases hL : isLet c with
   | true =>
     have c1 : Ctr Tryd.prog 29 [.str (Fm.lf c).T] false (.d (.bool (isLet c))) []:=c1
     rw [hL] at c1
     rw [if_pos rfl]
     have h3:=abc_let ha hL
     have hc97 : 97<=c.toNat∧c.toNat<=99:=by rcases h3 with rfl | rfl | rfl<;>decide
     have e0 : (Fm.lf c).T.data.toList.getD 0 0=c:=rfl
     have hz : (Fm.lf c).T.size=1:=rfl
     have t0 : Int.toNat 0=0:=rfl
     have hi : IntKind.u8.wrap ((c.toNat : Int) - 97)=((c.toNat - 97 : Nat) : Int):=by
      rcases h3 with rfl | rfl | rfl<;>decide
     have hi2 : IntKind.i64.wrap ((c.toNat - 97 : Nat) : Int)=((c.toNat - 97 : Nat) : Int):=by
      rcases h3 with rfl | rfl | rfl<;>decide
     have hg:=st_get (b:=b) h3
     have hs:=st_set (b:=b) (y:=y) h3
     have hu:=Tryd.underlying3
     cases hc : b c with
     | none =>
       have hst : b.st c=⟨#[]⟩:=by rw [By.st,hc]
       rw [hst] at hg
       show Ctr _ _ _ _ (.tup [.d (.slice (b.set c y).L),.d (.bool true)]) _
       rw [hs]
       generalize b.L=L at *
       generalize (Fm.lf c).T=t at *
       generalize y.T=u at *
       have hi3 : c.toNat - 97 < 3:=by omega
       generalize c.toNat - 97=i at *
       refine Ctr.of (n:=84) (rs:=[.tmp 6,.tmp 7]) Tryd.func100 rfl rfl Tryd.ntmps100 rfl rfl (by kernel_rfl) Tryd.checked.mixed ?_
       simp (disch:=first | omega | decide +kernel) only [hz,e0,t0,hi,hi2,hg,hu,hbl,beq_self_eq_true,Int.toNat_natCast,go_sem,Qa,Qb,Qc,Qd,Qe,↓reduceIte,reduceCtorEq,Qf,Qg,Qh]
       (repeat' (first | ((first | (refine gsel_split (fun q' => ?_) (fun q' => ?_)<;>(have h':=q')<;>(try simp only [za1,za2,Ba,Bb,za3,ne_eq,za4,za5,za6,Ia,Ib,Ic,Ie,Da,Bc,Bh,Be,za7,za8] at h')<;>try (exfalso; omega)) | (have q':=trivial; first | refine callX_new (c1) rfl (by decide) ?_ | refine callY_new (c1) rfl ?_ | refine hE _ _ ret_ne ?_ | refine hE _ _ exit_ne ?_))<;>(try simp (disch:=first | omega | decide +kernel) only [q',hz,e0,t0,hi,hi2,hg,hu,hbl,beq_self_eq_true,Int.toNat_natCast,List.length_append,List.length_nil,go_sem,Qa,Qb,Qc,Qd,Qe,↓reduceIte,reduceCtorEq,Qf,Qg,Qh])<;>clear q') | refine hN _ ?_ ?_ Wk.kk | with_reducible refine And.intro ?_ ?_ | with_reducible omega | exact ok_ints | exact cells_ints | exact no_mem | with_reducible exact plain_ints | (refine le_maxLen ?_; omega) | (refine za9 ⟨?_,?_⟩) | (simp only [go_sem,Qc,Qb,zb1,zb2,forall_eq]; done)))
       all_goals (first | omega | assumption | rfl | exact ret_s2 [36] rfl rfl | exact absurd trivial ‹¬True›)
     | some o =>
       have hst : b.st c=o.T:=by rw [By.st,hc]
       rw [hst] at hg
       have hon:=T_nn o
       have hoy:=T_inj (hb _ _ hc) hy
       show Ctr _ _ _ _ (.tup [.d (.slice b.L),.d (.bool (decide (o=y)))]) _
       rw [← hoy]
       clear hoy hs
       generalize b.L=L at *
       generalize (Fm.lf c).T=t at *
       generalize y.T=u at *
       generalize o.T=v at *
       have hi3 : c.toNat - 97 < 3:=by omega
       generalize c.toNat - 97=i at *
       refine Ctr.of (n:=84) (rs:=[.tmp 6,.tmp 7]) Tryd.func100 rfl rfl Tryd.ntmps100 rfl rfl (by kernel_rfl) Tryd.checked.mixed ?_
       simp (disch:=first | omega | decide +kernel) only [hz,e0,t0,hi,hi2,hg,hu,hbl,hon,Int.toNat_natCast,go_sem,Qa,Qb,Qc,Qd,Qe,↓reduceIte,reduceCtorEq,Qf,Qg,Qh]
       (repeat' (first | ((first | (refine gsel_split (fun q' => ?_) (fun q' => ?_)<;>(have h':=q')<;>(try simp only [za1,za2,Ba,Bb,za3,ne_eq,za4,za5,za6,Ia,Ib,Ic,Ie,Da,Bc,Bh,Be,za7,za8] at h')<;>try (exfalso; omega)) | (have q':=trivial; first | refine callX_new (c1) rfl (by decide) ?_ | refine callY_new (c1) rfl ?_ | refine hE _ _ ret_ne ?_ | refine hE _ _ exit_ne ?_))<;>(try simp (disch:=first | omega | decide +kernel) only [q',hz,e0,t0,hi,hi2,hg,hu,hbl,hon,Int.toNat_natCast,go_sem,Qa,Qb,Qc,Qd,Qe,↓reduceIte,reduceCtorEq,Qf,Qg,Qh])<;>clear q') | refine hN _ ?_ ?_ Wk.kk | with_reducible refine And.intro ?_ ?_ | with_reducible omega | exact ok_ints | exact cells_ints | exact no_mem | with_reducible exact plain_ints | (refine le_maxLen ?_; omega) | (refine za9 ⟨?_,?_⟩) | (simp only [go_sem,Qc,Qb,zb1,zb2,forall_eq]; done)))
       all_goals (first | omega | assumption | rfl | exact ret_s2 [] rfl rfl | exact absurd trivial ‹¬True›)
   | false =>
     have c1 : Ctr Tryd.prog 29 [.str (Fm.lf c).T] false (.d (.bool (isLet c))) []:=c1
     rw [hL] at c1
     rw [if_neg (by simp)]
     have c2:=l22Parts_ok (.lf c) hx hxs
     have c3:=l22Parts_ok y hy hys
     have c2 : Ctr Tryd.prog 45 [.str (Fm.lf c).T] true (.tup [.d (.int .u8 c.toNat),.d (.str ⟨#[]⟩),.d (.str ⟨#[]⟩)]) []:=c2
     show Ctr _ _ _ _ (.tup [.d (.slice b.L),.d (.bool (decide (y=.lf c)))]) _
     by_cases hop : y.op=c
     . have hyc:=op_lf hx hy hop
       rw [decide_eq_true hyc]
       rw [hop] at c3
       generalize y.p1=q1 at *
       generalize y.p2=q2 at *
       generalize y.T=u at *
       generalize (Fm.lf c).T=t at *
       generalize b.L=L at *
       refine Ctr.of (n:=84) (rs:=[.tmp 6,.tmp 7]) Tryd.func100 rfl rfl Tryd.ntmps100 rfl rfl (by kernel_rfl) Tryd.checked.mixed ?_
       simp (disch:=first | omega | decide +kernel) only [beq_self_eq_true,go_sem,Qa,Qb,Qc,Qd,Qe,↓reduceIte,reduceCtorEq,Qf,Qg,Qh]
       (repeat' (first | ((first | (refine gsel_split (fun q' => ?_) (fun q' => ?_)<;>(have h':=q')<;>(try simp only [za1,za2,Ba,Bb,za3,ne_eq,za4,za5,za6,Ia,Ib,Ic,Ie,Da,Bc,Bh,Be,za7,za8] at h')<;>try (exfalso; omega)) | (have q':=trivial; first | refine callX_new (c1) rfl (by decide) ?_ | refine callY_new (c1) rfl ?_ | refine callX_shared (c2) rfl (by decide) ?_ | refine callY_shared (c2) rfl ?_ | refine callX_shared (c3) rfl (by decide) ?_ | refine callY_shared (c3) rfl ?_ | refine hE _ _ ret_ne ?_ | refine hE _ _ exit_ne ?_))<;>(try simp (disch:=first | omega | decide +kernel) only [q',beq_self_eq_true,go_sem,Qa,Qb,Qc,Qd,Qe,↓reduceIte,reduceCtorEq,Qf,Qg,Qh])<;>clear q') | refine hN _ ?_ ?_ Wk.kk | with_reducible refine And.intro ?_ ?_ | with_reducible omega | exact ok_ints | exact cells_ints | exact no_mem | with_reducible exact plain_ints | (refine le_maxLen ?_; omega) | (refine za9 ⟨?_,?_⟩) | (simp only [go_sem,Qc,Qb,zb1,zb2,forall_eq]; done)))
       all_goals (first | omega | assumption | rfl | exact ret_s2 [] rfl rfl | exact absurd trivial ‹¬True›)
     . have hyc : y ≠ .lf c:=fun e => hop (by rw [e]; rfl)
       have hop' : ¬ (c.toNat : Int)=(y.op.toNat : Int):=fun e => hop (toN_eq.1 e).symm
       rw [decide_eq_false hyc]
       generalize y.p1=q1 at *
       generalize y.p2=q2 at *
       generalize y.T=u at *
       generalize y.op=po at *
       generalize (Fm.lf c).T=t at *
       generalize b.L=L at *
       refine Ctr.of (n:=84) (rs:=[.tmp 6,.tmp 7]) Tryd.func100 rfl rfl Tryd.ntmps100 rfl rfl (by kernel_rfl) Tryd.checked.mixed ?_
       simp (disch:=first | omega | decide +kernel) only [hop',go_sem,Qa,Qb,Qc,Qd,Qe,↓reduceIte,reduceCtorEq,Qf,Qg,Qh]
       (repeat' (first | ((first | (refine gsel_split (fun q' => ?_) (fun q' => ?_)<;>(have h':=q')<;>(try simp only [za1,za2,Ba,Bb,za3,ne_eq,za4,za5,za6,Ia,Ib,Ic,Ie,Da,Bc,Bh,Be,za7,za8] at h')<;>try (exfalso; omega)) | (have q':=trivial; first | refine callX_new (c1) rfl (by decide) ?_ | refine callY_new (c1) rfl ?_ | refine callX_shared (c2) rfl (by decide) ?_ | refine callY_shared (c2) rfl ?_ | refine callX_shared (c3) rfl (by decide) ?_ | refine callY_shared (c3) rfl ?_ | refine hE _ _ ret_ne ?_ | refine hE _ _ exit_ne ?_))<;>(try simp (disch:=first | omega | decide +kernel) only [q',hop',go_sem,Qa,Qb,Qc,Qd,Qe,↓reduceIte,reduceCtorEq,Qf,Qg,Qh])<;>clear q') | refine hN _ ?_ ?_ Wk.kk | with_reducible refine And.intro ?_ ?_ | with_reducible omega | exact ok_ints | exact cells_ints | exact no_mem | with_reducible exact plain_ints | (refine le_maxLen ?_; omega) | (refine za9 ⟨?_,?_⟩) | (simp only [go_sem,Qc,Qb,zb1,zb2,forall_eq]; done)))
       all_goals (first | omega | assumption | rfl | exact ret_s2 [] rfl rfl | exact absurd trivial ‹¬True›)
 | .ng a, y, b, hx, ha, hy, hxs, hys, hb => by
   have c1:=l22Letter_ok (.ng a) hx
   have c2:=l22Parts_ok (.ng a) hx hxs
   have c3:=l22Parts_ok y hy hys
   have hn : ((126 : UInt8).toNat : Int)=126:=rfl
   have c1 : Ctr Tryd.prog 29 [.str (Fm.ng a).T] false (.d (.bool false)) []:=c1
   have c2 : Ctr Tryd.prog 45 [.str (Fm.ng a).T] true (.tup [.d (.int .u8 (126 : UInt8).toNat),.d (.str a.T),.d (.str ⟨#[]⟩)]) []:=c2
   rw [hn] at c2
   have hna:=T_nn a
   have ih:=fun a' => l24Match_ok a a' b hx ha
   by_cases hop : y.op=126
   . obtain ⟨a',rfl⟩:=op_ng hy hop
     have c4:=ih a' hy (by rw [size_ng] at hxs; omega) (by rw [size_ng] at hys; omega) hb
     have c3 : Ctr Tryd.prog 45 [.str (Fm.ng a').T] true (.tup [.d (.int .u8 (126 : UInt8).toNat),.d (.str a'.T),.d (.str ⟨#[]⟩)]) []:=c3
     rw [hn] at c3
     rw [mt]
     generalize (mt a a' b).1.L=L' at *
     generalize (mt a a' b).2=fl at *
     clear ih
     generalize (Fm.ng a').T=u at *
     generalize (Fm.ng a).T=t at *
     generalize a'.T=u' at *
     generalize a.T=t' at *
     generalize b.L=L at *
     cases fl
     all_goals (
      refine Ctr.of (n:=84) (rs:=[.tmp 6,.tmp 7]) Tryd.func100 rfl rfl Tryd.ntmps100 rfl rfl (by kernel_rfl) Tryd.checked.mixed ?_
      simp (disch:=first | omega | decide +kernel) only [hna,beq_self_eq_true,go_sem,Qa,Qb,Qc,Qd,Qe,↓reduceIte,reduceCtorEq,Qf,Qg,Qh]
      (repeat' (first | ((first | (refine gsel_split (fun q' => ?_) (fun q' => ?_)<;>(have h':=q')<;>(try simp only [za1,za2,Ba,Bb,za3,ne_eq,za4,za5,za6,Ia,Ib,Ic,Ie,Da,Bc,Bh,Be,za7,za8] at h')<;>try (exfalso; omega)) | (have q':=trivial; first | refine callX_new (c1) rfl (by decide) ?_ | refine callY_new (c1) rfl ?_ | refine callX_shared (c2) rfl (by decide) ?_ | refine callY_shared (c2) rfl ?_ | refine callX_shared (c3) rfl (by decide) ?_ | refine callY_shared (c3) rfl ?_ | refine callX_shared (c4) rfl (by decide) ?_ | refine callY_shared (c4) rfl ?_ | refine hE _ _ ret_ne ?_ | refine hE _ _ exit_ne ?_))<;>(try simp (disch:=first | omega | decide +kernel) only [q',hna,beq_self_eq_true,go_sem,Qa,Qb,Qc,Qd,Qe,↓reduceIte,reduceCtorEq,Qf,Qg,Qh])<;>clear q') | refine hN _ ?_ ?_ Wk.kk | with_reducible refine And.intro ?_ ?_ | with_reducible omega | exact ok_ints | exact cells_ints | exact no_mem | with_reducible exact plain_ints | (refine le_maxLen ?_; omega) | (refine za9 ⟨?_,?_⟩) | (simp only [go_sem,Qc,Qb,zb1,zb2,forall_eq]; done)))
      all_goals (first | omega | assumption | rfl | exact ret_s2 [] rfl rfl | exact absurd trivial ‹¬True›))
   . have hm : mt (.ng a) y b=(b,false):=by
      cases y with
      | lf d => rfl
      | ng a' => exact absurd rfl hop
      | jn o p q => rfl
     have hop' : ¬ 126=(y.op.toNat : Int):=fun e => hop (toN_eq.1 (by rw [← e]; rfl))
     rw [hm]
     show Ctr _ _ _ _ (.tup [.d (.slice b.L),.d (.bool false)]) _
     clear ih
     generalize y.p1=q1 at *
     generalize y.p2=q2 at *
     generalize y.T=u at *
     generalize y.op=po at *
     generalize (Fm.ng a).T=t at *
     generalize a.T=t' at *
     generalize b.L=L at *
     refine Ctr.of (n:=84) (rs:=[.tmp 6,.tmp 7]) Tryd.func100 rfl rfl Tryd.ntmps100 rfl rfl (by kernel_rfl) Tryd.checked.mixed ?_
     simp (disch:=first | omega | decide +kernel) only [hop',go_sem,Qa,Qb,Qc,Qd,Qe,↓reduceIte,reduceCtorEq,Qf,Qg,Qh]
     (repeat' (first | ((first | (refine gsel_split (fun q' => ?_) (fun q' => ?_)<;>(have h':=q')<;>(try simp only [za1,za2,Ba,Bb,za3,ne_eq,za4,za5,za6,Ia,Ib,Ic,Ie,Da,Bc,Bh,Be,za7,za8] at h')<;>try (exfalso; omega)) | (have q':=trivial; first | refine callX_new (c1) rfl (by decide) ?_ | refine callY_new (c1) rfl ?_ | refine callX_shared (c2) rfl (by decide) ?_ | refine callY_shared (c2) rfl ?_ | refine callX_shared (c3) rfl (by decide) ?_ | refine callY_shared (c3) rfl ?_ | refine hE _ _ ret_ne ?_ | refine hE _ _ exit_ne ?_))<;>(try simp (disch:=first | omega | decide +kernel) only [q',hop',go_sem,Qa,Qb,Qc,Qd,Qe,↓reduceIte,reduceCtorEq,Qf,Qg,Qh])<;>clear q') | refine hN _ ?_ ?_ Wk.kk | with_reducible refine And.intro ?_ ?_ | with_reducible omega | exact ok_ints | exact cells_ints | exact no_mem | with_reducible exact plain_ints | (refine le_maxLen ?_; omega) | (refine za9 ⟨?_,?_⟩) | (simp only [go_sem,Qc,Qb,zb1,zb2,forall_eq]; done)))
     all_goals (first | omega | assumption | rfl | exact ret_s2 [] rfl rfl | exact absurd trivial ‹¬True›)
 | .jn o a1 a2, y, b, hx, ha, hy, hxs, hys, hb => by
   have c1:=l22Letter_ok (.jn o a1 a2) hx
   have c2:=l22Parts_ok (.jn o a1 a2) hx hxs
   have c3:=l22Parts_ok y hy hys
   have c1 : Ctr Tryd.prog 29 [.str (Fm.jn o a1 a2).T] false (.d (.bool false)) []:=c1
   have c2 : Ctr Tryd.prog 45 [.str (Fm.jn o a1 a2).T] true (.tup [.d (.int .u8 o.toNat),.d (.str a1.T),.d (.str a2.T)]) []:=c2
   have hn1:=T_nn a1
   have hn2:=T_nn a2
   have hx' : (isOp o && a1.wf && a2.wf)=true:=hx
   have ha' : (a1.abc && a2.abc)=true:=ha
   simp only [Bc] at hx' ha'
   rw [size_jn] at hxs
   have ih1:=fun a' => l24Match_ok a1 a' b hx'.1.2 ha'.1
   have ih2:=fun a' b' => l24Match_ok a2 a' b' hx'.2 ha'.2
   by_cases hop : y.op=o
   . obtain ⟨b1,b2,rfl⟩:=op_jn hx'.1.1 hy hop
     have hy' : (isOp o && b1.wf && b2.wf)=true:=hy
     simp only [Bc] at hy'
     rw [size_jn] at hys
     have c4:=ih1 b1 hy'.1.2 (by omega) (by omega) hb
     have c5:=ih2 b2 (mt a1 b1 b).1 hy'.2 (by omega) (by omega) (mt_wf a1 b1 b hy'.1.2 hb)
     have c3 : Ctr Tryd.prog 45 [.str (Fm.jn o b1 b2).T] true (.tup [.d (.int .u8 o.toNat),.d (.str b1.T),.d (.str b2.T)]) []:=c3
     rw [mt,if_pos rfl]
     clear ih1 ih2
     cases hf : (mt a1 b1 b).2 with
     | true =>
       rw [hf] at c4
       rw [if_pos rfl]
       generalize (mt a2 b2 (mt a1 b1 b).1).1.L=L'' at *
       generalize (mt a2 b2 (mt a1 b1 b).1).2=fl at *
       generalize (mt a1 b1 b).1.L=L' at *
       generalize (Fm.jn o b1 b2).T=u at *
       generalize (Fm.jn o a1 a2).T=t at *
       generalize a1.T=t1 at *
       generalize a2.T=t2 at *
       generalize b1.T=u1 at *
       generalize b2.T=u2 at *
       generalize b.L=L at *
       refine Ctr.of (n:=84) (rs:=[.tmp 6,.tmp 7]) Tryd.func100 rfl rfl Tryd.ntmps100 rfl rfl (by kernel_rfl) Tryd.checked.mixed ?_
       simp (disch:=first | omega | decide +kernel) only [hn1,hn2,go_sem,Qa,Qb,Qc,Qd,Qe,↓reduceIte,reduceCtorEq,Qf,Qg,Qh]
       (repeat' (first | ((first | (refine gsel_split (fun q' => ?_) (fun q' => ?_)<;>(have h':=q')<;>(try simp only [za1,za2,Ba,Bb,za3,ne_eq,za4,za5,za6,Ia,Ib,Ic,Ie,Da,Bc,Bh,Be,za7,za8] at h')<;>try (exfalso; omega)) | (have q':=trivial; first | refine callX_new (c1) rfl (by decide) ?_ | refine callY_new (c1) rfl ?_ | refine callX_shared (c2) rfl (by decide) ?_ | refine callY_shared (c2) rfl ?_ | refine callX_shared (c3) rfl (by decide) ?_ | refine callY_shared (c3) rfl ?_ | refine callX_shared (c4) rfl (by decide) ?_ | refine callY_shared (c4) rfl ?_ | refine callX_shared (c5) rfl (by decide) ?_ | refine callY_shared (c5) rfl ?_ | refine hE _ _ ret_ne ?_ | refine hE _ _ exit_ne ?_))<;>(try simp (disch:=first | omega | decide +kernel) only [q',hn1,hn2,go_sem,Qa,Qb,Qc,Qd,Qe,↓reduceIte,reduceCtorEq,Qf,Qg,Qh])<;>clear q') | refine hN _ ?_ ?_ Wk.kk | with_reducible refine And.intro ?_ ?_ | with_reducible omega | exact ok_ints | exact cells_ints | exact no_mem | with_reducible exact plain_ints | (refine le_maxLen ?_; omega) | (refine za9 ⟨?_,?_⟩) | (simp only [go_sem,Qc,Qb,zb1,zb2,forall_eq]; done)))
       all_goals (first | omega | assumption | rfl | exact ret_s2 [] rfl rfl | exact absurd trivial ‹¬True›)
     | false =>
       rw [hf] at c4
       rw [if_neg (by simp)]
       show Ctr _ _ _ _ (.tup [.d (.slice (mt a1 b1 b).1.L),.d (.bool false)]) _
       clear c5
       generalize (mt a1 b1 b).1.L=L' at *
       generalize (Fm.jn o b1 b2).T=u at *
       generalize (Fm.jn o a1 a2).T=t at *
       generalize a1.T=t1 at *
       generalize a2.T=t2 at *
       generalize b1.T=u1 at *
       generalize b2.T=u2 at *
       generalize b.L=L at *
       refine Ctr.of (n:=84) (rs:=[.tmp 6,.tmp 7]) Tryd.func100 rfl rfl Tryd.ntmps100 rfl rfl (by kernel_rfl) Tryd.checked.mixed ?_
       simp (disch:=first | omega | decide +kernel) only [hn1,hn2,go_sem,Qa,Qb,Qc,Qd,Qe,↓reduceIte,reduceCtorEq,Qf,Qg,Qh]
       (repeat' (first | ((first | (refine gsel_split (fun q' => ?_) (fun q' => ?_)<;>(have h':=q')<;>(try simp only [za1,za2,Ba,Bb,za3,ne_eq,za4,za5,za6,Ia,Ib,Ic,Ie,Da,Bc,Bh,Be,za7,za8] at h')<;>try (exfalso; omega)) | (have q':=trivial; first | refine callX_new (c1) rfl (by decide) ?_ | refine callY_new (c1) rfl ?_ | refine callX_shared (c2) rfl (by decide) ?_ | refine callY_shared (c2) rfl ?_ | refine callX_shared (c3) rfl (by decide) ?_ | refine callY_shared (c3) rfl ?_ | refine callX_shared (c4) rfl (by decide) ?_ | refine callY_shared (c4) rfl ?_ | refine hE _ _ ret_ne ?_ | refine hE _ _ exit_ne ?_))<;>(try simp (disch:=first | omega | decide +kernel) only [q',hn1,hn2,go_sem,Qa,Qb,Qc,Qd,Qe,↓reduceIte,reduceCtorEq,Qf,Qg,Qh])<;>clear q') | refine hN _ ?_ ?_ Wk.kk | with_reducible refine And.intro ?_ ?_ | with_reducible omega | exact ok_ints | exact cells_ints | exact no_mem | with_reducible exact plain_ints | (refine le_maxLen ?_; omega) | (refine za9 ⟨?_,?_⟩) | (simp only [go_sem,Qc,Qb,zb1,zb2,forall_eq]; done)))
       all_goals (first | omega | assumption | rfl | exact ret_s2 [] rfl rfl | exact absurd trivial ‹¬True›)
   . have hm : mt (.jn o a1 a2) y b=(b,false):=by
      cases y with
      | lf d => rfl
      | ng a' => rfl
      | jn o' p q => rw [mt,if_neg (fun e => hop e.symm)]
     have hop' : ¬ (o.toNat : Int)=(y.op.toNat : Int):=fun e => hop (toN_eq.1 e).symm
     rw [hm]
     show Ctr _ _ _ _ (.tup [.d (.slice b.L),.d (.bool false)]) _
     clear ih1 ih2
     generalize y.p1=q1 at *
     generalize y.p2=q2 at *
     generalize y.T=u at *
     generalize y.op=po at *
     generalize (Fm.jn o a1 a2).T=t at *
     generalize a1.T=t1 at *
     generalize a2.T=t2 at *
     generalize b.L=L at *
     refine Ctr.of (n:=84) (rs:=[.tmp 6,.tmp 7]) Tryd.func100 rfl rfl Tryd.ntmps100 rfl rfl (by kernel_rfl) Tryd.checked.mixed ?_
     simp (disch:=first | omega | decide +kernel) only [hop',go_sem,Qa,Qb,Qc,Qd,Qe,↓reduceIte,reduceCtorEq,Qf,Qg,Qh]
     (repeat' (first | ((first | (refine gsel_split (fun q' => ?_) (fun q' => ?_)<;>(have h':=q')<;>(try simp only [za1,za2,Ba,Bb,za3,ne_eq,za4,za5,za6,Ia,Ib,Ic,Ie,Da,Bc,Bh,Be,za7,za8] at h')<;>try (exfalso; omega)) | (have q':=trivial; first | refine callX_new (c1) rfl (by decide) ?_ | refine callY_new (c1) rfl ?_ | refine callX_shared (c2) rfl (by decide) ?_ | refine callY_shared (c2) rfl ?_ | refine callX_shared (c3) rfl (by decide) ?_ | refine callY_shared (c3) rfl ?_ | refine hE _ _ ret_ne ?_ | refine hE _ _ exit_ne ?_))<;>(try simp (disch:=first | omega | decide +kernel) only [q',hop',go_sem,Qa,Qb,Qc,Qd,Qe,↓reduceIte,reduceCtorEq,Qf,Qg,Qh])<;>clear q') | refine hN _ ?_ ?_ Wk.kk | with_reducible refine And.intro ?_ ?_ | with_reducible omega | exact ok_ints | exact cells_ints | exact no_mem | with_reducible exact plain_ints | (refine le_maxLen ?_; omega) | (refine za9 ⟨?_,?_⟩) | (simp only [go_sem,Qc,Qb,zb1,zb2,forall_eq]; done)))
     all_goals (first | omega | assumption | rfl | exact ret_s2 [] rfl rfl | exact absurd trivial ‹¬True›)
end Abs.Y
