/- What functions of this program compute, over plain data. No condition. -/
import Derived.Test.YtiafnejjhnjbfaaDoorFO8
import Derived.Test.YtiafnejjhnjbfaaDoorFS5
import Derived.Test.YtiafnejjhnjbfaaDoorAbsLoopO
import Derived.Test.YtiafnejjhnjbfaaDoorBX
set_option linter.all false
open Nat renaming reduceEqDiff -> Qa, reduceLT -> Qb, reduceAdd -> Qc, reduceMul -> Qd, reduceSub -> Qe, reduceLeDiff -> Qf, reduceSubDiff -> Qg, reduceBEq -> Qh
open Bool renaming not_eq_true' -> Ba, not_eq_false' -> Bb, and_eq_true -> Bc, or_eq_true -> Bh, or_eq_false_iff -> Be
open Int renaming ofNat_lt -> Ia, ofNat_le -> Ib, not_lt -> Ic, not_le -> Ie
open Decidable renaming not_not -> Da
namespace Abs
open Go Go.Proofs
theorem retM_d1 {P : Program} {t : Nat} {st : St} {x : D} {u : Nat->Value} {ob : AO} (h : lk t st.s=some (.d x)) (ho : lk 0 st.o=some ob) (hk : lk 1000000000 st.s=some (.hdr 0 (u 0))) (hr : ob.ren (fun j => j)=ob) :
 retM P [.tmp t] u [0] true (.d x) [(0,ob)] .ret st:=by
 simp only [retM,resV,h]
 exact ⟨trivial,⟨fun j => j,rfl,by simpa [hr] using ho,by simp,⟨rfl,hk,trivial⟩⟩,.inl trivial⟩
theorem ok_ptr (x : D) : D.ok 1 (.ptr x):=⟨rfl,fun c hc => by rw [show (D.ptr x).cells=[D.ptr x] from rfl,List.mem_singleton] at hc; subst hc; rfl⟩
end Abs
namespace Abs.Y
open Go Go.Proofs Abs
set_option maxRecDepth 100000

def By.pt (b : By) (c : UInt8) : D:=match b c with
 | none => .nilptr
 | some y => fmD y
def By.P (b : By) : List D:=[b.pt 97,b.pt 98,b.pt 99]
def Fm.lD : Fm->D
 | .lf _ => .nilptr
 | .ng a => fmD a
 | .jn _ a _ => fmD a
def Fm.rD : Fm->D
 | .lf _ => .nilptr
 | .ng _ => .nilptr
 | .jn _ _ b => fmD b
theorem fmD_eq (y : Fm) : fmD y=.ptr (.agg [.int .u8 y.op.toNat,y.lD,y.rD,.str y.T]):=by cases y<;>rfl
theorem pt_set {b : By} {c : UInt8} {y : Fm} (h : c=97∨c=98∨c=99) : (b.set c y).P=b.P.set (c.toNat - 97) (fmD y):=by
 rcases h with rfl | rfl | rfl<;>rfl
theorem pt_get {b : By} {c : UInt8} (h : c=97∨c=98∨c=99) : el b.P (c.toNat - 97)=b.pt c:=by
 rcases h with rfl | rfl | rfl<;>rfl
set_option maxHeartbeats 16000000 in
theorem fits_ok : ∀ (x y : Fm) (b : By),x.wf=true->x.abc=true->y.wf=true->(∀ c z,b c=some z->z.wf=true) ->
 CtrM Tryd.prog 95 [.d (fmD x),.d (fmD y),.p 0 0] [(0,.arv 116 1 b.P)] [0] true (.d (.bool (mt x y b).2)) [(0,.arv 116 1 (mt x y b).1.P)]
 | .lf c, y, b, hx, ha, hy, hb => by
   have c1:=isLetter_ok c
   have hbl : b.P.length=3:=rfl
   have hf : fmD (.lf c)=.ptr (.agg [.int .u8 c.toNat,.nilptr,.nilptr,.str (Fm.lf c).T]):=rfl
   have hyD:=fmD_eq y
   rw [mt]
   cases hL : isLet c with
   | true =>
     rw [hL] at c1
     rw [if_pos rfl]
     have h3:=abc_let ha hL
     have hc97 : 97<=c.toNat∧c.toNat<=99:=by rcases h3 with rfl | rfl | rfl<;>decide
     have hi : IntKind.u8.wrap ((c.toNat : Int) - 97)=((c.toNat - 97 : Nat) : Int):=by
      rcases h3 with rfl | rfl | rfl<;>decide
     have hg:=pt_get (b:=b) h3
     have hs:=pt_set (b:=b) (y:=y) h3
     have hi3 : c.toNat - 97 < 3:=by omega
     rw [hf]
     cases hc : b c with
     | none =>
       have hst : b.pt c=.nilptr:=by rw [By.pt,hc]
       rw [hst] at hg
       show CtrM _ _ _ _ _ _ (.d (.bool true)) [(0,.arv 116 1 (b.set c y).P)]
       rw [hs]
       rw [hyD]
       generalize b.P=L at *
       generalize (Fm.lf c).T=t at *
       generalize y.T=u at *
       generalize y.lD=yl at *
       generalize y.rD=yr at *
       generalize y.op.toNat=yo at *
       generalize c.toNat - 97=i at *
       have hgs : el (L.set i (.ptr (.agg [.int .u8 (yo : Nat),yl,yr,.str u]))) i=.ptr (.agg [.int .u8 (yo : Nat),yl,yr,.str u]):=by
        unfold el
        rw [List.getD_eq_getElem?_getD,List.getElem?_set_self (by omega)]; rfl
       refine CtrM.of (n:=94) (rs:=[.tmp 6]) Tryd.func95 rfl rfl Tryd.ntmps95 rfl rfl (by kernel_rfl) Tryd.checked.mixed ?_; intro u
       simp (disch:=first | omega | decide +kernel) only [hi,hg,hgs,hbl,beq_self_eq_true,List.length_set,Int.toNat_natCast,go_sem,Qa,Qb,Qc,Qd,Qe,↓reduceIte,reduceCtorEq,Qf,Qg,Qh]
       (repeat' (first | ((first | (refine gsel_split (fun q' => ?_) (fun q' => ?_)<;>(have h':=q')<;>(try simp only [za1,za2,Ba,Bb,za3,ne_eq,za4,za5,za6,Ia,Ib,Ic,Ie,Da,Bc,Bh,Be,za7,za8] at h')<;>try (exfalso; omega)) | (have q':=trivial; first | refine callX_new (c1) rfl (by decide) ?_ | refine callY_new (c1) rfl ?_ | refine hE _ _ ret_ne ?_ | refine hE _ _ exit_ne ?_))<;>(try simp (disch:=first | omega | decide +kernel) only [q',hi,hg,hgs,hbl,beq_self_eq_true,List.length_set,Int.toNat_natCast,go_sem,Qa,Qb,Qc,Qd,Qe,↓reduceIte,reduceCtorEq,Qf,Qg,Qh])<;>clear q') | refine hN _ ?_ ?_ Wk.kk | with_reducible refine And.intro ?_ ?_ | with_reducible omega | exact ok_ints | exact cells_ints | exact no_mem | with_reducible exact plain_ints | (refine le_maxLen ?_; omega) | (refine za9 ⟨?_,?_⟩) | (simp only [go_sem,Qc,Qb,zb1,zb2,forall_eq]; done)))
       all_goals (first | omega | assumption | exact isp | rfl | exact ok_ptr _ | exact retM_d1 rfl rfl rfl rfl | exact absurd trivial ‹¬True›)
     | some o =>
       have hst : b.pt c=fmD o:=by rw [By.pt,hc]
       rw [hst,fmD_eq] at hg
       have hoy:=T_inj (hb _ _ hc) hy
       show CtrM _ _ _ _ _ _ (.d (.bool (decide (o=y)))) [(0,.arv 116 1 b.P)]
       rw [← hoy]
       clear hoy hs
       rw [hyD]
       generalize b.P=L at *
       generalize (Fm.lf c).T=t at *
       generalize y.T=u at *
       generalize y.lD=yl at *
       generalize y.rD=yr at *
       generalize y.op.toNat=yo at *
       generalize o.T=ov at *
       generalize o.lD=ol at *
       generalize o.rD=orr at *
       generalize o.op.toNat=oo at *
       generalize c.toNat - 97=i at *
       refine CtrM.of (n:=94) (rs:=[.tmp 6]) Tryd.func95 rfl rfl Tryd.ntmps95 rfl rfl (by kernel_rfl) Tryd.checked.mixed ?_; intro u
       simp (disch:=first | omega | decide +kernel) only [hi,hg,hbl,Int.toNat_natCast,go_sem,Qa,Qb,Qc,Qd,Qe,↓reduceIte,reduceCtorEq,Qf,Qg,Qh]
       (repeat' (first | ((first | (refine gsel_split (fun q' => ?_) (fun q' => ?_)<;>(have h':=q')<;>(try simp only [za1,za2,Ba,Bb,za3,ne_eq,za4,za5,za6,Ia,Ib,Ic,Ie,Da,Bc,Bh,Be,za7,za8] at h')<;>try (exfalso; omega)) | (have q':=trivial; first | refine callX_new (c1) rfl (by decide) ?_ | refine callY_new (c1) rfl ?_ | refine hE _ _ ret_ne ?_ | refine hE _ _ exit_ne ?_))<;>(try simp (disch:=first | omega | decide +kernel) only [q',hi,hg,hbl,Int.toNat_natCast,go_sem,Qa,Qb,Qc,Qd,Qe,↓reduceIte,reduceCtorEq,Qf,Qg,Qh])<;>clear q') | refine hN _ ?_ ?_ Wk.kk | with_reducible refine And.intro ?_ ?_ | with_reducible omega | exact ok_ints | exact cells_ints | exact no_mem | with_reducible exact plain_ints | (refine le_maxLen ?_; omega) | (refine za9 ⟨?_,?_⟩) | (simp only [go_sem,Qc,Qb,zb1,zb2,forall_eq]; done)))
       all_goals (first | omega | assumption | exact isp | rfl | exact ok_ptr _ | exact retM_d1 rfl rfl rfl rfl | exact absurd trivial ‹¬True›)
   | false =>
     rw [hL] at c1
     rw [if_neg (by simp)]
     show CtrM _ _ _ _ _ _ (.d (.bool (decide (y=.lf c)))) [(0,.arv 116 1 b.P)]
     rw [hf,hyD]
     by_cases hop : y.op=c
     . have hyc:=op_lf hx hy hop
       rw [decide_eq_true hyc,hop]
       clear hyc
       generalize y.T=ut at *
       generalize y.lD=yl at *
       generalize y.rD=yr at *
       generalize (Fm.lf c).T=t at *
       generalize b.P=L at *
       refine CtrM.of (n:=94) (rs:=[.tmp 6]) Tryd.func95 rfl rfl Tryd.ntmps95 rfl rfl (by kernel_rfl) Tryd.checked.mixed ?_; intro u
       simp (disch:=first | omega | decide +kernel) only [go_sem,Qa,Qb,Qc,Qd,Qe,↓reduceIte,reduceCtorEq,Qf,Qg,Qh]
       (repeat' (first | ((first | (refine gsel_split (fun q' => ?_) (fun q' => ?_)<;>(have h':=q')<;>(try simp only [za1,za2,Ba,Bb,za3,ne_eq,za4,za5,za6,Ia,Ib,Ic,Ie,Da,Bc,Bh,Be,za7,za8] at h')<;>try (exfalso; omega)) | (have q':=trivial; first | refine callX_new (c1) rfl (by decide) ?_ | refine callY_new (c1) rfl ?_ | refine hE _ _ ret_ne ?_ | refine hE _ _ exit_ne ?_))<;>(try simp (disch:=first | omega | decide +kernel) only [q',go_sem,Qa,Qb,Qc,Qd,Qe,↓reduceIte,reduceCtorEq,Qf,Qg,Qh])<;>clear q') | refine hN _ ?_ ?_ Wk.kk | with_reducible refine And.intro ?_ ?_ | with_reducible omega | exact ok_ints | exact cells_ints | exact no_mem | with_reducible exact plain_ints | (refine le_maxLen ?_; omega) | (refine za9 ⟨?_,?_⟩) | (simp only [go_sem,Qc,Qb,zb1,zb2,forall_eq]; done)))
       all_goals (first | omega | assumption | exact isp | rfl | exact ok_ptr _ | exact retM_d1 rfl rfl rfl rfl | exact absurd trivial ‹¬True›)
     . have hyc : y ≠ .lf c:=fun e => hop (by rw [e]; rfl)
       have hop' : ¬ (c.toNat : Int)=(y.op.toNat : Int):=fun e => hop (toN_eq.1 e).symm
       rw [decide_eq_false hyc]
       generalize y.T=ut at *
       generalize y.lD=yl at *
       generalize y.rD=yr at *
       generalize y.op=po at *
       generalize (Fm.lf c).T=t at *
       generalize b.P=L at *
       refine CtrM.of (n:=94) (rs:=[.tmp 6]) Tryd.func95 rfl rfl Tryd.ntmps95 rfl rfl (by kernel_rfl) Tryd.checked.mixed ?_; intro u
       simp (disch:=first | omega | decide +kernel) only [hop',go_sem,Qa,Qb,Qc,Qd,Qe,↓reduceIte,reduceCtorEq,Qf,Qg,Qh]
       (repeat' (first | ((first | (refine gsel_split (fun q' => ?_) (fun q' => ?_)<;>(have h':=q')<;>(try simp only [za1,za2,Ba,Bb,za3,ne_eq,za4,za5,za6,Ia,Ib,Ic,Ie,Da,Bc,Bh,Be,za7,za8] at h')<;>try (exfalso; omega)) | (have q':=trivial; first | refine callX_new (c1) rfl (by decide) ?_ | refine callY_new (c1) rfl ?_ | refine hE _ _ ret_ne ?_ | refine hE _ _ exit_ne ?_))<;>(try simp (disch:=first | omega | decide +kernel) only [q',hop',go_sem,Qa,Qb,Qc,Qd,Qe,↓reduceIte,reduceCtorEq,Qf,Qg,Qh])<;>clear q') | refine hN _ ?_ ?_ Wk.kk | with_reducible refine And.intro ?_ ?_ | with_reducible omega | exact ok_ints | exact cells_ints | exact no_mem | with_reducible exact plain_ints | (refine le_maxLen ?_; omega) | (refine za9 ⟨?_,?_⟩) | (simp only [go_sem,Qc,Qb,zb1,zb2,forall_eq]; done)))
       all_goals (first | omega | assumption | exact isp | rfl | exact ok_ptr _ | exact retM_d1 rfl rfl rfl rfl | exact absurd trivial ‹¬True›)
 | .ng a, y, b, hx, ha, hy, hb => by
   have c1:=isLetter_ok 126
   rw [show isLet 126=false from rfl,show ((126 : UInt8).toNat : Int)=126 from rfl] at c1
   have hf : fmD (.ng a)=.ptr (.agg [.int .u8 126,fmD a,.nilptr,.str (Fm.ng a).T]):=rfl
   have n1:=fmD_na a
   have n2:=fmD_nc a
   have ih:=fun a' => fits_ok a a' b hx ha
   rw [hf]
   by_cases hop : y.op=126
   . obtain ⟨a',rfl⟩:=op_ng hy hop
     have c4:=ih a' hy hb
     clear ih
     rw [mt]
     have hf' : fmD (.ng a')=.ptr (.agg [.int .u8 126,fmD a',.nilptr,.str (Fm.ng a').T]):=rfl
     rw [hf']
     have m1:=fmD_na a'
     have m2:=fmD_nc a'
     generalize (mt a a' b).1.P=L' at *
     generalize (mt a a' b).2=fl at *
     generalize (Fm.ng a').T=ut at *
     generalize (Fm.ng a).T=t at *
     generalize fmD a'=xa' at *
     rw [fmD_eq a] at c4 n1 n2 ⊢
     generalize a.T=at_ at *
     generalize a.lD=al at *
     generalize a.rD=ar at *
     generalize a.op.toNat=ao at *
     generalize b.P=L at *
     refine CtrR.eq ?_
     refine CtrR.ofO (n:=94) (rs:=[.tmp 6]) Tryd.func95 rfl rfl Tryd.ntmps95 rfl rfl (by kernel_rfl) Tryd.checked.mixed ?_; intro u
     refine Ok.seq (Ok.go ?_)
     simp (disch:=first | omega | decide +kernel) only [go_sem,Qa,Qb,Qc,Qd,Qe,↓reduceIte,reduceCtorEq,Qf,Qg,Qh]
     (repeat' (first | ((first | (refine gsel_split (fun q' => ?_) (fun q' => ?_)<;>(have h':=q')<;>(try simp only [za1,za2,Ba,Bb,za3,ne_eq,za4,za5,za6,Ia,Ib,Ic,Ie,Da,Bc,Bh,Be,za7,za8] at h')<;>try (exfalso; omega)) | (have q':=trivial; first | refine hE _ _ ret_ne ?_ | refine hE _ _ exit_ne ?_))<;>(try simp (disch:=first | omega | decide +kernel) only [q',go_sem,Qa,Qb,Qc,Qd,Qe,↓reduceIte,reduceCtorEq,Qf,Qg,Qh])<;>clear q') | refine hN _ ?_ ?_ Wk.kk | with_reducible refine And.intro ?_ ?_ | with_reducible omega | exact ok_ints | exact cells_ints | exact no_mem | with_reducible exact plain_ints | (refine le_maxLen ?_; omega) | (refine za9 ⟨?_,?_⟩) | (simp only [go_sem,Qc,Qb,zb1,zb2,forall_eq]; done)))
     refine Ok.seq (Ok.block ?_)
     refine Ok.seq (Ok.go ?_)
     simp (disch:=first | omega | decide +kernel) only [go_sem,Qa,Qb,Qc,Qd,Qe,↓reduceIte,reduceCtorEq,Qf,Qg,Qh]
     (repeat' (first | ((first | (refine gsel_split (fun q' => ?_) (fun q' => ?_)<;>(have h':=q')<;>(try simp only [za1,za2,Ba,Bb,za3,ne_eq,za4,za5,za6,Ia,Ib,Ic,Ie,Da,Bc,Bh,Be,za7,za8] at h')<;>try (exfalso; omega)) | (have q':=trivial; first | refine callX_new (c1) rfl (by decide) ?_ | refine callY_new (c1) rfl ?_ | refine hE _ _ ret_ne ?_ | refine hE _ _ exit_ne ?_))<;>(try simp (disch:=first | omega | decide +kernel) only [q',go_sem,Qa,Qb,Qc,Qd,Qe,↓reduceIte,reduceCtorEq,Qf,Qg,Qh])<;>clear q') | refine hN _ ?_ ?_ Wk.kk | with_reducible refine And.intro ?_ ?_ | with_reducible omega | exact ok_ints | exact cells_ints | exact no_mem | with_reducible exact plain_ints | (refine le_maxLen ?_; omega) | (refine za9 ⟨?_,?_⟩) | (simp only [go_sem,Qc,Qb,zb1,zb2,forall_eq]; done)))
     refine Ok.cond false rfl (fun h => nomatch h) (fun _ => ?_)
     refine Ok.seq (Ok.go ?_)
     simp (disch:=first | omega | decide +kernel) only [go_sem,Qa,Qb,Qc,Qd,Qe,↓reduceIte,reduceCtorEq,Qf,Qg,Qh]
     (repeat' (first | ((first | (refine gsel_split (fun q' => ?_) (fun q' => ?_)<;>(have h':=q')<;>(try simp only [za1,za2,Ba,Bb,za3,ne_eq,za4,za5,za6,Ia,Ib,Ic,Ie,Da,Bc,Bh,Be,za7,za8] at h')<;>try (exfalso; omega)) | (have q':=trivial; first | refine hE _ _ ret_ne ?_ | refine hE _ _ exit_ne ?_))<;>(try simp (disch:=first | omega | decide +kernel) only [q',go_sem,Qa,Qb,Qc,Qd,Qe,↓reduceIte,reduceCtorEq,Qf,Qg,Qh])<;>clear q') | refine hN _ ?_ ?_ Wk.kk | with_reducible refine And.intro ?_ ?_ | with_reducible omega | exact ok_ints | exact cells_ints | exact no_mem | with_reducible exact plain_ints | (refine le_maxLen ?_; omega) | (refine za9 ⟨?_,?_⟩) | (simp only [go_sem,Qc,Qb,zb1,zb2,forall_eq]; done)))
     refine Ok.cond false rfl (fun h => nomatch h) (fun _ => ?_)
     refine Ok.seq (Ok.go ?_)
     simp (disch:=first | omega | decide +kernel) only [go_sem,Qa,Qb,Qc,Qd,Qe,↓reduceIte,reduceCtorEq,Qf,Qg,Qh]
     (repeat' (first | ((first | (refine gsel_split (fun q' => ?_) (fun q' => ?_)<;>(have h':=q')<;>(try simp only [za1,za2,Ba,Bb,za3,ne_eq,za4,za5,za6,Ia,Ib,Ic,Ie,Da,Bc,Bh,Be,za7,za8] at h')<;>try (exfalso; omega)) | (have q':=trivial; first | refine hE _ _ ret_ne ?_ | refine hE _ _ exit_ne ?_))<;>(try simp (disch:=first | omega | decide +kernel) only [q',go_sem,Qa,Qb,Qc,Qd,Qe,↓reduceIte,reduceCtorEq,Qf,Qg,Qh])<;>clear q') | refine hN _ ?_ ?_ Wk.kk | with_reducible refine And.intro ?_ ?_ | with_reducible omega | exact ok_ints | exact cells_ints | exact no_mem | with_reducible exact plain_ints | (refine le_maxLen ?_; omega) | (refine za9 ⟨?_,?_⟩) | (simp only [go_sem,Qc,Qb,zb1,zb2,forall_eq]; done)))
     all_goals (first | exact isp | assumption | omega | rfl | exact absurd trivial ‹¬True› | skip)
     refine Ok.cond false rfl (fun h => nomatch h) (fun _ => ?_)
     refine Ok.seq (Ok.go ?_)
     simp (disch:=first | omega | decide +kernel) only [go_sem,Qa,Qb,Qc,Qd,Qe,↓reduceIte,reduceCtorEq,Qf,Qg,Qh]
     (repeat' (first | ((first | (refine gsel_split (fun q' => ?_) (fun q' => ?_)<;>(have h':=q')<;>(try simp only [za1,za2,Ba,Bb,za3,ne_eq,za4,za5,za6,Ia,Ib,Ic,Ie,Da,Bc,Bh,Be,za7,za8] at h')<;>try (exfalso; omega)) | (have q':=trivial; first | refine hE _ _ ret_ne ?_ | refine hE _ _ exit_ne ?_))<;>(try simp (disch:=first | omega | decide +kernel) only [q',go_sem,Qa,Qb,Qc,Qd,Qe,↓reduceIte,reduceCtorEq,Qf,Qg,Qh])<;>clear q') | refine hN _ ?_ ?_ Wk.kk | with_reducible refine And.intro ?_ ?_ | with_reducible omega | exact ok_ints | exact cells_ints | exact no_mem | with_reducible exact plain_ints | (refine le_maxLen ?_; omega) | (refine za9 ⟨?_,?_⟩) | (simp only [go_sem,Qc,Qb,zb1,zb2,forall_eq]; done)))
     all_goals (first | exact isp | assumption | omega | rfl | exact absurd trivial ‹¬True› | skip)
     refine Ok.cond true rfl (fun _ => ?_) (fun h => nomatch h)
     refine Ok.seq (Ok.reg9 [true,true,true,true,true,true,true,true,true,false,true] (by decide +kernel) ?_)
     simp (disch:=first | omega | decide +kernel) only [go_sem,Qa,Qb,Qc,Qd,Qe,↓reduceIte,reduceCtorEq,Qf,Qg,Qh]
     (repeat' (first | ((first | (refine gsel_split (fun q' => ?_) (fun q' => ?_)<;>(have h':=q')<;>(try simp only [za1,za2,Ba,Bb,za3,ne_eq,za4,za5,za6,Ia,Ib,Ic,Ie,Da,Bc,Bh,Be,za7,za8] at h')<;>try (exfalso; omega)) | (have q':=trivial; first | refine callX_mut [0] [0] [] (c4) ⟨.inl rfl,.inl rfl,.inl rfl,trivial⟩ ⟨rfl,trivial⟩ rfl (by simp [dstB]) ?_ | refine hE _ _ ret_ne ?_ | refine hE _ _ exit_ne ?_))<;>(try simp (disch:=first | omega | decide +kernel) only [q',go_sem,Qa,Qb,Qc,Qd,Qe,↓reduceIte,reduceCtorEq,Qf,Qg,Qh])<;>clear q') | refine hN _ ?_ ?_ Wk.kk | with_reducible refine And.intro ?_ ?_ | with_reducible omega | exact ok_ints | exact cells_ints | exact no_mem | with_reducible exact plain_ints | (refine le_maxLen ?_; omega) | (refine za9 ⟨?_,?_⟩) | (simp only [go_sem,Qc,Qb,zb1,zb2,forall_eq]; done)))
     all_goals (first | exact isp | assumption | omega | rfl | exact absurd trivial ‹¬True› | skip)
     refine Ok.go ?_
     simp (disch:=first | omega | decide +kernel) only [go_sem,Qa,Qb,Qc,Qd,Qe,↓reduceIte,reduceCtorEq,Qf,Qg,Qh]
     (repeat' (first | ((first | (refine gsel_split (fun q' => ?_) (fun q' => ?_)<;>(have h':=q')<;>(try simp only [za1,za2,Ba,Bb,za3,ne_eq,za4,za5,za6,Ia,Ib,Ic,Ie,Da,Bc,Bh,Be,za7,za8] at h')<;>try (exfalso; omega)) | (have q':=trivial; first | refine hE _ _ ret_ne ?_ | refine hE _ _ exit_ne ?_))<;>(try simp (disch:=first | omega | decide +kernel) only [q',go_sem,Qa,Qb,Qc,Qd,Qe,↓reduceIte,reduceCtorEq,Qf,Qg,Qh])<;>clear q') | refine hN _ ?_ ?_ Wk.kk | with_reducible refine And.intro ?_ ?_ | with_reducible omega | exact ok_ints | exact cells_ints | exact no_mem | with_reducible exact plain_ints | (refine le_maxLen ?_; omega) | (refine za9 ⟨?_,?_⟩) | (simp only [go_sem,Qc,Qb,zb1,zb2,forall_eq]; done)))
     all_goals (first | omega | assumption | exact isp | rfl | exact ⟨_,_,⟨rfl,rfl⟩,retM_d1 rfl rfl rfl rfl⟩ | exact absurd trivial ‹¬True›)
   . have hm : mt (.ng a) y b=(b,false):=by
      cases y with
      | lf d => rfl
      | ng a' => exact absurd rfl hop
      | jn o p q => rfl
     have hop' : ¬ 126=(y.op.toNat : Int):=fun e => hop (toN_eq.1 (by rw [← e]; rfl))
     rw [hm,fmD_eq y]
     show CtrM _ _ _ _ _ _ (.d (.bool false)) [(0,.arv 116 1 b.P)]
     clear ih
     generalize y.T=ut at *
     generalize y.lD=yl at *
     generalize y.rD=yr at *
     generalize y.op=po at *
     generalize (Fm.ng a).T=t at *
     generalize fmD a=xa at *
     generalize b.P=L at *
     refine CtrM.of (n:=94) (rs:=[.tmp 6]) Tryd.func95 rfl rfl Tryd.ntmps95 rfl rfl (by kernel_rfl) Tryd.checked.mixed ?_; intro u
     simp (disch:=first | omega | decide +kernel) only [hop',go_sem,Qa,Qb,Qc,Qd,Qe,↓reduceIte,reduceCtorEq,Qf,Qg,Qh]
     (repeat' (first | ((first | (refine gsel_split (fun q' => ?_) (fun q' => ?_)<;>(have h':=q')<;>(try simp only [za1,za2,Ba,Bb,za3,ne_eq,za4,za5,za6,Ia,Ib,Ic,Ie,Da,Bc,Bh,Be,za7,za8] at h')<;>try (exfalso; omega)) | (have q':=trivial; first | refine callX_new (c1) rfl (by decide) ?_ | refine callY_new (c1) rfl ?_ | refine hE _ _ ret_ne ?_ | refine hE _ _ exit_ne ?_))<;>(try simp (disch:=first | omega | decide +kernel) only [q',hop',go_sem,Qa,Qb,Qc,Qd,Qe,↓reduceIte,reduceCtorEq,Qf,Qg,Qh])<;>clear q') | refine hN _ ?_ ?_ Wk.kk | with_reducible refine And.intro ?_ ?_ | with_reducible omega | exact ok_ints | exact cells_ints | exact no_mem | with_reducible exact plain_ints | (refine le_maxLen ?_; omega) | (refine za9 ⟨?_,?_⟩) | (simp only [go_sem,Qc,Qb,zb1,zb2,forall_eq]; done)))
     all_goals (first | omega | assumption | exact isp | rfl | exact ok_ptr _ | exact retM_d1 rfl rfl rfl rfl | exact absurd trivial ‹¬True›)
 | .jn o a1 a2, y, b, hx, ha, hy, hb => by
   have c1:=isLetter_ok o
   have hx' : (isOp o && a1.wf && a2.wf)=true:=hx
   have ha' : (a1.abc && a2.abc)=true:=ha
   simp only [Bc] at hx' ha'
   have hl : isLet o=false:=by
    have:=of_decide_eq_true hx'.1.1
    rcases this with h | h | h<;>subst h<;>rfl
   rw [hl] at c1
   have hf : fmD (.jn o a1 a2)=.ptr (.agg [.int .u8 o.toNat,fmD a1,fmD a2,.str (Fm.jn o a1 a2).T]):=rfl
   have n1:=fmD_na a1
   have n2:=fmD_nc a1
   have n3:=fmD_na a2
   have n4:=fmD_nc a2
   have ih1:=fun a' => fits_ok a1 a' b hx'.1.2 ha'.1
   have ih2:=fun a' b' => fits_ok a2 a' b' hx'.2 ha'.2
   rw [hf]
   by_cases hop : y.op=o
   . obtain ⟨b1,b2,rfl⟩:=op_jn hx'.1.1 hy hop
     have hy' : (isOp o && b1.wf && b2.wf)=true:=hy
     simp only [Bc] at hy'
     have c4:=ih1 b1 hy'.1.2 hb
     have c5:=ih2 b2 (mt a1 b1 b).1 hy'.2 (mt_wf a1 b1 b hy'.1.2 hb)
     clear ih1 ih2
     rw [mt,if_pos rfl]
     have hf' : fmD (.jn o b1 b2)=.ptr (.agg [.int .u8 o.toNat,fmD b1,fmD b2,.str (Fm.jn o b1 b2).T]):=rfl
     rw [hf']
     have m1:=fmD_na b1
     have m2:=fmD_nc b1
     have m3:=fmD_na b2
     have m4:=fmD_nc b2
     generalize fmD b1=y1 at *
     generalize fmD b2=y2 at *
     generalize (Fm.jn o b1 b2).T=ut at *
     generalize (Fm.jn o a1 a2).T=t at *
     rw [fmD_eq a1] at c4 n1 n2 ⊢
     rw [fmD_eq a2] at c5 n3 n4 ⊢
     cases hfl : (mt a1 b1 b).2 with
     | true =>
       rw [hfl] at c4
       rw [if_pos rfl]
       generalize (mt a2 b2 (mt a1 b1 b).1).1.P=L'' at *
       generalize (mt a2 b2 (mt a1 b1 b).1).2=fl at *
       generalize (mt a1 b1 b).1.P=L' at *
       generalize b.P=L at *
       generalize a1.T=t1 at *
       generalize a1.lD=l1 at *
       generalize a1.rD=r1 at *
       generalize a1.op.toNat=o1 at *
       generalize a2.T=t2 at *
       generalize a2.lD=l2 at *
       generalize a2.rD=r2 at *
       generalize a2.op.toNat=o2 at *
       refine CtrR.eq ?_
       refine CtrR.ofO (n:=94) (rs:=[.tmp 6]) Tryd.func95 rfl rfl Tryd.ntmps95 rfl rfl (by kernel_rfl) Tryd.checked.mixed ?_; intro u
       refine Ok.seq (Ok.go ?_)
       simp (disch:=first | omega | decide +kernel) only [go_sem,Qa,Qb,Qc,Qd,Qe,↓reduceIte,reduceCtorEq,Qf,Qg,Qh]
       (repeat' (first | ((first | (refine gsel_split (fun q' => ?_) (fun q' => ?_)<;>(have h':=q')<;>(try simp only [za1,za2,Ba,Bb,za3,ne_eq,za4,za5,za6,Ia,Ib,Ic,Ie,Da,Bc,Bh,Be,za7,za8] at h')<;>try (exfalso; omega)) | (have q':=trivial; first | refine hE _ _ ret_ne ?_ | refine hE _ _ exit_ne ?_))<;>(try simp (disch:=first | omega | decide +kernel) only [q',go_sem,Qa,Qb,Qc,Qd,Qe,↓reduceIte,reduceCtorEq,Qf,Qg,Qh])<;>clear q') | refine hN _ ?_ ?_ Wk.kk | with_reducible refine And.intro ?_ ?_ | with_reducible omega | exact ok_ints | exact cells_ints | exact no_mem | with_reducible exact plain_ints | (refine le_maxLen ?_; omega) | (refine za9 ⟨?_,?_⟩) | (simp only [go_sem,Qc,Qb,zb1,zb2,forall_eq]; done)))
       refine Ok.seq (Ok.go ?_)
       simp (disch:=first | omega | decide +kernel) only [go_sem,Qa,Qb,Qc,Qd,Qe,↓reduceIte,reduceCtorEq,Qf,Qg,Qh]
       (repeat' (first | ((first | (refine gsel_split (fun q' => ?_) (fun q' => ?_)<;>(have h':=q')<;>(try simp only [za1,za2,Ba,Bb,za3,ne_eq,za4,za5,za6,Ia,Ib,Ic,Ie,Da,Bc,Bh,Be,za7,za8] at h')<;>try (exfalso; omega)) | (have q':=trivial; first | refine callX_new (c1) rfl (by decide) ?_ | refine callY_new (c1) rfl ?_ | refine hE _ _ ret_ne ?_ | refine hE _ _ exit_ne ?_))<;>(try simp (disch:=first | omega | decide +kernel) only [q',go_sem,Qa,Qb,Qc,Qd,Qe,↓reduceIte,reduceCtorEq,Qf,Qg,Qh])<;>clear q') | refine hN _ ?_ ?_ Wk.kk | with_reducible refine And.intro ?_ ?_ | with_reducible omega | exact ok_ints | exact cells_ints | exact no_mem | with_reducible exact plain_ints | (refine le_maxLen ?_; omega) | (refine za9 ⟨?_,?_⟩) | (simp only [go_sem,Qc,Qb,zb1,zb2,forall_eq]; done)))
       all_goals (first | exact isp | assumption | omega | rfl | exact absurd trivial ‹¬True› | skip)
       refine Ok.seq (Ok.reg9 [true,true,true,true,true,true,true,true,true,false,true,true,true,true,true,true,true,true,true,true,false,true,true] (by decide +kernel) ?_)
       simp (disch:=first | omega | decide +kernel) only [go_sem,Qa,Qb,Qc,Qd,Qe,↓reduceIte,reduceCtorEq,Qf,Qg,Qh]
       (repeat' (first | ((first | (refine gsel_split (fun q' => ?_) (fun q' => ?_)<;>(have h':=q')<;>(try simp only [za1,za2,Ba,Bb,za3,ne_eq,za4,za5,za6,Ia,Ib,Ic,Ie,Da,Bc,Bh,Be,za7,za8] at h')<;>try (exfalso; omega)) | (have q':=trivial; first | refine callX_mut [0] [0] [] (c4) ⟨.inl rfl,.inl rfl,.inl rfl,trivial⟩ ⟨rfl,trivial⟩ rfl (by simp [dstB]) ?_ | refine callX_mut [0] [0] [] (c5) ⟨.inl rfl,.inl rfl,.inl rfl,trivial⟩ ⟨rfl,trivial⟩ rfl (by simp [dstB]) ?_ | refine hE _ _ ret_ne ?_ | refine hE _ _ exit_ne ?_))<;>(try simp (disch:=first | omega | decide +kernel) only [q',go_sem,Qa,Qb,Qc,Qd,Qe,↓reduceIte,reduceCtorEq,Qf,Qg,Qh])<;>clear q') | refine hN _ ?_ ?_ Wk.kk | with_reducible refine And.intro ?_ ?_ | with_reducible omega | exact ok_ints | exact cells_ints | exact no_mem | with_reducible exact plain_ints | (refine le_maxLen ?_; omega) | (refine za9 ⟨?_,?_⟩) | (simp only [go_sem,Qc,Qb,zb1,zb2,forall_eq]; done)))
       all_goals (first | exact isp | assumption | omega | rfl | exact absurd trivial ‹¬True› | skip)
       refine Ok.go ?_
       simp (disch:=first | omega | decide +kernel) only [go_sem,Qa,Qb,Qc,Qd,Qe,↓reduceIte,reduceCtorEq,Qf,Qg,Qh]
       (repeat' (first | ((first | (refine gsel_split (fun q' => ?_) (fun q' => ?_)<;>(have h':=q')<;>(try simp only [za1,za2,Ba,Bb,za3,ne_eq,za4,za5,za6,Ia,Ib,Ic,Ie,Da,Bc,Bh,Be,za7,za8] at h')<;>try (exfalso; omega)) | (have q':=trivial; first | refine hE _ _ ret_ne ?_ | refine hE _ _ exit_ne ?_))<;>(try simp (disch:=first | omega | decide +kernel) only [q',go_sem,Qa,Qb,Qc,Qd,Qe,↓reduceIte,reduceCtorEq,Qf,Qg,Qh])<;>clear q') | refine hN _ ?_ ?_ Wk.kk | with_reducible refine And.intro ?_ ?_ | with_reducible omega | exact ok_ints | exact cells_ints | exact no_mem | with_reducible exact plain_ints | (refine le_maxLen ?_; omega) | (refine za9 ⟨?_,?_⟩) | (simp only [go_sem,Qc,Qb,zb1,zb2,forall_eq]; done)))
       all_goals (first | omega | assumption | exact isp | rfl | exact ⟨_,_,⟨rfl,rfl⟩,retM_d1 rfl rfl rfl rfl⟩ | exact absurd trivial ‹¬True›)
     | false =>
       rw [hfl] at c4
       rw [if_neg (by simp)]
       show CtrM _ _ _ _ _ _ (.d (.bool false)) [(0,.arv 116 1 (mt a1 b1 b).1.P)]
       clear c5
       generalize (mt a1 b1 b).1.P=L' at *
       generalize b.P=L at *
       generalize a1.T=t1 at *
       generalize a1.lD=l1 at *
       generalize a1.rD=r1 at *
       generalize a1.op.toNat=o1 at *
       generalize a2.T=t2 at *
       generalize a2.lD=l2 at *
       generalize a2.rD=r2 at *
       generalize a2.op.toNat=o2 at *
       refine CtrR.eq ?_
       refine CtrR.ofO (n:=94) (rs:=[.tmp 6]) Tryd.func95 rfl rfl Tryd.ntmps95 rfl rfl (by kernel_rfl) Tryd.checked.mixed ?_; intro u
       refine Ok.seq (Ok.go ?_)
       simp (disch:=first | omega | decide +kernel) only [go_sem,Qa,Qb,Qc,Qd,Qe,↓reduceIte,reduceCtorEq,Qf,Qg,Qh]
       (repeat' (first | ((first | (refine gsel_split (fun q' => ?_) (fun q' => ?_)<;>(have h':=q')<;>(try simp only [za1,za2,Ba,Bb,za3,ne_eq,za4,za5,za6,Ia,Ib,Ic,Ie,Da,Bc,Bh,Be,za7,za8] at h')<;>try (exfalso; omega)) | (have q':=trivial; first | refine hE _ _ ret_ne ?_ | refine hE _ _ exit_ne ?_))<;>(try simp (disch:=first | omega | decide +kernel) only [q',go_sem,Qa,Qb,Qc,Qd,Qe,↓reduceIte,reduceCtorEq,Qf,Qg,Qh])<;>clear q') | refine hN _ ?_ ?_ Wk.kk | with_reducible refine And.intro ?_ ?_ | with_reducible omega | exact ok_ints | exact cells_ints | exact no_mem | with_reducible exact plain_ints | (refine le_maxLen ?_; omega) | (refine za9 ⟨?_,?_⟩) | (simp only [go_sem,Qc,Qb,zb1,zb2,forall_eq]; done)))
       refine Ok.seq (Ok.go ?_)
       simp (disch:=first | omega | decide +kernel) only [go_sem,Qa,Qb,Qc,Qd,Qe,↓reduceIte,reduceCtorEq,Qf,Qg,Qh]
       (repeat' (first | ((first | (refine gsel_split (fun q' => ?_) (fun q' => ?_)<;>(have h':=q')<;>(try simp only [za1,za2,Ba,Bb,za3,ne_eq,za4,za5,za6,Ia,Ib,Ic,Ie,Da,Bc,Bh,Be,za7,za8] at h')<;>try (exfalso; omega)) | (have q':=trivial; first | refine callX_new (c1) rfl (by decide) ?_ | refine callY_new (c1) rfl ?_ | refine hE _ _ ret_ne ?_ | refine hE _ _ exit_ne ?_))<;>(try simp (disch:=first | omega | decide +kernel) only [q',go_sem,Qa,Qb,Qc,Qd,Qe,↓reduceIte,reduceCtorEq,Qf,Qg,Qh])<;>clear q') | refine hN _ ?_ ?_ Wk.kk | with_reducible refine And.intro ?_ ?_ | with_reducible omega | exact ok_ints | exact cells_ints | exact no_mem | with_reducible exact plain_ints | (refine le_maxLen ?_; omega) | (refine za9 ⟨?_,?_⟩) | (simp only [go_sem,Qc,Qb,zb1,zb2,forall_eq]; done)))
       all_goals (first | exact isp | assumption | omega | rfl | exact absurd trivial ‹¬True› | skip)
       refine Ok.seq (Ok.reg9 [true,true,true,true,true,true,true,true,true,false,true,true,true,true,true,true,true,true,true,true,false,true,true] (by decide +kernel) ?_)
       simp (disch:=first | omega | decide +kernel) only [go_sem,Qa,Qb,Qc,Qd,Qe,↓reduceIte,reduceCtorEq,Qf,Qg,Qh]
       (repeat' (first | ((first | (refine gsel_split (fun q' => ?_) (fun q' => ?_)<;>(have h':=q')<;>(try simp only [za1,za2,Ba,Bb,za3,ne_eq,za4,za5,za6,Ia,Ib,Ic,Ie,Da,Bc,Bh,Be,za7,za8] at h')<;>try (exfalso; omega)) | (have q':=trivial; first | refine callX_mut [0] [0] [] (c4) ⟨.inl rfl,.inl rfl,.inl rfl,trivial⟩ ⟨rfl,trivial⟩ rfl (by simp [dstB]) ?_ | refine hE _ _ ret_ne ?_ | refine hE _ _ exit_ne ?_))<;>(try simp (disch:=first | omega | decide +kernel) only [q',go_sem,Qa,Qb,Qc,Qd,Qe,↓reduceIte,reduceCtorEq,Qf,Qg,Qh])<;>clear q') | refine hN _ ?_ ?_ Wk.kk | with_reducible refine And.intro ?_ ?_ | with_reducible omega | exact ok_ints | exact cells_ints | exact no_mem | with_reducible exact plain_ints | (refine le_maxLen ?_; omega) | (refine za9 ⟨?_,?_⟩) | (simp only [go_sem,Qc,Qb,zb1,zb2,forall_eq]; done)))
       all_goals (first | exact isp | assumption | omega | rfl | exact absurd trivial ‹¬True› | skip)
       refine Ok.go ?_
       simp (disch:=first | omega | decide +kernel) only [go_sem,Qa,Qb,Qc,Qd,Qe,↓reduceIte,reduceCtorEq,Qf,Qg,Qh]
       (repeat' (first | ((first | (refine gsel_split (fun q' => ?_) (fun q' => ?_)<;>(have h':=q')<;>(try simp only [za1,za2,Ba,Bb,za3,ne_eq,za4,za5,za6,Ia,Ib,Ic,Ie,Da,Bc,Bh,Be,za7,za8] at h')<;>try (exfalso; omega)) | (have q':=trivial; first | refine hE _ _ ret_ne ?_ | refine hE _ _ exit_ne ?_))<;>(try simp (disch:=first | omega | decide +kernel) only [q',go_sem,Qa,Qb,Qc,Qd,Qe,↓reduceIte,reduceCtorEq,Qf,Qg,Qh])<;>clear q') | refine hN _ ?_ ?_ Wk.kk | with_reducible refine And.intro ?_ ?_ | with_reducible omega | exact ok_ints | exact cells_ints | exact no_mem | with_reducible exact plain_ints | (refine le_maxLen ?_; omega) | (refine za9 ⟨?_,?_⟩) | (simp only [go_sem,Qc,Qb,zb1,zb2,forall_eq]; done)))
       all_goals (first | omega | assumption | exact isp | rfl | exact ⟨_,_,⟨rfl,rfl⟩,retM_d1 rfl rfl rfl rfl⟩ | exact absurd trivial ‹¬True›)
   . have hm : mt (.jn o a1 a2) y b=(b,false):=by
      cases y with
      | lf d => rfl
      | ng a' => rfl
      | jn o' p q => rw [mt,if_neg (fun e => hop e.symm)]
     have hop' : ¬ (o.toNat : Int)=(y.op.toNat : Int):=fun e => hop (toN_eq.1 e).symm
     rw [hm,fmD_eq y]
     show CtrM _ _ _ _ _ _ (.d (.bool false)) [(0,.arv 116 1 b.P)]
     clear ih1 ih2
     generalize y.T=ut at *
     generalize y.lD=yl at *
     generalize y.rD=yr at *
     generalize y.op=po at *
     generalize (Fm.jn o a1 a2).T=t at *
     generalize fmD a1=x1 at *
     generalize fmD a2=x2 at *
     generalize b.P=L at *
     refine CtrM.of (n:=94) (rs:=[.tmp 6]) Tryd.func95 rfl rfl Tryd.ntmps95 rfl rfl (by kernel_rfl) Tryd.checked.mixed ?_; intro u
     simp (disch:=first | omega | decide +kernel) only [hop',go_sem,Qa,Qb,Qc,Qd,Qe,↓reduceIte,reduceCtorEq,Qf,Qg,Qh]
     (repeat' (first | ((first | (refine gsel_split (fun q' => ?_) (fun q' => ?_)<;>(have h':=q')<;>(try simp only [za1,za2,Ba,Bb,za3,ne_eq,za4,za5,za6,Ia,Ib,Ic,Ie,Da,Bc,Bh,Be,za7,za8] at h')<;>try (exfalso; omega)) | (have q':=trivial; first | refine callX_new (c1) rfl (by decide) ?_ | refine callY_new (c1) rfl ?_ | refine hE _ _ ret_ne ?_ | refine hE _ _ exit_ne ?_))<;>(try simp (disch:=first | omega | decide +kernel) only [q',hop',go_sem,Qa,Qb,Qc,Qd,Qe,↓reduceIte,reduceCtorEq,Qf,Qg,Qh])<;>clear q') | refine hN _ ?_ ?_ Wk.kk | with_reducible refine And.intro ?_ ?_ | with_reducible omega | exact ok_ints | exact cells_ints | exact no_mem | with_reducible exact plain_ints | (refine le_maxLen ?_; omega) | (refine za9 ⟨?_,?_⟩) | (simp only [go_sem,Qc,Qb,zb1,zb2,forall_eq]; done)))
     all_goals (first | omega | assumption | exact isp | rfl | exact ok_ptr _ | exact retM_d1 rfl rfl rfl rfl | exact absurd trivial ‹¬True›)
end Abs.Y

namespace Abs
open Go Go.RowKit

mutual
def AV.mfz (j : Nat) (x : D) : AV->AV
 | .sl i => if i=j then .undef else .sl i
 | .p i o => if i=j then .undef else .p i o
 | .pe i k n o => if i=j then .undef else .pe i k n o
 | .mq i => if i=j then .d x else .mq i
 | .sf i k l => if i=j then .undef else .sf i k l
 | .vw i q n k => if q=j then .undef else .vw i q n k
 | .pv i q k n o => if q=j then .undef else .pv i q k n o
 | .tup xs => .tup (AV.mfzL j x xs)
 | .st xs => .st (AV.mfzL j x xs)
 | .fn f cs => .fn f (AV.mfzL j x cs)
 | y => y
def AV.mfzL (j : Nat) (x : D) : List AV->List AV
 | [] => []
 | y :: r => y.mfz j x :: AV.mfzL j x r
end
def mfzS (j : Nat) (x : D) : List (Nat × AV)->List (Nat × AV)
 | [] => []
 | (k,v) :: r => (k,v.mfz j x) :: mfzS j x r
def AO.mfz (j : Nat) (x : D) : AO->AO
 | .box e cells => .box e (AV.mfzL j x cells)
 | .dp t xs (some (c,some d)) => .dp t xs (if d=j then some (c,none) else some (c,some d))
 | y => y
def mfzO (j : Nat) (x : D) : List (Nat × AO)->List (Nat × AO)
 | [] => []
 | (k,v) :: r => if k=j then mfzO j x r else (k,v.mfz j x) :: mfzO j x r
end Abs
