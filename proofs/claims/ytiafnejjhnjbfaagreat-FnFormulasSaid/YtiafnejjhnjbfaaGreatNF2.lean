/- What functions of this program compute, over plain data. No condition. -/
import Derived.Test.YtiafnejjhnjbfaaGreatNF1
import Derived.Test.YtiafnejjhnjbfaaGreatAbsLoopO
set_option linter.all false
open Nat renaming reduceEqDiff -> Qa, reduceLT -> Qb, reduceAdd -> Qc, reduceMul -> Qd, reduceSub -> Qe, reduceLeDiff -> Qf, reduceSubDiff -> Qg, reduceBEq -> Qh
open Bool renaming not_eq_true' -> Ba, not_eq_false' -> Bb, and_eq_true -> Bc, or_eq_true -> Bh, or_eq_false_iff -> Be
open Int renaming ofNat_lt -> Ia, ofNat_le -> Ib, not_lt -> Ic, not_le -> Ie
open Decidable renaming not_not -> Da
namespace Abs
open Go Go.RowKit
def fnS : List (Nat × AV)->List (Nat × AV)
 | [] => []
 | (k,v) :: r => (k,match v with | .fn f [] => .d (.fn f [] []) | v => v) :: fnS r
theorem lk_fnS {i : Nat} {v : AV} : ∀ {l : List (Nat × AV)},lk i (fnS l)=some v->∃ u,lk i l=some u∧v=(match u with | .fn f [] => .d (.fn f [] []) | v => v)
 | [],h => by simp [fnS,lk] at h
 | (k, u) :: r, h => by
   simp only [fnS,lk] at h ⊢
   split at h
   . rename_i hk
     rw [if_pos hk]
     exact ⟨u,rfl,(Option.some.inj h).symm⟩
   . rename_i hk
     rw [if_neg hk]
     exact lk_fnS h
theorem Wk.fnd {N : Nat} {st : St} : Wk N st ⟨fnS st.s,st.o⟩:=fun Z β φ B M w0 a w h => by
 refine ⟨β,φ,h.nd,h.size,fun i av hi => ?_,h.objs,h.own,h.disj,h.fr,h.z,h.gw⟩
 obtain ⟨u,hu,rfl⟩:=lk_fnS hi
 have:=h.slots i u hu
 revert this
 generalize a.tmps.getD i Go.undef=tv
 intro this
 split
 . cases this with
   | fn hl hr =>
     obtain rfl:=List.eq_nil_of_length_eq_zero hl
     exact .d (.fn (vs:=[]) (us:=[]) rfl rfl (by simp) (by simp))
 . exact this
end Abs
namespace Abs.Y
open Go Go.Proofs Abs
set_option maxRecDepth 100000

theorem ar_is : elemAr Tryz.prog 43=none:=by kernel_rfl
theorem cl_is : Tryz.prog.cellsOf 43=1:=by kernel_rfl
theorem ag_is : aggT Tryz.prog 43=false:=by kernel_rfl
theorem fmD_kx (a : Fm) : (fmD a).cells=[fmD a]∧(fmD a).atom=true:=by
 obtain ⟨_,_,_,e⟩:=fmD_sh a
 rw [e]; exact ⟨rfl,rfl⟩
theorem cmp1_ok (x y : Fm) (hx : x.wf=true) (hy : y.wf=true) (g : FuncId) (h : Bool->Bool->Bool) (hg : ∀ a b,Ctr Tryz.prog g [.bool a,.bool b] false (.d (.bool (h a b))) []) (m : Nat) (hm : m < 64) :
 Ctr Tryz.prog 48 [.int .i64 m,.ptr (.fn (.func g) [] []),.ptr (fmD x),.ptr (fmD y)] false (.d (.bool (h (x.vl (bitF m)) (y.vl (bitF m))))) []:=by
 have c1:=value_ok m hm x hx
 have c2:=value_ok m hm y hy
 have c3:=hg (x.vl (bitF m)) (y.vl (bitF m))
 have n1:=fmD_na x
 have n2:=fmD_nc x
 have n3:=fmD_na y
 have n4:=fmD_nc y
 have g1:=fm_g0 x
 have g2:=fm_g0 y
 generalize x.vl (bitF m)=a at *
 generalize y.vl (bitF m)=b at *
 generalize h a b=r at *
 generalize fmD x=xd at *
 generalize fmD y=yd at *
 refine Ctr.of (n:=14) (rs:=[.tmp 5]) Tryz.func48 rfl rfl Tryz.ntmps48 rfl rfl (by kernel_rfl) Tryz.checked.mixed ?_
 simp (disch:=first | omega | decide +kernel) only [g1,g2,go_sem,Qa,Qb,Qc,Qd,Qe,↓reduceIte,reduceCtorEq,Qf,Qg,Qh]
 (repeat' (first | ((first | (refine gsel_split (fun q' => ?_) (fun q' => ?_)<;>(have h':=q')<;>(try simp only [za1,za2,Ba,Bb,za3,ne_eq,za4,za5,za6,Ia,Ib,Ic,Ie,Da,Bc,Bh,Be,za7,za8] at h')<;>try (exfalso; omega)) | (have q':=trivial; first | refine callX_new (c1) rfl (by decide) ?_ | refine callY_new (c1) rfl ?_ | refine callX_new (c2) rfl (by decide) ?_ | refine callY_new (c2) rfl ?_ | refine callZ_new (c3) rfl (by decide) ?_ | refine callX_new (c3) rfl (by decide) ?_ | refine callY_new (c3) rfl ?_ | refine hE _ _ ret_ne ?_ | refine hE _ _ exit_ne ?_))<;>(try simp (disch:=first | omega | decide +kernel) only [q',g1,g2,go_sem,Qa,Qb,Qc,Qd,Qe,↓reduceIte,reduceCtorEq,Qf,Qg,Qh])<;>clear q') | refine hN _ ?_ ?_ Wk.kk | with_reducible refine And.intro ?_ ?_ | with_reducible omega | exact ok_ints | exact cells_ints | exact no_mem | with_reducible exact plain_ints | (refine le_maxLen ?_; omega) | (refine za9 ⟨?_,?_⟩) | (simp only [go_sem,Qc,Qb,zb1,zb2,forall_eq]; done)))
 all_goals (first | omega | assumption | exact isp | rfl | exact absurd trivial ‹¬True›)
noncomputable def cmG (s t : ByteArray) : Bool:=okS s && okS t
noncomputable def cmV (h : Bool->Bool->Bool) (s t : ByteArray) : Bool:=cmG s t && decide (ffI (fun m => h (vS s m) (vS t m)) < 0)
set_option maxHeartbeats 8000000 in
theorem compared_ok (s t : ByteArray) (hs : s.size<=1000000) (ht : t.size<=1000000) (g : FuncId) (h : Bool->Bool->Bool) (hg : ∀ a b,Ctr Tryz.prog g [.bool a,.bool b] false (.d (.bool (h a b))) []) :
 Ctr Tryz.prog 27 [.str s,.str t,.fn (.func g) [] []] true (.tup [.d (.bool (cmV h s t)),.d (.bool (cmG s t))]) []:=by
 obtain ⟨x,hx,hxs,c1⟩:=parse_okN s hs
 obtain ⟨y,hy,hys,c2⟩:=parse_okN t ht
 have kk : ∀ x : D,(x=.nilptr∨∃ a,x=fmD a)->x.cells=[x]∧x.isAgg=false∧x.atom=true:=fun x hx => by
  rcases hx with rfl | ⟨a,rfl⟩
  . exact ⟨rfl,rfl,rfl⟩
  . exact ⟨(fmD_kx a).1,fmD_na a,(fmD_kx a).2⟩
 obtain ⟨xc,xa,xt⟩:=kk x hxs
 obtain ⟨yc,ya,yt⟩:=kk y hys
 have kx : ∀ c,c ∈ [x]->c.atom=true:=fun c hc => by rw [List.mem_singleton] at hc; rw [hc]; exact xt
 have ky : ∀ c,c ∈ [y]->c.atom=true:=fun c hc => by rw [List.mem_singleton] at hc; rw [hc]; exact yt
 have c3:=fun (k1 : okS s=true) (k2 : okS t=true) => firstFalseC_ok 48 (.ptr (.fn (.func g) [] [])) (.ptr (fmD (fmS s))) (.ptr (fmD (fmS t))) (fun m => h (vS s m) (vS t m)) (fun m hm => cmp1_ok _ _ (okS_spec k1).1 (okS_spec k2).1 g h hg m hm)
 rw [cmV,cmG]
 cases k1 : okS s with
 | false =>
   rw [k1] at c1
   rw [Bool.false_and,Bool.false_and]
   generalize okS t=kt at *
   refine Ctr.of (n:=31) (rs:=[.tmp 6,.tmp 7]) Tryz.func27 rfl rfl Tryz.ntmps27 rfl rfl (by kernel_rfl) Tryz.checked.mixed ?_
   simp (disch:=first | omega | decide +kernel) only [ar_is,cl_is,ag_is,xc,yc,List.length_cons,List.length_nil,List.map_cons,List.map_nil,List.drop_succ_cons,List.drop_nil,List.drop_zero,List.append_nil,go_sem,Qa,Qb,Qc,Qd,Qe,↓reduceIte,reduceCtorEq,Qf,Qg,Qh]
   (repeat' (first | ((first | (refine gsel_split (fun q' => ?_) (fun q' => ?_)<;>(have h':=q')<;>(try simp only [za1,za2,Ba,Bb,za3,ne_eq,za4,za5,za6,Ia,Ib,Ic,Ie,Da,Bc,Bh,Be,za7,za8] at h')<;>try (exfalso; omega)) | (have q':=trivial; first | refine callX_shared (c1) rfl (by decide) ?_ | refine callY_shared (c1) rfl ?_ | refine callX_shared (c2) rfl (by decide) ?_ | refine callY_shared (c2) rfl ?_ | refine hE _ _ ret_ne ?_ | refine hE _ _ exit_ne ?_))<;>(try simp (disch:=first | omega | decide +kernel) only [q',ar_is,cl_is,ag_is,xc,yc,List.length_cons,List.length_nil,List.map_cons,List.map_nil,List.drop_succ_cons,List.drop_nil,List.drop_zero,List.append_nil,go_sem,Qa,Qb,Qc,Qd,Qe,↓reduceIte,reduceCtorEq,Qf,Qg,Qh])<;>clear q') | refine hN _ ?_ ?_ Wk.kk | with_reducible refine And.intro ?_ ?_ | with_reducible omega | exact ok_ints | exact cells_ints | exact no_mem | with_reducible exact plain_ints | (refine le_maxLen ?_; omega) | (refine za9 ⟨?_,?_⟩) | (simp only [go_sem,Qc,Qb,zb1,zb2,forall_eq]; done)))
   all_goals (first | omega | assumption | exact isp | rfl | exact ret_s2 [] rfl rfl)
 | true =>
   cases k2 : okS t with
   | false =>
     rw [k1] at c1
     rw [k2] at c2
     rw [Bool.and_false,Bool.false_and]
     refine Ctr.of (n:=31) (rs:=[.tmp 6,.tmp 7]) Tryz.func27 rfl rfl Tryz.ntmps27 rfl rfl (by kernel_rfl) Tryz.checked.mixed ?_
     simp (disch:=first | omega | decide +kernel) only [ar_is,cl_is,ag_is,xc,yc,List.length_cons,List.length_nil,List.map_cons,List.map_nil,List.drop_succ_cons,List.drop_nil,List.drop_zero,List.append_nil,go_sem,Qa,Qb,Qc,Qd,Qe,↓reduceIte,reduceCtorEq,Qf,Qg,Qh]
     (repeat' (first | ((first | (refine gsel_split (fun q' => ?_) (fun q' => ?_)<;>(have h':=q')<;>(try simp only [za1,za2,Ba,Bb,za3,ne_eq,za4,za5,za6,Ia,Ib,Ic,Ie,Da,Bc,Bh,Be,za7,za8] at h')<;>try (exfalso; omega)) | (have q':=trivial; first | refine callX_shared (c1) rfl (by decide) ?_ | refine callY_shared (c1) rfl ?_ | refine callX_shared (c2) rfl (by decide) ?_ | refine callY_shared (c2) rfl ?_ | refine hE _ _ ret_ne ?_ | refine hE _ _ exit_ne ?_))<;>(try simp (disch:=first | omega | decide +kernel) only [q',ar_is,cl_is,ag_is,xc,yc,List.length_cons,List.length_nil,List.map_cons,List.map_nil,List.drop_succ_cons,List.drop_nil,List.drop_zero,List.append_nil,go_sem,Qa,Qb,Qc,Qd,Qe,↓reduceIte,reduceCtorEq,Qf,Qg,Qh])<;>clear q') | refine hN _ ?_ ?_ Wk.kk | with_reducible refine And.intro ?_ ?_ | with_reducible omega | exact ok_ints | exact cells_ints | exact no_mem | with_reducible exact plain_ints | (refine le_maxLen ?_; omega) | (refine za9 ⟨?_,?_⟩) | (simp only [go_sem,Qc,Qb,zb1,zb2,forall_eq]; done)))
     all_goals (first | omega | assumption | exact isp | rfl | exact ret_s2 [] rfl rfl)
   | true =>
     have c3:=c3 k1 k2
     rw [k1] at c1
     rw [k2] at c2
     rw [← hx k1,← hy k2] at c3
     rw [Bool.and_true,Bool.true_and]
     generalize ffI (fun m => h (vS s m) (vS t m))=r at *
     clear hx hy hxs hys
     refine Ctr.ofK (n:=31) (rs:=[.tmp 6,.tmp 7]) Tryz.func27 rfl rfl Tryz.ntmps27 rfl rfl (by kernel_rfl) Tryz.checked.mixed ?_
     refine Ok.weak Wk.fnd ?_
     refine Ok.seq (Ok.go ?_)
     simp (disch:=first | omega | decide +kernel) only [fnS,ar_is,cl_is,ag_is,go_sem,Qa,Qb,Qc,Qd,Qe,↓reduceIte,reduceCtorEq,Qf,Qg,Qh]
     (repeat' (first | ((first | (refine gsel_split (fun q' => ?_) (fun q' => ?_)<;>(have h':=q')<;>(try simp only [za1,za2,Ba,Bb,za3,ne_eq,za4,za5,za6,Ia,Ib,Ic,Ie,Da,Bc,Bh,Be,za7,za8] at h')<;>try (exfalso; omega)) | (have q':=trivial; first | refine hE _ _ ret_ne ?_ | refine hE _ _ exit_ne ?_))<;>(try simp (disch:=first | omega | decide +kernel) only [q',ar_is,cl_is,ag_is,go_sem,Qa,Qb,Qc,Qd,Qe,↓reduceIte,reduceCtorEq,Qf,Qg,Qh])<;>clear q') | refine hN _ ?_ ?_ Wk.kk | with_reducible refine And.intro ?_ ?_ | with_reducible omega | exact ok_ints | exact cells_ints | exact no_mem | with_reducible exact plain_ints | (refine le_maxLen ?_; omega) | (refine za9 ⟨?_,?_⟩) | (simp only [go_sem,Qc,Qb,zb1,zb2,forall_eq]; done)))
     refine Ok.weak (Wk.bfz 5 (.fn (.func g) [] []) rfl rfl) ?_
     simp (disch:=first | omega | decide +kernel) only [bfzS,bfzO,AV.bfz,AV.bfzL,AO.bfz,go_sem,Qa,Qb,Qc,Qd,Qe,↓reduceIte,reduceCtorEq,Qf,Qg,Qh]
     refine Ok.seq (Ok.go ?_)
     simp (disch:=first | omega | decide +kernel) only [xc,List.length_cons,List.length_nil,List.map_cons,List.map_nil,List.drop_succ_cons,List.drop_nil,List.drop_zero,List.append_nil,go_sem,Qa,Qb,Qc,Qd,Qe,↓reduceIte,reduceCtorEq,Qf,Qg,Qh]
     (repeat' (first | ((first | (refine gsel_split (fun q' => ?_) (fun q' => ?_)<;>(have h':=q')<;>(try simp only [za1,za2,Ba,Bb,za3,ne_eq,za4,za5,za6,Ia,Ib,Ic,Ie,Da,Bc,Bh,Be,za7,za8] at h')<;>try (exfalso; omega)) | (have q':=trivial; first | refine callX_shared (c1) rfl (by decide) ?_ | refine callY_shared (c1) rfl ?_ | refine hE _ _ ret_ne ?_ | refine hE _ _ exit_ne ?_))<;>(try simp (disch:=first | omega | decide +kernel) only [q',xc,List.length_cons,List.length_nil,List.map_cons,List.map_nil,List.drop_succ_cons,List.drop_nil,List.drop_zero,List.append_nil,go_sem,Qa,Qb,Qc,Qd,Qe,↓reduceIte,reduceCtorEq,Qf,Qg,Qh])<;>clear q') | refine hN _ ?_ ?_ Wk.kk | with_reducible refine And.intro ?_ ?_ | with_reducible omega | exact ok_ints | exact cells_ints | exact no_mem | with_reducible exact plain_ints | (refine le_maxLen ?_; omega) | (refine za9 ⟨?_,?_⟩) | (simp only [go_sem,Qc,Qb,zb1,zb2,forall_eq]; done)))
     all_goals (first | omega | assumption | exact isp | rfl | skip)
     refine Ok.weak (Wk.bfz 8 x rfl (by rw [xc]; rfl)) ?_
     simp (disch:=first | omega | decide +kernel) only [bfzS,bfzO,AV.bfz,AV.bfzL,AO.bfz,go_sem,Qa,Qb,Qc,Qd,Qe,↓reduceIte,reduceCtorEq,Qf,Qg,Qh]
     refine Ok.seq (Ok.go ?_)
     simp (disch:=first | omega | decide +kernel) only [yc,List.length_cons,List.length_nil,List.map_cons,List.map_nil,List.drop_succ_cons,List.drop_nil,List.drop_zero,List.append_nil,go_sem,Qa,Qb,Qc,Qd,Qe,↓reduceIte,reduceCtorEq,Qf,Qg,Qh]
     (repeat' (first | ((first | (refine gsel_split (fun q' => ?_) (fun q' => ?_)<;>(have h':=q')<;>(try simp only [za1,za2,Ba,Bb,za3,ne_eq,za4,za5,za6,Ia,Ib,Ic,Ie,Da,Bc,Bh,Be,za7,za8] at h')<;>try (exfalso; omega)) | (have q':=trivial; first | refine callX_shared (c2) rfl (by decide) ?_ | refine callY_shared (c2) rfl ?_ | refine hE _ _ ret_ne ?_ | refine hE _ _ exit_ne ?_))<;>(try simp (disch:=first | omega | decide +kernel) only [q',yc,List.length_cons,List.length_nil,List.map_cons,List.map_nil,List.drop_succ_cons,List.drop_nil,List.drop_zero,List.append_nil,go_sem,Qa,Qb,Qc,Qd,Qe,↓reduceIte,reduceCtorEq,Qf,Qg,Qh])<;>clear q') | refine hN _ ?_ ?_ Wk.kk | with_reducible refine And.intro ?_ ?_ | with_reducible omega | exact ok_ints | exact cells_ints | exact no_mem | with_reducible exact plain_ints | (refine le_maxLen ?_; omega) | (refine za9 ⟨?_,?_⟩) | (simp only [go_sem,Qc,Qb,zb1,zb2,forall_eq]; done)))
     all_goals (first | omega | assumption | exact isp | rfl | skip)
     refine Ok.weak (Wk.bfz 10 y rfl (by rw [yc]; rfl)) ?_
     simp (disch:=first | omega | decide +kernel) only [bfzS,bfzO,AV.bfz,AV.bfzL,AO.bfz,go_sem,Qa,Qb,Qc,Qd,Qe,↓reduceIte,reduceCtorEq,Qf,Qg,Qh]
     refine Ok.go ?_
     simp (disch:=first | omega | decide +kernel) only [go_sem,Qa,Qb,Qc,Qd,Qe,↓reduceIte,reduceCtorEq,Qf,Qg,Qh]
     (repeat' (first | ((first | (refine gsel_split (fun q' => ?_) (fun q' => ?_)<;>(have h':=q')<;>(try simp only [za1,za2,Ba,Bb,za3,ne_eq,za4,za5,za6,Ia,Ib,Ic,Ie,Da,Bc,Bh,Be,za7,za8] at h')<;>try (exfalso; omega)) | (have q':=trivial; first | refine callX_new (c3) rfl (by decide) ?_ | refine callY_new (c3) rfl ?_ | refine hE _ _ ret_ne ?_ | refine hE _ _ exit_ne ?_))<;>(try simp (disch:=first | omega | decide +kernel) only [q',go_sem,Qa,Qb,Qc,Qd,Qe,↓reduceIte,reduceCtorEq,Qf,Qg,Qh])<;>clear q') | refine hN _ ?_ ?_ Wk.kk | with_reducible refine And.intro ?_ ?_ | with_reducible omega | exact ok_ints | exact cells_ints | exact no_mem | with_reducible exact plain_ints | (refine le_maxLen ?_; omega) | (refine za9 ⟨?_,?_⟩) | (simp only [go_sem,Qc,Qb,zb1,zb2,forall_eq]; done)))
     all_goals (first | omega | assumption | exact isp | rfl | exact ret_s2 [] rfl rfl)
theorem eqv1_ok (a b : Bool) : Ctr Tryz.prog 28 [.bool a,.bool b] false (.d (.bool (a == b))) []:=by
 refine Ctr.of (n:=8) (rs:=[.tmp 4]) Tryz.func28 rfl rfl Tryz.ntmps28 rfl rfl (by kernel_rfl) Tryz.checked.mixed ?_
 simp (disch:=first | omega | decide +kernel) only [go_sem,Qa,Qb,Qc,Qd,Qe,↓reduceIte,reduceCtorEq,Qf,Qg,Qh]
 (repeat' (first | ((first | (refine gsel_split (fun q' => ?_) (fun q' => ?_)<;>(have h':=q')<;>(try simp only [za1,za2,Ba,Bb,za3,ne_eq,za4,za5,za6,Ia,Ib,Ic,Ie,Da,Bc,Bh,Be,za7,za8] at h')<;>try (exfalso; omega)) | (have q':=trivial; first | refine hE _ _ ret_ne ?_ | refine hE _ _ exit_ne ?_))<;>(try simp (disch:=first | omega | decide +kernel) only [q',go_sem,Qa,Qb,Qc,Qd,Qe,↓reduceIte,reduceCtorEq,Qf,Qg,Qh])<;>clear q') | refine hN _ ?_ ?_ Wk.kk | with_reducible refine And.intro ?_ ?_ | with_reducible omega | exact ok_ints | exact cells_ints | exact no_mem | with_reducible exact plain_ints | (refine le_maxLen ?_; omega) | (refine za9 ⟨?_,?_⟩) | (simp only [go_sem,Qc,Qb,zb1,zb2,forall_eq]; done)))
 all_goals (first | omega | rfl | (cases a<;>cases b<;>rfl))
theorem imp1_ok (a b : Bool) : Ctr Tryz.prog 37 [.bool a,.bool b] false (.d (.bool (!a || b))) []:=by
 cases a<;>cases b <;>
 . refine Ctr.of (n:=10) (rs:=[.tmp 4]) Tryz.func37 rfl rfl Tryz.ntmps37 rfl rfl (by kernel_rfl) Tryz.checked.mixed ?_
   simp (disch:=first | omega | decide +kernel) only [go_sem,Qa,Qb,Qc,Qd,Qe,↓reduceIte,reduceCtorEq,Qf,Qg,Qh]
   (repeat' (first | ((first | (refine gsel_split (fun q' => ?_) (fun q' => ?_)<;>(have h':=q')<;>(try simp only [za1,za2,Ba,Bb,za3,ne_eq,za4,za5,za6,Ia,Ib,Ic,Ie,Da,Bc,Bh,Be,za7,za8] at h')<;>try (exfalso; omega)) | (have q':=trivial; first | refine hE _ _ ret_ne ?_ | refine hE _ _ exit_ne ?_))<;>(try simp (disch:=first | omega | decide +kernel) only [q',go_sem,Qa,Qb,Qc,Qd,Qe,↓reduceIte,reduceCtorEq,Qf,Qg,Qh])<;>clear q') | refine hN _ ?_ ?_ Wk.kk | with_reducible refine And.intro ?_ ?_ | with_reducible omega | exact ok_ints | exact cells_ints | exact no_mem | with_reducible exact plain_ints | (refine le_maxLen ?_; omega) | (refine za9 ⟨?_,?_⟩) | (simp only [go_sem,Qc,Qb,zb1,zb2,forall_eq]; done)))
   all_goals (first | omega | rfl)
def impB (u v : Nat->Bool) : Bool:=(List.range 64).all fun m => !u m || v m
theorem impB_iff {u v : Nat->Bool} : impB u v=true↔∀ m,m < 64->u m=true->v m=true:=by
 rw [impB,List.all_eq_true]
 refine ⟨fun h m hm hu => ?_,fun h m hm => ?_⟩
 . have:=h m (List.mem_range.2 hm)
   rw [hu] at this; simpa using this
 . cases hu : u m with
   | true => rw [h m (List.mem_range.1 hm) hu]; rfl
   | false => rfl
noncomputable def eqvV (s t : ByteArray) : Bool:=cmG s t && (impB (vS s) (vS t) && impB (vS t) (vS s))
noncomputable def impV (s t : ByteArray) : Bool:=cmG s t && impB (vS s) (vS t)
theorem eqv_cm (s t : ByteArray) : cmV (fun a b => a == b) s t=eqvV s t:=by
 rw [cmV,eqvV]
 congr 1
 rw [Bool.eq_iff_iff,decide_eq_true_eq,Bc,impB_iff,impB_iff,ffI_neg]
 refine ⟨fun h => ⟨fun m hm hu => ?_,fun m hm hu => ?_⟩,fun h m hm => ?_⟩
 . rw [← beq_iff_eq.1 (h m hm)]; exact hu
 . rw [beq_iff_eq.1 (h m hm)]; exact hu
 . have h1:=h.1 m hm
   have h2:=h.2 m hm
   revert h1 h2
   cases vS s m<;>cases vS t m<;>simp
theorem imp_cm (s t : ByteArray) : cmV (fun a b => !a || b) s t=impV s t:=by
 rw [cmV,impV]
 congr 1
 rw [Bool.eq_iff_iff,decide_eq_true_eq,impB,List.all_eq_true,ffI_neg]
 exact ⟨fun h m hm => h m (List.mem_range.1 hm),fun h m hm => h m (List.mem_range.2 hm)⟩
theorem Ctr.bb {P : Program} {f : FuncId} {xs : List D} {a b : Bool} (h : Ctr P f xs true (.tup [.d (.bool a),.d (.bool b)]) []) : Ctr P f xs false (.tup [.d (.bool a),.d (.bool b)]) []:=by
 refine ⟨h.1,fun S w vs hl hr hG => (h.2 S w vs hl hr hG).mono fun en w' ⟨v,he,hf,β,φ,hrel,hobj,hown,hdis⟩ => ⟨v,he,hf,β,φ,?_,by simp [lk],by simp [lk],by simp [lk]⟩⟩
 cases hrel with
 | tup hl' hr' =>
   rename_i us
   match us,hl' with
   | [u0, u1], _ =>
     have h0:=hr' 0 (by simp)
     have h1:=hr' 1 (by simp)
     simp only [List.getD_cons_zero,List.getD_cons_succ] at h0 h1
     cases h0 with
     | d h0 =>
       cases h1 with
       | d h1 =>
         cases h0
         cases h1
         refine .tup rfl fun i hi => ?_
         match i,hi with
         | 0,_ => exact .d (.bool _)
         | 1,_ => exact .d (.bool _)
theorem AreEquivalent_ok (s t : ByteArray) (hs : s.size<=1000000) (ht : t.size<=1000000) : Ctr Tryz.prog 8 [.str s,.str t] true (.tup [.d (.bool (eqvV s t)),.d (.bool (cmG s t))]) []:=by
 have c1:=Ctr.bb (compared_ok s t hs ht 28 (fun a b => a == b) eqv1_ok)
 rw [eqv_cm] at c1
 generalize eqvV s t=r at *
 generalize cmG s t=q at *
 refine Ctr.of (n:=11) (rs:=[.tmp 4,.tmp 5]) Tryz.func8 rfl rfl Tryz.ntmps8 rfl rfl (by kernel_rfl) Tryz.checked.mixed ?_
 simp (disch:=first | omega | decide +kernel) only [go_sem,Qa,Qb,Qc,Qd,Qe,↓reduceIte,reduceCtorEq,Qf,Qg,Qh]
 (repeat' (first | ((first | (refine gsel_split (fun q' => ?_) (fun q' => ?_)<;>(have h':=q')<;>(try simp only [za1,za2,Ba,Bb,za3,ne_eq,za4,za5,za6,Ia,Ib,Ic,Ie,Da,Bc,Bh,Be,za7,za8] at h')<;>try (exfalso; omega)) | (have q':=trivial; first | refine callX_new (c1) rfl (by decide) ?_ | refine callY_new (c1) rfl ?_ | refine hE _ _ ret_ne ?_ | refine hE _ _ exit_ne ?_))<;>(try simp (disch:=first | omega | decide +kernel) only [q',go_sem,Qa,Qb,Qc,Qd,Qe,↓reduceIte,reduceCtorEq,Qf,Qg,Qh])<;>clear q') | refine hN _ ?_ ?_ Wk.kk | with_reducible refine And.intro ?_ ?_ | with_reducible omega | exact ok_ints | exact cells_ints | exact no_mem | with_reducible exact plain_ints | (refine le_maxLen ?_; omega) | (refine za9 ⟨?_,?_⟩) | (simp only [go_sem,Qc,Qb,zb1,zb2,forall_eq]; done)))
 all_goals (first | omega | assumption | rfl | exact ret_s2 [] rfl rfl)
theorem DoesImply_ok (s t : ByteArray) (hs : s.size<=1000000) (ht : t.size<=1000000) : Ctr Tryz.prog 14 [.str s,.str t] true (.tup [.d (.bool (impV s t)),.d (.bool (cmG s t))]) []:=by
 have c1:=Ctr.bb (compared_ok s t hs ht 37 (fun a b => !a || b) imp1_ok)
 rw [imp_cm] at c1
 generalize impV s t=r at *
 generalize cmG s t=q at *
 refine Ctr.of (n:=11) (rs:=[.tmp 4,.tmp 5]) Tryz.func14 rfl rfl Tryz.ntmps14 rfl rfl (by kernel_rfl) Tryz.checked.mixed ?_
 simp (disch:=first | omega | decide +kernel) only [go_sem,Qa,Qb,Qc,Qd,Qe,↓reduceIte,reduceCtorEq,Qf,Qg,Qh]
 (repeat' (first | ((first | (refine gsel_split (fun q' => ?_) (fun q' => ?_)<;>(have h':=q')<;>(try simp only [za1,za2,Ba,Bb,za3,ne_eq,za4,za5,za6,Ia,Ib,Ic,Ie,Da,Bc,Bh,Be,za7,za8] at h')<;>try (exfalso; omega)) | (have q':=trivial; first | refine callX_new (c1) rfl (by decide) ?_ | refine callY_new (c1) rfl ?_ | refine hE _ _ ret_ne ?_ | refine hE _ _ exit_ne ?_))<;>(try simp (disch:=first | omega | decide +kernel) only [q',go_sem,Qa,Qb,Qc,Qd,Qe,↓reduceIte,reduceCtorEq,Qf,Qg,Qh])<;>clear q') | refine hN _ ?_ ?_ Wk.kk | with_reducible refine And.intro ?_ ?_ | with_reducible omega | exact ok_ints | exact cells_ints | exact no_mem | with_reducible exact plain_ints | (refine le_maxLen ?_; omega) | (refine za9 ⟨?_,?_⟩) | (simp only [go_sem,Qc,Qb,zb1,zb2,forall_eq]; done)))
 all_goals (first | omega | assumption | rfl | exact ret_s2 [] rfl rfl)
end Abs.Y
