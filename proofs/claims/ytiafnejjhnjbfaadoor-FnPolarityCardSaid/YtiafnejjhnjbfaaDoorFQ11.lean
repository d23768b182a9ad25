/- What functions of this program compute, over plain data. No condition. -/
import Derived.Test.YtiafnejjhnjbfaaDoorFD3
import Derived.Test.YtiafnejjhnjbfaaDoorCX
set_option linter.all false
namespace Abs.Y
open Go Go.Proofs Abs
open Nat renaming reduceEqDiff -> Qa, reduceLT -> Qb, reduceAdd -> Qc, reduceMul -> Qd, reduceSub -> Qe, reduceLeDiff -> Qf, reduceSubDiff -> Qg, reduceBEq -> Qh
open Bool renaming not_eq_true' -> Ba, not_eq_false' -> Bb, and_eq_true -> Bc, or_eq_true -> Bh, or_eq_false_iff -> Be
open Int renaming ofNat_lt -> Ia, ofNat_le -> Ib, not_lt -> Ic, not_le -> Ie
open Decidable renaming not_not -> Da
set_option maxRecDepth 100000

theorem rBigQ_ok (code : List Int) : Ctr Tryd.prog 5 [D.bytes code] false (.d (.bool (decide (65536 < code.length)))) []:=by
 refine Ctr.of (n:=6) (rs:=[.tmp 2]) Tryd.func5 rfl rfl Tryd.ntmps5 rfl rfl (by kernel_rfl) Tryd.checked.mixed ?_
 simp (disch:=first | omega | decide +kernel) only [D.bytes,go_sem,Qa,Qb,Qc,Qd,Qe,↓reduceIte,reduceCtorEq,Qf,Qg,Qh]
 (repeat' (first | ((first | (refine gsel_split (fun q' => ?_) (fun q' => ?_)<;>(have h':=q')<;>(try simp only [za1,za2,Ba,Bb,za3,ne_eq,za4,za5,za6,Ia,Ib,Ic,Ie,Da,Bc,Bh,Be,za7,za8] at h')) | (have q':=trivial; first | refine hE _ _ ret_ne ?_ | refine hE _ _ exit_ne ?_))<;>(try simp (disch:=first | omega | decide +kernel) only [q',D.bytes,go_sem,Qa,Qb,Qc,Qd,Qe,↓reduceIte,reduceCtorEq,Qf,Qg,Qh])<;>clear q') | refine hN _ ?_ ?_ Wk.kk | with_reducible refine And.intro ?_ ?_ | with_reducible omega | exact ok_ints | exact cells_ints | exact no_mem | with_reducible exact plain_ints | (refine le_maxLen ?_; omega) | (refine za9 ⟨?_,?_⟩) | (simp only [go_sem,Qc,Qb,zb1,zb2,forall_eq]; done)))
 congr 1
 exact decide_eq_decide.2 (by omega)
set_option maxHeartbeats 4000000 in
theorem drawPolarityOf_ok {code : List Int} (hc : CodeOK code) : CtrR Tryd.prog 6 [.d (D.bytes code)] [] [] true fun r oo => ∃ s l : ByteArray,r=.tup [.d (.str s),.d (.str l)]∧oo=[]∧s.size<=100∧l.size<=100:=by
 have c1:=formulaText_ok hc
 have c2:=ofL_ok hc [⟨#[97]⟩,⟨#[98]⟩,⟨#[97]⟩,⟨#[99]⟩,⟨#[102]⟩,⟨#[103]⟩,⟨#[]⟩,⟨#[97,98]⟩] 2 (by decide) (by decide)
 simp only [List.map_cons,List.map_nil] at c2
 refine CtrR.of (n:=13) (rs:=[.tmp 2,.tmp 3]) Tryd.func6 rfl rfl Tryd.ntmps6 rfl rfl (by kernel_rfl) Tryd.checked.mixed ?_; intro u
 simp (disch:=first | omega | decide +kernel) only [curO,curB,D.bytes,go_sem,Qa,Qb,Qc,Qd,Qe,↓reduceIte,reduceCtorEq,Qf,Qg,Qh]
 (repeat' (first | ((first | (refine gsel_split (fun q' => ?_) (fun q' => ?_)<;>(have h':=q')<;>(try simp only [za1,za2,Ba,Bb,za3,ne_eq,za4,za5,za6,Ia,Ib,Ic,Ie,Da,Bc,Bh,Be,za7,za8] at h')<;>try (exfalso; omega)) | (have q':=trivial; first | (refine callX_draw (at_:=0) _ (c1) ⟨.inl rfl,trivial⟩ rfl (by simp [dstB]) (by omega) (by omega) (by omega) ?_; rintro _ ata sda hata1 hata2 hsda1 hsda2 ⟨xa,rfl,hxa⟩) | (refine callX_drawL _ _ (c2) ⟨.inl rfl,.inl rfl,trivial⟩ rfl rfl (by decide) (by simp [dstB]) (by omega) (by omega) (by omega) ?_; rintro _ at1 sd1 hat1 hat2 hsd1 hsd2 ⟨x1,rfl,hx1⟩) | refine hE _ _ ret_ne ?_ | refine hE _ _ exit_ne ?_))<;>(try simp (disch:=first | omega | decide +kernel) only [q',curO,curB,D.bytes,go_sem,Qa,Qb,Qc,Qd,Qe,↓reduceIte,reduceCtorEq,Qf,Qg,Qh])<;>clear q') | refine hN _ ?_ ?_ Wk.kk | with_reducible refine And.intro ?_ ?_ | with_reducible omega | exact ok_ints | exact cells_ints | exact no_mem | with_reducible exact plain_ints | (refine le_maxLen ?_; omega) | (refine za9 ⟨?_,?_⟩) | (simp only [go_sem,Qc,Qb,zb1,zb2,forall_eq]; done)))
 all_goals (first | exact ⟨_,_,⟨_,_,rfl,rfl,by omega,by omega⟩,retM_vv rfl rfl⟩)
set_option maxHeartbeats 4000000 in
theorem drawPutFormula_ok {code : List Int} (hc : CodeOK code) : CtrR Tryd.prog 10 [.d (D.bytes code)] [] [] true fun r oo => ∃ s l t : ByteArray,r=.tup [.d (.str s),.d (.str l),.d (.str t)]∧oo=[]∧s.size<=100∧l.size<=100∧t.size<=100:=by
 have c1:=formulaText_ok hc
 have c2:=ofL_ok hc [⟨#[97]⟩,⟨#[98]⟩,⟨#[99]⟩,⟨#[97]⟩,⟨#[102]⟩,⟨#[103]⟩,⟨#[]⟩,⟨#[97,98]⟩,⟨#[48]⟩] 2 (by decide) (by decide)
 simp only [List.map_cons,List.map_nil] at c2
 refine CtrR.of (n:=16) (rs:=[.tmp 2,.tmp 3,.tmp 4]) Tryd.func10 rfl rfl Tryd.ntmps10 rfl rfl (by kernel_rfl) Tryd.checked.mixed ?_; intro u
 simp (disch:=first | omega | decide +kernel) only [curO,curB,D.bytes,go_sem,Qa,Qb,Qc,Qd,Qe,↓reduceIte,reduceCtorEq,Qf,Qg,Qh]
 (repeat' (first | ((first | (refine gsel_split (fun q' => ?_) (fun q' => ?_)<;>(have h':=q')<;>(try simp only [za1,za2,Ba,Bb,za3,ne_eq,za4,za5,za6,Ia,Ib,Ic,Ie,Da,Bc,Bh,Be,za7,za8] at h')<;>try (exfalso; omega)) | (have q':=trivial; first | (refine callX_draw (at_:=0) _ (c1) ⟨.inl rfl,trivial⟩ rfl (by simp [dstB]) (by omega) (by omega) (by omega) ?_; rintro _ ata sda hata1 hata2 hsda1 hsda2 ⟨xa,rfl,hxa⟩) | (refine callX_drawL _ _ (c2) ⟨.inl rfl,.inl rfl,trivial⟩ rfl rfl (by decide) (by simp [dstB]) (by omega) (by omega) (by omega) ?_; rintro _ at1 sd1 hat1 hat2 hsd1 hsd2 ⟨x1,rfl,hx1⟩) | (refine callX_draw _ (c1) ⟨.inl rfl,trivial⟩ rfl (by simp [dstB]) (by omega) (by omega) (by omega) ?_; rintro _ atc sdc hatc1 hatc2 hsdc1 hsdc2 ⟨xc,rfl,hxc⟩) | refine hE _ _ ret_ne ?_ | refine hE _ _ exit_ne ?_))<;>(try simp (disch:=first | omega | decide +kernel) only [q',curO,curB,D.bytes,go_sem,Qa,Qb,Qc,Qd,Qe,↓reduceIte,reduceCtorEq,Qf,Qg,Qh])<;>clear q') | refine hN _ ?_ ?_ Wk.kk | with_reducible refine And.intro ?_ ?_ | with_reducible omega | exact ok_ints | exact cells_ints | exact no_mem | with_reducible exact plain_ints | (refine le_maxLen ?_; omega) | (refine za9 ⟨?_,?_⟩) | (simp only [go_sem,Qc,Qb,zb1,zb2,forall_eq]; done)))
 all_goals (first | exact ⟨_,_,⟨_,_,_,rfl,rfl,by omega,by omega,by omega⟩,retM_v3 rfl rfl rfl⟩)
def onB (b k : Nat) : Nat:=b ||| 2 ^ k
theorem on_lt {m k : Nat} (hm : m < 64) (hk : k < 6) : onB m k < 64:=Nat.or_lt_two_pow (n:=6) hm (Nat.pow_lt_pow_right (by decide) hk)
theorem off_lt {m k : Nat} (hm : m < 64) : clB m k < 64:=Nat.lt_of_le_of_lt (clB_le m k) hm
theorem let_k {d : UInt8} (hd : isLet d=true) : 97<=d.toNat∧d.toNat<=102:=by
 have h3:=of_decide_eq_true hd
 rw [UInt8.le_iff_toNat_le,UInt8.le_iff_toNat_le] at h3
 exact h3
theorem k_ne {c d : UInt8} (hc : isLet c=true) (hd : isLet d=true) : c=d↔d.toNat - 97=c.toNat - 97:=by
 have h1:=let_k hc
 have h2:=let_k hd
 rw [← UInt8.toNat_inj]; omega
theorem bit_off {m : Nat} {c d : UInt8} (hm : m < 64) (hc : isLet c=true) (hd : isLet d=true) : bitF (clB m (d.toNat - 97)) c=(bitF m c && !(decide (c=d))):=by
 have h1:=let_k hc
 have h2:=let_k hd
 rw [bitF,bitF,clB_bit m (by omega) (by omega)]
 congr 2
 exact decide_eq_decide.2 (k_ne hc hd).symm
theorem bit_on {m : Nat} {c d : UInt8} (hc : isLet c=true) (hd : isLet d=true) : bitF (onB m (d.toNat - 97)) c=(bitF m c || decide (c=d)):=by
 rw [bitF,bitF,onB,Nat.testBit_or,Nat.testBit_two_pow]
 congr 1
 exact decide_eq_decide.2 (k_ne hc hd).symm
theorem pol_law {s l : ByteArray} (h : polG s l=true) : ∃ d,l=⟨#[d]⟩∧isLet d=true∧okS s=true∧(polV s l=0∨polV s l=1∨polV s l=-1∨polV s l=2) ∧
 ∀ m,m < 64->((polV s l=0∨polV s l=1)->(fmS s).vl (bitF (clB m (d.toNat - 97)))=true->(fmS s).vl (bitF (onB m (d.toNat - 97)))=true) ∧
  ((polV s l=0∨polV s l=-1)->(fmS s).vl (bitF (onB m (d.toNat - 97)))=true->(fmS s).vl (bitF (clB m (d.toNat - 97)))=true):=by
 rw [polV,if_pos h]
 have h':=h
 rw [polG,Bc] at h'
 obtain ⟨hn,hL⟩:=h'
 have hok : okS s=true:=by
  rw [negG,Bc] at hn; exact hn.1
 obtain ⟨d,rfl,hd,hdd⟩:=letS_sp hL
 rw [hdd]
 have hsp:=(okS_spec hok).1
 have nnn : (negF s).nn=true:=sg_nn _ _ hsp
 obtain ⟨nw,_,nv⟩:=negF_ok hok
 refine ⟨d,rfl,hd,hok,?_,fun m hm => ?_⟩
 . unfold polF; split<;>split<;>simp
 . obtain ⟨v,hv⟩ : ∃ v,v=fun c => bitF m c && !(decide (c=d)):=⟨_,rfl⟩
   obtain ⟨v',hv'⟩ : ∃ v,v=fun c => bitF m c || decide (c=d):=⟨_,rfl⟩
   have e1 : (fmS s).vl (bitF (clB m (d.toNat - 97)))=(negF s).vl v:=by
    rw [nv]
    exact vl_congr (fun c hc => by rw [hv]; exact bit_off hm hc hd) _ hsp
   have e2 : (fmS s).vl (bitF (onB m (d.toNat - 97)))=(negF s).vl v':=by
    rw [nv]
    exact vl_congr (fun c hc => by rw [hv']; exact bit_on hc hd) _ hsp
   rw [e1,e2]
   obtain ⟨m1,m2⟩:=mono_nn (v:=v) (v':=v') hd (fun c hc => by rw [hv,hv']; simp [hc]) (fun _ => by rw [hv']; simp) _ nw nnn
   unfold polF
   refine ⟨fun h => ?_,fun h => ?_⟩
   . apply m1
     by_cases hb : (negF s).cn d false=0
     . exact hb
     . rw [if_neg hb,if_neg hb] at h
       split at h<;>simp at h
   . apply m2
     by_cases ha : (negF s).cn d true=0
     . exact ha
     . rw [if_neg ha] at h
       split at h<;>simp at h
theorem put_law {s l t : ByteArray} (h : putG s l t=true) : ∃ d,l=⟨#[d]⟩∧isLet d=true∧okS s=true∧okS t=true∧okS (putS s l t)=true∧(putS s l t).size<=80 ∧
 ∀ m,m < 64->(fmS (putS s l t)).vl (bitF m)=(fmS s).vl (bitF (if (fmS t).vl (bitF m) then onB m (d.toNat - 97) else clB m (d.toNat - 97))):=by
 have h':=h
 rw [putG] at h'
 simp only [Bc,decide_eq_true_eq] at h'
 obtain ⟨⟨⟨os,ot⟩,oL⟩,hz⟩:=h'
 obtain ⟨d,rfl,hd,hdd⟩:=letS_sp oL
 have hsp:=(okS_spec os).1
 have hw : (putF s ⟨#[d]⟩ t).wf=true:=one1_wf (okS_spec ot).1 (fmS s) hsp
 have hS : putS s ⟨#[d]⟩ t=(putF s ⟨#[d]⟩ t).T:=by rw [putS,if_pos h]
 rw [hS]
 refine ⟨d,rfl,hd,os,ot,okS_T hw hz,hz,fun m hm => ?_⟩
 rw [fmS_T hw]
 show ((fmS s).sub (one1 d (fmS t))).vl _=_
 rw [one1_vl _ hd _ _ hsp]
 refine vl_congr (fun c hc => ?_) _ hsp
 obtain ⟨g1,g2⟩:=let_ne hc
 have e : (Fm.lf c).vl (bitF m)=bitF m c:=by rw [Fm.vl,if_neg g1,if_neg g2]
 rw [e]
 cases hv : (fmS t).vl (bitF m) with
 | true =>
   rw [if_pos rfl,bit_on hc hd]
   by_cases he : c=d
   . simp [he]
   . simp [he]
 | false =>
   rw [if_neg (show ¬ (false=true) by decide),bit_off hm hc hd]
   by_cases he : c=d
   . simp [he]
   . simp [he]
end Abs.Y
