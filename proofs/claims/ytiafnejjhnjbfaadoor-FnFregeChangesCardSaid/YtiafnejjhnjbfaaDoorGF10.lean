/- What functions of this program compute, over plain data. No condition. -/
import Derived.Test.YtiafnejjhnjbfaaDoorGF9
set_option linter.all false
open Nat renaming reduceEqDiff -> Qa, reduceLT -> Qb, reduceAdd -> Qc, reduceMul -> Qd, reduceSub -> Qe, reduceLeDiff -> Qf, reduceSubDiff -> Qg, reduceBEq -> Qh
open Bool renaming not_eq_true' -> Ba, not_eq_false' -> Bb, and_eq_true -> Bc, or_eq_true -> Bh, or_eq_false_iff -> Be
open Int renaming ofNat_lt -> Ia, ofNat_le -> Ib, not_lt -> Ic, not_le -> Ie
open Decidable renaming not_not -> Da
namespace Abs
open Go Go.Proofs
theorem Ok.seqE {P : Program} {N : Nat} {x y : Code} {Q : Exit->St->Prop} {st : St} {α : Type} (F : α->St) (I : α->Prop) (h2 : Ok P N x (fun e s => (e=.normal∧∃ a,I a∧Wk N s (F a))∨(e ≠ .normal∧Q e s)) st) (h1 : ∀ a,I a->Ok P N y Q (F a)) : Ok P N (.seq x y) Q st :=
 Ok.seq (h2.mono fun e s h => by
  cases e with
  | normal =>
    rcases h with ⟨_,a,ha,h⟩ | ⟨h,_⟩
    . exact Ok.weak h (h1 a ha)
    . exact absurd rfl h
  | _ =>
    rcases h with ⟨h,_⟩ | ⟨_,h⟩
    . cases h
    . exact h)
end Abs
namespace Abs.Y
open Go Go.Proofs Abs
set_option maxRecDepth 100000

def wS (d : UInt8) : Nat:=if d=97 then 5 else if d=98 then 5 else if d=99 then 5 else 1
theorem subL_w {a b c : List UInt8} (ha : a.length<=5) (hb : b.length<=5) (hc : c.length<=5) (d : UInt8) : (subL a b c d).length<=wS d:=by
 unfold subL wS
 split
 . exact ha
 . split
   . exact hb
   . split
     . exact hc
     . exact Nat.le_refl _
theorem flat_w {f : UInt8->List UInt8} (h : ∀ d,(f d).length<=wS d) : ∀ l : List UInt8,(l.flatMap f).length<=(l.map wS).sum
 | [] => by simp
 | d :: l => by
   rw [List.flatMap_cons,List.length_append,List.map_cons,List.sum_cons]
   have:=h d
   have:=flat_w h l
   omega
theorem sch_w : ∀ j,((sch j).tl.map wS).sum<=80
 | 0 | 1 | 2 | 3 | 4 | 5 | 6 | 7 | 8 => by decide
 | _ + 9 => by show 1<=80; omega
theorem case5 {j : Nat} {a b c : ByteArray} (ha : a.size<=5) (hb : b.size<=5) (hc : c.size<=5) : (caseT j a b c).size<=80:=by
 rw [size_BL]
 show (caseL j a b c).length<=80
 exact Nat.le_trans (flat_w (subL_w ha hb hc) _) (sch_w j)
theorem caseOk {j : Nat} {a b c : ByteArray} (ha : okS a=true) (hb : okS b=true) (hc : okS c=true) (hz : (caseT j a b c).size<=80) : okS (caseT j a b c)=true:=by
 have h:=caseT_F (j:=j) ha hb hc
 rw [h] at hz ⊢
 exact okS_T (wf_sub (fun d => by
  unfold f3; split
  . exact (okS_spec ha).1
  . split
    . exact (okS_spec hb).1
    . exact (okS_spec hc).1) _ (sch_wf _)) hz
theorem p2_ok {f : ByteArray} (h : okS f=true) (ho : (fmS f).op=62) : okS (fmS f).p2=true:=by
 obtain ⟨hw,hT,hz⟩:=okS_spec h
 rw [hT] at hz
 generalize fmS f=x at *
 cases x with
 | lf c =>
   rw [Fm.op] at ho
   rw [ho] at hw; exact absurd hw (by decide)
 | ng a => exact absurd (show (126 : UInt8)=62 from ho) (by decide)
 | jn o a b =>
   have hw : (isOp o && a.wf && b.wf)=true:=hw
   simp only [Bc] at hw
   rw [size_jn] at hz
   exact okS_T hw.2 (by omega)
theorem l22P_ok (f : ByteArray) (h : okS f=true) : Ctr Tryd.prog 45 [.str f] true (.tup [.d (.int .u8 (fmS f).op.toNat),.d (.str (fmS f).p1),.d (.str (fmS f).p2)]) []:=by
 obtain ⟨hw,hT,hz⟩:=okS_spec h
 have c:=l22Parts_ok (fmS f) hw (by rw [← hT]; omega)
 rwa [← hT] at c
def AllOk (ss : List Fs) : Prop:=∀ s ∈ ss,okS s.f=true
theorem AllOk.app {ss : List Fs} (h : AllOk ss) {s : Fs} (hs : okS s.f=true) : AllOk (ss++[s]):=fun x hx => by
 rcases List.mem_append.1 hx with hx | hx
 . exact h x hx
 . rw [List.mem_singleton] at hx; subst hx; exact hs
theorem AllOk.at {ss : List Fs} (h : AllOk ss) {i : Nat} (hi : i < ss.length) : okS (ss.getD i Fs.z).f=true:=h _ (getD_mem hi)
def Some24 (gs : List ByteArray) (ss : List Fs) : Prop:=(∀ g ∈ gs,okS g=true)->0 < ss.length
@[reducible] def QFr (gs : List ByteArray) : AV->Prop:=fun r => ∃ ss : List Fs,r=.d (.slice (ss.map fsD))∧ss.length<=90∧(∀ s ∈ ss,s.f.size<=100)∧Some24 gs ss
@[reducible] def rowF (ss : List Fs) : AO:=.arr 67 4 (ss.map fsD)
theorem fs_app (l : List Fs) (f : ByteArray) (r a b : Int) : l.map fsD++[.agg [.str f,.int .i64 r,.int .i64 a,.int .i64 b]]=(l++[(⟨f,r,a,b⟩ : Fs)]).map fsD:=by rw [List.map_append]; rfl
theorem fs_set (l : List Fs) (i : Nat) (f : ByteArray) (r a b : Int) : (l.map fsD).set i (.agg [.str f,.int .i64 r,.int .i64 a,.int .i64 b])=(l.set i (⟨f,r,a,b⟩ : Fs)).map fsD:=by rw [List.map_set]; rfl
theorem set_sz {l : List Fs} {i : Nat} {s : Fs} {n : Nat} (h : ∀ x ∈ l,x.f.size<=n) (hs : s.f.size<=n) : ∀ x ∈ l.set i s,x.f.size<=n:=fun x hx => by
 rcases List.mem_or_eq_of_mem_set hx with hx | hx
 . exact h x hx
 . subst hx; exact hs
theorem fsz_at {l : List Fs} {n i : Nat} (h : ∀ x ∈ l,x.f.size<=n) (hi : i < l.length) : (l.getD i Fs.z).f.size<=n:=h _ (getD_mem hi)
@[reducible] def CurB (code : List Int) (a : Nat) (s : Int) : AO:=.box 49 [.d (.slice (code.map (.int .u8))),.d (.int .i64 (a : Nat)),.d (.int .u64 s)]
set_option maxHeartbeats 16000000 in
theorem fregeD_ok {code : List Int} (hc : CodeOK code) (gs : List ByteArray) (hgl : gs.length<=8) (hgz : ∀ g ∈ gs,g.size<=100) : Draws 38 [.d (.slice (gs.map .str))] 30000 (QFr gs) code:=fun at_ seed h1 h2 h3 => by
 have c1:=amongB_ok hc [3,5,8,2,1,10] 1 10 (by simp) (by simp)
 have c2:=one_ok hc 4 (by omega)
 have c3:=one_ok hc 2 (by omega)
 have hfs:=fun (l : List Fs) (i : Nat) (h : i < l.length) => el_fs (xs:=l) h
 simp only [List.map_cons,List.map_nil] at c1
 refine CtrR.ofO (n:=217) (rs:=[.tmp 4]) Tryd.func38 rfl rfl Tryd.ntmps38 rfl rfl (by kernel_rfl) Tryd.checked.mixed ?_; intro u
 refine Ok.endsW ?_
 refine Ok.seq (Ok.go ?_)
 simp (disch:=first | omega | decide +kernel) only [curO,curB,D.bytes,go_sem,Qa,Qb,Qc,Qd,Qe,↓reduceIte,reduceCtorEq,Qf,Qg,Qh]
 (repeat' (first | ((first | (refine gsel_split (fun q' => ?_) (fun q' => ?_)<;>(have h':=q')<;>(try simp only [za1,za2,Ba,Bb,za3,ne_eq,za4,za5,za6,Ia,Ib,Ic,Ie,Da,Bc,Bh,Be,za7,za8] at h')<;>try (exfalso; omega)) | (have q':=trivial; first | refine hE _ _ ret_ne ?_ | refine hE _ _ exit_ne ?_))<;>(try simp (disch:=first | omega | decide +kernel) only [q',curO,curB,D.bytes,go_sem,Qa,Qb,Qc,Qd,Qe,↓reduceIte,reduceCtorEq,Qf,Qg,Qh])<;>clear q') | refine hN _ ?_ ?_ Wk.kk | with_reducible refine And.intro ?_ ?_ | with_reducible omega | exact ok_ints | exact cells_ints | exact no_mem | with_reducible exact plain_ints | (refine le_maxLen ?_; omega) | (refine za9 ⟨?_,?_⟩) | (simp only [go_sem,Qc,Qb,zb1,zb2,forall_eq]; done)))
 refine Ok.seq (Ok.go ?_)
 simp (disch:=first | omega | decide +kernel) only [curO,curB,D.bytes,go_sem,Qa,Qb,Qc,Qd,Qe,↓reduceIte,reduceCtorEq,Qf,Qg,Qh]
 (repeat' (first | ((first | (refine gsel_split (fun q' => ?_) (fun q' => ?_)<;>(have h':=q')<;>(try simp only [za1,za2,Ba,Bb,za3,ne_eq,za4,za5,za6,Ia,Ib,Ic,Ie,Da,Bc,Bh,Be,za7,za8] at h')<;>try (exfalso; omega)) | (have q':=trivial; first | refine hE _ _ ret_ne ?_ | refine hE _ _ exit_ne ?_))<;>(try simp (disch:=first | omega | decide +kernel) only [q',curO,curB,D.bytes,go_sem,Qa,Qb,Qc,Qd,Qe,↓reduceIte,reduceCtorEq,Qf,Qg,Qh])<;>clear q') | refine hN _ ?_ ?_ Wk.kk | with_reducible refine And.intro ?_ ?_ | with_reducible omega | exact ok_ints | exact cells_ints | exact no_mem | with_reducible exact plain_ints | (refine le_maxLen ?_; omega) | (refine za9 ⟨?_,?_⟩) | (simp only [go_sem,Qc,Qb,zb1,zb2,forall_eq]; done)))
 refine Ok.seq (Ok.go ?_)
 simp (disch:=first | omega | decide +kernel) only [curO,curB,D.bytes,go_sem,Qa,Qb,Qc,Qd,Qe,↓reduceIte,reduceCtorEq,Qf,Qg,Qh]
 (repeat' (first | ((first | (refine gsel_split (fun q' => ?_) (fun q' => ?_)<;>(have h':=q')<;>(try simp only [za1,za2,Ba,Bb,za3,ne_eq,za4,za5,za6,Ia,Ib,Ic,Ie,Da,Bc,Bh,Be,za7,za8] at h')<;>try (exfalso; omega)) | (have q':=trivial; first | (refine callX_drawL _ _ (c1) ⟨.inl rfl,.inl rfl,trivial⟩ rfl rfl (by decide) (by simp [dstB]) (by omega) (by omega) (by omega) ?_; rintro _ at1 sd1 hat1 hat2 hsd1 hsd2 ⟨x1,rfl,hx1⟩) | refine hE _ _ ret_ne ?_ | refine hE _ _ exit_ne ?_))<;>(try simp (disch:=first | omega | decide +kernel) only [q',curO,curB,D.bytes,go_sem,Qa,Qb,Qc,Qd,Qe,↓reduceIte,reduceCtorEq,Qf,Qg,Qh])<;>clear q') | refine hN _ ?_ ?_ Wk.kk | with_reducible refine And.intro ?_ ?_ | with_reducible omega | exact ok_ints | exact cells_ints | exact no_mem | with_reducible exact plain_ints | (refine le_maxLen ?_; omega) | (refine za9 ⟨?_,?_⟩) | (simp only [go_sem,Qc,Qb,zb1,zb2,forall_eq]; done)))
 refine Ok.weak (show Wk _ _ ⟨[(1000000000,.hdr 0 (u 0)),(6,.d (.int .i64 x1)),(5,.sl 19),(1,.d (.slice (gs.map .str))),(0,.p 0 0)],[(19,rowF []),(0,CurB code at1 sd1)]⟩ from (Wk.kk)) ?_
 refine Ok.loopNO [216,215,214,213,212,211,210,209,208,207,206,205,204,203,202,201,200,199,198,197,196,195,194,193,192,191,190,189,188,187,186,185,184,183,182,181,180,179,178,177,176,175,174,173,172,171,170,169,168,167,166,165,164,163,162,161,160,159,158,157,156,155,154,153,152,151,150,149,148,147,146,145,144,143,142,141,140,139,138,137,136,135,134,133,132,131,130,129,128,127,126,125,124,123,122,121,120,119,118,117,116,115,114,113,112,111,110,109,108,107,106,105,104,103,102,101,100,99,98,97,96,95,94,93,92,91,90,89,88,87,86,85,84,83,82,81,80,79,78,77,76,75,74,73,72,71,70,69,68,67,66,65,64,63,62,61,60,59,58,57,56,55,54,53,52,51,50,49,48,47,46,45,44,43,42,41,40,39,38,37,36,35,34,33,32,31,30,29,28,27,26,25,24,23,22,21,20,19,18,17,16,15,14,13,12,11,10,9,8,7,6,5,4,3,2] (fun i (a : (List Fs × Int) × (Nat × Int)) => [(6,.d (.int .i64 a.1.2)),(5,.sl 19)])
  (fun _ (a : (List Fs × Int) × (Nat × Int)) => [(19,rowF a.1.1),(0,CurB code a.2.1 a.2.2)]) 10
  (fun i a => a.1.2=x1 - i∧a.1.1.length<=i∧AllOk a.1.1∧(0 < i->Some24 gs a.1.1)∧at_<=a.2.1∧a.2.1<=at_ + 2 + 1000 * i∧0<=a.2.2∧a.2.2 < 18446744073709551616) (([],x1),(at1,sd1)) ⟨by show x1=x1 - ((0 : Nat) : Int); omega,Nat.le_refl _,fun g hg => absurd hg List.not_mem_nil,fun h => absurd h (by omega),by dsimp only; omega,by dsimp only; omega,hsd1,hsd2⟩ (Wk.kk) ?_
 rintro R i ⟨⟨o,n⟩,a,s⟩ hN hE1 hi ⟨hn,ho1,ho2,ho3,ha1,ha2,hs1,hs2⟩
 dsimp only at hn ho1 ho2 ho3 ha1 ha2 hs1 hs2 ⊢
 clear c1
 by_cases h0 : 0 < n
 . clear hE1
   refine Ok.seq (Ok.go ?_)
   simp (disch:=first | omega | decide +kernel) only [go_sem,Qa,Qb,Qc,Qd,Qe,↓reduceIte,reduceCtorEq,Qf,Qg,Qh]
   (repeat' (first | ((first | (refine gsel_split (fun q' => ?_) (fun q' => ?_)<;>(have h':=q')<;>(try simp only [za1,za2,Ba,Bb,za3,ne_eq,za4,za5,za6,Ia,Ib,Ic,Ie,Da,Bc,Bh,Be,za7,za8] at h')<;>try (exfalso; omega)) | (have q':=trivial; first | refine hE _ _ ret_ne ?_ | refine hE _ _ exit_ne ?_))<;>(try simp (disch:=first | omega | decide +kernel) only [q',go_sem,Qa,Qb,Qc,Qd,Qe,↓reduceIte,reduceCtorEq,Qf,Qg,Qh])<;>clear q') | refine hN _ ?_ ?_ Wk.kk | with_reducible refine And.intro ?_ ?_ | with_reducible omega | exact ok_ints | exact cells_ints | exact no_mem | with_reducible exact plain_ints | (refine le_maxLen ?_; omega) | (refine za9 ⟨?_,?_⟩) | (simp only [go_sem,Qc,Qb,zb1,zb2,forall_eq]; done)))
   refine Ok.seqE (α:=List Fs × (Nat × Int)) (fun b => ⟨[(1000000000,.hdr 0 (u 0)),(6,.d (.int .i64 n)),(5,.sl 19),(1,.d (.slice (gs.map .str))),(0,.p 0 0)],[(19,rowF b.1),(0,CurB code b.2.1 b.2.2)]⟩)
    (fun b => b.1.length<=i + 1∧AllOk b.1∧Some24 gs b.1∧a<=b.2.1∧b.2.1<=a + 1000∧0<=b.2.2∧b.2.2 < 18446744073709551616) (Ok.block ?_) ?_
   . clear hN
     refine Ok.seq (Ok.go ?_)
     simp (disch:=first | omega | decide +kernel) only [go_sem,Qa,Qb,Qc,Qd,Qe,↓reduceIte,reduceCtorEq,Qf,Qg,Qh]
     (repeat' (first | ((first | (refine gsel_split (fun q' => ?_) (fun q' => ?_)<;>(have h':=q')<;>(try simp only [za1,za2,Ba,Bb,za3,ne_eq,za4,za5,za6,Ia,Ib,Ic,Ie,Da,Bc,Bh,Be,za7,za8] at h')<;>try (exfalso; omega)) | (have q':=trivial; first | refine hE _ _ ret_ne ?_ | refine hE _ _ exit_ne ?_))<;>(try simp (disch:=first | omega | decide +kernel) only [q',go_sem,Qa,Qb,Qc,Qd,Qe,↓reduceIte,reduceCtorEq,Qf,Qg,Qh])<;>clear q') | refine hN _ ?_ ?_ Wk.kk | with_reducible refine And.intro ?_ ?_ | with_reducible omega | exact ok_ints | exact cells_ints | exact no_mem | with_reducible exact plain_ints | (refine le_maxLen ?_; omega) | (refine za9 ⟨?_,?_⟩) | (simp only [go_sem,Qc,Qb,zb1,zb2,forall_eq]; done)))
     refine Ok.seqE (α:=(List Fs × Bool) × (Nat × Int)) (fun b => ⟨[(1000000000,.hdr 0 (u 0)),(7,.d (.bool b.1.2)),(6,.d (.int .i64 n)),(5,.sl 19),(1,.d (.slice (gs.map .str))),(0,.p 0 0)],[(19,rowF b.1.1),(0,CurB code b.2.1 b.2.2)]⟩)
      (fun b => (b.1.2=false->b.1.1.length<=i)∧b.1.1.length<=i + 1∧AllOk b.1.1∧(b.1.2=true->0 < b.1.1.length)∧o.length<=b.1.1.length∧a<=b.2.1∧b.2.1<=a + 600∧0<=b.2.2∧b.2.2 < 18446744073709551616) (Ok.go ?_) ?_
     . simp (disch:=first | omega | decide +kernel) only [go_sem,Qa,Qb,Qc,Qd,Qe,↓reduceIte,reduceCtorEq,Qf,Qg,Qh]
       (repeat' (first | ((first | (refine gsel_split (fun q' => ?_) (fun q' => ?_)<;>(have h':=q')<;>(try simp only [za1,za2,Ba,Bb,za3,ne_eq,za4,za5,za6,Ia,Ib,Ic,Ie,Da,Bc,Bh,Be,za7,za8] at h')<;>try (exfalso; omega)) | (have q':=trivial; first | refine hE _ _ ret_ne ?_ | refine hE _ _ exit_ne ?_))<;>(try simp (disch:=first | omega | decide +kernel) only [q',go_sem,Qa,Qb,Qc,Qd,Qe,↓reduceIte,reduceCtorEq,Qf,Qg,Qh])<;>clear q') | refine hN _ ?_ ?_ Wk.kk | with_reducible refine And.intro ?_ ?_ | with_reducible omega | exact ok_ints | exact cells_ints | exact no_mem | with_reducible exact plain_ints | (refine le_maxLen ?_; omega) | (refine za9 ⟨?_,?_⟩) | (simp only [go_sem,Qc,Qb,zb1,zb2,forall_eq]; done)))
       refine Ok.weak (show Wk _ _ ⟨[(1000000000,.hdr 0 (u 0)),(8,.d (.int .i64 (0 : Nat))),(7,.d (.bool false)),(6,.d (.int .i64 n)),(5,.sl 19),(1,.d (.slice (gs.map .str))),(0,.p 0 0)],[(19,rowF o),(0,CurB code a s)]⟩ from (Wk.kk)) ?_
       refine Ok.loopN [216,215,214,213,212,211,210,209,208,207,206,205,204,203,202,201,200,199,198,197,196,195,194,193,192,191,190,189,188,187,186,185,184,183,182,181,180,179,178,177,176,175,174,173,172,171,170,169,168,167,166,165,164,163,162,161,160,159,158,157,156,155,154,153,152,151,150,149,148,147,146,145,144,143,142,141,140,139,138,137,136,135,134,133,132,131,130,129,128,127,126,125,124,123,122,121,120,119,118,117,116,115,114,113,112,111,110,109,108,107,106,105,104,103,102,101,100,99,98,97,96,95,94,93,92,91,90,89,88,87,86,85,84,83,82,81,80,79,78,77,76,75,74,73,72,71,70,69,68,67,66,65,64,63,62,61,60,59,58,57,56,55,54,53,52,51,50,49,48,47,46,45,44,43,42,41,40,39,38,37,36,35,34,33,32,31,30,29,28,27,26,25,24,23,22,21,20,19,18,17,16,15,14,13,12,11,10,9,8,7,5,4,3,2] (fun j (b : (List Fs × Bool) × (Nat × Int)) => [(8,.d (.int .i64 (j : Nat))),(7,.d (.bool b.1.2)),(5,.sl 19)])
        (fun _ (b : (List Fs × Bool) × (Nat × Int)) => [(19,rowF b.1.1),(0,CurB code b.2.1 b.2.2)]) 12
        (fun j b => (b.1.2=false->b.1.1.length<=i)∧b.1.1.length<=i + 1∧AllOk b.1.1∧(b.1.2=true->0 < b.1.1.length)∧o.length<=b.1.1.length∧a<=b.2.1∧b.2.1<=a + 40 * j∧0<=b.2.2∧b.2.2 < 18446744073709551616) ((o,false),(a,s)) ⟨fun _ => ho1,by dsimp only; omega,ho2,fun h => Bool.noConfusion h,Nat.le_refl _,Nat.le_refl _,Nat.le_refl _,hs1,hs2⟩ (Wk.kk) ?_
       rintro R2 j ⟨⟨w,fd⟩,a2,s2⟩ hN2 hE2 hj ⟨hf,hwl,hok,hft,hol,ha21,ha22,hs21,hs22⟩
       dsimp only at hf hwl hok hft hol ha21 ha22 hs21 hs22 ⊢
       have eN : ((j : Nat) : Int) + 1=((j + 1 : Nat) : Int):=by omega
       by_cases hjw : j < w.length
       . cases fd with
         | true =>
           simp (disch:=first | omega | decide +kernel) only [List.length_map,go_sem,Qa,Qb,Qc,Qd,Qe,↓reduceIte,reduceCtorEq,Qf,Qg,Qh]
           (repeat' (first | ((first | (refine gsel_split (fun q' => ?_) (fun q' => ?_)<;>(have h':=q')<;>(try simp only [za1,za2,Ba,Bb,za3,ne_eq,za4,za5,za6,Ia,Ib,Ic,Ie,Da,Bc,Bh,Be,za7,za8] at h')<;>try (exfalso; omega)) | (have q':=trivial; first | refine hE _ _ ret_ne ?_ | refine hE _ _ exit_ne ?_))<;>(try simp (disch:=first | omega | decide +kernel) only [q',curO,curB,D.bytes,List.length_map,go_sem,Qa,Qb,Qc,Qd,Qe,↓reduceIte,reduceCtorEq,Qf,Qg,Qh])<;>clear q') | refine hN _ ?_ ?_ Wk.kk | with_reducible refine And.intro ?_ ?_ | with_reducible omega | exact ok_ints | exact cells_ints | exact no_mem | with_reducible exact plain_ints | (refine le_maxLen ?_; omega) | (refine za9 ⟨?_,?_⟩) | (simp only [go_sem,Qc,Qb,zb1,zb2,forall_eq]; done)))
           refine hE2 _ _ exit_ne ?_
           simp (disch:=first | omega | decide +kernel) only [go_sem,Qa,Qb,Qc,Qd,Qe,↓reduceIte,reduceCtorEq,Qf,Qg,Qh]
           exact ⟨((w,true),(a2,s2)),⟨hf,hwl,hok,hft,hol,ha21,by dsimp only; omega,hs21,hs22⟩,(Wk.kk)⟩
         | false =>
           simp (disch:=first | omega | decide +kernel) only [List.length_map,go_sem,Qa,Qb,Qc,Qd,Qe,↓reduceIte,reduceCtorEq,Qf,Qg,Qh]
           (repeat' (first | ((first | (refine gsel_split (fun q' => ?_) (fun q' => ?_)<;>(have h':=q')<;>(try simp only [za1,za2,Ba,Bb,za3,ne_eq,za4,za5,za6,Ia,Ib,Ic,Ie,Da,Bc,Bh,Be,za7,za8] at h')<;>try (exfalso; omega)) | (have q':=trivial; first | (refine callX_draw _ (c2) ⟨.inl rfl,.inl rfl,trivial⟩ rfl (by simp [dstB]) (by omega) (by omega) (by omega) ?_; rintro _ atb sdb hatb1 hatb2 hsdb1 hsdb2 ⟨xb,rfl,hxb⟩) | refine hE _ _ ret_ne ?_ | refine hE _ _ exit_ne ?_))<;>(try simp (disch:=first | omega | decide +kernel) only [q',curO,curB,D.bytes,List.length_map,go_sem,Qa,Qb,Qc,Qd,Qe,↓reduceIte,reduceCtorEq,Qf,Qg,Qh])<;>clear q') | refine hN _ ?_ ?_ Wk.kk | with_reducible refine And.intro ?_ ?_ | with_reducible omega | exact ok_ints | exact cells_ints | exact no_mem | with_reducible exact plain_ints | (refine le_maxLen ?_; omega) | (refine za9 ⟨?_,?_⟩) | (simp only [go_sem,Qc,Qb,zb1,zb2,forall_eq]; done)))
           . refine Ok.weak (show Wk _ _ ⟨[(1000000000,.hdr 0 (u 0)),(9,.d (.int .i64 (0 : Nat))),(8,.d (.int .i64 (j : Nat))),(7,.d (.bool false)),(6,.d (.int .i64 n)),(5,.sl 19),(1,.d (.slice (gs.map .str))),(0,.p 0 0)],[(19,rowF w),(0,CurB code atb sdb)]⟩ from (Wk.kk)) ?_
             refine Ok.loopN [216,215,214,213,212,211,210,209,208,207,206,205,204,203,202,201,200,199,198,197,196,195,194,193,192,191,190,189,188,187,186,185,184,183,182,181,180,179,178,177,176,175,174,173,172,171,170,169,168,167,166,165,164,163,162,161,160,159,158,157,156,155,154,153,152,151,150,149,148,147,146,145,144,143,142,141,140,139,138,137,136,135,134,133,132,131,130,129,128,127,126,125,124,123,122,121,120,119,118,117,116,115,114,113,112,111,110,109,108,107,106,105,104,103,102,101,100,99,98,97,96,95,94,93,92,91,90,89,88,87,86,85,84,83,82,81,80,79,78,77,76,75,74,73,72,71,70,69,68,67,66,65,64,63,62,61,60,59,58,57,56,55,54,53,52,51,50,49,48,47,46,45,44,43,42,41,40,39,38,37,36,35,34,33,32,31,30,29,28,27,26,25,24,23,22,21,20,19,18,17,16,15,14,13,12,11,10,9,7,5,4,3,2] (fun k (b : (List Fs × Bool) × (Nat × Int)) => [(9,.d (.int .i64 (k : Nat))),(7,.d (.bool b.1.2)),(5,.sl 19)])
              (fun _ (b : (List Fs × Bool) × (Nat × Int)) => [(19,rowF b.1.1),(0,CurB code b.2.1 b.2.2)]) 12
              (fun k b => (b.1.2=false->b.1.1.length<=i)∧b.1.1.length<=i + 1∧AllOk b.1.1∧(b.1.2=true->0 < b.1.1.length)∧w.length<=b.1.1.length∧atb<=b.2.1∧b.2.1<=atb + 2 * k∧0<=b.2.2∧b.2.2 < 18446744073709551616) ((w,false),(atb,sdb)) ⟨fun _ => hf rfl,hwl,hok,fun h => Bool.noConfusion h,Nat.le_refl _,Nat.le_refl _,Nat.le_refl _,hsdb1,hsdb2⟩ (Wk.kk) ?_
             rintro R3 k ⟨⟨v,fe⟩,a3,s3⟩ hN3 hE3 hk ⟨hf3,hvl,hok3,hft3,hol3,ha31,ha32,hs31,hs32⟩
             dsimp only at hf3 hvl hok3 hft3 hol3 ha31 ha32 hs31 hs32 ⊢
             have eK : ((k : Nat) : Int) + 1=((k + 1 : Nat) : Int):=by omega
             by_cases hkv : k < v.length
             . cases fe with
               | true =>
                 simp (disch:=first | omega | decide +kernel) only [List.length_map,go_sem,Qa,Qb,Qc,Qd,Qe,↓reduceIte,reduceCtorEq,Qf,Qg,Qh]
                 (repeat' (first | ((first | (refine gsel_split (fun q' => ?_) (fun q' => ?_)<;>(have h':=q')<;>(try simp only [za1,za2,Ba,Bb,za3,ne_eq,za4,za5,za6,Ia,Ib,Ic,Ie,Da,Bc,Bh,Be,za7,za8] at h')<;>try (exfalso; omega)) | (have q':=trivial; first | refine hE _ _ ret_ne ?_ | refine hE _ _ exit_ne ?_))<;>(try simp (disch:=first | omega | decide +kernel) only [q',curO,curB,D.bytes,List.length_map,go_sem,Qa,Qb,Qc,Qd,Qe,↓reduceIte,reduceCtorEq,Qf,Qg,Qh])<;>clear q') | refine hN _ ?_ ?_ Wk.kk | with_reducible refine And.intro ?_ ?_ | with_reducible omega | exact ok_ints | exact cells_ints | exact no_mem | with_reducible exact plain_ints | (refine le_maxLen ?_; omega) | (refine za9 ⟨?_,?_⟩) | (simp only [go_sem,Qc,Qb,zb1,zb2,forall_eq]; done)))
                 refine hE3 _ _ exit_ne ?_
                 simp (disch:=first | omega | decide +kernel) only [eN,go_sem,Qa,Qb,Qc,Qd,Qe,↓reduceIte,reduceCtorEq,Qf,Qg,Qh]
                 refine hN2 ((v,true),(a3,s3)) _ (by omega) ⟨hf3,hvl,hok3,hft3,by dsimp only; omega,by dsimp only; omega,by dsimp only; omega,hs31,hs32⟩ (Wk.kk)
               | false =>
                 have hf4:=hf3 rfl
                 have he:=hfs v k hkv
                 have he2:=hfs v j (by omega)
                 have hkk:=hok3.at hkv
                 have cl:=l22P_ok _ hkk
                 have hp2:=p2_ok hkk
                 generalize v.getD k Fs.z=x at *
                 generalize v.getD j Fs.z=y at *
                 generalize (fmS x.f).p1=s1 at *
                 generalize (fmS x.f).p2=s2 at *
                 generalize (fmS x.f).op=op at *
                 by_cases ho : op=62
                 . subst ho
                   have hp2:=hp2 rfl
                   have eop : ((62 : UInt8).toNat : Int)=62:=rfl
                   rw [eop] at cl
                   simp (disch:=first | omega | decide +kernel) only [List.length_map,he,he2,Int.toNat_natCast,beq_str,eK,go_sem,Qa,Qb,Qc,Qd,Qe,↓reduceIte,reduceCtorEq,Qf,Qg,Qh]
                   (repeat' (first | ((first | (refine gsel_split (fun q' => ?_) (fun q' => ?_)<;>(have h':=q')<;>(try simp only [za1,za2,Ba,Bb,za3,ne_eq,za4,za5,za6,Ia,Ib,Ic,Ie,Da,Bc,Bh,Be,za7,za8] at h')<;>try (exfalso; omega)) | (have q':=trivial; first | refine callX_shared (cl) rfl (by decide) ?_ | refine callY_shared (cl) rfl ?_ | (refine callX_draw _ (c3) ⟨.inl rfl,.inl rfl,trivial⟩ rfl (by simp [dstB]) (by omega) (by omega) (by omega) ?_; rintro _ atd sdd hatd1 hatd2 hsdd1 hsdd2 ⟨xd,rfl,hxd⟩) | refine hE _ _ ret_ne ?_ | refine hE _ _ exit_ne ?_))<;>(try simp (disch:=first | omega | decide +kernel) only [q',curO,curB,D.bytes,List.length_map,he,he2,Int.toNat_natCast,beq_str,eK,fs_app,go_sem,Qa,Qb,Qc,Qd,Qe,↓reduceIte,reduceCtorEq,Qf,Qg,Qh])<;>clear q') | refine hN _ ?_ ?_ Wk.kk | with_reducible refine And.intro ?_ ?_ | with_reducible omega | exact ok_ints | exact cells_ints | exact no_mem | with_reducible exact plain_ints | (refine le_maxLen ?_; omega) | (refine za9 ⟨?_,?_⟩) | (simp only [go_sem,Qc,Qb,zb1,zb2,forall_eq]; done)))
                   . exact okA _ _ _ _
                   . refine hN3 ((v++[(⟨s2,-1,(j : Int),(k : Int)⟩ : Fs)],true),(atd,sdd)) _ (by omega) ⟨fun h => Bool.noConfusion h,by simp; omega,hok3.app hp2,fun _ => by simp,by simp; omega,by dsimp only; omega,by dsimp only; omega,hsdd1,hsdd2⟩ (Wk.kk)
                   . refine hN3 ((v,false),(atd,sdd)) _ (by omega) ⟨fun _ => hf4,hvl,hok3,hft3,by dsimp only; omega,by dsimp only; omega,by dsimp only; omega,hsdd1,hsdd2⟩ (Wk.kk)
                   . refine hN3 ((v,false),(a3,s3)) _ (by omega) ⟨fun _ => hf4,hvl,hok3,hft3,by dsimp only; omega,by dsimp only; omega,by dsimp only; omega,hs31,hs32⟩ (Wk.kk)
                 . have hc62 : ¬ (op.toNat : Int)=62:=fun h => ho (toN_eq (d:=62) |>.1 h)
                   simp (disch:=first | omega | decide +kernel) only [List.length_map,he,he2,Int.toNat_natCast,beq_str,hc62,eK,go_sem,Qa,Qb,Qc,Qd,Qe,↓reduceIte,reduceCtorEq,Qf,Qg,Qh]
                   (repeat' (first | ((first | (refine gsel_split (fun q' => ?_) (fun q' => ?_)<;>(have h':=q')<;>(try simp only [za1,za2,Ba,Bb,za3,ne_eq,za4,za5,za6,Ia,Ib,Ic,Ie,Da,Bc,Bh,Be,za7,za8] at h')<;>try (exfalso; omega)) | (have q':=trivial; first | refine callX_shared (cl) rfl (by decide) ?_ | refine callY_shared (cl) rfl ?_ | refine hE _ _ ret_ne ?_ | refine hE _ _ exit_ne ?_))<;>(try simp (disch:=first | omega | decide +kernel) only [q',curO,curB,D.bytes,List.length_map,he,he2,Int.toNat_natCast,beq_str,hc62,eK,go_sem,Qa,Qb,Qc,Qd,Qe,↓reduceIte,reduceCtorEq,Qf,Qg,Qh])<;>clear q') | refine hN _ ?_ ?_ Wk.kk | with_reducible refine And.intro ?_ ?_ | with_reducible omega | exact ok_ints | exact cells_ints | exact no_mem | with_reducible exact plain_ints | (refine le_maxLen ?_; omega) | (refine za9 ⟨?_,?_⟩) | (simp only [go_sem,Qc,Qb,zb1,zb2,forall_eq]; done)))
                   all_goals (first | (refine hN3 ((v,false),(a3,s3)) _ (by omega) ⟨fun _ => hf4,hvl,hok3,hft3,by dsimp only; omega,by dsimp only; omega,by dsimp only; omega,hs31,hs32⟩ (Wk.kk); done))
             . simp (disch:=first | omega | decide +kernel) only [List.length_map,go_sem,Qa,Qb,Qc,Qd,Qe,↓reduceIte,reduceCtorEq,Qf,Qg,Qh]
               (repeat' (first | ((first | (refine gsel_split (fun q' => ?_) (fun q' => ?_)<;>(have h':=q')<;>(try simp only [za1,za2,Ba,Bb,za3,ne_eq,za4,za5,za6,Ia,Ib,Ic,Ie,Da,Bc,Bh,Be,za7,za8] at h')<;>try (exfalso; omega)) | (have q':=trivial; first | refine hE _ _ ret_ne ?_ | refine hE _ _ exit_ne ?_))<;>(try simp (disch:=first | omega | decide +kernel) only [q',curO,curB,D.bytes,List.length_map,go_sem,Qa,Qb,Qc,Qd,Qe,↓reduceIte,reduceCtorEq,Qf,Qg,Qh])<;>clear q') | refine hN _ ?_ ?_ Wk.kk | with_reducible refine And.intro ?_ ?_ | with_reducible omega | exact ok_ints | exact cells_ints | exact no_mem | with_reducible exact plain_ints | (refine le_maxLen ?_; omega) | (refine za9 ⟨?_,?_⟩) | (simp only [go_sem,Qc,Qb,zb1,zb2,forall_eq]; done)))
               refine hE3 _ _ exit_ne ?_
               simp (disch:=first | omega | decide +kernel) only [eN,go_sem,Qa,Qb,Qc,Qd,Qe,↓reduceIte,reduceCtorEq,Qf,Qg,Qh]
               refine hN2 ((v,fe),(a3,s3)) _ (by omega) ⟨hf3,hvl,hok3,hft3,by dsimp only; omega,by dsimp only; omega,by dsimp only; omega,hs31,hs32⟩ (Wk.kk)
           . refine hE2 _ _ exit_ne ?_
             simp (disch:=first | omega | decide +kernel) only [go_sem,Qa,Qb,Qc,Qd,Qe,↓reduceIte,reduceCtorEq,Qf,Qg,Qh]
             exact ⟨((w,false),(atb,sdb)),⟨hf,hwl,hok,hft,hol,by dsimp only; omega,by dsimp only; omega,hsdb1,hsdb2⟩,(Wk.kk)⟩
       . simp (disch:=first | omega | decide +kernel) only [List.length_map,go_sem,Qa,Qb,Qc,Qd,Qe,↓reduceIte,reduceCtorEq,Qf,Qg,Qh]
         (repeat' (first | ((first | (refine gsel_split (fun q' => ?_) (fun q' => ?_)<;>(have h':=q')<;>(try simp only [za1,za2,Ba,Bb,za3,ne_eq,za4,za5,za6,Ia,Ib,Ic,Ie,Da,Bc,Bh,Be,za7,za8] at h')<;>try (exfalso; omega)) | (have q':=trivial; first | refine hE _ _ ret_ne ?_ | refine hE _ _ exit_ne ?_))<;>(try simp (disch:=first | omega | decide +kernel) only [q',curO,curB,D.bytes,List.length_map,go_sem,Qa,Qb,Qc,Qd,Qe,↓reduceIte,reduceCtorEq,Qf,Qg,Qh])<;>clear q') | refine hN _ ?_ ?_ Wk.kk | with_reducible refine And.intro ?_ ?_ | with_reducible omega | exact ok_ints | exact cells_ints | exact no_mem | with_reducible exact plain_ints | (refine le_maxLen ?_; omega) | (refine za9 ⟨?_,?_⟩) | (simp only [go_sem,Qc,Qb,zb1,zb2,forall_eq]; done)))
         refine hE2 _ _ exit_ne ?_
         simp (disch:=first | omega | decide +kernel) only [go_sem,Qa,Qb,Qc,Qd,Qe,↓reduceIte,reduceCtorEq,Qf,Qg,Qh]
         exact ⟨((w,fd),(a2,s2)),⟨hf,hwl,hok,hft,hol,ha21,by dsimp only; omega,hs21,hs22⟩,(Wk.kk)⟩
     . rintro ⟨⟨w,fd⟩,a2,s2⟩ ⟨hf,hwl,hok,hft,hol,ha21,ha22,hs21,hs22⟩
       dsimp only at hf hwl hok hft hol ha21 ha22 hs21 hs22 ⊢
       cases fd with
       | true =>
         refine Ok.go ?_
         simp (disch:=first | omega | decide +kernel) only [go_sem,Qa,Qb,Qc,Qd,Qe,↓reduceIte,reduceCtorEq,Qf,Qg,Qh]
         (repeat' (first | ((first | (refine gsel_split (fun q' => ?_) (fun q' => ?_)<;>(have h':=q')<;>(try simp only [za1,za2,Ba,Bb,za3,ne_eq,za4,za5,za6,Ia,Ib,Ic,Ie,Da,Bc,Bh,Be,za7,za8] at h')<;>try (exfalso; omega)) | (have q':=trivial; first | refine hE _ _ ret_ne ?_ | refine hE _ _ exit_ne ?_))<;>(try simp (disch:=first | omega | decide +kernel) only [q',go_sem,Qa,Qb,Qc,Qd,Qe,↓reduceIte,reduceCtorEq,Qf,Qg,Qh])<;>clear q') | refine hN _ ?_ ?_ Wk.kk | with_reducible refine And.intro ?_ ?_ | with_reducible omega | exact ok_ints | exact cells_ints | exact no_mem | with_reducible exact plain_ints | (refine le_maxLen ?_; omega) | (refine za9 ⟨?_,?_⟩) | (simp only [go_sem,Qc,Qb,zb1,zb2,forall_eq]; done)))
         exact ⟨(w,(a2,s2)),⟨hwl,hok,fun _ => hft rfl,ha21,by dsimp only; omega,hs21,hs22⟩,(Wk.kk)⟩
       | false =>
         have hf:=hf rfl
         refine Ok.seq (Ok.go ?_)
         simp (disch:=first | omega | decide +kernel) only [go_sem,Qa,Qb,Qc,Qd,Qe,↓reduceIte,reduceCtorEq,Qf,Qg,Qh]
         (repeat' (first | ((first | (refine gsel_split (fun q' => ?_) (fun q' => ?_)<;>(have h':=q')<;>(try simp only [za1,za2,Ba,Bb,za3,ne_eq,za4,za5,za6,Ia,Ib,Ic,Ie,Da,Bc,Bh,Be,za7,za8] at h')<;>try (exfalso; omega)) | (have q':=trivial; first | refine hE _ _ ret_ne ?_ | refine hE _ _ exit_ne ?_))<;>(try simp (disch:=first | omega | decide +kernel) only [q',go_sem,Qa,Qb,Qc,Qd,Qe,↓reduceIte,reduceCtorEq,Qf,Qg,Qh])<;>clear q') | refine hN _ ?_ ?_ Wk.kk | with_reducible refine And.intro ?_ ?_ | with_reducible omega | exact ok_ints | exact cells_ints | exact no_mem | with_reducible exact plain_ints | (refine le_maxLen ?_; omega) | (refine za9 ⟨?_,?_⟩) | (simp only [go_sem,Qc,Qb,zb1,zb2,forall_eq]; done)))
         have c6:=one_ok hc 3 (by omega)
         have c7:=pick_ok hc (gs.length : Nat) (by omega)
         have hge:=fun (y : Int) (h1 : 0<=y) (h2 : y < gs.length) => el_gs (xs:=gs) (i:=y.toNat) (by omega)
         have hgy:=fun (y : Int) (h1 : 0<=y) (h2 : y < gs.length) => hgz (gs.getD y.toNat nilB) (getD_mem (by omega))
         have c8:=fun (y : Int) (h1 : 0<=y) (h2 : y < gs.length) => l22Good_ok (gs.getD y.toNat nilB) (by have:=hgy y h1 h2; omega)
         refine Ok.seqE (α:=Nat × Int) (fun b => ⟨[(1000000000,.hdr 0 (u 0)),(6,.d (.int .i64 n)),(5,.sl 19),(1,.d (.slice (gs.map .str))),(0,.p 0 0)],[(19,rowF w),(0,CurB code b.1 b.2)]⟩)
          (fun b => a2<=b.1∧b.1<=a2 + 10∧0<=b.2∧b.2 < 18446744073709551616) (Ok.go ?_) ?_
         . simp (disch:=first | omega | decide +kernel) only [List.length_map,go_sem,Qa,Qb,Qc,Qd,Qe,↓reduceIte,reduceCtorEq,Qf,Qg,Qh]
           (repeat' (first | ((first | (refine gsel_split (fun q' => ?_) (fun q' => ?_)<;>(have h':=q')<;>(try simp only [za1,za2,Ba,Bb,za3,ne_eq,za4,za5,za6,Ia,Ib,Ic,Ie,Da,Bc,Bh,Be,za7,za8] at h')<;>try (exfalso; omega)) | (have q':=trivial; first | (refine callX_draw _ (c6) ⟨.inl rfl,.inl rfl,trivial⟩ rfl (by simp [dstB]) (by omega) (by omega) (by omega) ?_; rintro _ atb sdb hatb1 hatb2 hsdb1 hsdb2 ⟨xb,rfl,hxb⟩) | (refine callX_draw _ (c7) ⟨.inl rfl,.inl rfl,trivial⟩ rfl (by simp [dstB]) (by omega) (by omega) (by omega) ?_; rintro _ atc sdc hatc1 hatc2 hsdc1 hsdc2 ⟨xc,rfl,hxc⟩) | refine callX_new (c8 _ (by omega) (by omega)) rfl (by decide) ?_ | refine callY_new (c8 _ (by omega) (by omega)) rfl ?_ | refine hE _ _ ret_ne ?_ | refine hE _ _ exit_ne ?_))<;>(try simp (disch:=first | omega | decide +kernel) only [q',curO,curB,D.bytes,List.length_map,hge,fs_app,go_sem,Qa,Qb,Qc,Qd,Qe,↓reduceIte,reduceCtorEq,Qf,Qg,Qh])<;>clear q') | refine hN _ ?_ ?_ Wk.kk | with_reducible refine And.intro ?_ ?_ | with_reducible omega | exact ok_ints | exact cells_ints | exact no_mem | with_reducible exact plain_ints | (refine le_maxLen ?_; omega) | (refine za9 ⟨?_,?_⟩) | (simp only [go_sem,Qc,Qb,zb1,zb2,forall_eq]; done)))
           . exact okA _ _ _ _
           . exact ⟨(w++[(⟨gs.getD xc.toNat nilB,0,xc,0⟩ : Fs)],(atc,sdc)),⟨by simp; omega,hok.app (s:=⟨gs.getD xc.toNat nilB,0,xc,0⟩) h',fun _ => by simp,by dsimp only; omega,by dsimp only; omega,hsdc1,hsdc2⟩,(Wk.kk)⟩
           . exact ⟨(w,(atc,sdc)),⟨hwl,hok,fun h => absurd (h (gs.getD xc.toNat nilB) (getD_mem (by omega))) (by rw [h']; decide),by dsimp only; omega,by dsimp only; omega,hsdc1,hsdc2⟩,(Wk.kk)⟩
           . exact ⟨(atb,sdb),⟨by dsimp only; omega,by dsimp only; omega,hsdb1,hsdb2⟩,(Wk.kk)⟩
           . exact ⟨(a2,s2),⟨Nat.le_refl _,by dsimp only; omega,hs21,hs22⟩,(Wk.kk)⟩
         . rintro ⟨a3,s3⟩ ⟨ha31,ha32,hs31,hs32⟩
           dsimp only at ha31 ha32 hs31 hs32 ⊢
           clear c6 c7 c8 hge hgy
           have c9:=pick_ok hc 10 (by omega)
           have c10:=short24P_ok hc
           have c12:=pick_ok hc (w.length : Nat) (by omega)
           have hfy:=fun (y : Int) (h1 : 0<=y) (h2 : y < w.length) => el_fs (xs:=w) (i:=y.toNat) (by omega)
           have hf0:=fun (h1 : 0 < w.length) => el_fs (xs:=w) (i:=0) h1
           refine Ok.seq (Ok.go ?_)
           simp (disch:=first | omega | decide +kernel) only [go_sem,Qa,Qb,Qc,Qd,Qe,↓reduceIte,reduceCtorEq,Qf,Qg,Qh]
           (repeat' (first | ((first | (refine gsel_split (fun q' => ?_) (fun q' => ?_)<;>(have h':=q')<;>(try simp only [za1,za2,Ba,Bb,za3,ne_eq,za4,za5,za6,Ia,Ib,Ic,Ie,Da,Bc,Bh,Be,za7,za8] at h')<;>try (exfalso; omega)) | (have q':=trivial; first | (refine callX_draw _ (c9) ⟨.inl rfl,.inl rfl,trivial⟩ rfl (by simp [dstB]) (by omega) (by omega) (by omega) ?_; rintro _ atb sdb hatb1 hatb2 hsdb1 hsdb2 ⟨xb,rfl,hxb⟩) | refine hE _ _ ret_ne ?_ | refine hE _ _ exit_ne ?_))<;>(try simp (disch:=first | omega | decide +kernel) only [q',curO,curB,D.bytes,go_sem,Qa,Qb,Qc,Qd,Qe,↓reduceIte,reduceCtorEq,Qf,Qg,Qh])<;>clear q') | refine hN _ ?_ ?_ Wk.kk | with_reducible refine And.intro ?_ ?_ | with_reducible omega | exact ok_ints | exact cells_ints | exact no_mem | with_reducible exact plain_ints | (refine le_maxLen ?_; omega) | (refine za9 ⟨?_,?_⟩) | (simp only [go_sem,Qc,Qb,zb1,zb2,forall_eq]; done)))
           refine Ok.seq (Ok.go ?_)
           simp (disch:=first | omega | decide +kernel) only [go_sem,Qa,Qb,Qc,Qd,Qe,↓reduceIte,reduceCtorEq,Qf,Qg,Qh]
           (refine callX_draw _ c10 ⟨.inl rfl,trivial⟩ rfl (by simp [dstB]) (by omega) (by omega) (by omega) ?_; rintro _ atc sdc hatc1 hatc2 hsdc1 hsdc2 ⟨xc,rfl,hxc⟩)
           simp (disch:=first | omega | decide +kernel) only [curO,curB,D.bytes,go_sem,Qa,Qb,Qc,Qd,Qe,↓reduceIte,reduceCtorEq,Qf,Qg,Qh]
           (refine callX_draw _ c10 ⟨.inl rfl,trivial⟩ rfl (by simp [dstB]) (by omega) (by omega) (by omega) ?_; rintro _ atd sdd hatd1 hatd2 hsdd1 hsdd2 ⟨xd,rfl,hxd⟩)
           simp (disch:=first | omega | decide +kernel) only [curO,curB,D.bytes,go_sem,Qa,Qb,Qc,Qd,Qe,↓reduceIte,reduceCtorEq,Qf,Qg,Qh]
           refine Ok.seqE (α:=ByteArray × (Nat × Int)) (fun b => ⟨[(1000000000,.hdr 0 (u 0)),(16,.d (.str xd)),(15,.d (.str b.1)),(14,.d (.int .i64 (1 + xb))),(6,.d (.int .i64 n)),(5,.sl 19),(1,.d (.slice (gs.map .str))),(0,.p 0 0)],[(19,rowF w),(0,CurB code b.2.1 b.2.2)]⟩)
            (fun b => okS b.1=true∧(0 < w.length∨b.1.size<=5)∧a<=b.2.1∧b.2.1<=a + 700∧0<=b.2.2∧b.2.2 < 18446744073709551616) (Ok.go ?_) ?_
           . simp (disch:=first | omega | decide +kernel) only [List.length_map,go_sem,Qa,Qb,Qc,Qd,Qe,↓reduceIte,reduceCtorEq,Qf,Qg,Qh]
             (repeat' (first | ((first | (refine gsel_split (fun q' => ?_) (fun q' => ?_)<;>(have h':=q')<;>(try simp only [za1,za2,Ba,Bb,za3,ne_eq,za4,za5,za6,Ia,Ib,Ic,Ie,Da,Bc,Bh,Be,za7,za8] at h')<;>try (exfalso; omega)) | (have q':=trivial; first | (refine callX_draw _ (c3) ⟨.inl rfl,.inl rfl,trivial⟩ rfl (by simp [dstB]) (by omega) (by omega) (by omega) ?_; rintro _ ate sde hate1 hate2 hsde1 hsde2 ⟨xe,rfl,hxe⟩) | (refine callX_draw _ (c12) ⟨.inl rfl,.inl rfl,trivial⟩ rfl (by simp [dstB]) (by omega) (by omega) (by omega) ?_; rintro _ atf sdf hatf1 hatf2 hsdf1 hsdf2 ⟨xf,rfl,hxf⟩) | refine hE _ _ ret_ne ?_ | refine hE _ _ exit_ne ?_))<;>(try simp (disch:=first | omega | decide +kernel) only [q',curO,curB,D.bytes,List.length_map,hfy,hf0,Int.toNat_zero,go_sem,Qa,Qb,Qc,Qd,Qe,↓reduceIte,reduceCtorEq,Qf,Qg,Qh])<;>clear q') | refine hN _ ?_ ?_ Wk.kk | with_reducible refine And.intro ?_ ?_ | with_reducible omega | exact ok_ints | exact cells_ints | exact no_mem | with_reducible exact plain_ints | (refine le_maxLen ?_; omega) | (refine za9 ⟨?_,?_⟩) | (simp only [go_sem,Qc,Qb,zb1,zb2,forall_eq]; done)))
             . exact ⟨((w.getD xf.toNat Fs.z).f,(atf,sdf)),⟨hok.at (by omega),.inl (by omega),by dsimp only; omega,by dsimp only; omega,hsdf1,hsdf2⟩,(Wk.kk)⟩
             . exact ⟨(xc,(ate,sde)),⟨hxc.1,.inr hxc.2,by dsimp only; omega,by dsimp only; omega,hsde1,hsde2⟩,(Wk.kk)⟩
             . exact ⟨(xc,(ate,sde)),⟨hxc.1,.inr hxc.2,by dsimp only; omega,by dsimp only; omega,hsde1,hsde2⟩,(Wk.kk)⟩
             . exact ⟨(xc,(atd,sdd)),⟨hxc.1,.inr hxc.2,by dsimp only; omega,by dsimp only; omega,hsdd1,hsdd2⟩,(Wk.kk)⟩
           . rintro ⟨t,a4,s4⟩ ⟨ht1,ht2,ha41,ha42,hs41,hs42⟩
             dsimp only at ht1 ht2 ha41 ha42 hs41 hs42 ⊢
             have ht80:=(okS_spec ht1).2.2
             have hx5:=hxd.2
             have c13 : ∀ (y : ByteArray),y.size<=1000->Ctr Tryd.prog 41 [.int .i64 (1 + xb),.str t,.str xd,.str y] false (.d (.str (caseT xb.toNat t xd y))) []:=fun y hy => by
              have:=l24Case_ok xb.toNat (by omega) t xd y (by omega) (by omega) hy
              rwa [show ((xb.toNat + 1 : Nat) : Int)=1 + xb by omega] at this
             clear c9 c12 hfy hf0 c2 c3 hfs
             refine Ok.seq (Ok.go ?_)
             simp (disch:=first | omega | decide +kernel) only [go_sem,Qa,Qb,Qc,Qd,Qe,↓reduceIte,reduceCtorEq,Qf,Qg,Qh]
             (repeat' (first | ((first | (refine gsel_split (fun q' => ?_) (fun q' => ?_)<;>(have h':=q')<;>(try simp only [za1,za2,Ba,Bb,za3,ne_eq,za4,za5,za6,Ia,Ib,Ic,Ie,Da,Bc,Bh,Be,za7,za8] at h')<;>try (exfalso; omega)) | (have q':=trivial; first | (refine callX_draw _ (c10) ⟨.inl rfl,trivial⟩ rfl (by simp [dstB]) (by omega) (by omega) (by omega) ?_; rintro _ ate sde hate1 hate2 hsde1 hsde2 ⟨xe,rfl,hxe⟩) | refine callX_new (c13 _ (Nat.le_trans (And.right ‹oS _›) (by omega))) rfl (by decide) ?_ | refine callY_new (c13 _ (Nat.le_trans (And.right ‹oS _›) (by omega))) rfl ?_ | refine hE _ _ ret_ne ?_ | refine hE _ _ exit_ne ?_))<;>(try simp (disch:=first | omega | decide +kernel) only [q',curO,curB,D.bytes,go_sem,Qa,Qb,Qc,Qd,Qe,↓reduceIte,reduceCtorEq,Qf,Qg,Qh])<;>clear q') | refine hN _ ?_ ?_ Wk.kk | with_reducible refine And.intro ?_ ?_ | with_reducible omega | exact ok_ints | exact cells_ints | exact no_mem | with_reducible exact plain_ints | (refine le_maxLen ?_; omega) | (refine za9 ⟨?_,?_⟩) | (simp only [go_sem,Qc,Qb,zb1,zb2,forall_eq]; done)))
             have hsz : ¬ 0 < w.length->(caseT xb.toNat t xd xe).size<=80:=fun h => case5 (by omega) hx5 hxe.2
             have hko:=caseOk (j:=xb.toNat) ht1 hxd.1 hxe.1
             generalize caseT xb.toNat t xd xe=y at *
             refine Ok.go ?_
             simp (disch:=first | omega | decide +kernel) only [go_sem,Qa,Qb,Qc,Qd,Qe,↓reduceIte,reduceCtorEq,Qf,Qg,Qh]
             (repeat' (first | ((first | (refine gsel_split (fun q' => ?_) (fun q' => ?_)<;>(have h':=q')<;>(try simp only [za1,za2,Ba,Bb,za3,ne_eq,za4,za5,za6,Ia,Ib,Ic,Ie,Da,Bc,Bh,Be,za7,za8] at h')<;>try (exfalso; omega)) | (have q':=trivial; first | refine hE _ _ ret_ne ?_ | refine hE _ _ exit_ne ?_))<;>(try simp (disch:=first | omega | decide +kernel) only [q',fs_app,go_sem,Qa,Qb,Qc,Qd,Qe,↓reduceIte,reduceCtorEq,Qf,Qg,Qh])<;>clear q') | refine hN _ ?_ ?_ Wk.kk | with_reducible refine And.intro ?_ ?_ | with_reducible omega | exact ok_ints | exact cells_ints | exact no_mem | with_reducible exact plain_ints | (refine le_maxLen ?_; omega) | (refine za9 ⟨?_,?_⟩) | (simp only [go_sem,Qc,Qb,zb1,zb2,forall_eq]; done)))
             . exact okA _ _ _ _
             . exact ⟨(w++[(⟨y,1 + xb,0,0⟩ : Fs)],(ate,sde)),⟨by simp; omega,hok.app (s:=⟨y,1 + xb,0,0⟩) (hko (by omega)),fun _ => by simp,by dsimp only; omega,by dsimp only; omega,hsde1,hsde2⟩,(Wk.kk)⟩
             . exact ⟨(w,(ate,sde)),⟨hwl,hok,fun _ => by
                dsimp only
                by_cases hw0 : 0 < w.length
                . exact hw0
                . have:=hsz hw0
                  omega,by dsimp only; omega,by dsimp only; omega,hsde1,hsde2⟩,(Wk.kk)⟩
   . rintro ⟨w,a2,s2⟩ ⟨hwl,hok,hsm,ha21,ha22,hs21,hs22⟩
     dsimp only at hwl hok hsm ha21 ha22 hs21 hs22 ⊢
     refine Ok.go ?_
     simp (disch:=first | omega | decide +kernel) only [go_sem,Qa,Qb,Qc,Qd,Qe,↓reduceIte,reduceCtorEq,Qf,Qg,Qh]
     (repeat' (first | ((first | (refine gsel_split (fun q' => ?_) (fun q' => ?_)<;>(have h':=q')<;>(try simp only [za1,za2,Ba,Bb,za3,ne_eq,za4,za5,za6,Ia,Ib,Ic,Ie,Da,Bc,Bh,Be,za7,za8] at h')<;>try (exfalso; omega)) | (have q':=trivial; first | refine hE _ _ ret_ne ?_ | refine hE _ _ exit_ne ?_))<;>(try simp (disch:=first | omega | decide +kernel) only [q',go_sem,Qa,Qb,Qc,Qd,Qe,↓reduceIte,reduceCtorEq,Qf,Qg,Qh])<;>clear q') | refine hN _ ?_ ?_ Wk.kk | with_reducible refine And.intro ?_ ?_ | with_reducible omega | exact ok_ints | exact cells_ints | exact no_mem | with_reducible exact plain_ints | (refine le_maxLen ?_; omega) | (refine za9 ⟨?_,?_⟩) | (simp only [go_sem,Qc,Qb,zb1,zb2,forall_eq]; done)))
     refine hN ((w,n - 1),(a2,s2)) _ (by omega) ⟨by dsimp only; omega,hwl,hok,fun _ => hsm,by dsimp only; omega,by dsimp only; omega,hs21,hs22⟩ (Wk.kk)
 . clear hN
   refine Ok.go ?_
   simp (disch:=first | omega | decide +kernel) only [go_sem,Qa,Qb,Qc,Qd,Qe,↓reduceIte,reduceCtorEq,Qf,Qg,Qh]
   (repeat' (first | ((first | (refine gsel_split (fun q' => ?_) (fun q' => ?_)<;>(have h':=q')<;>(try simp only [za1,za2,Ba,Bb,za3,ne_eq,za4,za5,za6,Ia,Ib,Ic,Ie,Da,Bc,Bh,Be,za7,za8] at h')<;>try (exfalso; omega)) | (have q':=trivial; first | refine hE _ _ ret_ne ?_ | refine hE _ _ exit_ne ?_))<;>(try simp (disch:=first | omega | decide +kernel) only [q',curO,curB,D.bytes,go_sem,Qa,Qb,Qc,Qd,Qe,↓reduceIte,reduceCtorEq,Qf,Qg,Qh])<;>clear q') | refine hN _ ?_ ?_ Wk.kk | with_reducible refine And.intro ?_ ?_ | with_reducible omega | exact ok_ints | exact cells_ints | exact no_mem | with_reducible exact plain_ints | (refine le_maxLen ?_; omega) | (refine za9 ⟨?_,?_⟩) | (simp only [go_sem,Qc,Qb,zb1,zb2,forall_eq]; done)))
   refine hE1 _ _ exit_ne ?_
   simp (disch:=first | omega | decide +kernel) only [go_sem,Qa,Qb,Qc,Qd,Qe,↓reduceIte,reduceCtorEq,Qf,Qg,Qh]
   have ho3:=ho3 (by omega)
   have hsz : ∀ s ∈ o,s.f.size<=100:=fun s hs => by have:=(okS_spec (ho2 s hs)).2.2; omega
   have c4:=one_ok hc 6 (by omega)
   have c5:=pick_ok hc (o.length : Nat) (by omega)
   have c6:=pick_ok hc 4 (by omega)
   have c7:=amongB_ok hc [-2,-1,0,1,5,11] (-2) 11 (by simp) (by simp)
   have c8:=amongB_ok hc [-1,0,1,80] (-1) 80 (by simp) (by simp)
   have c9:=formulaText_ok hc
   have hfy:=fun (y : Int) (h1 : 0<=y) (h2 : y < o.length) => el_fs (xs:=o) (i:=y.toNat) (by omega)
   simp only [List.map_cons,List.map_nil] at c7 c8
   clear hE1 c2 c3 hfs
   refine Ok.seqE (α:=List Fs × (Nat × Int)) (fun b => ⟨[(1000000000,.hdr 0 (u 0)),(5,.sl 19),(0,.p 0 0)],[(19,rowF b.1),(0,CurB code b.2.1 b.2.2)]⟩)
    (fun b => b.1.length=o.length∧(∀ s ∈ b.1,s.f.size<=100)∧at_<=b.2.1∧b.2.1<=at_ + 12000∧0<=b.2.2∧b.2.2 < 18446744073709551616) (Ok.go ?_) ?_
   . simp (disch:=first | omega | decide +kernel) only [List.length_map,go_sem,Qa,Qb,Qc,Qd,Qe,↓reduceIte,reduceCtorEq,Qf,Qg,Qh]
     (repeat' (first | ((first | (refine gsel_split (fun q' => ?_) (fun q' => ?_)<;>(have h':=q')<;>(try simp only [za1,za2,Ba,Bb,za3,ne_eq,za4,za5,za6,Ia,Ib,Ic,Ie,Da,Bc,Bh,Be,za7,za8] at h')<;>try (exfalso; omega)) | (have q':=trivial; first | (refine callX_draw _ (c4) ⟨.inl rfl,.inl rfl,trivial⟩ rfl (by simp [dstB]) (by omega) (by omega) (by omega) ?_; rintro _ atb sdb hatb1 hatb2 hsdb1 hsdb2 ⟨xb,rfl,hxb⟩) | (refine callX_draw _ (c5) ⟨.inl rfl,.inl rfl,trivial⟩ rfl (by simp [dstB]) (by omega) (by omega) (by omega) ?_; rintro _ atc sdc hatc1 hatc2 hsdc1 hsdc2 ⟨xc,rfl,hxc⟩) | (refine callX_draw _ (c6) ⟨.inl rfl,.inl rfl,trivial⟩ rfl (by simp [dstB]) (by omega) (by omega) (by omega) ?_; rintro _ atd sdd hatd1 hatd2 hsdd1 hsdd2 ⟨xd,rfl,hxd⟩) | (refine callX_drawL _ _ (c7) ⟨.inl rfl,.inl rfl,trivial⟩ rfl rfl (by decide) (by simp [dstB]) (by omega) (by omega) (by omega) ?_; rintro _ at1 sd1 hat1 hat2 hsd1 hsd2 ⟨x1,rfl,hx1⟩) | (refine callX_drawL _ _ (c8) ⟨.inl rfl,.inl rfl,trivial⟩ rfl rfl (by decide) (by simp [dstB]) (by omega) (by omega) (by omega) ?_; rintro _ at1 sd1 hat1 hat2 hsd1 hsd2 ⟨x1,rfl,hx1⟩) | (refine callX_draw _ (c9) ⟨.inl rfl,trivial⟩ rfl (by simp [dstB]) (by omega) (by omega) (by omega) ?_; rintro _ ate sde hate1 hate2 hsde1 hsde2 ⟨xe,rfl,hxe⟩) | refine hE _ _ ret_ne ?_ | refine hE _ _ exit_ne ?_))<;>(try simp (disch:=first | omega | decide +kernel) only [q',curO,curB,D.bytes,List.length_map,hfy,fs_set,go_sem,Qa,Qb,Qc,Qd,Qe,↓reduceIte,reduceCtorEq,Qf,Qg,Qh])<;>clear q') | refine hN _ ?_ ?_ Wk.kk | with_reducible refine And.intro ?_ ?_ | with_reducible omega | exact ok_ints | exact cells_ints | exact no_mem | with_reducible exact plain_ints | (refine le_maxLen ?_; omega) | (refine za9 ⟨?_,?_⟩) | (simp only [go_sem,Qc,Qb,zb1,zb2,forall_eq]; done)))
     . exact ⟨(o.set xc.toNat (⟨(o.getD xc.toNat Fs.z).f,x1,(o.getD xc.toNat Fs.z).a,(o.getD xc.toNat Fs.z).b⟩ : Fs),(at1,sd1)),⟨List.length_set,set_sz hsz (fsz_at hsz (by omega)),by dsimp only; omega,by dsimp only; omega,hsd1,hsd2⟩,(Wk.kk)⟩
     . exact ⟨(o.set xc.toNat (⟨(o.getD xc.toNat Fs.z).f,(o.getD xc.toNat Fs.z).r,x1,(o.getD xc.toNat Fs.z).b⟩ : Fs),(at1,sd1)),⟨List.length_set,set_sz hsz (fsz_at hsz (by omega)),by dsimp only; omega,by dsimp only; omega,hsd1,hsd2⟩,(Wk.kk)⟩
     . exact ⟨(o.set xc.toNat (⟨(o.getD xc.toNat Fs.z).f,(o.getD xc.toNat Fs.z).r,(o.getD xc.toNat Fs.z).a,x1⟩ : Fs),(at1,sd1)),⟨List.length_set,set_sz hsz (fsz_at hsz (by omega)),by dsimp only; omega,by dsimp only; omega,hsd1,hsd2⟩,(Wk.kk)⟩
     . exact ⟨(o.set xc.toNat (⟨xe,(o.getD xc.toNat Fs.z).r,(o.getD xc.toNat Fs.z).a,(o.getD xc.toNat Fs.z).b⟩ : Fs),(ate,sde)),⟨List.length_set,set_sz hsz (by dsimp only; omega),by dsimp only; omega,by dsimp only; omega,hsde1,hsde2⟩,(Wk.kk)⟩
     . exact ⟨(o,(atb,sdb)),⟨rfl,hsz,by dsimp only; omega,by dsimp only; omega,hsdb1,hsdb2⟩,(Wk.kk)⟩
     . exact ⟨(o,(a,s)),⟨rfl,hsz,by dsimp only; omega,by dsimp only; omega,hs1,hs2⟩,(Wk.kk)⟩
   . rintro ⟨w,a2,s2⟩ ⟨hwl,hws,ha21,ha22,hs21,hs22⟩
     dsimp only at hwl hws ha21 ha22 hs21 hs22 ⊢
     have d1:=one_ok hc 40 (by omega)
     have d2:=pick_ok hc 2 (by omega)
     have hsm : Some24 gs w:=fun h => by have:=ho3 h; omega
     have hwb : w.length<=10:=by omega
     clear c4 c5 c6 c7 c8 c9 hfy hwl ho1 ho2 ho3 hsz
     refine Ok.seq (Ok.go ?_)
     simp (disch:=first | omega | decide +kernel) only [go_sem,Qa,Qb,Qc,Qd,Qe,↓reduceIte,reduceCtorEq,Qf,Qg,Qh]
     (repeat' (first | ((first | (refine gsel_split (fun q' => ?_) (fun q' => ?_)<;>(have h':=q')<;>(try simp only [za1,za2,Ba,Bb,za3,ne_eq,za4,za5,za6,Ia,Ib,Ic,Ie,Da,Bc,Bh,Be,za7,za8] at h')<;>try (exfalso; omega)) | (have q':=trivial; first | (refine callX_draw _ (d1) ⟨.inl rfl,.inl rfl,trivial⟩ rfl (by simp [dstB]) (by omega) (by omega) (by omega) ?_; rintro _ atb sdb hatb1 hatb2 hsdb1 hsdb2 ⟨xb,rfl,hxb⟩) | refine hE _ _ ret_ne ?_ | refine hE _ _ exit_ne ?_))<;>(try simp (disch:=first | omega | decide +kernel) only [q',curO,curB,D.bytes,go_sem,Qa,Qb,Qc,Qd,Qe,↓reduceIte,reduceCtorEq,Qf,Qg,Qh])<;>clear q') | refine hN _ ?_ ?_ Wk.kk | with_reducible refine And.intro ?_ ?_ | with_reducible omega | exact ok_ints | exact cells_ints | exact no_mem | with_reducible exact plain_ints | (refine le_maxLen ?_; omega) | (refine za9 ⟨?_,?_⟩) | (simp only [go_sem,Qc,Qb,zb1,zb2,forall_eq]; done)))
     . refine Ok.weak (show Wk _ _ ⟨[(1000000000,.hdr 0 (u 0)),(5,.sl 19),(0,.p 0 0)],[(19,rowF w),(0,CurB code atb sdb)]⟩ from (Wk.kk)) ?_
       refine Ok.loopN [216,215,214,213,212,211,210,209,208,207,206,205,204,203,202,201,200,199,198,197,196,195,194,193,192,191,190,189,188,187,186,185,184,183,182,181,180,179,178,177,176,175,174,173,172,171,170,169,168,167,166,165,164,163,162,161,160,159,158,157,156,155,154,153,152,151,150,149,148,147,146,145,144,143,142,141,140,139,138,137,136,135,134,133,132,131,130,129,128,127,126,125,124,123,122,121,120,119,118,117,116,115,114,113,112,111,110,109,108,107,106,105,104,103,102,101,100,99,98,97,96,95,94,93,92,91,90,89,88,87,86,85,84,83,82,81,80,79,78,77,76,75,74,73,72,71,70,69,68,67,66,65,64,63,62,61,60,59,58,57,56,55,54,53,52,51,50,49,48,47,46,45,44,43,42,41,40,39,38,37,36,35,34,33,32,31,30,29,28,27,26,25,24,23,22,21,20,19,18,17,16,15,14,13,12,11,10,9,8,7,6,5,4,3,2,1] (fun k (b : List Fs × (Nat × Int)) => [(5,.sl 19)])
        (fun _ (b : List Fs × (Nat × Int)) => [(19,rowF b.1),(0,CurB code b.2.1 b.2.2)]) 82
        (fun k b => k<=b.1.length∧b.1.length<=81∧(∀ s ∈ b.1,s.f.size<=100)∧w.length<=b.1.length∧at_<=b.2.1∧b.2.1<=at_ + 13000 + 2 * k∧0<=b.2.2∧b.2.2 < 18446744073709551616) (w,(atb,sdb)) ⟨Nat.zero_le _,by dsimp only; omega,hws,Nat.le_refl _,by dsimp only; omega,by dsimp only; omega,hsdb1,hsdb2⟩ (Wk.kk) ?_
       rintro R3 k ⟨v,a3,s3⟩ hN3 hE3 hk ⟨hkv,hvl,hvs,hvw,ha31,ha32,hs31,hs32⟩
       dsimp only at hkv hvl hvs hvw ha31 ha32 hs31 hs32 ⊢
       simp (disch:=first | omega | decide +kernel) only [List.length_map,go_sem,Qa,Qb,Qc,Qd,Qe,↓reduceIte,reduceCtorEq,Qf,Qg,Qh]
       (repeat' (first | ((first | (refine gsel_split (fun q' => ?_) (fun q' => ?_)<;>(have h':=q')<;>(try simp only [za1,za2,Ba,Bb,za3,ne_eq,za4,za5,za6,Ia,Ib,Ic,Ie,Da,Bc,Bh,Be,za7,za8] at h')<;>try (exfalso; omega)) | (have q':=trivial; first | (refine callX_draw _ (d2) ⟨.inl rfl,.inl rfl,trivial⟩ rfl (by simp [dstB]) (by omega) (by omega) (by omega) ?_; rintro _ atc sdc hatc1 hatc2 hsdc1 hsdc2 ⟨xc,rfl,hxc⟩) | refine hE _ _ ret_ne ?_ | refine hE _ _ exit_ne ?_))<;>(try simp (disch:=first | omega | decide +kernel) only [q',curO,curB,D.bytes,List.length_map,fs_app,go_sem,Qa,Qb,Qc,Qd,Qe,↓reduceIte,reduceCtorEq,Qf,Qg,Qh])<;>clear q') | refine hN _ ?_ ?_ Wk.kk | with_reducible refine And.intro ?_ ?_ | with_reducible omega | exact ok_ints | exact cells_ints | exact no_mem | with_reducible exact plain_ints | (refine le_maxLen ?_; omega) | (refine za9 ⟨?_,?_⟩) | (simp only [go_sem,Qc,Qb,zb1,zb2,forall_eq]; done)))
       . exact okA _ _ _ _
       . refine hN3 (v++[(⟨⟨#[49]⟩,10,0,0⟩ : Fs)],(atc,sdc)) _ (by omega) ⟨by simp; omega,by simp; omega,fun x hx => by
          rcases List.mem_append.1 hx with hx | hx
          . exact hvs x hx
          . rw [List.mem_singleton] at hx; subst hx; decide,by simp; omega,by dsimp only; omega,by dsimp only; omega,hsdc1,hsdc2⟩ (Wk.kk)
       . refine hE3 _ _ exit_ne ?_
         simp (disch:=first | omega | decide +kernel) only [go_sem,Qa,Qb,Qc,Qd,Qe,↓reduceIte,reduceCtorEq,Qf,Qg,Qh]
         refine Ok.go ?_
         simp (disch:=first | omega | decide +kernel) only [go_sem,Qa,Qb,Qc,Qd,Qe,↓reduceIte,reduceCtorEq,Qf,Qg,Qh]
         (repeat' (first | ((first | (refine gsel_split (fun q' => ?_) (fun q' => ?_)<;>(have h':=q')<;>(try simp only [za1,za2,Ba,Bb,za3,ne_eq,za4,za5,za6,Ia,Ib,Ic,Ie,Da,Bc,Bh,Be,za7,za8] at h')<;>try (exfalso; omega)) | (have q':=trivial; first | refine hE _ _ ret_ne ?_ | refine hE _ _ exit_ne ?_))<;>(try simp (disch:=first | omega | decide +kernel) only [q',go_sem,Qa,Qb,Qc,Qd,Qe,↓reduceIte,reduceCtorEq,Qf,Qg,Qh])<;>clear q') | refine hN _ ?_ ?_ Wk.kk | with_reducible refine And.intro ?_ ?_ | with_reducible omega | exact ok_ints | exact cells_ints | exact no_mem | with_reducible exact plain_ints | (refine le_maxLen ?_; omega) | (refine za9 ⟨?_,?_⟩) | (simp only [go_sem,Qc,Qb,zb1,zb2,forall_eq]; done)))
         refine endFK [19] ?_
         exact retR_draw rfl rfl rfl (by omega) (by omega) (by omega) (by omega) ⟨v,rfl,by omega,hvs,fun h => by have:=hsm h; omega⟩
     . refine Ok.go ?_
       simp (disch:=first | omega | decide +kernel) only [go_sem,Qa,Qb,Qc,Qd,Qe,↓reduceIte,reduceCtorEq,Qf,Qg,Qh]
       (repeat' (first | ((first | (refine gsel_split (fun q' => ?_) (fun q' => ?_)<;>(have h':=q')<;>(try simp only [za1,za2,Ba,Bb,za3,ne_eq,za4,za5,za6,Ia,Ib,Ic,Ie,Da,Bc,Bh,Be,za7,za8] at h')<;>try (exfalso; omega)) | (have q':=trivial; first | refine hE _ _ ret_ne ?_ | refine hE _ _ exit_ne ?_))<;>(try simp (disch:=first | omega | decide +kernel) only [q',go_sem,Qa,Qb,Qc,Qd,Qe,↓reduceIte,reduceCtorEq,Qf,Qg,Qh])<;>clear q') | refine hN _ ?_ ?_ Wk.kk | with_reducible refine And.intro ?_ ?_ | with_reducible omega | exact ok_ints | exact cells_ints | exact no_mem | with_reducible exact plain_ints | (refine le_maxLen ?_; omega) | (refine za9 ⟨?_,?_⟩) | (simp only [go_sem,Qc,Qb,zb1,zb2,forall_eq]; done)))
       refine endFK [19] ?_
       exact retR_draw rfl rfl rfl (by omega) (by omega) (by omega) (by omega) ⟨w,rfl,by omega,hws,hsm⟩
end Abs.Y
