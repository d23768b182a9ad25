/- What functions of this program compute, over plain data. No condition. -/
import Derived.Test.YtiafnejjhnjbfaaDoorGF6
set_option linter.all false
open Nat renaming reduceEqDiff -> Qa, reduceLT -> Qb, reduceAdd -> Qc, reduceMul -> Qd, reduceSub -> Qe, reduceLeDiff -> Qf, reduceSubDiff -> Qg, reduceBEq -> Qh
open Bool renaming not_eq_true' -> Ba, not_eq_false' -> Bb, and_eq_true -> Bc, or_eq_true -> Bh, or_eq_false_iff -> Be
open Int renaming ofNat_lt -> Ia, ofNat_le -> Ib, not_lt -> Ic, not_le -> Ie
open Decidable renaming not_not -> Da
namespace Abs
open Go Go.RowKit
theorem Ctr.eat1 {P : Program} {f : FuncId} {r : D} {es : List D} {e : TypeId} {k : Nat} (h : Ctr P f [.slice es] true (.d r) []) : CtrM P f [.sl 0] [(0,.arr e k es)] [] true (.d r) []:=by
 refine ⟨h.1,fun S β φ w vs hl hr ho hd hG => ?_⟩
 have hb : ∀ g,φ 0 g->blocksOf φ [(0,AO.arr e k es)] g:=fun g hg => ⟨0,_,rfl,hg⟩
 refine (h.2 (fun g => S g∨φ 0 g) w vs (by simpa using hl) (fun i hi => ?_) (hG.sub (Nat.le_refl _) (fun _ _ h => h.elim) (fun _ _ _ h => .inl h) fun _ _ _ => rfl)).mono fun en w' ⟨v,he,hf,β',φ',h1,h2,h3,h4⟩ => ⟨v,he,⟨hf.os,hf.tape,hf.output,hf.le,hf.size,?_,?_⟩,β',φ',by simp,?_,by simp [lk],by simp [lk],by simp [lk]⟩
 . match i,hi with
   | 0, _ =>
     have:=hr 0 (by simp)
     simp only [List.getD_cons_zero] at this ⊢
     generalize vs.getD 0 Go.undef=y at *
     cases this
     exact rd_of_arr (ho 0 (.arr e k es) (by simp [lk])) (fun g hg _ => .inl hg.1) fun g hg => .inr hg
 . exact fun g hg _ => hf.block g hg fun h => h
 . exact hf.drawn
 . cases h1 with
   | d h1 =>
     refine .d (h1.weaken fun g hg => ⟨?_,by simp [lk]⟩)
     rcases hg.1 with h5 | ⟨_,h5 | h5⟩
     . exact .inl h5
     . exact .inr (.inr ⟨rfl,h5⟩)
     . exact .inr (.inl (hb g h5))
theorem Ctr.stp {P : Program} {f : FuncId} {xs : List D} {s : ByteArray} {k1 k2 k3 : IntKind} {a b c : Int} (h : Ctr P f xs true (.d (.agg [.str s,.int k1 a,.int k2 b,.int k3 c])) []) : Ctr P f xs false (.d (.agg [.str s,.int k1 a,.int k2 b,.int k3 c])) []:=by
 refine ⟨h.1,fun S w vs hl hr hG => (h.2 S w vs hl hr hG).mono fun en w' ⟨v,he,hf,β,φ,hrel,hobj,hown,hdis⟩ => ⟨v,he,hf,β,φ,?_,by simp [lk],by simp [lk],by simp [lk]⟩⟩
 cases hrel with
 | d hd =>
   cases hd with
   | agg hl' hr' =>
     rename_i us
     match us,hl' with
     | [u0, u1, u2, u3], _ =>
       have h0:=hr' 0 (by simp)
       have h1:=hr' 1 (by simp)
       have h2:=hr' 2 (by simp)
       have h3:=hr' 3 (by simp)
       simp only [List.getD_cons_zero,List.getD_cons_succ] at h0 h1 h2 h3
       cases h0
       cases h1
       cases h2
       cases h3
       refine .d (.agg rfl fun i hi => ?_)
       match i,hi with
       | 0,_ => exact .str _
       | 1,_ => exact .int _ _
       | 2,_ => exact .int _ _
       | 3,_ => exact .int _ _
end Abs
namespace Abs.Y
open Go Go.Proofs Abs
set_option maxRecDepth 100000

def mvT (to : List Int) (s : Fs) : Fs:=if s.r=-1 then ⟨s.f,s.r,to.getD s.a.toNat 0,to.getD s.b.toNat 0⟩ else s
set_option maxHeartbeats 4000000 in
theorem l24MovedT_ok (s : Fs) (to : List Int) (hl : to.length<=1000) (hto : s.r=-1->(0<=s.a∧s.a < to.length)∧(0<=s.b∧s.b < to.length)) :
 Ctr Tryd.prog 46 [fsD s,.ints to] true (.d (fsD (mvT to s))) []:=by
 obtain ⟨f,r,a,b⟩:=s
 dsimp only at hto
 rw [mvT]
 dsimp only
 by_cases hr : r=-1
 . subst hr
   obtain ⟨⟨a0,a1⟩,b0,b1⟩:=hto rfl
   rw [if_pos rfl]
   have ea : el (to.map (D.int .i64)) a.toNat=.int .i64 (to.getD a.toNat 0):=el_ints (by omega)
   have eb : el (to.map (D.int .i64)) b.toNat=.int .i64 (to.getD b.toNat 0):=el_ints (by omega)
   rw [fsD,fsD]
   dsimp only
   generalize to.getD a.toNat 0=x at *
   generalize to.getD b.toNat 0=y at *
   refine Ctr.of (n:=24) (rs:=[.cell 4 67]) Tryd.func46 rfl rfl Tryd.ntmps46 rfl rfl (by kernel_rfl) Tryd.checked.mixed ?_
   simp (disch:=first | omega | decide +kernel) only [D.ints,ea,eb,List.length_map,go_sem,Qa,Qb,Qc,Qd,Qe,↓reduceIte,reduceCtorEq,Qf,Qg,Qh]
   (repeat' (first | ((first | (refine gsel_split (fun q' => ?_) (fun q' => ?_)<;>(have h':=q')<;>(try simp only [za1,za2,Ba,Bb,za3,ne_eq,za4,za5,za6,Ia,Ib,Ic,Ie,Da,Bc,Bh,Be,za7,za8] at h')<;>try (exfalso; omega)) | (have q':=trivial; first | refine hE _ _ ret_ne ?_ | refine hE _ _ exit_ne ?_))<;>(try simp (disch:=first | omega | decide +kernel) only [q',D.ints,ea,eb,List.length_map,go_sem,Qa,Qb,Qc,Qd,Qe,↓reduceIte,reduceCtorEq,Qf,Qg,Qh])<;>clear q') | refine hN _ ?_ ?_ Wk.kk | with_reducible refine And.intro ?_ ?_ | with_reducible omega | exact ok_ints | exact cells_ints | exact no_mem | with_reducible exact plain_ints | (refine le_maxLen ?_; omega) | (refine za9 ⟨?_,?_⟩) | (simp only [go_sem,Qc,Qb,zb1,zb2,forall_eq]; done)))
   all_goals (first | omega | exact absurd trivial ‹¬True› | exact ret_cb rfl rfl (by simp only [go_sem]) (by simp only [go_sem,List.length_cons,List.length_nil]) rfl (by simp only [go_sem]))
 . rw [if_neg hr,fsD]
   dsimp only
   refine Ctr.of (n:=24) (rs:=[.cell 4 67]) Tryd.func46 rfl rfl Tryd.ntmps46 rfl rfl (by kernel_rfl) Tryd.checked.mixed ?_
   simp (disch:=first | omega | decide +kernel) only [D.ints,hr,List.length_map,go_sem,Qa,Qb,Qc,Qd,Qe,↓reduceIte,reduceCtorEq,Qf,Qg,Qh]
   (repeat' (first | ((first | (refine gsel_split (fun q' => ?_) (fun q' => ?_)<;>(have h':=q')<;>(try simp only [za1,za2,Ba,Bb,za3,ne_eq,za4,za5,za6,Ia,Ib,Ic,Ie,Da,Bc,Bh,Be,za7,za8] at h')<;>try (exfalso; omega)) | (have q':=trivial; first | refine hE _ _ ret_ne ?_ | refine hE _ _ exit_ne ?_))<;>(try simp (disch:=first | omega | decide +kernel) only [q',D.ints,hr,List.length_map,go_sem,Qa,Qb,Qc,Qd,Qe,↓reduceIte,reduceCtorEq,Qf,Qg,Qh])<;>clear q') | refine hN _ ?_ ?_ Wk.kk | with_reducible refine And.intro ?_ ?_ | with_reducible omega | exact ok_ints | exact cells_ints | exact no_mem | with_reducible exact plain_ints | (refine le_maxLen ?_; omega) | (refine za9 ⟨?_,?_⟩) | (simp only [go_sem,Qc,Qb,zb1,zb2,forall_eq]; done)))
   all_goals (first | omega | exact absurd trivial ‹¬True› | exact ret_cb rfl rfl (by simp only [go_sem]) (by simp only [go_sem,List.length_cons,List.length_nil]) rfl (by simp only [go_sem]))
theorem l24Moved_ok (s : Fs) (to : List Int) (hl : to.length<=1000) (hto : s.r=-1->(0<=s.a∧s.a < to.length)∧(0<=s.b∧s.b < to.length)) :
 Ctr Tryd.prog 46 [fsD s,.ints to] false (.d (fsD (mvT to s))) []:=by
 have h:=l24MovedT_ok s to hl hto
 rw [fsD] at h ⊢
 exact Ctr.stp h
def gvF (ss : List Fs) : Bool:=decide (ss.length<=80) && ss.all fun s => decide (s.f.size<=80)
set_option maxHeartbeats 4000000 in
theorem l24Give_ok (ss : List Fs) (hl : ss.length<=1000) (hz : ∀ j,(ss.getD j Fs.z).f.size<=1000) :
 Ctr Tryd.prog 47 [.slice (ss.map fsD)] true (.tup [.d (.slice (if gvF ss then ss.map fsD else [])),.d (.bool (gvF ss))]) []:=by
 have hfs:=fun (i : Nat) (h : i < ss.length) => el_fs (xs:=ss) h
 by_cases h80 : ss.length<=80
 . have hv : gvF ss=ss.all fun s => decide (s.f.size<=80):=by rw [gvF,decide_eq_true h80]; rfl
   rw [hv]
   obtain ⟨al,hal⟩ : ∃ al,(ss.all fun s => decide (s.f.size<=80))=al:=⟨_,rfl⟩
   rw [hal]
   refine Ctr.of (n:=24) (rs:=[.tmp 2,.tmp 3]) Tryd.func47 rfl rfl Tryd.ntmps47 rfl rfl (by kernel_rfl) Tryd.checked.mixed ?_
   simp (disch:=first | omega | decide +kernel) only [List.length_map,go_sem,Qa,Qb,Qc,Qd,Qe,↓reduceIte,reduceCtorEq,Qf,Qg,Qh]
   (repeat' (first | ((first | (refine gsel_split (fun q' => ?_) (fun q' => ?_)<;>(have h':=q')<;>(try simp only [za1,za2,Ba,Bb,za3,ne_eq,za4,za5,za6,Ia,Ib,Ic,Ie,Da,Bc,Bh,Be,za7,za8] at h')<;>try (exfalso; omega)) | (have q':=trivial; first | refine hE _ _ ret_ne ?_ | refine hE _ _ exit_ne ?_))<;>(try simp (disch:=first | omega | decide +kernel) only [q',List.length_map,go_sem,Qa,Qb,Qc,Qd,Qe,↓reduceIte,reduceCtorEq,Qf,Qg,Qh])<;>clear q') | refine hN _ ?_ ?_ Wk.kk | with_reducible refine And.intro ?_ ?_ | with_reducible omega | exact ok_ints | exact cells_ints | exact no_mem | with_reducible exact plain_ints | (refine le_maxLen ?_; omega) | (refine za9 ⟨?_,?_⟩) | (simp only [go_sem,Qc,Qb,zb1,zb2,forall_eq]; done)))
   all_goals (try (first | omega | exact absurd trivial ‹¬True›))
   refine Ok.loopC [22,21,20,19,18,17,16,15,14,13,12,11,10,9,8,7,6,5,4,3,2,1] (fun i => [(4,.d (.int .i64 (i : Nat)))]) ss.length (fun i => ∀ j,j < i->(ss.getD j Fs.z).f.size<=80) (by simp) (Wk.kk) ?_
   intro R i hN hE hi hI
   by_cases hlt : i < ss.length
   . have he:=hfs i hlt
     have hzi:=hz i
     by_cases hb : (ss.getD i Fs.z).f.size<=80
     . have hI':=all_succ (P:=fun j => (ss.getD j Fs.z).f.size<=80) hI hb
       generalize ss.getD i Fs.z=s at *
       obtain ⟨f,_,_,_⟩:=s
       dsimp only at he hzi hb
       simp (disch:=first | omega | decide +kernel) only [he,List.length_map,go_sem,Qa,Qb,Qc,Qd,Qe,↓reduceIte,reduceCtorEq,Qf,Qg,Qh]
       (repeat' (first | ((first | (refine gsel_split (fun q' => ?_) (fun q' => ?_)<;>(have h':=q')<;>(try simp only [za1,za2,Ba,Bb,za3,ne_eq,za4,za5,za6,Ia,Ib,Ic,Ie,Da,Bc,Bh,Be,za7,za8] at h')<;>try (exfalso; omega)) | (have q':=trivial; first | refine hE _ _ ret_ne ?_ | refine hE _ _ exit_ne ?_))<;>(try simp (disch:=first | omega | decide +kernel) only [q',he,List.length_map,go_sem,Qa,Qb,Qc,Qd,Qe,↓reduceIte,reduceCtorEq,Qf,Qg,Qh])<;>clear q') | refine hN _ ?_ ?_ Wk.kk | with_reducible refine And.intro ?_ ?_ | with_reducible omega | exact ok_ints | exact cells_ints | exact no_mem | with_reducible exact plain_ints | (refine le_maxLen ?_; omega) | (refine za9 ⟨?_,?_⟩) | (simp only [go_sem,Qc,Qb,zb1,zb2,forall_eq]; done)))
       all_goals (first | omega | assumption | exact absurd trivial ‹¬True› | exact hI')
     . have hr : al=false:=by
        rw [← hal,Bool.eq_false_iff]
        intro hh
        have:=List.all_eq_true.1 hh _ (getD_mem (z:=Fs.z) hlt)
        exact hb (of_decide_eq_true this)
       subst hr
       generalize ss.getD i Fs.z=s at *
       obtain ⟨f,_,_,_⟩:=s
       dsimp only at he hzi hb
       simp (disch:=first | omega | decide +kernel) only [he,List.length_map,go_sem,Qa,Qb,Qc,Qd,Qe,↓reduceIte,reduceCtorEq,Qf,Qg,Qh]
       (repeat' (first | ((first | (refine gsel_split (fun q' => ?_) (fun q' => ?_)<;>(have h':=q')<;>(try simp only [za1,za2,Ba,Bb,za3,ne_eq,za4,za5,za6,Ia,Ib,Ic,Ie,Da,Bc,Bh,Be,za7,za8] at h')<;>try (exfalso; omega)) | (have q':=trivial; first | refine hE _ _ ret_ne ?_ | refine hE _ _ exit_ne ?_))<;>(try simp (disch:=first | omega | decide +kernel) only [q',he,List.length_map,go_sem,Qa,Qb,Qc,Qd,Qe,↓reduceIte,reduceCtorEq,Qf,Qg,Qh])<;>clear q') | refine hN _ ?_ ?_ Wk.kk | with_reducible refine And.intro ?_ ?_ | with_reducible omega | exact ok_ints | exact cells_ints | exact no_mem | with_reducible exact plain_ints | (refine le_maxLen ?_; omega) | (refine za9 ⟨?_,?_⟩) | (simp only [go_sem,Qc,Qb,zb1,zb2,forall_eq]; done)))
       all_goals (first | omega | assumption | exact absurd trivial ‹¬True› | exact ret_s2 [] rfl rfl | exact ret_s2 [22] rfl rfl)
   . have hr : al=true:=by
      rw [← hal]
      exact List.all_eq_true.2 fun x hx => by
       obtain ⟨j,hj,rfl⟩:=List.getElem_of_mem hx
       have:=hI j (by omega)
       simpa [List.getD_eq_getElem?_getD,hj] using this
     subst hr
     simp (disch:=first | omega | decide +kernel) only [List.length_map,go_sem,Qa,Qb,Qc,Qd,Qe,↓reduceIte,reduceCtorEq,Qf,Qg,Qh]
     (repeat' (first | ((first | (refine gsel_split (fun q' => ?_) (fun q' => ?_)<;>(have h':=q')<;>(try simp only [za1,za2,Ba,Bb,za3,ne_eq,za4,za5,za6,Ia,Ib,Ic,Ie,Da,Bc,Bh,Be,za7,za8] at h')<;>try (exfalso; omega)) | (have q':=trivial; first | refine hE _ _ ret_ne ?_ | refine hE _ _ exit_ne ?_))<;>(try simp (disch:=first | omega | decide +kernel) only [q',List.length_map,go_sem,Qa,Qb,Qc,Qd,Qe,↓reduceIte,reduceCtorEq,Qf,Qg,Qh])<;>clear q') | refine hN _ ?_ ?_ Wk.kk | with_reducible refine And.intro ?_ ?_ | with_reducible omega | exact ok_ints | exact cells_ints | exact no_mem | with_reducible exact plain_ints | (refine le_maxLen ?_; omega) | (refine za9 ⟨?_,?_⟩) | (simp only [go_sem,Qc,Qb,zb1,zb2,forall_eq]; done)))
     all_goals (first | omega | assumption | exact absurd trivial ‹¬True› | exact ret_s2 [] rfl rfl)
 . have hv : gvF ss=false:=by rw [gvF,decide_eq_false h80]; rfl
   rw [hv,if_neg (by simp)]
   refine Ctr.of (n:=24) (rs:=[.tmp 2,.tmp 3]) Tryd.func47 rfl rfl Tryd.ntmps47 rfl rfl (by kernel_rfl) Tryd.checked.mixed ?_
   simp (disch:=first | omega | decide +kernel) only [List.length_map,go_sem,Qa,Qb,Qc,Qd,Qe,↓reduceIte,reduceCtorEq,Qf,Qg,Qh]
   (repeat' (first | ((first | (refine gsel_split (fun q' => ?_) (fun q' => ?_)<;>(have h':=q')<;>(try simp only [za1,za2,Ba,Bb,za3,ne_eq,za4,za5,za6,Ia,Ib,Ic,Ie,Da,Bc,Bh,Be,za7,za8] at h')<;>try (exfalso; omega)) | (have q':=trivial; first | refine hE _ _ ret_ne ?_ | refine hE _ _ exit_ne ?_))<;>(try simp (disch:=first | omega | decide +kernel) only [q',List.length_map,go_sem,Qa,Qb,Qc,Qd,Qe,↓reduceIte,reduceCtorEq,Qf,Qg,Qh])<;>clear q') | refine hN _ ?_ ?_ Wk.kk | with_reducible refine And.intro ?_ ?_ | with_reducible omega | exact ok_ints | exact cells_ints | exact no_mem | with_reducible exact plain_ints | (refine le_maxLen ?_; omega) | (refine za9 ⟨?_,?_⟩) | (simp only [go_sem,Qc,Qb,zb1,zb2,forall_eq]; done)))
   all_goals (first | omega | assumption | exact absurd trivial ‹¬True› | exact ret_s2 [] rfl rfl | exact ret_s2 [8] rfl rfl)
def rngI (n k : Nat) : List Int:=(List.range k).map fun (i : Nat) => (n : Int) + (i : Int)
theorem rngI_len (n k : Nat) : (rngI n k).length=k:=by simp [rngI]
theorem rngI_succ (n k : Nat) : rngI n (k + 1)=rngI n k++[(n : Int) + (k : Int)]:=by simp [rngI,List.range_succ]
theorem rngI_get (n k i : Nat) (h : i < k) : (rngI n k).getD i 0=(n : Int) + (i : Int):=by
 simp [rngI,List.getD_eq_getElem?_getD,h]
theorem mvT_S (n k : Nat) (s : Fs) (h : s.r=-1->(0<=s.a∧s.a < k)∧(0<=s.b∧s.b < k)) : mvT (rngI n k) s=mvS n s:=by
 rw [mvT,mvS]
 split
 . next hr =>
   obtain ⟨⟨a0,a1⟩,b0,b1⟩:=h hr
   rw [rngI_get _ _ _ (by omega),rngI_get _ _ _ (by omega)]
   congr 1<;>omega
 . rfl
theorem am_sp {gs one two} (p1 : proofF gs one=true) (p2 : proofF gs two=true) :
 amG gs one two=(decide (one.length + two.length + 1<=80) && (decide ((fmS (lastF two).f).op=62) && decide ((fmS (lastF two).f).p1=(lastF one).f))):=by
 have q2:=proof_spec p2
 have k2 : okS (lastF two).f=true:=cor_ok (q2.2.2.2.2 _ (by omega))
 have hw:=(okS_spec k2).1
 rw [amG,p1,p2,Bool.true_and,Bool.true_and]
 congr 1
 rw [amR]
 generalize fmS (lastF two).f=x at *
 cases x with
 | lf c =>
   have : ¬ c=62:=fun h => by rw [h] at hw; exact absurd hw (by decide)
   rw [impR,Fm.op,decide_eq_false this]; rfl
 | ng a => rfl
 | jn o a b =>
   rw [impR,Fm.op,Fm.p1]
   by_cases h : o=62
   . rw [if_pos h,decide_eq_true h]; rfl
   . rw [if_neg h,decide_eq_false h]; rfl
theorem am_b {two : List Fs} (h : (fmS (lastF two).f).op=62) (hw : (fmS (lastF two).f).wf=true) : amB two=(fmS (lastF two).f).p2:=by
 rw [amB,amR]
 generalize fmS (lastF two).f=x at *
 cases x with
 | lf c =>
   rw [Fm.op] at h
   rw [h] at hw; exact absurd hw (by decide)
 | ng a => exact absurd (show (126 : UInt8)=62 from h) (by decide)
 | jn o a b =>
   rw [Fm.op] at h
   rw [impR,if_pos h]; rfl
theorem am_gv {gs one two} (p1 : proofF gs one=true) (p2 : proofF gs two=true) (h1 : (fmS (lastF two).f).op=62) (h2 : (fmS (lastF two).f).p1=(lastF one).f) : gvF (amL one two)=amG gs one two:=by
 rw [am_sp p1 p2,decide_eq_true h1,decide_eq_true h2,gvF,am_len,Bool.true_and]
 by_cases hz : one.length + two.length + 1<=80
 . have hg : amG gs one two=true:=by rw [am_sp p1 p2,decide_eq_true h1,decide_eq_true h2,decide_eq_true hz]; rfl
   have h3:=proof_spec (am_law hg).2.2.1
   rw [decide_eq_true hz,Bool.true_and,Bool.and_true]
   refine List.all_eq_true.2 fun x hx => ?_
   obtain ⟨j,hj,rfl⟩:=List.getElem_of_mem hx
   have h4:=h3.2.2.2.2 j hj
   rw [List.getD_eq_getElem?_getD,List.getElem?_eq_getElem hj,Option.getD_some] at h4
   exact decide_eq_true (okS_spec (cor_ok h4)).2.2
 . rw [decide_eq_false hz]; rfl
set_option maxHeartbeats 16000000 in
theorem AddModusS_ok (gs : List ByteArray) (one two : List Fs) (z1 : SzF gs one) (z2 : SzF gs two) :
 Ctr Tryd.prog 16 [.slice (gs.map .str),.slice (one.map fsD),.slice (two.map fsD)] true (.tup [.d (.slice ((amV gs one two).map fsD)),.d (.bool (amG gs one two))]) []:=by
 have c1:=l24GoodF_ok gs one z1
 have c2:=l24GoodF_ok gs two z2
 have hl1:=z1.sl
 have hl2:=z2.sl
 by_cases hp : proofF gs one=true∧proofF gs two=true
 . obtain ⟨p1,p2⟩:=hp
   have q1:=proof_spec p1
   have q2:=proof_spec p2
   rw [p1] at c1
   rw [p2] at c2
   have k2 : okS (lastF two).f=true:=cor_ok (q2.2.2.2.2 _ (by omega))
   obtain ⟨hw,hT,h80⟩:=okS_spec k2
   have c3:=l22Parts_ok (fmS (lastF two).f) hw (by rw [← hT]; omega)
   rw [← hT] at c3
   have e1:=el_fs (xs:=one) (i:=one.length - 1) (by omega)
   have e2:=el_fs (xs:=two) (i:=two.length - 1) (by omega)
   rw [← lastF] at e1 e2
   have en1 : (one.length : Int) - 1=((one.length - 1 : Nat) : Int):=by omega
   have en2 : (two.length : Int) - 1=((two.length - 1 : Nat) : Int):=by omega
   have hsp:=am_sp p1 p2
   by_cases h1 : (fmS (lastF two).f).op=62
   . by_cases h2 : (fmS (lastF two).f).p1=(lastF one).f
     . have hgv:=am_gv p1 p2 h1 h2
       have hb:=am_b h1 hw
       have cg:=l24Give_ok (amL one two) (by rw [am_len]; omega) (fun j => by
        by_cases hj : j < one.length
        . rw [am_1 hj]; exact z1.sz j
        . by_cases hj2 : j < one.length + two.length
          . have:=am_2 (one:=one) (two:=two) (k:=j - one.length) (by omega)
            rw [show one.length + (j - one.length)=j by omega] at this
            rw [this,mvS_f]; exact z2.sz _
          . by_cases hj3 : j=one.length + two.length
            . subst hj3
              rw [am_3]
              have hk:=(okS_spec k2)
              have hjn : (fmS (lastF two).f).p2.size<=80:=by
               have h5:=hk.2.2
               rw [hk.2.1] at h5
               generalize fmS (lastF two).f=x at *
               cases x with
               | lf c => exact Nat.zero_le _
               | ng a => exact Nat.zero_le _
               | jn o a b => rw [size_jn] at h5; show b.T.size<=80; omega
              dsimp only
              rw [hb]; omega
            . rw [List.getD_eq_getElem?_getD,List.getElem?_eq_none (by rw [am_len]; omega)]; exact Nat.zero_le _)
       rw [hgv] at cg
       rw [amV]
       generalize amG gs one two=ag at *
       have hre : (if ag=true then amL one two else []).map fsD=if ag=true then (amL one two).map fsD else []:=by cases ag<;>rfl
       rw [hre]
       generalize (if ag=true then (amL one two).map fsD else [])=res at *
       clear hre
       have cg:=Ctr.eat1 (e:=67) (k:=4) (Ctr.tupN (ys:=[_,_]) cg)
       have hfs:=fun (i : Nat) (h : i < two.length) => el_fs (xs:=two) h
       have hcorr:=fun (i : Nat) (h : i < two.length) (hr : (two.getD i Fs.z).r=-1) => cor_mod (q2.2.2.2.2 i h) hr
       have hm : (amL one two).map fsD=(one++two.map (mvS one.length)).map fsD++[D.agg [.str (amB two),.int .i64 (-1),.int .i64 ((one.length : Int) - 1),.int .i64 (((one.length + two.length : Nat) : Int) - 1)]]:=by
        rw [amL,List.map_append]; rfl
       rw [hm] at cg
       have hc62 : ((fmS (lastF two).f).op.toNat : Int)=62:=by rw [h1]; rfl
       rw [hc62,h2,← hb] at c3
       have hlo : (lastF one).f.size<=1000:=z1.sz _
       have hnn : (one.length : Int) - 1=((one.length - 1 : Nat) : Int):=by omega
       clear hsp hT hgv h1 h2 hb hm hc62 hw q1
       generalize amB two=bT at *
       generalize lastF two=lt at *
       generalize lastF one=lo at *
       refine Ctr.of (n:=92) (rs:=[.tmp 6,.tmp 7]) Tryd.func16 rfl rfl Tryd.ntmps16 rfl rfl (by kernel_rfl) Tryd.checked.mixed ?_
       simp (disch:=first | omega | decide +kernel) only [e1,e2,en1,en2,beq_str,decide_true,List.length_map,Int.toNat_natCast,go_sem,Qa,Qb,Qc,Qd,Qe,↓reduceIte,reduceCtorEq,Qf,Qg,Qh]
       (repeat' (first | ((first | (refine gsel_split (fun q' => ?_) (fun q' => ?_)<;>(have h':=q')<;>(try simp only [za1,za2,Ba,Bb,za3,ne_eq,za4,za5,za6,Ia,Ib,Ic,Ie,Da,Bc,Bh,Be,za7,za8] at h')<;>try (exfalso; omega)) | (have q':=trivial; first | refine callX_new (c1) rfl (by decide) ?_ | refine callY_new (c1) rfl ?_ | refine callX_new (c2) rfl (by decide) ?_ | refine callY_new (c2) rfl ?_ | refine callX_shared (c3) rfl (by decide) ?_ | refine callY_shared (c3) rfl ?_ | refine hE _ _ ret_ne ?_ | refine hE _ _ exit_ne ?_))<;>(try simp (disch:=first | omega | decide +kernel) only [q',e1,e2,en1,en2,beq_str,decide_true,List.length_map,Int.toNat_natCast,go_sem,Qa,Qb,Qc,Qd,Qe,↓reduceIte,reduceCtorEq,Qf,Qg,Qh])<;>clear q') | refine hN _ ?_ ?_ Wk.kk | with_reducible refine And.intro ?_ ?_ | with_reducible omega | exact ok_ints | exact cells_ints | exact no_mem | with_reducible exact plain_ints | (refine le_maxLen ?_; omega) | (refine za9 ⟨?_,?_⟩) | (simp only [go_sem,Qc,Qb,zb1,zb2,forall_eq]; done)))
       all_goals (try (first | omega | exact absurd trivial ‹¬True› | exact fun _ h => okFs h))
       rw [en1] at cg
       refine Ok.loopN [91,90,89,88,87,86,85,84,83,82,81,80,79,78,77,76,75,74,73,72,71,70,69,68,67,66,65,64,63,62,61,60,59,58,57,56,55,54,53,52,51,50,49,48,47,46,45,44,43,42,41,40,39,38,37,36,35,34,33,32,31,30,29,28,27,26,25,24,23,22,21,20,19,18,17,16,15,14,13,12,10,9,8,7,6,5,4,3] (fun i (w : List Fs × List Int) => [(13,.d (.int .i64 (i : Nat))),(12,.sl 55),(8,.sl 14)]) (fun i w => [(14,.arr 67 4 (w.1.map fsD)),(55,.arr 3 1 (w.2.map (.int .i64)))]) two.length (fun i w => w.1=one++(two.take i).map (mvS one.length)∧w.2=rngI one.length i) (one,[]) (by simp [rngI]) (Wk.kk) ?_
       rintro R i ⟨w,u⟩ hN hE hi ⟨hw,hu⟩
       dsimp only at hw hu ⊢
       have hwl : w.length=one.length + i:=by rw [hw]; simp; omega
       have hrl : u.length=i:=by rw [hu]; exact rngI_len one.length i
       by_cases hlt : i < two.length
       . have he:=hfs i hlt
         have hsu : w++[mvS one.length (two.getD i Fs.z)]=one++(two.take (i + 1)).map (mvS one.length):=by
          rw [hw,take_s Fs.z two i hlt]; simp
         have hcor:=hcorr i hlt
         generalize two.getD i Fs.z=s at *
         have cm:=l24Moved_ok s (rngI one.length (i + 1)) (by rw [rngI_len]; omega) (fun h => by have:=hcor h; rw [rngI_len]; omega)
         have hu' : u++[(one.length : Int) + (i : Int)]=rngI one.length (i + 1):=by rw [rngI_succ,hu]
         rw [mvT_S _ _ _ (fun h => by have:=hcor h; omega),D.ints,← hu',List.map_append,List.map_cons,List.map_nil] at cm
         obtain ⟨sf,sr,sa,sb⟩:=s
         dsimp only at he
         clear hcor hw hu
         have eN : ((i : Nat) : Int) + 1=((i + 1 : Nat) : Int):=by omega
         generalize mvS one.length ⟨sf,sr,sa,sb⟩=mv at *
         rw [fsD,fsD] at cm
         simp (disch:=first | omega | decide +kernel) only [he,List.length_map,eN,Int.toNat_natCast,hrl,go_sem,Qa,Qb,Qc,Qd,Qe,↓reduceIte,reduceCtorEq,Qf,Qg,Qh]
         (repeat' (first | ((first | (refine gsel_split (fun q' => ?_) (fun q' => ?_)<;>(have h':=q')<;>(try simp only [za1,za2,Ba,Bb,za3,ne_eq,za4,za5,za6,Ia,Ib,Ic,Ie,Da,Bc,Bh,Be,za7,za8] at h')<;>try (exfalso; omega)) | (have q':=trivial; first | refine callX_new (cm) rfl (by decide) ?_ | refine callY_new (cm) rfl ?_ | refine hE _ _ ret_ne ?_ | refine hE _ _ exit_ne ?_))<;>(try simp (disch:=first | omega | decide +kernel) only [q',he,List.length_map,eN,Int.toNat_natCast,hrl,go_sem,Qa,Qb,Qc,Qd,Qe,↓reduceIte,reduceCtorEq,Qf,Qg,Qh])<;>clear q') | refine hN _ ?_ ?_ Wk.kk | with_reducible refine And.intro ?_ ?_ | with_reducible omega | exact ok_ints | exact cells_ints | exact no_mem | with_reducible exact plain_ints | (refine le_maxLen ?_; omega) | (refine za9 ⟨?_,?_⟩) | (simp only [go_sem,Qc,Qb,zb1,zb2,forall_eq]; done)))
         all_goals (first | omega | exact absurd trivial ‹¬True› | exact le_maxLen (by omega) | exact okA _ _ _ _ | (refine hN (w++[mv],u++[(one.length : Int) + (i : Int)]) _ hlt ⟨hsu,hu'⟩ (by refine Wk.auto ?_ ?_<;>simp [extraK,lk,killL,St.kill,wipeO,wipeS,AV.has,AV.hasL,AO.wipe,List.map_set,updSt,insL,dropS,ins,List.map_append,List.map_cons,List.map_nil,fsD]); done))
       . obtain rfl : i=two.length:=by omega
         rw [List.take_length] at hw
         subst hw
         simp (disch:=first | omega | decide +kernel) only [List.length_map,hwl,en1,go_sem,Qa,Qb,Qc,Qd,Qe,↓reduceIte,reduceCtorEq,Qf,Qg,Qh]
         (repeat' (first | ((first | (refine gsel_split (fun q' => ?_) (fun q' => ?_)<;>(have h':=q')<;>(try simp only [za1,za2,Ba,Bb,za3,ne_eq,za4,za5,za6,Ia,Ib,Ic,Ie,Da,Bc,Bh,Be,za7,za8] at h')<;>try (exfalso; omega)) | (have q':=trivial; first | refine callX_mut [14] [] [14] (cg) ⟨.inl rfl,trivial⟩ ⟨rfl,trivial⟩ rfl (by simp [dstB]) ?_ | refine hE _ _ ret_ne ?_ | refine hE _ _ exit_ne ?_))<;>(try simp (disch:=first | omega | decide +kernel) only [q',List.length_map,hwl,en1,go_sem,Qa,Qb,Qc,Qd,Qe,↓reduceIte,reduceCtorEq,Qf,Qg,Qh])<;>clear q') | refine hN _ ?_ ?_ Wk.kk | with_reducible refine And.intro ?_ ?_ | with_reducible omega | exact ok_ints | exact cells_ints | exact no_mem | with_reducible exact plain_ints | (refine le_maxLen ?_; omega) | (refine za9 ⟨?_,?_⟩) | (simp only [go_sem,Qc,Qb,zb1,zb2,forall_eq]; done)))
         all_goals (first | omega | exact absurd trivial ‹¬True› | exact le_maxLen (by omega) | exact okA _ _ _ _ | exact ret_s2 [] rfl rfl)
     . have hg : amG gs one two=false:=by rw [hsp,decide_eq_false h2,Bool.and_false,Bool.and_false]
       rw [amV,hg,if_neg (by simp)]
       generalize lastF two=lt at *
       generalize lastF one=lo at *
       generalize (fmS lt.f).p1=s1 at *
       generalize (fmS lt.f).p2=s2 at *
       generalize (fmS lt.f).op=o at *
       clear hsp
       subst h1
       refine Ctr.of (n:=92) (rs:=[.tmp 6,.tmp 7]) Tryd.func16 rfl rfl Tryd.ntmps16 rfl rfl (by kernel_rfl) Tryd.checked.mixed ?_
       simp (disch:=first | omega | decide +kernel) only [e1,e2,en1,en2,beq_str,h2,decide_false,List.length_map,Int.toNat_natCast,go_sem,Qa,Qb,Qc,Qd,Qe,↓reduceIte,reduceCtorEq,Qf,Qg,Qh]
       (repeat' (first | ((first | (refine gsel_split (fun q' => ?_) (fun q' => ?_)<;>(have h':=q')<;>(try simp only [za1,za2,Ba,Bb,za3,ne_eq,za4,za5,za6,Ia,Ib,Ic,Ie,Da,Bc,Bh,Be,za7,za8] at h')<;>try (exfalso; omega)) | (have q':=trivial; first | refine callX_new (c1) rfl (by decide) ?_ | refine callY_new (c1) rfl ?_ | refine callX_new (c2) rfl (by decide) ?_ | refine callY_new (c2) rfl ?_ | refine callX_shared (c3) rfl (by decide) ?_ | refine callY_shared (c3) rfl ?_ | refine hE _ _ ret_ne ?_ | refine hE _ _ exit_ne ?_))<;>(try simp (disch:=first | omega | decide +kernel) only [q',e1,e2,en1,en2,beq_str,h2,decide_false,List.length_map,Int.toNat_natCast,go_sem,Qa,Qb,Qc,Qd,Qe,↓reduceIte,reduceCtorEq,Qf,Qg,Qh])<;>clear q') | refine hN _ ?_ ?_ Wk.kk | with_reducible refine And.intro ?_ ?_ | with_reducible omega | exact ok_ints | exact cells_ints | exact no_mem | with_reducible exact plain_ints | (refine le_maxLen ?_; omega) | (refine za9 ⟨?_,?_⟩) | (simp only [go_sem,Qc,Qb,zb1,zb2,forall_eq]; done)))
       all_goals (first | omega | assumption | rfl | exact absurd trivial ‹¬True› | exact ret_s2 [14] rfl rfl | exact ret_s2 [6] rfl rfl)
   . have hg : amG gs one two=false:=by rw [hsp,decide_eq_false h1,Bool.false_and,Bool.and_false]
     rw [amV,hg,if_neg (by simp)]
     have hc62 : ¬ ((fmS (lastF two).f).op.toNat : Int)=62:=fun h => h1 (toN_eq (d:=62) |>.1 h)
     generalize lastF two=lt at *
     generalize lastF one=lo at *
     generalize (fmS lt.f).p1=s1 at *
     generalize (fmS lt.f).p2=s2 at *
     generalize (fmS lt.f).op=o at *
     refine Ctr.of (n:=92) (rs:=[.tmp 6,.tmp 7]) Tryd.func16 rfl rfl Tryd.ntmps16 rfl rfl (by kernel_rfl) Tryd.checked.mixed ?_
     simp (disch:=first | omega | decide +kernel) only [e1,e2,en1,en2,hc62,List.length_map,Int.toNat_natCast,go_sem,Qa,Qb,Qc,Qd,Qe,↓reduceIte,reduceCtorEq,Qf,Qg,Qh]
     (repeat' (first | ((first | (refine gsel_split (fun q' => ?_) (fun q' => ?_)<;>(have h':=q')<;>(try simp only [za1,za2,Ba,Bb,za3,ne_eq,za4,za5,za6,Ia,Ib,Ic,Ie,Da,Bc,Bh,Be,za7,za8] at h')<;>try (exfalso; omega)) | (have q':=trivial; first | refine callX_new (c1) rfl (by decide) ?_ | refine callY_new (c1) rfl ?_ | refine callX_new (c2) rfl (by decide) ?_ | refine callY_new (c2) rfl ?_ | refine callX_shared (c3) rfl (by decide) ?_ | refine callY_shared (c3) rfl ?_ | refine hE _ _ ret_ne ?_ | refine hE _ _ exit_ne ?_))<;>(try simp (disch:=first | omega | decide +kernel) only [q',e1,e2,en1,en2,hc62,List.length_map,Int.toNat_natCast,go_sem,Qa,Qb,Qc,Qd,Qe,↓reduceIte,reduceCtorEq,Qf,Qg,Qh])<;>clear q') | refine hN _ ?_ ?_ Wk.kk | with_reducible refine And.intro ?_ ?_ | with_reducible omega | exact ok_ints | exact cells_ints | exact no_mem | with_reducible exact plain_ints | (refine le_maxLen ?_; omega) | (refine za9 ⟨?_,?_⟩) | (simp only [go_sem,Qc,Qb,zb1,zb2,forall_eq]; done)))
     all_goals (first | omega | assumption | rfl | exact absurd trivial ‹¬True› | exact ret_s2 [14] rfl rfl | exact ret_s2 [6] rfl rfl)
 . have hg : amG gs one two=false:=by
    rw [amG]
    cases p1 : proofF gs one with
    | false => rfl
    | true =>
      cases p2 : proofF gs two with
      | false => rfl
      | true => exact absurd ⟨p1,p2⟩ hp
   rw [amV,hg,if_neg (by simp)]
   cases p1 : proofF gs one with
   | false =>
     rw [p1] at c1
     refine Ctr.of (n:=92) (rs:=[.tmp 6,.tmp 7]) Tryd.func16 rfl rfl Tryd.ntmps16 rfl rfl (by kernel_rfl) Tryd.checked.mixed ?_
     simp (disch:=first | omega | decide +kernel) only [List.length_map,go_sem,Qa,Qb,Qc,Qd,Qe,↓reduceIte,reduceCtorEq,Qf,Qg,Qh]
     (repeat' (first | ((first | (refine gsel_split (fun q' => ?_) (fun q' => ?_)<;>(have h':=q')<;>(try simp only [za1,za2,Ba,Bb,za3,ne_eq,za4,za5,za6,Ia,Ib,Ic,Ie,Da,Bc,Bh,Be,za7,za8] at h')<;>try (exfalso; omega)) | (have q':=trivial; first | refine callX_new (c1) rfl (by decide) ?_ | refine callY_new (c1) rfl ?_ | refine hE _ _ ret_ne ?_ | refine hE _ _ exit_ne ?_))<;>(try simp (disch:=first | omega | decide +kernel) only [q',List.length_map,go_sem,Qa,Qb,Qc,Qd,Qe,↓reduceIte,reduceCtorEq,Qf,Qg,Qh])<;>clear q') | refine hN _ ?_ ?_ Wk.kk | with_reducible refine And.intro ?_ ?_ | with_reducible omega | exact ok_ints | exact cells_ints | exact no_mem | with_reducible exact plain_ints | (refine le_maxLen ?_; omega) | (refine za9 ⟨?_,?_⟩) | (simp only [go_sem,Qc,Qb,zb1,zb2,forall_eq]; done)))
     all_goals (first | omega | assumption | rfl | exact absurd trivial ‹¬True› | exact ret_s2 [14] rfl rfl | exact ret_s2 [6] rfl rfl)
   | true =>
     rw [p1] at c1
     cases p2 : proofF gs two with
     | false =>
       rw [p2] at c2
       refine Ctr.of (n:=92) (rs:=[.tmp 6,.tmp 7]) Tryd.func16 rfl rfl Tryd.ntmps16 rfl rfl (by kernel_rfl) Tryd.checked.mixed ?_
       simp (disch:=first | omega | decide +kernel) only [List.length_map,go_sem,Qa,Qb,Qc,Qd,Qe,↓reduceIte,reduceCtorEq,Qf,Qg,Qh]
       (repeat' (first | ((first | (refine gsel_split (fun q' => ?_) (fun q' => ?_)<;>(have h':=q')<;>(try simp only [za1,za2,Ba,Bb,za3,ne_eq,za4,za5,za6,Ia,Ib,Ic,Ie,Da,Bc,Bh,Be,za7,za8] at h')<;>try (exfalso; omega)) | (have q':=trivial; first | refine callX_new (c1) rfl (by decide) ?_ | refine callY_new (c1) rfl ?_ | refine callX_new (c2) rfl (by decide) ?_ | refine callY_new (c2) rfl ?_ | refine hE _ _ ret_ne ?_ | refine hE _ _ exit_ne ?_))<;>(try simp (disch:=first | omega | decide +kernel) only [q',List.length_map,go_sem,Qa,Qb,Qc,Qd,Qe,↓reduceIte,reduceCtorEq,Qf,Qg,Qh])<;>clear q') | refine hN _ ?_ ?_ Wk.kk | with_reducible refine And.intro ?_ ?_ | with_reducible omega | exact ok_ints | exact cells_ints | exact no_mem | with_reducible exact plain_ints | (refine le_maxLen ?_; omega) | (refine za9 ⟨?_,?_⟩) | (simp only [go_sem,Qc,Qb,zb1,zb2,forall_eq]; done)))
       all_goals (first | omega | assumption | rfl | exact absurd trivial ‹¬True› | exact ret_s2 [14] rfl rfl | exact ret_s2 [6] rfl rfl)
     | true => exact absurd ⟨p1,p2⟩ hp
end Abs.Y
