/- What functions of this program compute, over plain data. No condition. -/
import Derived.Test.YtiafnejjhnjbfaaDoorGF11
set_option linter.all false
namespace Abs.Y
open Go Go.Proofs Abs
open Nat renaming reduceEqDiff -> Qa, reduceLT -> Qb, reduceAdd -> Qc, reduceMul -> Qd, reduceSub -> Qe, reduceLeDiff -> Qf, reduceSubDiff -> Qg, reduceBEq -> Qh
open Bool renaming not_eq_true' -> Ba, not_eq_false' -> Bb, and_eq_true -> Bc, or_eq_true -> Bh, or_eq_false_iff -> Be
open Int renaming ofNat_lt -> Ia, ofNat_le -> Ib, not_lt -> Ic, not_le -> Ie
open Decidable renaming not_not -> Da
set_option maxRecDepth 100000

theorem szF_pf {gs : List ByteArray} {ss : List Fs} (h : proofF gs ss=true) : SzF gs ss:=by
 obtain ⟨h1,h2,h3,h4,h5⟩:=proof_spec h
 refine ⟨by omega,by omega,fun j => ?_,fun j => ?_⟩
 . exact Nat.le_trans (getD_szB (n:=80) (fun g hg => (okS_spec (h3 g hg)).2.2) j) (by omega)
 . by_cases hj : j < ss.length
   . have:=(okS_spec (cor_ok (h5 j hj))).2.2; omega
   . rw [List.getD_eq_getElem?_getD,List.getElem?_eq_none (by omega)]; exact Nat.zero_le _
theorem amV_len (gs : List ByteArray) (one two : List Fs) : (amV gs one two).length<=1000:=by
 rw [amV]
 split
 . next h =>
   have:=proof_spec (am_law h).2.2.1
   omega
 . exact Nat.zero_le _
theorem pfV_len (gs : List ByteArray) (ss : List Fs) (l t : ByteArray) : (pfV gs ss l t).length<=ss.length:=by
 rw [pfV]
 split
 . rw [List.length_map]; omega
 . exact Nat.zero_le _
theorem pf_pos {gs ss l t} (h : pfG gs ss l t=true) (hn : 0 < ss.length∨okF gs ss=false) : 0 < ss.length:=by
 rcases hn with hn | hn
 . exact hn
 . rw [pfG,hn] at h; cases h
set_option maxHeartbeats 16000000 in
theorem law_FnFregeChanges : ∀ xs,AllR [isSl isU8] xs->Ctr Tryd.prog 4 xs false (.d (.bool true)) []:=by
 intro xs hx
 obtain ⟨x0,ys,rfl,h0,hx⟩:=allR_cons hx
 obtain rfl:=allR_nil hx
 obtain ⟨code,rfl,hcb⟩:=r_bytes h0
 have c0:=vBig_ok code
 by_cases hbig : 65536 < code.length
 . rw [decide_eq_true hbig] at c0
   refine Ctr.of (n:=168) (rs:=[.tmp 2]) Tryd.func4 rfl rfl Tryd.ntmps4 rfl rfl (by kernel_rfl) Tryd.checked.mixed ?_
   simp (disch:=first | omega | decide +kernel) only [go_sem,Qa,Qb,Qc,Qd,Qe,↓reduceIte,reduceCtorEq,Qf,Qg,Qh]
   refine callX_new (c0) rfl (by decide) ?_
   simp (disch:=first | omega | decide +kernel) only [go_sem,Qa,Qb,Qc,Qd,Qe,↓reduceIte,reduceCtorEq,Qf,Qg,Qh]
 have hc : CodeOK code:=⟨by omega,hcb⟩
 rw [decide_eq_false hbig] at c0
 have d1:=drawAddModus_ok hc
 have d2:=drawPutInFrege_ok hc
 simp only [D.bytes] at d1 d2
 refine Ctr.ofK (n:=168) (rs:=[.tmp 2]) Tryd.func4 rfl rfl Tryd.ntmps4 rfl rfl (by kernel_rfl) Tryd.checked.mixed ?_
 refine Ok.seq (Ok.go ?_)
 simp (disch:=first | omega | decide +kernel) only [go_sem,Qa,Qb,Qc,Qd,Qe,↓reduceIte,reduceCtorEq,Qf,Qg,Qh]
 refine Ok.seq (Ok.go ?_)
 simp (disch:=first | omega | decide +kernel) only [go_sem,Qa,Qb,Qc,Qd,Qe,↓reduceIte,reduceCtorEq,Qf,Qg,Qh]
 (repeat' (first | ((first | (refine gsel_split (fun q' => ?_) (fun q' => ?_)<;>(have h':=q')<;>(try simp only [za1,za2,Ba,Bb,za3,ne_eq,za4,za5,za6,Ia,Ib,Ic,Ie,Da,Bc,Bh,Be,za7,za8] at h')<;>try (exfalso; omega)) | (have q':=trivial; first | refine callX_new (c0) rfl (by decide) ?_ | refine callY_new (c0) rfl ?_ | refine hE _ _ ret_ne ?_ | refine hE _ _ exit_ne ?_))<;>(try simp (disch:=first | omega | decide +kernel) only [q',go_sem,Qa,Qb,Qc,Qd,Qe,↓reduceIte,reduceCtorEq,Qf,Qg,Qh])<;>clear q') | refine hN _ ?_ ?_ Wk.kk | with_reducible refine And.intro ?_ ?_ | with_reducible omega | exact ok_ints | exact cells_ints | exact no_mem | with_reducible exact plain_ints | (refine le_maxLen ?_; omega) | (refine za9 ⟨?_,?_⟩) | (simp only [go_sem,Qc,Qb,zb1,zb2,forall_eq]; done)))
 clear c0
 refine Ok.seq (Ok.go ?_)
 simp (disch:=first | omega | decide +kernel) only [go_sem,Qa,Qb,Qc,Qd,Qe,↓reduceIte,reduceCtorEq,Qf,Qg,Qh]
 (repeat' (first | ((first | (refine gsel_split (fun q' => ?_) (fun q' => ?_)<;>(have h':=q')<;>(try simp only [za1,za2,Ba,Bb,za3,ne_eq,za4,za5,za6,Ia,Ib,Ic,Ie,Da,Bc,Bh,Be,za7,za8] at h')<;>try (exfalso; omega)) | (have q':=trivial; first | (refine callX_rels (d1) ⟨.inl rfl,trivial⟩ (by simp [dstB]) ?_; rintro _ ⟨xa,rfl,hxa⟩) | (refine callX_rels (d1) ⟨.inr ⟨rfl,_,rfl,rfl⟩,trivial⟩ (by simp [dstB]) ?_; rintro _ ⟨xa,rfl,hxa⟩) | refine hE _ _ ret_ne ?_ | refine hE _ _ exit_ne ?_))<;>(try simp (disch:=first | omega | decide +kernel) only [q',go_sem,Qa,Qb,Qc,Qd,Qe,↓reduceIte,reduceCtorEq,Qf,Qg,Qh])<;>clear q') | refine hN _ ?_ ?_ Wk.kk | with_reducible refine And.intro ?_ ?_ | with_reducible omega | exact ok_ints | exact cells_ints | exact no_mem | with_reducible exact plain_ints | (refine le_maxLen ?_; omega) | (refine za9 ⟨?_,?_⟩) | (simp only [go_sem,Qc,Qb,zb1,zb2,forall_eq]; done)))
 clear d1
 obtain ⟨gs,one,two⟩:=xa
 dsimp only at hxa ⊢
 obtain ⟨z1,z2⟩:=hxa
 have c1:=AddModus_ok gs one two z1 z2
 have c2:=AddModusS_ok gs one two z1 z2
 have c3:=vFrege_ok (amV gs one two) (amV_len gs one two)
 have hlaw:=fun h => am_law (gs:=gs) (one:=one) (two:=two) h
 have hval : amG gs one two=true->amV gs one two=amL one two:=fun h => by rw [amV,if_pos h]
 generalize amV gs one two=v at *
 generalize amG gs one two=g at *
 refine Ok.seq (Ok.go ?_)
 simp (disch:=first | omega | decide +kernel) only [go_sem,Qa,Qb,Qc,Qd,Qe,↓reduceIte,reduceCtorEq,Qf,Qg,Qh]
 (repeat' (first | ((first | (refine gsel_split (fun q' => ?_) (fun q' => ?_)<;>(have h':=q')<;>(try simp only [za1,za2,Ba,Bb,za3,ne_eq,za4,za5,za6,Ia,Ib,Ic,Ie,Da,Bc,Bh,Be,za7,za8] at h')<;>try (exfalso; omega)) | (have q':=trivial; first | refine callX_shared (c1) rfl (by decide) ?_ | refine callY_shared (c1) rfl ?_ | refine hE _ _ ret_ne ?_ | refine hE _ _ exit_ne ?_))<;>(try simp (disch:=first | omega | decide +kernel) only [q',go_sem,Qa,Qb,Qc,Qd,Qe,↓reduceIte,reduceCtorEq,Qf,Qg,Qh])<;>clear q') | refine hN _ ?_ ?_ Wk.kk | with_reducible refine And.intro ?_ ?_ | with_reducible omega | exact ok_ints | exact cells_ints | exact no_mem | with_reducible exact plain_ints | (refine le_maxLen ?_; omega) | (refine za9 ⟨?_,?_⟩) | (simp only [go_sem,Qc,Qb,zb1,zb2,forall_eq]; done)))
 refine Ok.seq (Ok.go ?_)
 simp (disch:=first | omega | decide +kernel) only [go_sem,Qa,Qb,Qc,Qd,Qe,↓reduceIte,reduceCtorEq,Qf,Qg,Qh]
 (repeat' (first | ((first | (refine gsel_split (fun q' => ?_) (fun q' => ?_)<;>(have h':=q')<;>(try simp only [za1,za2,Ba,Bb,za3,ne_eq,za4,za5,za6,Ia,Ib,Ic,Ie,Da,Bc,Bh,Be,za7,za8] at h')<;>try (exfalso; omega)) | (have q':=trivial; first | refine callX_shared (c2) rfl (by decide) ?_ | refine callY_shared (c2) rfl ?_ | refine callX_new (c3) rfl (by decide) ?_ | refine callY_new (c3) rfl ?_ | refine hE _ _ ret_ne ?_ | refine hE _ _ exit_ne ?_))<;>(try simp (disch:=first | omega | decide +kernel) only [q',beq_self_eq_true,go_sem,Qa,Qb,Qc,Qd,Qe,↓reduceIte,reduceCtorEq,Qf,Qg,Qh])<;>clear q') | refine hN _ ?_ ?_ Wk.kk | with_reducible refine And.intro ?_ ?_ | with_reducible omega | exact ok_ints | exact cells_ints | exact no_mem | with_reducible exact plain_ints | (refine le_maxLen ?_; omega) | (refine za9 ⟨?_,?_⟩) | (simp only [go_sem,Qc,Qb,zb1,zb2,forall_eq]; done)))
 all_goals (try (exact absurd trivial h'))
 clear c1 c2 c3
 refine Ok.seqJ ⟨[(2,.d (.bool false)),(0,.d (.slice (code.map (.int .u8))))],[]⟩ ?_ (Ok.go ?_)
 rotate_left
 . cases g with
   | false =>
     simp (disch:=first | omega | decide +kernel) only [go_sem,Qa,Qb,Qc,Qd,Qe,↓reduceIte,reduceCtorEq,Qf,Qg,Qh]
     (repeat' (first | ((first | (refine gsel_split (fun q' => ?_) (fun q' => ?_)<;>(have h':=q')<;>(try simp only [za1,za2,Ba,Bb,za3,ne_eq,za4,za5,za6,Ia,Ib,Ic,Ie,Da,Bc,Bh,Be,za7,za8] at h')<;>try (exfalso; omega)) | (have q':=trivial; first | refine hE _ _ ret_ne ?_ | refine hE _ _ exit_ne ?_))<;>(try simp (disch:=first | omega | decide +kernel) only [q',go_sem,Qa,Qb,Qc,Qd,Qe,↓reduceIte,reduceCtorEq,Qf,Qg,Qh])<;>clear q') | refine hN _ ?_ ?_ Wk.kk | with_reducible refine And.intro ?_ ?_ | with_reducible omega | exact ok_ints | exact cells_ints | exact no_mem | with_reducible exact plain_ints | (refine le_maxLen ?_; omega) | (refine za9 ⟨?_,?_⟩) | (simp only [go_sem,Qc,Qb,zb1,zb2,forall_eq]; done)))
     all_goals (first | omega | exact absurd trivial ‹¬True› | exact (Wk.kk))
   | true =>
     obtain ⟨p1,p2,p3,e3,e2,ob⟩:=hlaw rfl
     have hv:=hval rfl
     subst hv
     have c1:=ProvedFormula_ok gs one z1
     have c2:=ProvedFormula_ok gs two z2
     have c3:=ProvedFormula_ok gs (amL one two) (szF_pf p3)
     rw [proved,p1,if_pos rfl] at c1
     rw [proved,p2,if_pos rfl] at c2
     rw [proved,p3,if_pos rfl,e3] at c3
     rw [impS] at e2
     have s1 : (lastF one).f.size<=1000:=z1.sz _
     have s2 : (lastF two).f.size<=1000:=z2.sz _
     have s3 : (amB two).size<=1000:=by have:=(okS_spec ob).2.2; omega
     have y1 : (ByteArray.mk #[40]).size=1:=rfl
     have y2 : (ByteArray.mk #[62]).size=1:=rfl
     have y3 : (ByteArray.mk #[41]).size=1:=rfl
     have he:=decide_eq_true e2
     clear hlaw hval p1 p2 p3 e3 ob
     generalize (lastF one).f=x at *
     generalize (lastF two).f=y at *
     generalize amB two=z at *
     generalize (amL one two).map fsD=vv at *
     simp (disch:=first | omega | decide +kernel) only [beq_str,he,go_sem,Qa,Qb,Qc,Qd,Qe,↓reduceIte,reduceCtorEq,Qf,Qg,Qh]
     (repeat' (first | ((first | (refine gsel_split (fun q' => ?_) (fun q' => ?_)<;>(have h':=q')<;>(try simp only [za1,za2,Ba,Bb,za3,ne_eq,za4,za5,za6,Ia,Ib,Ic,Ie,Da,Bc,Bh,Be,za7,za8] at h')<;>try (exfalso; omega)) | (have q':=trivial; first | refine callX_shared (c1) rfl (by decide) ?_ | refine callY_shared (c1) rfl ?_ | refine callX_shared (c2) rfl (by decide) ?_ | refine callY_shared (c2) rfl ?_ | refine callX_shared (c3) rfl (by decide) ?_ | refine callY_shared (c3) rfl ?_ | refine hE _ _ ret_ne ?_ | refine hE _ _ exit_ne ?_))<;>(try simp (disch:=first | omega | decide +kernel) only [q',beq_str,he,y1,y2,y3,ByteArray.size_append,go_sem,Qa,Qb,Qc,Qd,Qe,↓reduceIte,reduceCtorEq,Qf,Qg,Qh])<;>clear q') | refine hN _ ?_ ?_ Wk.kk | with_reducible refine And.intro ?_ ?_ | with_reducible omega | exact ok_ints | exact cells_ints | exact no_mem | with_reducible exact plain_ints | (refine le_maxLen ?_; omega) | (refine za9 ⟨?_,?_⟩) | (simp only [go_sem,Qc,Qb,zb1,zb2,forall_eq]; done)))
     all_goals (first | omega | exact absurd trivial ‹¬True› | exact (Wk.kk))
 clear hlaw hval z1 z2
 clear g v one two gs
 refine Ok.seq (Ok.go ?_)
 simp (disch:=first | omega | decide +kernel) only [go_sem,Qa,Qb,Qc,Qd,Qe,↓reduceIte,reduceCtorEq,Qf,Qg,Qh]
 (repeat' (first | ((first | (refine gsel_split (fun q' => ?_) (fun q' => ?_)<;>(have h':=q')<;>(try simp only [za1,za2,Ba,Bb,za3,ne_eq,za4,za5,za6,Ia,Ib,Ic,Ie,Da,Bc,Bh,Be,za7,za8] at h')<;>try (exfalso; omega)) | (have q':=trivial; first | (refine callX_rels (d2) ⟨.inl rfl,trivial⟩ (by simp [dstB]) ?_; rintro _ ⟨xb,rfl,hxb⟩) | (refine callX_rels (d2) ⟨.inr ⟨rfl,_,rfl,rfl⟩,trivial⟩ (by simp [dstB]) ?_; rintro _ ⟨xb,rfl,hxb⟩) | refine hE _ _ ret_ne ?_ | refine hE _ _ exit_ne ?_))<;>(try simp (disch:=first | omega | decide +kernel) only [q',go_sem,Qa,Qb,Qc,Qd,Qe,↓reduceIte,reduceCtorEq,Qf,Qg,Qh])<;>clear q') | refine hN _ ?_ ?_ Wk.kk | with_reducible refine And.intro ?_ ?_ | with_reducible omega | exact ok_ints | exact cells_ints | exact no_mem | with_reducible exact plain_ints | (refine le_maxLen ?_; omega) | (refine za9 ⟨?_,?_⟩) | (simp only [go_sem,Qc,Qb,zb1,zb2,forall_eq]; done)))
 clear d2
 obtain ⟨gs,ss,l,t⟩:=xb
 dsimp only at hxb ⊢
 obtain ⟨z1,hn,hl,ht⟩:=hxb
 have c1:=PutInFrege_ok gs ss l t z1 (by omega) (by omega)
 have c2:=PutInFregeS_ok gs ss l t z1 (by omega) (by omega) hn
 have c3:=vFrege_ok (pfV gs ss l t) (by have:=pfV_len gs ss l t; have:=z1.sl; omega)
 have hlaw:=fun h => pf_law (gs:=gs) (ss:=ss) (l:=l) (t:=t) h
 have hpos:=fun h => pf_pos (gs:=gs) (ss:=ss) (l:=l) (t:=t) h hn
 have hval : pfG gs ss l t=true->pfV gs ss l t=ss.map (pfP l t):=fun h => by rw [pfV,if_pos h]
 generalize pfV gs ss l t=v at *
 generalize pfG gs ss l t=g at *
 refine Ok.seq (Ok.go ?_)
 simp (disch:=first | omega | decide +kernel) only [go_sem,Qa,Qb,Qc,Qd,Qe,↓reduceIte,reduceCtorEq,Qf,Qg,Qh]
 (repeat' (first | ((first | (refine gsel_split (fun q' => ?_) (fun q' => ?_)<;>(have h':=q')<;>(try simp only [za1,za2,Ba,Bb,za3,ne_eq,za4,za5,za6,Ia,Ib,Ic,Ie,Da,Bc,Bh,Be,za7,za8] at h')<;>try (exfalso; omega)) | (have q':=trivial; first | refine callX_shared (c1) rfl (by decide) ?_ | refine callY_shared (c1) rfl ?_ | refine hE _ _ ret_ne ?_ | refine hE _ _ exit_ne ?_))<;>(try simp (disch:=first | omega | decide +kernel) only [q',go_sem,Qa,Qb,Qc,Qd,Qe,↓reduceIte,reduceCtorEq,Qf,Qg,Qh])<;>clear q') | refine hN _ ?_ ?_ Wk.kk | with_reducible refine And.intro ?_ ?_ | with_reducible omega | exact ok_ints | exact cells_ints | exact no_mem | with_reducible exact plain_ints | (refine le_maxLen ?_; omega) | (refine za9 ⟨?_,?_⟩) | (simp only [go_sem,Qc,Qb,zb1,zb2,forall_eq]; done)))
 refine Ok.seq (Ok.go ?_)
 simp (disch:=first | omega | decide +kernel) only [go_sem,Qa,Qb,Qc,Qd,Qe,↓reduceIte,reduceCtorEq,Qf,Qg,Qh]
 (repeat' (first | ((first | (refine gsel_split (fun q' => ?_) (fun q' => ?_)<;>(have h':=q')<;>(try simp only [za1,za2,Ba,Bb,za3,ne_eq,za4,za5,za6,Ia,Ib,Ic,Ie,Da,Bc,Bh,Be,za7,za8] at h')<;>try (exfalso; omega)) | (have q':=trivial; first | refine callX_shared (c2) rfl (by decide) ?_ | refine callY_shared (c2) rfl ?_ | refine callX_new (c3) rfl (by decide) ?_ | refine callY_new (c3) rfl ?_ | refine hE _ _ ret_ne ?_ | refine hE _ _ exit_ne ?_))<;>(try simp (disch:=first | omega | decide +kernel) only [q',beq_self_eq_true,go_sem,Qa,Qb,Qc,Qd,Qe,↓reduceIte,reduceCtorEq,Qf,Qg,Qh])<;>clear q') | refine hN _ ?_ ?_ Wk.kk | with_reducible refine And.intro ?_ ?_ | with_reducible omega | exact ok_ints | exact cells_ints | exact no_mem | with_reducible exact plain_ints | (refine le_maxLen ?_; omega) | (refine za9 ⟨?_,?_⟩) | (simp only [go_sem,Qc,Qb,zb1,zb2,forall_eq]; done)))
 all_goals (try (exact absurd trivial h'))
 clear c1 c2 c3
 cases g with
 | false =>
   refine Ok.go ?_
   simp (disch:=first | omega | decide +kernel) only [go_sem,Qa,Qb,Qc,Qd,Qe,↓reduceIte,reduceCtorEq,Qf,Qg,Qh]
   (repeat' (first | ((first | (refine gsel_split (fun q' => ?_) (fun q' => ?_)<;>(have h':=q')<;>(try simp only [za1,za2,Ba,Bb,za3,ne_eq,za4,za5,za6,Ia,Ib,Ic,Ie,Da,Bc,Bh,Be,za7,za8] at h')<;>try (exfalso; omega)) | (have q':=trivial; first | refine hE _ _ ret_ne ?_ | refine hE _ _ exit_ne ?_))<;>(try simp (disch:=first | omega | decide +kernel) only [q',go_sem,Qa,Qb,Qc,Qd,Qe,↓reduceIte,reduceCtorEq,Qf,Qg,Qh])<;>clear q') | refine hN _ ?_ ?_ Wk.kk | with_reducible refine And.intro ?_ ?_ | with_reducible omega | exact ok_ints | exact cells_ints | exact no_mem | with_reducible exact plain_ints | (refine le_maxLen ?_; omega) | (refine za9 ⟨?_,?_⟩) | (simp only [go_sem,Qc,Qb,zb1,zb2,forall_eq]; done)))
   all_goals (first | omega | exact absurd trivial ‹¬True›)
 | true =>
   have hv:=hval rfl
   subst hv
   have hlaw:=hlaw rfl (hpos rfl)
   have hgl:=z1.gl
   have hgs:=fun (i : Nat) (h : i < gs.length) => el_gs (xs:=gs) h
   have cp:=fun (i : Nat) => PutFormula_ok (gs.getD i nilB) l t (by have:=z1.gz i; omega) (by omega) (by omega)
   have hma : ∀ (l : List ByteArray) (y : ByteArray),(l.map D.str)++[.str y]=(l++[y]).map D.str:=fun l y => by simp
   clear hval hpos hn
   refine Ok.go ?_
   simp (disch:=first | omega | decide +kernel) only [go_sem,Qa,Qb,Qc,Qd,Qe,↓reduceIte,reduceCtorEq,Qf,Qg,Qh]
   (repeat' (first | ((first | (refine gsel_split (fun q' => ?_) (fun q' => ?_)<;>(have h':=q')<;>(try simp only [za1,za2,Ba,Bb,za3,ne_eq,za4,za5,za6,Ia,Ib,Ic,Ie,Da,Bc,Bh,Be,za7,za8] at h')<;>try (exfalso; omega)) | (have q':=trivial; first | refine hE _ _ ret_ne ?_ | refine hE _ _ exit_ne ?_))<;>(try simp (disch:=first | omega | decide +kernel) only [q',go_sem,Qa,Qb,Qc,Qd,Qe,↓reduceIte,reduceCtorEq,Qf,Qg,Qh])<;>clear q') | refine hN _ ?_ ?_ Wk.kk | with_reducible refine And.intro ?_ ?_ | with_reducible omega | exact ok_ints | exact cells_ints | exact no_mem | with_reducible exact plain_ints | (refine le_maxLen ?_; omega) | (refine za9 ⟨?_,?_⟩) | (simp only [go_sem,Qc,Qb,zb1,zb2,forall_eq]; done)))
   refine Ok.loopN [167,166,165,164,163,162,161,160,159,158,157,156,155,154,153,152,151,150,149,148,147,146,145,144,143,142,141,140,139,138,137,136,135,134,133,132,131,130,129,128,127,126,125,124,123,122,121,120,119,118,117,116,115,114,113,112,111,110,109,108,107,106,105,104,103,102,101,100,99,98,97,96,95,94,93,92,91,90,89,88,87,86,85,84,83,82,81,80,79,78,77,76,75,74,73,72,71,70,69,68,67,66,65,64,63,62,61,60,59,58,57,56,55,54,53,52,51,50,49,48,47,46,45,44,43,42,41,40,39,38,37,36,35,34,33,32,31,30,29,28,27,26,25,24,23,22,21,17,15,14,13,12,11,10,9,8,7,6,5,4,3,1] (fun i (w : List ByteArray) => [(25,.d (.int .i64 (i : Nat))),(24,.sl 133)]) (fun i w => [(133,.arr 9 1 (w.map .str))]) gs.length (fun i w => w=(gs.take i).map (fun g => putS g l t)∧∀ j,j < i->putG (gs.getD j nilB) l t=true) [] (by simp) (Wk.kk) ?_
   rintro R i w hN hE hi ⟨hw,hI⟩
   have hwl : w.length=i:=by rw [hw]; simp; omega
   by_cases hlt : i < gs.length
   . have he:=hgs i hlt
     have cpi:=cp i
     have hsu : w++[putS (gs.getD i nilB) l t]=(gs.take (i + 1)).map (fun g => putS g l t):=by
      rw [hw,take_s nilB gs i hlt]; simp
     have eN : ((i : Nat) : Int) + 1=((i + 1 : Nat) : Int):=by omega
     cases hp : putG (gs.getD i nilB) l t with
     | true =>
       have hI':=all_succ (P:=fun j => putG (gs.getD j nilB) l t=true) hI hp
       rw [hp] at cpi
       clear hp hI cp hw hlaw
       generalize gs.getD i nilB=s at *
       generalize putS s l t=o at *
       simp (disch:=first | omega | decide +kernel) only [he,List.length_map,eN,Int.toNat_natCast,go_sem,Qa,Qb,Qc,Qd,Qe,↓reduceIte,reduceCtorEq,Qf,Qg,Qh]
       (repeat' (first | ((first | (refine gsel_split (fun q' => ?_) (fun q' => ?_)<;>(have h':=q')<;>(try simp only [za1,za2,Ba,Bb,za3,ne_eq,za4,za5,za6,Ia,Ib,Ic,Ie,Da,Bc,Bh,Be,za7,za8] at h')<;>try (exfalso; omega)) | (have q':=trivial; first | refine callX_shared (cpi) rfl (by decide) ?_ | refine callY_shared (cpi) rfl ?_ | refine hE _ _ ret_ne ?_ | refine hE _ _ exit_ne ?_))<;>(try simp (disch:=first | omega | decide +kernel) only [q',he,List.length_map,eN,Int.toNat_natCast,hma,go_sem,Qa,Qb,Qc,Qd,Qe,↓reduceIte,reduceCtorEq,Qf,Qg,Qh])<;>clear q') | refine hN _ ?_ ?_ Wk.kk | with_reducible refine And.intro ?_ ?_ | with_reducible omega | exact ok_ints | exact cells_ints | exact no_mem | with_reducible exact plain_ints | (refine le_maxLen ?_; omega) | (refine za9 ⟨?_,?_⟩) | (simp only [go_sem,Qc,Qb,zb1,zb2,forall_eq]; done)))
       all_goals (first | omega | exact absurd trivial ‹¬True› | (refine hN (w++[o]) _ hlt ⟨hsu,hI'⟩ (Wk.kk); done))
     | false =>
       rw [hp] at cpi
       clear hp hI cp hw hsu hlaw
       generalize gs.getD i nilB=s at *
       generalize putS s l t=o at *
       simp (disch:=first | omega | decide +kernel) only [he,List.length_map,eN,Int.toNat_natCast,go_sem,Qa,Qb,Qc,Qd,Qe,↓reduceIte,reduceCtorEq,Qf,Qg,Qh]
       (repeat' (first | ((first | (refine gsel_split (fun q' => ?_) (fun q' => ?_)<;>(have h':=q')<;>(try simp only [za1,za2,Ba,Bb,za3,ne_eq,za4,za5,za6,Ia,Ib,Ic,Ie,Da,Bc,Bh,Be,za7,za8] at h')<;>try (exfalso; omega)) | (have q':=trivial; first | refine callX_shared (cpi) rfl (by decide) ?_ | refine callY_shared (cpi) rfl ?_ | refine hE _ _ ret_ne ?_ | refine hE _ _ exit_ne ?_))<;>(try simp (disch:=first | omega | decide +kernel) only [q',he,List.length_map,eN,Int.toNat_natCast,go_sem,Qa,Qb,Qc,Qd,Qe,↓reduceIte,reduceCtorEq,Qf,Qg,Qh])<;>clear q') | refine hN _ ?_ ?_ Wk.kk | with_reducible refine And.intro ?_ ?_ | with_reducible omega | exact ok_ints | exact cells_ints | exact no_mem | with_reducible exact plain_ints | (refine le_maxLen ?_; omega) | (refine za9 ⟨?_,?_⟩) | (simp only [go_sem,Qc,Qb,zb1,zb2,forall_eq]; done)))
       all_goals (first | omega | exact absurd trivial ‹¬True›)
   . obtain rfl : i=gs.length:=by omega
     rw [List.take_length] at hw
     have hlaw:=hlaw fun g hg => by
      obtain ⟨j,hj,rfl⟩:=List.getElem_of_mem hg
      have:=hI j hj
      rwa [List.getD_eq_getElem?_getD,List.getElem?_eq_getElem hj,Option.getD_some] at this
     rw [← hw] at hlaw
     have ci:=IsFregeProof_ok w (ss.map (pfP l t)) (szF_pf hlaw)
     have hok : okF w (ss.map (pfP l t))=true:=by
      rw [proofF,Bc,Bc] at hlaw
      exact hlaw.1.1
     rw [hlaw,hok] at ci
     clear hlaw hok hw cp hgs hI
     simp (disch:=first | omega | decide +kernel) only [List.length_map,go_sem,Qa,Qb,Qc,Qd,Qe,↓reduceIte,reduceCtorEq,Qf,Qg,Qh]
     (repeat' (first | ((first | (refine gsel_split (fun q' => ?_) (fun q' => ?_)<;>(have h':=q')<;>(try simp only [za1,za2,Ba,Bb,za3,ne_eq,za4,za5,za6,Ia,Ib,Ic,Ie,Da,Bc,Bh,Be,za7,za8] at h')<;>try (exfalso; omega)) | (have q':=trivial; first | refine callX_new (ci) rfl (by decide) ?_ | refine callY_new (ci) rfl ?_ | refine hE _ _ ret_ne ?_ | refine hE _ _ exit_ne ?_))<;>(try simp (disch:=first | omega | decide +kernel) only [q',List.length_map,go_sem,Qa,Qb,Qc,Qd,Qe,↓reduceIte,reduceCtorEq,Qf,Qg,Qh])<;>clear q') | refine hN _ ?_ ?_ Wk.kk | with_reducible refine And.intro ?_ ?_ | with_reducible omega | exact ok_ints | exact cells_ints | exact no_mem | with_reducible exact plain_ints | (refine le_maxLen ?_; omega) | (refine za9 ⟨?_,?_⟩) | (simp only [go_sem,Qc,Qb,zb1,zb2,forall_eq]; done)))
     all_goals (first | omega | exact absurd trivial ‹¬True›)
end Abs.Y
