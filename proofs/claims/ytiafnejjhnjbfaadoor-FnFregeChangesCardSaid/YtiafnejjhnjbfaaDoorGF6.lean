/- What functions of this program compute, over plain data. No condition. -/
import Derived.Test.YtiafnejjhnjbfaaDoorGF5
set_option linter.all false
namespace Abs.Y
open Go Go.Proofs Abs
open Nat renaming reduceEqDiff -> Qa, reduceLT -> Qb, reduceAdd -> Qc, reduceMul -> Qd, reduceSub -> Qe, reduceLeDiff -> Qf, reduceSubDiff -> Qg, reduceBEq -> Qh
open Bool renaming not_eq_true' -> Ba, not_eq_false' -> Bb, and_eq_true -> Bc, or_eq_true -> Bh, or_eq_false_iff -> Be
open Int renaming ofNat_lt -> Ia, ofNat_le -> Ib, not_lt -> Ic, not_le -> Ie
open Decidable renaming not_not -> Da
set_option maxRecDepth 100000

theorem take_s {α : Type} (z : α) (l : List α) (i : Nat) (h : i < l.length) : l.take (i + 1)=l.take i++[l.getD i z]:=take_succ z l i h
theorem cor_mod {m gs ss k} {s : Fs} (h : corB m gs ss k s=true) (hr : s.r=-1) : (0<=s.a∧s.a<=(k : Int) - 1)∧(0<=s.b∧s.b<=(k : Int) - 1):=by
 rw [corB,Bc] at h
 have h2:=h.2
 rw [if_neg (by omega),if_neg (by omega),if_pos hr] at h2
 simp only [Bc,decide_eq_true_eq] at h2
 exact h2.1.1
set_option maxHeartbeats 16000000 in
theorem AddModus_ok (gs : List ByteArray) (one two : List Fs) (z1 : SzF gs one) (z2 : SzF gs two) :
 Ctr Tryd.prog 15 [.slice (gs.map .str),.slice (one.map fsD),.slice (two.map fsD)] true (.tup [.d (.slice ((amV gs one two).map fsD)),.d (.bool (amG gs one two))]) []:=by
 have c1:=fregeProof_ok gs one z1
 have c2:=fregeProof_ok gs two z2
 have hl1:=z1.sl
 have hl2:=z2.sl
 by_cases hp : proofF gs one=true∧proofF gs two=true∧one.length + two.length + 1<=80
 . obtain ⟨p1,p2,hz⟩:=hp
   have q1:=proof_spec p1
   have q2:=proof_spec p2
   rw [p1] at c1
   rw [p2] at c2
   have c3:=lastFs_ok two hl2 q2.2.2.2.1
   have c4:=lastFs_ok one hl1 q1.2.2.2.1
   have k2 : okS (lastF two).f=true:=cor_ok (q2.2.2.2.2 _ (by omega))
   obtain ⟨x,hx,c5⟩:=parse_ok (lastF two).f (by have:=(okS_spec k2).2.2; omega)
   rw [hx k2,k2] at c5
   have hG : amG gs one two=(match amR two with | some (a,_) => decide (a.T=(lastF one).f) | none => false):=by
    rw [amG,p1,p2,decide_eq_true hz]; rfl
   have hR : amR two=impR (fmS (lastF two).f):=rfl
   rw [fsD] at c3 c4
   have hz' : ¬ (80 : Int) < one.length + two.length + 1:=by omega
   cases hy : fmS (lastF two).f with
   | lf c =>
     have hc62 : ¬ (c.toNat : Int)=62:=fun h => by
      have h:=toN_eq (d:=62) |>.1 h
      have hw:=(okS_spec k2).1
      rw [hy,h] at hw
      exact absurd hw (by decide)
     have hg : amG gs one two=false:=by rw [hG,hR,hy]; rfl
     rw [amV,hg,if_neg (by simp)]
     rw [hy] at c5
     have hf : fmD (.lf c)=.ptr (.agg [.int .u8 c.toNat,.nilptr,.nilptr,.str (Fm.lf c).T]):=rfl
     rw [hf] at c5
     generalize (Fm.lf c).T=t at *
     generalize lastF two=lt at *
     generalize lastF one=lo at *
     refine Ctr.of (n:=101) (rs:=[.tmp 6,.tmp 7]) Tryd.func15 rfl rfl Tryd.ntmps15 rfl rfl (by kernel_rfl) Tryd.checked.mixed ?_
     simp (disch:=first | omega | decide +kernel) only [List.length_map,hc62,go_sem,Qa,Qb,Qc,Qd,Qe,↓reduceIte,reduceCtorEq,Qf,Qg,Qh]
     (repeat' (first | ((first | (refine gsel_split (fun q' => ?_) (fun q' => ?_)<;>(have h':=q')<;>(try simp only [za1,za2,Ba,Bb,za3,ne_eq,za4,za5,za6,Ia,Ib,Ic,Ie,Da,Bc,Bh,Be,za7,za8] at h')<;>try (exfalso; omega)) | (have q':=trivial; first | refine callX_new (c1) rfl (by decide) ?_ | refine callY_new (c1) rfl ?_ | refine callX_new (c2) rfl (by decide) ?_ | refine callY_new (c2) rfl ?_ | refine callX_shared (c3) rfl (by decide) ?_ | refine callY_shared (c3) rfl ?_ | refine callX_shared (c5) rfl (by decide) ?_ | refine callY_shared (c5) rfl ?_ | refine callX_shared (c4) rfl (by decide) ?_ | refine callY_shared (c4) rfl ?_ | refine hE _ _ ret_ne ?_ | refine hE _ _ exit_ne ?_))<;>(try simp (disch:=first | omega | decide +kernel) only [q',List.length_map,hc62,go_sem,Qa,Qb,Qc,Qd,Qe,↓reduceIte,reduceCtorEq,Qf,Qg,Qh])<;>clear q') | refine hN _ ?_ ?_ Wk.kk | with_reducible refine And.intro ?_ ?_ | with_reducible omega | exact ok_ints | exact cells_ints | exact no_mem | with_reducible exact plain_ints | (refine le_maxLen ?_; omega) | (refine za9 ⟨?_,?_⟩) | (simp only [go_sem,Qc,Qb,zb1,zb2,forall_eq]; done)))
     all_goals (first | omega | assumption | rfl | exact absurd trivial ‹¬True› | exact ret_s2 [] rfl rfl | exact ret_s2 [6] rfl rfl)
   | ng a =>
     have hg : amG gs one two=false:=by rw [hG,hR,hy]; rfl
     rw [amV,hg,if_neg (by simp)]
     rw [hy] at c5
     have n1:=fmD_na a
     have n2:=fmD_nc a
     have hf : fmD (.ng a)=.ptr (.agg [.int .u8 126,fmD a,.nilptr,.str (Fm.ng a).T]):=rfl
     rw [hf] at c5
     generalize (Fm.ng a).T=t at *
     generalize fmD a=xa at *
     generalize lastF two=lt at *
     generalize lastF one=lo at *
     refine Ctr.of (n:=101) (rs:=[.tmp 6,.tmp 7]) Tryd.func15 rfl rfl Tryd.ntmps15 rfl rfl (by kernel_rfl) Tryd.checked.mixed ?_
     simp (disch:=first | omega | decide +kernel) only [List.length_map,go_sem,Qa,Qb,Qc,Qd,Qe,↓reduceIte,reduceCtorEq,Qf,Qg,Qh]
     (repeat' (first | ((first | (refine gsel_split (fun q' => ?_) (fun q' => ?_)<;>(have h':=q')<;>(try simp only [za1,za2,Ba,Bb,za3,ne_eq,za4,za5,za6,Ia,Ib,Ic,Ie,Da,Bc,Bh,Be,za7,za8] at h')<;>try (exfalso; omega)) | (have q':=trivial; first | refine callX_new (c1) rfl (by decide) ?_ | refine callY_new (c1) rfl ?_ | refine callX_new (c2) rfl (by decide) ?_ | refine callY_new (c2) rfl ?_ | refine callX_shared (c3) rfl (by decide) ?_ | refine callY_shared (c3) rfl ?_ | refine callX_shared (c5) rfl (by decide) ?_ | refine callY_shared (c5) rfl ?_ | refine callX_shared (c4) rfl (by decide) ?_ | refine callY_shared (c4) rfl ?_ | refine hE _ _ ret_ne ?_ | refine hE _ _ exit_ne ?_))<;>(try simp (disch:=first | omega | decide +kernel) only [q',List.length_map,go_sem,Qa,Qb,Qc,Qd,Qe,↓reduceIte,reduceCtorEq,Qf,Qg,Qh])<;>clear q') | refine hN _ ?_ ?_ Wk.kk | with_reducible refine And.intro ?_ ?_ | with_reducible omega | exact ok_ints | exact cells_ints | exact no_mem | with_reducible exact plain_ints | (refine le_maxLen ?_; omega) | (refine za9 ⟨?_,?_⟩) | (simp only [go_sem,Qc,Qb,zb1,zb2,forall_eq]; done)))
     all_goals (first | omega | assumption | rfl | exact absurd trivial ‹¬True› | exact ret_s2 [] rfl rfl | exact ret_s2 [6] rfl rfl)
   | jn o a b =>
     rw [hy] at c5
     have n1:=fmD_na a
     have n2:=fmD_nc a
     have n3:=fmD_na b
     have n4:=fmD_nc b
     have hf : fmD (.jn o a b)=.ptr (.agg [.int .u8 o.toNat,fmD a,fmD b,.str (Fm.jn o a b).T]):=rfl
     rw [hf] at c5
     by_cases ho : o=62
     . subst ho
       obtain ⟨ca,xa,ya,ea⟩:=fmD_sh a
       obtain ⟨cb,xb,yb,eb⟩:=fmD_sh b
       have hg : amG gs one two=decide (a.T=(lastF one).f):=by rw [hG,hR,hy]; rfl
       have hB : amB two=b.T:=by rw [amB,hR,hy]; rfl
       rw [show ((62 : UInt8).toNat : Int)=62 from rfl] at c5
       by_cases hab : a.T=(lastF one).f
       . rw [decide_eq_true hab] at hg
         have hbT : b.T.size<=1000:=by
          have h1:=(okS_spec k2).2
          have h2:=h1.2
          rw [h1.1,hy,size_jn] at h2; omega
         rw [amV,hg,if_pos rfl,amL,hB]
         have c6:=cloneF_ok one (by omega)
         have hfs:=fun (i : Nat) (h : i < two.length) => el_fs (xs:=two) h
         rw [ea,eb] at c5
         rw [ea] at n1 n2
         rw [eb] at n3 n4
         generalize (Fm.jn 62 a b).T=t at *
         generalize b.T=bT at *
         generalize a.T=aT at *
         generalize lastF two=lt at *
         generalize lastF one=lo at *
         have hn : (one.length : Int) - 1=((one.length - 1 : Nat) : Int):=by omega
         obtain ⟨res,hres⟩ : ∃ res,(one++two.map (mvS one.length)++[(⟨bT,-1,(one.length : Int) - 1,((one.length + two.length : Nat) : Int) - 1⟩ : Fs)]).map fsD=res:=⟨_,rfl⟩
         rw [hres]
         refine Ctr.of (n:=101) (rs:=[.tmp 6,.tmp 7]) Tryd.func15 rfl rfl Tryd.ntmps15 rfl rfl (by kernel_rfl) Tryd.checked.mixed ?_
         simp (disch:=first | omega | decide +kernel) only [List.length_map,beq_str,hab,decide_true,go_sem,Qa,Qb,Qc,Qd,Qe,↓reduceIte,reduceCtorEq,Qf,Qg,Qh]
         (repeat' (first | ((first | (refine gsel_split (fun q' => ?_) (fun q' => ?_)<;>(have h':=q')<;>(try simp only [za1,za2,Ba,Bb,za3,ne_eq,za4,za5,za6,Ia,Ib,Ic,Ie,Da,Bc,Bh,Be,za7,za8] at h')<;>try (exfalso; omega)) | (have q':=trivial; first | refine callX_new (c1) rfl (by decide) ?_ | refine callY_new (c1) rfl ?_ | refine callX_new (c2) rfl (by decide) ?_ | refine callY_new (c2) rfl ?_ | refine callX_shared (c3) rfl (by decide) ?_ | refine callY_shared (c3) rfl ?_ | refine callX_shared (c5) rfl (by decide) ?_ | refine callY_shared (c5) rfl ?_ | refine callX_shared (c4) rfl (by decide) ?_ | refine callY_shared (c4) rfl ?_ | refine callX_new (c6) rfl (by decide) ?_ | refine callY_new (c6) rfl ?_ | refine hE _ _ ret_ne ?_ | refine hE _ _ exit_ne ?_))<;>(try simp (disch:=first | omega | decide +kernel) only [q',List.length_map,beq_str,hab,decide_true,go_sem,Qa,Qb,Qc,Qd,Qe,↓reduceIte,reduceCtorEq,Qf,Qg,Qh])<;>clear q') | refine hN _ ?_ ?_ Wk.kk | with_reducible refine And.intro ?_ ?_ | with_reducible omega | exact ok_ints | exact cells_ints | exact no_mem | with_reducible exact plain_ints | (refine le_maxLen ?_; omega) | (refine za9 ⟨?_,?_⟩) | (simp only [go_sem,Qc,Qb,zb1,zb2,forall_eq]; done)))
         all_goals (try (first | omega | exact absurd trivial ‹¬True›))
         refine Ok.loopN [100,99,98,97,96,95,94,93,92,91,90,89,88,87,86,85,84,83,82,81,80,79,78,77,76,75,74,73,72,71,70,69,68,67,66,65,64,63,60,59,58,57,56,55,54,53,52,51,50,49,48,47,46,45,44,43,42,41,40,39,38,37,36,35,34,33,32,31,30,29,28,27,26,25,24,23,22,21,20,19,18,17,16,15,14,13,12,11,10,7,6,5,4,3] (fun i (w : List Fs) => [(63,.d (.int .i64 (i : Nat))),(11,.sl 6100000)]) (fun _ w => [(6100000,.arr 67 4 (w.map fsD))]) two.length (fun i w => w=one++(two.take i).map (mvS one.length)) one (by simp) (Wk.kk) ?_
         rintro R i w hN hE hi hw
         have hwl : w.length=one.length + i:=by rw [hw]; simp; omega
         by_cases hlt : i < two.length
         . have he:=hfs i hlt
           have hsu : one++(two.take (i + 1)).map (mvS one.length)=w++[mvS one.length (two.getD i Fs.z)]:=by
            rw [hw,take_s Fs.z two i hlt]; simp
           have hcor:=q2.2.2.2.2 i hlt
           generalize two.getD i Fs.z=s at *
           have hmod:=fun h => cor_mod hcor h
           obtain ⟨sf,sr,sa,sb⟩:=s
           dsimp only at he hmod
           clear hcor hw
           have eN : ((i : Nat) : Int) + 1=((i + 1 : Nat) : Int):=by omega
           by_cases hr : sr=-1
           . subst hr
             obtain ⟨⟨a0,a1⟩,b0,b1⟩:=hmod rfl
             rw [mvS,if_pos rfl] at hsu
             simp (disch:=first | omega | decide +kernel) only [he,List.length_map,eN,Int.toNat_natCast,go_sem,Qa,Qb,Qc,Qd,Qe,↓reduceIte,reduceCtorEq,Qf,Qg,Qh]
             (repeat' (first | ((first | (refine gsel_split (fun q' => ?_) (fun q' => ?_)<;>(have h':=q')<;>(try simp only [za1,za2,Ba,Bb,za3,ne_eq,za4,za5,za6,Ia,Ib,Ic,Ie,Da,Bc,Bh,Be,za7,za8] at h')<;>try (exfalso; omega)) | (have q':=trivial; first | refine hE _ _ ret_ne ?_ | refine hE _ _ exit_ne ?_))<;>(try simp (disch:=first | omega | decide +kernel) only [q',he,List.length_map,eN,Int.toNat_natCast,go_sem,Qa,Qb,Qc,Qd,Qe,↓reduceIte,reduceCtorEq,Qf,Qg,Qh])<;>clear q') | refine hN _ ?_ ?_ Wk.kk | with_reducible refine And.intro ?_ ?_ | with_reducible omega | exact ok_ints | exact cells_ints | exact no_mem | with_reducible exact plain_ints | (refine le_maxLen ?_; omega) | (refine za9 ⟨?_,?_⟩) | (simp only [go_sem,Qc,Qb,zb1,zb2,forall_eq]; done)))
             all_goals (first | omega | exact absurd trivial ‹¬True› | exact le_maxLen (by omega) | exact okA _ _ _ _ | (refine hN (w++[⟨sf,-1,sa + (one.length : Int),sb + (one.length : Int)⟩]) _ hlt hsu.symm (by refine Wk.auto ?_ ?_<;>simp [extraK,lk,killL,St.kill,wipeO,wipeS,AV.has,AV.hasL,AO.wipe,List.map_set,updSt,insL,dropS,ins,List.map_append,List.map_cons,List.map_nil,fsD]); done))
           . rw [mvS,if_neg hr] at hsu
             simp (disch:=first | omega | decide +kernel) only [he,hr,List.length_map,eN,Int.toNat_natCast,go_sem,Qa,Qb,Qc,Qd,Qe,↓reduceIte,reduceCtorEq,Qf,Qg,Qh]
             (repeat' (first | ((first | (refine gsel_split (fun q' => ?_) (fun q' => ?_)<;>(have h':=q')<;>(try simp only [za1,za2,Ba,Bb,za3,ne_eq,za4,za5,za6,Ia,Ib,Ic,Ie,Da,Bc,Bh,Be,za7,za8] at h')<;>try (exfalso; omega)) | (have q':=trivial; first | refine hE _ _ ret_ne ?_ | refine hE _ _ exit_ne ?_))<;>(try simp (disch:=first | omega | decide +kernel) only [q',he,hr,List.length_map,eN,Int.toNat_natCast,go_sem,Qa,Qb,Qc,Qd,Qe,↓reduceIte,reduceCtorEq,Qf,Qg,Qh])<;>clear q') | refine hN _ ?_ ?_ Wk.kk | with_reducible refine And.intro ?_ ?_ | with_reducible omega | exact ok_ints | exact cells_ints | exact no_mem | with_reducible exact plain_ints | (refine le_maxLen ?_; omega) | (refine za9 ⟨?_,?_⟩) | (simp only [go_sem,Qc,Qb,zb1,zb2,forall_eq]; done)))
             all_goals (first | omega | exact absurd trivial ‹¬True› | exact le_maxLen (by omega) | exact okA _ _ _ _ | (refine hN (w++[⟨sf,sr,sa,sb⟩]) _ hlt hsu.symm (by refine Wk.auto ?_ ?_<;>simp [extraK,lk,killL,St.kill,wipeO,wipeS,AV.has,AV.hasL,AO.wipe,List.map_set,updSt,insL,dropS,ins,List.map_append,List.map_cons,List.map_nil,fsD]); done))
         . obtain rfl : i=two.length:=by omega
           rw [List.take_length] at hw
           have hfin : res=w.map fsD++[D.agg [.str bT,.int .i64 (-1),.int .i64 ((one.length : Int) - 1),.int .i64 (((one.length + two.length : Nat) : Int) - 1)]]:=by
            rw [← hres,← hw,List.map_append]; rfl
           clear hw hres
           subst hfin
           simp (disch:=first | omega | decide +kernel) only [List.length_map,hwl,go_sem,Qa,Qb,Qc,Qd,Qe,↓reduceIte,reduceCtorEq,Qf,Qg,Qh]
           (repeat' (first | ((first | (refine gsel_split (fun q' => ?_) (fun q' => ?_)<;>(have h':=q')<;>(try simp only [za1,za2,Ba,Bb,za3,ne_eq,za4,za5,za6,Ia,Ib,Ic,Ie,Da,Bc,Bh,Be,za7,za8] at h')<;>try (exfalso; omega)) | (have q':=trivial; first | refine hE _ _ ret_ne ?_ | refine hE _ _ exit_ne ?_))<;>(try simp (disch:=first | omega | decide +kernel) only [q',List.length_map,hwl,go_sem,Qa,Qb,Qc,Qd,Qe,↓reduceIte,reduceCtorEq,Qf,Qg,Qh])<;>clear q') | refine hN _ ?_ ?_ Wk.kk | with_reducible refine And.intro ?_ ?_ | with_reducible omega | exact ok_ints | exact cells_ints | exact no_mem | with_reducible exact plain_ints | (refine le_maxLen ?_; omega) | (refine za9 ⟨?_,?_⟩) | (simp only [go_sem,Qc,Qb,zb1,zb2,forall_eq]; done)))
           all_goals (first | omega | exact absurd trivial ‹¬True› | exact le_maxLen (by omega) | exact okA _ _ _ _ | exact ret_s2 [6100000] rfl rfl)
       . rw [decide_eq_false hab] at hg
         rw [amV,hg,if_neg (by simp)]
         rw [ea,eb] at c5
         rw [ea] at n1 n2
         rw [eb] at n3 n4
         generalize (Fm.jn 62 a b).T=t at *
         generalize b.T=bT at *
         generalize a.T=aT at *
         generalize lastF two=lt at *
         generalize lastF one=lo at *
         refine Ctr.of (n:=101) (rs:=[.tmp 6,.tmp 7]) Tryd.func15 rfl rfl Tryd.ntmps15 rfl rfl (by kernel_rfl) Tryd.checked.mixed ?_
         simp (disch:=first | omega | decide +kernel) only [List.length_map,beq_str,hab,decide_false,go_sem,Qa,Qb,Qc,Qd,Qe,↓reduceIte,reduceCtorEq,Qf,Qg,Qh]
         (repeat' (first | ((first | (refine gsel_split (fun q' => ?_) (fun q' => ?_)<;>(have h':=q')<;>(try simp only [za1,za2,Ba,Bb,za3,ne_eq,za4,za5,za6,Ia,Ib,Ic,Ie,Da,Bc,Bh,Be,za7,za8] at h')<;>try (exfalso; omega)) | (have q':=trivial; first | refine callX_new (c1) rfl (by decide) ?_ | refine callY_new (c1) rfl ?_ | refine callX_new (c2) rfl (by decide) ?_ | refine callY_new (c2) rfl ?_ | refine callX_shared (c3) rfl (by decide) ?_ | refine callY_shared (c3) rfl ?_ | refine callX_shared (c5) rfl (by decide) ?_ | refine callY_shared (c5) rfl ?_ | refine callX_shared (c4) rfl (by decide) ?_ | refine callY_shared (c4) rfl ?_ | refine hE _ _ ret_ne ?_ | refine hE _ _ exit_ne ?_))<;>(try simp (disch:=first | omega | decide +kernel) only [q',List.length_map,beq_str,hab,decide_false,go_sem,Qa,Qb,Qc,Qd,Qe,↓reduceIte,reduceCtorEq,Qf,Qg,Qh])<;>clear q') | refine hN _ ?_ ?_ Wk.kk | with_reducible refine And.intro ?_ ?_ | with_reducible omega | exact ok_ints | exact cells_ints | exact no_mem | with_reducible exact plain_ints | (refine le_maxLen ?_; omega) | (refine za9 ⟨?_,?_⟩) | (simp only [go_sem,Qc,Qb,zb1,zb2,forall_eq]; done)))
         all_goals (first | omega | assumption | rfl | exact absurd trivial ‹¬True› | exact ret_s2 [] rfl rfl | exact ret_s2 [6] rfl rfl)
     . have hc62 : ¬ (o.toNat : Int)=62:=fun h => ho (toN_eq (d:=62) |>.1 h)
       have hg : amG gs one two=false:=by
        rw [hG,hR,hy,impR,if_neg ho]
       rw [amV,hg,if_neg (by simp)]
       generalize (Fm.jn o a b).T=t at *
       generalize fmD a=xa at *
       generalize fmD b=xb at *
       generalize lastF two=lt at *
       generalize lastF one=lo at *
       refine Ctr.of (n:=101) (rs:=[.tmp 6,.tmp 7]) Tryd.func15 rfl rfl Tryd.ntmps15 rfl rfl (by kernel_rfl) Tryd.checked.mixed ?_
       simp (disch:=first | omega | decide +kernel) only [List.length_map,hc62,go_sem,Qa,Qb,Qc,Qd,Qe,↓reduceIte,reduceCtorEq,Qf,Qg,Qh]
       (repeat' (first | ((first | (refine gsel_split (fun q' => ?_) (fun q' => ?_)<;>(have h':=q')<;>(try simp only [za1,za2,Ba,Bb,za3,ne_eq,za4,za5,za6,Ia,Ib,Ic,Ie,Da,Bc,Bh,Be,za7,za8] at h')<;>try (exfalso; omega)) | (have q':=trivial; first | refine callX_new (c1) rfl (by decide) ?_ | refine callY_new (c1) rfl ?_ | refine callX_new (c2) rfl (by decide) ?_ | refine callY_new (c2) rfl ?_ | refine callX_shared (c3) rfl (by decide) ?_ | refine callY_shared (c3) rfl ?_ | refine callX_shared (c5) rfl (by decide) ?_ | refine callY_shared (c5) rfl ?_ | refine callX_shared (c4) rfl (by decide) ?_ | refine callY_shared (c4) rfl ?_ | refine hE _ _ ret_ne ?_ | refine hE _ _ exit_ne ?_))<;>(try simp (disch:=first | omega | decide +kernel) only [q',List.length_map,hc62,go_sem,Qa,Qb,Qc,Qd,Qe,↓reduceIte,reduceCtorEq,Qf,Qg,Qh])<;>clear q') | refine hN _ ?_ ?_ Wk.kk | with_reducible refine And.intro ?_ ?_ | with_reducible omega | exact ok_ints | exact cells_ints | exact no_mem | with_reducible exact plain_ints | (refine le_maxLen ?_; omega) | (refine za9 ⟨?_,?_⟩) | (simp only [go_sem,Qc,Qb,zb1,zb2,forall_eq]; done)))
       all_goals (first | omega | assumption | rfl | exact absurd trivial ‹¬True› | exact ret_s2 [] rfl rfl | exact ret_s2 [6] rfl rfl)
 . have hg : amG gs one two=false:=by
    rw [amG]
    cases p1 : proofF gs one with
    | false => rfl
    | true =>
      cases p2 : proofF gs two with
      | false => rfl
      | true => rw [decide_eq_false (fun h => hp ⟨p1,p2,h⟩)]; rfl
   rw [amV,hg,if_neg (by simp)]
   cases p1 : proofF gs one with
   | false =>
     rw [p1] at c1
     refine Ctr.of (n:=101) (rs:=[.tmp 6,.tmp 7]) Tryd.func15 rfl rfl Tryd.ntmps15 rfl rfl (by kernel_rfl) Tryd.checked.mixed ?_
     simp (disch:=first | omega | decide +kernel) only [List.length_map,go_sem,Qa,Qb,Qc,Qd,Qe,↓reduceIte,reduceCtorEq,Qf,Qg,Qh]
     (repeat' (first | ((first | (refine gsel_split (fun q' => ?_) (fun q' => ?_)<;>(have h':=q')<;>(try simp only [za1,za2,Ba,Bb,za3,ne_eq,za4,za5,za6,Ia,Ib,Ic,Ie,Da,Bc,Bh,Be,za7,za8] at h')<;>try (exfalso; omega)) | (have q':=trivial; first | refine callX_new (c1) rfl (by decide) ?_ | refine callY_new (c1) rfl ?_ | refine hE _ _ ret_ne ?_ | refine hE _ _ exit_ne ?_))<;>(try simp (disch:=first | omega | decide +kernel) only [q',List.length_map,go_sem,Qa,Qb,Qc,Qd,Qe,↓reduceIte,reduceCtorEq,Qf,Qg,Qh])<;>clear q') | refine hN _ ?_ ?_ Wk.kk | with_reducible refine And.intro ?_ ?_ | with_reducible omega | exact ok_ints | exact cells_ints | exact no_mem | with_reducible exact plain_ints | (refine le_maxLen ?_; omega) | (refine za9 ⟨?_,?_⟩) | (simp only [go_sem,Qc,Qb,zb1,zb2,forall_eq]; done)))
     all_goals (first | omega | assumption | rfl | exact absurd trivial ‹¬True› | exact ret_s2 [] rfl rfl | exact ret_s2 [6] rfl rfl)
   | true =>
     rw [p1] at c1
     cases p2 : proofF gs two with
     | false =>
       rw [p2] at c2
       refine Ctr.of (n:=101) (rs:=[.tmp 6,.tmp 7]) Tryd.func15 rfl rfl Tryd.ntmps15 rfl rfl (by kernel_rfl) Tryd.checked.mixed ?_
       simp (disch:=first | omega | decide +kernel) only [List.length_map,go_sem,Qa,Qb,Qc,Qd,Qe,↓reduceIte,reduceCtorEq,Qf,Qg,Qh]
       (repeat' (first | ((first | (refine gsel_split (fun q' => ?_) (fun q' => ?_)<;>(have h':=q')<;>(try simp only [za1,za2,Ba,Bb,za3,ne_eq,za4,za5,za6,Ia,Ib,Ic,Ie,Da,Bc,Bh,Be,za7,za8] at h')<;>try (exfalso; omega)) | (have q':=trivial; first | refine callX_new (c1) rfl (by decide) ?_ | refine callY_new (c1) rfl ?_ | refine callX_new (c2) rfl (by decide) ?_ | refine callY_new (c2) rfl ?_ | refine hE _ _ ret_ne ?_ | refine hE _ _ exit_ne ?_))<;>(try simp (disch:=first | omega | decide +kernel) only [q',List.length_map,go_sem,Qa,Qb,Qc,Qd,Qe,↓reduceIte,reduceCtorEq,Qf,Qg,Qh])<;>clear q') | refine hN _ ?_ ?_ Wk.kk | with_reducible refine And.intro ?_ ?_ | with_reducible omega | exact ok_ints | exact cells_ints | exact no_mem | with_reducible exact plain_ints | (refine le_maxLen ?_; omega) | (refine za9 ⟨?_,?_⟩) | (simp only [go_sem,Qc,Qb,zb1,zb2,forall_eq]; done)))
       all_goals (first | omega | assumption | rfl | exact absurd trivial ‹¬True› | exact ret_s2 [] rfl rfl | exact ret_s2 [6] rfl rfl)
     | true =>
       rw [p2] at c2
       have h80 : ¬ one.length + two.length + 1<=80:=fun h => hp ⟨p1,p2,h⟩
       refine Ctr.of (n:=101) (rs:=[.tmp 6,.tmp 7]) Tryd.func15 rfl rfl Tryd.ntmps15 rfl rfl (by kernel_rfl) Tryd.checked.mixed ?_
       simp (disch:=first | omega | decide +kernel) only [List.length_map,go_sem,Qa,Qb,Qc,Qd,Qe,↓reduceIte,reduceCtorEq,Qf,Qg,Qh]
       (repeat' (first | ((first | (refine gsel_split (fun q' => ?_) (fun q' => ?_)<;>(have h':=q')<;>(try simp only [za1,za2,Ba,Bb,za3,ne_eq,za4,za5,za6,Ia,Ib,Ic,Ie,Da,Bc,Bh,Be,za7,za8] at h')<;>try (exfalso; omega)) | (have q':=trivial; first | refine callX_new (c1) rfl (by decide) ?_ | refine callY_new (c1) rfl ?_ | refine callX_new (c2) rfl (by decide) ?_ | refine callY_new (c2) rfl ?_ | refine hE _ _ ret_ne ?_ | refine hE _ _ exit_ne ?_))<;>(try simp (disch:=first | omega | decide +kernel) only [q',List.length_map,go_sem,Qa,Qb,Qc,Qd,Qe,↓reduceIte,reduceCtorEq,Qf,Qg,Qh])<;>clear q') | refine hN _ ?_ ?_ Wk.kk | with_reducible refine And.intro ?_ ?_ | with_reducible omega | exact ok_ints | exact cells_ints | exact no_mem | with_reducible exact plain_ints | (refine le_maxLen ?_; omega) | (refine za9 ⟨?_,?_⟩) | (simp only [go_sem,Qc,Qb,zb1,zb2,forall_eq]; done)))
       all_goals (first | omega | assumption | rfl | exact absurd trivial ‹¬True› | exact ret_s2 [] rfl rfl | exact ret_s2 [6] rfl rfl)
end Abs.Y
