/- What functions of this program compute, over plain data. No condition. -/
import Derived.Test.YtiafnejjhnjbfaaDoorFO7
import Derived.Test.YtiafnejjhnjbfaaDoorAbsRow
import Derived.Test.YtiafnejjhnjbfaaDoorFO1
import Derived.Test.YtiafnejjhnjbfaaDoorBX
set_option linter.all false
open Nat renaming reduceEqDiff -> Qa, reduceLT -> Qb, reduceAdd -> Qc, reduceMul -> Qd, reduceSub -> Qe, reduceLeDiff -> Qf, reduceSubDiff -> Qg, reduceBEq -> Qh
open Bool renaming not_eq_true' -> Ba, not_eq_false' -> Bb, and_eq_true -> Bc, or_eq_true -> Bh, or_eq_false_iff -> Be
open Int renaming ofNat_lt -> Ia, ofNat_le -> Ib, not_lt -> Ic, not_le -> Ie
open Decidable renaming not_not -> Da
namespace Abs.Y
open Go Go.Proofs Abs
set_option maxRecDepth 100000

theorem l24Schemes_ok : Ctr Tryd.prog 66 [] true (.d (.slice schemesD)) []:=by
 unfold schemesD
 refine Ctr.of (n:=2) (rs:=[.tmp 0]) Tryd.func66 rfl rfl Tryd.ntmps66 rfl rfl (by kernel_rfl) Tryd.checked.mixed ?_
 simp (disch:=first | omega | decide +kernel) only [go_sem,Qa,Qb,Qc,Qd,Qe,↓reduceIte,reduceCtorEq,Qf,Qg,Qh]
 (repeat' (first | ((first | (refine gsel_split (fun q' => ?_) (fun q' => ?_)<;>(have h':=q')<;>(try simp only [za1,za2,Ba,Bb,za3,ne_eq,za4,za5,za6,Ia,Ib,Ic,Ie,Da,Bc,Bh,Be,za7,za8] at h')<;>try (exfalso; omega)) | (have q':=trivial; first | refine hE _ _ ret_ne ?_ | refine hE _ _ exit_ne ?_))<;>(try simp (disch:=first | omega | decide +kernel) only [q',go_sem,Qa,Qb,Qc,Qd,Qe,↓reduceIte,reduceCtorEq,Qf,Qg,Qh])<;>clear q') | refine hN _ ?_ ?_ Wk.kk | with_reducible refine And.intro ?_ ?_ | with_reducible omega | exact ok_ints | exact cells_ints | exact no_mem | with_reducible exact plain_ints | (refine le_maxLen ?_; omega) | (refine za9 ⟨?_,?_⟩) | (simp only [go_sem,Qc,Qb,zb1,zb2,forall_eq]; done)))
 all_goals (first | omega | assumption | rfl | exact ret_s1 [1] rfl)
def subL (a b c : List UInt8) (d : UInt8) : List UInt8:=if d=97 then a else if d=98 then b else if d=99 then c else [d]
def caseL (j : Nat) (a b c : ByteArray) : List UInt8:=(sch j).tl.flatMap (subL (BL a) (BL b) (BL c))
def caseT (j : Nat) (a b c : ByteArray) : ByteArray:=⟨(caseL j a b c).toArray⟩
theorem subL_len {a b c : List UInt8} {n : Nat} (h1 : 1<=n) (ha : a.length<=n) (hb : b.length<=n) (hc : c.length<=n) (d : UInt8) : (subL a b c d).length<=n:=by
 unfold subL; split
 . exact ha
 . split
   . exact hb
   . split
     . exact hc
     . exact h1
theorem flat_len {f : UInt8->List UInt8} {n : Nat} (h : ∀ d,(f d).length<=n) : ∀ l : List UInt8,(l.flatMap f).length<=n * l.length
 | [] => by simp
 | d :: l => by
   rw [List.flatMap_cons,List.length_append,List.length_cons]
   have:=h d
   have:=flat_len h l
   rw [Nat.mul_add]; omega
theorem BL_app (s t : ByteArray) : BL (s++t)=BL s++BL t:=by
 show (s++t).data.toList=_
 rw [ByteArray.data_append,Array.toList_append]
theorem ext_at {s : ByteArray} {k : Nat} (h : k < s.size) : s.extract k (k + 1)=⟨#[(BL s).getD k 0]⟩:=by
 apply ext_BL
 show (s.extract k (k + 1)).data.toList=[(BL s).getD k 0]
 rw [ByteArray.data_extract,Array.toList_extract,drop_cons' h]
where
 drop_cons' {s : ByteArray} {k : Nat} (h : k < s.size) : List.extract s.data.toList k (k + 1)=[(BL s).getD k 0]:=by
  rw [List.extract_eq_drop_take,show k + 1 - k=1 by omega]
  have:=drop_cons h
  rw [show s.data.toList=BL s from rfl,this]; rfl
set_option maxHeartbeats 8000000 in
theorem l24Case_ok (j : Nat) (hj : j < 10) (a b c : ByteArray) (ha : a.size<=1000) (hb : b.size<=1000) (hc : c.size<=1000) :
 Ctr Tryd.prog 41 [.int .i64 ((j + 1 : Nat) : Int),.str a,.str b,.str c] false (.d (.str (caseT j a b c))) []:=by
 have c1:=l24Schemes_ok
 have hg : el schemesD j=.str (sch j).T:=sch_el j hj
 have hgl : schemesD.length=10:=rfl
 have hz:=sch_sz j
 have hcl : caseL j a b c=(BL (sch j).T).flatMap (subL (BL a) (BL b) (BL c)):=rfl
 generalize (sch j).T=s at *
 generalize hL : schemesD=L at *
 have e1 : ((j + 1 : Nat) : Int) - 1=(j : Nat):=by omega
 refine Ctr.of (n:=49) (rs:=[.tmp 8]) Tryd.func41 rfl rfl Tryd.ntmps41 rfl rfl (by kernel_rfl) Tryd.checked.mixed ?_
 simp (disch:=first | omega | decide +kernel) only [e1,hg,hgl,Int.toNat_natCast,go_sem,Qa,Qb,Qc,Qd,Qe,↓reduceIte,reduceCtorEq,Qf,Qg,Qh]
 (repeat' (first | ((first | (refine gsel_split (fun q' => ?_) (fun q' => ?_)<;>(have h':=q')<;>(try simp only [za1,za2,Ba,Bb,za3,ne_eq,za4,za5,za6,Ia,Ib,Ic,Ie,Da,Bc,Bh,Be,za7,za8] at h')<;>try (exfalso; omega)) | (have q':=trivial; first | refine callX_shared (c1) rfl (by decide) ?_ | refine callY_shared (c1) rfl ?_ | refine hE _ _ ret_ne ?_ | refine hE _ _ exit_ne ?_))<;>(try simp (disch:=first | omega | decide +kernel) only [q',e1,hg,hgl,Int.toNat_natCast,go_sem,Qa,Qb,Qc,Qd,Qe,↓reduceIte,reduceCtorEq,Qf,Qg,Qh])<;>clear q') | refine hN _ ?_ ?_ Wk.kk | with_reducible refine And.intro ?_ ?_ | with_reducible omega | exact ok_ints | exact cells_ints | exact no_mem | with_reducible exact plain_ints | (refine le_maxLen ?_; omega) | (refine za9 ⟨?_,?_⟩) | (simp only [go_sem,Qc,Qb,zb1,zb2,forall_eq]; done)))
 all_goals (first | omega | skip)
 clear c1
 have hn : ∀ d,(subL (BL a) (BL b) (BL c) d).length<=1000:=subL_len (by omega) ha hb hc
 refine Ok.loopN [48,47,46,45,44,43,42,41,40,39,38,37,36,35,34,33,32,31,30,29,28,27,26,25,24,23,22,21,20,19,18,17,16,15,14,13,12,11,10,7,6,5,4,0] (fun i (w : ByteArray) => [(11,.d (.int .i64 (i : Nat))),(10,.d (.str w))]) (fun _ _ => []) s.size (fun i w => BL w=((BL s).take i).flatMap (subL (BL a) (BL b) (BL c))) (ByteArray.mk #[]) rfl (Wk.kk) ?_
 rintro R i w hN hE hi hw
 have hwz : w.size<=1000 * i:=by
  rw [size_BL,hw]
  have:=flat_len hn ((BL s).take i)
  rw [List.length_take] at this
  have : min i (BL s).length<=i:=Nat.min_le_left _ _
  omega
 by_cases hlt : i < s.size
 . obtain ⟨d,hd⟩ : ∃ d,d=(BL s).getD i 0:=⟨_,rfl⟩
   have e0 : s.data.toList.getD i 0=d:=hd.symm
   have ex:=ext_at hlt
   rw [← hd] at ex
   have hsu : ((BL s).take (i + 1)).flatMap (subL (BL a) (BL b) (BL c))=BL w++subL (BL a) (BL b) (BL c) d:=by
    rw [hw,take_succ 0 (BL s) i (by rw [← size_BL]; exact hlt),List.flatMap_append,← hd]
    simp
   have ei : ((i : Nat) : Int) + 1=((i + 1 : Nat) : Int):=by omega
   have zd : (ByteArray.mk #[d]).size=1:=rfl
   by_cases h97 : d=97
   . have hn' : (d.toNat : Int)=97:=by rw [h97]; rfl
     rw [subL,if_pos h97] at hsu
     simp (disch:=first | omega | decide +kernel) only [e0,hn',Int.toNat_natCast,go_sem,Qa,Qb,Qc,Qd,Qe,↓reduceIte,reduceCtorEq,Qf,Qg,Qh]
     (repeat' (first | ((first | (refine gsel_split (fun q' => ?_) (fun q' => ?_)<;>(have h':=q')<;>(try simp only [za1,za2,Ba,Bb,za3,ne_eq,za4,za5,za6,Ia,Ib,Ic,Ie,Da,Bc,Bh,Be,za7,za8] at h')<;>try (exfalso; omega)) | (have q':=trivial; first | refine hE _ _ ret_ne ?_ | refine hE _ _ exit_ne ?_))<;>(try simp (disch:=first | omega | decide +kernel) only [q',e0,hn',Int.toNat_natCast,go_sem,Qa,Qb,Qc,Qd,Qe,↓reduceIte,reduceCtorEq,Qf,Qg,Qh])<;>clear q') | refine hN _ ?_ ?_ Wk.kk | with_reducible refine And.intro ?_ ?_ | with_reducible omega | exact ok_ints | exact cells_ints | exact no_mem | with_reducible exact plain_ints | (refine le_maxLen ?_; omega) | (refine za9 ⟨?_,?_⟩) | (simp only [go_sem,Qc,Qb,zb1,zb2,forall_eq]; done)))
     all_goals (first | omega | exact absurd trivial ‹¬True› | (refine hN (w++a) _ (by omega) (by rw [BL_app,hsu]) (by refine Wk.auto ?_ ?_<;>simp [extraK,lk,killL,St.kill,wipeO,wipeS,AV.has,AV.hasL,AO.wipe,List.map_set,updSt,insL,dropS,ins,])))
   . have hn97 : ¬ (d.toNat : Int)=97:=fun h => h97 (toN_eq.1 h)
     by_cases h98 : d=98
     . have hn' : (d.toNat : Int)=98:=by rw [h98]; rfl
       rw [subL,if_neg h97,if_pos h98] at hsu
       simp (disch:=first | omega | decide +kernel) only [e0,hn',Int.toNat_natCast,go_sem,Qa,Qb,Qc,Qd,Qe,↓reduceIte,reduceCtorEq,Qf,Qg,Qh]
       (repeat' (first | ((first | (refine gsel_split (fun q' => ?_) (fun q' => ?_)<;>(have h':=q')<;>(try simp only [za1,za2,Ba,Bb,za3,ne_eq,za4,za5,za6,Ia,Ib,Ic,Ie,Da,Bc,Bh,Be,za7,za8] at h')<;>try (exfalso; omega)) | (have q':=trivial; first | refine hE _ _ ret_ne ?_ | refine hE _ _ exit_ne ?_))<;>(try simp (disch:=first | omega | decide +kernel) only [q',e0,hn',Int.toNat_natCast,go_sem,Qa,Qb,Qc,Qd,Qe,↓reduceIte,reduceCtorEq,Qf,Qg,Qh])<;>clear q') | refine hN _ ?_ ?_ Wk.kk | with_reducible refine And.intro ?_ ?_ | with_reducible omega | exact ok_ints | exact cells_ints | exact no_mem | with_reducible exact plain_ints | (refine le_maxLen ?_; omega) | (refine za9 ⟨?_,?_⟩) | (simp only [go_sem,Qc,Qb,zb1,zb2,forall_eq]; done)))
       all_goals (first | omega | exact absurd trivial ‹¬True› | (refine hN (w++b) _ (by omega) (by rw [BL_app,hsu]) (by refine Wk.auto ?_ ?_<;>simp [extraK,lk,killL,St.kill,wipeO,wipeS,AV.has,AV.hasL,AO.wipe,List.map_set,updSt,insL,dropS,ins,])))
     . have hn98 : ¬ (d.toNat : Int)=98:=fun h => h98 (toN_eq.1 h)
       by_cases h99 : d=99
       . have hn' : (d.toNat : Int)=99:=by rw [h99]; rfl
         rw [subL,if_neg h97,if_neg h98,if_pos h99] at hsu
         simp (disch:=first | omega | decide +kernel) only [e0,hn',Int.toNat_natCast,go_sem,Qa,Qb,Qc,Qd,Qe,↓reduceIte,reduceCtorEq,Qf,Qg,Qh]
         (repeat' (first | ((first | (refine gsel_split (fun q' => ?_) (fun q' => ?_)<;>(have h':=q')<;>(try simp only [za1,za2,Ba,Bb,za3,ne_eq,za4,za5,za6,Ia,Ib,Ic,Ie,Da,Bc,Bh,Be,za7,za8] at h')<;>try (exfalso; omega)) | (have q':=trivial; first | refine hE _ _ ret_ne ?_ | refine hE _ _ exit_ne ?_))<;>(try simp (disch:=first | omega | decide +kernel) only [q',e0,hn',Int.toNat_natCast,go_sem,Qa,Qb,Qc,Qd,Qe,↓reduceIte,reduceCtorEq,Qf,Qg,Qh])<;>clear q') | refine hN _ ?_ ?_ Wk.kk | with_reducible refine And.intro ?_ ?_ | with_reducible omega | exact ok_ints | exact cells_ints | exact no_mem | with_reducible exact plain_ints | (refine le_maxLen ?_; omega) | (refine za9 ⟨?_,?_⟩) | (simp only [go_sem,Qc,Qb,zb1,zb2,forall_eq]; done)))
         all_goals (first | omega | exact absurd trivial ‹¬True› | (refine hN (w++c) _ (by omega) (by rw [BL_app,hsu]) (by refine Wk.auto ?_ ?_<;>simp [extraK,lk,killL,St.kill,wipeO,wipeS,AV.has,AV.hasL,AO.wipe,List.map_set,updSt,insL,dropS,ins,])))
       . have hn99 : ¬ (d.toNat : Int)=99:=fun h => h99 (toN_eq.1 h)
         rw [subL,if_neg h97,if_neg h98,if_neg h99] at hsu
         simp (disch:=first | omega | decide +kernel) only [e0,hn97,hn98,hn99,ei,ex,zd,Int.toNat_natCast,go_sem,Qa,Qb,Qc,Qd,Qe,↓reduceIte,reduceCtorEq,Qf,Qg,Qh]
         (repeat' (first | ((first | (refine gsel_split (fun q' => ?_) (fun q' => ?_)<;>(have h':=q')<;>(try simp only [za1,za2,Ba,Bb,za3,ne_eq,za4,za5,za6,Ia,Ib,Ic,Ie,Da,Bc,Bh,Be,za7,za8] at h')<;>try (exfalso; omega)) | (have q':=trivial; first | refine hE _ _ ret_ne ?_ | refine hE _ _ exit_ne ?_))<;>(try simp (disch:=first | omega | decide +kernel) only [q',e0,hn97,hn98,hn99,ei,ex,zd,Int.toNat_natCast,go_sem,Qa,Qb,Qc,Qd,Qe,↓reduceIte,reduceCtorEq,Qf,Qg,Qh])<;>clear q') | refine hN _ ?_ ?_ Wk.kk | with_reducible refine And.intro ?_ ?_ | with_reducible omega | exact ok_ints | exact cells_ints | exact no_mem | with_reducible exact plain_ints | (refine le_maxLen ?_; omega) | (refine za9 ⟨?_,?_⟩) | (simp only [go_sem,Qc,Qb,zb1,zb2,forall_eq]; done)))
         all_goals (first | omega | exact absurd trivial ‹¬True› | (refine hN (w++ByteArray.mk #[d]) _ (by omega) (by rw [BL_app,hsu]) (by refine Wk.auto ?_ ?_<;>simp [extraK,lk,killL,St.kill,wipeO,wipeS,AV.has,AV.hasL,AO.wipe,List.map_set,updSt,insL,dropS,ins,])))
 . have hfin : caseT j a b c=w:=by
    apply ext_BL
    rw [hw,List.take_of_length_le (by rw [← size_BL]; omega)]
    exact hcl
   simp (disch:=first | omega | decide +kernel) only [go_sem,Qa,Qb,Qc,Qd,Qe,↓reduceIte,reduceCtorEq,Qf,Qg,Qh]
   (repeat' (first | ((first | (refine gsel_split (fun q' => ?_) (fun q' => ?_)<;>(have h':=q')<;>(try simp only [za1,za2,Ba,Bb,za3,ne_eq,za4,za5,za6,Ia,Ib,Ic,Ie,Da,Bc,Bh,Be,za7,za8] at h')<;>try (exfalso; omega)) | (have q':=trivial; first | refine hE _ _ ret_ne ?_ | refine hE _ _ exit_ne ?_))<;>(try simp (disch:=first | omega | decide +kernel) only [q',go_sem,Qa,Qb,Qc,Qd,Qe,↓reduceIte,reduceCtorEq,Qf,Qg,Qh])<;>clear q') | refine hN _ ?_ ?_ Wk.kk | with_reducible refine And.intro ?_ ?_ | with_reducible omega | exact ok_ints | exact cells_ints | exact no_mem | with_reducible exact plain_ints | (refine le_maxLen ?_; omega) | (refine za9 ⟨?_,?_⟩) | (simp only [go_sem,Qc,Qb,zb1,zb2,forall_eq]; done)))
   all_goals (first | omega | (rw [hfin]; exact ⟨rfl,rfl⟩) | exact congrArg D.str hfin.symm | exact absurd trivial ‹¬True›)
end Abs.Y

namespace Abs.Y
open Go Go.Proofs Abs
set_option maxRecDepth 100000

theorem prs_app (x : Fm) (h : x.wf=true) (r : List UInt8) : prs (x.tl++r)=some (x,r):=prs_of ⟨h,rfl⟩
theorem T_drop (t : ByteArray) (k : Nat) (l : List UInt8) (h : (BL t).drop k=l) : t.extract k t.size=⟨l.toArray⟩:=by
 apply ext_BL
 show (t.extract k t.size).data.toList=l
 rw [ByteArray.data_extract,Array.toList_extract,List.extract_eq_drop_take]
 show ((BL t).drop k).take (t.size - k)=l
 rw [List.take_of_length_le (by rw [List.length_drop,← size_BL]; omega),h]
theorem T_cut (t : ByteArray) (k n : Nat) (l r : List UInt8) (h : (BL t).drop k=l++r) (hn : n=k + l.length) : t.extract k n=⟨l.toArray⟩:=by
 apply ext_BL
 show (t.extract k n).data.toList=l
 rw [ByteArray.data_extract,Array.toList_extract,List.extract_eq_drop_take]
 show ((BL t).drop k).take (n - k)=l
 rw [h,hn,Nat.add_sub_cancel_left,List.take_left]
theorem l22Parts_ok (x : Fm) (hw : x.wf=true) (hz : x.T.size<=1000000) : Ctr Tryd.prog 45 [.str x.T] true (.tup [.d (.int .u8 x.op.toNat),.d (.str x.p1),.d (.str x.p2)]) []:=by
 have t0 : Int.toNat 0=0:=rfl
 have t1 : Int.toNat 1=1:=rfl
 cases x with
 | lf c =>
   obtain ⟨h1,h2⟩:=lf_ne hw
   have h1 : ¬ (c.toNat : Int)=126:=fun h => h1 (toN_eq.1 h)
   have h2 : ¬ (c.toNat : Int)=40:=fun h => h2 (toN_eq.1 h)
   have e0 : (Fm.lf c).T.data.toList.getD 0 0=c:=rfl
   have hz : (Fm.lf c).T.size=1:=rfl
   show Ctr _ _ _ _ (.tup [.d (.int .u8 c.toNat),.d (.str ⟨#[]⟩),.d (.str ⟨#[]⟩)]) _
   generalize (Fm.lf c).T=t at *
   refine Ctr.of (n:=31) (rs:=[.tmp 2,.tmp 3,.tmp 4]) Tryd.func45 rfl rfl Tryd.ntmps45 rfl rfl (by kernel_rfl) Tryd.checked.mixed ?_
   simp (disch:=first | omega | decide +kernel) only [e0,t0,h1,h2,go_sem,Qa,Qb,Qc,Qd,Qe,↓reduceIte,reduceCtorEq,Qf,Qg,Qh]
   (repeat' (first | ((first | (refine gsel_split (fun q' => ?_) (fun q' => ?_)<;>(have h':=q')<;>(try simp only [za1,za2,Ba,Bb,za3,ne_eq,za4,za5,za6,Ia,Ib,Ic,Ie,Da,Bc,Bh,Be,za7,za8] at h')<;>try (exfalso; omega)) | (have q':=trivial; first | refine hE _ _ ret_ne ?_ | refine hE _ _ exit_ne ?_))<;>(try simp (disch:=first | omega | decide +kernel) only [q',e0,t0,h1,h2,go_sem,Qa,Qb,Qc,Qd,Qe,↓reduceIte,reduceCtorEq,Qf,Qg,Qh])<;>clear q') | refine hN _ ?_ ?_ Wk.kk | with_reducible refine And.intro ?_ ?_ | with_reducible omega | exact ok_ints | exact cells_ints | exact no_mem | with_reducible exact plain_ints | (refine le_maxLen ?_; omega) | (refine za9 ⟨?_,?_⟩) | (simp only [go_sem,Qc,Qb,zb1,zb2,forall_eq]; done)))
   all_goals (first | omega | assumption | rfl | exact ret_f3 [] rfl rfl rfl | exact absurd trivial ‹¬True›)
 | ng a =>
   have e0 : (Fm.ng a).T.data.toList.getD 0 0=126:=rfl
   have hn : ((126 : UInt8).toNat : Int)=126:=rfl
   have ex : (Fm.ng a).T.extract 1 (Fm.ng a).T.size=a.T:=T_drop _ 1 a.tl rfl
   have hs : (Fm.ng a).T.size=a.T.size + 1:=size_ng a
   show Ctr _ _ _ _ (.tup [.d (.int .u8 ((126 : UInt8).toNat)),.d (.str a.T),.d (.str ⟨#[]⟩)]) _
   rw [hn]
   generalize a.T=u at *
   generalize (Fm.ng a).T=t at *
   refine Ctr.of (n:=31) (rs:=[.tmp 2,.tmp 3,.tmp 4]) Tryd.func45 rfl rfl Tryd.ntmps45 rfl rfl (by kernel_rfl) Tryd.checked.mixed ?_
   simp (disch:=first | omega | decide +kernel) only [e0,t0,t1,hn,ex,go_sem,Qa,Qb,Qc,Qd,Qe,↓reduceIte,reduceCtorEq,Qf,Qg,Qh]
   (repeat' (first | ((first | (refine gsel_split (fun q' => ?_) (fun q' => ?_)<;>(have h':=q')<;>(try simp only [za1,za2,Ba,Bb,za3,ne_eq,za4,za5,za6,Ia,Ib,Ic,Ie,Da,Bc,Bh,Be,za7,za8] at h')<;>try (exfalso; omega)) | (have q':=trivial; first | refine hE _ _ ret_ne ?_ | refine hE _ _ exit_ne ?_))<;>(try simp (disch:=first | omega | decide +kernel) only [q',e0,t0,t1,hn,ex,go_sem,Qa,Qb,Qc,Qd,Qe,↓reduceIte,reduceCtorEq,Qf,Qg,Qh])<;>clear q') | refine hN _ ?_ ?_ Wk.kk | with_reducible refine And.intro ?_ ?_ | with_reducible omega | exact ok_ints | exact cells_ints | exact no_mem | with_reducible exact plain_ints | (refine le_maxLen ?_; omega) | (refine za9 ⟨?_,?_⟩) | (simp only [go_sem,Qc,Qb,zb1,zb2,forall_eq]; done)))
   all_goals (first | omega | assumption | rfl | exact ret_f3 [] rfl rfl rfl | exact absurd trivial ‹¬True›)
 | jn o a b =>
   have e0 : (Fm.jn o a b).T.data.toList.getD 0 0=40:=rfl
   have hn : ((40 : UInt8).toNat : Int)=40:=rfl
   have hw' : (isOp o && a.wf && b.wf)=true:=hw
   simp only [Bc] at hw'
   have hs : (Fm.jn o a b).T.size=a.T.size + b.T.size + 3:=size_jn o a b
   have c1:=l22End_ok (Fm.jn o a b).T hz _ 1 (Nat.le_refl _) (by omega)
   have hd : (BL (Fm.jn o a b).T).drop 1=a.tl++o :: (b.tl++[41]):=rfl
   have he : endI (Fm.jn o a b).T 1=((a.T.size + 1 : Nat) : Int):=by
    rw [endI,hd,prs_app a hw'.1.2]
    show ((Fm.jn o a b).T.size : Int) - (o :: (b.tl++[41])).length=_
    rw [List.length_cons,List.length_append,hs]
    have : b.T.size=b.tl.length:=rfl
    simp only [List.length_cons,List.length_nil]
    omega
   have hd2 : (BL (Fm.jn o a b).T).drop (a.T.size + 1)=o :: (b.tl++[41]):=by
    rw [Nat.add_comm,← List.drop_drop,hd]
    exact List.drop_left' rfl
   have hd3 : (BL (Fm.jn o a b).T).drop (a.T.size + 1 + 1)=b.tl++[41]:=by
    rw [← List.drop_drop,hd2]; rfl
   have eo : (Fm.jn o a b).T.data.toList.getD (a.T.size + 1) 0=o:=by
    have:=drop_cons (s:=(Fm.jn o a b).T) (k:=a.T.size + 1) (by omega)
    rw [hd2] at this
    exact (List.cons.inj this).1.symm
   have ex1 : (Fm.jn o a b).T.extract 1 (a.T.size + 1)=a.T:=T_cut _ 1 _ a.tl _ hd (by rw [size_BL,BL_T]; omega)
   have ex2 : (Fm.jn o a b).T.extract (a.T.size + 1 + 1) ((Fm.jn o a b).T.size - 1)=b.T:=T_cut _ _ _ b.tl _ hd3 (by rw [hs,size_BL,size_BL,BL_T,BL_T]; omega)
   rw [he] at c1
   show Ctr _ _ _ _ (.tup [.d (.int .u8 o.toNat),.d (.str a.T),.d (.str b.T)]) _
   clear hd hd2 hd3 he
   have e11 : ((1 : Nat) : Int)=1:=rfl
   rw [e11] at c1
   generalize hA : a.T=ta at *
   generalize hB : b.T=tb at *
   generalize (Fm.jn o a b).T=t at *
   generalize hm : ta.size + 1=m at *
   have tm : (((m : Nat) : Int) + 1).toNat=m + 1:=by omega
   have ts : (((t.size : Nat) : Int) - 1).toNat=t.size - 1:=by omega
   refine Ctr.of (n:=31) (rs:=[.tmp 2,.tmp 3,.tmp 4]) Tryd.func45 rfl rfl Tryd.ntmps45 rfl rfl (by kernel_rfl) Tryd.checked.mixed ?_
   simp (disch:=first | omega | decide +kernel) only [e0,eo,t0,t1,hn,tm,ts,ex1,ex2,Int.toNat_natCast,go_sem,Qa,Qb,Qc,Qd,Qe,↓reduceIte,reduceCtorEq,Qf,Qg,Qh]
   (repeat' (first | ((first | (refine gsel_split (fun q' => ?_) (fun q' => ?_)<;>(have h':=q')<;>(try simp only [za1,za2,Ba,Bb,za3,ne_eq,za4,za5,za6,Ia,Ib,Ic,Ie,Da,Bc,Bh,Be,za7,za8] at h')<;>try (exfalso; omega)) | (have q':=trivial; first | refine callX_new (c1) rfl (by decide) ?_ | refine callY_new (c1) rfl ?_ | refine hE _ _ ret_ne ?_ | refine hE _ _ exit_ne ?_))<;>(try simp (disch:=first | omega | decide +kernel) only [q',e0,eo,t0,t1,hn,tm,ts,ex1,ex2,Int.toNat_natCast,go_sem,Qa,Qb,Qc,Qd,Qe,↓reduceIte,reduceCtorEq,Qf,Qg,Qh])<;>clear q') | refine hN _ ?_ ?_ Wk.kk | with_reducible refine And.intro ?_ ?_ | with_reducible omega | exact ok_ints | exact cells_ints | exact no_mem | with_reducible exact plain_ints | (refine le_maxLen ?_; omega) | (refine za9 ⟨?_,?_⟩) | (simp only [go_sem,Qc,Qb,zb1,zb2,forall_eq]; done)))
   all_goals (first | omega | assumption | rfl | exact ret_f3 [] rfl rfl rfl | exact absurd trivial ‹¬True›)
end Abs.Y

namespace Abs
open Go Go.RowKit

def bitI (b k : Nat) : Int:=if b.testBit k then 1 else 0
end Abs

namespace Abs

def szL {α : Type} (f : α->Int->Int) : List α->Int->Int
 | [],left => left
 | x :: r,left => if f x left < 0 then -1 else szL f r (f x left)
def szS {α : Type} (f : α->Int->Int) (a : List α) (left : Int) : Int:=if left - a.length < 0 then -1 else szL f a (left - a.length)
def szI (a : List Int) (left : Int) : Int:=if left - a.length < 0 then -1 else left - a.length
def SzF {α : Type} (f : α->Int->Int) : Prop:=∀ x left,0<=left->f x left=-1∨(0<=f x left∧f x left<=left)
end Abs

namespace Abs
open Go Go.Proofs
theorem retM_ds {P : Program} {t : Nat} {st : St} {x : D} {u : Nat->Value} {ob : AO} (h : lk t st.s=some (.d x)) (ho : lk 0 st.o=some ob) (hk : lk 1000000000 st.s=some (.hdr 0 (u 0))) (hr : ob.ren (fun j => j)=ob) :
 retM P [.tmp t] u [0] true (.d x) [(0,ob)] .ret st:=by
 simp only [retM,resV,h]
 exact ⟨trivial,⟨fun j => j,rfl,by simpa [hr] using ho,by simp,⟨rfl,hk,trivial⟩⟩,.inl trivial⟩
theorem CtrR.mono {P f avs oi keep sh} {R R' : AV->List (Nat × AO)->Prop} (h : CtrR P f avs oi keep sh R) (hR : ∀ r o,R r o->R' r o) : CtrR P f avs oi keep sh R' :=
 ⟨h.1,fun S β φ w vs h1 h2 h3 h4 hG => (h.2 S β φ w vs h1 h2 h3 h4 hG).mono fun _ _ ⟨v,r,o,e,hr,h5,h6⟩ => ⟨v,r,o,e,hR r o hr,h5,h6⟩⟩
end Abs
namespace Abs.Y
open Go Go.Proofs Abs
set_option maxRecDepth 100000

@[reducible] def D.bytes (c : List Int) : D:=.slice (c.map (.int .u8))
@[reducible] def curB (code : List Int) (at_ : Nat) (seed : Int) : AO:=.box 49 [.d (D.bytes code),.d (.int .i64 (at_ : Nat)),.d (.int .u64 seed)]
@[reducible] def curO (code : List Int) (at_ : Nat) (seed : Int) : List (Nat × AO):=[(0,curB code at_ seed)]
structure CodeOK (code : List Int) : Prop where
 len : code.length<=1048576
 byte : ∀ i,0<=code.getD i 0∧code.getD i 0 < 256
structure CurOK (at_ : Nat) (seed : Int) : Prop where
 at_ : at_<=1099511627776
 seed : 0<=seed∧seed < 18446744073709551616
theorem el_u8 {xs : List Int} {i : Nat} (h : i < xs.length) : el (xs.map (.int .u8)) i=.int .u8 (xs.getD i 0):=el_map (f:=D.int .u8) 0 h
def seedN (seed b : Int) : Int:=IntKind.u64.wrap (IntKind.u64.wrap (IntKind.u64.wrap (seed * 6364136223846793005) + IntKind.u64.wrap b) + 337411)
theorem wrap_u64 (n : Int) : 0<=IntKind.u64.wrap n∧IntKind.u64.wrap n < 18446744073709551616:=by
 simp only [IntKind.wrap,IntKind.signed,IntKind.bits]
 simp; omega
theorem seedN_bd (s b : Int) : 0<=seedN s b∧seedN s b < 18446744073709551616:=wrap_u64 _
theorem bitV_and_u64 (x : Int) : 0<=bitV .and .u64 x 255∧bitV .and .u64 x 255<=255:=by
 have h : (BitVec.ofInt 64 x &&& BitVec.ofInt 64 255).toNat<=255:=by
  rw [BitVec.toNat_and]; exact Nat.and_le_right
 have e : bitV .and .u64 x 255=IntKind.wrap .u64 ((BitVec.ofInt 64 x &&& BitVec.ofInt 64 255).toNat : Nat):=rfl
 generalize (BitVec.ofInt 64 x &&& BitVec.ofInt 64 255).toNat=n at *
 rw [e]
 simp only [IntKind.wrap,IntKind.signed,IntKind.bits]
 simp; omega
def drawX (s : Int) : Int:=IntKind.i64.wrap (bitV .and .u64 (s.fdiv (2 ^ min (Int.toNat 40) 64)) 255)
theorem drawX_bd (s : Int) : 0<=drawX s∧drawX s<=255:=by
 unfold drawX
 have h:=bitV_and_u64 (s.fdiv (2 ^ min (Int.toNat 40) 64))
 rw [wrap_of (by omega)]
 omega
theorem next_ok {code : List Int} (hc : CodeOK code) {at_ : Nat} {seed : Int} (h : CurOK at_ seed) : ∃ x seed',0<=x∧x<=255∧0<=seed'∧seed' < 18446744073709551616 ∧
 CtrM Tryd.prog 71 [.p 0 0] (curO code at_ seed) [0] true (.d (.int .i64 x)) (curO code (at_ + 1) seed'):=by
 have hl:=hc.len
 have hb:=hc.byte at_
 obtain ⟨ha,hs⟩:=h
 by_cases hlt : at_ < code.length
 . have hei:=el_u8 hlt
   have he2 : (at_ : Int) + 1=((at_ + 1 : Nat) : Int):=by omega
   generalize code.getD at_ 0=b at *
   refine ⟨b,seedN seed b,hb.1,by omega,(seedN_bd _ _).1,(seedN_bd _ _).2,?_⟩
   refine CtrM.of (n:=62) (rs:=[.tmp 2]) Tryd.func71 rfl rfl Tryd.ntmps71 rfl rfl (by kernel_rfl) Tryd.checked.mixed ?_; intro u
   simp (disch:=first | omega | decide +kernel) only [curO,curB,D.bytes,hei,setL,he2,go_sem,Qa,Qb,Qc,Qd,Qe,↓reduceIte,reduceCtorEq,Qf,Qg,Qh]
   (repeat' (first | ((first | (refine gsel_split (fun q' => ?_) (fun q' => ?_)<;>(have h':=q')<;>(try simp only [za1,za2,Ba,Bb,za3,ne_eq,za4,za5,za6,Ia,Ib,Ic,Ie,Da,Bc,Bh,Be,za7,za8] at h')<;>try (exfalso; omega)) | (have q':=trivial; first | refine hE _ _ ret_ne ?_ | refine hE _ _ exit_ne ?_))<;>(try simp (disch:=first | omega | decide +kernel) only [q',D.bytes,hei,setL,he2,Int.toNat_natCast,go_sem,Qa,Qb,Qc,Qd,Qe,↓reduceIte,reduceCtorEq,Qf,Qg,Qh])<;>clear q') | refine hN _ ?_ ?_ Wk.kk | with_reducible refine And.intro ?_ ?_ | with_reducible omega | exact ok_ints | exact cells_ints | exact no_mem | with_reducible exact plain_ints | (refine le_maxLen ?_; omega) | (refine za9 ⟨?_,?_⟩) | (simp only [go_sem,Qc,Qb,zb1,zb2,forall_eq]; done)))
   all_goals (first | omega | exact retM_ds rfl rfl rfl rfl)
 . have he2 : (at_ : Int) + 1=((at_ + 1 : Nat) : Int):=by omega
   refine ⟨drawX (seedN seed 0),seedN seed 0,(drawX_bd _).1,(drawX_bd _).2,(seedN_bd _ _).1,(seedN_bd _ _).2,?_⟩
   refine CtrM.of (n:=62) (rs:=[.tmp 2]) Tryd.func71 rfl rfl Tryd.ntmps71 rfl rfl (by kernel_rfl) Tryd.checked.mixed ?_; intro u
   simp (disch:=first | omega | decide +kernel) only [curO,curB,D.bytes,setL,he2,go_sem,Qa,Qb,Qc,Qd,Qe,↓reduceIte,reduceCtorEq,Qf,Qg,Qh]
   (repeat' (first | ((first | (refine gsel_split (fun q' => ?_) (fun q' => ?_)<;>(have h':=q')<;>(try simp only [za1,za2,Ba,Bb,za3,ne_eq,za4,za5,za6,Ia,Ib,Ic,Ie,Da,Bc,Bh,Be,za7,za8] at h')<;>try (exfalso; omega)) | (have q':=trivial; first | refine hE _ _ ret_ne ?_ | refine hE _ _ exit_ne ?_))<;>(try simp (disch:=first | omega | decide +kernel) only [q',D.bytes,setL,he2,Int.toNat_natCast,go_sem,Qa,Qb,Qc,Qd,Qe,↓reduceIte,reduceCtorEq,Qf,Qg,Qh])<;>clear q') | with_reducible refine And.intro ?_ ?_ | with_reducible omega | exact no_mem | (refine le_maxLen ?_; omega) | (refine za9 ⟨?_,?_⟩) | (simp only [go_sem,Qc,Qb,zb1,zb2,forall_eq]; done)))
   all_goals (first | omega | exact retM_ds rfl rfl rfl rfl)
def Draws (f : FuncId) (xs : List AV) (k : Nat) (Q : AV->Prop) (code : List Int) : Prop:=∀ at_ seed,at_ + k<=1099511627776->0<=seed->seed < 18446744073709551616 ->
 CtrR Tryd.prog f (.p 0 0 :: xs) (curO code at_ seed) [0] true fun r oo => ∃ at' seed',at_<=at'∧at'<=at_ + k∧0<=seed'∧seed' < 18446744073709551616∧oo=curO code at' seed'∧Q r
theorem callX_draw {N f cavs st dst K} (J : Nat) {xs k Q code at_ seed} (hs : Draws f xs k Q code) (hp : passM Tryd.prog (delL [J] st.o) (nth [J]) true cavs (.p 0 0 :: xs)) (ho : lkn J st.o=some ((curB code at_ seed).ren (nth [J])))
 (hd : dstB N dst) (h1 : at_ + k<=1099511627776) (h2 : 0<=seed) (h3 : seed < 18446744073709551616)
 (hK : ∀ r at' seed',at_<=at'->at'<=at_ + k->0<=seed'->seed' < 18446744073709551616->Q r->K (impM st dst (nth [J]) [] r (curO code at' seed'))) : callX Tryd.prog N f cavs dst K st :=
 callX_rel [J] [J] [] (hs at_ seed h1 h2 h3) hp ⟨ho,trivial⟩ (by simp [namesI,keysO,nth]) hd fun r oo ⟨at',seed',a1,a2,a3,a4,e,hQ⟩ => by
  subst e; exact ⟨by simp [namesOK,keysO,nth],hK r at' seed' a1 a2 a3 a4 hQ⟩
theorem retR_draw {t : Nat} {u : Nat->Value} {st : St} {code : List Int} {at_ k : Nat} {Q : AV->Prop} {at' : Nat} {seed' : Int} {x : D} (h : lk t st.s=some (.d x)) (ho : lk 0 st.o=some (curB code at' seed')) (hk : lk 1000000000 st.s=some (.hdr 0 (u 0)))
 (h1 : at_<=at') (h2 : at'<=at_ + k) (h3 : 0<=seed') (h4 : seed' < 18446744073709551616) (hQ : Q (.d x)) :
 retR Tryd.prog [.tmp t] u [0] true (fun r oo => ∃ at' seed',at_<=at'∧at'<=at_ + k∧0<=seed'∧seed' < 18446744073709551616∧oo=curO code at' seed'∧Q r) .ret st :=
 ⟨_,_,⟨at',seed',h1,h2,h3,h4,rfl,hQ⟩,retM_ds h ho hk rfl⟩
@[reducible] def QI (Q : Int->Prop) : AV->Prop:=fun r => ∃ x,r=.d (.int .i64 x)∧Q x
theorem next_draws {code : List Int} (hc : CodeOK code) : Draws 71 [] 1 (QI fun x => 0<=x∧x<=255) code:=fun at_ seed h1 h2 h3 => by
 obtain ⟨x,s,a1,a2,a3,a4,h⟩:=next_ok hc (at_:=at_) (seed:=seed) ⟨by omega,h2,h3⟩
 exact h.rel.mono fun r o ⟨e1,e2⟩ => ⟨at_ + 1,s,by omega,by omega,a3,a4,e2,x,e1,a1,a2⟩
end Abs.Y

namespace Abs.Y
open Go Go.Proofs Abs
set_option maxRecDepth 100000
set_option maxHeartbeats 1000000

@[reducible] def QB : AV->Prop:=fun r => ∃ b : Bool,r=.d (.bool b)∧True
theorem pick_fin {n y : Int} (h : 1 < n) (h0 : 0<=y) (h1 : y<=65535) : (n<=1->y % n=0)∧0<=y % n∧(1 < n->y % n < n)∧y % n<=65535:=by
 have b1:=Int.emod_nonneg y (b:=n) (by omega)
 have b2:=Int.emod_lt_of_pos y (b:=n) (by omega)
 have b3:=Int.mul_ediv_add_emod y n
 have b4:=Int.mul_nonneg (a:=n) (b:=y / n) (by omega) (Int.ediv_nonneg h0 (by omega))
 generalize y % n=m at *
 generalize n * (y / n)=z at *
 omega
theorem pick_ok {code : List Int} (hc : CodeOK code) (n : Int) (hn : n<=9223372036854775807∧-9223372036854775808<=n) :
 Draws 52 [.d (.int .i64 n)] 2 (QI fun x => (n<=1->x=0)∧0<=x∧(1 < n->x < n)∧x<=65535) code:=fun at_ seed h1 h2 h3 => by
 have c1:=next_draws hc
 have e1 : ∀ x : Int,0<=x->x.tmod n=x % n:=fun x hx => Int.tmod_eq_emod_of_nonneg hx
 refine CtrR.of (n:=20) (rs:=[.tmp 4]) Tryd.func52 rfl rfl Tryd.ntmps52 rfl rfl (by kernel_rfl) Tryd.checked.mixed ?_; intro u
 simp (disch:=first | omega | decide +kernel) only [curO,curB,D.bytes,go_sem,Qa,Qb,Qc,Qd,Qe,↓reduceIte,reduceCtorEq,Qf,Qg,Qh]
 (repeat' (first | ((first | (refine gsel_split (fun q' => ?_) (fun q' => ?_)<;>(have h':=q')<;>(try simp only [za1,za2,Ba,Bb,za3,ne_eq,za4,za5,za6,Ia,Ib,Ic,Ie,Da,Bc,Bh,Be,za7,za8] at h')<;>try (exfalso; omega)) | (have q':=trivial; first | (refine callX_draw _ (c1) ⟨.inl rfl,trivial⟩ rfl (by simp [dstB]) (by omega) (by omega) (by omega) ?_; rintro _ at1 sd1 hat11 hat12 hsd11 hsd12 ⟨x1,rfl,hx1⟩) | refine hE _ _ ret_ne ?_ | refine hE _ _ exit_ne ?_))<;>(try simp (disch:=first | omega | decide +kernel) only [q',curO,curB,D.bytes,e1,go_sem,Qa,Qb,Qc,Qd,Qe,↓reduceIte,reduceCtorEq,Qf,Qg,Qh])<;>clear q') | with_reducible refine And.intro ?_ ?_ | with_reducible omega | (refine le_maxLen ?_; omega)))
 all_goals (first | omega | (refine retR_draw rfl rfl rfl (by omega) (by omega) (by omega) (by omega) ⟨_,rfl,?_⟩))
 all_goals (first | exact pick_fin (by omega) (by omega) (by omega) | (show _∧_; refine ⟨fun _ => rfl,?_,?_,?_⟩<;>omega))
theorem one_ok {code : List Int} (hc : CodeOK code) (n : Int) (hn : n<=9223372036854775807∧-9223372036854775808<=n) :
 Draws 40 [.d (.int .i64 n)] 2 QB code:=fun at_ seed h1 h2 h3 => by
 have c1:=pick_ok hc n hn
 refine CtrR.of (n:=9) (rs:=[.tmp 4]) Tryd.func40 rfl rfl Tryd.ntmps40 rfl rfl (by kernel_rfl) Tryd.checked.mixed ?_; intro u
 simp (disch:=first | omega | decide +kernel) only [curO,curB,D.bytes,go_sem,Qa,Qb,Qc,Qd,Qe,↓reduceIte,reduceCtorEq,Qf,Qg,Qh]
 (repeat' (first | ((first | (refine gsel_split (fun q' => ?_) (fun q' => ?_)<;>(have h':=q')<;>(try simp only [za1,za2,Ba,Bb,za3,ne_eq,za4,za5,za6,Ia,Ib,Ic,Ie,Da,Bc,Bh,Be,za7,za8] at h')<;>try (exfalso; omega)) | (have q':=trivial; first | (refine callX_draw _ (c1) ⟨.inl rfl,.inl rfl,trivial⟩ rfl (by simp [dstB]) (by omega) (by omega) (by omega) ?_; rintro _ at1 sd1 hat11 hat12 hsd11 hsd12 ⟨x1,rfl,hx1⟩) | refine hE _ _ ret_ne ?_ | refine hE _ _ exit_ne ?_))<;>(try simp (disch:=first | omega | decide +kernel) only [q',curO,curB,D.bytes,go_sem,Qa,Qb,Qc,Qd,Qe,↓reduceIte,reduceCtorEq,Qf,Qg,Qh])<;>clear q') | with_reducible refine And.intro ?_ ?_ | with_reducible omega | (refine le_maxLen ?_; omega)))
 all_goals (first | omega | (exact retR_draw rfl rfl rfl (by omega) (by omega) (by omega) (by omega) ⟨_,rfl,trivial⟩))
end Abs.Y

namespace Abs.Y
open Go Go.Proofs Abs
set_option maxRecDepth 100000
set_option maxHeartbeats 1000000

def DrawsL (f : FuncId) (xs : List AV) (k : Nat) (o : AO) (Q : AV->Prop) (code : List Int) : Prop:=∀ at_ seed,at_ + k<=1099511627776->0<=seed->seed < 18446744073709551616 ->
 CtrR Tryd.prog f (.p 0 0 :: xs) [(0,curB code at_ seed),(1,o)] [0,1] true fun r oo => ∃ at' seed',at_<=at'∧at'<=at_ + k∧0<=seed'∧seed' < 18446744073709551616∧oo=[(0,curB code at' seed'),(1,o)]∧Q r
theorem callX_drawL {N f cavs st dst K} (J L : Nat) {xs k o Q code at_ seed} (hs : DrawsL f xs k o Q code) (hp : passM Tryd.prog (delL [J,L] st.o) (nth [J,L]) true cavs (.p 0 0 :: xs)) (ho : lkn J st.o=some ((curB code at_ seed).ren (nth [J,L])))
 (hl : lkn L st.o=some (o.ren (nth [J,L]))) (hJL : J ≠ L) (hd : dstB N dst) (h1 : at_ + k<=1099511627776) (h2 : 0<=seed) (h3 : seed < 18446744073709551616)
 (hK : ∀ r at' seed',at_<=at'->at'<=at_ + k->0<=seed'->seed' < 18446744073709551616->Q r->K (impM st dst (nth [J,L]) [] r [(0,curB code at' seed'),(1,o)])) : callX Tryd.prog N f cavs dst K st :=
 callX_rel [J,L] [J,L] [] (hs at_ seed h1 h2 h3) hp ⟨ho,hl,trivial⟩ (by simp [namesI,keysO,nth,hJL,Ne.symm hJL]) hd fun r oo ⟨at',seed',a1,a2,a3,a4,e,hQ⟩ => by
  subst e; exact ⟨by simp [namesOK,keysO,nth,hJL,Ne.symm hJL],hK r at' seed' a1 a2 a3 a4 hQ⟩
theorem retM_ds2 {P : Program} {t : Nat} {st : St} {x : D} {u : Nat->Value} {o0 o1 : AO} (h : lk t st.s=some (.d x)) (h0 : lk 0 st.o=some o0) (h1 : lk 1 st.o=some o1) (k0 : lk 1000000000 st.s=some (.hdr 0 (u 0))) (k1 : lk 1000000001 st.s=some (.hdr 1 (u 1)))
 (r0 : o0.ren (fun j => j)=o0) (r1 : o1.ren (fun j => j)=o1) : retM P [.tmp t] u [0,1] true (.d x) [(0,o0),(1,o1)] .ret st:=by
 simp only [retM,resV,h]
 exact ⟨trivial,⟨fun j => j,rfl,by simpa [r0,r1] using ⟨h0,h1⟩,by simp,⟨rfl,k0,⟨rfl,k1,trivial⟩⟩⟩,.inl trivial⟩
theorem retR_drawL {t : Nat} {u : Nat->Value} {st : St} {code : List Int} {at_ k : Nat} {Q : AV->Prop} {o : AO} {at' : Nat} {seed' : Int} {x : D} (h : lk t st.s=some (.d x)) (ho : lk 0 st.o=some (curB code at' seed')) (hl : lk 1 st.o=some o) (hk : lk 1000000000 st.s=some (.hdr 0 (u 0))) (hk1 : lk 1000000001 st.s=some (.hdr 1 (u 1)))
 (hr : o.ren (fun j => j)=o) (h1 : at_<=at') (h2 : at'<=at_ + k) (h3 : 0<=seed') (h4 : seed' < 18446744073709551616) (hQ : Q (.d x)) :
 retR Tryd.prog [.tmp t] u [0,1] true (fun r oo => ∃ at' seed',at_<=at'∧at'<=at_ + k∧0<=seed'∧seed' < 18446744073709551616∧oo=[(0,curB code at' seed'),(1,o)]∧Q r) .ret st :=
 ⟨_,_,⟨at',seed',h1,h2,h3,h4,rfl,hQ⟩,retM_ds2 h ho hl hk hk1 rfl hr⟩
theorem amongL_ok {code : List Int} (hc : CodeOK code) (l : List Int) (hl : 1<=l.length∧l.length<=60000) :
 DrawsL 63 [.sl 1] 2 (.arr 3 1 (l.map (.int .i64))) (QI fun x => x ∈ l) code:=fun at_ seed h1 h2 h3 => by
 have c1:=pick_ok hc (l.length : Nat) (by omega)
 have hei : ∀ x : Int,0<=x->x < l.length->el (l.map (D.int .i64)) x.toNat=.int .i64 (l.getD x.toNat 0):=fun x hx hl => el_ints (by omega)
 have hm : ∀ x : Int,0<=x->x < l.length->l.getD x.toNat 0 ∈ l:=fun x hx hl => by
  have : x.toNat < l.length:=by omega
  simp [List.getD_eq_getElem?_getD,this]
 refine CtrR.of (n:=12) (rs:=[.tmp 4]) Tryd.func63 rfl rfl Tryd.ntmps63 rfl rfl (by kernel_rfl) Tryd.checked.mixed ?_; intro u
 simp (disch:=first | omega | decide +kernel) only [curO,curB,D.bytes,D.ints,go_sem,Qa,Qb,Qc,Qd,Qe,↓reduceIte,reduceCtorEq,Qf,Qg,Qh]
 (repeat' (first | ((first | (refine gsel_split (fun q' => ?_) (fun q' => ?_)<;>(have h':=q')<;>(try simp only [za1,za2,Ba,Bb,za3,ne_eq,za4,za5,za6,Ia,Ib,Ic,Ie,Da,Bc,Bh,Be,za7,za8] at h')<;>try (exfalso; omega)) | (have q':=trivial; first | (refine callX_draw _ (c1) ⟨.inl rfl,.inl rfl,trivial⟩ rfl (by simp [dstB]) (by omega) (by omega) (by omega) ?_; rintro _ at1 sd1 hat11 hat12 hsd11 hsd12 ⟨x1,rfl,hx1⟩) | refine hE _ _ ret_ne ?_ | refine hE _ _ exit_ne ?_))<;>(try simp (disch:=first | omega | decide +kernel) only [q',curO,curB,D.bytes,D.ints,hei,go_sem,Qa,Qb,Qc,Qd,Qe,↓reduceIte,reduceCtorEq,Qf,Qg,Qh])<;>clear q') | with_reducible refine And.intro ?_ ?_ | with_reducible omega | (refine le_maxLen ?_; omega)))
 all_goals (first | omega | (exact retR_drawL rfl rfl rfl rfl rfl rfl (by omega) (by omega) (by omega) (by omega) ⟨_,rfl,hm _ (by omega) (by omega)⟩))
theorem amongB_ok {code : List Int} (hc : CodeOK code) (l : List Int) (lo hi : Int) (hl : 1<=l.length∧l.length<=60000) (hb : ∀ x ∈ l,lo<=x∧x<=hi) :
 DrawsL 63 [.sl 1] 2 (.arr 3 1 (l.map (.int .i64))) (QI fun x => lo<=x∧x<=hi) code:=fun at_ seed h1 h2 h3 =>
 (amongL_ok hc l hl at_ seed h1 h2 h3).mono fun _ _ ⟨a,s,e1,e2,e3,e4,e5,x,e6,e7⟩ => ⟨a,s,e1,e2,e3,e4,e5,x,e6,hb x e7⟩
end Abs.Y
