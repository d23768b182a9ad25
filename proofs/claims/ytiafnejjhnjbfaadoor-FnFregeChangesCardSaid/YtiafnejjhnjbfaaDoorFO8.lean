/- What functions of this program compute, over plain data. No condition. -/
import Derived.Test.YtiafnejjhnjbfaaDoorFQ6
import Derived.Lib.CountLaws
import Derived.Lib.Replace
import Derived.Test.YtiafnejjhnjbfaaDoorChecked
import Derived.Shelf.Strings.Count
import Derived.Shelf.Strings.Replace
import Derived.Ground.NamesProg
import Derived.Test.YtiafnejjhnjbfaaDoorFO7
set_option linter.all false
namespace Abs.Y
open Go Go.Proofs Abs
open Nat renaming reduceEqDiff -> Qa, reduceLT -> Qb, reduceAdd -> Qc, reduceMul -> Qd, reduceSub -> Qe, reduceLeDiff -> Qf, reduceSubDiff -> Qg, reduceBEq -> Qh
open Bool renaming not_eq_true' -> Ba, not_eq_false' -> Bb, and_eq_true -> Bc, or_eq_true -> Bh, or_eq_false_iff -> Be
open Int renaming ofNat_lt -> Ia, ofNat_le -> Ib, not_lt -> Ic, not_le -> Ie
open Decidable renaming not_not -> Da
set_option maxRecDepth 100000
noncomputable def putF (s l t : ByteArray) : Fm:=(fmS s).sub (one1 ((BL l).getD 0 0) (fmS t))
noncomputable def putG (s l t : ByteArray) : Bool:=okS s && okS t && letS l && decide ((putF s l t).T.size<=80)
noncomputable def putS (s l t : ByteArray) : ByteArray:=if putG s l t then (putF s l t).T else ⟨#[]⟩
theorem okS_bl {s : ByteArray} (h : okS s=true) : BL s=(fmS s).tl:=by
 have:=(okS_spec h).2.1
 exact (congrArg BL this).trans (BL_T _)
set_option maxHeartbeats 8000000 in
theorem PutFormulaS_ok (s l t : ByteArray) (hs : s.size<=100000) (hl : l.size<=100000) (ht : t.size<=100000) :
 Ctr Tryd.prog 12 [.str s,.str l,.str t] true (.tup [.d (.str (putS s l t)),.d (.bool (putG s l t))]) []:=by
 have c1:=l22Good_ok s (by omega)
 have c2:=l22Good_ok t (by omega)
 have c3:=l22LetterS_ok l
 by_cases hg : okS s=true∧okS t=true∧letS l=true
 . obtain ⟨os,ot,ol⟩:=hg
   rw [os] at c1
   rw [ot] at c2
   rw [ol] at c3
   have hs8:=(okS_spec os).2.2
   have ht8:=(okS_spec ot).2.2
   have hw:=one1_wf (d:=(BL l).getD 0 0) (okS_spec ot).1 (fmS s) (okS_spec os).1
   rw [letS,Bc,decide_eq_true_eq] at ol
   have htl:=one1_tl ((BL l).getD 0 0) ol.2 (fmS t) (fmS s) (okS_spec os).1
   rw [← okS_bl os,← okS_bl ot] at htl
   have hput : putS s l t=(if okS (putF s l t).T then (putF s l t).T else ⟨#[]⟩)∧putG s l t=okS (putF s l t).T:=by
    have hpg : putG s l t=okS (putF s l t).T:=by
     have hp : prs (BL (putF s l t).T)=some (putF s l t,[]):=prs_T hw
     rw [putG,os,ot,letS,decide_eq_true ol.1,ol.2,okS,hp]; simp
    exact ⟨by rw [putS,hpg],hpg⟩
   rw [hput.1,hput.2]
   have hfin : (putF s l t).T=⟨((BL s).flatMap (one1L ((BL l).getD 0 0) (BL t))).toArray⟩:=ext_BL htl.symm
   have hn : ∀ d,(one1L ((BL l).getD 0 0) (BL t) d).length<=80:=fun d => by
    unfold one1L; split
    . rw [← size_BL]; exact ht8
    . simp
   have cg:=l22Give_ok (putF s l t).T (by
    rw [hfin,size_BL]
    have:=flat_len hn (BL s)
    rw [← size_BL] at this
    exact Nat.le_trans this (by omega))
   rw [giveS] at cg
   generalize (putF s l t).T=out at *
   generalize (if okS out then out else ⟨#[]⟩)=o1 at *
   generalize okS out=o2 at *
   clear htl hput hw
   obtain ⟨d,hd⟩ : ∃ d,d=(BL l).getD 0 0:=⟨_,rfl⟩
   have l0 : l.data.toList.getD 0 0=d:=hd.symm
   have t0 : Int.toNat 0=0:=rfl
   have ol1:=ol.1
   rw [← hd] at hn hfin
   refine Ctr.of (n:=49) (rs:=[.tmp 6,.tmp 7]) Tryd.func12 rfl rfl Tryd.ntmps12 rfl rfl (by kernel_rfl) Tryd.checked.mixed ?_
   simp (disch:=first | omega | decide +kernel) only [go_sem,Qa,Qb,Qc,Qd,Qe,↓reduceIte,reduceCtorEq,Qf,Qg,Qh]
   (repeat' (first | ((first | (refine gsel_split (fun q' => ?_) (fun q' => ?_)<;>(have h':=q')<;>(try simp only [za1,za2,Ba,Bb,za3,ne_eq,za4,za5,za6,Ia,Ib,Ic,Ie,Da,Bc,Bh,Be,za7,za8] at h')<;>try (exfalso; omega)) | (have q':=trivial; first | refine callX_new (c1) rfl (by decide) ?_ | refine callY_new (c1) rfl ?_ | refine callX_new (c2) rfl (by decide) ?_ | refine callY_new (c2) rfl ?_ | refine callX_new (c3) rfl (by decide) ?_ | refine callY_new (c3) rfl ?_ | refine hE _ _ ret_ne ?_ | refine hE _ _ exit_ne ?_))<;>(try simp (disch:=first | omega | decide +kernel) only [q',go_sem,Qa,Qb,Qc,Qd,Qe,↓reduceIte,reduceCtorEq,Qf,Qg,Qh])<;>clear q') | refine hN _ ?_ ?_ Wk.kk | with_reducible refine And.intro ?_ ?_ | with_reducible omega | exact ok_ints | exact cells_ints | exact no_mem | with_reducible exact plain_ints | (refine le_maxLen ?_; omega) | (refine za9 ⟨?_,?_⟩) | (simp only [go_sem,Qc,Qb,zb1,zb2,forall_eq]; done)))
   all_goals (first | omega | exact absurd trivial ‹¬True› | skip)
   refine Ok.loopN [48,47,46,45,44,43,42,41,40,39,38,37,36,35,34,33,32,31,30,29,28,27,26,25,24,23,22,21,20,19,18,17,16,15,14,13,12,11,10,9,8,5,4,3] (fun i (w : ByteArray) => [(9,.d (.int .i64 (i : Nat))),(8,.d (.str w))]) (fun _ _ => []) s.size (fun i w => BL w=((BL s).take i).flatMap (one1L d (BL t))) (ByteArray.mk #[]) rfl (Wk.kk) ?_
   rintro R i w hN hE hi hw
   have hwz : w.size<=80 * i:=by
    rw [size_BL,hw]
    have:=flat_len hn ((BL s).take i)
    rw [List.length_take] at this
    have : min i (BL s).length<=i:=Nat.min_le_left _ _
    omega
   by_cases hlt : i < s.size
   . obtain ⟨c,hc⟩ : ∃ c,c=(BL s).getD i 0:=⟨_,rfl⟩
     have e0 : s.data.toList.getD i 0=c:=hc.symm
     have ex:=ext_at hlt
     rw [← hc] at ex
     have hsu : ((BL s).take (i + 1)).flatMap (one1L d (BL t))=BL w++one1L d (BL t) c:=by
      rw [hw,take_succ 0 (BL s) i (by rw [← size_BL]; exact hlt),List.flatMap_append,← hc]
      simp
     have ei : ((i : Nat) : Int) + 1=((i + 1 : Nat) : Int):=by omega
     have zd : (ByteArray.mk #[c]).size=1:=rfl
     by_cases hcd : c=d
     . have hn' : (c.toNat : Int)=(d.toNat : Int):=by rw [hcd]
       rw [one1L,if_pos hcd] at hsu
       simp (disch:=first | omega | decide +kernel) only [e0,l0,t0,hn',Int.toNat_natCast,go_sem,Qa,Qb,Qc,Qd,Qe,↓reduceIte,reduceCtorEq,Qf,Qg,Qh]
       (repeat' (first | ((first | (refine gsel_split (fun q' => ?_) (fun q' => ?_)<;>(have h':=q')<;>(try simp only [za1,za2,Ba,Bb,za3,ne_eq,za4,za5,za6,Ia,Ib,Ic,Ie,Da,Bc,Bh,Be,za7,za8] at h')<;>try (exfalso; omega)) | (have q':=trivial; first | refine hE _ _ ret_ne ?_ | refine hE _ _ exit_ne ?_))<;>(try simp (disch:=first | omega | decide +kernel) only [q',e0,l0,t0,hn',Int.toNat_natCast,go_sem,Qa,Qb,Qc,Qd,Qe,↓reduceIte,reduceCtorEq,Qf,Qg,Qh])<;>clear q') | refine hN _ ?_ ?_ Wk.kk | with_reducible refine And.intro ?_ ?_ | with_reducible omega | exact ok_ints | exact cells_ints | exact no_mem | with_reducible exact plain_ints | (refine le_maxLen ?_; omega) | (refine za9 ⟨?_,?_⟩) | (simp only [go_sem,Qc,Qb,zb1,zb2,forall_eq]; done)))
       all_goals (first | omega | exact absurd trivial ‹¬True› | (refine hN (w++t) _ (by omega) (by rw [BL_app,hsu]) (by refine Wk.auto ?_ ?_<;>simp [extraK,lk,killL,St.kill,wipeO,wipeS,AV.has,AV.hasL,AO.wipe,List.map_set,updSt,insL,dropS,ins,])))
     . have hn' : ¬ (c.toNat : Int)=(d.toNat : Int):=fun h => hcd (toN_eq.1 h)
       rw [one1L,if_neg hcd] at hsu
       simp (disch:=first | omega | decide +kernel) only [e0,l0,t0,hn',ei,ex,zd,Int.toNat_natCast,go_sem,Qa,Qb,Qc,Qd,Qe,↓reduceIte,reduceCtorEq,Qf,Qg,Qh]
       (repeat' (first | ((first | (refine gsel_split (fun q' => ?_) (fun q' => ?_)<;>(have h':=q')<;>(try simp only [za1,za2,Ba,Bb,za3,ne_eq,za4,za5,za6,Ia,Ib,Ic,Ie,Da,Bc,Bh,Be,za7,za8] at h')<;>try (exfalso; omega)) | (have q':=trivial; first | refine hE _ _ ret_ne ?_ | refine hE _ _ exit_ne ?_))<;>(try simp (disch:=first | omega | decide +kernel) only [q',e0,l0,t0,hn',ei,ex,zd,Int.toNat_natCast,go_sem,Qa,Qb,Qc,Qd,Qe,↓reduceIte,reduceCtorEq,Qf,Qg,Qh])<;>clear q') | refine hN _ ?_ ?_ Wk.kk | with_reducible refine And.intro ?_ ?_ | with_reducible omega | exact ok_ints | exact cells_ints | exact no_mem | with_reducible exact plain_ints | (refine le_maxLen ?_; omega) | (refine za9 ⟨?_,?_⟩) | (simp only [go_sem,Qc,Qb,zb1,zb2,forall_eq]; done)))
       all_goals (first | omega | exact absurd trivial ‹¬True› | (refine hN (w++ByteArray.mk #[c]) _ (by omega) (by rw [BL_app,hsu]) (by refine Wk.auto ?_ ?_<;>simp [extraK,lk,killL,St.kill,wipeO,wipeS,AV.has,AV.hasL,AO.wipe,List.map_set,updSt,insL,dropS,ins,])))
   . have hfin2 : out=w:=by
      rw [hfin]
      apply ext_BL
      rw [hw,List.take_of_length_le (by rw [← size_BL]; omega)]
     rw [hfin2] at cg
     simp (disch:=first | omega | decide +kernel) only [go_sem,Qa,Qb,Qc,Qd,Qe,↓reduceIte,reduceCtorEq,Qf,Qg,Qh]
     (repeat' (first | ((first | (refine gsel_split (fun q' => ?_) (fun q' => ?_)<;>(have h':=q')<;>(try simp only [za1,za2,Ba,Bb,za3,ne_eq,za4,za5,za6,Ia,Ib,Ic,Ie,Da,Bc,Bh,Be,za7,za8] at h')<;>try (exfalso; omega)) | (have q':=trivial; first | refine callX_shared (cg) rfl (by decide) ?_ | refine callY_shared (cg) rfl ?_ | refine hE _ _ ret_ne ?_ | refine hE _ _ exit_ne ?_))<;>(try simp (disch:=first | omega | decide +kernel) only [q',go_sem,Qa,Qb,Qc,Qd,Qe,↓reduceIte,reduceCtorEq,Qf,Qg,Qh])<;>clear q') | refine hN _ ?_ ?_ Wk.kk | with_reducible refine And.intro ?_ ?_ | with_reducible omega | exact ok_ints | exact cells_ints | exact no_mem | with_reducible exact plain_ints | (refine le_maxLen ?_; omega) | (refine za9 ⟨?_,?_⟩) | (simp only [go_sem,Qc,Qb,zb1,zb2,forall_eq]; done)))
     all_goals (first | omega | exact absurd trivial ‹¬True› | exact ret_s2 [] rfl rfl)
 . have hw0 : (okS s && okS t && letS l)=false:=by
    rw [Bool.eq_false_iff]; intro h
    simp only [Bc] at h
    exact hg ⟨h.1.1,h.1.2,h.2⟩
   have hG : putG s l t=false:=by rw [putG,hw0]; rfl
   have hS : putS s l t=⟨#[]⟩:=by rw [putS,hG]; rfl
   rw [hS,hG]
   generalize okS s=oa at *
   generalize okS t=ob at *
   generalize letS l=oc at *
   clear hg hG hS
   cases oa<;>cases ob<;>cases oc<;>first
   | exact absurd hw0 (by decide)
   | (refine Ctr.of (n := 49) (rs := [.tmp 6, .tmp 7]) Tryd.func12 rfl rfl Tryd.ntmps12 rfl rfl (by kernel_rfl) Tryd.checked.mixed ?_
      simp (disch:=first | omega | decide +kernel) only [go_sem,Qa,Qb,Qc,Qd,Qe,↓reduceIte,reduceCtorEq,Qf,Qg,Qh]
      (repeat' (first | ((first | (refine gsel_split (fun q' => ?_) (fun q' => ?_)<;>(have h':=q')<;>(try simp only [za1,za2,Ba,Bb,za3,ne_eq,za4,za5,za6,Ia,Ib,Ic,Ie,Da,Bc,Bh,Be,za7,za8] at h')<;>try (exfalso; omega)) | (have q':=trivial; first | refine callX_new (c1) rfl (by decide) ?_ | refine callY_new (c1) rfl ?_ | refine callX_new (c2) rfl (by decide) ?_ | refine callY_new (c2) rfl ?_ | refine callX_new (c3) rfl (by decide) ?_ | refine callY_new (c3) rfl ?_ | refine hE _ _ ret_ne ?_ | refine hE _ _ exit_ne ?_))<;>(try simp (disch:=first | omega | decide +kernel) only [q',go_sem,Qa,Qb,Qc,Qd,Qe,↓reduceIte,reduceCtorEq,Qf,Qg,Qh])<;>clear q') | refine hN _ ?_ ?_ Wk.kk | with_reducible refine And.intro ?_ ?_ | with_reducible omega | exact ok_ints | exact cells_ints | exact no_mem | with_reducible exact plain_ints | (refine le_maxLen ?_; omega) | (refine za9 ⟨?_,?_⟩) | (simp only [go_sem,Qc,Qb,zb1,zb2,forall_eq]; done)))
      all_goals (first | omega | assumption | rfl | exact absurd trivial ‹¬True› | exact ret_s2 [] rfl rfl))
end Abs.Y

namespace Abs.Y
open Go Go.Proofs Abs
open Nat renaming reduceEqDiff -> Qa, reduceLT -> Qb, reduceAdd -> Qc, reduceMul -> Qd, reduceSub -> Qe, reduceLeDiff -> Qf, reduceSubDiff -> Qg, reduceBEq -> Qh
open Bool renaming not_eq_true' -> Ba, not_eq_false' -> Bb, and_eq_true -> Bc, or_eq_true -> Bh, or_eq_false_iff -> Be
open Int renaming ofNat_lt -> Ia, ofNat_le -> Ib, not_lt -> Ic, not_le -> Ie
open Decidable renaming not_not -> Da
set_option maxRecDepth 100000

def Fm.isL : Fm->Bool
 | .lf _ => true
 | .ng _ => false
 | .jn _ _ _ => false
def Fm.nn : Fm->Bool
 | .lf _ => true
 | .ng a => a.isL
 | .jn o a b => decide (o ≠ 62) && a.nn && b.nn
def Fm.cn (d : UInt8) : Bool->Fm->Nat
 | s,.lf c => if s=true∧c=d then 1 else 0
 | s,.ng a => a.cn d (!s)
 | s,.jn _ a b => a.cn d s + b.cn d s
def c2 (d : UInt8) : List UInt8->Nat
 | [] => 0
 | [_] => 0
 | a :: b :: r => if a=126∧b=d then 1 + c2 d r else c2 d (b :: r)
theorem count_skip {sub : List UInt8} (hs : sub ≠ []) {a : UInt8} {l : List UInt8} (h : sub.isPrefixOf (a :: l)=false) : Lib.count (a :: l) sub=Lib.count l sub:=by
 have hi : Lib.index (a :: l) sub=if Lib.index l sub == -1 then -1 else Lib.index l sub + 1:=by
  conv => lhs; unfold Lib.index
  rw [h]; simp
 have hge:=Lib.index_ge l sub
 by_cases hm : Lib.index l sub=-1
 . rw [Lib.count_miss hm,Lib.count_miss (by rw [hi,hm]; rfl)]
 . obtain ⟨i,e⟩ : ∃ i : Nat,Lib.index l sub=i:=⟨(Lib.index l sub).toNat,by omega⟩
   have e' : Lib.index (a :: l) sub=((i + 1 : Nat) : Int):=by
    rw [hi,if_neg (by simpa using hm),e]; rfl
   rw [Lib.count_hit hs e,Lib.count_hit hs e']
   rw [show i + 1 + sub.length=(i + sub.length) + 1 by omega,List.drop_succ_cons]
def stp (d : UInt8) (s : Bool × Bool × Bool) (c : UInt8) : Bool × Bool × Bool:=(decide (c=126),s.2.1 || (decide (c=d) && !s.1),s.2.2 || (decide (c=d) && s.1))
def polF (d : UInt8) (x : Fm) : Int:=if x.cn d true=0 then (if x.cn d false=0 then 0 else -1) else (if x.cn d false=0 then 1 else 2)
theorem repl_one {d : UInt8} (new : List UInt8) : ∀ (n : Nat) (l : List UInt8),l.length<=n->Lib.replaceK [d] new (Lib.count l [d]) l=l.flatMap (one1L d new)
 | _,[],_ => by rw [Lib.count_miss rfl]; rfl
 | 0,_ :: _,h => absurd h (by simp)
 | n + 1, c :: r, h => by
   have h : r.length<=n:=by simpa using h
   rw [List.flatMap_cons]
   by_cases e : c=d
   . subst e
     have hi : Lib.index (c :: r) [c]=((0 : Nat) : Int):=by simp [Lib.index,List.isPrefixOf]
     rw [Lib.count_hit (by simp) hi,Nat.add_comm 1,Lib.replaceK_hit _ _ _ _ _ hi]
     show []++new++Lib.replaceK [c] new (Lib.count r [c]) r=_
     rw [repl_one new n r h,one1L,if_pos rfl]; rfl
   . have hp : List.isPrefixOf [d] (c :: r)=false:=by
      simp only [List.isPrefixOf,Bool.and_true,beq_eq_false_iff_ne]
      exact fun q => e q.symm
     rw [count_skip (by simp) hp,one1L,if_neg e,← repl_one new n r h]
     have hi : Lib.index (c :: r) [d]=if Lib.index r [d] == -1 then -1 else Lib.index r [d] + 1:=by
      conv => lhs; unfold Lib.index
      rw [hp]; simp
     have hge:=Lib.index_ge r [d]
     by_cases hm : Lib.index r [d]=-1
     . rw [Lib.count_miss hm]; rfl
     . obtain ⟨i,ei⟩ : ∃ i : Nat,Lib.index r [d]=i:=⟨(Lib.index r [d]).toNat,by omega⟩
       have ei' : Lib.index (c :: r) [d]=((i + 1 : Nat) : Int):=by
        rw [hi,if_neg (by simpa using hm),ei]; rfl
       rw [Lib.count_hit (by simp) ei,Nat.add_comm 1,Lib.replaceK_hit _ _ _ _ _ ei,Lib.replaceK_hit _ _ _ _ _ ei']
       simp [List.take_succ_cons,Nat.add_right_comm]
theorem one1L_id (d : UInt8) : ∀ l : List UInt8,l.flatMap (one1L d [d])=l
 | [] => rfl
 | c :: r => by
   rw [List.flatMap_cons,one1L_id d r,one1L]
   split
   . rename_i e; rw [e]; rfl
   . rfl
theorem replAll_one (d : UInt8) (new l : List UInt8) : Lib.replaceAll l [d] new=l.flatMap (one1L d new):=by
 rw [Lib.replaceAll,Lib.replace]
 split
 . rename_i h
   rw [← beq_iff_eq.1 h,one1L_id]
 . rw [Lib.replaceNum,if_pos (.inl (by decide))]
   exact repl_one new _ l (Nat.le_refl _)
end Abs.Y

namespace Go.Proofs
open Go.Shelf Go.RowKit Go.Lib
def Tryd.layC_ren : Go.Shelf.Ren:=⟨fun | 138 => 27 | 195 => 56 | 218 => 57 | 143 => 58 | 219 => 75 | 217 => 84 | 225 => 85 | 224 => 86 | 267 => 87 | 266 => 96 | 314 => 97 | n => n,fun | 9 => 9 | 3 => 3 | 4 => 4 | 5 => 5 | 0 => 0 | 46 => 110 | 146 => 118 | 51 => 117 | n => n,fun | 1 => 0 | n => n⟩
def Tryd.layR_ren : Go.Shelf.Ren:=⟨fun | 155 => 36 | 154 => 62 | 138 => 27 | 165 => 77 | 143 => 58 | 166 => 78 | 197 => 79 | 169 => 80 | 195 => 56 | 218 => 57 | 240 => 88 | 241 => 89 | 219 => 75 | 260 => 90 | 276 => 98 | 277 => 99 | 217 => 84 | 225 => 85 | 224 => 86 | 267 => 87 | 266 => 96 | 314 => 97 | n => n,fun | 9 => 9 | 3 => 3 | 4 => 4 | 72 => 100 | 0 => 0 | 76 => 104 | 105 => 106 | 21 => 21 | 5 => 5 | 70 => 98 | 20 => 20 | 37 => 22 | 75 => 103 | 127 => 111 | 164 => 120 | 46 => 110 | 119 => 123 | 139 => 126 | 138 => 125 | 146 => 118 | 51 => 117 | 80 => 50 | n => n,fun | 1 => 0 | 3 => 2 | 4 => 3 | n => n⟩
theorem Tryd.layR : Go.Proofs.Lays.n155 Tryd.prog Tryd.layR_ren:={
 mixed:=by kernel_rfl
 f138:=Tryd.func27.trans (congrArg some (by kernel_rfl))
 f143:=Tryd.func58.trans (congrArg some (by kernel_rfl))
 f154:=Tryd.func62.trans (congrArg some (by kernel_rfl))
 f155:=Tryd.func36.trans (congrArg some (by kernel_rfl))
 f165:=Tryd.func77.trans (congrArg some (by kernel_rfl))
 f166:=Tryd.func78.trans (congrArg some (by kernel_rfl))
 f169:=Tryd.func80.trans (congrArg some (by kernel_rfl))
 f195:=Tryd.func56.trans (congrArg some (by kernel_rfl))
 f197:=Tryd.func79.trans (congrArg some (by kernel_rfl))
 f217:=Tryd.func84.trans (congrArg some (by kernel_rfl))
 f218:=Tryd.func57.trans (congrArg some (by kernel_rfl))
 f219:=Tryd.func75.trans (congrArg some (by kernel_rfl))
 f224:=Tryd.func86.trans (congrArg some (by kernel_rfl))
 f225:=Tryd.func85.trans (congrArg some (by kernel_rfl))
 f240:=Tryd.func88.trans (congrArg some (by kernel_rfl))
 f241:=Tryd.func89.trans (congrArg some (by kernel_rfl))
 f260:=Tryd.func90.trans (congrArg some (by kernel_rfl))
 f266:=Tryd.func96.trans (congrArg some (by kernel_rfl))
 f267:=Tryd.func87.trans (congrArg some (by kernel_rfl))
 f276:=Tryd.func98.trans (congrArg some (by kernel_rfl))
 f277:=Tryd.func99.trans (congrArg some (by kernel_rfl))
 f314:=Tryd.func97.trans (congrArg some (by kernel_rfl))
 t0:=Tryd.underlying0
 a0:=Tryd.isAgg0
 z0:=Tryd.sizeOf0
 v0:=Tryd.zeroValue0
 t3:=Tryd.underlying3
 a3:=Tryd.isAgg3
 z3:=Tryd.sizeOf3
 v3:=Tryd.zeroValue3
 t4:=Tryd.underlying4
 a4:=Tryd.isAgg4
 z4:=Tryd.sizeOf4
 v4:=Tryd.zeroValue4
 t5:=Tryd.underlying5
 a5:=Tryd.isAgg5
 z5:=Tryd.sizeOf5
 v5:=Tryd.zeroValue5
 t9:=Tryd.underlying9
 a9:=Tryd.isAgg9
 z9:=Tryd.sizeOf9
 v9:=Tryd.zeroValue9
 t20:=Tryd.underlying20
 a20:=Tryd.isAgg20
 z20:=Tryd.sizeOf20
 v20:=Tryd.zeroValue20
 t21:=Tryd.underlying21
 a21:=Tryd.isAgg21
 z21:=Tryd.sizeOf21
 v21:=Tryd.zeroValue21
 t37:=Tryd.underlying22
 a37:=Tryd.isAgg22
 z37:=Tryd.sizeOf22
 v37:=Tryd.zeroValue22
 t46:=Tryd.underlying110
 a46:=Tryd.isAgg110
 z46:=Tryd.sizeOf110
 v46:=Tryd.zeroValue110
 t51:=Tryd.underlying117
 a51:=Tryd.isAgg117
 z51:=Tryd.sizeOf117
 v51:=Tryd.zeroValue117
 t70:=Tryd.underlying98
 a70:=Tryd.isAgg98
 z70:=Tryd.sizeOf98
 v70:=Tryd.zeroValue98
 t72:=Tryd.underlying100
 a72:=Tryd.isAgg100
 z72:=Tryd.sizeOf100
 v72:=Tryd.zeroValue100
 t75:=Tryd.underlying103
 a75:=Tryd.isAgg103
 z75:=Tryd.sizeOf103
 v75:=Tryd.zeroValue103
 t76:=Tryd.underlying104
 a76:=Tryd.isAgg104
 z76:=Tryd.sizeOf104
 v76:=Tryd.zeroValue104
 t105:=Tryd.underlying106
 a105:=Tryd.isAgg106
 z105:=Tryd.sizeOf106
 v105:=Tryd.zeroValue106
 t119:=Tryd.underlying123
 a119:=Tryd.isAgg123
 z119:=Tryd.sizeOf123
 t127:=Tryd.underlying111
 a127:=Tryd.isAgg111
 z127:=Tryd.sizeOf111
 v127:=Tryd.zeroValue111
 t138:=Tryd.underlying125
 a138:=Tryd.isAgg125
 z138:=Tryd.sizeOf125
 v138:=Tryd.zeroValue125
 t139:=Tryd.underlying126
 a139:=Tryd.isAgg126
 z139:=Tryd.sizeOf126
 v139:=Tryd.zeroValue126
 t146:=Tryd.underlying118
 a146:=Tryd.isAgg118
 z146:=Tryd.sizeOf118
 v146:=Tryd.zeroValue118
 t164:=Tryd.underlying120
 a164:=Tryd.isAgg120
 z164:=Tryd.sizeOf120
 v164:=Tryd.zeroValue120
 g1:=by kernel_rfl
 g3:=by kernel_rfl
 g4:=by kernel_rfl }
theorem Tryd.extraR : Builder.Extra Tryd.prog Tryd.layR_ren where
 sizeBuilder:=by kernel_rfl
 liesBuilder:=by kernel_rfl
 t5:=Tryd.underlying5
 a5:=Tryd.isAgg5
 z5:=Tryd.sizeOf5
 v5:=Tryd.zeroValue5
 infoByte:=by kernel_rfl
 cellsByte:=by kernel_rfl
 sizeByte:=by kernel_rfl
 neB5:=by decide
theorem Tryd.repl_w (s old new : ByteArray) (m : Int) (w : World) (hs : s.size < 4294967281) (hm : w.cell? ⟨0,0,none⟩=some (.int .i64 m)) (h1 : 1<=old.size) (hlen : s.size + Lib.countB s old * new.size<=140737488355328) :
 Calls Tryd.prog 36 #[.string s,.string old,.string new] w fun e w' => e=.returned (.string ⟨(Lib.replaceAll s.data.toList old.data.toList new.data.toList).toArray⟩)∧Below w.heap.size w w' :=
 Any.strings_ReplaceAll Tryd.layR Tryd.extraR s old new m w hs hm h1 hlen
end Go.Proofs

namespace Abs.Y
open Go Go.Proofs Abs
open Nat renaming reduceEqDiff -> Qa, reduceLT -> Qb, reduceAdd -> Qc, reduceMul -> Qd, reduceSub -> Qe, reduceLeDiff -> Qf, reduceSubDiff -> Qg, reduceBEq -> Qh
open Bool renaming not_eq_true' -> Ba, not_eq_false' -> Bb, and_eq_true -> Bc, or_eq_true -> Bh, or_eq_false_iff -> Be
open Int renaming ofNat_lt -> Ia, ofNat_le -> Ib, not_lt -> Ic, not_le -> Ie
open Decidable renaming not_not -> Da
set_option maxRecDepth 100000

theorem ReplaceAll_ok (s t : ByteArray) (d : UInt8) (hs : s.size<=1000000) (ht : t.size<=1000000) : Ctr Tryd.prog 36 [.str s,.str ⟨#[d]⟩,.str t] false (.d (.str ⟨((BL s).flatMap (one1L d (BL t))).toArray⟩)) []:=by
 refine ⟨⟨_,Tryd.func36,by kernel_rfl,by kernel_rfl⟩,fun S w vs hl hr hG => ?_⟩
 obtain ⟨v,v',v'',rfl⟩ : ∃ v v' v'',vs=[v,v',v'']:=by
  match vs,hl with
  | [a,b,c],_ => exact ⟨a,b,c,rfl⟩
 have h:=hr 0 (by simp)
 have h':=hr 1 (by simp)
 have h'':=hr 2 (by simp)
 simp only [List.getD_cons_zero,List.getD_cons_succ] at h h' h''
 cases h
 cases h'
 cases h''
 obtain ⟨m,hm⟩:=hG.it 0 (List.mem_singleton.2 rfl)
 have hlen : s.size + Lib.countB s ⟨#[d]⟩ * t.size<=140737488355328:=by
  have h1 : Lib.countB s ⟨#[d]⟩<=s.size + 1:=Lib.count_le _ _
  have h2 : Lib.countB s ⟨#[d]⟩ * t.size<=1000001 * 1000000:=Nat.mul_le_mul (by omega) ht
  omega
 refine (Tryd.repl_w s ⟨#[d]⟩ t m w (by omega) hm (show 1<=1 from Nat.le_refl _) hlen).mono fun en w' ⟨he,hb⟩ => ⟨_,he,?_,?_⟩
 . exact ⟨hb.os,hb.tape,hb.output,hb.size,hb.size,fun g hg _ => hb.block g hg,Nat.le_refl _⟩
 . rw [show Lib.replaceAll s.data.toList (ByteArray.mk #[d]).data.toList t.data.toList=(BL s).flatMap (one1L d (BL t)) from replAll_one d (BL t) (BL s)]
   exact ⟨fun _ => Go.undef,fun _ _ => False,.d (.str _),fun j o hj => by simp [lk] at hj,fun j o g hj => by simp [lk] at hj,fun j j' o o' g hj hj' => by simp [lk] at hj⟩
theorem letS_sp {l : ByteArray} (h : letS l=true) : ∃ d,l=⟨#[d]⟩∧isLet d=true∧(BL l).getD 0 0=d:=by
 rw [letS,Bc,decide_eq_true_eq] at h
 obtain ⟨h1,h2⟩:=h
 obtain ⟨d,hd⟩ : ∃ d,BL l=[d]:=List.length_eq_one_iff.1 (by rw [← size_BL]; exact h1)
 refine ⟨d,ext_BL (by rw [hd]),?_,by rw [hd]; rfl⟩
 rw [hd] at h2; exact h2
set_option maxHeartbeats 8000000 in
theorem PutFormula_ok (s l t : ByteArray) (hs : s.size<=100000) (hl : l.size<=100000) (ht : t.size<=100000) :
 Ctr Tryd.prog 11 [.str s,.str l,.str t] true (.tup [.d (.str (putS s l t)),.d (.bool (putG s l t))]) []:=by
 have c1:=IsFormula_ok s (by omega)
 have c2:=IsFormula_ok t (by omega)
 have cl:=isLetter_ok ((BL l).getD 0 0)
 have t0 : Int.toNat 0=0:=rfl
 by_cases hg : okS s=true∧okS t=true∧letS l=true
 . obtain ⟨os,ot,ol⟩:=hg
   rw [os] at c1
   rw [ot] at c2
   obtain ⟨d,rfl,hd,hdd⟩:=letS_sp ol
   rw [hdd,hd] at cl
   have hs8:=(okS_spec os).2.2
   have ht8:=(okS_spec ot).2.2
   have hw:=one1_wf (d:=d) (okS_spec ot).1 (fmS s) (okS_spec os).1
   have htl:=one1_tl d hd (fmS t) (fmS s) (okS_spec os).1
   rw [← okS_bl os,← okS_bl ot] at htl
   have c3:=ReplaceAll_ok s t d (by omega) (by omega)
   have hF : putF s ⟨#[d]⟩ t=(fmS s).sub (one1 d (fmS t)):=rfl
   have hT : (⟨((BL s).flatMap (one1L d (BL t))).toArray⟩ : ByteArray)=(putF s ⟨#[d]⟩ t).T:=ext_BL htl
   rw [hT] at c3
   have hG : putG s ⟨#[d]⟩ t=decide ((putF s ⟨#[d]⟩ t).T.size<=80):=by rw [putG,os,ot,ol]; rfl
   rw [putS,hG]
   generalize (putF s ⟨#[d]⟩ t).T=out at *
   have hz : (ByteArray.mk #[d]).size=1:=rfl
   have e0 : (ByteArray.mk #[d]).data.toList.getD 0 0=d:=rfl
   by_cases ho : out.size<=80
   . rw [decide_eq_true ho,if_pos rfl]
     refine Ctr.of (n:=36) (rs:=[.tmp 6,.tmp 7]) Tryd.func11 rfl rfl Tryd.ntmps11 rfl rfl (by kernel_rfl) Tryd.checked.mixed ?_
     simp (disch:=first | omega | decide +kernel) only [hz,e0,t0,go_sem,Qa,Qb,Qc,Qd,Qe,↓reduceIte,reduceCtorEq,Qf,Qg,Qh]
     (repeat' (first | ((first | (refine gsel_split (fun q' => ?_) (fun q' => ?_)<;>(have h':=q')<;>(try simp only [za1,za2,Ba,Bb,za3,ne_eq,za4,za5,za6,Ia,Ib,Ic,Ie,Da,Bc,Bh,Be,za7,za8] at h')<;>try (exfalso; omega)) | (have q':=trivial; first | refine callX_new (c1) rfl (by decide) ?_ | refine callY_new (c1) rfl ?_ | refine callX_new (c2) rfl (by decide) ?_ | refine callY_new (c2) rfl ?_ | refine callX_new (cl) rfl (by decide) ?_ | refine callY_new (cl) rfl ?_ | refine callX_new (c3) rfl (by decide) ?_ | refine callY_new (c3) rfl ?_ | refine hE _ _ ret_ne ?_ | refine hE _ _ exit_ne ?_))<;>(try simp (disch:=first | omega | decide +kernel) only [q',hz,e0,t0,go_sem,Qa,Qb,Qc,Qd,Qe,↓reduceIte,reduceCtorEq,Qf,Qg,Qh])<;>clear q') | refine hN _ ?_ ?_ Wk.kk | with_reducible refine And.intro ?_ ?_ | with_reducible omega | exact ok_ints | exact cells_ints | exact no_mem | with_reducible exact plain_ints | (refine le_maxLen ?_; omega) | (refine za9 ⟨?_,?_⟩) | (simp only [go_sem,Qc,Qb,zb1,zb2,forall_eq]; done)))
     all_goals (first | omega | assumption | rfl | exact absurd trivial ‹¬True› | exact ret_s2 [] rfl rfl)
   . rw [decide_eq_false ho,if_neg (by simp)]
     refine Ctr.of (n:=36) (rs:=[.tmp 6,.tmp 7]) Tryd.func11 rfl rfl Tryd.ntmps11 rfl rfl (by kernel_rfl) Tryd.checked.mixed ?_
     simp (disch:=first | omega | decide +kernel) only [hz,e0,t0,go_sem,Qa,Qb,Qc,Qd,Qe,↓reduceIte,reduceCtorEq,Qf,Qg,Qh]
     (repeat' (first | ((first | (refine gsel_split (fun q' => ?_) (fun q' => ?_)<;>(have h':=q')<;>(try simp only [za1,za2,Ba,Bb,za3,ne_eq,za4,za5,za6,Ia,Ib,Ic,Ie,Da,Bc,Bh,Be,za7,za8] at h')<;>try (exfalso; omega)) | (have q':=trivial; first | refine callX_new (c1) rfl (by decide) ?_ | refine callY_new (c1) rfl ?_ | refine callX_new (c2) rfl (by decide) ?_ | refine callY_new (c2) rfl ?_ | refine callX_new (cl) rfl (by decide) ?_ | refine callY_new (cl) rfl ?_ | refine callX_new (c3) rfl (by decide) ?_ | refine callY_new (c3) rfl ?_ | refine hE _ _ ret_ne ?_ | refine hE _ _ exit_ne ?_))<;>(try simp (disch:=first | omega | decide +kernel) only [q',hz,e0,t0,go_sem,Qa,Qb,Qc,Qd,Qe,↓reduceIte,reduceCtorEq,Qf,Qg,Qh])<;>clear q') | refine hN _ ?_ ?_ Wk.kk | with_reducible refine And.intro ?_ ?_ | with_reducible omega | exact ok_ints | exact cells_ints | exact no_mem | with_reducible exact plain_ints | (refine le_maxLen ?_; omega) | (refine za9 ⟨?_,?_⟩) | (simp only [go_sem,Qc,Qb,zb1,zb2,forall_eq]; done)))
     all_goals (first | omega | assumption | rfl | exact absurd trivial ‹¬True› | exact ret_s2 [] rfl rfl)
 . have hG : putG s l t=false:=by
    rw [putG]
    cases h1 : okS s with
    | false => rfl
    | true =>
      cases h2 : okS t with
      | false => rfl
      | true =>
        cases h3 : letS l with
        | false => rfl
        | true => exact absurd ⟨h1,h2,h3⟩ hg
   rw [putS,hG,if_neg (by simp)]
   cases h1 : okS s with
   | false =>
     rw [h1] at c1
     refine Ctr.of (n:=36) (rs:=[.tmp 6,.tmp 7]) Tryd.func11 rfl rfl Tryd.ntmps11 rfl rfl (by kernel_rfl) Tryd.checked.mixed ?_
     simp (disch:=first | omega | decide +kernel) only [go_sem,Qa,Qb,Qc,Qd,Qe,↓reduceIte,reduceCtorEq,Qf,Qg,Qh]
     (repeat' (first | ((first | (refine gsel_split (fun q' => ?_) (fun q' => ?_)<;>(have h':=q')<;>(try simp only [za1,za2,Ba,Bb,za3,ne_eq,za4,za5,za6,Ia,Ib,Ic,Ie,Da,Bc,Bh,Be,za7,za8] at h')<;>try (exfalso; omega)) | (have q':=trivial; first | refine callX_new (c1) rfl (by decide) ?_ | refine callY_new (c1) rfl ?_ | refine hE _ _ ret_ne ?_ | refine hE _ _ exit_ne ?_))<;>(try simp (disch:=first | omega | decide +kernel) only [q',go_sem,Qa,Qb,Qc,Qd,Qe,↓reduceIte,reduceCtorEq,Qf,Qg,Qh])<;>clear q') | refine hN _ ?_ ?_ Wk.kk | with_reducible refine And.intro ?_ ?_ | with_reducible omega | exact ok_ints | exact cells_ints | exact no_mem | with_reducible exact plain_ints | (refine le_maxLen ?_; omega) | (refine za9 ⟨?_,?_⟩) | (simp only [go_sem,Qc,Qb,zb1,zb2,forall_eq]; done)))
     all_goals (first | omega | assumption | rfl | exact absurd trivial ‹¬True› | exact ret_s2 [] rfl rfl)
   | true =>
     rw [h1] at c1
     cases h2 : okS t with
     | false =>
       rw [h2] at c2
       refine Ctr.of (n:=36) (rs:=[.tmp 6,.tmp 7]) Tryd.func11 rfl rfl Tryd.ntmps11 rfl rfl (by kernel_rfl) Tryd.checked.mixed ?_
       simp (disch:=first | omega | decide +kernel) only [go_sem,Qa,Qb,Qc,Qd,Qe,↓reduceIte,reduceCtorEq,Qf,Qg,Qh]
       (repeat' (first | ((first | (refine gsel_split (fun q' => ?_) (fun q' => ?_)<;>(have h':=q')<;>(try simp only [za1,za2,Ba,Bb,za3,ne_eq,za4,za5,za6,Ia,Ib,Ic,Ie,Da,Bc,Bh,Be,za7,za8] at h')<;>try (exfalso; omega)) | (have q':=trivial; first | refine callX_new (c1) rfl (by decide) ?_ | refine callY_new (c1) rfl ?_ | refine callX_new (c2) rfl (by decide) ?_ | refine callY_new (c2) rfl ?_ | refine hE _ _ ret_ne ?_ | refine hE _ _ exit_ne ?_))<;>(try simp (disch:=first | omega | decide +kernel) only [q',go_sem,Qa,Qb,Qc,Qd,Qe,↓reduceIte,reduceCtorEq,Qf,Qg,Qh])<;>clear q') | refine hN _ ?_ ?_ Wk.kk | with_reducible refine And.intro ?_ ?_ | with_reducible omega | exact ok_ints | exact cells_ints | exact no_mem | with_reducible exact plain_ints | (refine le_maxLen ?_; omega) | (refine za9 ⟨?_,?_⟩) | (simp only [go_sem,Qc,Qb,zb1,zb2,forall_eq]; done)))
       all_goals (first | omega | assumption | rfl | exact absurd trivial ‹¬True› | exact ret_s2 [] rfl rfl)
     | true =>
       rw [h2] at c2
       have h3 : ¬ letS l=true:=fun h3 => hg ⟨h1,h2,h3⟩
       by_cases hz : l.size=1
       . have hL : isLet ((BL l).getD 0 0)=false:=by
          rw [letS,decide_eq_true hz,Bool.true_and] at h3
          simpa using h3
         rw [hL] at cl
         obtain ⟨d,hd⟩ : ∃ d,d=(BL l).getD 0 0:=⟨_,rfl⟩
         rw [← hd] at cl
         have e0 : l.data.toList.getD 0 0=d:=hd.symm
         refine Ctr.of (n:=36) (rs:=[.tmp 6,.tmp 7]) Tryd.func11 rfl rfl Tryd.ntmps11 rfl rfl (by kernel_rfl) Tryd.checked.mixed ?_
         simp (disch:=first | omega | decide +kernel) only [hz,e0,t0,go_sem,Qa,Qb,Qc,Qd,Qe,↓reduceIte,reduceCtorEq,Qf,Qg,Qh]
         (repeat' (first | ((first | (refine gsel_split (fun q' => ?_) (fun q' => ?_)<;>(have h':=q')<;>(try simp only [za1,za2,Ba,Bb,za3,ne_eq,za4,za5,za6,Ia,Ib,Ic,Ie,Da,Bc,Bh,Be,za7,za8] at h')<;>try (exfalso; omega)) | (have q':=trivial; first | refine callX_new (c1) rfl (by decide) ?_ | refine callY_new (c1) rfl ?_ | refine callX_new (c2) rfl (by decide) ?_ | refine callY_new (c2) rfl ?_ | refine callX_new (cl) rfl (by decide) ?_ | refine callY_new (cl) rfl ?_ | refine hE _ _ ret_ne ?_ | refine hE _ _ exit_ne ?_))<;>(try simp (disch:=first | omega | decide +kernel) only [q',hz,e0,t0,go_sem,Qa,Qb,Qc,Qd,Qe,↓reduceIte,reduceCtorEq,Qf,Qg,Qh])<;>clear q') | refine hN _ ?_ ?_ Wk.kk | with_reducible refine And.intro ?_ ?_ | with_reducible omega | exact ok_ints | exact cells_ints | exact no_mem | with_reducible exact plain_ints | (refine le_maxLen ?_; omega) | (refine za9 ⟨?_,?_⟩) | (simp only [go_sem,Qc,Qb,zb1,zb2,forall_eq]; done)))
         all_goals (first | omega | assumption | rfl | exact absurd trivial ‹¬True› | exact ret_s2 [] rfl rfl)
       . refine Ctr.of (n:=36) (rs:=[.tmp 6,.tmp 7]) Tryd.func11 rfl rfl Tryd.ntmps11 rfl rfl (by kernel_rfl) Tryd.checked.mixed ?_
         simp (disch:=first | omega | decide +kernel) only [go_sem,Qa,Qb,Qc,Qd,Qe,↓reduceIte,reduceCtorEq,Qf,Qg,Qh]
         (repeat' (first | ((first | (refine gsel_split (fun q' => ?_) (fun q' => ?_)<;>(have h':=q')<;>(try simp only [za1,za2,Ba,Bb,za3,ne_eq,za4,za5,za6,Ia,Ib,Ic,Ie,Da,Bc,Bh,Be,za7,za8] at h')<;>try (exfalso; omega)) | (have q':=trivial; first | refine callX_new (c1) rfl (by decide) ?_ | refine callY_new (c1) rfl ?_ | refine callX_new (c2) rfl (by decide) ?_ | refine callY_new (c2) rfl ?_ | refine hE _ _ ret_ne ?_ | refine hE _ _ exit_ne ?_))<;>(try simp (disch:=first | omega | decide +kernel) only [q',go_sem,Qa,Qb,Qc,Qd,Qe,↓reduceIte,reduceCtorEq,Qf,Qg,Qh])<;>clear q') | refine hN _ ?_ ?_ Wk.kk | with_reducible refine And.intro ?_ ?_ | with_reducible omega | exact ok_ints | exact cells_ints | exact no_mem | with_reducible exact plain_ints | (refine le_maxLen ?_; omega) | (refine za9 ⟨?_,?_⟩) | (simp only [go_sem,Qc,Qb,zb1,zb2,forall_eq]; done)))
         all_goals (first | omega | assumption | rfl | exact absurd trivial ‹¬True› | exact ret_s2 [] rfl rfl)
end Abs.Y

namespace Abs.Y
open Go Go.Proofs Abs
open Nat renaming reduceEqDiff -> Qa, reduceLT -> Qb, reduceAdd -> Qc, reduceMul -> Qd, reduceSub -> Qe, reduceLeDiff -> Qf, reduceSubDiff -> Qg, reduceBEq -> Qh
open Bool renaming not_eq_true' -> Ba, not_eq_false' -> Bb, and_eq_true -> Bc, or_eq_true -> Bh, or_eq_false_iff -> Be
open Int renaming ofNat_lt -> Ia, ofNat_le -> Ib, not_lt -> Ic, not_le -> Ie
open Decidable renaming not_not -> Da
set_option maxRecDepth 100000

noncomputable def caseF (k : Int) (a b c : ByteArray) : Fm:=(sch (k - 1).toNat).sub (f3 (fmS a) (fmS b) (fmS c))
noncomputable def caseG (k : Int) (a b c : ByteArray) : Bool:=decide (1<=k) && decide (k<=10) && okS a && okS b && okS c && decide ((caseF k a b c).T.size<=80)
noncomputable def caseS (k : Int) (a b c : ByteArray) : ByteArray:=if caseG k a b c then (caseF k a b c).T else ⟨#[]⟩
noncomputable def schS (k : Int) : ByteArray:=if 1<=k∧k<=10 then (sch (k - 1).toNat).T else ⟨#[]⟩
end Abs.Y
