/- What functions of this program compute, over plain data. No condition. -/
import Derived.Test.YtndjinajjejmlaaAbsAny8
import Derived.Test.YtndjinajjejmlaaAbsReg8
set_option linter.all false
namespace Abs.Y
open Go Go.Proofs Abs
open Nat renaming reduceEqDiff -> Qa, reduceLT -> Qb, reduceAdd -> Qc, reduceMul -> Qd, reduceSub -> Qe, reduceLeDiff -> Qf, reduceSubDiff -> Qg, reduceBEq -> Qh
open Bool renaming not_eq_true' -> Ba, not_eq_false' -> Bb, and_eq_true -> Bc, or_eq_true -> Bh, or_eq_false_iff -> Be
open Int renaming ofNat_lt -> Ia, ofNat_le -> Ib, not_lt -> Ic, not_le -> Ie
open Decidable renaming not_not -> Da
set_option maxRecDepth 100000

theorem pEd0 : places Try.prog 55 0=some (0,1):=by kernel_rfl
theorem pEd1 : places Try.prog 55 1=some (1,1):=by kernel_rfl
attribute [go_sem] pEd0 pEd1
theorem okE1 (e : Int × Int) : D.ok 2 (D.agg [D.int .i64 e.1,D.int .i64 e.2]):=okE (l:=[e]) (.head _)
theorem min_if (p q : Int) : (if q < p then q else p)=min p q:=by rw [Int.min_def]; split<;>split<;>omega
theorem max_if (p q : Int) : (if q > p then q else p)=max p q:=by rw [Int.max_def]; split<;>split<;>omega
theorem to_ok (a b v : Int) (hv : 0<=v∧v<=100) : Ctr Try.prog 24 [.int .i64 v,.ptr (.int .i64 b),.ptr (.int .i64 a)] false (.d (.int .i64 (mV a b v))) []:=by
 unfold mV
 refine Ctr.of (n:=17) (rs:=[.tmp 4]) Try.func24 rfl rfl Try.ntmps24 rfl rfl (by kernel_rfl) Try.checked.mixed ?_
 simp (disch:=first | omega | decide +kernel) only [go_sem,Qa,Qb,Qc,Qd,Qe,↓reduceIte,reduceCtorEq,Qf,Qg,Qh]
 (repeat' (first | ((first | (refine gsel_split (fun q' => ?_) (fun q' => ?_)<;>(have h':=q')<;>(try simp only [za1,za2,Ba,Bb,za3,ne_eq,za4,za5,za6,Ia,Ib,Ic,Ie,Da,Bc,Bh,Be,za7,za8] at h')<;>try (exfalso; omega)))<;>(try simp (disch:=first | omega | decide +kernel) only [q',go_sem,Qa,Qb,Qc,Qd,Qe,↓reduceIte,reduceCtorEq,Qf,Qg,Qh])<;>clear q') | with_reducible refine And.intro ?_ ?_ | with_reducible omega | exact no_mem | (refine le_maxLen ?_; omega) | (refine za9 ⟨?_,?_⟩) | (simp only [go_sem,Qc,Qb,zb1,zb2,forall_eq]; done)))
 all_goals (first | rfl | (rw [if_pos (by omega)]) | (rw [if_neg (by omega),if_pos (by omega)]) | (rw [if_neg (by omega),if_neg (by omega)]))
theorem withoutZ_ok (cs : List Int) (a : Int) (i : Nat) (ha : a=i) (hi : i < cs.length) (hn : cs.length<=1048576) :
 Ctr Try.prog 25 [.slice (cs.map (.int .i64)),.int .i64 a] false (.sl 0) [(0,.arr 3 1 ((cs.take i++cs.drop (i + 1)).map (.int .i64)))]:=by
 subst ha
 have c1:=clone_ok cs (by omega)
 simp only [D.ints] at c1
 have c2:=deleteZ_ok cs i i ((i : Int) + 1) rfl rfl hi (by omega)
 refine Ctr.of (n:=11) (rs:=[.tmp 4]) Try.func25 rfl rfl Try.ntmps25 rfl rfl (by kernel_rfl) Try.checked.mixed ?_
 simp (disch:=first | omega | decide +kernel) only [go_sem,Qa,Qb,Qc,Qd,Qe,↓reduceIte,reduceCtorEq,Qf,Qg,Qh]
 (repeat' (first | ((first | (refine gsel_split (fun q' => ?_) (fun q' => ?_)<;>(have h':=q')<;>(try simp only [za1,za2,Ba,Bb,za3,ne_eq,za4,za5,za6,Ia,Ib,Ic,Ie,Da,Bc,Bh,Be,za7,za8] at h')) | (have q':=trivial; first | refine callX_new (c1) rfl (by decide) ?_ | refine callY_new (c1) rfl ?_))<;>(try simp (disch:=first | omega | decide +kernel) only [q',go_sem,Qa,Qb,Qc,Qd,Qe,↓reduceIte,reduceCtorEq,Qf,Qg,Qh])<;>clear q') | refine hN _ ?_ ?_ Wk.kk | with_reducible refine And.intro ?_ ?_ | with_reducible omega | exact ok_ints | exact cells_ints | exact no_mem | with_reducible exact plain_ints | (refine le_maxLen ?_; omega) | (refine za9 ⟨?_,?_⟩) | (simp only [go_sem,Qc,Qb,zb1,zb2,forall_eq]; done)))
 refine callX_mut [700000] [1100000] [700000,1100000] c2 ⟨.inl rfl,.inl rfl,.inl rfl,trivial⟩ ⟨rfl,trivial⟩ rfl (by simp [dstB]) ?_
 simp (disch:=first | omega | decide +kernel) only [go_sem,Qa,Qb,Qc,Qd,Qe,↓reduceIte,reduceCtorEq,Qf,Qg,Qh]
 exact ret_sl 1100000 rfl rfl plain_ints
theorem mergeE_succ {a b : Int} {ed : List (Int × Int)} {i : Nat} (h : i < ed.length) : mergeE a b (ed.take (i + 1))=if mV a b (ed.getD i (0,0)).1=mV a b (ed.getD i (0,0)).2 then mergeE a b (ed.take i) else mergeE a b (ed.take i)++[mE a b (ed.getD i (0,0))]:=by
 unfold mergeE
 rw [take_succ (0,0) ed i h,List.filter_append,List.map_append,List.filter_cons,List.filter_nil]
 generalize ed.getD i (0,0)=x
 by_cases e : mV a b x.1=mV a b x.2
 . rw [if_pos e,if_neg (by simp [e])]; simp
 . rw [if_neg e,if_pos (by simp [e])]; rfl
theorem mergeE_len {a b : Int} {ed : List (Int × Int)} : (mergeE a b ed).length<=ed.length:=by
 unfold mergeE; rw [List.length_map]; exact List.length_filter_le _ _
theorem mergeC_set {a b : Nat} {ch : List Int} (hab : a < b) (hb : b < ch.length) (hq : ∀ i,i < ch.length->0<=ch.getD i 0∧ch.getD i 0<=1) :
 (ch.take b++ch.drop (b + 1)).set a (Int.tmod (ch.getD a 0 + ch.getD b 0) 2)=mergeC a b ch:=by
 have h1:=hq a (by omega)
 have h2:=hq b (by omega)
 rw [Int.tmod_eq_emod_of_nonneg (by omega)]
 apply List.ext_getElem?
 intro i
 unfold mergeC
 rw [List.getElem?_map,List.getElem?_set]
 by_cases hi : i < ch.length - 1
 . rw [List.getElem?_range hi]
   simp only [Option.map_some]
   by_cases e : a=i
   . subst e
     rw [if_pos rfl,if_pos (by simp; omega),if_pos rfl]
   . rw [if_neg e,if_neg (fun h => e h.symm)]
     unfold delN
     by_cases hib : i < b
     . rw [if_pos hib,List.getElem?_append_left (by simp; omega),List.getElem?_take,if_pos hib,List.getD_eq_getElem?_getD,List.getElem?_eq_getElem (by omega)]; rfl
     . rw [if_neg hib,List.getElem?_append_right (by simp; omega),List.getElem?_drop,List.length_take,Nat.min_eq_left (by omega),show b + 1 + (i - b)=i + 1 by omega,List.getD_eq_getElem?_getD,List.getElem?_eq_getElem (by omega)]; rfl
 . have e1 : (List.range (ch.length - 1))[i]? = none:=List.getElem?_eq_none (by simp; omega)
   rw [e1]
   by_cases e : a=i
   . omega
   . rw [if_neg e,List.getElem?_eq_none (by simp; omega)]; rfl
def mrB (g : Chg) (k : Int) : Bool:=edB g k && goodC (mergeG g k.toNat)
def mrG (g : Chg) (k : Int) : Chg:=if mrB g k then mergeG g k.toNat else zC
set_option maxHeartbeats 4000000 in
theorem mergeI_yes (g : Chg) (k : Int) (hb : edB g k=true) : Ctr Try.prog 9 [D.chg g,.int .i64 k] true (.tup [.d (D.chg (mrG g k)),.d (.bool (mrB g k))]) []:=by
 obtain ⟨hb1,hb2⟩:=Bool.and_eq_true_iff.1 hb
 have hg:=good_iff.1 hb1
 have hk:=inE_lt hb2
 have hn:=hg.n1
 have hm:=hg.m
 have hcl:=hg.c
 have c1:=isCharged_ok g (by omega) (by omega)
 have c2:=isEdge_ok g k (by omega)
 rw [hb1] at c1
 rw [hb2] at c2
 have he:=hg.e _ (getD_mem (z:=((0 : Int),(0 : Int))) hk.2)
 have hall:=fun e he => hg.e e he
 have hq:=hg.q
 have hek:=el_eds (xs:=g.ed) hk.2
 have hmg : mergeG g k.toNat=⟨g.n - 1,mergeE (g.ed.getD k.toNat (0,0)).1 (g.ed.getD k.toNat (0,0)).2 g.ed,mergeC (g.ed.getD k.toNat (0,0)).1.toNat (g.ed.getD k.toNat (0,0)).2.toNat g.ch⟩:=rfl
 unfold mrG mrB
 rw [hb,Bool.true_and,hmg]
 clear hmg
 generalize g.ed.getD k.toNat (0,0)=e at *
 obtain ⟨a,b⟩:=e
 simp only at he hek ⊢
 have hsa : (g.ch.take b.toNat++g.ch.drop (b.toNat + 1)).set a.toNat (Int.tmod (g.ch.getD a.toNat 0 + g.ch.getD b.toNat 0) 2)=mergeC a.toNat b.toNat g.ch:=mergeC_set (by omega) (by omega) (fun i hi => hq i (by omega))
 have hwl : (g.ch.take b.toNat++g.ch.drop (b.toNat + 1)).length=g.ch.length - 1:=by simp; omega
 have hmcl : (mergeC a.toNat b.toNat g.ch).length=g.ch.length - 1:=by unfold mergeC; simp
 have c3:=withoutZ_ok g.ch b b.toNat (by omega) (by omega) (by omega)
 have hea:=el_ints (xs:=g.ch) (i:=a.toNat) (by omega)
 have heb:=el_ints (xs:=g.ch) (i:=b.toNat) (by omega)
 have hec : (el (List.map D.ed g.ed) k.toNat).cells.length=2:=by rw [hek]; rfl
 have hg1 : [D.int .i64 a,D.int .i64 b].getD (Int.toNat 1 * 1) .nilptr=.int .i64 b:=rfl
 have hqa:=hq a.toNat (by omega)
 have hqb:=hq b.toNat (by omega)
 generalize g.ch.getD a.toNat 0=qa at *
 generalize g.ch.getD b.toNat 0=qb at *
 generalize g.ch.take b.toNat++g.ch.drop (b.toNat + 1)=W at *
 have cG:=isCharged_ok ⟨g.n - 1,mergeE a b g.ed,mergeC a.toNat b.toNat g.ch⟩ (by have:=mergeE_len (a:=a) (b:=b) (ed:=g.ed); show (mergeE a b g.ed).length<=_; omega) (by show (mergeC a.toNat b.toNat g.ch).length<=_; omega)
 generalize goodC ⟨g.n - 1,mergeE a b g.ed,mergeC a.toNat b.toNat g.ch⟩=B at *
 obtain ⟨RR,hR⟩ : ∃ R : Chg,R=(if B=true then ⟨g.n - 1,mergeE a b g.ed,mergeC a.toNat b.toNat g.ch⟩ else zC):=⟨_,rfl⟩
 rw [← hR]
 have hz : mergeE a b []=[]:=rfl
 have hset : (W.map (D.int .i64)).set a.toNat (.int .i64 (Int.tmod (qa + qb) 2))=(mergeC a.toNat b.toNat g.ch).map (.int .i64):=by rw [← List.map_set,hsa]
 simp only [D.chg,D.ints] at c1 c2 cG
 refine Ctr.ofK (n:=97) (rs:=[.cell 4 27,.tmp 5]) Try.func9 rfl rfl Try.ntmps9 rfl rfl (by kernel_rfl) Try.checked.mixed ?_
 refine Ok.seq (Ok.go ?_)
 simp (disch:=first | omega | decide +kernel) only [D.chg,D.ints,go_sem,Qa,Qb,Qc,Qd,Qe,↓reduceIte,reduceCtorEq,Qf,Qg,Qh]
 (repeat' (first | ((first | (refine gsel_split (fun q' => ?_) (fun q' => ?_)<;>(have h':=q')<;>(try simp only [za1,za2,Ba,Bb,za3,ne_eq,za4,za5,za6,Ia,Ib,Ic,Ie,Da,Bc,Bh,Be,za7,za8] at h')<;>try (exfalso; omega)))<;>(try simp (disch:=first | omega | decide +kernel) only [q',go_sem,Qa,Qb,Qc,Qd,Qe,↓reduceIte,reduceCtorEq,Qf,Qg,Qh])<;>clear q') | with_reducible refine And.intro ?_ ?_ | with_reducible omega | exact no_mem | (refine le_maxLen ?_; omega) | (refine za9 ⟨?_,?_⟩) | (simp only [go_sem,Qc,Qb,zb1,zb2,forall_eq]; done)))
 refine Ok.seq (Ok.go ?_)
 simp (disch:=first | omega | decide +kernel) only [go_sem,Qa,Qb,Qc,Qd,Qe,↓reduceIte,reduceCtorEq,Qf,Qg,Qh]
 (repeat' (first | ((first | (refine gsel_split (fun q' => ?_) (fun q' => ?_)<;>(have h':=q')<;>(try simp only [za1,za2,Ba,Bb,za3,ne_eq,za4,za5,za6,Ia,Ib,Ic,Ie,Da,Bc,Bh,Be,za7,za8] at h')<;>try (exfalso; omega)) | (have q':=trivial; first | refine callX_new (c1) rfl (by decide) ?_ | refine callY_new (c1) rfl ?_ | refine callX_new (c2) rfl (by decide) ?_ | refine callY_new (c2) rfl ?_))<;>(try simp (disch:=first | omega | decide +kernel) only [q',go_sem,Qa,Qb,Qc,Qd,Qe,↓reduceIte,reduceCtorEq,Qf,Qg,Qh])<;>clear q') | with_reducible refine And.intro ?_ ?_ | with_reducible omega | exact no_mem | (refine le_maxLen ?_; omega) | (refine za9 ⟨?_,?_⟩) | (simp only [go_sem,Qc,Qb,zb1,zb2,forall_eq]; done)))
 refine Ok.seqJ ⟨[(7,.d (.ptr (.int .i64 b))),(6,.d (.ptr (.int .i64 a))),(5,.d (.bool false)),(4,.p 4 0),(2,.p 2 0),(1,.d (.int .i64 k))],
  [(4,.box 27 [.d (.int .i64 0),.d (.slice []),.d (.slice [])]),(2,.box 27 [.d (.int .i64 g.n),.d (.slice (g.ed.map D.ed)),.d (.slice (g.ch.map (.int .i64)))])]⟩ ?_
  (Ok.reg8 [true,true,true,true,true,true,true,true,true,true,true,true,false,false,false,false] (by decide +kernel) ?_)
 . refine Ok.seq (Ok.go ?_)
   simp (disch:=first | omega | decide +kernel) only [go_sem,Qa,Qb,Qc,Qd,Qe,↓reduceIte,reduceCtorEq,Qf,Qg,Qh]
   (repeat' (first | ((first | (refine gsel_split (fun q' => ?_) (fun q' => ?_)<;>(have h':=q')<;>(try simp only [za1,za2,Ba,Bb,za3,ne_eq,za4,za5,za6,Ia,Ib,Ic,Ie,Da,Bc,Bh,Be,za7,za8] at h')<;>try (exfalso; omega)))<;>(try simp (disch:=first | omega | decide +kernel) only [q',go_sem,Qa,Qb,Qc,Qd,Qe,↓reduceIte,reduceCtorEq,Qf,Qg,Qh])<;>clear q') | with_reducible refine And.intro ?_ ?_ | with_reducible omega | exact no_mem | (refine le_maxLen ?_; omega) | (refine za9 ⟨?_,?_⟩) | (simp only [go_sem,Qc,Qb,zb1,zb2,forall_eq]; done)))
   refine Ok.seqJ ⟨[(9,.p 9 0),(8,.fn (.func 24) [.d (.ptr (.int .i64 b)),.d (.ptr (.int .i64 a))]),(7,.d (.ptr (.int .i64 b))),(6,.d (.ptr (.int .i64 a))),(5,.d (.bool false)),(4,.p 4 0),(2,.p 2 0),(1,.d (.int .i64 k))],
    [(4400000,.arr 3 1 (W.map (.int .i64))),(9,.box 27 [.d (.int .i64 (g.n - 1)),.nilS,.sl 4400000]),(4,.box 27 [.d (.int .i64 0),.d (.slice []),.d (.slice [])]),(2,.box 27 [.d (.int .i64 g.n),.d (.slice (g.ed.map D.ed)),.d (.slice (g.ch.map (.int .i64)))])]⟩ ?_
    (Ok.reg8 [true,true,true,true,true,true,false,false,false,false] (by decide +kernel) ?_)
   . refine Ok.seq (Ok.go ?_)
     simp (disch:=first | omega | decide +kernel) only [hea,heb,List.length_map,go_sem,Qa,Qb,Qc,Qd,Qe,↓reduceIte,reduceCtorEq,Qf,Qg,Qh]
     (repeat' (first | ((first | (refine gsel_split (fun q' => ?_) (fun q' => ?_)<;>(have h':=q')<;>(try simp only [za1,za2,Ba,Bb,za3,ne_eq,za4,za5,za6,Ia,Ib,Ic,Ie,Da,Bc,Bh,Be,za7,za8] at h')<;>try (exfalso; omega)))<;>(try simp (disch:=first | omega | decide +kernel) only [q',hea,heb,List.length_map,go_sem,Qa,Qb,Qc,Qd,Qe,↓reduceIte,reduceCtorEq,Qf,Qg,Qh])<;>clear q') | with_reducible refine And.intro ?_ ?_ | with_reducible omega | exact no_mem | (refine le_maxLen ?_; omega) | (refine za9 ⟨?_,?_⟩) | (simp only [go_sem,Qc,Qb,zb1,zb2,forall_eq]; done)))
     refine Ok.seq (Ok.seq (Ok.go ?_))
     simp (disch:=first | omega | decide +kernel) only [List.length_map,go_sem,Qa,Qb,Qc,Qd,Qe,↓reduceIte,reduceCtorEq,Qf,Qg,Qh]
     (repeat' (first | ((first | (refine gsel_split (fun q' => ?_) (fun q' => ?_)<;>(have h':=q')<;>(try simp only [za1,za2,Ba,Bb,za3,ne_eq,za4,za5,za6,Ia,Ib,Ic,Ie,Da,Bc,Bh,Be,za7,za8] at h')<;>try (exfalso; omega)))<;>(try simp (disch:=first | omega | decide +kernel) only [q',List.length_map,go_sem,Qa,Qb,Qc,Qd,Qe,↓reduceIte,reduceCtorEq,Qf,Qg,Qh])<;>clear q') | with_reducible refine And.intro ?_ ?_ | with_reducible omega | exact no_mem | (refine le_maxLen ?_; omega) | (refine za9 ⟨?_,?_⟩) | (simp only [go_sem,Qc,Qb,zb1,zb2,forall_eq]; done)))
     refine Ok.weak (Wk.nilObj 800000001 9 1 rfl rfl (by simp) (by decide) (e:=55) (k:=2) (by decide)) ?_
     simp (disch:=first | omega | decide +kernel) only [setL,go_sem,Qa,Qb,Qc,Qd,Qe,↓reduceIte,reduceCtorEq,Qf,Qg,Qh]
     refine Ok.block ?_
     refine Ok.loopNO [96,95,94,93,92,91,90,89,88,87,86,85,84,83,82,81,80,79,78,77,76,75,74,73,72,71,70,69,68,67,66,65,64,61,60,59,58,57,56,55,54,53,52,51,50,49,48,47,46,45,44,43,42,41,40,39,38,37,36,35,34,33,32,31,30,29,28,27,26,25,24,23,22,21,20,19,18,17,16,15,14,13,12,11,10,7,6,3,0] (fun i _ => [(64,.d (.int .i64 (i : Nat)))]) (fun i (_ : Unit) => [(800000001,.arr 55 2 ((mergeE a b (g.ed.take i)).map D.ed))]) g.ed.length (fun _ _ => True) () trivial (by refine Wk.auto ?_ ?_<;>simp [extraK,lk,killL,St.kill,wipeO,wipeS,AV.has,AV.hasL,AO.wipe,List.map_set,updSt,insL,dropS,ins,List.take_zero,hz,List.map_nil]) ?_
     rintro R i _ hN hE1 hi _
     have hml:=Nat.le_trans (mergeE_len (a:=a) (b:=b) (ed:=g.ed.take i)) (List.length_take_le i g.ed)
     by_cases hlt : i < g.ed.length
     . have hei:=el_eds (xs:=g.ed) hlt
       have hs:=mergeE_succ (a:=a) (b:=b) hlt
       have hme:=hall _ (getD_mem (z:=((0 : Int),(0 : Int))) hlt)
       have hec2 : (el (List.map D.ed g.ed) i).cells.length=2:=by rw [hei]; rfl
       unfold mE at hs
       generalize g.ed.getD i (0,0)=e at *
       obtain ⟨x,y⟩:=e
       simp only at hme hei hs
       have cx:=to_ok a b x (by omega)
       have cy:=to_ok a b y (by omega)
       have hg2 : [D.int .i64 x,D.int .i64 y].getD (Int.toNat 1 * 1) .nilptr=.int .i64 y:=rfl
       have hg3 : el [D.int .i64 x,D.int .i64 y] (Int.toNat 1)=.int .i64 y:=rfl
       generalize mergeE a b (g.ed.take i)=M at *
       generalize mergeE a b (g.ed.take (i + 1))=M2 at *
       generalize mV a b x=p at *
       generalize mV a b y=q at *
       refine Ok.seq (Ok.go ?_)
       simp (disch:=first | omega | decide +kernel) only [List.length_map,go_sem,Qa,Qb,Qc,Qd,Qe,↓reduceIte,reduceCtorEq,Qf,Qg,Qh]
       (repeat' (first | ((first | (refine gsel_split (fun q' => ?_) (fun q' => ?_)<;>(have h':=q')<;>(try simp only [za1,za2,Ba,Bb,za3,ne_eq,za4,za5,za6,Ia,Ib,Ic,Ie,Da,Bc,Bh,Be,za7,za8] at h')<;>try (exfalso; omega)))<;>(try simp (disch:=first | omega | decide +kernel) only [q',List.length_map,go_sem,Qa,Qb,Qc,Qd,Qe,↓reduceIte,reduceCtorEq,Qf,Qg,Qh])<;>clear q') | with_reducible refine And.intro ?_ ?_ | with_reducible omega | exact no_mem | (refine le_maxLen ?_; omega) | (refine za9 ⟨?_,?_⟩) | (simp only [go_sem,Qc,Qb,zb1,zb2,forall_eq]; done)))
       refine Ok.seq (Ok.go ?_)
       simp (disch:=first | omega | decide +kernel) only [go_sem,Qa,Qb,Qc,Qd,Qe,↓reduceIte,reduceCtorEq,Qf,Qg,Qh]
       (repeat' (first | ((first | (refine gsel_split (fun q' => ?_) (fun q' => ?_)<;>(have h':=q')<;>(try simp only [za1,za2,Ba,Bb,za3,ne_eq,za4,za5,za6,Ia,Ib,Ic,Ie,Da,Bc,Bh,Be,za7,za8] at h')<;>try (exfalso; omega)))<;>(try simp (disch:=first | omega | decide +kernel) only [q',go_sem,Qa,Qb,Qc,Qd,Qe,↓reduceIte,reduceCtorEq,Qf,Qg,Qh])<;>clear q') | with_reducible refine And.intro ?_ ?_ | with_reducible omega | exact no_mem | (refine le_maxLen ?_; omega) | (refine za9 ⟨?_,?_⟩) | (simp only [go_sem,Qc,Qb,zb1,zb2,forall_eq]; done)))
       refine Ok.seq (Ok.block (Ok.seq (Ok.go ?_)))
       simp (disch:=first | omega | decide +kernel) only [hei,List.length_map,go_sem,Qa,Qb,Qc,Qd,Qe,↓reduceIte,reduceCtorEq,Qf,Qg,Qh]
       (repeat' (first | ((first | (refine gsel_split (fun q' => ?_) (fun q' => ?_)<;>(have h':=q')<;>(try simp only [za1,za2,Ba,Bb,za3,ne_eq,za4,za5,za6,Ia,Ib,Ic,Ie,Da,Bc,Bh,Be,za7,za8] at h')<;>try (exfalso; omega)))<;>(try simp (disch:=first | omega | decide +kernel) only [q',hei,List.length_map,go_sem,Qa,Qb,Qc,Qd,Qe,↓reduceIte,reduceCtorEq,Qf,Qg,Qh])<;>clear q') | with_reducible refine And.intro ?_ ?_ | with_reducible omega | exact no_mem | (refine le_maxLen ?_; omega) | (refine za9 ⟨?_,?_⟩) | (simp only [go_sem,Qc,Qb,zb1,zb2,forall_eq]; done)))
       all_goals (first | exact hec2 | skip)
       refine Ok.seq (Ok.go ?_)
       simp (disch:=first | omega | decide +kernel) only [hg2,hg3,el_c0,el_c1,go_sem,Qa,Qb,Qc,Qd,Qe,↓reduceIte,reduceCtorEq,Qf,Qg,Qh]
       (repeat' (first | ((first | (refine gsel_split (fun q' => ?_) (fun q' => ?_)<;>(have h':=q')<;>(try simp only [za1,za2,Ba,Bb,za3,ne_eq,za4,za5,za6,Ia,Ib,Ic,Ie,Da,Bc,Bh,Be,za7,za8] at h')<;>try (exfalso; omega)) | (have q':=trivial; first | refine callX_new (cx) rfl (by decide) ?_ | refine callY_new (cx) rfl ?_ | refine callX_new (cy) rfl (by decide) ?_ | refine callY_new (cy) rfl ?_))<;>(try simp (disch:=first | omega | decide +kernel) only [q',hg2,hg3,el_c0,el_c1,go_sem,Qa,Qb,Qc,Qd,Qe,↓reduceIte,reduceCtorEq,Qf,Qg,Qh])<;>clear q') | with_reducible refine And.intro ?_ ?_ | with_reducible omega | exact no_mem | (refine le_maxLen ?_; omega) | (refine za9 ⟨?_,?_⟩) | (simp only [go_sem,Qc,Qb,zb1,zb2,forall_eq]; done)))
       all_goals (first | (rw [hg3]; decide) | skip)
       by_cases hpq : p=q
       . rw [if_pos hpq] at hs
         subst hpq
         refine Ok.go ?_
         simp (disch:=first | omega | decide +kernel) only [go_sem,Qa,Qb,Qc,Qd,Qe,↓reduceIte,reduceCtorEq,Qf,Qg,Qh]
         (repeat' (first | ((first | (refine gsel_split (fun q' => ?_) (fun q' => ?_)<;>(have h':=q')<;>(try simp only [za1,za2,Ba,Bb,za3,ne_eq,za4,za5,za6,Ia,Ib,Ic,Ie,Da,Bc,Bh,Be,za7,za8] at h')<;>try (exfalso; omega)))<;>(try simp (disch:=first | omega | decide +kernel) only [q',go_sem,Qa,Qb,Qc,Qd,Qe,↓reduceIte,reduceCtorEq,Qf,Qg,Qh])<;>clear q') | with_reducible refine And.intro ?_ ?_ | with_reducible omega | exact no_mem | (refine le_maxLen ?_; omega) | (refine za9 ⟨?_,?_⟩) | (simp only [go_sem,Qc,Qb,zb1,zb2,forall_eq]; done)))
         all_goals (try (exact absurd trivial h'))
         refine Ok.go ?_
         simp (disch:=first | omega | decide +kernel) only [go_sem,Qa,Qb,Qc,Qd,Qe,↓reduceIte,reduceCtorEq,Qf,Qg,Qh]
         (repeat' (first | ((first | (refine gsel_split (fun q' => ?_) (fun q' => ?_)<;>(have h':=q')<;>(try simp only [za1,za2,Ba,Bb,za3,ne_eq,za4,za5,za6,Ia,Ib,Ic,Ie,Da,Bc,Bh,Be,za7,za8] at h')<;>try (exfalso; omega)))<;>(try simp (disch:=first | omega | decide +kernel) only [q',go_sem,Qa,Qb,Qc,Qd,Qe,↓reduceIte,reduceCtorEq,Qf,Qg,Qh])<;>clear q') | with_reducible refine And.intro ?_ ?_ | with_reducible omega | exact no_mem | (refine le_maxLen ?_; omega) | (refine za9 ⟨?_,?_⟩) | (simp only [go_sem,Qc,Qb,zb1,zb2,forall_eq]; done)))
         refine hN () _ hlt trivial ?_
         rw [hs]
         exact (by refine Wk.auto ?_ ?_<;>simp [extraK,lk,killL,St.kill,wipeO,wipeS,AV.has,AV.hasL,AO.wipe,List.map_set,updSt,insL,dropS,ins,])
       . rw [if_neg hpq] at hs
         refine Ok.go ?_
         simp (disch:=first | omega | decide +kernel) only [min_if,max_if,go_sem,Qa,Qb,Qc,Qd,Qe,↓reduceIte,reduceCtorEq,Qf,Qg,Qh]
         (repeat' (first | ((first | (refine gsel_split (fun q' => ?_) (fun q' => ?_)<;>(have h':=q')<;>(try simp only [za1,za2,Ba,Bb,za3,ne_eq,za4,za5,za6,Ia,Ib,Ic,Ie,Da,Bc,Bh,Be,za7,za8] at h')<;>try (exfalso; omega)))<;>(try simp (disch:=first | omega | decide +kernel) only [q',min_if,max_if,go_sem,Qa,Qb,Qc,Qd,Qe,↓reduceIte,reduceCtorEq,Qf,Qg,Qh])<;>clear q') | with_reducible refine And.intro ?_ ?_ | with_reducible omega | exact no_mem | (refine le_maxLen ?_; omega) | (refine za9 ⟨?_,?_⟩) | (simp only [go_sem,Qc,Qb,zb1,zb2,forall_eq]; done)))
         all_goals (first | exact okE1 (min p q,max p q) | skip)
         refine Ok.go ?_
         simp (disch:=first | omega | decide +kernel) only [go_sem,Qa,Qb,Qc,Qd,Qe,↓reduceIte,reduceCtorEq,Qf,Qg,Qh]
         (repeat' (first | ((first | (refine gsel_split (fun q' => ?_) (fun q' => ?_)<;>(have h':=q')<;>(try simp only [za1,za2,Ba,Bb,za3,ne_eq,za4,za5,za6,Ia,Ib,Ic,Ie,Da,Bc,Bh,Be,za7,za8] at h')<;>try (exfalso; omega)))<;>(try simp (disch:=first | omega | decide +kernel) only [q',go_sem,Qa,Qb,Qc,Qd,Qe,↓reduceIte,reduceCtorEq,Qf,Qg,Qh])<;>clear q') | with_reducible refine And.intro ?_ ?_ | with_reducible omega | exact no_mem | (refine le_maxLen ?_; omega) | (refine za9 ⟨?_,?_⟩) | (simp only [go_sem,Qc,Qb,zb1,zb2,forall_eq]; done)))
         refine hN () _ hlt trivial ?_
         rw [hs]
         exact (by refine Wk.auto ?_ ?_<;>simp [extraK,lk,killL,St.kill,wipeO,wipeS,AV.has,AV.hasL,AO.wipe,List.map_set,updSt,insL,dropS,ins,List.map_append,List.map_cons,List.map_nil,D.ed])
     . obtain rfl : i=g.ed.length:=by omega
       rw [List.take_length] at *
       refine Ok.go ?_
       simp (disch:=first | omega | decide +kernel) only [go_sem,Qa,Qb,Qc,Qd,Qe,↓reduceIte,reduceCtorEq,Qf,Qg,Qh]
       (repeat' (first | ((first | (refine gsel_split (fun q' => ?_) (fun q' => ?_)<;>(have h':=q')<;>(try simp only [za1,za2,Ba,Bb,za3,ne_eq,za4,za5,za6,Ia,Ib,Ic,Ie,Da,Bc,Bh,Be,za7,za8] at h')<;>try (exfalso; omega)))<;>(try simp (disch:=first | omega | decide +kernel) only [q',go_sem,Qa,Qb,Qc,Qd,Qe,↓reduceIte,reduceCtorEq,Qf,Qg,Qh])<;>clear q') | with_reducible refine And.intro ?_ ?_ | with_reducible omega | exact no_mem | (refine le_maxLen ?_; omega) | (refine za9 ⟨?_,?_⟩) | (simp only [go_sem,Qc,Qb,zb1,zb2,forall_eq]; done)))
       refine hE1 _ _ exit_ne ?_
       simp (disch:=first | omega | decide +kernel) only [go_sem,Qa,Qb,Qc,Qd,Qe,↓reduceIte,reduceCtorEq,Qf,Qg,Qh]
       rw [hset]
       cases B with
       | false =>
         rw [if_neg (by decide)] at hR
         subst hR
         refine Ok.seq (Ok.go ?_)
         simp (disch:=first | omega | decide +kernel) only [go_sem,Qa,Qb,Qc,Qd,Qe,↓reduceIte,reduceCtorEq,Qf,Qg,Qh]
         (repeat' (first | ((first | (refine gsel_split (fun q' => ?_) (fun q' => ?_)<;>(have h':=q')<;>(try simp only [za1,za2,Ba,Bb,za3,ne_eq,za4,za5,za6,Ia,Ib,Ic,Ie,Da,Bc,Bh,Be,za7,za8] at h')<;>try (exfalso; omega)) | (have q':=trivial; first | refine callX_new (cG) rfl (by decide) ?_ | refine callY_new (cG) rfl ?_))<;>(try simp (disch:=first | omega | decide +kernel) only [q',go_sem,Qa,Qb,Qc,Qd,Qe,↓reduceIte,reduceCtorEq,Qf,Qg,Qh])<;>clear q') | with_reducible refine And.intro ?_ ?_ | with_reducible omega | exact no_mem | (refine le_maxLen ?_; omega) | (refine za9 ⟨?_,?_⟩) | (simp only [go_sem,Qc,Qb,zb1,zb2,forall_eq]; done)))
         all_goals exact ret_scbd [] rfl rfl rfl (by simp only [go_sem]) (by simp only [go_sem,List.length_cons,List.length_nil]) rfl (by simp only [go_sem])
       | true =>
         rw [if_pos rfl] at hR
         subst hR
         refine Ok.seq (Ok.go ?_)
         simp (disch:=first | omega | decide +kernel) only [go_sem,Qa,Qb,Qc,Qd,Qe,↓reduceIte,reduceCtorEq,Qf,Qg,Qh]
         (repeat' (first | ((first | (refine gsel_split (fun q' => ?_) (fun q' => ?_)<;>(have h':=q')<;>(try simp only [za1,za2,Ba,Bb,za3,ne_eq,za4,za5,za6,Ia,Ib,Ic,Ie,Da,Bc,Bh,Be,za7,za8] at h')<;>try (exfalso; omega)) | (have q':=trivial; first | refine callX_new (cG) rfl (by decide) ?_ | refine callY_new (cG) rfl ?_))<;>(try simp (disch:=first | omega | decide +kernel) only [q',go_sem,Qa,Qb,Qc,Qd,Qe,↓reduceIte,reduceCtorEq,Qf,Qg,Qh])<;>clear q') | with_reducible refine And.intro ?_ ?_ | with_reducible omega | exact no_mem | (refine le_maxLen ?_; omega) | (refine za9 ⟨?_,?_⟩) | (simp only [go_sem,Qc,Qb,zb1,zb2,forall_eq]; done)))
         refine Ok.go ?_
         simp (disch:=first | omega | decide +kernel) only [go_sem,Qa,Qb,Qc,Qd,Qe,↓reduceIte,reduceCtorEq,Qf,Qg,Qh]
         (repeat' (first | ((first | (refine gsel_split (fun q' => ?_) (fun q' => ?_)<;>(have h':=q')<;>(try simp only [za1,za2,Ba,Bb,za3,ne_eq,za4,za5,za6,Ia,Ib,Ic,Ie,Da,Bc,Bh,Be,za7,za8] at h')<;>try (exfalso; omega)))<;>(try simp (disch:=first | omega | decide +kernel) only [q',go_sem,Qa,Qb,Qc,Qd,Qe,↓reduceIte,reduceCtorEq,Qf,Qg,Qh])<;>clear q') | with_reducible refine And.intro ?_ ?_ | with_reducible omega | exact no_mem | (refine le_maxLen ?_; omega) | (refine za9 ⟨?_,?_⟩) | (simp only [go_sem,Qc,Qb,zb1,zb2,forall_eq]; done)))
         all_goals exact ret_scbd [800000001,4400000] rfl rfl rfl (by simp only [go_sem]) (by simp only [go_sem,List.length_cons,List.length_nil]) rfl (by simp only [go_sem])
   . simp (disch:=first | omega | decide +kernel) only [go_sem,Qa,Qb,Qc,Qd,Qe,↓reduceIte,reduceCtorEq,Qf,Qg,Qh]
     (repeat' (first | ((first | (refine gsel_split (fun q' => ?_) (fun q' => ?_)<;>(have h':=q')<;>(try simp only [za1,za2,Ba,Bb,za3,ne_eq,za4,za5,za6,Ia,Ib,Ic,Ie,Da,Bc,Bh,Be,za7,za8] at h')<;>try (exfalso; omega)) | (have q':=trivial; first | refine callX_new (c3) rfl (by decide) ?_ | refine callY_new (c3) rfl ?_))<;>(try simp (disch:=first | omega | decide +kernel) only [q',go_sem,Qa,Qb,Qc,Qd,Qe,↓reduceIte,reduceCtorEq,Qf,Qg,Qh])<;>clear q') | with_reducible refine And.intro ?_ ?_ | with_reducible omega | exact no_mem | (refine le_maxLen ?_; omega) | (refine za9 ⟨?_,?_⟩) | (simp only [go_sem,Qc,Qb,zb1,zb2,forall_eq]; done)))
     all_goals exact (by refine Wk.auto ?_ ?_<;>simp [extraK,lk,killL,St.kill,wipeO,wipeS,AV.has,AV.hasL,AO.wipe,List.map_set,updSt,insL,dropS,ins,])
 . simp (disch:=first | omega | decide +kernel) only [hek,hg1,go_sem,Qa,Qb,Qc,Qd,Qe,↓reduceIte,reduceCtorEq,Qf,Qg,Qh]
   (repeat' (first | ((first | (refine gsel_split (fun q' => ?_) (fun q' => ?_)<;>(have h':=q')<;>(try simp only [za1,za2,Ba,Bb,za3,ne_eq,za4,za5,za6,Ia,Ib,Ic,Ie,Da,Bc,Bh,Be,za7,za8] at h')<;>try (exfalso; omega)))<;>(try simp (disch:=first | omega | decide +kernel) only [q',hek,hg1,go_sem,Qa,Qb,Qc,Qd,Qe,↓reduceIte,reduceCtorEq,Qf,Qg,Qh])<;>clear q') | with_reducible refine And.intro ?_ ?_ | with_reducible omega | exact no_mem | (refine le_maxLen ?_; omega) | (refine za9 ⟨?_,?_⟩) | (simp only [go_sem,Qc,Qb,zb1,zb2,forall_eq]; done)))
   all_goals (first | exact hec | skip)
   all_goals exact (Wk.bfz 6 (.int .i64 _) rfl rfl).trans ((Wk.bfz 7 (.int .i64 _) rfl rfl).trans (by refine Wk.auto ?_ ?_<;>simp [extraK,lk,killL,St.kill,wipeO,wipeS,AV.has,AV.hasL,AO.wipe,List.map_set,updSt,insL,dropS,ins,bfzS,bfzO,AV.bfz,AV.bfzL,AO.bfz]))
end Abs.Y
