/- What functions of this program compute, over plain data. No condition. -/
import Derived.Test.YtkccabajcdphkaaDoorPO9
import Derived.Test.YtkccabajcdphkaaDoorWP
import Derived.Test.YtkccabajcdphkaaDoorR1
import Derived.Test.YtkccabajcdphkaaDoorCP1
set_option linter.all false
open Nat renaming reduceEqDiff -> Qa, reduceLT -> Qb, reduceAdd -> Qc, reduceMul -> Qd, reduceSub -> Qe, reduceLeDiff -> Qf, reduceSubDiff -> Qg, reduceBEq -> Qh
open Bool renaming not_eq_true' -> Ba, not_eq_false' -> Bb, and_eq_true -> Bc, or_eq_true -> Bh, or_eq_false_iff -> Be
open Int renaming ofNat_lt -> Ia, ofNat_le -> Ib, not_lt -> Ic, not_le -> Ie
open Decidable renaming not_not -> Da
namespace Abs.Y
open Go Go.Proofs Abs Go.RowKit
set_option maxRecDepth 100000

theorem dig_eq : ∀ n,n < 10->BLs (digS n)=[UInt8.ofNat (48 + n)]:=by decide +kernel
theorem dec_num (n : Nat) : Lib.decDigits n=numL n:=by
 unfold numL
 induction n using Nat.strongRecOn with
 | ind n ih =>
   by_cases h : n < 10
   . rw [Lib.decDigits,dif_pos h,numN_lt h,dig_eq n h]
   . rw [Lib.decDigits,dif_neg h,numN_ge h,BLs_app,ih (n / 10) (by omega),dig_eq _ (by omega)]
theorem itoa_ok (n : Nat) (hn : n < 100) : Ctr Tryd.prog 89 [.int .i64 (n : Nat)] false (.d (.str (numN n))) []:=by
 refine ⟨⟨_,Tryd.func89,by kernel_rfl,by kernel_rfl⟩,fun S w vs hl hr hG => ?_⟩
 obtain ⟨v,rfl⟩ : ∃ v,vs=[v]:=by
  match vs,hl with
  | [a],_ => exact ⟨a,rfl⟩
 have h:=hr 0 (by simp)
 simp only [List.getD_cons_zero] at h
 cases h
 refine (Tryd.itoa_w n hn w).mono fun en w' ⟨he,hw⟩ => ⟨_,he,?_,?_⟩
 . subst hw; exact ⟨rfl,rfl,rfl,Nat.le_refl _,Nat.le_refl _,fun _ _ _ => rfl,Nat.le_refl _⟩
 . have e : (⟨(Lib.decDigits n).toArray⟩ : ByteArray)=numN n:=ext_BLs (by rw [dec_num]; rfl)
   rw [e]
   exact ⟨fun _ => Go.undef,fun _ _ => False,.d (.str _),fun j o hj => by simp [lk] at hj,fun j o g hj => by simp [lk] at hj,fun j j' o o' g hj hj' => by simp [lk] at hj⟩
theorem flat_strs : ∀ ss : List ByteArray,flat (ss.map D.str)=ss.map D.str
 | [] => rfl
 | x :: r => by
   have:=flat_strs r
   simp only [flat,List.map_cons,List.flatMap_cons] at this ⊢
   rw [this]; rfl
theorem join_ok (ss : List ByteArray) (sep : ByteArray) (hN : ss.length<=1000) (hlen : (Lib.join (ss.map BLs) (BLs sep)).length<=1000000) :
 Ctr Tryd.prog 90 [.slice (ss.map .str),.str sep] false (.d (.str ⟨(Lib.join (ss.map BLs) (BLs sep)).toArray⟩)) []:=by
 refine ⟨⟨_,Tryd.func90,by kernel_rfl,by kernel_rfl⟩,fun S w vs hl hr hG => ?_⟩
 obtain ⟨v,v',rfl⟩ : ∃ v v',vs=[v,v']:=by
  match vs,hl with
  | [a,b],_ => exact ⟨a,b,rfl⟩
 have h:=hr 0 (by simp)
 have h':=hr 1 (by simp)
 simp only [List.getD_cons_zero,List.getD_cons_succ] at h h'
 cases h'
 have fin : ∀ {x : ByteArray} {en : Ending} {w' : World},en=.returned (.string x)->Below w.heap.size w w'->∃ v,en=.returned v∧Fr w.heap.size (fun _ => False) w w'∧ResRel (fun g => w.heap.size<=g∨(false=true∧S g)) w.heap.size w' (.d (.str x)) [] v:=fun he hb =>
  ⟨_,he,⟨hb.os,hb.tape,hb.output,hb.size,hb.size,fun g hg _ => hb.block g hg,Nat.le_refl _⟩,fun _ => Go.undef,fun _ _ => False,.d (.str _),fun j o hj => by simp [lk] at hj,fun j o g hj => by simp [lk] at hj,fun j j' o o' g hj hj' => by simp [lk] at hj⟩
 generalize hss : ss.map D.str=es at h
 cases h with
 | nil a =>
   obtain rfl : ss=[]:=by simpa using hss
   rw [List.map_nil,Lib.join_nil]
   exact (Tryd.join0_w a 0 sep w).mono fun en w' ⟨he,hw⟩ => fin he (by subst hw; exact Below.refl _ _)
 | @slice _ b off cap k us hk hcap hc hr2 =>
   clear hr
   subst hss
   rw [flat_strs] at hc hr2
   simp only [List.length_map] at hc hr2 hcap ⊢
   cases hss : ss with
   | nil =>
     rw [List.map_nil,Lib.join_nil,List.length_nil]
     exact (Tryd.join0_w _ cap sep w).mono fun en w' ⟨he,hw⟩ => fin he (by subst hw; exact Below.refl _ _)
   | cons s0 r0 =>
     rw [← hss]
     have h0 : 0 < ss.length:=by rw [hss]; simp
     refine (Tryd.join_w b off cap ss sep w (fun j x hj => ?_) (cell_lt (hc 0 h0).2) (by omega) hcap (Nat.le_trans hlen (by decide))).mono fun en w' ⟨he,hb⟩ => fin he hb
     have hj1 : j < ss.length:=(List.getElem?_eq_some_iff.1 hj).1
     obtain ⟨_,h2⟩:=hc j hj1
     have h3:=hr2 j hj1
     rw [h2]
     rw [List.getD_eq_getElem?_getD,List.getElem?_map,hj] at h3
     simp only [Option.map_some,Option.getD_some] at h3
     cases h3' : us j with
     | string y => rw [h3'] at h3; cases h3; rfl
     | _ => rw [h3'] at h3; cases h3
theorem join_terms (u : Nat) : ∀ a : List (Int × Int),Lib.join (a.map (termL u)) [32,43,32]=termsL u a
 | [] => rfl
 | t :: r => by
   rw [List.map_cons,Lib.join_cons,termsL]
   unfold Lib.joinTail
   rw [List.map_map]; rfl
end Abs.Y

namespace Abs.Y
open Go Go.Proofs Abs
set_option maxRecDepth 100000

theorem isT_len {p : Int} {u : Nat} {a : List (Int × Int)} (hu : u<=6) (hT : isT p (2 ^ u) a=true) : a.length<=64:=by
 have h6:=pow_le6 hu
 have h7:=sp_dn hT
 have h8:=sp_len (dnT (2 ^ u) a)
 rw [h7,dnT_len] at h8
 omega
theorem lit2 : BLs (ByteArray.mk #[42,120])=[42,120]:=rfl
theorem lit3 : BLs (ByteArray.mk #[32,43,32])=[32,43,32]:=rfl
set_option maxHeartbeats 8000000 in
theorem iPolyText_ok (p v : Int) (a : List (Int × Int)) (hal : a.length<=1000) : Ctr Tryd.prog 26 [.int .i64 p,.int .i64 v,D.tms a] false (.tup [.d (.str (txtR p v a)),.d (.bool (ok1 p v a))]) []:=by
 have c1:=Ctr.tupN (ys:=[_,_]) (ringOf_ok p v)
 cases h1 : ok1 p v a with
 | false =>
   rw [txtR,h1,if_neg (by simp)]
   cases hpr : primeB p v with
   | false =>
     rw [hpr] at c1
     refine Ctr.of (n:=65) (rs:=[.tmp 6,.tmp 7]) Tryd.func26 rfl rfl Tryd.ntmps26 rfl rfl (by kernel_rfl) Tryd.checked.mixed ?_
     simp (disch:=first | omega | decide +kernel) only [go_sem,Qa,Qb,Qc,Qd,Qe,↓reduceIte,reduceCtorEq,Qf,Qg,Qh]
     (repeat' (first | ((first | (refine gsel_split (fun q' => ?_) (fun q' => ?_)<;>(have h':=q')<;>(try simp only [za1,za2,Ba,Bb,za3,ne_eq,za4,za5,za6,Ia,Ib,Ic,Ie,Da,Bc,Bh,Be,za7,za8] at h')<;>try (exfalso; omega)) | (have q':=trivial; first | refine callX_new (c1) rfl (by decide) ?_ | refine callY_new (c1) rfl ?_ | refine hE _ _ ret_ne ?_ | refine hE _ _ exit_ne ?_))<;>(try simp (disch:=first | omega | decide +kernel) only [q',go_sem,Qa,Qb,Qc,Qd,Qe,↓reduceIte,reduceCtorEq,Qf,Qg,Qh])<;>clear q') | refine hN _ ?_ ?_ Wk.kk | with_reducible refine And.intro ?_ ?_ | with_reducible omega | exact ok_ints | exact cells_ints | exact no_mem | with_reducible exact plain_ints | (refine le_maxLen ?_; omega) | (refine za9 ⟨?_,?_⟩) | (simp only [go_sem,Qc,Qb,zb1,zb2,forall_eq]; done)))
   | true =>
     rw [hpr] at c1
     obtain ⟨hp,hu0,hu6⟩:=primeB_of hpr
     obtain ⟨u,rfl⟩:=Int.eq_ofNat_of_zero_le hu0
     have c2 : Ctr Tryd.prog 66 [D.ring p u,D.tms a] false (.d (.bool (isT p (2 ^ u) a))) []:=is_ok hp (by omega) (by omega)
     rw [ok1,hpr,Bool.true_and] at h1
     have e : nV (u : Int)=2 ^ u:=rfl
     rw [e] at h1
     rw [h1] at c2
     refine Ctr.of (n:=65) (rs:=[.tmp 6,.tmp 7]) Tryd.func26 rfl rfl Tryd.ntmps26 rfl rfl (by kernel_rfl) Tryd.checked.mixed ?_
     simp (disch:=first | omega | decide +kernel) only [go_sem,Qa,Qb,Qc,Qd,Qe,↓reduceIte,reduceCtorEq,Qf,Qg,Qh]
     (repeat' (first | ((first | (refine gsel_split (fun q' => ?_) (fun q' => ?_)<;>(have h':=q')<;>(try simp only [za1,za2,Ba,Bb,za3,ne_eq,za4,za5,za6,Ia,Ib,Ic,Ie,Da,Bc,Bh,Be,za7,za8] at h')<;>try (exfalso; omega)) | (have q':=trivial; first | refine callX_new (c1) rfl (by decide) ?_ | refine callY_new (c1) rfl ?_ | refine callX_new (c2) rfl (by decide) ?_ | refine callY_new (c2) rfl ?_ | refine hE _ _ ret_ne ?_ | refine hE _ _ exit_ne ?_))<;>(try simp (disch:=first | omega | decide +kernel) only [q',go_sem,Qa,Qb,Qc,Qd,Qe,↓reduceIte,reduceCtorEq,Qf,Qg,Qh])<;>clear q') | refine hN _ ?_ ?_ Wk.kk | with_reducible refine And.intro ?_ ?_ | with_reducible omega | exact ok_ints | exact cells_ints | exact no_mem | with_reducible exact plain_ints | (refine le_maxLen ?_; omega) | (refine za9 ⟨?_,?_⟩) | (simp only [go_sem,Qc,Qb,zb1,zb2,forall_eq]; done)))
 | true =>
   obtain ⟨u,g,hn,hT⟩:=ok1_of h1
   obtain rfl:=g.hv
   have hp:=g.hp
   have hu:=g.hu
   have hpr : primeB p (u : Int)=true:=g.pr
   rw [hpr] at c1
   have c2 : Ctr Tryd.prog 66 [D.ring p u,D.tms a] false (.d (.bool (isT p (2 ^ u) a))) []:=is_ok hp (by omega) (by omega)
   rw [hT] at c2
   rw [txtR,h1,if_pos rfl]
   by_cases ha0 : a=[]
   . subst ha0
     rw [if_pos rfl]
     refine Ctr.of (n:=65) (rs:=[.tmp 6,.tmp 7]) Tryd.func26 rfl rfl Tryd.ntmps26 rfl rfl (by kernel_rfl) Tryd.checked.mixed ?_
     simp (disch:=first | omega | decide +kernel) only [go_sem,Qa,Qb,Qc,Qd,Qe,↓reduceIte,reduceCtorEq,Qf,Qg,Qh]
     (repeat' (first | ((first | (refine gsel_split (fun q' => ?_) (fun q' => ?_)<;>(have h':=q')<;>(try simp only [za1,za2,Ba,Bb,za3,ne_eq,za4,za5,za6,Ia,Ib,Ic,Ie,Da,Bc,Bh,Be,za7,za8] at h')<;>try (exfalso; omega)) | (have q':=trivial; first | refine callX_new (c1) rfl (by decide) ?_ | refine callY_new (c1) rfl ?_ | refine callX_new (c2) rfl (by decide) ?_ | refine callY_new (c2) rfl ?_ | refine hE _ _ ret_ne ?_ | refine hE _ _ exit_ne ?_))<;>(try simp (disch:=first | omega | decide +kernel) only [q',go_sem,Qa,Qb,Qc,Qd,Qe,↓reduceIte,reduceCtorEq,Qf,Qg,Qh])<;>clear q') | refine hN _ ?_ ?_ Wk.kk | with_reducible refine And.intro ?_ ?_ | with_reducible omega | exact ok_ints | exact cells_ints | exact no_mem | with_reducible exact plain_ints | (refine le_maxLen ?_; omega) | (refine za9 ⟨?_,?_⟩) | (simp only [go_sem,Qc,Qb,zb1,zb2,forall_eq]; done)))
   . rw [if_neg ha0]
     have hapos : 0 < a.length:=List.length_pos_iff.2 ha0
     have hTm:=isT_tms hT
     have hal6:=isT_len hu hT
     have h6:=pow_le6 hu
     have hmem:=fun i (hi : i < a.length) => mem_tms hTm hi
     have hjl:=termsL_len u hu a (fun t ht => by have:=(hTm t ht).2; omega)
     have hjt:=join_terms u a
     have htn : (u : Int).toNat=u:=Int.toNat_natCast u
     rw [htn]
     clear hTm hT h1 ha0 hn
     generalize (2 : Nat) ^ u=n at *
     have hnum : ∀ k,k < 100->(numL k).length<=2:=numL_len
     refine Ctr.of (n:=65) (rs:=[.tmp 6,.tmp 7]) Tryd.func26 rfl rfl Tryd.ntmps26 rfl rfl (by kernel_rfl) Tryd.checked.mixed ?_
     simp (disch:=first | omega | decide +kernel) only [go_sem,Qa,Qb,Qc,Qd,Qe,↓reduceIte,reduceCtorEq,Qf,Qg,Qh]
     (repeat' (first | ((first | (refine gsel_split (fun q' => ?_) (fun q' => ?_)<;>(have h':=q')<;>(try simp only [za1,za2,Ba,Bb,za3,ne_eq,za4,za5,za6,Ia,Ib,Ic,Ie,Da,Bc,Bh,Be,za7,za8] at h')<;>try (exfalso; omega)) | (have q':=trivial; first | refine callX_new (c1) rfl (by decide) ?_ | refine callY_new (c1) rfl ?_ | refine callX_new (c2) rfl (by decide) ?_ | refine callY_new (c2) rfl ?_ | refine hE _ _ ret_ne ?_ | refine hE _ _ exit_ne ?_))<;>(try simp (disch:=first | omega | decide +kernel) only [q',go_sem,Qa,Qb,Qc,Qd,Qe,↓reduceIte,reduceCtorEq,Qf,Qg,Qh])<;>clear q') | refine hN _ ?_ ?_ Wk.kk | with_reducible refine And.intro ?_ ?_ | with_reducible omega | exact ok_ints | exact cells_ints | exact no_mem | with_reducible exact plain_ints | (refine le_maxLen ?_; omega) | (refine za9 ⟨?_,?_⟩) | (simp only [go_sem,Qc,Qb,zb1,zb2,forall_eq]; done)))
     all_goals (first | omega | skip)
     clear c1 c2
     refine Ok.loopN [64,63,62,61,60,59,58,57,56,55,54,53,52,51,50,49,48,47,46,45,44,43,42,41,40,39,38,37,36,35,34,31,30,29,28,27,26,25,24,23,22,21,20,19,18,17,16,15,14,13,12,11,5,4,3] (fun i (_ : List ByteArray) => [(34,.d (.int .i64 (i : Nat))),(10,.sl 10)]) (fun _ (q : List ByteArray) => [(10,.arr 9 1 (q.map .str))]) a.length
      (fun i q => q.map BLs=(a.take i).map (termL u)) [] rfl (Wk.kk) ?_
     rintro R i q hN hE hi hq
     have hql : q.length=i:=by
      have:=congrArg List.length hq
      simp only [List.length_map,List.length_take] at this
      omega
     by_cases hlt : i < a.length
     . have hes:=el_tm hlt
       obtain ⟨m,hm,hm1,hc⟩:=hmem i hlt
       have hs : (a.take (i + 1)).map (termL u)=q.map BLs++[termL u (a.getD i (0,0))]:=by
        rw [take_succ (0,0) a i hlt,List.map_append,← hq]; rfl
       obtain ⟨k,hk⟩:=Int.eq_ofNat_of_zero_le hc.1
       have htm : termL u (a.getD i (0,0))=numL k++varsL u m:=by rw [termL,hk,hm1]; rfl
       rw [hm1,hk] at hes
       have hk100 : k < 100:=by omega
       have c3:=itoa_ok k hk100
       have hz1:=numN_size 1 k hk100
       clear hmem hq hE hjl hjt
       simp (disch:=first | omega | decide +kernel) only [hes,go_sem,Qa,Qb,Qc,Qd,Qe,↓reduceIte,reduceCtorEq,Qf,Qg,Qh]
       (repeat' (first | ((first | (refine gsel_split (fun q' => ?_) (fun q' => ?_)<;>(have h':=q')<;>(try simp only [za1,za2,Ba,Bb,za3,ne_eq,za4,za5,za6,Ia,Ib,Ic,Ie,Da,Bc,Bh,Be,za7,za8] at h')<;>try (exfalso; omega)) | (have q':=trivial; first | refine callX_new (c3) rfl (by decide) ?_ | refine callY_new (c3) rfl ?_ | refine hE _ _ ret_ne ?_ | refine hE _ _ exit_ne ?_))<;>(try simp (disch:=first | omega | decide +kernel) only [q',hes,go_sem,Qa,Qb,Qc,Qd,Qe,↓reduceIte,reduceCtorEq,Qf,Qg,Qh])<;>clear q') | refine hN _ ?_ ?_ Wk.kk | with_reducible refine And.intro ?_ ?_ | with_reducible omega | exact ok_ints | exact cells_ints | exact no_mem | with_reducible exact plain_ints | (refine le_maxLen ?_; omega) | (refine za9 ⟨?_,?_⟩) | (simp only [go_sem,Qc,Qb,zb1,zb2,forall_eq]; done)))
       all_goals (first | omega | skip)
       refine Ok.loopN [57,56,55,54,53,52,51,50,49,48,47,46,45,44,43,42,14,13] (fun j (s : ByteArray) => [(42,.d (.int .i64 (j : Nat))),(13,.d (.str s))]) (fun _ _ => []) u (fun j s => BLs s=numL k++varsL j m) (numN k) (by unfold varsL numL; simp) (Wk.kk) ?_
       rintro R2 j s hN2 hE2 hj hsl
       have hvl:=varsL_len j m (by omega)
       have hsz : s.size<=30:=by
        rw [size_BLs,hsl,List.length_append]
        have:=hnum k hk100
        omega
       by_cases hjt : j < u
       . have hvs:=varsL_succ j m
         have c4:=itoa_ok (j + 1) (by omega)
         have hz2:=numN_size 1 (j + 1) (by omega)
         have e2 : bitV .and .i64 ((m : Int).fdiv (2 ^ min j 64)) 1=bitI m j:=bit_of (by omega) (by omega)
         have he2 : (j : Int) + 1=((j + 1 : Nat) : Int):=by omega
         clear hN hE2
         cases hb : m.testBit j with
         | true =>
           have e4 : bitI m j=1:=by unfold bitI; rw [hb]; rfl
           rw [e4] at e2
           rw [hb,if_pos rfl] at hvs
           have hfin : BLs (s++(ByteArray.mk #[42,120]++numN (j + 1)))=numL k++varsL (j + 1) m:=by
            rw [BLs_app,BLs_app,hsl,hvs,lit2,List.append_assoc]; rfl
           have hz3 : (ByteArray.mk #[42,120]++numN (j + 1)).size<=4:=by
            rw [ByteArray.size_append]
            have : (ByteArray.mk #[42,120]).size=2:=rfl
            omega
           have hz4 : (ByteArray.mk #[42,120]).size=2:=rfl
           clear hvs hsl
           simp (disch:=first | omega | decide +kernel) only [e2,he2,Int.toNat_natCast,go_sem,Qa,Qb,Qc,Qd,Qe,↓reduceIte,reduceCtorEq,Qf,Qg,Qh]
           (repeat' (first | ((first | (refine gsel_split (fun q' => ?_) (fun q' => ?_)<;>(have h':=q')<;>(try simp only [za1,za2,Ba,Bb,za3,ne_eq,za4,za5,za6,Ia,Ib,Ic,Ie,Da,Bc,Bh,Be,za7,za8] at h')<;>try (exfalso; omega)) | (have q':=trivial; first | refine callX_new (c4) rfl (by decide) ?_ | refine callY_new (c4) rfl ?_ | refine hE _ _ ret_ne ?_ | refine hE _ _ exit_ne ?_))<;>(try simp (disch:=first | omega | decide +kernel) only [q',e2,he2,Int.toNat_natCast,hz4,go_sem,Qa,Qb,Qc,Qd,Qe,↓reduceIte,reduceCtorEq,Qf,Qg,Qh])<;>clear q') | refine hN _ ?_ ?_ Wk.kk | with_reducible refine And.intro ?_ ?_ | with_reducible omega | exact ok_ints | exact cells_ints | exact no_mem | with_reducible exact plain_ints | (refine le_maxLen ?_; omega) | (refine za9 ⟨?_,?_⟩) | (simp only [go_sem,Qc,Qb,zb1,zb2,forall_eq]; done)))
           all_goals (first | omega | exact hN2 _ _ hjt hfin (by refine Wk.auto ?_ ?_<;>simp [extraK,lk,killL,St.kill,wipeO,wipeS,AV.has,AV.hasL,AO.wipe,List.map_set,updSt,insL,dropS,ins,]))
         | false =>
           have e4 : bitI m j=0:=by unfold bitI; rw [hb]; rfl
           rw [e4] at e2
           rw [hb,if_neg (by simp),List.append_nil] at hvs
           rw [← hvs] at hsl
           clear hvs
           simp (disch:=first | omega | decide +kernel) only [e2,Int.toNat_natCast,go_sem,Qa,Qb,Qc,Qd,Qe,↓reduceIte,reduceCtorEq,Qf,Qg,Qh]
           (repeat' (first | ((first | (refine gsel_split (fun q' => ?_) (fun q' => ?_)<;>(have h':=q')<;>(try simp only [za1,za2,Ba,Bb,za3,ne_eq,za4,za5,za6,Ia,Ib,Ic,Ie,Da,Bc,Bh,Be,za7,za8] at h')<;>try (exfalso; omega)) | (have q':=trivial; first | refine hE _ _ ret_ne ?_ | refine hE _ _ exit_ne ?_))<;>(try simp (disch:=first | omega | decide +kernel) only [q',e2,Int.toNat_natCast,go_sem,Qa,Qb,Qc,Qd,Qe,↓reduceIte,reduceCtorEq,Qf,Qg,Qh])<;>clear q') | refine hN _ ?_ ?_ Wk.kk | with_reducible refine And.intro ?_ ?_ | with_reducible omega | exact ok_ints | exact cells_ints | exact no_mem | with_reducible exact plain_ints | (refine le_maxLen ?_; omega) | (refine za9 ⟨?_,?_⟩) | (simp only [go_sem,Qc,Qb,zb1,zb2,forall_eq]; done)))
           all_goals (first | omega | exact hN2 s _ hjt hsl (by refine Wk.auto ?_ ?_<;>simp [extraK,lk,killL,St.kill,wipeO,wipeS,AV.has,AV.hasL,AO.wipe,List.map_set,updSt,insL,dropS,ins,]))
       . obtain rfl : j=u:=by omega
         have hfin : (q++[s]).map BLs=(a.take (i + 1)).map (termL j):=by
          rw [hs,htm,← hsl,List.map_append]; rfl
         clear hN2 hs htm
         simp (disch:=first | omega | decide +kernel) only [go_sem,Qa,Qb,Qc,Qd,Qe,↓reduceIte,reduceCtorEq,Qf,Qg,Qh]
         (repeat' (first | ((first | (refine gsel_split (fun q' => ?_) (fun q' => ?_)<;>(have h':=q')<;>(try simp only [za1,za2,Ba,Bb,za3,ne_eq,za4,za5,za6,Ia,Ib,Ic,Ie,Da,Bc,Bh,Be,za7,za8] at h')<;>try (exfalso; omega)) | (have q':=trivial; first | refine hE _ _ ret_ne ?_ | refine hE _ _ exit_ne ?_))<;>(try simp (disch:=first | omega | decide +kernel) only [q',go_sem,Qa,Qb,Qc,Qd,Qe,↓reduceIte,reduceCtorEq,Qf,Qg,Qh])<;>clear q') | refine hN _ ?_ ?_ Wk.kk | with_reducible refine And.intro ?_ ?_ | with_reducible omega | exact ok_ints | exact cells_ints | exact no_mem | with_reducible exact plain_ints | (refine le_maxLen ?_; omega) | (refine za9 ⟨?_,?_⟩) | (simp only [go_sem,Qc,Qb,zb1,zb2,forall_eq]; done)))
         all_goals (first | omega | skip)
         refine hE2 _ _ exit_ne ?_
         clear hE2
         simp (disch:=first | omega | decide +kernel) only [go_sem,Qa,Qb,Qc,Qd,Qe,↓reduceIte,reduceCtorEq,Qf,Qg,Qh]
         (repeat' (first | ((first | (refine gsel_split (fun q' => ?_) (fun q' => ?_)<;>(have h':=q')<;>(try simp only [za1,za2,Ba,Bb,za3,ne_eq,za4,za5,za6,Ia,Ib,Ic,Ie,Da,Bc,Bh,Be,za7,za8] at h')<;>try (exfalso; omega)) | (have q':=trivial; first | refine hE _ _ ret_ne ?_ | refine hE _ _ exit_ne ?_))<;>(try simp (disch:=first | omega | decide +kernel) only [q',go_sem,Qa,Qb,Qc,Qd,Qe,↓reduceIte,reduceCtorEq,Qf,Qg,Qh])<;>clear q') | refine hN _ ?_ ?_ Wk.kk | with_reducible refine And.intro ?_ ?_ | with_reducible omega | exact ok_ints | exact cells_ints | exact no_mem | with_reducible exact plain_ints | (refine le_maxLen ?_; omega) | (refine za9 ⟨?_,?_⟩) | (simp only [go_sem,Qc,Qb,zb1,zb2,forall_eq]; done)))
         all_goals (first | omega | exact hN (q++[s]) _ hlt hfin (by refine Wk.auto ?_ ?_<;>simp [extraK,lk,killL,St.kill,wipeO,wipeS,AV.has,AV.hasL,AO.wipe,List.map_set,updSt,insL,dropS,ins,List.map_append,List.map_cons,List.map_nil]))
     . obtain rfl : i=a.length:=by omega
       rw [List.take_length] at hq
       have c5:=join_ok q (ByteArray.mk #[32,43,32]) (by omega) (by rw [hq,lit3,hjt]; omega)
       rw [hq,lit3,hjt] at c5
       clear hN hq hmem
       simp (disch:=first | omega | decide +kernel) only [go_sem,Qa,Qb,Qc,Qd,Qe,↓reduceIte,reduceCtorEq,Qf,Qg,Qh]
       (repeat' (first | ((first | (refine gsel_split (fun q' => ?_) (fun q' => ?_)<;>(have h':=q')<;>(try simp only [za1,za2,Ba,Bb,za3,ne_eq,za4,za5,za6,Ia,Ib,Ic,Ie,Da,Bc,Bh,Be,za7,za8] at h')<;>try (exfalso; omega)) | (have q':=trivial; first | refine callX_new (c5) rfl (by decide) ?_ | refine callY_new (c5) rfl ?_ | refine hE _ _ ret_ne ?_ | refine hE _ _ exit_ne ?_))<;>(try simp (disch:=first | omega | decide +kernel) only [q',go_sem,Qa,Qb,Qc,Qd,Qe,↓reduceIte,reduceCtorEq,Qf,Qg,Qh])<;>clear q') | refine hN _ ?_ ?_ Wk.kk | with_reducible refine And.intro ?_ ?_ | with_reducible omega | exact ok_ints | exact cells_ints | exact no_mem | with_reducible exact plain_ints | (refine le_maxLen ?_; omega) | (refine za9 ⟨?_,?_⟩) | (simp only [go_sem,Qc,Qb,zb1,zb2,forall_eq]; done)))
       all_goals (first | omega)
set_option maxHeartbeats 8000000 in
theorem sPolyText_ok (p v : Int) (a : List (Int × Int)) (hal : a.length<=1000) : Ctr Tryd.prog 27 [.int .i64 p,.int .i64 v,D.tms a] false (.tup [.d (.str (txtR p v a)),.d (.bool (ok1 p v a))]) []:=by
 have c1:=l18Good1_ok p v a hal
 cases h1 : ok1 p v a with
 | false =>
   rw [txtR,h1,if_neg (by simp)]
   rw [h1] at c1
   refine Ctr.of (n:=60) (rs:=[.tmp 6,.tmp 7]) Tryd.func27 rfl rfl Tryd.ntmps27 rfl rfl (by kernel_rfl) Tryd.checked.mixed ?_
   simp (disch:=first | omega | decide +kernel) only [go_sem,Qa,Qb,Qc,Qd,Qe,↓reduceIte,reduceCtorEq,Qf,Qg,Qh]
   (repeat' (first | ((first | (refine gsel_split (fun q' => ?_) (fun q' => ?_)<;>(have h':=q')<;>(try simp only [za1,za2,Ba,Bb,za3,ne_eq,za4,za5,za6,Ia,Ib,Ic,Ie,Da,Bc,Bh,Be,za7,za8] at h')<;>try (exfalso; omega)) | (have q':=trivial; first | refine callX_new (c1) rfl (by decide) ?_ | refine callY_new (c1) rfl ?_ | refine hE _ _ ret_ne ?_ | refine hE _ _ exit_ne ?_))<;>(try simp (disch:=first | omega | decide +kernel) only [q',go_sem,Qa,Qb,Qc,Qd,Qe,↓reduceIte,reduceCtorEq,Qf,Qg,Qh])<;>clear q') | refine hN _ ?_ ?_ Wk.kk | with_reducible refine And.intro ?_ ?_ | with_reducible omega | exact ok_ints | exact cells_ints | exact no_mem | with_reducible exact plain_ints | (refine le_maxLen ?_; omega) | (refine za9 ⟨?_,?_⟩) | (simp only [go_sem,Qc,Qb,zb1,zb2,forall_eq]; done)))
 | true =>
   rw [h1] at c1
   obtain ⟨u,g,hn,hT⟩:=ok1_of h1
   obtain rfl:=g.hv
   have hp:=g.hp
   have hu:=g.hu
   rw [txtR,h1,if_pos rfl]
   by_cases ha0 : a=[]
   . subst ha0
     rw [if_pos rfl]
     refine Ctr.of (n:=60) (rs:=[.tmp 6,.tmp 7]) Tryd.func27 rfl rfl Tryd.ntmps27 rfl rfl (by kernel_rfl) Tryd.checked.mixed ?_
     simp (disch:=first | omega | decide +kernel) only [go_sem,Qa,Qb,Qc,Qd,Qe,↓reduceIte,reduceCtorEq,Qf,Qg,Qh]
     (repeat' (first | ((first | (refine gsel_split (fun q' => ?_) (fun q' => ?_)<;>(have h':=q')<;>(try simp only [za1,za2,Ba,Bb,za3,ne_eq,za4,za5,za6,Ia,Ib,Ic,Ie,Da,Bc,Bh,Be,za7,za8] at h')<;>try (exfalso; omega)) | (have q':=trivial; first | refine callX_new (c1) rfl (by decide) ?_ | refine callY_new (c1) rfl ?_ | refine hE _ _ ret_ne ?_ | refine hE _ _ exit_ne ?_))<;>(try simp (disch:=first | omega | decide +kernel) only [q',go_sem,Qa,Qb,Qc,Qd,Qe,↓reduceIte,reduceCtorEq,Qf,Qg,Qh])<;>clear q') | refine hN _ ?_ ?_ Wk.kk | with_reducible refine And.intro ?_ ?_ | with_reducible omega | exact ok_ints | exact cells_ints | exact no_mem | with_reducible exact plain_ints | (refine le_maxLen ?_; omega) | (refine za9 ⟨?_,?_⟩) | (simp only [go_sem,Qc,Qb,zb1,zb2,forall_eq]; done)))
   . rw [if_neg ha0]
     have hapos : 0 < a.length:=List.length_pos_iff.2 ha0
     have hTm:=isT_tms hT
     have hal6:=isT_len hu hT
     have h6:=pow_le6 hu
     have hmem:=fun i (hi : i < a.length) => mem_tms hTm hi
     have hjl:=fun i => termsL_len u hu (a.take i) (fun t ht => by have:=(hTm t (List.mem_of_mem_take ht)).2; omega)
     have htn : (u : Int).toNat=u:=Int.toNat_natCast u
     rw [htn]
     have hvb:=fun m (hm : m < 2 ^ u) => vars_bits hu hm
     clear hTm hT h1 ha0 hn
     generalize (2 : Nat) ^ u=n at *
     have hnum : ∀ k,k < 100->(numL k).length<=2:=numL_len
     refine Ctr.of (n:=60) (rs:=[.tmp 6,.tmp 7]) Tryd.func27 rfl rfl Tryd.ntmps27 rfl rfl (by kernel_rfl) Tryd.checked.mixed ?_
     simp (disch:=first | omega | decide +kernel) only [go_sem,Qa,Qb,Qc,Qd,Qe,↓reduceIte,reduceCtorEq,Qf,Qg,Qh]
     (repeat' (first | ((first | (refine gsel_split (fun q' => ?_) (fun q' => ?_)<;>(have h':=q')<;>(try simp only [za1,za2,Ba,Bb,za3,ne_eq,za4,za5,za6,Ia,Ib,Ic,Ie,Da,Bc,Bh,Be,za7,za8] at h')<;>try (exfalso; omega)) | (have q':=trivial; first | refine callX_new (c1) rfl (by decide) ?_ | refine callY_new (c1) rfl ?_ | refine hE _ _ ret_ne ?_ | refine hE _ _ exit_ne ?_))<;>(try simp (disch:=first | omega | decide +kernel) only [q',go_sem,Qa,Qb,Qc,Qd,Qe,↓reduceIte,reduceCtorEq,Qf,Qg,Qh])<;>clear q') | refine hN _ ?_ ?_ Wk.kk | with_reducible refine And.intro ?_ ?_ | with_reducible omega | exact ok_ints | exact cells_ints | exact no_mem | with_reducible exact plain_ints | (refine le_maxLen ?_; omega) | (refine za9 ⟨?_,?_⟩) | (simp only [go_sem,Qc,Qb,zb1,zb2,forall_eq]; done)))
     all_goals (first | omega | skip)
     clear c1
     refine Ok.loopN [59,58,57,56,55,54,53,52,51,50,49,48,47,46,45,44,43,42,41,40,39,38,37,36,35,34,33,32,31,30,29,28,27,26,25,24,23,22,21,20,19,18,17,16,15,14,13,12,11,10,9,8,5,4,3,1,0] (fun i (s : ByteArray) => [(9,.d (.int .i64 (i : Nat))),(8,.d (.str s))]) (fun _ _ => []) a.length
      (fun i s => BLs s=termsL u (a.take i)) (ByteArray.mk #[]) rfl (Wk.kk) ?_
     rintro R i s hN hE hi hs
     have hsz : s.size<=33 * i:=by
      rw [size_BLs,hs]
      have:=hjl i
      rw [List.length_take] at this
      omega
     by_cases hlt : i < a.length
     . have hes:=el_tm hlt
       obtain ⟨m,hm,hm1,hc⟩:=hmem i hlt
       have hsu : termsL u (a.take (i + 1))=(if i=0 then [] else termsL u (a.take i)++[32,43,32])++termL u (a.getD i (0,0)):=by
        rw [take_succ (0,0) a i hlt]
        by_cases h0 : i=0
        . subst h0; rw [if_pos rfl]; simp [termsL]
        . rw [if_neg h0,termsL_snoc u _ _ (fun e => by have:=congrArg List.length e; rw [List.length_take] at this; simp only [List.length_nil] at this; omega),List.append_assoc]
       obtain ⟨k,hk⟩:=Int.eq_ofNat_of_zero_le hc.1
       have htm : termL u (a.getD i (0,0))=numL k++varsL u m:=by rw [termL,hk,hm1]; rfl
       rw [hm1,hk] at hes
       have hk100 : k < 100:=by omega
       have c3:=l1Num_ok (k : Nat) (by omega)
       have en : numS (k : Nat)=numN k:=by unfold numS; rw [if_neg (by omega),Int.toNat_natCast]
       rw [en] at c3
       have hz1:=numN_size 1 k hk100
       have c4:=l14List_ok m (by omega)
       have hbl : (bitsZ m).length<=6:=by
        rw [bitsZ,List.length_map,bitsN]
        have:=List.length_filter_le (fun x => m.testBit x) (List.range 6)
        rwa [List.length_range] at this
       have hbz : ∀ j,j < (bitsZ m).length->∃ x : Nat,x < 6∧(bitsZ m).getD j 0=x∧(bitsN m).getD j 0=x:=fun j hj => by
        rw [bitsZ,List.length_map] at hj
        have h1:=bitsN_lt m _ (getD_mem (z:=0) hj)
        refine ⟨(bitsN m).getD j 0,h1,?_,rfl⟩
        rw [bitsZ,List.getD_eq_getElem?_getD,List.getElem?_map,List.getElem?_eq_getElem hj,List.getD_eq_getElem?_getD,List.getElem?_eq_getElem hj]; rfl
       have hvb:=hvb m hm
       rw [hvb] at htm
       rw [htm] at hsu
       have hzl : (bitsZ m).length=(bitsN m).length:=by rw [bitsZ,List.length_map]
       clear hmem hE hjl hvb htm
       have hel : ∀ j,j < (bitsZ m).length->el ((bitsZ m).map (D.int .i64)) j=.int .i64 ((bitsZ m).getD j 0):=fun j hj => el_ints hj
       generalize bitsZ m=Z at *
       generalize bitsN m=B at *
       -- the text ahead of the variables
       obtain ⟨s1,hs1,hs1z⟩ : ∃ s1 : ByteArray,s1=(if i=0 then s else s++ByteArray.mk #[32,43,32])++numN k∧s1.size<=s.size + 5:=by
        refine ⟨_,rfl,?_⟩
        have : (ByteArray.mk #[32,43,32]).size=3:=rfl
        split<;>simp only [ByteArray.size_append]<;>omega
       have hs1L : BLs s1=(if i=0 then [] else termsL u (a.take i)++[32,43,32])++numL k:=by
        rw [hs1,BLs_app]
        by_cases h0 : i=0
        . subst h0; rw [if_pos rfl,if_pos rfl,hs]; rfl
        . rw [if_neg h0,if_neg h0,BLs_app,hs,lit3]; rfl
       rw [← List.append_assoc,← hs1L] at hsu
       have hz4 : (ByteArray.mk #[32,43,32]).size=3:=rfl
       clear hs hs1L
       have key : ∀ (j : Nat) (w : ByteArray),j<=Z.length->BLs w=BLs s1++(B.take j).flatMap (fun x => [42,120]++numL (x + 1))->w.size<=s1.size + 24:=fun j w hj hw => by
        rw [size_BLs,hw,List.length_append,← size_BLs]
        have : ∀ (l : List Nat),(∀ x ∈ l,x < 6)->(l.flatMap (fun x => [42,120]++numL (x + 1))).length<=4 * l.length:=by
         intro l
         induction l with
         | nil => intro _; simp
         | cons x r ih =>
           intro h
           have h1:=ih fun y hy => h y (by simp [hy])
           have h2:=hnum (x + 1) (by have:=h x (by simp); omega)
           rw [List.flatMap_cons,List.length_append,List.length_append,List.length_cons]
           simp only [List.length_cons,List.length_nil]
           omega
        have:=this (B.take j) (fun x hx => by
         obtain ⟨q,hq,rfl⟩:=mem_getD 0 (List.mem_of_mem_take hx)
         obtain ⟨y,hy,_,e⟩:=hbz q (by omega)
         omega)
        rw [List.length_take] at this
        omega
       by_cases h0 : i=0
       all_goals
        first | (rw [if_pos h0] at hs1) | (rw [if_neg h0] at hs1)
        simp (disch:=first | omega | decide +kernel) only [hes,go_sem,Qa,Qb,Qc,Qd,Qe,↓reduceIte,reduceCtorEq,Qf,Qg,Qh]
        (repeat' (first | ((first | (refine gsel_split (fun q' => ?_) (fun q' => ?_)<;>(have h':=q')<;>(try simp only [za1,za2,Ba,Bb,za3,ne_eq,za4,za5,za6,Ia,Ib,Ic,Ie,Da,Bc,Bh,Be,za7,za8] at h')<;>try (exfalso; omega)) | (have q':=trivial; first | refine callX_new (c3) rfl (by decide) ?_ | refine callY_new (c3) rfl ?_ | refine callX_new (c4) rfl (by decide) ?_ | refine callY_new (c4) rfl ?_ | refine hE _ _ ret_ne ?_ | refine hE _ _ exit_ne ?_))<;>(try simp (disch:=first | omega | decide +kernel) only [q',hes,hz4,ByteArray.size_append,go_sem,Qa,Qb,Qc,Qd,Qe,↓reduceIte,reduceCtorEq,Qf,Qg,Qh])<;>clear q') | refine hN _ ?_ ?_ Wk.kk | with_reducible refine And.intro ?_ ?_ | with_reducible omega | exact ok_ints | exact cells_ints | exact no_mem | with_reducible exact plain_ints | (refine le_maxLen ?_; omega) | (refine za9 ⟨?_,?_⟩) | (simp only [go_sem,Qc,Qb,zb1,zb2,forall_eq]; done)))
        all_goals (first | omega | skip)
        rw [← hs1]
        refine Ok.loopN [58,57,56,55,54,53,52,51,50,49,48,47,46,45,44,19,18,17,16,15,14,13,12,11,8,5,4,3,1,0] (fun j (w : ByteArray) => [(11,.d (.int .i64 (j : Nat))),(8,.d (.str w))]) (fun _ _ => []) Z.length (fun j w => BLs w=BLs s1++(B.take j).flatMap (fun x => [42,120]++numL (x + 1))) s1 (by simp) (Wk.kk) ?_
        rintro R2 j w hN2 hE2 hj hw
        have hwz:=key j w hj hw
        by_cases hjt : j < Z.length
        . obtain ⟨x,hx6,hx1,hx2⟩:=hbz j hjt
          have hez:=hel j hjt
          rw [hx1] at hez
          have c5:=l1Num_ok ((x + 1 : Nat) : Int) (by omega)
          have en5 : numS ((x + 1 : Nat) : Int)=numN (x + 1):=by unfold numS; rw [if_neg (by omega),Int.toNat_natCast]
          rw [en5] at c5
          have hz5:=numN_size 1 (x + 1) (by omega)
          have he2 : (x : Int) + 1=((x + 1 : Nat) : Int):=by omega
          have hz6 : (ByteArray.mk #[42,120]).size=2:=rfl
          have hfin : BLs (w++ByteArray.mk #[42,120]++numN (x + 1))=BLs s1++(B.take (j + 1)).flatMap (fun x => [42,120]++numL (x + 1)):=by
           rw [BLs_app,BLs_app,hw,lit2,take_succ 0 B j (by omega),List.flatMap_append,hx2,List.flatMap_cons,List.flatMap_nil,List.append_nil]
           simp only [List.append_assoc]; rfl
          clear hN hE2 key hw hbz hel c3 c4 hsu
          simp (disch:=first | omega | decide +kernel) only [hez,he2,Int.toNat_natCast,go_sem,Qa,Qb,Qc,Qd,Qe,↓reduceIte,reduceCtorEq,Qf,Qg,Qh]
          (repeat' (first | ((first | (refine gsel_split (fun q' => ?_) (fun q' => ?_)<;>(have h':=q')<;>(try simp only [za1,za2,Ba,Bb,za3,ne_eq,za4,za5,za6,Ia,Ib,Ic,Ie,Da,Bc,Bh,Be,za7,za8] at h')<;>try (exfalso; omega)) | (have q':=trivial; first | refine callX_new (c5) rfl (by decide) ?_ | refine callY_new (c5) rfl ?_ | refine hE _ _ ret_ne ?_ | refine hE _ _ exit_ne ?_))<;>(try simp (disch:=first | omega | decide +kernel) only [q',hez,he2,Int.toNat_natCast,hz6,ByteArray.size_append,go_sem,Qa,Qb,Qc,Qd,Qe,↓reduceIte,reduceCtorEq,Qf,Qg,Qh])<;>clear q') | refine hN _ ?_ ?_ Wk.kk | with_reducible refine And.intro ?_ ?_ | with_reducible omega | exact ok_ints | exact cells_ints | exact no_mem | with_reducible exact plain_ints | (refine le_maxLen ?_; omega) | (refine za9 ⟨?_,?_⟩) | (simp only [go_sem,Qc,Qb,zb1,zb2,forall_eq]; done)))
          all_goals (first | omega | exact hN2 _ _ hjt hfin (by refine Wk.auto ?_ ?_<;>simp [extraK,lk,killL,St.kill,wipeO,wipeS,AV.has,AV.hasL,AO.wipe,List.map_set,updSt,insL,dropS,ins,]))
        . obtain rfl : j=Z.length:=by omega
          rw [hzl,List.take_length,← hsu] at hw
          clear hN2
          simp (disch:=first | omega | decide +kernel) only [go_sem,Qa,Qb,Qc,Qd,Qe,↓reduceIte,reduceCtorEq,Qf,Qg,Qh]
          (repeat' (first | ((first | (refine gsel_split (fun q' => ?_) (fun q' => ?_)<;>(have h':=q')<;>(try simp only [za1,za2,Ba,Bb,za3,ne_eq,za4,za5,za6,Ia,Ib,Ic,Ie,Da,Bc,Bh,Be,za7,za8] at h')<;>try (exfalso; omega)) | (have q':=trivial; first | refine hE _ _ ret_ne ?_ | refine hE _ _ exit_ne ?_))<;>(try simp (disch:=first | omega | decide +kernel) only [q',go_sem,Qa,Qb,Qc,Qd,Qe,↓reduceIte,reduceCtorEq,Qf,Qg,Qh])<;>clear q') | refine hN _ ?_ ?_ Wk.kk | with_reducible refine And.intro ?_ ?_ | with_reducible omega | exact ok_ints | exact cells_ints | exact no_mem | with_reducible exact plain_ints | (refine le_maxLen ?_; omega) | (refine za9 ⟨?_,?_⟩) | (simp only [go_sem,Qc,Qb,zb1,zb2,forall_eq]; done)))
          all_goals (first | omega | skip)
          refine hE2 _ _ exit_ne ?_
          clear hE2
          simp (disch:=first | omega | decide +kernel) only [go_sem,Qa,Qb,Qc,Qd,Qe,↓reduceIte,reduceCtorEq,Qf,Qg,Qh]
          (repeat' (first | ((first | (refine gsel_split (fun q' => ?_) (fun q' => ?_)<;>(have h':=q')<;>(try simp only [za1,za2,Ba,Bb,za3,ne_eq,za4,za5,za6,Ia,Ib,Ic,Ie,Da,Bc,Bh,Be,za7,za8] at h')<;>try (exfalso; omega)) | (have q':=trivial; first | refine hE _ _ ret_ne ?_ | refine hE _ _ exit_ne ?_))<;>(try simp (disch:=first | omega | decide +kernel) only [q',go_sem,Qa,Qb,Qc,Qd,Qe,↓reduceIte,reduceCtorEq,Qf,Qg,Qh])<;>clear q') | refine hN _ ?_ ?_ Wk.kk | with_reducible refine And.intro ?_ ?_ | with_reducible omega | exact ok_ints | exact cells_ints | exact no_mem | with_reducible exact plain_ints | (refine le_maxLen ?_; omega) | (refine za9 ⟨?_,?_⟩) | (simp only [go_sem,Qc,Qb,zb1,zb2,forall_eq]; done)))
          all_goals (first | omega | exact hN w _ hlt hw (by refine Wk.auto ?_ ?_<;>simp [extraK,lk,killL,St.kill,wipeO,wipeS,AV.has,AV.hasL,AO.wipe,List.map_set,updSt,insL,dropS,ins,]))
     . obtain rfl : i=a.length:=by omega
       rw [List.take_length] at hs
       have hsf : s=⟨(termsL u a).toArray⟩:=ext_BLs (by rw [hs])
       subst hsf
       clear hN hs hmem
       simp (disch:=first | omega | decide +kernel) only [go_sem,Qa,Qb,Qc,Qd,Qe,↓reduceIte,reduceCtorEq,Qf,Qg,Qh]
       (repeat' (first | ((first | (refine gsel_split (fun q' => ?_) (fun q' => ?_)<;>(have h':=q')<;>(try simp only [za1,za2,Ba,Bb,za3,ne_eq,za4,za5,za6,Ia,Ib,Ic,Ie,Da,Bc,Bh,Be,za7,za8] at h')<;>try (exfalso; omega)) | (have q':=trivial; first | refine hE _ _ ret_ne ?_ | refine hE _ _ exit_ne ?_))<;>(try simp (disch:=first | omega | decide +kernel) only [q',go_sem,Qa,Qb,Qc,Qd,Qe,↓reduceIte,reduceCtorEq,Qf,Qg,Qh])<;>clear q') | refine hN _ ?_ ?_ Wk.kk | with_reducible refine And.intro ?_ ?_ | with_reducible omega | exact ok_ints | exact cells_ints | exact no_mem | with_reducible exact plain_ints | (refine le_maxLen ?_; omega) | (refine za9 ⟨?_,?_⟩) | (simp only [go_sem,Qc,Qb,zb1,zb2,forall_eq]; done)))
       all_goals (first | omega)
end Abs.Y

namespace Abs.Y
open Go Go.Proofs Abs
set_option maxRecDepth 100000

theorem r_bytes {x : D} (h : isSl isU8 x) : ∃ code : List Int,x=D.bytes code∧∀ i,0<=code.getD i 0∧code.getD i 0 < 256:=by
 obtain ⟨es,rfl,_,hes⟩:=h
 have key : ∀ es : List D,(∀ e ∈ es,isU8 e)->∃ code : List Int,es=code.map (D.int .u8)∧∀ b ∈ code,0<=b∧b < 256:=by
  intro es
  induction es with
  | nil => exact fun _ => ⟨[],rfl,fun _ h => by cases h⟩
  | cons e r ih =>
    intro h
    obtain ⟨n,rfl,h1,h2⟩:=h e (by simp)
    obtain ⟨c,rfl,hc⟩:=ih fun x hx => h x (by simp [hx])
    exact ⟨n :: c,rfl,fun b hb => by
     rcases List.mem_cons.1 hb with rfl | hb
     . omega
     . exact hc b hb⟩
 obtain ⟨code,rfl,hc⟩:=key es hes
 refine ⟨code,rfl,fun i => ?_⟩
 by_cases hi : i < code.length
 . exact hc _ (getD_mem hi)
 . simp [List.getD_eq_getElem?_getD,List.getElem?_eq_none (show code.length<=i by omega)]
end Abs.Y

namespace Abs
open Go Go.RowKit
theorem Ok.seqJ {P : Program} {N : Nat} {x y : Code} {Q : Exit->St->Prop} {st : St} (Sc : St) (h1 : Ok P N y Q Sc) (h2 : Ok P N x (fun e s => (e=.normal∧Wk N s Sc)∨(e ≠ .normal∧Q e s)) st) : Ok P N (.seq x y) Q st :=
 Ok.seq (h2.mono fun e s h => by
  cases e with
  | normal =>
    rcases h with ⟨_,h⟩ | ⟨h,_⟩
    . exact Ok.weak h h1
    . exact absurd rfl h
  | _ =>
    rcases h with ⟨h,_⟩ | ⟨_,h⟩
    . cases h
    . exact h)
end Abs
