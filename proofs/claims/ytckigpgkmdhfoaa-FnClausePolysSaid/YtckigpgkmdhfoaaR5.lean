/- What functions of this program compute, over plain data. No condition. -/
import Derived.Test.YtckigpgkmdhfoaaST2
import Derived.Test.YtckigpgkmdhfoaaG3
import Derived.Test.YtckigpgkmdhfoaaV1
set_option linter.all false
namespace Abs.Y
open Go Go.Proofs Abs
open Nat renaming reduceEqDiff -> Qa, reduceLT -> Qb, reduceAdd -> Qc, reduceMul -> Qd, reduceSub -> Qe, reduceLeDiff -> Qf, reduceSubDiff -> Qg, reduceBEq -> Qh
open Bool renaming not_eq_true' -> Ba, not_eq_false' -> Bb, and_eq_true -> Bc, or_eq_true -> Bh, or_eq_false_iff -> Be
open Int renaming ofNat_lt -> Ia, ofNat_le -> Ib, not_lt -> Ic, not_le -> Ie
open Decidable renaming not_not -> Da
set_option maxRecDepth 100000

@[reducible] def QS (n : Nat) : AV->Prop:=fun r => ∃ s : ByteArray,r=.d (.str s)∧s.size<=n
theorem size_lit1 : (ByteArray.mk #[32]).size=1:=rfl
theorem size_lit2 : (ByteArray.mk #[59,32]).size=2:=rfl
theorem size_none : (ByteArray.mk #[110,111,110,101]).size=4:=rfl
theorem l2Text_ok (c : List Int) (hl : c.length<=1000) (hb : ∀ l ∈ c,-999999<=l∧l<=999999) : CtrR Try.prog 185 [.d (.ints c)] [] [] false fun r oo => oo=[]∧QS 30000 r:=by
 have c1:=fun (i : Nat) (hi : i < c.length) => l1Num_ok (c.getD i 0) (by have:=hb _ (getD_mem (z:=(0 : Int)) hi); omega)
 have hz:=fun (i : Nat) (hi : i < c.length) => numS_size (n:=c.getD i 0) (by have:=hb _ (getD_mem (z:=(0 : Int)) hi); omega)
 have hei : ∀ i,i < c.length->el (c.map (D.int .i64)) i=.int .i64 (c.getD i 0):=fun i hi => el_ints hi
 have t0 : Int.toNat 0=0:=rfl
 refine CtrR.of (n:=27) (rs:=[.tmp 2]) Try.func185 rfl rfl Try.ntmps185 rfl rfl (by kernel_rfl) Try.checked.mixed ?_; intro u
 simp (disch:=first | omega | decide +kernel) only [D.ints,t0,go_sem,Qa,Qb,Qc,Qd,Qe,↓reduceIte,reduceCtorEq,Qf,Qg,Qh]
 (repeat' (first | ((first | (refine gsel_split (fun q' => ?_) (fun q' => ?_)<;>(have h':=q')<;>(try simp only [za1,za2,Ba,Bb,za3,ne_eq,za4,za5,za6,Ia,Ib,Ic,Ie,Da,Bc,Bh,Be,za7,za8] at h')<;>try (exfalso; omega)) | (have q':=trivial; first | refine callX_new (c1 0 (by omega)) rfl (by decide) ?_ | refine callY_new (c1 0 (by omega)) rfl ?_ | refine hE _ _ ret_ne ?_ | refine hE _ _ exit_ne ?_))<;>(try simp (disch:=first | omega | decide +kernel) only [q',D.ints,t0,hei,go_sem,Qa,Qb,Qc,Qd,Qe,↓reduceIte,reduceCtorEq,Qf,Qg,Qh])<;>clear q') | refine hN _ ?_ ?_ Wk.kk | with_reducible refine And.intro ?_ ?_ | with_reducible omega | exact ok_ints | exact cells_ints | exact no_mem | with_reducible exact plain_ints | (refine le_maxLen ?_; omega) | (refine za9 ⟨?_,?_⟩) | (simp only [go_sem,Qc,Qb,zb1,zb2,forall_eq]; done)))
 all_goals (first | exact retR_p rfl rfl ⟨rfl,_,rfl,by rw [size_none]; omega⟩ | skip)
 refine Ok.loopN [26,25,24,23,22,21,20,19,18,17,16,15,14,13,12,11,10,9,8,7,6,5,4,3] (fun i (s : ByteArray) => [(4,.d (.int .i64 ((i + 1 : Nat) : Int))),(3,.d (.str s))]) (fun _ _ => []) (c.length - 1) (fun i s => s.size<=20 * (i + 1)) (numS (c.getD 0 0)) (by have:=hz 0 (by omega); omega) (Wk.kk) ?_
 rintro R i s hN hE hi hs
 by_cases hlt : i + 1 < c.length
 . have hz1:=hz (i + 1) hlt
   have c2:=c1 (i + 1) hlt
   have hei2:=hei (i + 1) hlt
   clear c1 hz hei
   have hsz : (s++ByteArray.mk #[32]).size<=25000:=by rw [ByteArray.size_append,size_lit1]; omega
   simp (disch:=first | omega | decide +kernel) only [Int.toNat_natCast,D.ints,go_sem,Qa,Qb,Qc,Qd,Qe,↓reduceIte,reduceCtorEq,Qf,Qg,Qh]
   (repeat' (first | ((first | (refine gsel_split (fun q' => ?_) (fun q' => ?_)<;>(have h':=q')<;>(try simp only [za1,za2,Ba,Bb,za3,ne_eq,za4,za5,za6,Ia,Ib,Ic,Ie,Da,Bc,Bh,Be,za7,za8] at h')<;>try (exfalso; omega)) | (have q':=trivial; first | refine callX_new (c2) rfl (by decide) ?_ | refine callY_new (c2) rfl ?_ | refine hE _ _ ret_ne ?_ | refine hE _ _ exit_ne ?_))<;>(try simp (disch:=first | omega | decide +kernel) only [q',Int.toNat_natCast,D.ints,hei2,ByteArray.size_append,size_lit1,go_sem,Qa,Qb,Qc,Qd,Qe,↓reduceIte,reduceCtorEq,Qf,Qg,Qh])<;>clear q') | refine hN _ ?_ ?_ Wk.kk | with_reducible refine And.intro ?_ ?_ | with_reducible omega | exact ok_ints | exact cells_ints | exact no_mem | with_reducible exact plain_ints | (refine le_maxLen ?_; omega) | (refine za9 ⟨?_,?_⟩) | (simp only [go_sem,Qc,Qb,zb1,zb2,forall_eq]; done)))
   all_goals (first | (refine hN (s++ByteArray.mk #[32]++numS (c.getD (i + 1) 0)) _ (by omega) (by rw [ByteArray.size_append,ByteArray.size_append,size_lit1]; omega) (by refine Wk.auto ?_ ?_<;>simp [extraK,lk,killL,St.kill,wipeO,wipeS,AV.has,AV.hasL,AO.wipe,List.map_set,updSt,insL,dropS,ins,])))
 . have : i + 1=c.length:=by omega
   simp (disch:=first | omega | decide +kernel) only [Int.toNat_natCast,D.ints,go_sem,Qa,Qb,Qc,Qd,Qe,↓reduceIte,reduceCtorEq,Qf,Qg,Qh]
   (repeat' (first | ((first | (refine gsel_split (fun q' => ?_) (fun q' => ?_)<;>(have h':=q')<;>(try simp only [za1,za2,Ba,Bb,za3,ne_eq,za4,za5,za6,Ia,Ib,Ic,Ie,Da,Bc,Bh,Be,za7,za8] at h')<;>try (exfalso; omega)) | (have q':=trivial; first | refine hE _ _ ret_ne ?_ | refine hE _ _ exit_ne ?_))<;>(try simp (disch:=first | omega | decide +kernel) only [q',Int.toNat_natCast,D.ints,go_sem,Qa,Qb,Qc,Qd,Qe,↓reduceIte,reduceCtorEq,Qf,Qg,Qh])<;>clear q') | refine hN _ ?_ ?_ Wk.kk | with_reducible refine And.intro ?_ ?_ | with_reducible omega | exact ok_ints | exact cells_ints | exact no_mem | with_reducible exact plain_ints | (refine le_maxLen ?_; omega) | (refine za9 ⟨?_,?_⟩) | (simp only [go_sem,Qc,Qb,zb1,zb2,forall_eq]; done)))
   all_goals (first | exact retR_p rfl rfl ⟨rfl,_,rfl,by omega⟩)
theorem l2Parse_ok (v : Int) (s : ByteArray) (hs : s.size<=1000000) : NewR 169 [.d (.int .i64 v),.d (.str s)] fun x => x.1.length<=13∧(∀ l ∈ x.1,-999999<=l∧l<=999999)∧(x.2=true->okClause v x.1=true):=by
 have c1:=l1Split_ok s 32 hs
 obtain ⟨b1,b2,b3⟩:=splI_bd s 32
 generalize splI s 32=ps at *
 have c2:=l2Vars_ok v
 have ok0 : okVars v=true->okClause v []=true:=fun h => by unfold okClause; rw [h]; simp
 refine CtrR.of (n:=61) (rs:=[.tmp 4,.tmp 5]) Try.func169 rfl rfl Try.ntmps169 rfl rfl (by kernel_rfl) Try.checked.mixed ?_; intro u
 simp (disch:=first | omega | decide +kernel) only [go_sem,Qa,Qb,Qc,Qd,Qe,↓reduceIte,reduceCtorEq,Qf,Qg,Qh]
 (repeat' (first | ((first | (refine gsel_split (fun q' => ?_) (fun q' => ?_)<;>(have h':=q')<;>(try simp only [za1,za2,Ba,Bb,za3,ne_eq,za4,za5,za6,Ia,Ib,Ic,Ie,Da,Bc,Bh,Be,za7,za8] at h')<;>try (exfalso; omega)) | (have q':=trivial; first | refine callX_new (c1) rfl (by decide) ?_ | refine callY_new (c1) rfl ?_ | refine callX_new (c2) rfl (by decide) ?_ | refine callY_new (c2) rfl ?_ | refine hE _ _ ret_ne ?_ | refine hE _ _ exit_ne ?_))<;>(try simp (disch:=first | omega | decide +kernel) only [q',go_sem,Qa,Qb,Qc,Qd,Qe,↓reduceIte,reduceCtorEq,Qf,Qg,Qh])<;>clear q') | refine hN _ ?_ ?_ Wk.kk | with_reducible refine And.intro ?_ ?_ | with_reducible omega | exact ok_ints | exact cells_ints | exact no_mem | with_reducible exact plain_ints | (refine le_maxLen ?_; omega) | (refine za9 ⟨?_,?_⟩) | (simp only [go_sem,Qc,Qb,zb1,zb2,forall_eq]; done)))
 all_goals (first | exact retR_sb (i:=11) rfl rfl rfl (fun _ => rfl) ⟨([],okVars v),rfl,rfl,by simp,by simp,ok0⟩ | skip)
 refine Ok.loopN [60,59,58,57,56,55,54,53,52,51,50,49,48,47,46,45,44,43,42,41,40,39,38,37,36,35,34,33,32,31,30,29,28,27,26,25,24,23,22,21,20,19,18,17,16,15,14,13,12,11,10,9,8,6,3] (fun i (_ : List Int) => [(8,.d (.int .i64 (i : Nat))),(6,.sl 11)]) (fun _ (o : List Int) => [(11,.arr 3 1 (o.map (.int .i64)))]) (min ps.length 13) (fun i o => o.length=i∧∀ l ∈ o,-999999<=l∧l<=999999) [] ⟨rfl,fun l hl => nomatch hl⟩ (Wk.kk) ?_
 rintro R i o hN hE hi ⟨ho1,ho2⟩
 by_cases hlt : i < ps.length∧i < 13
 . have hei : el (ps.map D.str) i=.str (ps.getD i ByteArray.empty):=el_map (f:=D.str) ByteArray.empty hlt.1
   have c3:=l1Read_ok (ps.getD i ByteArray.empty) (by have:=b3 _ (getD_mem (z:=ByteArray.empty) hlt.1); omega)
   simp (disch:=first | omega | decide +kernel) only [Int.toNat_natCast,go_sem,Qa,Qb,Qc,Qd,Qe,↓reduceIte,reduceCtorEq,Qf,Qg,Qh]
   (repeat' (first | ((first | (refine gsel_split (fun q' => ?_) (fun q' => ?_)<;>(have h':=q')<;>(try simp only [za1,za2,Ba,Bb,za3,ne_eq,za4,za5,za6,Ia,Ib,Ic,Ie,Da,Bc,Bh,Be,za7,za8] at h')<;>try (exfalso; omega)) | (have q':=trivial; first | (refine callX_rels (c3) ⟨.inl rfl,trivial⟩ (by simp [dstB]) ?_; rintro _ ⟨xa,rfl,hxa⟩) | (refine callX_rels (c3) ⟨.inr ⟨rfl,_,rfl,rfl⟩,trivial⟩ (by simp [dstB]) ?_; rintro _ ⟨xa,rfl,hxa⟩) | refine hE _ _ ret_ne ?_ | refine hE _ _ exit_ne ?_))<;>(try simp (disch:=first | omega | decide +kernel) only [q',Int.toNat_natCast,hei,go_sem,Qa,Qb,Qc,Qd,Qe,↓reduceIte,reduceCtorEq,Qf,Qg,Qh])<;>clear q') | refine hN _ ?_ ?_ Wk.kk | with_reducible refine And.intro ?_ ?_ | with_reducible omega | exact ok_ints | exact cells_ints | exact no_mem | with_reducible exact plain_ints | (refine le_maxLen ?_; omega) | (refine za9 ⟨?_,?_⟩) | (simp only [go_sem,Qc,Qb,zb1,zb2,forall_eq]; done)))
   all_goals (first | exact retR_sb (i:=39) rfl rfl rfl (fun _ => rfl) ⟨([],false),rfl,rfl,by simp,by simp,fun h => nomatch h⟩ | skip)
   all_goals (first | (refine hN (o++[xa.1]) _ (by omega) ⟨by simp [ho1],fun l hl => ?_⟩ (by refine Wk.auto ?_ ?_<;>simp [extraK,lk,killL,St.kill,wipeO,wipeS,AV.has,AV.hasL,AO.wipe,List.map_set,updSt,insL,dropS,ins,List.map_append,List.map_cons,List.map_nil]); rcases List.mem_append.1 hl with hl | hl; exact ho2 l hl; rw [List.mem_singleton] at hl; subst hl; exact hxa))
 . have c4:=l2Clause_ok v o (by omega)
   have c5:=l2Text_ok o (by omega) ho2
   simp only [D.ints] at c4 c5
   simp (disch:=first | omega | decide +kernel) only [Int.toNat_natCast,go_sem,Qa,Qb,Qc,Qd,Qe,↓reduceIte,reduceCtorEq,Qf,Qg,Qh]
   (repeat' (first | ((first | (refine gsel_split (fun q' => ?_) (fun q' => ?_)<;>(have h':=q')<;>(try simp only [za1,za2,Ba,Bb,za3,ne_eq,za4,za5,za6,Ia,Ib,Ic,Ie,Da,Bc,Bh,Be,za7,za8] at h')<;>try (exfalso; omega)) | (have q':=trivial; first | refine callX_new (c4) rfl (by decide) ?_ | refine callY_new (c4) rfl ?_ | (refine callX_rels (c5) ⟨.inl rfl,trivial⟩ (by simp [dstB]) ?_; rintro _ ⟨xa,rfl,hxa⟩) | (refine callX_rels (c5) ⟨.inr ⟨rfl,_,rfl,rfl⟩,trivial⟩ (by simp [dstB]) ?_; rintro _ ⟨xa,rfl,hxa⟩) | refine hE _ _ ret_ne ?_ | refine hE _ _ exit_ne ?_))<;>(try simp (disch:=first | omega | decide +kernel) only [q',Int.toNat_natCast,D.ints,go_sem,Qa,Qb,Qc,Qd,Qe,↓reduceIte,reduceCtorEq,Qf,Qg,Qh])<;>clear q') | refine hN _ ?_ ?_ Wk.kk | with_reducible refine And.intro ?_ ?_ | with_reducible omega | exact ok_ints | exact cells_ints | exact no_mem | with_reducible exact plain_ints | (refine le_maxLen ?_; omega) | (refine za9 ⟨?_,?_⟩) | (simp only [go_sem,Qc,Qb,zb1,zb2,forall_eq]; done)))
   all_goals (first | exact retR_sb (i:=59) rfl rfl rfl (fun _ => rfl) ⟨([],false),rfl,rfl,by simp,by simp,fun h => nomatch h⟩ | exact retR_sb (i:=11) rfl rfl rfl (fun _ => rfl) ⟨(o,true),rfl,rfl,by dsimp only; omega,ho2,fun _ => by assumption⟩)
end Abs.Y

namespace Abs.Y
open Go Go.Proofs Abs
open Nat renaming reduceEqDiff -> Qa, reduceLT -> Qb, reduceAdd -> Qc, reduceMul -> Qd, reduceSub -> Qe, reduceLeDiff -> Qf, reduceSubDiff -> Qg, reduceBEq -> Qh
open Bool renaming not_eq_true' -> Ba, not_eq_false' -> Bb, and_eq_true -> Bc, or_eq_true -> Bh, or_eq_false_iff -> Be
open Int renaming ofNat_lt -> Ia, ofNat_le -> Ib, not_lt -> Ic, not_le -> Ie
open Decidable renaming not_not -> Da
set_option maxRecDepth 100000

theorem l2TextOf_ok (w : Int) (cs : List (List Int)) (hu : 0<=w∧w<=12) (hl : cs.length<=1000) (hc : ∀ c ∈ cs,c.length<=1000∧∀ l ∈ c,-999999<=l∧l<=999999) :
 CtrR Try.prog 170 [.d (.agg [.int .i64 w,.slice (cs.map D.ints)])] [] [] false fun r oo => oo=[]∧QS 1000000000 r:=by
 have c1:=l1Num_ok w (by omega)
 have z1:=numS_size (n:=w) (by omega)
 refine CtrR.of (n:=25) (rs:=[.tmp 2]) Try.func170 rfl rfl Try.ntmps170 rfl rfl (by kernel_rfl) Try.checked.mixed ?_; intro u
 simp (disch:=first | omega | decide +kernel) only [go_sem,Qa,Qb,Qc,Qd,Qe,↓reduceIte,reduceCtorEq,Qf,Qg,Qh]
 (repeat' (first | ((first | (refine gsel_split (fun q' => ?_) (fun q' => ?_)<;>(have h':=q')<;>(try simp only [za1,za2,Ba,Bb,za3,ne_eq,za4,za5,za6,Ia,Ib,Ic,Ie,Da,Bc,Bh,Be,za7,za8] at h')<;>try (exfalso; omega)) | (have q':=trivial; first | refine callX_new (c1) rfl (by decide) ?_ | refine callY_new (c1) rfl ?_ | refine hE _ _ ret_ne ?_ | refine hE _ _ exit_ne ?_))<;>(try simp (disch:=first | omega | decide +kernel) only [q',go_sem,Qa,Qb,Qc,Qd,Qe,↓reduceIte,reduceCtorEq,Qf,Qg,Qh])<;>clear q') | refine hN _ ?_ ?_ Wk.kk | with_reducible refine And.intro ?_ ?_ | with_reducible omega | exact ok_ints | exact cells_ints | exact no_mem | with_reducible exact plain_ints | (refine le_maxLen ?_; omega) | (refine za9 ⟨?_,?_⟩) | (simp only [go_sem,Qc,Qb,zb1,zb2,forall_eq]; done)))
 refine Ok.loopN [24,23,22,21,20,19,18,17,16,15,14,13,12,11,10,9,8,7,6,5,4,3] (fun i (s : ByteArray) => [(4,.d (.int .i64 (i : Nat))),(3,.d (.str s))]) (fun _ _ => []) cs.length (fun i s => s.size<=40000 * (i + 1)) (numS w) (by omega) (Wk.kk) ?_
 rintro R i s hN hE hi hs
 by_cases hlt : i < cs.length
 . have hm:=getD_mem (z:=([] : List Int)) hlt
   have c2:=l2Text_ok (cs.getD i []) (hc _ hm).1 (hc _ hm).2
   have hei:=el_intss (xs:=cs) hlt
   simp (disch:=first | omega | decide +kernel) only [Int.toNat_natCast,hei,List.length_map,go_sem,Qa,Qb,Qc,Qd,Qe,↓reduceIte,reduceCtorEq,Qf,Qg,Qh]
   (repeat' (first | ((first | (refine gsel_split (fun q' => ?_) (fun q' => ?_)<;>(have h':=q')<;>(try simp only [za1,za2,Ba,Bb,za3,ne_eq,za4,za5,za6,Ia,Ib,Ic,Ie,Da,Bc,Bh,Be,za7,za8] at h')<;>try (exfalso; omega)) | (have q':=trivial; first | (refine callX_rels (c2) ⟨.inl rfl,trivial⟩ (by simp [dstB]) ?_; rintro _ ⟨xa,rfl,hxa⟩) | (refine callX_rels (c2) ⟨.inr ⟨rfl,_,rfl,rfl⟩,trivial⟩ (by simp [dstB]) ?_; rintro _ ⟨xa,rfl,hxa⟩) | refine hE _ _ ret_ne ?_ | refine hE _ _ exit_ne ?_))<;>(try simp (disch:=first | omega | decide +kernel) only [q',Int.toNat_natCast,hei,List.length_map,ByteArray.size_append,size_lit2,go_sem,Qa,Qb,Qc,Qd,Qe,↓reduceIte,reduceCtorEq,Qf,Qg,Qh])<;>clear q') | refine hN _ ?_ ?_ Wk.kk | with_reducible refine And.intro ?_ ?_ | with_reducible omega | exact ok_ints | exact cells_ints | exact no_mem | with_reducible exact plain_ints | (refine le_maxLen ?_; omega) | (refine za9 ⟨?_,?_⟩) | (simp only [go_sem,Qc,Qb,zb1,zb2,forall_eq]; done)))
   all_goals (first | (refine hN (s++ByteArray.mk #[59,32]++xa) _ (by omega) (by rw [ByteArray.size_append,ByteArray.size_append,size_lit2]; omega) (by refine Wk.auto ?_ ?_<;>simp [extraK,lk,killL,St.kill,wipeO,wipeS,AV.has,AV.hasL,AO.wipe,List.map_set,updSt,insL,dropS,ins,])))
 . simp (disch:=first | omega | decide +kernel) only [Int.toNat_natCast,List.length_map,go_sem,Qa,Qb,Qc,Qd,Qe,↓reduceIte,reduceCtorEq,Qf,Qg,Qh]
   (repeat' (first | ((first | (refine gsel_split (fun q' => ?_) (fun q' => ?_)<;>(have h':=q')<;>(try simp only [za1,za2,Ba,Bb,za3,ne_eq,za4,za5,za6,Ia,Ib,Ic,Ie,Da,Bc,Bh,Be,za7,za8] at h')<;>try (exfalso; omega)) | (have q':=trivial; first | refine hE _ _ ret_ne ?_ | refine hE _ _ exit_ne ?_))<;>(try simp (disch:=first | omega | decide +kernel) only [q',Int.toNat_natCast,List.length_map,go_sem,Qa,Qb,Qc,Qd,Qe,↓reduceIte,reduceCtorEq,Qf,Qg,Qh])<;>clear q') | refine hN _ ?_ ?_ Wk.kk | with_reducible refine And.intro ?_ ?_ | with_reducible omega | exact ok_ints | exact cells_ints | exact no_mem | with_reducible exact plain_ints | (refine le_maxLen ?_; omega) | (refine za9 ⟨?_,?_⟩) | (simp only [go_sem,Qc,Qb,zb1,zb2,forall_eq]; done)))
   all_goals (first | exact retR_p rfl rfl ⟨rfl,_,rfl,by omega⟩)
structure FOK (u : Int) (cs : List (List Int)) : Prop where
 v : 0<=u∧u<=12
 n : cs.length<=60
 k : ∀ c ∈ cs,okClause u c=true
theorem FOK.nil : FOK 0 []:=⟨by omega,by simp,fun _ h => nomatch h⟩
theorem bd12 {u : Int} {c : List Int} (h : okClause u c=true) : c.length<=12∧∀ l ∈ c,-999999<=l∧l<=999999:=by
 simp only [okClause,Bc,decide_eq_true_eq] at h
 obtain ⟨hv,hc⟩:=h
 rw [okVars_iff] at hv
 have hlt : ∀ j,j < c.length->j < (c.getD j 0).natAbs:=by
  intro j
  induction j with
  | zero => intro hj; have:=(hc 0 hj).1.1; omega
  | succ j ih =>
    intro hj
    have h1:=(hc (j + 1) hj).2 (by omega)
    rw [Nat.add_sub_cancel] at h1
    have:=ih (by omega)
    omega
 refine ⟨?_,fun l hl => ?_⟩
 . by_cases h0 : c.length=0
   . omega
   . have:=hlt (c.length - 1) (by omega)
     have:=(hc (c.length - 1) (by omega)).1
     omega
 . obtain ⟨j,hj,rfl⟩:=List.mem_iff_getElem.1 hl
   have:=(hc j hj).1
   rw [show c.getD j 0=c[j] by simp [List.getD_eq_getElem?_getD,hj]] at this
   omega
theorem parseCnf_ok (s : ByteArray) (hs : s.size<=1000000) : CtrR Try.prog 163 [.d (.str s)] [] [] true fun r oo => oo=[]∧∃ x : (Int × List (List Int)) × Bool,r=.tup [.d (.agg [.int .i64 x.1.1,.slice (x.1.2.map D.ints)]),.d (.bool x.2)]∧FOK x.1.1 x.1.2:=by
 have c1:=l1Split_ok s 59 hs
 obtain ⟨b1,b2,b3⟩:=splI_bd s 59
 generalize splI s 59=ps at *
 have hei : ∀ i,i < ps.length->el (ps.map D.str) i=.str (ps.getD i ByteArray.empty):=fun i hi => el_map (f:=D.str) ByteArray.empty hi
 have hz : ∀ i,i < ps.length->(ps.getD i ByteArray.empty).size<=1000000:=fun i hi => by have:=b3 _ (getD_mem (z:=ByteArray.empty) hi); omega
 have c2:=l1Read_ok (ps.getD 0 ByteArray.empty) (hz 0 (by omega))
 have c3:=fun v : Int => l2Vars_ok v
 have t0 : Int.toNat 0=0:=rfl
 refine CtrR.ofO (n:=82) (rs:=[.cell 2 26,.tmp 3]) Try.func163 rfl rfl Try.ntmps163 rfl rfl (by kernel_rfl) Try.checked.mixed ?_; intro u
 refine Ok.endsW ?_
 refine Ok.go ?_
 simp (disch:=first | omega | decide +kernel) only [t0,go_sem,Qa,Qb,Qc,Qd,Qe,↓reduceIte,reduceCtorEq,Qf,Qg,Qh]
 (repeat' (first | ((first | (refine gsel_split (fun q' => ?_) (fun q' => ?_)<;>(have h':=q')<;>(try simp only [za1,za2,Ba,Bb,za3,ne_eq,za4,za5,za6,Ia,Ib,Ic,Ie,Da,Bc,Bh,Be,za7,za8] at h')<;>try (exfalso; omega)) | (have q':=trivial; first | refine callX_new (c1) rfl (by decide) ?_ | refine callY_new (c1) rfl ?_ | (refine callX_rels (c2) ⟨.inl rfl,trivial⟩ (by simp [dstB]) ?_; rintro _ ⟨xa,rfl,hxa⟩) | (refine callX_rels (c2) ⟨.inr ⟨rfl,_,rfl,rfl⟩,trivial⟩ (by simp [dstB]) ?_; rintro _ ⟨xa,rfl,hxa⟩) | refine callX_new (c3 _) rfl (by decide) ?_ | refine callY_new (c3 _) rfl ?_ | refine hE _ _ ret_ne ?_ | refine hE _ _ exit_ne ?_))<;>(try simp (disch:=first | omega | decide +kernel) only [q',t0,hei,go_sem,Qa,Qb,Qc,Qd,Qe,↓reduceIte,reduceCtorEq,Qf,Qg,Qh])<;>clear q') | refine hN _ ?_ ?_ Wk.kk | with_reducible refine And.intro ?_ ?_ | with_reducible omega | exact ok_ints | exact cells_ints | exact no_mem | with_reducible exact plain_ints | (refine le_maxLen ?_; omega) | (refine za9 ⟨?_,?_⟩) | (simp only [go_sem,Qc,Qb,zb1,zb2,forall_eq]; done)))
 all_goals (first | exact endF [] (retR_cv rfl rfl rfl (by simp only [go_sem]) (by simp only [go_sem,List.length_cons,List.length_nil]) rfl (by simp only [go_sem]) ⟨rfl,((0,[]),false),rfl,FOK.nil⟩) | skip)
 obtain ⟨w,ok⟩:=xa
 dsimp only at *
 have hw : 0<=w∧w<=12:=by simpa [okVars] using (by assumption : okVars w=true)
 refine Ok.loopN [81,80,79,78,77,76,75,74,73,72,71,70,69,68,67,66,65,64,63,62,61,60,59,58,57,56,55,54,53,52,51,50,49,48,47,46,45,44,43,42,41,40,39,38,37,36,35,34,33,32,31,30,29,28,27,26,25,24,23,22,21,20,19,18,17,16,15,14,13,12,11,10,9,8,6,1] (fun i (_ : List (List Int)) => [(8,.d (.int .i64 ((i + 1 : Nat) : Int)))]) (fun _ (o : List (List Int)) => [(34,.arr 27 1 (o.map D.ints))]) (ps.length - 1) (fun i o => o.length=i∧∀ c ∈ o,okClause w c=true) [] ⟨rfl,fun l hl => nomatch hl⟩ (Wk.kk) ?_
 rintro R i o hN hE hi ⟨ho1,ho2⟩
 by_cases hlt : i + 1 < ps.length
 . have hei1:=hei (i + 1) hlt
   have hz1:=hz (i + 1) hlt
   have hex : ((ps.getD (i + 1) ByteArray.empty).extract 1 (ps.getD (i + 1) ByteArray.empty).size).size<=1000000:=by rw [ByteArray.size_extract]; omega
   have c4:=l2Parse_ok w ((ps.getD (i + 1) ByteArray.empty).extract 1 (ps.getD (i + 1) ByteArray.empty).size) hex
   have t1 : Int.toNat 1=1:=rfl
   clear c1 c2 c3 hei hz
   simp (disch:=first | omega | decide +kernel) only [Int.toNat_natCast,t0,t1,go_sem,Qa,Qb,Qc,Qd,Qe,↓reduceIte,reduceCtorEq,Qf,Qg,Qh]
   (repeat' (first | ((first | (refine gsel_split (fun q' => ?_) (fun q' => ?_)<;>(have h':=q')<;>(try simp only [za1,za2,Ba,Bb,za3,ne_eq,za4,za5,za6,Ia,Ib,Ic,Ie,Da,Bc,Bh,Be,za7,za8] at h')<;>try (exfalso; omega)) | (have q':=trivial; first | refine hE _ _ ret_ne ?_ | refine hE _ _ exit_ne ?_))<;>(try simp (disch:=first | omega | decide +kernel) only [q',Int.toNat_natCast,hei1,t0,t1,go_sem,Qa,Qb,Qc,Qd,Qe,↓reduceIte,reduceCtorEq,Qf,Qg,Qh])<;>clear q') | refine hN _ ?_ ?_ Wk.kk | with_reducible refine And.intro ?_ ?_ | with_reducible omega | exact ok_ints | exact cells_ints | exact no_mem | with_reducible exact plain_ints | (refine le_maxLen ?_; omega) | (refine za9 ⟨?_,?_⟩) | (simp only [go_sem,Qc,Qb,zb1,zb2,forall_eq]; done)))
   all_goals (first | exact endF [] (retR_cv rfl rfl rfl (by simp only [go_sem]) (by simp only [go_sem,List.length_cons,List.length_nil]) rfl (by simp only [go_sem]) ⟨rfl,((0,[]),false),rfl,FOK.nil⟩) | skip)
   refine callX_newR c4 ⟨.inl rfl,.inl rfl,trivial⟩ (by simp) ?_
   rintro ⟨c,okc⟩ ⟨hc1,hc2,hc3⟩
   dsimp only at hc1 hc2 hc3 ⊢
   simp (disch:=first | omega | decide +kernel) only [Int.toNat_natCast,t0,t1,go_sem,Qa,Qb,Qc,Qd,Qe,↓reduceIte,reduceCtorEq,Qf,Qg,Qh]
   (repeat' (first | ((first | (refine gsel_split (fun q' => ?_) (fun q' => ?_)<;>(have h':=q')<;>(try simp only [za1,za2,Ba,Bb,za3,ne_eq,za4,za5,za6,Ia,Ib,Ic,Ie,Da,Bc,Bh,Be,za7,za8] at h')<;>try (exfalso; omega)) | (have q':=trivial; first | refine hE _ _ ret_ne ?_ | refine hE _ _ exit_ne ?_))<;>(try simp (disch:=first | omega | decide +kernel) only [q',Int.toNat_natCast,hei1,t0,t1,go_sem,Qa,Qb,Qc,Qd,Qe,↓reduceIte,reduceCtorEq,Qf,Qg,Qh])<;>clear q') | refine hN _ ?_ ?_ Wk.kk | with_reducible refine And.intro ?_ ?_ | with_reducible omega | exact ok_ints | exact cells_ints | exact no_mem | with_reducible exact plain_ints | (refine le_maxLen ?_; omega) | (refine za9 ⟨?_,?_⟩) | (simp only [go_sem,Qc,Qb,zb1,zb2,forall_eq]; done)))
   all_goals (first | exact endF [] (retR_cv rfl rfl rfl (by simp only [go_sem]) (by simp only [go_sem,List.length_cons,List.length_nil]) rfl (by simp only [go_sem]) ⟨rfl,((0,[]),false),rfl,FOK.nil⟩) | skip)
   refine hN (o++[c]) _ (by omega) ⟨by simp [ho1],fun d hd => ?_⟩ (by refine Wk.auto ?_ ?_<;>simp [extraK,lk,killL,St.kill,wipeO,wipeS,AV.has,AV.hasL,AO.wipe,List.map_set,updSt,insL,dropS,ins,List.map_append,List.map_cons,List.map_nil,D.ints])
   rcases List.mem_append.1 hd with hd | hd
   . exact ho2 d hd
   . rw [List.mem_singleton] at hd; subst hd; exact hc3 (by assumption)
 . have c5:=l2TextOf_ok w o hw (by omega) fun c hc => ⟨by have:=(bd12 (ho2 c hc)).1; omega,(bd12 (ho2 c hc)).2⟩
   simp (disch:=first | omega | decide +kernel) only [Int.toNat_natCast,go_sem,Qa,Qb,Qc,Qd,Qe,↓reduceIte,reduceCtorEq,Qf,Qg,Qh]
   (repeat' (first | ((first | (refine gsel_split (fun q' => ?_) (fun q' => ?_)<;>(have h':=q')<;>(try simp only [za1,za2,Ba,Bb,za3,ne_eq,za4,za5,za6,Ia,Ib,Ic,Ie,Da,Bc,Bh,Be,za7,za8] at h')<;>try (exfalso; omega)) | (have q':=trivial; first | (refine callX_rels (c5) ⟨.inl rfl,trivial⟩ (by simp [dstB]) ?_; rintro _ ⟨xb,rfl,hxb⟩) | (refine callX_rels (c5) ⟨.inr ⟨rfl,_,rfl,rfl⟩,trivial⟩ (by simp [dstB]) ?_; rintro _ ⟨xb,rfl,hxb⟩) | refine hE _ _ ret_ne ?_ | refine hE _ _ exit_ne ?_))<;>(try simp (disch:=first | omega | decide +kernel) only [q',Int.toNat_natCast,List.length_map,go_sem,Qa,Qb,Qc,Qd,Qe,↓reduceIte,reduceCtorEq,Qf,Qg,Qh])<;>clear q') | refine hN _ ?_ ?_ Wk.kk | with_reducible refine And.intro ?_ ?_ | with_reducible omega | exact ok_ints | exact cells_ints | exact no_mem | with_reducible exact plain_ints | (refine le_maxLen ?_; omega) | (refine za9 ⟨?_,?_⟩) | (simp only [go_sem,Qc,Qb,zb1,zb2,forall_eq]; done)))
   all_goals (first | exact endF [] (retR_cv rfl rfl rfl (by simp only [go_sem]) (by simp only [go_sem,List.length_cons,List.length_nil]) rfl (by simp only [go_sem]) ⟨rfl,((0,[]),false),rfl,FOK.nil⟩) | exact endF [34] (retR_cv rfl rfl rfl (by simp only [go_sem]) (by simp only [go_sem,List.length_cons,List.length_nil]) rfl (by simp only [go_sem]) ⟨rfl,((w,o),true),rfl,hw,by dsimp only; omega,ho2⟩))
end Abs.Y

namespace Abs.Y
open Go Go.Proofs Abs
open Nat renaming reduceEqDiff -> Qa, reduceLT -> Qb, reduceAdd -> Qc, reduceMul -> Qd, reduceSub -> Qe, reduceLeDiff -> Qf, reduceSubDiff -> Qg, reduceBEq -> Qh
open Bool renaming not_eq_true' -> Ba, not_eq_false' -> Bb, and_eq_true -> Bc, or_eq_true -> Bh, or_eq_false_iff -> Be
open Int renaming ofNat_lt -> Ia, ofNat_le -> Ib, not_lt -> Ic, not_le -> Ie
open Decidable renaming not_not -> Da
set_option maxRecDepth 100000
set_option maxHeartbeats 1000000

theorem retM_dd {P : Program} {t1 t2 : Nat} {st : St} {x y : D} {u : Nat->Value} {ob : AO} (h1 : lk t1 st.s=some (.d x)) (h2 : lk t2 st.s=some (.d y)) (ho : lk 0 st.o=some ob) (hk : lk 1000000000 st.s=some (.hdr 0 (u 0))) (hr : ob.ren (fun j => j)=ob) :
 retM P [.tmp t1,.tmp t2] u [0] true (.tup [.d x,.d y]) [(0,ob)] .ret st:=by
 simp only [retM,resV,h1,h2]
 exact ⟨trivial,⟨fun j => j,rfl,by simpa [hr] using ho,by simp,⟨rfl,hk,trivial⟩⟩,.inl trivial⟩
theorem retR_draw2 {t1 t2 : Nat} {u : Nat->Value} {st : St} {code : List Int} {at_ k : Nat} {Q : AV->Prop} {at' : Nat} {seed' : Int} {x y : D} (h : lk t1 st.s=some (.d x)) (hy : lk t2 st.s=some (.d y)) (ho : lk 0 st.o=some (curB code at' seed')) (hk : lk 1000000000 st.s=some (.hdr 0 (u 0)))
 (h1 : at_<=at') (h2 : at'<=at_ + k) (h3 : 0<=seed') (h4 : seed' < 18446744073709551616) (hQ : Q (.tup [.d x,.d y])) :
 retR Try.prog [.tmp t1,.tmp t2] u [0] true (fun r oo => ∃ at' seed',at_<=at'∧at'<=at_ + k∧0<=seed'∧seed' < 18446744073709551616∧oo=curO code at' seed'∧Q r) .ret st :=
 ⟨_,_,⟨at',seed',h1,h2,h3,h4,rfl,hQ⟩,retM_dd h hy ho hk rfl⟩
theorem prime18_ok {code : List Int} (hc : CodeOK code) :
 Draws 54 [] 8 (fun r => ∃ x : Int × Int,r=.tup [.d (.int .i64 x.1),.d (.int .i64 x.2)]∧2<=x.1∧x.1<=7∧-1<=x.2∧x.2<=7) code:=fun at_ seed h1 h2 h3 => by
 have c1:=pick_ok hc 24 (by omega)
 have e1 : ∀ x : Int,0<=x->x.tdiv 11=x / 11:=fun x hx => Int.tdiv_eq_ediv_of_nonneg hx
 have c2 : ∀ k : Nat,1<=k->k<=7->Draws 109 [.d (.slice (List.take k (([2,3,3,5,2,4,7] : List Int).map (D.int .i64))))] 2 (QI fun x => 2<=x∧x<=7) code:=fun k h1 h2 => by
  rw [← List.map_take]
  exact amongD_ok hc _ 2 7 (by simp only [List.length_take,List.length_cons,List.length_nil]; omega) fun x hx => by have:=List.mem_of_mem_take hx; simp at this; omega
 have c3 : ∀ k : Nat,1<=k->k<=9->Draws 109 [.d (.slice (List.take k (([2,3,3,4,1,0,6,7,-1] : List Int).map (D.int .i64))))] 2 (QI fun x => -1<=x∧x<=7) code:=fun k h1 h2 => by
  rw [← List.map_take]
  exact amongD_ok hc _ (-1) 7 (by simp only [List.length_take,List.length_cons,List.length_nil]; omega) fun x hx => by have:=List.mem_of_mem_take hx; simp at this; omega
 simp only [List.map_cons,List.map_nil] at c2 c3
 refine CtrR.of (n:=20) (rs:=[.tmp 2,.tmp 3]) Try.func54 rfl rfl Try.ntmps54 rfl rfl (by kernel_rfl) Try.checked.mixed ?_; intro u
 simp (disch:=first | omega | decide +kernel) only [curO,curB,D.bytes,go_sem,Qa,Qb,Qc,Qd,Qe,↓reduceIte,reduceCtorEq,Qf,Qg,Qh]
 (repeat' (first | ((first | (refine gsel_split (fun q' => ?_) (fun q' => ?_)<;>(have h':=q')<;>(try simp only [za1,za2,Ba,Bb,za3,ne_eq,za4,za5,za6,Ia,Ib,Ic,Ie,Da,Bc,Bh,Be,za7,za8] at h')<;>try (exfalso; omega)) | (have q':=trivial; first | (refine callX_draw _ (c1) ⟨.inl rfl,.inl rfl,trivial⟩ rfl (by simp [dstB]) (by omega) (by omega) (by omega) ?_; rintro _ at1 sd1 hat11 hat12 hsd11 hsd12 ⟨x1,rfl,hx1⟩) | (refine callX_draw _ (c2 _ (by omega) (by omega)) ⟨.inl rfl,.inl rfl,trivial⟩ rfl (by simp [dstB]) (by omega) (by omega) (by omega) ?_; rintro _ at1 sd1 hat11 hat12 hsd11 hsd12 ⟨x1,rfl,hx1⟩) | (refine callX_draw _ (c3 _ (by omega) (by omega)) ⟨.inl rfl,.inl rfl,trivial⟩ rfl (by simp [dstB]) (by omega) (by omega) (by omega) ?_; rintro _ at1 sd1 hat11 hat12 hsd11 hsd12 ⟨x1,rfl,hx1⟩) | refine hE _ _ ret_ne ?_ | refine hE _ _ exit_ne ?_))<;>(try simp (disch:=first | omega | decide +kernel) only [q',curO,curB,D.bytes,e1,Option.isSome_none,Bool.false_eq_true,if_false,go_sem,Qa,Qb,Qc,Qd,Qe,↓reduceIte,reduceCtorEq,Qf,Qg,Qh])<;>clear q') | refine hN _ ?_ ?_ Wk.kk | with_reducible refine And.intro ?_ ?_ | with_reducible omega | exact ok_ints | exact cells_ints | exact no_mem | with_reducible exact plain_ints | (refine le_maxLen ?_; omega) | (refine za9 ⟨?_,?_⟩) | (simp only [go_sem,Qc,Qb,zb1,zb2,forall_eq]; done)))
 all_goals (first | omega | (exact retR_draw2 rfl rfl rfl rfl (by omega) (by omega) (by omega) (by omega) ⟨(_,_),rfl,by omega,by omega,by omega,by omega⟩))
end Abs.Y

namespace Abs.Y
open Go Go.Proofs Abs
open Nat renaming reduceEqDiff -> Qa, reduceLT -> Qb, reduceAdd -> Qc, reduceMul -> Qd, reduceSub -> Qe, reduceLeDiff -> Qf, reduceSubDiff -> Qg, reduceBEq -> Qh
open Bool renaming not_eq_true' -> Ba, not_eq_false' -> Bb, and_eq_true -> Bc, or_eq_true -> Bh, or_eq_false_iff -> Be
open Int renaming ofNat_lt -> Ia, ofNat_le -> Ib, not_lt -> Ic, not_le -> Ie
open Decidable renaming not_not -> Da
set_option maxRecDepth 100000
set_option maxHeartbeats 1000000

def DrawsR (f : FuncId) (xs : List AV) (k : Nat) (Q : AO->Prop) (code : List Int) : Prop:=∀ at_ seed,at_ + k<=1099511627776->0<=seed->seed < 18446744073709551616 ->
 CtrR Try.prog f (.p 0 0 :: xs) (curO code at_ seed) [0] true fun r oo => ∃ at' seed' o,at_<=at'∧at'<=at_ + k∧0<=seed'∧seed' < 18446744073709551616∧r=.sl 1∧oo=[(0,curB code at' seed'),(1,o)]∧Q o
theorem callX_drawR {N f cavs st d K} (J : Nat) {xs k Q code at_ seed} (hs : DrawsR f xs k Q code) (hp : passM Try.prog (delL [J] st.o) (nth [J]) true cavs (.p 0 0 :: xs)) (ho : lkn J st.o=some ((curB code at_ seed).ren (nth [J])))
 (hJ : (J == 100000 * (d + 1))=false) (hd : d < N) (h1 : at_ + k<=1099511627776) (h2 : 0<=seed) (h3 : seed < 18446744073709551616)
 (hK : ∀ at' seed' o,at_<=at'->at'<=at_ + k->0<=seed'->seed' < 18446744073709551616->Q o->K (impM st (some d) (nth [J,100000 * (d + 1)]) [100000 * (d + 1)] (.sl 1) [(0,curB code at' seed'),(1,o)])) : callX Try.prog N f cavs (some d) K st :=
 callX_rel [J] [J,100000 * (d + 1)] [100000 * (d + 1)] (hs at_ seed h1 h2 h3) hp ⟨ho,trivial⟩ (by simp [namesI,keysO,nth]) hd fun r oo ⟨at',seed',o,a1,a2,a3,a4,er,e,hQ⟩ => by
  have hne : ¬ J=100000 * (d + 1):=by simpa using hJ
  subst er; subst e; exact ⟨by simp [namesOK,keysO,nth,hne,Ne.symm hne],hK at' seed' o a1 a2 a3 a4 hQ⟩
theorem retM_ns {P : Program} {t j : Nat} {st : St} {u : Nat->Value} {ob o1 : AO} (h : lk t st.s=some (.sl j)) (ho : lk 0 st.o=some ob) (hj : lk j st.o=some o1) (hk : lk 1000000000 st.s=some (.hdr 0 (u 0))) (hne : ¬ j=0) (hr : ∀ g,ob.ren g=ob) (hr1 : ∀ g,o1.ren g=o1) :
 retM P [.tmp t] u [0] true (.sl 1) [(0,ob),(1,o1)] .ret st:=by
 simp only [retM,resV,h]
 refine ⟨trivial,⟨nth [0,j],rfl,?_,by simp [nth,hne,Ne.symm hne],⟨rfl,hk,trivial⟩⟩,.inl trivial⟩
 intro p hp
 simp only [List.mem_cons,List.not_mem_nil,or_false] at hp
 rcases hp with rfl | rfl
 . rw [hr]; exact ho
 . rw [hr1]; exact hj
@[reducible] def QL (Q : List Int->Prop) : AO->Prop:=fun o => ∃ x : List Int,o=.arr 3 1 (x.map (.int .i64))∧Q x
theorem retR_drawR {t j : Nat} {u : Nat->Value} {st : St} {code : List Int} {at_ k : Nat} {Q : List Int->Prop} {at' : Nat} {seed' : Int} {x : List Int} (h : lk t st.s=some (.sl j)) (ho : lk 0 st.o=some (curB code at' seed')) (hj : lk j st.o=some (.arr 3 1 (x.map (.int .i64)))) (hk : lk 1000000000 st.s=some (.hdr 0 (u 0)))
 (hne : ¬ j=0) (h1 : at_<=at') (h2 : at'<=at_ + k) (h3 : 0<=seed') (h4 : seed' < 18446744073709551616) (hQ : Q x) :
 retR Try.prog [.tmp t] u [0] true (fun r oo => ∃ at' seed' o,at_<=at'∧at'<=at_ + k∧0<=seed'∧seed' < 18446744073709551616∧r=.sl 1∧oo=[(0,curB code at' seed'),(1,o)]∧QL Q o) .ret st :=
 ⟨_,_,⟨at',seed',_,h1,h2,h3,h4,rfl,rfl,_,rfl,hQ⟩,retM_ns h ho hj hk hne (fun _ => rfl) (fun _ => rfl)⟩
def SmN (n : Nat) (l : List Int) : Prop:=l.length<=n∧∀ x ∈ l,-1000001<=x∧x<=1000001
theorem smN_put {n : Nat} {c : List Int} {p : Int->Bool} {l : Int} (h : SmN n c) (hl : -1000001<=l∧l<=1000001) : SmN (n + 1) (putI (c.filter p) l):=by
 refine ⟨by rw [length_putI]; exact Nat.succ_le_succ (Nat.le_trans (List.length_filter_le _ _) h.1),fun x hx => ?_⟩
 rw [putI,List.mem_append,List.mem_cons] at hx
 rcases hx with hx | rfl | hx
 . exact h.2 x ((List.mem_filter.1 ((List.takeWhile_sublist _).mem hx)).1)
 . exact hl
 . exact h.2 x ((List.mem_filter.1 ((List.dropWhile_sublist _).mem hx)).1)
theorem dclause_ok {code : List Int} (hc : CodeOK code) (vars : Int) (hv : -1000000<=vars∧vars<=1000000) :
 DrawsR 110 [.d (.int .i64 vars)] 24 (QL (SmN 4)) code:=fun at_ seed h1 h2 h3 => by
 have c1:=pick_ok hc vars (by omega)
 have c2:=one_ok hc 2 (by omega)
 have c4:=amongB_ok hc [1,2,2,3,3,4,0,2] 0 4 (by simp) (by simp)
 simp only [List.map_cons,List.map_nil] at c4
 refine CtrR.of (n:=35) (rs:=[.tmp 4]) Try.func110 rfl rfl Try.ntmps110 rfl rfl (by kernel_rfl) Try.checked.mixed ?_; intro u
 simp (disch:=first | omega | decide +kernel) only [curO,curB,D.bytes,go_sem,Qa,Qb,Qc,Qd,Qe,↓reduceIte,reduceCtorEq,Qf,Qg,Qh]
 (repeat' (first | ((first | (refine gsel_split (fun q' => ?_) (fun q' => ?_)<;>(have h':=q')<;>(try simp only [za1,za2,Ba,Bb,za3,ne_eq,za4,za5,za6,Ia,Ib,Ic,Ie,Da,Bc,Bh,Be,za7,za8] at h')<;>try (exfalso; omega)) | (have q':=trivial; first | (refine callX_drawL _ _ (c4) ⟨.inl rfl,.inl rfl,trivial⟩ rfl rfl (by decide) (by simp [dstB]) (by omega) (by omega) (by omega) ?_; rintro _ at1 sd1 hat1 hat2 hsd1 hsd2 ⟨x1,rfl,hx1⟩) | refine hE _ _ ret_ne ?_ | refine hE _ _ exit_ne ?_))<;>(try simp (disch:=first | omega | decide +kernel) only [q',curO,curB,D.bytes,go_sem,Qa,Qb,Qc,Qd,Qe,↓reduceIte,reduceCtorEq,Qf,Qg,Qh])<;>clear q') | refine hN _ ?_ ?_ Wk.kk | with_reducible refine And.intro ?_ ?_ | with_reducible omega | exact ok_ints | exact cells_ints | exact no_mem | with_reducible exact plain_ints | (refine le_maxLen ?_; omega) | (refine za9 ⟨?_,?_⟩) | (simp only [go_sem,Qc,Qb,zb1,zb2,forall_eq]; done)))
 refine Ok.weak (show Wk _ _ ⟨[(1000000000,.hdr 0 (u 0)),(6,.d (.int .i64 x1)),(5,.sl 8),(1,.d (.int .i64 vars)),(0,.p 0 0)],[(8,.arr 3 1 []),(0,.box 79 [.d (.slice (code.map (.int .u8))),.d (.int .i64 (at1 : Nat)),.d (.int .u64 sd1)])]⟩ from (Wk.kk)) ?_
 refine Ok.loopN [34,33,32,31,30,29,28,27,26,25,24,23,22,21,20,19,18,17,16,15,14,13,12,11,10,9,8,7,4] (fun i (a : (List Int × Int) × (Nat × Int)) => [(6,.d (.int .i64 a.1.2)),(5,.sl 8)])
  (fun _ (a : (List Int × Int) × (Nat × Int)) => [(8,.arr 3 1 (a.1.1.map (.int .i64))),(0,.box 79 [.d (.slice (code.map (.int .u8))),.d (.int .i64 (a.2.1 : Nat)),.d (.int .u64 a.2.2)])]) x1.toNat
  (fun i a => a.1.2=x1 - i∧SmN i a.1.1∧at1<=a.2.1∧a.2.1<=at1 + 4 * i∧0<=a.2.2∧a.2.2 < 18446744073709551616) (([],x1),(at1,sd1)) ⟨by show x1=x1 - ((0 : Nat) : Int); omega,⟨Nat.zero_le _,fun x hx => nomatch hx⟩,Nat.le_refl _,Nat.le_add_right _ _,hsd1,hsd2⟩ (Wk.kk) ?_
 rintro R i ⟨⟨c,n⟩,a,s⟩ hN hE hi ⟨hn,hS,ha1,ha2,hs1,hs2⟩
 simp only at hn hS ha1 ha2 hs1 hs2
 have hcl:=hS.1
 have hp1:=fun v => l2Without_ok c v (by omega)
 have hp2:=fun (v l : Int) => l2Put_ok (c.filter fun l => varI l != v) l (Nat.le_trans (List.length_filter_le _ _) (by omega))
 simp only [D.ints] at hp1 hp2
 dsimp only
 simp (disch:=first | omega | decide +kernel) only [go_sem,Qa,Qb,Qc,Qd,Qe,↓reduceIte,reduceCtorEq,Qf,Qg,Qh]
 (repeat' (first | ((first | (refine gsel_split (fun q' => ?_) (fun q' => ?_)<;>(have h':=q')<;>(try simp only [za1,za2,Ba,Bb,za3,ne_eq,za4,za5,za6,Ia,Ib,Ic,Ie,Da,Bc,Bh,Be,za7,za8] at h')<;>try (exfalso; omega)) | (have q':=trivial; first | (refine callX_draw _ (c1) ⟨.inl rfl,.inl rfl,trivial⟩ rfl (by simp [dstB]) (by omega) (by omega) (by omega) ?_; rintro _ ata sda hata1 hata2 hsda1 hsda2 ⟨xa,rfl,hxa⟩) | (refine callX_draw _ (c2) ⟨.inl rfl,.inl rfl,trivial⟩ rfl (by simp [dstB]) (by omega) (by omega) (by omega) ?_; rintro _ atb sdb hatb1 hatb2 hsdb1 hsdb2 ⟨xb,rfl,hxb⟩) | refine callX_new (hp1 _) rfl (by decide) ?_ | refine callY_new (hp1 _) rfl ?_ | refine callX_new (hp2 _ _) rfl (by decide) ?_ | refine callY_new (hp2 _ _) rfl ?_ | refine hE _ _ ret_ne ?_ | refine hE _ _ exit_ne ?_))<;>(try simp (disch:=first | omega | decide +kernel) only [q',curO,curB,D.bytes,go_sem,Qa,Qb,Qc,Qd,Qe,↓reduceIte,reduceCtorEq,Qf,Qg,Qh])<;>clear q') | refine hN _ ?_ ?_ Wk.kk | with_reducible refine And.intro ?_ ?_ | with_reducible omega | exact ok_ints | exact cells_ints | exact no_mem | with_reducible exact plain_ints | (refine le_maxLen ?_; omega) | (refine za9 ⟨?_,?_⟩) | (simp only [go_sem,Qc,Qb,zb1,zb2,forall_eq]; done)))
 . refine hN ((putI (c.filter fun l => varI l != 1 + xa) (0 - (1 + xa)),n - 1),(atb,sdb)) _ (by omega) ⟨by dsimp only; omega,smN_put hS (by omega),by dsimp only; omega,by dsimp only; omega,hsdb1,hsdb2⟩ ((Wk.swp 3400000 8).trans (by refine Wk.auto ?_ ?_<;>simp [extraK,lk,killL,St.kill,wipeO,wipeS,AV.has,AV.hasL,AO.wipe,List.map_set,updSt,insL,dropS,ins,swpS,swpO,swp,AV.ren,AV.renL,AO.ren]))
 . refine hN ((putI (c.filter fun l => varI l != 1 + xa) (1 + xa),n - 1),(atb,sdb)) _ (by omega) ⟨by dsimp only; omega,smN_put hS (by omega),by dsimp only; omega,by dsimp only; omega,hsdb1,hsdb2⟩ ((Wk.swp 3400000 8).trans (by refine Wk.auto ?_ ?_<;>simp [extraK,lk,killL,St.kill,wipeO,wipeS,AV.has,AV.hasL,AO.wipe,List.map_set,updSt,insL,dropS,ins,swpS,swpO,swp,AV.ren,AV.renL,AO.ren]))
 all_goals exact retR_drawR rfl rfl rfl rfl (by decide) (by omega) (by omega) hs1 hs2 ⟨by omega,hS.2⟩
end Abs.Y
