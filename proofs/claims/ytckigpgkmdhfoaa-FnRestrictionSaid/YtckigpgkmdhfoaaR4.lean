/- What functions of this program compute, over plain data. No condition. -/
import Derived.Test.YtckigpgkmdhfoaaST2
import Derived.Test.YtckigpgkmdhfoaaG4
import Derived.Test.YtckigpgkmdhfoaaST1
set_option linter.all false
namespace Abs.Y
open Go Go.Proofs Abs
open Nat renaming reduceEqDiff -> Qa, reduceLT -> Qb, reduceAdd -> Qc, reduceMul -> Qd, reduceSub -> Qe, reduceLeDiff -> Qf, reduceSubDiff -> Qg, reduceBEq -> Qh
open Bool renaming not_eq_true' -> Ba, not_eq_false' -> Bb, and_eq_true -> Bc, or_eq_true -> Bd, or_eq_false_iff -> Be
open Int renaming ofNat_lt -> Ia, ofNat_le -> Ib, not_lt -> Ic, not_le -> Ie
open Decidable renaming not_not -> Da
set_option maxRecDepth 100000

@[reducible] def QS (n : Nat) : AV->Prop:=fun r => ∃ s : ByteArray,r=.d (.str s)∧s.size<=n
theorem size_lit1 : (ByteArray.mk #[32]).size=1:=rfl
theorem size_lit2 : (ByteArray.mk #[59,32]).size=2:=rfl
theorem size_none : (ByteArray.mk #[110,111,110,101]).size=4:=rfl
theorem l2Text_ok (c : List Int) (hl : c.length<=1000) (hb : ∀ l ∈ c,-999999<=l∧l<=999999) : CtrR Try.prog 185 [.d (.ints c)] [] [] false fun r oo => oo=[]∧QS 30000 r:=by
 have c1:=fun (i : Nat) (hi : i < c.length) => l1Num_ok (c.getD i 0) (by have:=hb _ (getD_mem (z:=(0 : Int)) hi); omega)
 have hz:=fun (i : Nat) (hi : i < c.length) => numS_size (n:=c.getD i 0) (by have:=hb _ (getD_mem (z:=(0 : Int)) hi); omega)
 have hei : ∀ i,i < c.length->el (c.map (D.int .i64)) i=.int .i64 (c.getD i 0):=fun i hi => el_ints hi
 have t0 : Int.toNat 0=0:=rfl
 refine CtrR.of (n:=27) (rs:=[.tmp 2]) Try.func185 rfl rfl Try.ntmps185 rfl rfl (by kernel_rfl) Try.checked.mixed ?_; intro u
 simp (disch:=first | omega | decide +kernel) only [D.ints,t0,go_sem,Qa,Qb,Qc,Qd,Qe,↓reduceIte,reduceCtorEq,Qf,Qg,Qh]
 (repeat' (first | ((first | (refine gsel_split (fun q' => ?_) (fun q' => ?_)<;>(have h':=q')<;>(try simp only [za1,za2,Ba,Bb,za3,ne_eq,za4,za5,za6,Ia,Ib,Ic,Ie,Da,Bc,Bd,Be,za7,za8] at h')<;>try (exfalso; omega)) | (have q':=trivial; first | refine callX_new (c1 0 (by omega)) rfl (by decide) ?_ | refine callY_new (c1 0 (by omega)) rfl ?_ | refine hE _ _ ret_ne ?_ | refine hE _ _ exit_ne ?_))<;>(try simp (disch:=first | omega | decide +kernel) only [q',D.ints,t0,hei,go_sem,Qa,Qb,Qc,Qd,Qe,↓reduceIte,reduceCtorEq,Qf,Qg,Qh])<;>clear q') | refine hN _ ?_ ?_ Wk.kk | with_reducible refine And.intro ?_ ?_ | with_reducible omega | exact ok_ints | exact cells_ints | exact no_mem | with_reducible exact plain_ints | (refine le_maxLen ?_; omega) | (refine za9 ⟨?_,?_⟩) | (simp only [go_sem,Qc,Qb,zb1,zb2,forall_eq]; done)))
 all_goals (first | exact retR_p rfl rfl ⟨rfl,_,rfl,by rw [size_none]; omega⟩ | skip)
 refine Ok.loopN [26,25,24,23,22,21,20,19,18,17,16,15,14,13,12,11,10,9,8,7,6,5,4,3] (fun i (s : ByteArray) => [(4,.d (.int .i64 ((i + 1 : Nat) : Int))),(3,.d (.str s))]) (fun _ _ => []) (c.length - 1) (fun i s => s.size<=20 * (i + 1)) (numS (c.getD 0 0)) (by have:=hz 0 (by omega); omega) (Wk.kk) ?_
 rintro R i s hN hE hi hs
 by_cases hlt : i + 1 < c.length
 . have hz1:=hz (i + 1) hlt
   have c2:=c1 (i + 1) hlt
   have hei2:=hei (i + 1) hlt
   clear c1 hz hei
   have hsz : (s++ByteArray.mk #[32]).size<=25000:=by rw [ByteArray.size_append,size_lit1]; omega
   simp (disch:=first | omega | decide +kernel) only [Int.toNat_natCast,D.ints,go_sem,Qa,Qb,Qc,Qd,Qe,↓reduceIte,reduceCtorEq,Qf,Qg,Qh]
   (repeat' (first | ((first | (refine gsel_split (fun q' => ?_) (fun q' => ?_)<;>(have h':=q')<;>(try simp only [za1,za2,Ba,Bb,za3,ne_eq,za4,za5,za6,Ia,Ib,Ic,Ie,Da,Bc,Bd,Be,za7,za8] at h')<;>try (exfalso; omega)) | (have q':=trivial; first | refine callX_new (c2) rfl (by decide) ?_ | refine callY_new (c2) rfl ?_ | refine hE _ _ ret_ne ?_ | refine hE _ _ exit_ne ?_))<;>(try simp (disch:=first | omega | decide +kernel) only [q',Int.toNat_natCast,D.ints,hei2,ByteArray.size_append,size_lit1,go_sem,Qa,Qb,Qc,Qd,Qe,↓reduceIte,reduceCtorEq,Qf,Qg,Qh])<;>clear q') | refine hN _ ?_ ?_ Wk.kk | with_reducible refine And.intro ?_ ?_ | with_reducible omega | exact ok_ints | exact cells_ints | exact no_mem | with_reducible exact plain_ints | (refine le_maxLen ?_; omega) | (refine za9 ⟨?_,?_⟩) | (simp only [go_sem,Qc,Qb,zb1,zb2,forall_eq]; done)))
   all_goals (first | (refine hN (s++ByteArray.mk #[32]++numS (c.getD (i + 1) 0)) _ (by omega) (by rw [ByteArray.size_append,ByteArray.size_append,size_lit1]; omega) (by refine Wk.auto ?_ ?_<;>simp [extraK,lk,killL,St.kill,wipeO,wipeS,AV.has,AV.hasL,AO.wipe,List.map_set,updSt,insL,dropS,ins,])))
 . have : i + 1=c.length:=by omega
   simp (disch:=first | omega | decide +kernel) only [Int.toNat_natCast,D.ints,go_sem,Qa,Qb,Qc,Qd,Qe,↓reduceIte,reduceCtorEq,Qf,Qg,Qh]
   (repeat' (first | ((first | (refine gsel_split (fun q' => ?_) (fun q' => ?_)<;>(have h':=q')<;>(try simp only [za1,za2,Ba,Bb,za3,ne_eq,za4,za5,za6,Ia,Ib,Ic,Ie,Da,Bc,Bd,Be,za7,za8] at h')<;>try (exfalso; omega)) | (have q':=trivial; first | refine hE _ _ ret_ne ?_ | refine hE _ _ exit_ne ?_))<;>(try simp (disch:=first | omega | decide +kernel) only [q',Int.toNat_natCast,D.ints,go_sem,Qa,Qb,Qc,Qd,Qe,↓reduceIte,reduceCtorEq,Qf,Qg,Qh])<;>clear q') | refine hN _ ?_ ?_ Wk.kk | with_reducible refine And.intro ?_ ?_ | with_reducible omega | exact ok_ints | exact cells_ints | exact no_mem | with_reducible exact plain_ints | (refine le_maxLen ?_; omega) | (refine za9 ⟨?_,?_⟩) | (simp only [go_sem,Qc,Qb,zb1,zb2,forall_eq]; done)))
   all_goals (first | exact retR_p rfl rfl ⟨rfl,_,rfl,by omega⟩)
theorem l2Parse_ok (v : Int) (s : ByteArray) (hs : s.size<=1000000) : NewR 169 [.d (.int .i64 v),.d (.str s)] fun x => x.1.length<=13∧(∀ l ∈ x.1,-999999<=l∧l<=999999)∧(x.2=true->okClause v x.1=true):=by
 have c1:=l1Split_ok s 32 hs
 obtain ⟨b1,b2,b3⟩:=splI_bd s 32
 generalize splI s 32=ps at *
 have c2:=l2Vars_ok v
 have ok0 : okVars v=true->okClause v []=true:=fun h => by unfold okClause; rw [h]; simp
 refine CtrR.of (n:=61) (rs:=[.tmp 4,.tmp 5]) Try.func169 rfl rfl Try.ntmps169 rfl rfl (by kernel_rfl) Try.checked.mixed ?_; intro u
 simp (disch:=first | omega | decide +kernel) only [go_sem,Qa,Qb,Qc,Qd,Qe,↓reduceIte,reduceCtorEq,Qf,Qg,Qh]
 (repeat' (first | ((first | (refine gsel_split (fun q' => ?_) (fun q' => ?_)<;>(have h':=q')<;>(try simp only [za1,za2,Ba,Bb,za3,ne_eq,za4,za5,za6,Ia,Ib,Ic,Ie,Da,Bc,Bd,Be,za7,za8] at h')<;>try (exfalso; omega)) | (have q':=trivial; first | refine callX_new (c1) rfl (by decide) ?_ | refine callY_new (c1) rfl ?_ | refine callX_new (c2) rfl (by decide) ?_ | refine callY_new (c2) rfl ?_ | refine hE _ _ ret_ne ?_ | refine hE _ _ exit_ne ?_))<;>(try simp (disch:=first | omega | decide +kernel) only [q',go_sem,Qa,Qb,Qc,Qd,Qe,↓reduceIte,reduceCtorEq,Qf,Qg,Qh])<;>clear q') | refine hN _ ?_ ?_ Wk.kk | with_reducible refine And.intro ?_ ?_ | with_reducible omega | exact ok_ints | exact cells_ints | exact no_mem | with_reducible exact plain_ints | (refine le_maxLen ?_; omega) | (refine za9 ⟨?_,?_⟩) | (simp only [go_sem,Qc,Qb,zb1,zb2,forall_eq]; done)))
 all_goals (first | exact retR_sb (i:=11) rfl rfl rfl (fun _ => rfl) ⟨([],okVars v),rfl,rfl,by simp,by simp,ok0⟩ | skip)
 refine Ok.loopN [60,59,58,57,56,55,54,53,52,51,50,49,48,47,46,45,44,43,42,41,40,39,38,37,36,35,34,33,32,31,30,29,28,27,26,25,24,23,22,21,20,19,18,17,16,15,14,13,12,11,10,9,8,6,3] (fun i (_ : List Int) => [(8,.d (.int .i64 (i : Nat))),(6,.sl 11)]) (fun _ (o : List Int) => [(11,.arr 3 1 (o.map (.int .i64)))]) (min ps.length 13) (fun i o => o.length=i∧∀ l ∈ o,-999999<=l∧l<=999999) [] ⟨rfl,fun l hl => nomatch hl⟩ (Wk.kk) ?_
 rintro R i o hN hE hi ⟨ho1,ho2⟩
 by_cases hlt : i < ps.length∧i < 13
 . have hei : el (ps.map D.str) i=.str (ps.getD i ByteArray.empty):=el_map (f:=D.str) ByteArray.empty hlt.1
   have c3:=l1Read_ok (ps.getD i ByteArray.empty) (by have:=b3 _ (getD_mem (z:=ByteArray.empty) hlt.1); omega)
   simp (disch:=first | omega | decide +kernel) only [Int.toNat_natCast,go_sem,Qa,Qb,Qc,Qd,Qe,↓reduceIte,reduceCtorEq,Qf,Qg,Qh]
   (repeat' (first | ((first | (refine gsel_split (fun q' => ?_) (fun q' => ?_)<;>(have h':=q')<;>(try simp only [za1,za2,Ba,Bb,za3,ne_eq,za4,za5,za6,Ia,Ib,Ic,Ie,Da,Bc,Bd,Be,za7,za8] at h')<;>try (exfalso; omega)) | (have q':=trivial; first | (refine callX_rels (c3) ⟨.inl rfl,trivial⟩ (by simp [dstB]) ?_; rintro _ ⟨xa,rfl,hxa⟩) | (refine callX_rels (c3) ⟨.inr ⟨rfl,_,rfl,rfl⟩,trivial⟩ (by simp [dstB]) ?_; rintro _ ⟨xa,rfl,hxa⟩) | refine hE _ _ ret_ne ?_ | refine hE _ _ exit_ne ?_))<;>(try simp (disch:=first | omega | decide +kernel) only [q',Int.toNat_natCast,hei,go_sem,Qa,Qb,Qc,Qd,Qe,↓reduceIte,reduceCtorEq,Qf,Qg,Qh])<;>clear q') | refine hN _ ?_ ?_ Wk.kk | with_reducible refine And.intro ?_ ?_ | with_reducible omega | exact ok_ints | exact cells_ints | exact no_mem | with_reducible exact plain_ints | (refine le_maxLen ?_; omega) | (refine za9 ⟨?_,?_⟩) | (simp only [go_sem,Qc,Qb,zb1,zb2,forall_eq]; done)))
   all_goals (first | exact retR_sb (i:=39) rfl rfl rfl (fun _ => rfl) ⟨([],false),rfl,rfl,by simp,by simp,fun h => nomatch h⟩ | skip)
   all_goals (first | (refine hN (o++[xa.1]) _ (by omega) ⟨by simp [ho1],fun l hl => ?_⟩ (by refine Wk.auto ?_ ?_<;>simp [extraK,lk,killL,St.kill,wipeO,wipeS,AV.has,AV.hasL,AO.wipe,List.map_set,updSt,insL,dropS,ins,List.map_append,List.map_cons,List.map_nil]); rcases List.mem_append.1 hl with hl | hl; exact ho2 l hl; rw [List.mem_singleton] at hl; subst hl; exact hxa))
 . have c4:=l2Clause_ok v o (by omega)
   have c5:=l2Text_ok o (by omega) ho2
   simp only [D.ints] at c4 c5
   simp (disch:=first | omega | decide +kernel) only [Int.toNat_natCast,go_sem,Qa,Qb,Qc,Qd,Qe,↓reduceIte,reduceCtorEq,Qf,Qg,Qh]
   (repeat' (first | ((first | (refine gsel_split (fun q' => ?_) (fun q' => ?_)<;>(have h':=q')<;>(try simp only [za1,za2,Ba,Bb,za3,ne_eq,za4,za5,za6,Ia,Ib,Ic,Ie,Da,Bc,Bd,Be,za7,za8] at h')<;>try (exfalso; omega)) | (have q':=trivial; first | refine callX_new (c4) rfl (by decide) ?_ | refine callY_new (c4) rfl ?_ | (refine callX_rels (c5) ⟨.inl rfl,trivial⟩ (by simp [dstB]) ?_; rintro _ ⟨xa,rfl,hxa⟩) | (refine callX_rels (c5) ⟨.inr ⟨rfl,_,rfl,rfl⟩,trivial⟩ (by simp [dstB]) ?_; rintro _ ⟨xa,rfl,hxa⟩) | refine hE _ _ ret_ne ?_ | refine hE _ _ exit_ne ?_))<;>(try simp (disch:=first | omega | decide +kernel) only [q',Int.toNat_natCast,D.ints,go_sem,Qa,Qb,Qc,Qd,Qe,↓reduceIte,reduceCtorEq,Qf,Qg,Qh])<;>clear q') | refine hN _ ?_ ?_ Wk.kk | with_reducible refine And.intro ?_ ?_ | with_reducible omega | exact ok_ints | exact cells_ints | exact no_mem | with_reducible exact plain_ints | (refine le_maxLen ?_; omega) | (refine za9 ⟨?_,?_⟩) | (simp only [go_sem,Qc,Qb,zb1,zb2,forall_eq]; done)))
   all_goals (first | exact retR_sb (i:=59) rfl rfl rfl (fun _ => rfl) ⟨([],false),rfl,rfl,by simp,by simp,fun h => nomatch h⟩ | exact retR_sb (i:=11) rfl rfl rfl (fun _ => rfl) ⟨(o,true),rfl,rfl,by dsimp only; omega,ho2,fun _ => by assumption⟩)
end Abs.Y

namespace Abs.Y
open Go Go.Proofs Abs
open Nat renaming reduceEqDiff -> Qa, reduceLT -> Qb, reduceAdd -> Qc, reduceMul -> Qd, reduceSub -> Qe, reduceLeDiff -> Qf, reduceSubDiff -> Qg, reduceBEq -> Qh
open Bool renaming not_eq_true' -> Ba, not_eq_false' -> Bb, and_eq_true -> Bc, or_eq_true -> Bd, or_eq_false_iff -> Be
open Int renaming ofNat_lt -> Ia, ofNat_le -> Ib, not_lt -> Ic, not_le -> Ie
open Decidable renaming not_not -> Da
set_option maxRecDepth 100000

theorem l2TextOf_ok (w : Int) (cs : List (List Int)) (hu : 0<=w∧w<=12) (hl : cs.length<=1000) (hc : ∀ c ∈ cs,c.length<=1000∧∀ l ∈ c,-999999<=l∧l<=999999) :
 CtrR Try.prog 170 [.d (.agg [.int .i64 w,.slice (cs.map D.ints)])] [] [] false fun r oo => oo=[]∧QS 1000000000 r:=by
 have c1:=l1Num_ok w (by omega)
 have z1:=numS_size (n:=w) (by omega)
 refine CtrR.of (n:=25) (rs:=[.tmp 2]) Try.func170 rfl rfl Try.ntmps170 rfl rfl (by kernel_rfl) Try.checked.mixed ?_; intro u
 simp (disch:=first | omega | decide +kernel) only [go_sem,Qa,Qb,Qc,Qd,Qe,↓reduceIte,reduceCtorEq,Qf,Qg,Qh]
 (repeat' (first | ((first | (refine gsel_split (fun q' => ?_) (fun q' => ?_)<;>(have h':=q')<;>(try simp only [za1,za2,Ba,Bb,za3,ne_eq,za4,za5,za6,Ia,Ib,Ic,Ie,Da,Bc,Bd,Be,za7,za8] at h')<;>try (exfalso; omega)) | (have q':=trivial; first | refine callX_new (c1) rfl (by decide) ?_ | refine callY_new (c1) rfl ?_ | refine hE _ _ ret_ne ?_ | refine hE _ _ exit_ne ?_))<;>(try simp (disch:=first | omega | decide +kernel) only [q',go_sem,Qa,Qb,Qc,Qd,Qe,↓reduceIte,reduceCtorEq,Qf,Qg,Qh])<;>clear q') | refine hN _ ?_ ?_ Wk.kk | with_reducible refine And.intro ?_ ?_ | with_reducible omega | exact ok_ints | exact cells_ints | exact no_mem | with_reducible exact plain_ints | (refine le_maxLen ?_; omega) | (refine za9 ⟨?_,?_⟩) | (simp only [go_sem,Qc,Qb,zb1,zb2,forall_eq]; done)))
 refine Ok.loopN [24,23,22,21,20,19,18,17,16,15,14,13,12,11,10,9,8,7,6,5,4,3] (fun i (s : ByteArray) => [(4,.d (.int .i64 (i : Nat))),(3,.d (.str s))]) (fun _ _ => []) cs.length (fun i s => s.size<=40000 * (i + 1)) (numS w) (by omega) (Wk.kk) ?_
 rintro R i s hN hE hi hs
 by_cases hlt : i < cs.length
 . have hm:=getD_mem (z:=([] : List Int)) hlt
   have c2:=l2Text_ok (cs.getD i []) (hc _ hm).1 (hc _ hm).2
   have hei:=el_intss (xs:=cs) hlt
   simp (disch:=first | omega | decide +kernel) only [Int.toNat_natCast,hei,List.length_map,go_sem,Qa,Qb,Qc,Qd,Qe,↓reduceIte,reduceCtorEq,Qf,Qg,Qh]
   (repeat' (first | ((first | (refine gsel_split (fun q' => ?_) (fun q' => ?_)<;>(have h':=q')<;>(try simp only [za1,za2,Ba,Bb,za3,ne_eq,za4,za5,za6,Ia,Ib,Ic,Ie,Da,Bc,Bd,Be,za7,za8] at h')<;>try (exfalso; omega)) | (have q':=trivial; first | (refine callX_rels (c2) ⟨.inl rfl,trivial⟩ (by simp [dstB]) ?_; rintro _ ⟨xa,rfl,hxa⟩) | (refine callX_rels (c2) ⟨.inr ⟨rfl,_,rfl,rfl⟩,trivial⟩ (by simp [dstB]) ?_; rintro _ ⟨xa,rfl,hxa⟩) | refine hE _ _ ret_ne ?_ | refine hE _ _ exit_ne ?_))<;>(try simp (disch:=first | omega | decide +kernel) only [q',Int.toNat_natCast,hei,List.length_map,ByteArray.size_append,size_lit2,go_sem,Qa,Qb,Qc,Qd,Qe,↓reduceIte,reduceCtorEq,Qf,Qg,Qh])<;>clear q') | refine hN _ ?_ ?_ Wk.kk | with_reducible refine And.intro ?_ ?_ | with_reducible omega | exact ok_ints | exact cells_ints | exact no_mem | with_reducible exact plain_ints | (refine le_maxLen ?_; omega) | (refine za9 ⟨?_,?_⟩) | (simp only [go_sem,Qc,Qb,zb1,zb2,forall_eq]; done)))
   all_goals (first | (refine hN (s++ByteArray.mk #[59,32]++xa) _ (by omega) (by rw [ByteArray.size_append,ByteArray.size_append,size_lit2]; omega) (by refine Wk.auto ?_ ?_<;>simp [extraK,lk,killL,St.kill,wipeO,wipeS,AV.has,AV.hasL,AO.wipe,List.map_set,updSt,insL,dropS,ins,])))
 . simp (disch:=first | omega | decide +kernel) only [Int.toNat_natCast,List.length_map,go_sem,Qa,Qb,Qc,Qd,Qe,↓reduceIte,reduceCtorEq,Qf,Qg,Qh]
   (repeat' (first | ((first | (refine gsel_split (fun q' => ?_) (fun q' => ?_)<;>(have h':=q')<;>(try simp only [za1,za2,Ba,Bb,za3,ne_eq,za4,za5,za6,Ia,Ib,Ic,Ie,Da,Bc,Bd,Be,za7,za8] at h')<;>try (exfalso; omega)) | (have q':=trivial; first | refine hE _ _ ret_ne ?_ | refine hE _ _ exit_ne ?_))<;>(try simp (disch:=first | omega | decide +kernel) only [q',Int.toNat_natCast,List.length_map,go_sem,Qa,Qb,Qc,Qd,Qe,↓reduceIte,reduceCtorEq,Qf,Qg,Qh])<;>clear q') | refine hN _ ?_ ?_ Wk.kk | with_reducible refine And.intro ?_ ?_ | with_reducible omega | exact ok_ints | exact cells_ints | exact no_mem | with_reducible exact plain_ints | (refine le_maxLen ?_; omega) | (refine za9 ⟨?_,?_⟩) | (simp only [go_sem,Qc,Qb,zb1,zb2,forall_eq]; done)))
   all_goals (first | exact retR_p rfl rfl ⟨rfl,_,rfl,by omega⟩)
structure FOK (u : Int) (cs : List (List Int)) : Prop where
 v : 0<=u∧u<=12
 n : cs.length<=60
 k : ∀ c ∈ cs,okClause u c=true
theorem FOK.nil : FOK 0 []:=⟨by omega,by simp,fun _ h => nomatch h⟩
theorem bd12 {u : Int} {c : List Int} (h : okClause u c=true) : c.length<=12∧∀ l ∈ c,-999999<=l∧l<=999999:=by
 simp only [okClause,Bc,decide_eq_true_eq] at h
 obtain ⟨hv,hc⟩:=h
 rw [okVars_iff] at hv
 have hlt : ∀ j,j < c.length->j < (c.getD j 0).natAbs:=by
  intro j
  induction j with
  | zero => intro hj; have:=(hc 0 hj).1.1; omega
  | succ j ih =>
    intro hj
    have h1:=(hc (j + 1) hj).2 (by omega)
    rw [Nat.add_sub_cancel] at h1
    have:=ih (by omega)
    omega
 refine ⟨?_,fun l hl => ?_⟩
 . by_cases h0 : c.length=0
   . omega
   . have:=hlt (c.length - 1) (by omega)
     have:=(hc (c.length - 1) (by omega)).1
     omega
 . obtain ⟨j,hj,rfl⟩:=List.mem_iff_getElem.1 hl
   have:=(hc j hj).1
   rw [show c.getD j 0=c[j] by simp [List.getD_eq_getElem?_getD,hj]] at this
   omega
theorem parseCnf_ok (s : ByteArray) (hs : s.size<=1000000) : CtrR Try.prog 163 [.d (.str s)] [] [] true fun r oo => oo=[]∧∃ x : (Int × List (List Int)) × Bool,r=.tup [.d (.agg [.int .i64 x.1.1,.slice (x.1.2.map D.ints)]),.d (.bool x.2)]∧FOK x.1.1 x.1.2:=by
 have c1:=l1Split_ok s 59 hs
 obtain ⟨b1,b2,b3⟩:=splI_bd s 59
 generalize splI s 59=ps at *
 have hei : ∀ i,i < ps.length->el (ps.map D.str) i=.str (ps.getD i ByteArray.empty):=fun i hi => el_map (f:=D.str) ByteArray.empty hi
 have hz : ∀ i,i < ps.length->(ps.getD i ByteArray.empty).size<=1000000:=fun i hi => by have:=b3 _ (getD_mem (z:=ByteArray.empty) hi); omega
 have c2:=l1Read_ok (ps.getD 0 ByteArray.empty) (hz 0 (by omega))
 have c3:=fun v : Int => l2Vars_ok v
 have t0 : Int.toNat 0=0:=rfl
 refine CtrR.ofO (n:=82) (rs:=[.cell 2 26,.tmp 3]) Try.func163 rfl rfl Try.ntmps163 rfl rfl (by kernel_rfl) Try.checked.mixed ?_; intro u
 refine Ok.endsW ?_
 refine Ok.go ?_
 simp (disch:=first | omega | decide +kernel) only [t0,go_sem,Qa,Qb,Qc,Qd,Qe,↓reduceIte,reduceCtorEq,Qf,Qg,Qh]
 (repeat' (first | ((first | (refine gsel_split (fun q' => ?_) (fun q' => ?_)<;>(have h':=q')<;>(try simp only [za1,za2,Ba,Bb,za3,ne_eq,za4,za5,za6,Ia,Ib,Ic,Ie,Da,Bc,Bd,Be,za7,za8] at h')<;>try (exfalso; omega)) | (have q':=trivial; first | refine callX_new (c1) rfl (by decide) ?_ | refine callY_new (c1) rfl ?_ | (refine callX_rels (c2) ⟨.inl rfl,trivial⟩ (by simp [dstB]) ?_; rintro _ ⟨xa,rfl,hxa⟩) | (refine callX_rels (c2) ⟨.inr ⟨rfl,_,rfl,rfl⟩,trivial⟩ (by simp [dstB]) ?_; rintro _ ⟨xa,rfl,hxa⟩) | refine callX_new (c3 _) rfl (by decide) ?_ | refine callY_new (c3 _) rfl ?_ | refine hE _ _ ret_ne ?_ | refine hE _ _ exit_ne ?_))<;>(try simp (disch:=first | omega | decide +kernel) only [q',t0,hei,go_sem,Qa,Qb,Qc,Qd,Qe,↓reduceIte,reduceCtorEq,Qf,Qg,Qh])<;>clear q') | refine hN _ ?_ ?_ Wk.kk | with_reducible refine And.intro ?_ ?_ | with_reducible omega | exact ok_ints | exact cells_ints | exact no_mem | with_reducible exact plain_ints | (refine le_maxLen ?_; omega) | (refine za9 ⟨?_,?_⟩) | (simp only [go_sem,Qc,Qb,zb1,zb2,forall_eq]; done)))
 all_goals (first | exact endF [] (retR_cv rfl rfl rfl (by simp only [go_sem]) (by simp only [go_sem,List.length_cons,List.length_nil]) rfl (by simp only [go_sem]) ⟨rfl,((0,[]),false),rfl,FOK.nil⟩) | skip)
 obtain ⟨w,ok⟩:=xa
 dsimp only at *
 have hw : 0<=w∧w<=12:=by simpa [okVars] using (by assumption : okVars w=true)
 refine Ok.loopN [81,80,79,78,77,76,75,74,73,72,71,70,69,68,67,66,65,64,63,62,61,60,59,58,57,56,55,54,53,52,51,50,49,48,47,46,45,44,43,42,41,40,39,38,37,36,35,34,33,32,31,30,29,28,27,26,25,24,23,22,21,20,19,18,17,16,15,14,13,12,11,10,9,8,6,1] (fun i (_ : List (List Int)) => [(8,.d (.int .i64 ((i + 1 : Nat) : Int)))]) (fun _ (o : List (List Int)) => [(34,.arr 27 1 (o.map D.ints))]) (ps.length - 1) (fun i o => o.length=i∧∀ c ∈ o,okClause w c=true) [] ⟨rfl,fun l hl => nomatch hl⟩ (Wk.kk) ?_
 rintro R i o hN hE hi ⟨ho1,ho2⟩
 by_cases hlt : i + 1 < ps.length
 . have hei1:=hei (i + 1) hlt
   have hz1:=hz (i + 1) hlt
   have hex : ((ps.getD (i + 1) ByteArray.empty).extract 1 (ps.getD (i + 1) ByteArray.empty).size).size<=1000000:=by rw [ByteArray.size_extract]; omega
   have c4:=l2Parse_ok w ((ps.getD (i + 1) ByteArray.empty).extract 1 (ps.getD (i + 1) ByteArray.empty).size) hex
   have t1 : Int.toNat 1=1:=rfl
   clear c1 c2 c3 hei hz
   simp (disch:=first | omega | decide +kernel) only [Int.toNat_natCast,t0,t1,go_sem,Qa,Qb,Qc,Qd,Qe,↓reduceIte,reduceCtorEq,Qf,Qg,Qh]
   (repeat' (first | ((first | (refine gsel_split (fun q' => ?_) (fun q' => ?_)<;>(have h':=q')<;>(try simp only [za1,za2,Ba,Bb,za3,ne_eq,za4,za5,za6,Ia,Ib,Ic,Ie,Da,Bc,Bd,Be,za7,za8] at h')<;>try (exfalso; omega)) | (have q':=trivial; first | refine hE _ _ ret_ne ?_ | refine hE _ _ exit_ne ?_))<;>(try simp (disch:=first | omega | decide +kernel) only [q',Int.toNat_natCast,hei1,t0,t1,go_sem,Qa,Qb,Qc,Qd,Qe,↓reduceIte,reduceCtorEq,Qf,Qg,Qh])<;>clear q') | refine hN _ ?_ ?_ Wk.kk | with_reducible refine And.intro ?_ ?_ | with_reducible omega | exact ok_ints | exact cells_ints | exact no_mem | with_reducible exact plain_ints | (refine le_maxLen ?_; omega) | (refine za9 ⟨?_,?_⟩) | (simp only [go_sem,Qc,Qb,zb1,zb2,forall_eq]; done)))
   all_goals (first | exact endF [] (retR_cv rfl rfl rfl (by simp only [go_sem]) (by simp only [go_sem,List.length_cons,List.length_nil]) rfl (by simp only [go_sem]) ⟨rfl,((0,[]),false),rfl,FOK.nil⟩) | skip)
   refine callX_newR c4 ⟨.inl rfl,.inl rfl,trivial⟩ (by simp) ?_
   rintro ⟨c,okc⟩ ⟨hc1,hc2,hc3⟩
   dsimp only at hc1 hc2 hc3 ⊢
   simp (disch:=first | omega | decide +kernel) only [Int.toNat_natCast,t0,t1,go_sem,Qa,Qb,Qc,Qd,Qe,↓reduceIte,reduceCtorEq,Qf,Qg,Qh]
   (repeat' (first | ((first | (refine gsel_split (fun q' => ?_) (fun q' => ?_)<;>(have h':=q')<;>(try simp only [za1,za2,Ba,Bb,za3,ne_eq,za4,za5,za6,Ia,Ib,Ic,Ie,Da,Bc,Bd,Be,za7,za8] at h')<;>try (exfalso; omega)) | (have q':=trivial; first | refine hE _ _ ret_ne ?_ | refine hE _ _ exit_ne ?_))<;>(try simp (disch:=first | omega | decide +kernel) only [q',Int.toNat_natCast,hei1,t0,t1,go_sem,Qa,Qb,Qc,Qd,Qe,↓reduceIte,reduceCtorEq,Qf,Qg,Qh])<;>clear q') | refine hN _ ?_ ?_ Wk.kk | with_reducible refine And.intro ?_ ?_ | with_reducible omega | exact ok_ints | exact cells_ints | exact no_mem | with_reducible exact plain_ints | (refine le_maxLen ?_; omega) | (refine za9 ⟨?_,?_⟩) | (simp only [go_sem,Qc,Qb,zb1,zb2,forall_eq]; done)))
   all_goals (first | exact endF [] (retR_cv rfl rfl rfl (by simp only [go_sem]) (by simp only [go_sem,List.length_cons,List.length_nil]) rfl (by simp only [go_sem]) ⟨rfl,((0,[]),false),rfl,FOK.nil⟩) | skip)
   refine hN (o++[c]) _ (by omega) ⟨by simp [ho1],fun d hd => ?_⟩ (by refine Wk.auto ?_ ?_<;>simp [extraK,lk,killL,St.kill,wipeO,wipeS,AV.has,AV.hasL,AO.wipe,List.map_set,updSt,insL,dropS,ins,List.map_append,List.map_cons,List.map_nil,D.ints])
   rcases List.mem_append.1 hd with hd | hd
   . exact ho2 d hd
   . rw [List.mem_singleton] at hd; subst hd; exact hc3 (by assumption)
 . have c5:=l2TextOf_ok w o hw (by omega) fun c hc => ⟨by have:=(bd12 (ho2 c hc)).1; omega,(bd12 (ho2 c hc)).2⟩
   simp (disch:=first | omega | decide +kernel) only [Int.toNat_natCast,go_sem,Qa,Qb,Qc,Qd,Qe,↓reduceIte,reduceCtorEq,Qf,Qg,Qh]
   (repeat' (first | ((first | (refine gsel_split (fun q' => ?_) (fun q' => ?_)<;>(have h':=q')<;>(try simp only [za1,za2,Ba,Bb,za3,ne_eq,za4,za5,za6,Ia,Ib,Ic,Ie,Da,Bc,Bd,Be,za7,za8] at h')<;>try (exfalso; omega)) | (have q':=trivial; first | (refine callX_rels (c5) ⟨.inl rfl,trivial⟩ (by simp [dstB]) ?_; rintro _ ⟨xb,rfl,hxb⟩) | (refine callX_rels (c5) ⟨.inr ⟨rfl,_,rfl,rfl⟩,trivial⟩ (by simp [dstB]) ?_; rintro _ ⟨xb,rfl,hxb⟩) | refine hE _ _ ret_ne ?_ | refine hE _ _ exit_ne ?_))<;>(try simp (disch:=first | omega | decide +kernel) only [q',Int.toNat_natCast,List.length_map,go_sem,Qa,Qb,Qc,Qd,Qe,↓reduceIte,reduceCtorEq,Qf,Qg,Qh])<;>clear q') | refine hN _ ?_ ?_ Wk.kk | with_reducible refine And.intro ?_ ?_ | with_reducible omega | exact ok_ints | exact cells_ints | exact no_mem | with_reducible exact plain_ints | (refine le_maxLen ?_; omega) | (refine za9 ⟨?_,?_⟩) | (simp only [go_sem,Qc,Qb,zb1,zb2,forall_eq]; done)))
   all_goals (first | exact endF [] (retR_cv rfl rfl rfl (by simp only [go_sem]) (by simp only [go_sem,List.length_cons,List.length_nil]) rfl (by simp only [go_sem]) ⟨rfl,((0,[]),false),rfl,FOK.nil⟩) | exact endF [34] (retR_cv rfl rfl rfl (by simp only [go_sem]) (by simp only [go_sem,List.length_cons,List.length_nil]) rfl (by simp only [go_sem]) ⟨rfl,((w,o),true),rfl,hw,by dsimp only; omega,ho2⟩))
end Abs.Y

namespace Abs.Y
open Go Go.Proofs Abs
open Nat renaming reduceEqDiff -> Qa, reduceLT -> Qb, reduceAdd -> Qc, reduceMul -> Qd, reduceSub -> Qe, reduceLeDiff -> Qf, reduceSubDiff -> Qg, reduceBEq -> Qh
open Bool renaming not_eq_true' -> Ba, not_eq_false' -> Bb, and_eq_true -> Bc, or_eq_true -> Bd, or_eq_false_iff -> Be
open Int renaming ofNat_lt -> Ia, ofNat_le -> Ib, not_lt -> Ic, not_le -> Ie
open Decidable renaming not_not -> Da
set_option maxRecDepth 100000
set_option maxHeartbeats 1000000

end Abs.Y
