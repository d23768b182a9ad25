/- What functions of this program compute, over plain data. No condition. -/
import Derived.Test.YtckigpgkmdhfoaaR4
import Derived.Test.YtckigpgkmdhfoaaG4
set_option linter.all false
namespace Abs.Y
open Go Go.Proofs Abs
open Nat renaming reduceEqDiff -> Qa, reduceLT -> Qb, reduceAdd -> Qc, reduceMul -> Qd, reduceSub -> Qe, reduceLeDiff -> Qf, reduceSubDiff -> Qg, reduceBEq -> Qh
open Bool renaming not_eq_true' -> Ba, not_eq_false' -> Bb, and_eq_true -> Bc, or_eq_true -> Bd, or_eq_false_iff -> Be
open Int renaming ofNat_lt -> Ia, ofNat_le -> Ib, not_lt -> Ic, not_le -> Ie
open Decidable renaming not_not -> Da
set_option maxRecDepth 100000
set_option maxHeartbeats 1000000

def DrawsR (f : FuncId) (xs : List AV) (k : Nat) (Q : AO->Prop) (code : List Int) : Prop:=∀ at_ seed,at_ + k<=1099511627776->0<=seed->seed < 18446744073709551616 ->
 CtrR Try.prog f (.p 0 0 :: xs) (curO code at_ seed) [0] true fun r oo => ∃ at' seed' o,at_<=at'∧at'<=at_ + k∧0<=seed'∧seed' < 18446744073709551616∧r=.sl 1∧oo=[(0,curB code at' seed'),(1,o)]∧Q o
theorem callX_drawR {N f cavs st d K} (J : Nat) {xs k Q code at_ seed} (hs : DrawsR f xs k Q code) (hp : passM Try.prog (delL [J] st.o) (nth [J]) true cavs (.p 0 0 :: xs)) (ho : lkn J st.o=some ((curB code at_ seed).ren (nth [J])))
 (hJ : (J == 100000 * (d + 1))=false) (hd : d < N) (h1 : at_ + k<=1099511627776) (h2 : 0<=seed) (h3 : seed < 18446744073709551616)
 (hK : ∀ at' seed' o,at_<=at'->at'<=at_ + k->0<=seed'->seed' < 18446744073709551616->Q o->K (impM st (some d) (nth [J,100000 * (d + 1)]) [100000 * (d + 1)] (.sl 1) [(0,curB code at' seed'),(1,o)])) : callX Try.prog N f cavs (some d) K st :=
 callX_rel [J] [J,100000 * (d + 1)] [100000 * (d + 1)] (hs at_ seed h1 h2 h3) hp ⟨ho,trivial⟩ (by simp [namesI,keysO,nth]) hd fun r oo ⟨at',seed',o,a1,a2,a3,a4,er,e,hQ⟩ => by
  have hne : ¬ J=100000 * (d + 1):=by simpa using hJ
  subst er; subst e; exact ⟨by simp [namesOK,keysO,nth,hne,Ne.symm hne],hK at' seed' o a1 a2 a3 a4 hQ⟩
theorem retM_ns {P : Program} {t j : Nat} {st : St} {u : Nat->Value} {ob o1 : AO} (h : lk t st.s=some (.sl j)) (ho : lk 0 st.o=some ob) (hj : lk j st.o=some o1) (hk : lk 1000000000 st.s=some (.hdr 0 (u 0))) (hne : ¬ j=0) (hr : ∀ g,ob.ren g=ob) (hr1 : ∀ g,o1.ren g=o1) :
 retM P [.tmp t] u [0] true (.sl 1) [(0,ob),(1,o1)] .ret st:=by
 simp only [retM,resV,h]
 refine ⟨trivial,⟨nth [0,j],rfl,?_,by simp [nth,hne,Ne.symm hne],⟨rfl,hk,trivial⟩⟩,.inl trivial⟩
 intro p hp
 simp only [List.mem_cons,List.not_mem_nil,or_false] at hp
 rcases hp with rfl | rfl
 . rw [hr]; exact ho
 . rw [hr1]; exact hj
@[reducible] def QL (Q : List Int->Prop) : AO->Prop:=fun o => ∃ x : List Int,o=.arr 3 1 (x.map (.int .i64))∧Q x
theorem retR_drawR {t j : Nat} {u : Nat->Value} {st : St} {code : List Int} {at_ k : Nat} {Q : List Int->Prop} {at' : Nat} {seed' : Int} {x : List Int} (h : lk t st.s=some (.sl j)) (ho : lk 0 st.o=some (curB code at' seed')) (hj : lk j st.o=some (.arr 3 1 (x.map (.int .i64)))) (hk : lk 1000000000 st.s=some (.hdr 0 (u 0)))
 (hne : ¬ j=0) (h1 : at_<=at') (h2 : at'<=at_ + k) (h3 : 0<=seed') (h4 : seed' < 18446744073709551616) (hQ : Q x) :
 retR Try.prog [.tmp t] u [0] true (fun r oo => ∃ at' seed' o,at_<=at'∧at'<=at_ + k∧0<=seed'∧seed' < 18446744073709551616∧r=.sl 1∧oo=[(0,curB code at' seed'),(1,o)]∧QL Q o) .ret st :=
 ⟨_,_,⟨at',seed',_,h1,h2,h3,h4,rfl,rfl,_,rfl,hQ⟩,retM_ns h ho hj hk hne (fun _ => rfl) (fun _ => rfl)⟩
def SmN (n : Nat) (l : List Int) : Prop:=l.length<=n∧∀ x ∈ l,-1000001<=x∧x<=1000001
theorem smN_put {n : Nat} {c : List Int} {p : Int->Bool} {l : Int} (h : SmN n c) (hl : -1000001<=l∧l<=1000001) : SmN (n + 1) (putI (c.filter p) l):=by
 refine ⟨by rw [length_putI]; exact Nat.succ_le_succ (Nat.le_trans (List.length_filter_le _ _) h.1),fun x hx => ?_⟩
 rw [putI,List.mem_append,List.mem_cons] at hx
 rcases hx with hx | rfl | hx
 . exact h.2 x ((List.mem_filter.1 ((List.takeWhile_sublist _).mem hx)).1)
 . exact hl
 . exact h.2 x ((List.mem_filter.1 ((List.dropWhile_sublist _).mem hx)).1)
theorem dclause_ok {code : List Int} (hc : CodeOK code) (vars : Int) (hv : -1000000<=vars∧vars<=1000000) :
 DrawsR 110 [.d (.int .i64 vars)] 24 (QL (SmN 4)) code:=fun at_ seed h1 h2 h3 => by
 have c1:=pick_ok hc vars (by omega)
 have c2:=one_ok hc 2 (by omega)
 have c4:=amongB_ok hc [1,2,2,3,3,4,0,2] 0 4 (by simp) (by simp)
 simp only [List.map_cons,List.map_nil] at c4
 refine CtrR.of (n:=35) (rs:=[.tmp 4]) Try.func110 rfl rfl Try.ntmps110 rfl rfl (by kernel_rfl) Try.checked.mixed ?_; intro u
 simp (disch:=first | omega | decide +kernel) only [curO,curB,D.bytes,go_sem,Qa,Qb,Qc,Qd,Qe,↓reduceIte,reduceCtorEq,Qf,Qg,Qh]
 (repeat' (first | ((first | (refine gsel_split (fun q' => ?_) (fun q' => ?_)<;>(have h':=q')<;>(try simp only [za1,za2,Ba,Bb,za3,ne_eq,za4,za5,za6,Ia,Ib,Ic,Ie,Da,Bc,Bd,Be,za7,za8] at h')<;>try (exfalso; omega)) | (have q':=trivial; first | (refine callX_drawL _ _ (c4) ⟨.inl rfl,.inl rfl,trivial⟩ rfl rfl (by decide) (by simp [dstB]) (by omega) (by omega) (by omega) ?_; rintro _ at1 sd1 hat1 hat2 hsd1 hsd2 ⟨x1,rfl,hx1⟩) | refine hE _ _ ret_ne ?_ | refine hE _ _ exit_ne ?_))<;>(try simp (disch:=first | omega | decide +kernel) only [q',curO,curB,D.bytes,go_sem,Qa,Qb,Qc,Qd,Qe,↓reduceIte,reduceCtorEq,Qf,Qg,Qh])<;>clear q') | refine hN _ ?_ ?_ Wk.kk | with_reducible refine And.intro ?_ ?_ | with_reducible omega | exact ok_ints | exact cells_ints | exact no_mem | with_reducible exact plain_ints | (refine le_maxLen ?_; omega) | (refine za9 ⟨?_,?_⟩) | (simp only [go_sem,Qc,Qb,zb1,zb2,forall_eq]; done)))
 refine Ok.weak (show Wk _ _ ⟨[(1000000000,.hdr 0 (u 0)),(6,.d (.int .i64 x1)),(5,.sl 8),(1,.d (.int .i64 vars)),(0,.p 0 0)],[(8,.arr 3 1 []),(0,.box 79 [.d (.slice (code.map (.int .u8))),.d (.int .i64 (at1 : Nat)),.d (.int .u64 sd1)])]⟩ from (Wk.kk)) ?_
 refine Ok.loopN [34,33,32,31,30,29,28,27,26,25,24,23,22,21,20,19,18,17,16,15,14,13,12,11,10,9,8,7,4] (fun i (a : (List Int × Int) × (Nat × Int)) => [(6,.d (.int .i64 a.1.2)),(5,.sl 8)])
  (fun _ (a : (List Int × Int) × (Nat × Int)) => [(8,.arr 3 1 (a.1.1.map (.int .i64))),(0,.box 79 [.d (.slice (code.map (.int .u8))),.d (.int .i64 (a.2.1 : Nat)),.d (.int .u64 a.2.2)])]) x1.toNat
  (fun i a => a.1.2=x1 - i∧SmN i a.1.1∧at1<=a.2.1∧a.2.1<=at1 + 4 * i∧0<=a.2.2∧a.2.2 < 18446744073709551616) (([],x1),(at1,sd1)) ⟨by show x1=x1 - ((0 : Nat) : Int); omega,⟨Nat.zero_le _,fun x hx => nomatch hx⟩,Nat.le_refl _,Nat.le_add_right _ _,hsd1,hsd2⟩ (Wk.kk) ?_
 rintro R i ⟨⟨c,n⟩,a,s⟩ hN hE hi ⟨hn,hS,ha1,ha2,hs1,hs2⟩
 simp only at hn hS ha1 ha2 hs1 hs2
 have hcl:=hS.1
 have hp1:=fun v => l2Without_ok c v (by omega)
 have hp2:=fun (v l : Int) => l2Put_ok (c.filter fun l => varI l != v) l (Nat.le_trans (List.length_filter_le _ _) (by omega))
 simp only [D.ints] at hp1 hp2
 dsimp only
 simp (disch:=first | omega | decide +kernel) only [go_sem,Qa,Qb,Qc,Qd,Qe,↓reduceIte,reduceCtorEq,Qf,Qg,Qh]
 (repeat' (first | ((first | (refine gsel_split (fun q' => ?_) (fun q' => ?_)<;>(have h':=q')<;>(try simp only [za1,za2,Ba,Bb,za3,ne_eq,za4,za5,za6,Ia,Ib,Ic,Ie,Da,Bc,Bd,Be,za7,za8] at h')<;>try (exfalso; omega)) | (have q':=trivial; first | (refine callX_draw _ (c1) ⟨.inl rfl,.inl rfl,trivial⟩ rfl (by simp [dstB]) (by omega) (by omega) (by omega) ?_; rintro _ ata sda hata1 hata2 hsda1 hsda2 ⟨xa,rfl,hxa⟩) | (refine callX_draw _ (c2) ⟨.inl rfl,.inl rfl,trivial⟩ rfl (by simp [dstB]) (by omega) (by omega) (by omega) ?_; rintro _ atb sdb hatb1 hatb2 hsdb1 hsdb2 ⟨xb,rfl,hxb⟩) | refine callX_new (hp1 _) rfl (by decide) ?_ | refine callY_new (hp1 _) rfl ?_ | refine callX_new (hp2 _ _) rfl (by decide) ?_ | refine callY_new (hp2 _ _) rfl ?_ | refine hE _ _ ret_ne ?_ | refine hE _ _ exit_ne ?_))<;>(try simp (disch:=first | omega | decide +kernel) only [q',curO,curB,D.bytes,go_sem,Qa,Qb,Qc,Qd,Qe,↓reduceIte,reduceCtorEq,Qf,Qg,Qh])<;>clear q') | refine hN _ ?_ ?_ Wk.kk | with_reducible refine And.intro ?_ ?_ | with_reducible omega | exact ok_ints | exact cells_ints | exact no_mem | with_reducible exact plain_ints | (refine le_maxLen ?_; omega) | (refine za9 ⟨?_,?_⟩) | (simp only [go_sem,Qc,Qb,zb1,zb2,forall_eq]; done)))
 . refine hN ((putI (c.filter fun l => varI l != 1 + xa) (0 - (1 + xa)),n - 1),(atb,sdb)) _ (by omega) ⟨by dsimp only; omega,smN_put hS (by omega),by dsimp only; omega,by dsimp only; omega,hsdb1,hsdb2⟩ ((Wk.swp 3400000 8).trans (by refine Wk.auto ?_ ?_<;>simp [extraK,lk,killL,St.kill,wipeO,wipeS,AV.has,AV.hasL,AO.wipe,List.map_set,updSt,insL,dropS,ins,swpS,swpO,swp,AV.ren,AV.renL,AO.ren]))
 . refine hN ((putI (c.filter fun l => varI l != 1 + xa) (1 + xa),n - 1),(atb,sdb)) _ (by omega) ⟨by dsimp only; omega,smN_put hS (by omega),by dsimp only; omega,by dsimp only; omega,hsdb1,hsdb2⟩ ((Wk.swp 3400000 8).trans (by refine Wk.auto ?_ ?_<;>simp [extraK,lk,killL,St.kill,wipeO,wipeS,AV.has,AV.hasL,AO.wipe,List.map_set,updSt,insL,dropS,ins,swpS,swpO,swp,AV.ren,AV.renL,AO.ren]))
 all_goals exact retR_drawR rfl rfl rfl rfl (by decide) (by omega) (by omega) hs1 hs2 ⟨by omega,hS.2⟩
end Abs.Y
