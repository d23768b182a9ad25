/- What functions of this program compute, over plain data. No condition. -/
import Derived.Test.YtckigpgkmdhfoaaR5
set_option linter.all false
namespace Abs.Y
open Go Go.Proofs Abs
open Nat renaming reduceEqDiff -> Qa, reduceLT -> Qb, reduceAdd -> Qc, reduceMul -> Qd, reduceSub -> Qe, reduceLeDiff -> Qf, reduceSubDiff -> Qg, reduceBEq -> Qh
open Bool renaming not_eq_true' -> Ba, not_eq_false' -> Bb, and_eq_true -> Bc, or_eq_true -> Bh, or_eq_false_iff -> Be
open Int renaming ofNat_lt -> Ia, ofNat_le -> Ib, not_lt -> Ic, not_le -> Ie
open Decidable renaming not_not -> Da
set_option maxRecDepth 100000
set_option maxHeartbeats 1000000

def Sn (n : Nat) (l : List Int) : Prop:=l.length<=n∧∀ x ∈ l,-9223372036854775808<=x∧x<=1000001
theorem SmN.sn {n m : Nat} {l : List Int} (h : SmN n l) (hm : n<=m) : Sn m l:=⟨Nat.le_trans h.1 hm,fun x hx => by have:=h.2 x hx; omega⟩
theorem Sn.set {n : Nat} {l : List Int} (h : Sn n l) {i : Nat} {y : Int} (hy : -9223372036854775808<=y∧y<=1000001) : Sn n (l.set i y):=by
 refine ⟨by simpa using h.1,fun x hx => ?_⟩
 rcases List.mem_or_eq_of_mem_set hx with hx | rfl
 . exact h.2 x hx
 . exact hy
theorem Sn.getD {n : Nat} {l : List Int} (h : Sn n l) {i : Nat} (hi : i < l.length) : -9223372036854775808<=l.getD i 0∧l.getD i 0<=1000001:=by
 refine h.2 _ ?_
 simp [List.getD_eq_getElem?_getD,hi]
theorem Sn.app {n : Nat} {l : List Int} (h : Sn n l) {y : Int} (hy : -9223372036854775808<=y∧y<=1000001) : Sn (n + 1) (l++[y]):=by
 refine ⟨by have:=h.1; simp; omega,fun x hx => ?_⟩
 rw [List.mem_append,List.mem_singleton] at hx
 rcases hx with hx | rfl
 . exact h.2 x hx
 . exact hy
theorem anyClause_ok {code : List Int} (hc : CodeOK code) (vars : Int) (hv : -1000000<=vars∧vars<=1000000) :
 DrawsR 55 [.d (.int .i64 vars)] 40 (QL (Sn 5)) code:=fun at_ seed h1 h2 h3 => by
 have c1 : DrawsR 110 [.d (.int .i64 vars)] 24 (QL fun l => l.length<=4∧SmN 4 l) code:=fun a b x y z => (dclause_ok hc vars hv a b x y z).mono fun _ _ ⟨at',s,o,e1,e2,e3,e4,e5,e6,x,e7,e8⟩ => ⟨at',s,o,e1,e2,e3,e4,e5,e6,x,e7,e8.1,e8⟩
 have c2:=pick_ok hc 32 (by omega)
 have c3:=lit_ok hc vars hv
 have c4:=amongB_ok hc [0,vars + 1,0 - vars - 1,-9223372036854775808] (-9223372036854775808) 1000001 (by simp) (by simp; omega)
 simp only [List.map_cons,List.map_nil] at c4
 have hei : ∀ (l : List Int) (i : Nat),i < l.length->el (l.map (D.int .i64)) i=.int .i64 (l.getD i 0):=fun l i h => el_ints h
 refine CtrR.of (n:=52) (rs:=[.tmp 4]) Try.func55 rfl rfl Try.ntmps55 rfl rfl (by kernel_rfl) Try.checked.mixed ?_; intro u
 have hei2 : ∀ (l : List Int) (i : Nat) (y : Int) (j : Nat),j < l.length->el ((l.set i y).map (D.int .i64)) j=.int .i64 ((l.set i y).getD j 0):=fun l i y j h => el_ints (by simpa using h)
 have t1 : Int.toNat 1=1:=rfl
 have hms : ∀ (l : List Int) (i : Nat) (y : Int),(l.map (D.int .i64)).set i (.int .i64 y)=(l.set i y).map (D.int .i64):=fun l i y => by rw [List.map_set]
 have hma : ∀ (l : List Int) (y : Int),(l.map (D.int .i64))++[.int .i64 y]=(l++[y]).map (D.int .i64):=fun l y => by simp
 simp (disch:=first | omega | decide +kernel) only [curO,curB,D.bytes,go_sem,Qa,Qb,Qc,Qd,Qe,↓reduceIte,reduceCtorEq,Qf,Qg,Qh]
 (repeat' (first | ((first | (refine gsel_split (fun q' => ?_) (fun q' => ?_)<;>(have h':=q')<;>(try simp only [za1,za2,Ba,Bb,za3,ne_eq,za4,za5,za6,Ia,Ib,Ic,Ie,Da,Bc,Bh,Be,za7,za8] at h')<;>try (exfalso; omega)) | (have q':=trivial; first | (refine callX_drawR _ (c1) ⟨.inl rfl,.inl rfl,trivial⟩ rfl (by decide) (by omega) (by omega) (by omega) (by omega) ?_; rintro ata sda _ hata1 hata2 hsda1 hsda2 ⟨xa,rfl,hxa⟩) | (refine callX_draw _ (c2) ⟨.inl rfl,.inl rfl,trivial⟩ rfl (by simp [dstB]) (by omega) (by omega) (by omega) ?_; rintro _ atb sdb hatb1 hatb2 hsdb1 hsdb2 ⟨xb,rfl,hxb⟩) | (refine callX_draw _ (c3) ⟨.inl rfl,.inl rfl,trivial⟩ rfl (by simp [dstB]) (by omega) (by omega) (by omega) ?_; rintro _ atc sdc hatc1 hatc2 hsdc1 hsdc2 ⟨xc,rfl,hxc⟩) | (refine callX_drawL _ _ (c4) ⟨.inl rfl,.inl rfl,trivial⟩ rfl rfl (by decide) (by simp [dstB]) (by omega) (by omega) (by omega) ?_; rintro _ at1 sd1 hat1 hat2 hsd1 hsd2 ⟨x1,rfl,hx1⟩) | refine hE _ _ ret_ne ?_ | refine hE _ _ exit_ne ?_))<;>(try simp (disch:=first | omega | decide +kernel) only [q',curO,curB,D.bytes,hei,hei2,t1,hms,hma,List.length_set,List.length_map,go_sem,Qa,Qb,Qc,Qd,Qe,↓reduceIte,reduceCtorEq,Qf,Qg,Qh])<;>clear q') | refine hN _ ?_ ?_ Wk.kk | with_reducible refine And.intro ?_ ?_ | with_reducible omega | exact ok_ints | exact cells_ints | exact no_mem | with_reducible exact plain_ints | (refine le_maxLen ?_; omega) | (refine za9 ⟨?_,?_⟩) | (simp only [go_sem,Qc,Qb,zb1,zb2,forall_eq]; done)))
 all_goals (first | omega | (simp only [List.length_set]; omega) | refine retR_drawR rfl rfl rfl rfl (by decide) (by omega) (by omega) (by omega) (by omega) ?_)
 all_goals have hs:=hxa.2
 all_goals (first | exact hs.sn (by omega) | exact (hs.sn (Nat.le_refl _)).app (by omega) | exact (hs.sn (by omega)).set (by omega) | exact ((hs.sn (by omega)).set ((hs.sn (Nat.le_refl _)).getD (by omega))).set ((hs.sn (Nat.le_refl _)).getD (by omega)))
end Abs.Y
