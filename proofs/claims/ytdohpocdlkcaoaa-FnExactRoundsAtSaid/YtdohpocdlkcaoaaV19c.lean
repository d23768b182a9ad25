/- What functions of this program compute, over plain data. No condition. -/
import Derived.Test.YtdohpocdlkcaoaaAbsJoin
import Derived.Test.YtdohpocdlkcaoaaV18c
set_option linter.all false
namespace Abs.Y
open Go Go.Proofs Abs
open Nat renaming reduceEqDiff -> Qa, reduceLT -> Qb, reduceAdd -> Qc, reduceMul -> Qd, reduceSub -> Qe, reduceLeDiff -> Qf, reduceSubDiff -> Qg, reduceBEq -> Qh
open Bool renaming not_eq_true' -> Ba, not_eq_false' -> Bb, and_eq_true -> Bc, or_eq_true -> Bd, or_eq_false_iff -> Be
open Int renaming ofNat_lt -> Ia, ofNat_le -> Ib, not_lt -> Ic, not_le -> Ie
open Decidable renaming not_not -> Da
set_option maxRecDepth 100000

theorem sz_cnfR {cs : List (List Int)} (h : ¬ szS szI cs 1048576 < 0) : cs.length<=1048576∧(∀ x ∈ cs,x.length<=1048576)∧∀ j,(cs.getD j []).length<=1048576:=by
 have l1:=szS_len (f:=szI) (a:=cs) (left:=1048576) (by omega)
 have x1 : ∀ x ∈ cs,x.length<=1048576:=fun x hx => by
  obtain ⟨y,h3,h4,h5⟩:=szS_each szI_szF (a:=cs) (left:=1048576) (by omega) x hx
  have:=szI_len h5; omega
 refine ⟨by omega,x1,fun j => ?_⟩
 by_cases hj : j < cs.length
 . exact x1 _ (getD_mem hj)
 . rw [List.getD_eq_getElem?_getD,List.getElem?_eq_none (by omega)]; simp
theorem last_len {cs : List (List Int)} {w r : Nat} (hg : ∀ c ∈ cs,G6 c) (hL : IsLast cs w r) : r + 1<=4096:=by
 have hex : ∀ k,k<=r->∃ c,NewC cs w k c:=fun k hk => Classical.byContradiction fun h => by
  cases k with
  | zero =>
    obtain ⟨c,hc⟩:=hL.1
    exact new_none (fun c hc => h ⟨c,hc⟩) r c hc
  | succ s =>
    by_cases e : s + 1=r
    . subst e; exact h hL.1
    . obtain ⟨c,hc⟩:=hL.1
      exact new_stop (r:=s) (fun c hc => h ⟨c,hc⟩) r c (by omega) hc
 have key : ∀ n,n<=r + 1->∃ L : CT,L.length=n∧(∀ p ∈ L,NewC cs w p.2 p.1∧p.2 < n)∧(keysC L).Nodup:=by
  intro n
  induction n with
  | zero => exact fun _ => ⟨[],rfl,(fun _ h => by cases h),List.Pairwise.nil⟩
  | succ n ih =>
    intro hn
    obtain ⟨L,h1,h2,h3⟩:=ih (by omega)
    obtain ⟨c,hc⟩:=hex n (by omega)
    refine ⟨(c,n) :: L,by simp [h1],fun p hp => ?_,?_⟩
    . rcases List.mem_cons.1 hp with rfl | hp
      . exact ⟨hc,Nat.lt_succ_self n⟩
      . exact ⟨(h2 p hp).1,by have:=(h2 p hp).2; omega⟩
    . show (c :: keysC L).Nodup
      refine List.nodup_cons.2 ⟨fun hm => ?_,h3⟩
      obtain ⟨p,hp,e⟩:=List.mem_map.1 hm
      obtain ⟨h4,h5⟩:=h2 p hp
      rw [e] at h4
      have:=new_uniq h4 hc
      omega
 obtain ⟨L,h1,h2,h3⟩:=key (r + 1) (Nat.le_refl _)
 have:=table_len (L:=L) (fun p hp => new_g6 hg (h2 p hp).1) h3
 omega
theorem rndI_bd (v : Int) (cs : List (List Int)) (w : Int) : (rndI v cs w).length<=4096∧∀ x ∈ rndI v cs w,x.length<=4096∧∀ y ∈ x,y.length<=12:=by
 unfold rndI
 split
 . rename_i h
   obtain ⟨g1,_⟩:=good6 h
   unfold roundsV
   split
   . rename_i hex
     have:=last_len g1 hex.choose_spec
     refine ⟨by rw [List.length_map,List.length_range]; exact this,fun x hx => ?_⟩
     obtain ⟨k,_,rfl⟩:=List.mem_map.1 hx
     obtain ⟨h1,h2⟩:=new_len (w:=w.toNat) (k:=k) g1
     exact ⟨h1,fun y hy => g6_len (h2 y hy)⟩
   . exact ⟨by simp,fun x hx => nomatch hx⟩
 . exact ⟨by simp,fun x hx => nomatch hx⟩
set_option maxHeartbeats 4000000 in
theorem law_RoundsAt : ∀ xs,AllR [isSt [isI64,isSl (isSl isI64)],isI64] xs->Ctr Try.prog 3 xs false (.d (.bool true)) []:=by
 intro xs hx
 obtain ⟨x0,ys,rfl,h0,hx⟩:=allR_cons hx
 obtain ⟨x1,ys,rfl,h1,hx⟩:=allR_cons hx
 obtain rfl:=allR_nil hx
 obtain ⟨v,cs,rfl,hcl,hcx⟩:=r_cnf h0
 obtain ⟨w,rfl,_⟩:=h1
 have e1:=szS_szF szI_szF cs 1048576 (by omega)
 have s1:=szCnf_ok v cs 1048576 hcl hcx ⟨by omega,by omega⟩
 by_cases hz1 : szS szI cs 1048576 < 0
 . refine Ctr.of (n:=101) (rs:=[.tmp 4]) Try.func3 rfl rfl Try.ntmps3 rfl rfl (by kernel_rfl) Try.checked.mixed ?_
   simp (disch:=first | omega | decide +kernel) only [go_sem,Qa,Qb,Qc,Qd,Qe,↓reduceIte,reduceCtorEq,Qf,Qg,Qh]
   (repeat' (first | ((first | (refine gsel_split (fun q' => ?_) (fun q' => ?_)<;>(have h':=q')<;>(try simp only [za1,za2,Ba,Bb,za3,ne_eq,za4,za5,za6,Ia,Ib,Ic,Ie,Da,Bc,Bd,Be,za7,za8] at h')) | (have q':=trivial; first | refine callX_new (s1) rfl (by decide) ?_ | refine callY_new (s1) rfl ?_ | refine hE _ _ ret_ne ?_ | refine hE _ _ exit_ne ?_))<;>(try simp (disch:=first | omega | decide +kernel) only [q',go_sem,Qa,Qb,Qc,Qd,Qe,↓reduceIte,reduceCtorEq,Qf,Qg,Qh])<;>clear q') | refine hN _ ?_ ?_ Wk.kk | with_reducible refine And.intro ?_ ?_ | with_reducible omega | exact ok_ints | exact cells_ints | exact no_mem | with_reducible exact plain_ints | (refine le_maxLen ?_; omega) | (refine za9 ⟨?_,?_⟩) | (simp only [go_sem,Qc,Qb,zb1,zb2,forall_eq]; done)))
 obtain ⟨l1,x1,hc⟩:=sz_cnfR (cs:=cs) (by omega)
 have hcl' : cs.length<=4294967296:=by omega
 have hcs : ∀ x ∈ cs,x.length<=4294967296:=fun x hx => Nat.le_trans (x1 x hx) (by omega)
 have t1:=toCnf_ok v cs hcl' hcs
 have q1:=eqCnf_ok v v cs cs hcl' hcs
 have d1:=toCnfd_ok v cs hcl' hcs
 have c1:=sRounds_ok v cs w (by omega) hc
 have c2:=implRounds_ok v cs w (by omega) hc
 have hlen:=lenSS_bound (a:=cs) (B:=1048576) x1
 have m1:=fun τ => markCnf_ok τ v cs 1 (by omega) (by omega) hcl'
 obtain ⟨hR,hRx⟩:=rndI_bd v cs w
 generalize rndI v cs w=R at *
 generalize goodN v cs w=B at *
 have hRs : ∀ x ∈ R,lenSS x<=4096 * 13:=fun x hx => by
  have h2:=lenSS_bound (a:=x) (B:=12) (hRx x hx).2
  have h3 : x.length * (12 + 1)<=4096 * 13:=Nat.mul_le_mul_right 13 (hRx x hx).1
  omega
 have hRl:=len3_bound (a:=R) (B:=4096 * 13) hRs
 have hRm : R.length * (4096 * 13)<=4096 * (4096 * 13):=Nat.mul_le_mul_right _ hR
 have q0:=eqIntSSS_ok R R (by omega) (fun x hx => ⟨by have:=(hRx x hx).1; omega,fun y hy => by have:=(hRx x hx).2 y hy; omega⟩)
 have m3:=fun τ => markIntSSS_ok τ R 1 (by omega) (by omega) (by omega) (fun x hx => by have:=(hRx x hx).1; omega)
 have hh:=heldIntSSS_ok R 1 (by omega) (by omega) (by omega) (fun x hx => by have:=(hRx x hx).1; omega)
 clear e1 hz1 h0
 refine Ctr.of (n:=101) (rs:=[.tmp 4]) Try.func3 rfl rfl Try.ntmps3 rfl rfl (by kernel_rfl) Try.checked.mixed ?_
 simp (disch:=first | omega | decide +kernel) only [go_sem,Qa,Qb,Qc,Qd,Qe,↓reduceIte,reduceCtorEq,Qf,Qg,Qh]
 (repeat' (first | ((first | (refine gsel_split (fun q' => ?_) (fun q' => ?_)<;>(have h':=q')<;>(try simp only [za1,za2,Ba,Bb,za3,ne_eq,za4,za5,za6,Ia,Ib,Ic,Ie,Da,Bc,Bd,Be,za7,za8] at h')) | (have q':=trivial; first | refine callX_new (s1) rfl (by decide) ?_ | refine callY_new (s1) rfl ?_ | refine callX_new (d1) rfl (by decide) ?_ | refine callY_new (d1) rfl ?_ | refine callX_new (c1) rfl (by decide) ?_ | refine callY_new (c1) rfl ?_ | refine callX_new (c2) rfl (by decide) ?_ | refine callY_new (c2) rfl ?_ | refine callX_new (q0) rfl (by decide) ?_ | refine callY_new (q0) rfl ?_ | refine callX_new (q1) rfl (by decide) ?_ | refine callY_new (q1) rfl ?_ | refine callX_keep _ (m1 _) ⟨.inl rfl,.inl rfl,trivial⟩ rfl (by simp [dstB]) ?_ | refine callX_keep _ (m3 _) ⟨.inl rfl,.inl rfl,trivial⟩ rfl (by simp [dstB]) ?_ | refine callX_new (hh) rfl (by decide) ?_ | refine callY_new (hh) rfl ?_ | refine callX_shared (t1) rfl (by decide) ?_ | refine callY_shared (t1) rfl ?_ | refine hE _ _ ret_ne ?_ | refine hE _ _ exit_ne ?_))<;>(try simp (disch:=first | omega | decide +kernel) only [q',go_sem,Qa,Qb,Qc,Qd,Qe,↓reduceIte,reduceCtorEq,Qf,Qg,Qh])<;>clear q') | refine hN _ ?_ ?_ Wk.kk | with_reducible refine And.intro ?_ ?_ | with_reducible omega | exact ok_ints | exact cells_ints | exact no_mem | with_reducible exact plain_ints | (refine le_maxLen ?_; omega) | (refine za9 ⟨?_,?_⟩) | (simp only [go_sem,Qc,Qb,zb1,zb2,forall_eq]; done)))
 all_goals (first | exact absurd trivial h' | omega)
end Abs.Y
