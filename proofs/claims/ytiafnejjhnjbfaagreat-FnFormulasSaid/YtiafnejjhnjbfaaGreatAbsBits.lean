/- What functions of this program compute, over plain data. No condition. -/
import Derived.Test.YtiafnejjhnjbfaaGreatFO4
import Derived.Test.YtiafnejjhnjbfaaGreatFQ1
import Derived.Test.YtiafnejjhnjbfaaGreatAbsBox
import Derived.Test.YtiafnejjhnjbfaaGreatAbsRow
set_option linter.all false
open Nat renaming reduceEqDiff -> Qa, reduceLT -> Qb, reduceAdd -> Qc, reduceMul -> Qd, reduceSub -> Qe, reduceLeDiff -> Qf, reduceSubDiff -> Qg, reduceBEq -> Qh
open Bool renaming not_eq_true' -> Ba, not_eq_false' -> Bb, and_eq_true -> Bc, or_eq_true -> Bh, or_eq_false_iff -> Be
open Int renaming ofNat_lt -> Ia, ofNat_le -> Ib, not_lt -> Ic, not_le -> Ie
open Decidable renaming not_not -> Da
namespace Abs.Y
open Go Go.Proofs Abs
set_option maxRecDepth 100000

noncomputable def endI (s : ByteArray) (k : Nat) : Int:=match prs ((BL s).drop k) with
 | some (_,r) => (s.size : Int) - r.length
 | none => -1
theorem drop_cons {s : ByteArray} {k : Nat} (h : k < s.size) : (BL s).drop k=(BL s).getD k 0 :: (BL s).drop (k + 1):=by
 rw [size_BL] at h
 rw [List.drop_eq_getElem_cons h,List.getD_eq_getElem?_getD,List.getElem?_eq_getElem h]; rfl
theorem endI_of {s : ByteArray} {k : Nat} {x r} (h : prs ((BL s).drop k)=some (x,r)) : ∃ e : Nat,endI s k=(e : Nat)∧e<=s.size∧k < e∧r=(BL s).drop e:=by
 have hp:=prs_some h
 have hl:=prs_len h
 rw [List.length_drop,← size_BL] at hl
 refine ⟨s.size - r.length,by rw [endI,h]; show (s.size : Int) - r.length=_; omega,by omega,by omega,?_⟩
 have h2:=hp.2
 have : r=((BL s).drop k).drop x.tl.length:=by rw [h2,List.drop_left]
 rw [this,List.drop_drop]
 have h3 : ((BL s).drop k).length=x.tl.length + r.length:=by rw [h2,List.length_append]
 rw [List.length_drop,← size_BL] at h3
 congr 1
 rw [List.length_drop,← size_BL]
 omega
theorem endI_no {s : ByteArray} {k : Nat} (h : prs ((BL s).drop k)=none) : endI s k=-1:=by rw [endI,h]
set_option maxHeartbeats 16000000 in
theorem l22End_ok (s : ByteArray) (hs6 : s.size<=1000000) : ∀ (n k : Nat),s.size - k<=n->k<=s.size->Ctr Tryz.prog 45 [.str s,.int .i64 (k : Nat)] false (.d (.int .i64 (endI s k))) []:=by
 have base : ∀ k,k=s.size->Ctr Tryz.prog 45 [.str s,.int .i64 (k : Nat)] false (.d (.int .i64 (endI s k))) []:=fun k hk => by
  rw [endI_no (by rw [List.drop_eq_nil_of_le (by rw [← size_BL]; omega)]; exact prs_nil)]
  refine Ctr.of (n:=100) (rs:=[.tmp 4]) Tryz.func45 rfl rfl Tryz.ntmps45 rfl rfl (by kernel_rfl) Tryz.checked.mixed ?_
  simp (disch:=first | omega | decide +kernel) only [go_sem,Qa,Qb,Qc,Qd,Qe,↓reduceIte,reduceCtorEq,Qf,Qg,Qh]
  (repeat' (first | ((first | (refine gsel_split (fun q' => ?_) (fun q' => ?_)<;>(have h':=q')<;>(try simp only [za1,za2,Ba,Bb,za3,ne_eq,za4,za5,za6,Ia,Ib,Ic,Ie,Da,Bc,Bh,Be,za7,za8] at h')<;>try (exfalso; omega)) | (have q':=trivial; first | refine hE _ _ ret_ne ?_ | refine hE _ _ exit_ne ?_))<;>(try simp (disch:=first | omega | decide +kernel) only [q',go_sem,Qa,Qb,Qc,Qd,Qe,↓reduceIte,reduceCtorEq,Qf,Qg,Qh])<;>clear q') | refine hN _ ?_ ?_ Wk.kk | with_reducible refine And.intro ?_ ?_ | with_reducible omega | exact ok_ints | exact cells_ints | exact no_mem | with_reducible exact plain_ints | (refine le_maxLen ?_; omega) | (refine za9 ⟨?_,?_⟩) | (simp only [go_sem,Qc,Qb,zb1,zb2,forall_eq]; done)))
  all_goals (first | omega | exact absurd trivial ‹¬True›)
 intro n
 induction n with
 | zero => exact fun k hn hk => base k (by omega)
 | succ n ih =>
   intro k hn hk
   by_cases hlt : k < s.size
   . have hd:=drop_cons hlt
     have ih1:=ih (k + 1) (by omega) (by omega)
     obtain ⟨c,hc⟩ : ∃ c,c=(BL s).getD k 0:=⟨_,rfl⟩
     rw [← hc] at hd
     have t0 : Int.toNat (k : Nat)=k:=rfl
     have e0 : s.data.toList.getD k 0=c:=hc.symm
     have ek : ((k : Nat) : Int) + 1=((k + 1 : Nat) : Int):=by omega
     have d48 : c=48↔(c.toNat : Int)=48:=(toN_eq (d:=48)).symm
     have d49 : c=49↔(c.toNat : Int)=49:=(toN_eq (d:=49)).symm
     have dL : isLet c=true↔(97<=(c.toNat : Int)∧(c.toNat : Int)<=102):=by
      unfold isLet
      rw [decide_eq_true_eq,UInt8.le_iff_toNat_le,UInt8.le_iff_toNat_le]
      have e1 : (97 : UInt8).toNat=97:=rfl
      have e2 : (102 : UInt8).toNat=102:=rfl
      omega
     have dF : isLf c=true↔((c.toNat : Int)=48∨(c.toNat : Int)=49∨(97<=(c.toNat : Int)∧(c.toNat : Int)<=102)):=by
      rw [isLf,Bh,decide_eq_true_eq,dL,d48,d49,or_assoc]
     by_cases hlf : isLf c=true
     . have e : endI s k=((k + 1 : Nat) : Int):=by
        rw [endI,hd,prs_lf hlf]
        show (s.size : Int) - ((BL s).drop (k + 1)).length=_
        rw [List.length_drop,← size_BL]; omega
       rw [e]
       rw [dF] at hlf
       clear dF dL d48 d49 ih1 ih
       refine Ctr.of (n:=100) (rs:=[.tmp 4]) Tryz.func45 rfl rfl Tryz.ntmps45 rfl rfl (by kernel_rfl) Tryz.checked.mixed ?_
       simp (disch:=first | omega | decide +kernel) only [e0,t0,ek,Int.toNat_natCast,go_sem,Qa,Qb,Qc,Qd,Qe,↓reduceIte,reduceCtorEq,Qf,Qg,Qh]
       (repeat' (first | ((first | (refine gsel_split (fun q' => ?_) (fun q' => ?_)<;>(have h':=q')<;>(try simp only [za1,za2,Ba,Bb,za3,ne_eq,za4,za5,za6,Ia,Ib,Ic,Ie,Da,Bc,Bh,Be,za7,za8] at h')<;>try (exfalso; omega)) | (have q':=trivial; first | refine hE _ _ ret_ne ?_ | refine hE _ _ exit_ne ?_))<;>(try simp (disch:=first | omega | decide +kernel) only [q',e0,t0,ek,Int.toNat_natCast,go_sem,Qa,Qb,Qc,Qd,Qe,↓reduceIte,reduceCtorEq,Qf,Qg,Qh])<;>clear q') | refine hN _ ?_ ?_ Wk.kk | with_reducible refine And.intro ?_ ?_ | with_reducible omega | exact ok_ints | exact cells_ints | exact no_mem | with_reducible exact plain_ints | (refine le_maxLen ?_; omega) | (refine za9 ⟨?_,?_⟩) | (simp only [go_sem,Qc,Qb,zb1,zb2,forall_eq]; done)))
       all_goals (first | omega | exact absurd trivial ‹¬True›)
     . have hlf : isLf c=false:=by simpa using hlf
       have nF : ¬ ((c.toNat : Int)=48∨(c.toNat : Int)=49∨(97<=(c.toNat : Int)∧(c.toNat : Int)<=102)):=fun h => by rw [dF.2 h] at hlf; cases hlf
       clear dF dL d48 d49
       by_cases h126 : c=126
       . have hn : (c.toNat : Int)=126:=by rw [h126]; rfl
         have e : endI s k=endI s (k + 1):=by
          rw [endI,endI,hd,h126,prs_ng]
          cases prs ((BL s).drop (k + 1)) with
          | none => rfl
          | some p => rfl
         rw [e]
         clear e
         generalize endI s (k + 1)=m at *
         refine Ctr.of (n:=100) (rs:=[.tmp 4]) Tryz.func45 rfl rfl Tryz.ntmps45 rfl rfl (by kernel_rfl) Tryz.checked.mixed ?_
         simp (disch:=first | omega | decide +kernel) only [e0,t0,ek,Int.toNat_natCast,hn,go_sem,Qa,Qb,Qc,Qd,Qe,↓reduceIte,reduceCtorEq,Qf,Qg,Qh]
         (repeat' (first | ((first | (refine gsel_split (fun q' => ?_) (fun q' => ?_)<;>(have h':=q')<;>(try simp only [za1,za2,Ba,Bb,za3,ne_eq,za4,za5,za6,Ia,Ib,Ic,Ie,Da,Bc,Bh,Be,za7,za8] at h')<;>try (exfalso; omega)) | (have q':=trivial; first | refine callX_new (ih1) rfl (by decide) ?_ | refine callY_new (ih1) rfl ?_ | refine hE _ _ ret_ne ?_ | refine hE _ _ exit_ne ?_))<;>(try simp (disch:=first | omega | decide +kernel) only [q',e0,t0,ek,Int.toNat_natCast,hn,go_sem,Qa,Qb,Qc,Qd,Qe,↓reduceIte,reduceCtorEq,Qf,Qg,Qh])<;>clear q') | refine hN _ ?_ ?_ Wk.kk | with_reducible refine And.intro ?_ ?_ | with_reducible omega | exact ok_ints | exact cells_ints | exact no_mem | with_reducible exact plain_ints | (refine le_maxLen ?_; omega) | (refine za9 ⟨?_,?_⟩) | (simp only [go_sem,Qc,Qb,zb1,zb2,forall_eq]; done)))
         all_goals (first | omega | exact absurd trivial ‹¬True›)
       . have hn6 : ¬ (c.toNat : Int)=126:=fun h => h126 (toN_eq.1 h)
         by_cases h40 : c=40
         . have hn : (c.toNat : Int)=40:=by rw [h40]; rfl
           rw [h40] at hd
           cases hp : prs ((BL s).drop (k + 1)) with
           | none =>
             rw [endI_no (by rw [hd]; exact prs_jn1 hp)]
             rw [endI_no hp] at ih1
             refine Ctr.of (n:=100) (rs:=[.tmp 4]) Tryz.func45 rfl rfl Tryz.ntmps45 rfl rfl (by kernel_rfl) Tryz.checked.mixed ?_
             simp (disch:=first | omega | decide +kernel) only [e0,t0,ek,Int.toNat_natCast,hn,go_sem,Qa,Qb,Qc,Qd,Qe,↓reduceIte,reduceCtorEq,Qf,Qg,Qh]
             (repeat' (first | ((first | (refine gsel_split (fun q' => ?_) (fun q' => ?_)<;>(have h':=q')<;>(try simp only [za1,za2,Ba,Bb,za3,ne_eq,za4,za5,za6,Ia,Ib,Ic,Ie,Da,Bc,Bh,Be,za7,za8] at h')<;>try (exfalso; omega)) | (have q':=trivial; first | refine callX_new (ih1) rfl (by decide) ?_ | refine callY_new (ih1) rfl ?_ | refine hE _ _ ret_ne ?_ | refine hE _ _ exit_ne ?_))<;>(try simp (disch:=first | omega | decide +kernel) only [q',e0,t0,ek,Int.toNat_natCast,hn,go_sem,Qa,Qb,Qc,Qd,Qe,↓reduceIte,reduceCtorEq,Qf,Qg,Qh])<;>clear q') | refine hN _ ?_ ?_ Wk.kk | with_reducible refine And.intro ?_ ?_ | with_reducible omega | exact ok_ints | exact cells_ints | exact no_mem | with_reducible exact plain_ints | (refine le_maxLen ?_; omega) | (refine za9 ⟨?_,?_⟩) | (simp only [go_sem,Qc,Qb,zb1,zb2,forall_eq]; done)))
             all_goals (first | omega | exact absurd trivial ‹¬True›)
           | some p =>
             obtain ⟨a,r⟩:=p
             obtain ⟨m,hm,hm1,hm2,rfl⟩:=endI_of hp
             rw [hm] at ih1
             by_cases hml : m < s.size
             . have hd2:=drop_cons hml
               obtain ⟨o,ho⟩ : ∃ o,o=(BL s).getD m 0:=⟨_,rfl⟩
               rw [← ho] at hd2
               have f0 : s.data.toList.getD m 0=o:=ho.symm
               rw [hd2] at hp
               have em : ((m : Nat) : Int) + 1=((m + 1 : Nat) : Int):=by omega
               have hio : isOp o=true↔((o.toNat : Int)=38∨(o.toNat : Int)=124∨(o.toNat : Int)=62):=by
                rw [isOp,decide_eq_true_eq,← toN_eq,← toN_eq,← toN_eq]; rfl
               cases hop : isOp o with
               | false =>
                 rw [endI_no (by rw [hd]; exact prs_jn3 hp hop)]
                 have hno : ¬ ((o.toNat : Int)=38∨(o.toNat : Int)=124∨(o.toNat : Int)=62):=fun h => by rw [hio.2 h] at hop; cases hop
                 clear hio
                 refine Ctr.of (n:=100) (rs:=[.tmp 4]) Tryz.func45 rfl rfl Tryz.ntmps45 rfl rfl (by kernel_rfl) Tryz.checked.mixed ?_
                 simp (disch:=first | omega | decide +kernel) only [e0,t0,ek,Int.toNat_natCast,hn,f0,em,go_sem,Qa,Qb,Qc,Qd,Qe,↓reduceIte,reduceCtorEq,Qf,Qg,Qh]
                 (repeat' (first | ((first | (refine gsel_split (fun q' => ?_) (fun q' => ?_)<;>(have h':=q')<;>(try simp only [za1,za2,Ba,Bb,za3,ne_eq,za4,za5,za6,Ia,Ib,Ic,Ie,Da,Bc,Bh,Be,za7,za8] at h')<;>try (exfalso; omega)) | (have q':=trivial; first | refine callX_new (ih1) rfl (by decide) ?_ | refine callY_new (ih1) rfl ?_ | refine hE _ _ ret_ne ?_ | refine hE _ _ exit_ne ?_))<;>(try simp (disch:=first | omega | decide +kernel) only [q',e0,t0,ek,Int.toNat_natCast,hn,f0,em,go_sem,Qa,Qb,Qc,Qd,Qe,↓reduceIte,reduceCtorEq,Qf,Qg,Qh])<;>clear q') | refine hN _ ?_ ?_ Wk.kk | with_reducible refine And.intro ?_ ?_ | with_reducible omega | exact ok_ints | exact cells_ints | exact no_mem | with_reducible exact plain_ints | (refine le_maxLen ?_; omega) | (refine za9 ⟨?_,?_⟩) | (simp only [go_sem,Qc,Qb,zb1,zb2,forall_eq]; done)))
                 all_goals (first | omega | exact absurd trivial ‹¬True›)
               | true =>
                 have hyo:=hio.1 hop
                 clear hio
                 have ih2:=ih (m + 1) (by omega) (by omega)
                 cases hq : prs ((BL s).drop (m + 1)) with
                 | none =>
                   rw [endI_no (by rw [hd]; exact prs_jn4 hp hq)]
                   rw [endI_no hq] at ih2
                   refine Ctr.of (n:=100) (rs:=[.tmp 4]) Tryz.func45 rfl rfl Tryz.ntmps45 rfl rfl (by kernel_rfl) Tryz.checked.mixed ?_
                   simp (disch:=first | omega | decide +kernel) only [e0,t0,ek,Int.toNat_natCast,hn,f0,em,go_sem,Qa,Qb,Qc,Qd,Qe,↓reduceIte,reduceCtorEq,Qf,Qg,Qh]
                   (repeat' (first | ((first | (refine gsel_split (fun q' => ?_) (fun q' => ?_)<;>(have h':=q')<;>(try simp only [za1,za2,Ba,Bb,za3,ne_eq,za4,za5,za6,Ia,Ib,Ic,Ie,Da,Bc,Bh,Be,za7,za8] at h')<;>try (exfalso; omega)) | (have q':=trivial; first | refine callX_new (ih1) rfl (by decide) ?_ | refine callY_new (ih1) rfl ?_ | refine callX_new (ih2) rfl (by decide) ?_ | refine callY_new (ih2) rfl ?_ | refine hE _ _ ret_ne ?_ | refine hE _ _ exit_ne ?_))<;>(try simp (disch:=first | omega | decide +kernel) only [q',e0,t0,ek,Int.toNat_natCast,hn,f0,em,go_sem,Qa,Qb,Qc,Qd,Qe,↓reduceIte,reduceCtorEq,Qf,Qg,Qh])<;>clear q') | refine hN _ ?_ ?_ Wk.kk | with_reducible refine And.intro ?_ ?_ | with_reducible omega | exact ok_ints | exact cells_ints | exact no_mem | with_reducible exact plain_ints | (refine le_maxLen ?_; omega) | (refine za9 ⟨?_,?_⟩) | (simp only [go_sem,Qc,Qb,zb1,zb2,forall_eq]; done)))
                   all_goals (first | omega | exact absurd trivial ‹¬True›)
                 | some q =>
                   obtain ⟨b,r2⟩:=q
                   obtain ⟨e,he,he1,he2,rfl⟩:=endI_of hq
                   rw [he] at ih2
                   by_cases hel : e < s.size
                   . have hd3:=drop_cons hel
                     obtain ⟨d,hdd⟩ : ∃ d,d=(BL s).getD e 0:=⟨_,rfl⟩
                     rw [← hdd] at hd3
                     have g0 : s.data.toList.getD e 0=d:=hdd.symm
                     rw [hd3] at hq
                     have ee : ((e : Nat) : Int) + 1=((e + 1 : Nat) : Int):=by omega
                     by_cases h41 : d=41
                     . have hdn : (d.toNat : Int)=41:=by rw [h41]; rfl
                       rw [h41] at hq
                       have ef : endI s k=((e + 1 : Nat) : Int):=by
                        rw [endI,hd,prs_jn6 hp hop hq]
                        show (s.size : Int) - ((BL s).drop (e + 1)).length=_
                        rw [List.length_drop,← size_BL]; omega
                       rw [ef]
                       refine Ctr.of (n:=100) (rs:=[.tmp 4]) Tryz.func45 rfl rfl Tryz.ntmps45 rfl rfl (by kernel_rfl) Tryz.checked.mixed ?_
                       simp (disch:=first | omega | decide +kernel) only [e0,t0,ek,Int.toNat_natCast,hn,f0,em,g0,ee,hdn,go_sem,Qa,Qb,Qc,Qd,Qe,↓reduceIte,reduceCtorEq,Qf,Qg,Qh]
                       (repeat' (first | ((first | (refine gsel_split (fun q' => ?_) (fun q' => ?_)<;>(have h':=q')<;>(try simp only [za1,za2,Ba,Bb,za3,ne_eq,za4,za5,za6,Ia,Ib,Ic,Ie,Da,Bc,Bh,Be,za7,za8] at h')<;>try (exfalso; omega)) | (have q':=trivial; first | refine callX_new (ih1) rfl (by decide) ?_ | refine callY_new (ih1) rfl ?_ | refine callX_new (ih2) rfl (by decide) ?_ | refine callY_new (ih2) rfl ?_ | refine hE _ _ ret_ne ?_ | refine hE _ _ exit_ne ?_))<;>(try simp (disch:=first | omega | decide +kernel) only [q',e0,t0,ek,Int.toNat_natCast,hn,f0,em,g0,ee,hdn,go_sem,Qa,Qb,Qc,Qd,Qe,↓reduceIte,reduceCtorEq,Qf,Qg,Qh])<;>clear q') | refine hN _ ?_ ?_ Wk.kk | with_reducible refine And.intro ?_ ?_ | with_reducible omega | exact ok_ints | exact cells_ints | exact no_mem | with_reducible exact plain_ints | (refine le_maxLen ?_; omega) | (refine za9 ⟨?_,?_⟩) | (simp only [go_sem,Qc,Qb,zb1,zb2,forall_eq]; done)))
                       all_goals (first | omega | exact absurd trivial ‹¬True›)
                     . have hdn : ¬ (d.toNat : Int)=41:=fun h => h41 (toN_eq.1 h)
                       rw [endI_no (by rw [hd]; exact prs_jn5 hp hq (by simp [h41]))]
                       refine Ctr.of (n:=100) (rs:=[.tmp 4]) Tryz.func45 rfl rfl Tryz.ntmps45 rfl rfl (by kernel_rfl) Tryz.checked.mixed ?_
                       simp (disch:=first | omega | decide +kernel) only [e0,t0,ek,Int.toNat_natCast,hn,f0,em,g0,ee,hdn,go_sem,Qa,Qb,Qc,Qd,Qe,↓reduceIte,reduceCtorEq,Qf,Qg,Qh]
                       (repeat' (first | ((first | (refine gsel_split (fun q' => ?_) (fun q' => ?_)<;>(have h':=q')<;>(try simp only [za1,za2,Ba,Bb,za3,ne_eq,za4,za5,za6,Ia,Ib,Ic,Ie,Da,Bc,Bh,Be,za7,za8] at h')<;>try (exfalso; omega)) | (have q':=trivial; first | refine callX_new (ih1) rfl (by decide) ?_ | refine callY_new (ih1) rfl ?_ | refine callX_new (ih2) rfl (by decide) ?_ | refine callY_new (ih2) rfl ?_ | refine hE _ _ ret_ne ?_ | refine hE _ _ exit_ne ?_))<;>(try simp (disch:=first | omega | decide +kernel) only [q',e0,t0,ek,Int.toNat_natCast,hn,f0,em,g0,ee,hdn,go_sem,Qa,Qb,Qc,Qd,Qe,↓reduceIte,reduceCtorEq,Qf,Qg,Qh])<;>clear q') | refine hN _ ?_ ?_ Wk.kk | with_reducible refine And.intro ?_ ?_ | with_reducible omega | exact ok_ints | exact cells_ints | exact no_mem | with_reducible exact plain_ints | (refine le_maxLen ?_; omega) | (refine za9 ⟨?_,?_⟩) | (simp only [go_sem,Qc,Qb,zb1,zb2,forall_eq]; done)))
                       all_goals (first | omega | exact absurd trivial ‹¬True›)
                   . have hee : e=s.size:=by omega
                     have hr2 : (BL s).drop e=[]:=List.drop_eq_nil_of_le (by rw [← size_BL]; omega)
                     rw [hr2] at hq
                     rw [endI_no (by rw [hd]; exact prs_jn5 hp hq (by simp))]
                     refine Ctr.of (n:=100) (rs:=[.tmp 4]) Tryz.func45 rfl rfl Tryz.ntmps45 rfl rfl (by kernel_rfl) Tryz.checked.mixed ?_
                     simp (disch:=first | omega | decide +kernel) only [e0,t0,ek,Int.toNat_natCast,hn,f0,em,go_sem,Qa,Qb,Qc,Qd,Qe,↓reduceIte,reduceCtorEq,Qf,Qg,Qh]
                     (repeat' (first | ((first | (refine gsel_split (fun q' => ?_) (fun q' => ?_)<;>(have h':=q')<;>(try simp only [za1,za2,Ba,Bb,za3,ne_eq,za4,za5,za6,Ia,Ib,Ic,Ie,Da,Bc,Bh,Be,za7,za8] at h')<;>try (exfalso; omega)) | (have q':=trivial; first | refine callX_new (ih1) rfl (by decide) ?_ | refine callY_new (ih1) rfl ?_ | refine callX_new (ih2) rfl (by decide) ?_ | refine callY_new (ih2) rfl ?_ | refine hE _ _ ret_ne ?_ | refine hE _ _ exit_ne ?_))<;>(try simp (disch:=first | omega | decide +kernel) only [q',e0,t0,ek,Int.toNat_natCast,hn,f0,em,go_sem,Qa,Qb,Qc,Qd,Qe,↓reduceIte,reduceCtorEq,Qf,Qg,Qh])<;>clear q') | refine hN _ ?_ ?_ Wk.kk | with_reducible refine And.intro ?_ ?_ | with_reducible omega | exact ok_ints | exact cells_ints | exact no_mem | with_reducible exact plain_ints | (refine le_maxLen ?_; omega) | (refine za9 ⟨?_,?_⟩) | (simp only [go_sem,Qc,Qb,zb1,zb2,forall_eq]; done)))
                     all_goals (first | omega | exact absurd trivial ‹¬True›)
             . have hr : (BL s).drop m=[]:=List.drop_eq_nil_of_le (by rw [← size_BL]; omega)
               rw [hr] at hp
               rw [endI_no (by rw [hd]; exact prs_jn2 hp)]
               refine Ctr.of (n:=100) (rs:=[.tmp 4]) Tryz.func45 rfl rfl Tryz.ntmps45 rfl rfl (by kernel_rfl) Tryz.checked.mixed ?_
               simp (disch:=first | omega | decide +kernel) only [e0,t0,ek,Int.toNat_natCast,hn,go_sem,Qa,Qb,Qc,Qd,Qe,↓reduceIte,reduceCtorEq,Qf,Qg,Qh]
               (repeat' (first | ((first | (refine gsel_split (fun q' => ?_) (fun q' => ?_)<;>(have h':=q')<;>(try simp only [za1,za2,Ba,Bb,za3,ne_eq,za4,za5,za6,Ia,Ib,Ic,Ie,Da,Bc,Bh,Be,za7,za8] at h')<;>try (exfalso; omega)) | (have q':=trivial; first | refine callX_new (ih1) rfl (by decide) ?_ | refine callY_new (ih1) rfl ?_ | refine hE _ _ ret_ne ?_ | refine hE _ _ exit_ne ?_))<;>(try simp (disch:=first | omega | decide +kernel) only [q',e0,t0,ek,Int.toNat_natCast,hn,go_sem,Qa,Qb,Qc,Qd,Qe,↓reduceIte,reduceCtorEq,Qf,Qg,Qh])<;>clear q') | refine hN _ ?_ ?_ Wk.kk | with_reducible refine And.intro ?_ ?_ | with_reducible omega | exact ok_ints | exact cells_ints | exact no_mem | with_reducible exact plain_ints | (refine le_maxLen ?_; omega) | (refine za9 ⟨?_,?_⟩) | (simp only [go_sem,Qc,Qb,zb1,zb2,forall_eq]; done)))
               all_goals (first | omega | exact absurd trivial ‹¬True›)
         . have hn0 : ¬ (c.toNat : Int)=40:=fun h => h40 (toN_eq.1 h)
           rw [endI_no (by rw [hd]; exact prs_other hlf h126 h40)]
           clear ih1
           refine Ctr.of (n:=100) (rs:=[.tmp 4]) Tryz.func45 rfl rfl Tryz.ntmps45 rfl rfl (by kernel_rfl) Tryz.checked.mixed ?_
           simp (disch:=first | omega | decide +kernel) only [e0,t0,ek,Int.toNat_natCast,hn6,hn0,go_sem,Qa,Qb,Qc,Qd,Qe,↓reduceIte,reduceCtorEq,Qf,Qg,Qh]
           (repeat' (first | ((first | (refine gsel_split (fun q' => ?_) (fun q' => ?_)<;>(have h':=q')<;>(try simp only [za1,za2,Ba,Bb,za3,ne_eq,za4,za5,za6,Ia,Ib,Ic,Ie,Da,Bc,Bh,Be,za7,za8] at h')<;>try (exfalso; omega)) | (have q':=trivial; first | refine hE _ _ ret_ne ?_ | refine hE _ _ exit_ne ?_))<;>(try simp (disch:=first | omega | decide +kernel) only [q',e0,t0,ek,Int.toNat_natCast,hn6,hn0,go_sem,Qa,Qb,Qc,Qd,Qe,↓reduceIte,reduceCtorEq,Qf,Qg,Qh])<;>clear q') | refine hN _ ?_ ?_ Wk.kk | with_reducible refine And.intro ?_ ?_ | with_reducible omega | exact ok_ints | exact cells_ints | exact no_mem | with_reducible exact plain_ints | (refine le_maxLen ?_; omega) | (refine za9 ⟨?_,?_⟩) | (simp only [go_sem,Qc,Qb,zb1,zb2,forall_eq]; done)))
           all_goals (first | omega | exact absurd trivial ‹¬True›)
   . exact base k (by omega)
end Abs.Y

namespace Abs.Y
open Go Go.Proofs Abs
set_option maxRecDepth 100000

theorem l22Good_ok (s : ByteArray) (hs : s.size<=1000000) : Ctr Tryz.prog 24 [.str s] false (.d (.bool (okS s))) []:=by
 have c1:=l22End_ok s hs s.size 0 (by omega) (by omega)
 have e0 : ((0 : Nat) : Int)=0:=rfl
 rw [e0] at c1
 by_cases h80 : s.size<=80
 . by_cases h0 : s.size=0
   . have hk : okS s=false:=by
      rw [okS,show BL s=[] from List.eq_nil_of_length_eq_zero (by rw [← size_BL]; exact h0),prs_nil]; simp
     rw [hk]
     refine Ctr.of (n:=18) (rs:=[.tmp 2]) Tryz.func24 rfl rfl Tryz.ntmps24 rfl rfl (by kernel_rfl) Tryz.checked.mixed ?_
     simp (disch:=first | omega | decide +kernel) only [go_sem,Qa,Qb,Qc,Qd,Qe,↓reduceIte,reduceCtorEq,Qf,Qg,Qh]
     (repeat' (first | ((first | (refine gsel_split (fun q' => ?_) (fun q' => ?_)<;>(have h':=q')<;>(try simp only [za1,za2,Ba,Bb,za3,ne_eq,za4,za5,za6,Ia,Ib,Ic,Ie,Da,Bc,Bh,Be,za7,za8] at h')<;>try (exfalso; omega)) | (have q':=trivial; first | refine callX_new (c1) rfl (by decide) ?_ | refine callY_new (c1) rfl ?_ | refine hE _ _ ret_ne ?_ | refine hE _ _ exit_ne ?_))<;>(try simp (disch:=first | omega | decide +kernel) only [q',go_sem,Qa,Qb,Qc,Qd,Qe,↓reduceIte,reduceCtorEq,Qf,Qg,Qh])<;>clear q') | refine hN _ ?_ ?_ Wk.kk | with_reducible refine And.intro ?_ ?_ | with_reducible omega | exact ok_ints | exact cells_ints | exact no_mem | with_reducible exact plain_ints | (refine le_maxLen ?_; omega) | (refine za9 ⟨?_,?_⟩) | (simp only [go_sem,Qc,Qb,zb1,zb2,forall_eq]; done)))
     all_goals (first | omega | assumption | rfl | exact absurd trivial ‹¬True›)
   . cases hp : prs (BL s) with
     | none =>
       have hk : okS s=false:=by rw [okS,hp]; simp
       rw [endI_no (by rw [List.drop_zero]; exact hp)] at c1
       rw [hk]
       refine Ctr.of (n:=18) (rs:=[.tmp 2]) Tryz.func24 rfl rfl Tryz.ntmps24 rfl rfl (by kernel_rfl) Tryz.checked.mixed ?_
       simp (disch:=first | omega | decide +kernel) only [go_sem,Qa,Qb,Qc,Qd,Qe,↓reduceIte,reduceCtorEq,Qf,Qg,Qh]
       (repeat' (first | ((first | (refine gsel_split (fun q' => ?_) (fun q' => ?_)<;>(have h':=q')<;>(try simp only [za1,za2,Ba,Bb,za3,ne_eq,za4,za5,za6,Ia,Ib,Ic,Ie,Da,Bc,Bh,Be,za7,za8] at h')<;>try (exfalso; omega)) | (have q':=trivial; first | refine callX_new (c1) rfl (by decide) ?_ | refine callY_new (c1) rfl ?_ | refine hE _ _ ret_ne ?_ | refine hE _ _ exit_ne ?_))<;>(try simp (disch:=first | omega | decide +kernel) only [q',go_sem,Qa,Qb,Qc,Qd,Qe,↓reduceIte,reduceCtorEq,Qf,Qg,Qh])<;>clear q') | refine hN _ ?_ ?_ Wk.kk | with_reducible refine And.intro ?_ ?_ | with_reducible omega | exact ok_ints | exact cells_ints | exact no_mem | with_reducible exact plain_ints | (refine le_maxLen ?_; omega) | (refine za9 ⟨?_,?_⟩) | (simp only [go_sem,Qc,Qb,zb1,zb2,forall_eq]; done)))
       all_goals (first | omega | assumption | rfl | exact absurd trivial ‹¬True›)
     | some p =>
       obtain ⟨a,r⟩:=p
       have he : endI s 0=(s.size : Int) - r.length:=by rw [endI,List.drop_zero,hp]
       rw [he] at c1
       cases r with
       | nil =>
         have hk : okS s=true:=by rw [okS,hp]; simp [h80]
         rw [hk]
         rw [List.length_nil] at c1
         refine Ctr.of (n:=18) (rs:=[.tmp 2]) Tryz.func24 rfl rfl Tryz.ntmps24 rfl rfl (by kernel_rfl) Tryz.checked.mixed ?_
         simp (disch:=first | omega | decide +kernel) only [go_sem,Qa,Qb,Qc,Qd,Qe,↓reduceIte,reduceCtorEq,Qf,Qg,Qh]
         (repeat' (first | ((first | (refine gsel_split (fun q' => ?_) (fun q' => ?_)<;>(have h':=q')<;>(try simp only [za1,za2,Ba,Bb,za3,ne_eq,za4,za5,za6,Ia,Ib,Ic,Ie,Da,Bc,Bh,Be,za7,za8] at h')<;>try (exfalso; omega)) | (have q':=trivial; first | refine callX_new (c1) rfl (by decide) ?_ | refine callY_new (c1) rfl ?_ | refine hE _ _ ret_ne ?_ | refine hE _ _ exit_ne ?_))<;>(try simp (disch:=first | omega | decide +kernel) only [q',go_sem,Qa,Qb,Qc,Qd,Qe,↓reduceIte,reduceCtorEq,Qf,Qg,Qh])<;>clear q') | refine hN _ ?_ ?_ Wk.kk | with_reducible refine And.intro ?_ ?_ | with_reducible omega | exact ok_ints | exact cells_ints | exact no_mem | with_reducible exact plain_ints | (refine le_maxLen ?_; omega) | (refine za9 ⟨?_,?_⟩) | (simp only [go_sem,Qc,Qb,zb1,zb2,forall_eq]; done)))
         all_goals (first | omega | assumption | rfl | exact absurd trivial ‹¬True› | (simp; done))
       | cons o r1 =>
         have hk : okS s=false:=by rw [okS,hp]; simp
         rw [hk]
         rw [List.length_cons] at c1
         refine Ctr.of (n:=18) (rs:=[.tmp 2]) Tryz.func24 rfl rfl Tryz.ntmps24 rfl rfl (by kernel_rfl) Tryz.checked.mixed ?_
         simp (disch:=first | omega | decide +kernel) only [go_sem,Qa,Qb,Qc,Qd,Qe,↓reduceIte,reduceCtorEq,Qf,Qg,Qh]
         (repeat' (first | ((first | (refine gsel_split (fun q' => ?_) (fun q' => ?_)<;>(have h':=q')<;>(try simp only [za1,za2,Ba,Bb,za3,ne_eq,za4,za5,za6,Ia,Ib,Ic,Ie,Da,Bc,Bh,Be,za7,za8] at h')<;>try (exfalso; omega)) | (have q':=trivial; first | refine callX_new (c1) rfl (by decide) ?_ | refine callY_new (c1) rfl ?_ | refine hE _ _ ret_ne ?_ | refine hE _ _ exit_ne ?_))<;>(try simp (disch:=first | omega | decide +kernel) only [q',go_sem,Qa,Qb,Qc,Qd,Qe,↓reduceIte,reduceCtorEq,Qf,Qg,Qh])<;>clear q') | refine hN _ ?_ ?_ Wk.kk | with_reducible refine And.intro ?_ ?_ | with_reducible omega | exact ok_ints | exact cells_ints | exact no_mem | with_reducible exact plain_ints | (refine le_maxLen ?_; omega) | (refine za9 ⟨?_,?_⟩) | (simp only [go_sem,Qc,Qb,zb1,zb2,forall_eq]; done)))
         all_goals (first | omega | assumption | rfl | exact absurd trivial ‹¬True› | (simp; omega))
 . have hk : okS s=false:=okS_long (by omega)
   rw [hk]
   refine Ctr.of (n:=18) (rs:=[.tmp 2]) Tryz.func24 rfl rfl Tryz.ntmps24 rfl rfl (by kernel_rfl) Tryz.checked.mixed ?_
   simp (disch:=first | omega | decide +kernel) only [go_sem,Qa,Qb,Qc,Qd,Qe,↓reduceIte,reduceCtorEq,Qf,Qg,Qh]
   (repeat' (first | ((first | (refine gsel_split (fun q' => ?_) (fun q' => ?_)<;>(have h':=q')<;>(try simp only [za1,za2,Ba,Bb,za3,ne_eq,za4,za5,za6,Ia,Ib,Ic,Ie,Da,Bc,Bh,Be,za7,za8] at h')<;>try (exfalso; omega)) | (have q':=trivial; first | refine callX_new (c1) rfl (by decide) ?_ | refine callY_new (c1) rfl ?_ | refine hE _ _ ret_ne ?_ | refine hE _ _ exit_ne ?_))<;>(try simp (disch:=first | omega | decide +kernel) only [q',go_sem,Qa,Qb,Qc,Qd,Qe,↓reduceIte,reduceCtorEq,Qf,Qg,Qh])<;>clear q') | refine hN _ ?_ ?_ Wk.kk | with_reducible refine And.intro ?_ ?_ | with_reducible omega | exact ok_ints | exact cells_ints | exact no_mem | with_reducible exact plain_ints | (refine le_maxLen ?_; omega) | (refine za9 ⟨?_,?_⟩) | (simp only [go_sem,Qc,Qb,zb1,zb2,forall_eq]; done)))
   all_goals (first | omega | assumption | rfl | exact absurd trivial ‹¬True›)
def Fm.op : Fm->UInt8
 | .lf c => c
 | .ng _ => 126
 | .jn o _ _ => o
def Fm.p1 : Fm->ByteArray
 | .lf _ => ⟨#[]⟩
 | .ng a => a.T
 | .jn _ a _ => a.T
def Fm.p2 : Fm->ByteArray
 | .lf _ => ⟨#[]⟩
 | .ng _ => ⟨#[]⟩
 | .jn _ _ b => b.T
end Abs.Y

namespace Abs.Y
open Go Go.Proofs Abs
set_option maxRecDepth 100000

end Abs.Y

namespace Abs.Y
open Go Go.Proofs Abs
set_option maxRecDepth 100000

def subL (a b c : List UInt8) (d : UInt8) : List UInt8:=if d=97 then a else if d=98 then b else if d=99 then c else [d]
def caseL (j : Nat) (a b c : ByteArray) : List UInt8:=(sch j).tl.flatMap (subL (BL a) (BL b) (BL c))
def caseT (j : Nat) (a b c : ByteArray) : ByteArray:=⟨(caseL j a b c).toArray⟩
theorem flat_len {f : UInt8->List UInt8} {n : Nat} (h : ∀ d,(f d).length<=n) : ∀ l : List UInt8,(l.flatMap f).length<=n * l.length
 | [] => by simp
 | d :: l => by
   rw [List.flatMap_cons,List.length_append,List.length_cons]
   have:=h d
   have:=flat_len h l
   rw [Nat.mul_add]; omega
end Abs.Y

namespace Abs.Y
open Go Go.Proofs Abs
set_option maxRecDepth 100000

theorem prs_app (x : Fm) (h : x.wf=true) (r : List UInt8) : prs (x.tl++r)=some (x,r):=prs_of ⟨h,rfl⟩
theorem T_drop (t : ByteArray) (k : Nat) (l : List UInt8) (h : (BL t).drop k=l) : t.extract k t.size=⟨l.toArray⟩:=by
 apply ext_BL
 show (t.extract k t.size).data.toList=l
 rw [ByteArray.data_extract,Array.toList_extract,List.extract_eq_drop_take]
 show ((BL t).drop k).take (t.size - k)=l
 rw [List.take_of_length_le (by rw [List.length_drop,← size_BL]; omega),h]
theorem T_cut (t : ByteArray) (k n : Nat) (l r : List UInt8) (h : (BL t).drop k=l++r) (hn : n=k + l.length) : t.extract k n=⟨l.toArray⟩:=by
 apply ext_BL
 show (t.extract k n).data.toList=l
 rw [ByteArray.data_extract,Array.toList_extract,List.extract_eq_drop_take]
 show ((BL t).drop k).take (n - k)=l
 rw [h,hn,Nat.add_sub_cancel_left,List.take_left]
theorem l22Parts_ok (x : Fm) (hw : x.wf=true) (hz : x.T.size<=1000000) : Ctr Tryz.prog 46 [.str x.T] true (.tup [.d (.int .u8 x.op.toNat),.d (.str x.p1),.d (.str x.p2)]) []:=by
 have t0 : Int.toNat 0=0:=rfl
 have t1 : Int.toNat 1=1:=rfl
 cases x with
 | lf c =>
   obtain ⟨h1,h2⟩:=lf_ne hw
   have h1 : ¬ (c.toNat : Int)=126:=fun h => h1 (toN_eq.1 h)
   have h2 : ¬ (c.toNat : Int)=40:=fun h => h2 (toN_eq.1 h)
   have e0 : (Fm.lf c).T.data.toList.getD 0 0=c:=rfl
   have hz : (Fm.lf c).T.size=1:=rfl
   show Ctr _ _ _ _ (.tup [.d (.int .u8 c.toNat),.d (.str ⟨#[]⟩),.d (.str ⟨#[]⟩)]) _
   generalize (Fm.lf c).T=t at *
   refine Ctr.of (n:=31) (rs:=[.tmp 2,.tmp 3,.tmp 4]) Tryz.func46 rfl rfl Tryz.ntmps46 rfl rfl (by kernel_rfl) Tryz.checked.mixed ?_
   simp (disch:=first | omega | decide +kernel) only [e0,t0,h1,h2,go_sem,Qa,Qb,Qc,Qd,Qe,↓reduceIte,reduceCtorEq,Qf,Qg,Qh]
   (repeat' (first | ((first | (refine gsel_split (fun q' => ?_) (fun q' => ?_)<;>(have h':=q')<;>(try simp only [za1,za2,Ba,Bb,za3,ne_eq,za4,za5,za6,Ia,Ib,Ic,Ie,Da,Bc,Bh,Be,za7,za8] at h')<;>try (exfalso; omega)) | (have q':=trivial; first | refine hE _ _ ret_ne ?_ | refine hE _ _ exit_ne ?_))<;>(try simp (disch:=first | omega | decide +kernel) only [q',e0,t0,h1,h2,go_sem,Qa,Qb,Qc,Qd,Qe,↓reduceIte,reduceCtorEq,Qf,Qg,Qh])<;>clear q') | refine hN _ ?_ ?_ Wk.kk | with_reducible refine And.intro ?_ ?_ | with_reducible omega | exact ok_ints | exact cells_ints | exact no_mem | with_reducible exact plain_ints | (refine le_maxLen ?_; omega) | (refine za9 ⟨?_,?_⟩) | (simp only [go_sem,Qc,Qb,zb1,zb2,forall_eq]; done)))
   all_goals (first | omega | assumption | rfl | exact ret_f3 [] rfl rfl rfl | exact absurd trivial ‹¬True›)
 | ng a =>
   have e0 : (Fm.ng a).T.data.toList.getD 0 0=126:=rfl
   have hn : ((126 : UInt8).toNat : Int)=126:=rfl
   have ex : (Fm.ng a).T.extract 1 (Fm.ng a).T.size=a.T:=T_drop _ 1 a.tl rfl
   have hs : (Fm.ng a).T.size=a.T.size + 1:=size_ng a
   show Ctr _ _ _ _ (.tup [.d (.int .u8 ((126 : UInt8).toNat)),.d (.str a.T),.d (.str ⟨#[]⟩)]) _
   rw [hn]
   generalize a.T=u at *
   generalize (Fm.ng a).T=t at *
   refine Ctr.of (n:=31) (rs:=[.tmp 2,.tmp 3,.tmp 4]) Tryz.func46 rfl rfl Tryz.ntmps46 rfl rfl (by kernel_rfl) Tryz.checked.mixed ?_
   simp (disch:=first | omega | decide +kernel) only [e0,t0,t1,hn,ex,go_sem,Qa,Qb,Qc,Qd,Qe,↓reduceIte,reduceCtorEq,Qf,Qg,Qh]
   (repeat' (first | ((first | (refine gsel_split (fun q' => ?_) (fun q' => ?_)<;>(have h':=q')<;>(try simp only [za1,za2,Ba,Bb,za3,ne_eq,za4,za5,za6,Ia,Ib,Ic,Ie,Da,Bc,Bh,Be,za7,za8] at h')<;>try (exfalso; omega)) | (have q':=trivial; first | refine hE _ _ ret_ne ?_ | refine hE _ _ exit_ne ?_))<;>(try simp (disch:=first | omega | decide +kernel) only [q',e0,t0,t1,hn,ex,go_sem,Qa,Qb,Qc,Qd,Qe,↓reduceIte,reduceCtorEq,Qf,Qg,Qh])<;>clear q') | refine hN _ ?_ ?_ Wk.kk | with_reducible refine And.intro ?_ ?_ | with_reducible omega | exact ok_ints | exact cells_ints | exact no_mem | with_reducible exact plain_ints | (refine le_maxLen ?_; omega) | (refine za9 ⟨?_,?_⟩) | (simp only [go_sem,Qc,Qb,zb1,zb2,forall_eq]; done)))
   all_goals (first | omega | assumption | rfl | exact ret_f3 [] rfl rfl rfl | exact absurd trivial ‹¬True›)
 | jn o a b =>
   have e0 : (Fm.jn o a b).T.data.toList.getD 0 0=40:=rfl
   have hn : ((40 : UInt8).toNat : Int)=40:=rfl
   have hw' : (isOp o && a.wf && b.wf)=true:=hw
   simp only [Bc] at hw'
   have hs : (Fm.jn o a b).T.size=a.T.size + b.T.size + 3:=size_jn o a b
   have c1:=l22End_ok (Fm.jn o a b).T hz _ 1 (Nat.le_refl _) (by omega)
   have hd : (BL (Fm.jn o a b).T).drop 1=a.tl++o :: (b.tl++[41]):=rfl
   have he : endI (Fm.jn o a b).T 1=((a.T.size + 1 : Nat) : Int):=by
    rw [endI,hd,prs_app a hw'.1.2]
    show ((Fm.jn o a b).T.size : Int) - (o :: (b.tl++[41])).length=_
    rw [List.length_cons,List.length_append,hs]
    have : b.T.size=b.tl.length:=rfl
    simp only [List.length_cons,List.length_nil]
    omega
   have hd2 : (BL (Fm.jn o a b).T).drop (a.T.size + 1)=o :: (b.tl++[41]):=by
    rw [Nat.add_comm,← List.drop_drop,hd]
    exact List.drop_left' rfl
   have hd3 : (BL (Fm.jn o a b).T).drop (a.T.size + 1 + 1)=b.tl++[41]:=by
    rw [← List.drop_drop,hd2]; rfl
   have eo : (Fm.jn o a b).T.data.toList.getD (a.T.size + 1) 0=o:=by
    have:=drop_cons (s:=(Fm.jn o a b).T) (k:=a.T.size + 1) (by omega)
    rw [hd2] at this
    exact (List.cons.inj this).1.symm
   have ex1 : (Fm.jn o a b).T.extract 1 (a.T.size + 1)=a.T:=T_cut _ 1 _ a.tl _ hd (by rw [size_BL,BL_T]; omega)
   have ex2 : (Fm.jn o a b).T.extract (a.T.size + 1 + 1) ((Fm.jn o a b).T.size - 1)=b.T:=T_cut _ _ _ b.tl _ hd3 (by rw [hs,size_BL,size_BL,BL_T,BL_T]; omega)
   rw [he] at c1
   show Ctr _ _ _ _ (.tup [.d (.int .u8 o.toNat),.d (.str a.T),.d (.str b.T)]) _
   clear hd hd2 hd3 he
   have e11 : ((1 : Nat) : Int)=1:=rfl
   rw [e11] at c1
   generalize hA : a.T=ta at *
   generalize hB : b.T=tb at *
   generalize (Fm.jn o a b).T=t at *
   generalize hm : ta.size + 1=m at *
   have tm : (((m : Nat) : Int) + 1).toNat=m + 1:=by omega
   have ts : (((t.size : Nat) : Int) - 1).toNat=t.size - 1:=by omega
   refine Ctr.of (n:=31) (rs:=[.tmp 2,.tmp 3,.tmp 4]) Tryz.func46 rfl rfl Tryz.ntmps46 rfl rfl (by kernel_rfl) Tryz.checked.mixed ?_
   simp (disch:=first | omega | decide +kernel) only [e0,eo,t0,t1,hn,tm,ts,ex1,ex2,Int.toNat_natCast,go_sem,Qa,Qb,Qc,Qd,Qe,↓reduceIte,reduceCtorEq,Qf,Qg,Qh]
   (repeat' (first | ((first | (refine gsel_split (fun q' => ?_) (fun q' => ?_)<;>(have h':=q')<;>(try simp only [za1,za2,Ba,Bb,za3,ne_eq,za4,za5,za6,Ia,Ib,Ic,Ie,Da,Bc,Bh,Be,za7,za8] at h')<;>try (exfalso; omega)) | (have q':=trivial; first | refine callX_new (c1) rfl (by decide) ?_ | refine callY_new (c1) rfl ?_ | refine hE _ _ ret_ne ?_ | refine hE _ _ exit_ne ?_))<;>(try simp (disch:=first | omega | decide +kernel) only [q',e0,eo,t0,t1,hn,tm,ts,ex1,ex2,Int.toNat_natCast,go_sem,Qa,Qb,Qc,Qd,Qe,↓reduceIte,reduceCtorEq,Qf,Qg,Qh])<;>clear q') | refine hN _ ?_ ?_ Wk.kk | with_reducible refine And.intro ?_ ?_ | with_reducible omega | exact ok_ints | exact cells_ints | exact no_mem | with_reducible exact plain_ints | (refine le_maxLen ?_; omega) | (refine za9 ⟨?_,?_⟩) | (simp only [go_sem,Qc,Qb,zb1,zb2,forall_eq]; done)))
   all_goals (first | omega | assumption | rfl | exact ret_f3 [] rfl rfl rfl | exact absurd trivial ‹¬True›)
end Abs.Y

namespace Abs
open Go Go.RowKit

def bitI (b k : Nat) : Int:=if b.testBit k then 1 else 0
end Abs
