/- What functions of this program compute, over plain data. No condition. -/
import Derived.Test.YtiafnejjhnjbfaaDoorFO4
import Derived.Test.YtiafnejjhnjbfaaDoorFQ1
import Derived.Test.YtiafnejjhnjbfaaDoorBX
set_option linter.all false
namespace Abs.Y
open Go Go.Proofs Abs
open Nat renaming reduceEqDiff -> Qa, reduceLT -> Qb, reduceAdd -> Qc, reduceMul -> Qd, reduceSub -> Qe, reduceLeDiff -> Qf, reduceSubDiff -> Qg, reduceBEq -> Qh
open Bool renaming not_eq_true' -> Ba, not_eq_false' -> Bb, and_eq_true -> Bc, or_eq_true -> Bh, or_eq_false_iff -> Be
open Int renaming ofNat_lt -> Ia, ofNat_le -> Ib, not_lt -> Ic, not_le -> Ie
open Decidable renaming not_not -> Da
set_option maxRecDepth 100000

noncomputable def endI (s : ByteArray) (k : Nat) : Int:=match prs ((BL s).drop k) with
 | some (_,r) => (s.size : Int) - r.length
 | none => -1
theorem drop_cons {s : ByteArray} {k : Nat} (h : k < s.size) : (BL s).drop k=(BL s).getD k 0 :: (BL s).drop (k + 1):=by
 rw [size_BL] at h
 rw [List.drop_eq_getElem_cons h,List.getD_eq_getElem?_getD,List.getElem?_eq_getElem h]; rfl
theorem endI_of {s : ByteArray} {k : Nat} {x r} (h : prs ((BL s).drop k)=some (x,r)) : ∃ e : Nat,endI s k=(e : Nat)∧e<=s.size∧k < e∧r=(BL s).drop e:=by
 have hp:=prs_some h
 have hl:=prs_len h
 rw [List.length_drop,← size_BL] at hl
 refine ⟨s.size - r.length,by rw [endI,h]; show (s.size : Int) - r.length=_; omega,by omega,by omega,?_⟩
 have h2:=hp.2
 have : r=((BL s).drop k).drop x.tl.length:=by rw [h2,List.drop_left]
 rw [this,List.drop_drop]
 have h3 : ((BL s).drop k).length=x.tl.length + r.length:=by rw [h2,List.length_append]
 rw [List.length_drop,← size_BL] at h3
 congr 1
 rw [List.length_drop,← size_BL]
 omega
theorem endI_no {s : ByteArray} {k : Nat} (h : prs ((BL s).drop k)=none) : endI s k=-1:=by rw [endI,h]
set_option maxHeartbeats 16000000 in
theorem l22End_ok (s : ByteArray) (hs6 : s.size<=1000000) : ∀ (n k : Nat),s.size - k<=n->k<=s.size->Ctr Tryd.prog 59 [.str s,.int .i64 (k : Nat)] false (.d (.int .i64 (endI s k))) []:=by
 have base : ∀ k,k=s.size->Ctr Tryd.prog 59 [.str s,.int .i64 (k : Nat)] false (.d (.int .i64 (endI s k))) []:=fun k hk => by
  rw [endI_no (by rw [List.drop_eq_nil_of_le (by rw [← size_BL]; omega)]; exact prs_nil)]
  refine Ctr.of (n:=100) (rs:=[.tmp 4]) Tryd.func59 rfl rfl Tryd.ntmps59 rfl rfl (by kernel_rfl) Tryd.checked.mixed ?_
  simp (disch:=first | omega | decide +kernel) only [go_sem,Qa,Qb,Qc,Qd,Qe,↓reduceIte,reduceCtorEq,Qf,Qg,Qh]
  (repeat' (first | ((first | (refine gsel_split (fun q' => ?_) (fun q' => ?_)<;>(have h':=q')<;>(try simp only [za1,za2,Ba,Bb,za3,ne_eq,za4,za5,za6,Ia,Ib,Ic,Ie,Da,Bc,Bh,Be,za7,za8] at h')<;>try (exfalso; omega)) | (have q':=trivial; first | refine hE _ _ ret_ne ?_ | refine hE _ _ exit_ne ?_))<;>(try simp (disch:=first | omega | decide +kernel) only [q',go_sem,Qa,Qb,Qc,Qd,Qe,↓reduceIte,reduceCtorEq,Qf,Qg,Qh])<;>clear q') | refine hN _ ?_ ?_ Wk.kk | with_reducible refine And.intro ?_ ?_ | with_reducible omega | exact ok_ints | exact cells_ints | exact no_mem | with_reducible exact plain_ints | (refine le_maxLen ?_; omega) | (refine za9 ⟨?_,?_⟩) | (simp only [go_sem,Qc,Qb,zb1,zb2,forall_eq]; done)))
  all_goals (first | omega | exact absurd trivial ‹¬True›)
 intro n
 induction n with
 | zero => exact fun k hn hk => base k (by omega)
 | succ n ih =>
   intro k hn hk
   by_cases hlt : k < s.size
   . have hd:=drop_cons hlt
     have ih1:=ih (k + 1) (by omega) (by omega)
     obtain ⟨c,hc⟩ : ∃ c,c=(BL s).getD k 0:=⟨_,rfl⟩
     rw [← hc] at hd
     have t0 : Int.toNat (k : Nat)=k:=rfl
     have e0 : s.data.toList.getD k 0=c:=hc.symm
     have ek : ((k : Nat) : Int) + 1=((k + 1 : Nat) : Int):=by omega
     have d48 : c=48↔(c.toNat : Int)=48:=(toN_eq (d:=48)).symm
     have d49 : c=49↔(c.toNat : Int)=49:=(toN_eq (d:=49)).symm
     have dL : isLet c=true↔(97<=(c.toNat : Int)∧(c.toNat : Int)<=102):=by
      unfold isLet
      rw [decide_eq_true_eq,UInt8.le_iff_toNat_le,UInt8.le_iff_toNat_le]
      have e1 : (97 : UInt8).toNat=97:=rfl
      have e2 : (102 : UInt8).toNat=102:=rfl
      omega
     have dF : isLf c=true↔((c.toNat : Int)=48∨(c.toNat : Int)=49∨(97<=(c.toNat : Int)∧(c.toNat : Int)<=102)):=by
      rw [isLf,Bh,decide_eq_true_eq,dL,d48,d49,or_assoc]
     by_cases hlf : isLf c=true
     . have e : endI s k=((k + 1 : Nat) : Int):=by
        rw [endI,hd,prs_lf hlf]
        show (s.size : Int) - ((BL s).drop (k + 1)).length=_
        rw [List.length_drop,← size_BL]; omega
       rw [e]
       rw [dF] at hlf
       clear dF dL d48 d49 ih1 ih
       refine Ctr.of (n:=100) (rs:=[.tmp 4]) Tryd.func59 rfl rfl Tryd.ntmps59 rfl rfl (by kernel_rfl) Tryd.checked.mixed ?_
       simp (disch:=first | omega | decide +kernel) only [e0,t0,ek,Int.toNat_natCast,go_sem,Qa,Qb,Qc,Qd,Qe,↓reduceIte,reduceCtorEq,Qf,Qg,Qh]
       (repeat' (first | ((first | (refine gsel_split (fun q' => ?_) (fun q' => ?_)<;>(have h':=q')<;>(try simp only [za1,za2,Ba,Bb,za3,ne_eq,za4,za5,za6,Ia,Ib,Ic,Ie,Da,Bc,Bh,Be,za7,za8] at h')<;>try (exfalso; omega)) | (have q':=trivial; first | refine hE _ _ ret_ne ?_ | refine hE _ _ exit_ne ?_))<;>(try simp (disch:=first | omega | decide +kernel) only [q',e0,t0,ek,Int.toNat_natCast,go_sem,Qa,Qb,Qc,Qd,Qe,↓reduceIte,reduceCtorEq,Qf,Qg,Qh])<;>clear q') | refine hN _ ?_ ?_ Wk.kk | with_reducible refine And.intro ?_ ?_ | with_reducible omega | exact ok_ints | exact cells_ints | exact no_mem | with_reducible exact plain_ints | (refine le_maxLen ?_; omega) | (refine za9 ⟨?_,?_⟩) | (simp only [go_sem,Qc,Qb,zb1,zb2,forall_eq]; done)))
       all_goals (first | omega | exact absurd trivial ‹¬True›)
     . have hlf : isLf c=false:=by simpa using hlf
       have nF : ¬ ((c.toNat : Int)=48∨(c.toNat : Int)=49∨(97<=(c.toNat : Int)∧(c.toNat : Int)<=102)):=fun h => by rw [dF.2 h] at hlf; cases hlf
       clear dF dL d48 d49
       by_cases h126 : c=126
       . have hn : (c.toNat : Int)=126:=by rw [h126]; rfl
         have e : endI s k=endI s (k + 1):=by
          rw [endI,endI,hd,h126,prs_ng]
          cases prs ((BL s).drop (k + 1)) with
          | none => rfl
          | some p => rfl
         rw [e]
         clear e
         generalize endI s (k + 1)=m at *
         refine Ctr.of (n:=100) (rs:=[.tmp 4]) Tryd.func59 rfl rfl Tryd.ntmps59 rfl rfl (by kernel_rfl) Tryd.checked.mixed ?_
         simp (disch:=first | omega | decide +kernel) only [e0,t0,ek,Int.toNat_natCast,hn,go_sem,Qa,Qb,Qc,Qd,Qe,↓reduceIte,reduceCtorEq,Qf,Qg,Qh]
         (repeat' (first | ((first | (refine gsel_split (fun q' => ?_) (fun q' => ?_)<;>(have h':=q')<;>(try simp only [za1,za2,Ba,Bb,za3,ne_eq,za4,za5,za6,Ia,Ib,Ic,Ie,Da,Bc,Bh,Be,za7,za8] at h')<;>try (exfalso; omega)) | (have q':=trivial; first | refine callX_new (ih1) rfl (by decide) ?_ | refine callY_new (ih1) rfl ?_ | refine hE _ _ ret_ne ?_ | refine hE _ _ exit_ne ?_))<;>(try simp (disch:=first | omega | decide +kernel) only [q',e0,t0,ek,Int.toNat_natCast,hn,go_sem,Qa,Qb,Qc,Qd,Qe,↓reduceIte,reduceCtorEq,Qf,Qg,Qh])<;>clear q') | refine hN _ ?_ ?_ Wk.kk | with_reducible refine And.intro ?_ ?_ | with_reducible omega | exact ok_ints | exact cells_ints | exact no_mem | with_reducible exact plain_ints | (refine le_maxLen ?_; omega) | (refine za9 ⟨?_,?_⟩) | (simp only [go_sem,Qc,Qb,zb1,zb2,forall_eq]; done)))
         all_goals (first | omega | exact absurd trivial ‹¬True›)
       . have hn6 : ¬ (c.toNat : Int)=126:=fun h => h126 (toN_eq.1 h)
         by_cases h40 : c=40
         . have hn : (c.toNat : Int)=40:=by rw [h40]; rfl
           rw [h40] at hd
           cases hp : prs ((BL s).drop (k + 1)) with
           | none =>
             rw [endI_no (by rw [hd]; exact prs_jn1 hp)]
             rw [endI_no hp] at ih1
             refine Ctr.of (n:=100) (rs:=[.tmp 4]) Tryd.func59 rfl rfl Tryd.ntmps59 rfl rfl (by kernel_rfl) Tryd.checked.mixed ?_
             simp (disch:=first | omega | decide +kernel) only [e0,t0,ek,Int.toNat_natCast,hn,go_sem,Qa,Qb,Qc,Qd,Qe,↓reduceIte,reduceCtorEq,Qf,Qg,Qh]
             (repeat' (first | ((first | (refine gsel_split (fun q' => ?_) (fun q' => ?_)<;>(have h':=q')<;>(try simp only [za1,za2,Ba,Bb,za3,ne_eq,za4,za5,za6,Ia,Ib,Ic,Ie,Da,Bc,Bh,Be,za7,za8] at h')<;>try (exfalso; omega)) | (have q':=trivial; first | refine callX_new (ih1) rfl (by decide) ?_ | refine callY_new (ih1) rfl ?_ | refine hE _ _ ret_ne ?_ | refine hE _ _ exit_ne ?_))<;>(try simp (disch:=first | omega | decide +kernel) only [q',e0,t0,ek,Int.toNat_natCast,hn,go_sem,Qa,Qb,Qc,Qd,Qe,↓reduceIte,reduceCtorEq,Qf,Qg,Qh])<;>clear q') | refine hN _ ?_ ?_ Wk.kk | with_reducible refine And.intro ?_ ?_ | with_reducible omega | exact ok_ints | exact cells_ints | exact no_mem | with_reducible exact plain_ints | (refine le_maxLen ?_; omega) | (refine za9 ⟨?_,?_⟩) | (simp only [go_sem,Qc,Qb,zb1,zb2,forall_eq]; done)))
             all_goals (first | omega | exact absurd trivial ‹¬True›)
           | some p =>
             obtain ⟨a,r⟩:=p
             obtain ⟨m,hm,hm1,hm2,rfl⟩:=endI_of hp
             rw [hm] at ih1
             by_cases hml : m < s.size
             . have hd2:=drop_cons hml
               obtain ⟨o,ho⟩ : ∃ o,o=(BL s).getD m 0:=⟨_,rfl⟩
               rw [← ho] at hd2
               have f0 : s.data.toList.getD m 0=o:=ho.symm
               rw [hd2] at hp
               have em : ((m : Nat) : Int) + 1=((m + 1 : Nat) : Int):=by omega
               have hio : isOp o=true↔((o.toNat : Int)=38∨(o.toNat : Int)=124∨(o.toNat : Int)=62):=by
                rw [isOp,decide_eq_true_eq,← toN_eq,← toN_eq,← toN_eq]; rfl
               cases hop : isOp o with
               | false =>
                 rw [endI_no (by rw [hd]; exact prs_jn3 hp hop)]
                 have hno : ¬ ((o.toNat : Int)=38∨(o.toNat : Int)=124∨(o.toNat : Int)=62):=fun h => by rw [hio.2 h] at hop; cases hop
                 clear hio
                 refine Ctr.of (n:=100) (rs:=[.tmp 4]) Tryd.func59 rfl rfl Tryd.ntmps59 rfl rfl (by kernel_rfl) Tryd.checked.mixed ?_
                 simp (disch:=first | omega | decide +kernel) only [e0,t0,ek,Int.toNat_natCast,hn,f0,em,go_sem,Qa,Qb,Qc,Qd,Qe,↓reduceIte,reduceCtorEq,Qf,Qg,Qh]
                 (repeat' (first | ((first | (refine gsel_split (fun q' => ?_) (fun q' => ?_)<;>(have h':=q')<;>(try simp only [za1,za2,Ba,Bb,za3,ne_eq,za4,za5,za6,Ia,Ib,Ic,Ie,Da,Bc,Bh,Be,za7,za8] at h')<;>try (exfalso; omega)) | (have q':=trivial; first | refine callX_new (ih1) rfl (by decide) ?_ | refine callY_new (ih1) rfl ?_ | refine hE _ _ ret_ne ?_ | refine hE _ _ exit_ne ?_))<;>(try simp (disch:=first | omega | decide +kernel) only [q',e0,t0,ek,Int.toNat_natCast,hn,f0,em,go_sem,Qa,Qb,Qc,Qd,Qe,↓reduceIte,reduceCtorEq,Qf,Qg,Qh])<;>clear q') | refine hN _ ?_ ?_ Wk.kk | with_reducible refine And.intro ?_ ?_ | with_reducible omega | exact ok_ints | exact cells_ints | exact no_mem | with_reducible exact plain_ints | (refine le_maxLen ?_; omega) | (refine za9 ⟨?_,?_⟩) | (simp only [go_sem,Qc,Qb,zb1,zb2,forall_eq]; done)))
                 all_goals (first | omega | exact absurd trivial ‹¬True›)
               | true =>
                 have hyo:=hio.1 hop
                 clear hio
                 have ih2:=ih (m + 1) (by omega) (by omega)
                 cases hq : prs ((BL s).drop (m + 1)) with
                 | none =>
                   rw [endI_no (by rw [hd]; exact prs_jn4 hp hq)]
                   rw [endI_no hq] at ih2
                   refine Ctr.of (n:=100) (rs:=[.tmp 4]) Tryd.func59 rfl rfl Tryd.ntmps59 rfl rfl (by kernel_rfl) Tryd.checked.mixed ?_
                   simp (disch:=first | omega | decide +kernel) only [e0,t0,ek,Int.toNat_natCast,hn,f0,em,go_sem,Qa,Qb,Qc,Qd,Qe,↓reduceIte,reduceCtorEq,Qf,Qg,Qh]
                   (repeat' (first | ((first | (refine gsel_split (fun q' => ?_) (fun q' => ?_)<;>(have h':=q')<;>(try simp only [za1,za2,Ba,Bb,za3,ne_eq,za4,za5,za6,Ia,Ib,Ic,Ie,Da,Bc,Bh,Be,za7,za8] at h')<;>try (exfalso; omega)) | (have q':=trivial; first | refine callX_new (ih1) rfl (by decide) ?_ | refine callY_new (ih1) rfl ?_ | refine callX_new (ih2) rfl (by decide) ?_ | refine callY_new (ih2) rfl ?_ | refine hE _ _ ret_ne ?_ | refine hE _ _ exit_ne ?_))<;>(try simp (disch:=first | omega | decide +kernel) only [q',e0,t0,ek,Int.toNat_natCast,hn,f0,em,go_sem,Qa,Qb,Qc,Qd,Qe,↓reduceIte,reduceCtorEq,Qf,Qg,Qh])<;>clear q') | refine hN _ ?_ ?_ Wk.kk | with_reducible refine And.intro ?_ ?_ | with_reducible omega | exact ok_ints | exact cells_ints | exact no_mem | with_reducible exact plain_ints | (refine le_maxLen ?_; omega) | (refine za9 ⟨?_,?_⟩) | (simp only [go_sem,Qc,Qb,zb1,zb2,forall_eq]; done)))
                   all_goals (first | omega | exact absurd trivial ‹¬True›)
                 | some q =>
                   obtain ⟨b,r2⟩:=q
                   obtain ⟨e,he,he1,he2,rfl⟩:=endI_of hq
                   rw [he] at ih2
                   by_cases hel : e < s.size
                   . have hd3:=drop_cons hel
                     obtain ⟨d,hdd⟩ : ∃ d,d=(BL s).getD e 0:=⟨_,rfl⟩
                     rw [← hdd] at hd3
                     have g0 : s.data.toList.getD e 0=d:=hdd.symm
                     rw [hd3] at hq
                     have ee : ((e : Nat) : Int) + 1=((e + 1 : Nat) : Int):=by omega
                     by_cases h41 : d=41
                     . have hdn : (d.toNat : Int)=41:=by rw [h41]; rfl
                       rw [h41] at hq
                       have ef : endI s k=((e + 1 : Nat) : Int):=by
                        rw [endI,hd,prs_jn6 hp hop hq]
                        show (s.size : Int) - ((BL s).drop (e + 1)).length=_
                        rw [List.length_drop,← size_BL]; omega
                       rw [ef]
                       refine Ctr.of (n:=100) (rs:=[.tmp 4]) Tryd.func59 rfl rfl Tryd.ntmps59 rfl rfl (by kernel_rfl) Tryd.checked.mixed ?_
                       simp (disch:=first | omega | decide +kernel) only [e0,t0,ek,Int.toNat_natCast,hn,f0,em,g0,ee,hdn,go_sem,Qa,Qb,Qc,Qd,Qe,↓reduceIte,reduceCtorEq,Qf,Qg,Qh]
                       (repeat' (first | ((first | (refine gsel_split (fun q' => ?_) (fun q' => ?_)<;>(have h':=q')<;>(try simp only [za1,za2,Ba,Bb,za3,ne_eq,za4,za5,za6,Ia,Ib,Ic,Ie,Da,Bc,Bh,Be,za7,za8] at h')<;>try (exfalso; omega)) | (have q':=trivial; first | refine callX_new (ih1) rfl (by decide) ?_ | refine callY_new (ih1) rfl ?_ | refine callX_new (ih2) rfl (by decide) ?_ | refine callY_new (ih2) rfl ?_ | refine hE _ _ ret_ne ?_ | refine hE _ _ exit_ne ?_))<;>(try simp (disch:=first | omega | decide +kernel) only [q',e0,t0,ek,Int.toNat_natCast,hn,f0,em,g0,ee,hdn,go_sem,Qa,Qb,Qc,Qd,Qe,↓reduceIte,reduceCtorEq,Qf,Qg,Qh])<;>clear q') | refine hN _ ?_ ?_ Wk.kk | with_reducible refine And.intro ?_ ?_ | with_reducible omega | exact ok_ints | exact cells_ints | exact no_mem | with_reducible exact plain_ints | (refine le_maxLen ?_; omega) | (refine za9 ⟨?_,?_⟩) | (simp only [go_sem,Qc,Qb,zb1,zb2,forall_eq]; done)))
                       all_goals (first | omega | exact absurd trivial ‹¬True›)
                     . have hdn : ¬ (d.toNat : Int)=41:=fun h => h41 (toN_eq.1 h)
                       rw [endI_no (by rw [hd]; exact prs_jn5 hp hq (by simp [h41]))]
                       refine Ctr.of (n:=100) (rs:=[.tmp 4]) Tryd.func59 rfl rfl Tryd.ntmps59 rfl rfl (by kernel_rfl) Tryd.checked.mixed ?_
                       simp (disch:=first | omega | decide +kernel) only [e0,t0,ek,Int.toNat_natCast,hn,f0,em,g0,ee,hdn,go_sem,Qa,Qb,Qc,Qd,Qe,↓reduceIte,reduceCtorEq,Qf,Qg,Qh]
                       (repeat' (first | ((first | (refine gsel_split (fun q' => ?_) (fun q' => ?_)<;>(have h':=q')<;>(try simp only [za1,za2,Ba,Bb,za3,ne_eq,za4,za5,za6,Ia,Ib,Ic,Ie,Da,Bc,Bh,Be,za7,za8] at h')<;>try (exfalso; omega)) | (have q':=trivial; first | refine callX_new (ih1) rfl (by decide) ?_ | refine callY_new (ih1) rfl ?_ | refine callX_new (ih2) rfl (by decide) ?_ | refine callY_new (ih2) rfl ?_ | refine hE _ _ ret_ne ?_ | refine hE _ _ exit_ne ?_))<;>(try simp (disch:=first | omega | decide +kernel) only [q',e0,t0,ek,Int.toNat_natCast,hn,f0,em,g0,ee,hdn,go_sem,Qa,Qb,Qc,Qd,Qe,↓reduceIte,reduceCtorEq,Qf,Qg,Qh])<;>clear q') | refine hN _ ?_ ?_ Wk.kk | with_reducible refine And.intro ?_ ?_ | with_reducible omega | exact ok_ints | exact cells_ints | exact no_mem | with_reducible exact plain_ints | (refine le_maxLen ?_; omega) | (refine za9 ⟨?_,?_⟩) | (simp only [go_sem,Qc,Qb,zb1,zb2,forall_eq]; done)))
                       all_goals (first | omega | exact absurd trivial ‹¬True›)
                   . have hee : e=s.size:=by omega
                     have hr2 : (BL s).drop e=[]:=List.drop_eq_nil_of_le (by rw [← size_BL]; omega)
                     rw [hr2] at hq
                     rw [endI_no (by rw [hd]; exact prs_jn5 hp hq (by simp))]
                     refine Ctr.of (n:=100) (rs:=[.tmp 4]) Tryd.func59 rfl rfl Tryd.ntmps59 rfl rfl (by kernel_rfl) Tryd.checked.mixed ?_
                     simp (disch:=first | omega | decide +kernel) only [e0,t0,ek,Int.toNat_natCast,hn,f0,em,go_sem,Qa,Qb,Qc,Qd,Qe,↓reduceIte,reduceCtorEq,Qf,Qg,Qh]
                     (repeat' (first | ((first | (refine gsel_split (fun q' => ?_) (fun q' => ?_)<;>(have h':=q')<;>(try simp only [za1,za2,Ba,Bb,za3,ne_eq,za4,za5,za6,Ia,Ib,Ic,Ie,Da,Bc,Bh,Be,za7,za8] at h')<;>try (exfalso; omega)) | (have q':=trivial; first | refine callX_new (ih1) rfl (by decide) ?_ | refine callY_new (ih1) rfl ?_ | refine callX_new (ih2) rfl (by decide) ?_ | refine callY_new (ih2) rfl ?_ | refine hE _ _ ret_ne ?_ | refine hE _ _ exit_ne ?_))<;>(try simp (disch:=first | omega | decide +kernel) only [q',e0,t0,ek,Int.toNat_natCast,hn,f0,em,go_sem,Qa,Qb,Qc,Qd,Qe,↓reduceIte,reduceCtorEq,Qf,Qg,Qh])<;>clear q') | refine hN _ ?_ ?_ Wk.kk | with_reducible refine And.intro ?_ ?_ | with_reducible omega | exact ok_ints | exact cells_ints | exact no_mem | with_reducible exact plain_ints | (refine le_maxLen ?_; omega) | (refine za9 ⟨?_,?_⟩) | (simp only [go_sem,Qc,Qb,zb1,zb2,forall_eq]; done)))
                     all_goals (first | omega | exact absurd trivial ‹¬True›)
             . have hr : (BL s).drop m=[]:=List.drop_eq_nil_of_le (by rw [← size_BL]; omega)
               rw [hr] at hp
               rw [endI_no (by rw [hd]; exact prs_jn2 hp)]
               refine Ctr.of (n:=100) (rs:=[.tmp 4]) Tryd.func59 rfl rfl Tryd.ntmps59 rfl rfl (by kernel_rfl) Tryd.checked.mixed ?_
               simp (disch:=first | omega | decide +kernel) only [e0,t0,ek,Int.toNat_natCast,hn,go_sem,Qa,Qb,Qc,Qd,Qe,↓reduceIte,reduceCtorEq,Qf,Qg,Qh]
               (repeat' (first | ((first | (refine gsel_split (fun q' => ?_) (fun q' => ?_)<;>(have h':=q')<;>(try simp only [za1,za2,Ba,Bb,za3,ne_eq,za4,za5,za6,Ia,Ib,Ic,Ie,Da,Bc,Bh,Be,za7,za8] at h')<;>try (exfalso; omega)) | (have q':=trivial; first | refine callX_new (ih1) rfl (by decide) ?_ | refine callY_new (ih1) rfl ?_ | refine hE _ _ ret_ne ?_ | refine hE _ _ exit_ne ?_))<;>(try simp (disch:=first | omega | decide +kernel) only [q',e0,t0,ek,Int.toNat_natCast,hn,go_sem,Qa,Qb,Qc,Qd,Qe,↓reduceIte,reduceCtorEq,Qf,Qg,Qh])<;>clear q') | refine hN _ ?_ ?_ Wk.kk | with_reducible refine And.intro ?_ ?_ | with_reducible omega | exact ok_ints | exact cells_ints | exact no_mem | with_reducible exact plain_ints | (refine le_maxLen ?_; omega) | (refine za9 ⟨?_,?_⟩) | (simp only [go_sem,Qc,Qb,zb1,zb2,forall_eq]; done)))
               all_goals (first | omega | exact absurd trivial ‹¬True›)
         . have hn0 : ¬ (c.toNat : Int)=40:=fun h => h40 (toN_eq.1 h)
           rw [endI_no (by rw [hd]; exact prs_other hlf h126 h40)]
           clear ih1
           refine Ctr.of (n:=100) (rs:=[.tmp 4]) Tryd.func59 rfl rfl Tryd.ntmps59 rfl rfl (by kernel_rfl) Tryd.checked.mixed ?_
           simp (disch:=first | omega | decide +kernel) only [e0,t0,ek,Int.toNat_natCast,hn6,hn0,go_sem,Qa,Qb,Qc,Qd,Qe,↓reduceIte,reduceCtorEq,Qf,Qg,Qh]
           (repeat' (first | ((first | (refine gsel_split (fun q' => ?_) (fun q' => ?_)<;>(have h':=q')<;>(try simp only [za1,za2,Ba,Bb,za3,ne_eq,za4,za5,za6,Ia,Ib,Ic,Ie,Da,Bc,Bh,Be,za7,za8] at h')<;>try (exfalso; omega)) | (have q':=trivial; first | refine hE _ _ ret_ne ?_ | refine hE _ _ exit_ne ?_))<;>(try simp (disch:=first | omega | decide +kernel) only [q',e0,t0,ek,Int.toNat_natCast,hn6,hn0,go_sem,Qa,Qb,Qc,Qd,Qe,↓reduceIte,reduceCtorEq,Qf,Qg,Qh])<;>clear q') | refine hN _ ?_ ?_ Wk.kk | with_reducible refine And.intro ?_ ?_ | with_reducible omega | exact ok_ints | exact cells_ints | exact no_mem | with_reducible exact plain_ints | (refine le_maxLen ?_; omega) | (refine za9 ⟨?_,?_⟩) | (simp only [go_sem,Qc,Qb,zb1,zb2,forall_eq]; done)))
           all_goals (first | omega | exact absurd trivial ‹¬True›)
   . exact base k (by omega)
end Abs.Y

namespace Abs.Y
open Go Go.Proofs Abs
open Nat renaming reduceEqDiff -> Qa, reduceLT -> Qb, reduceAdd -> Qc, reduceMul -> Qd, reduceSub -> Qe, reduceLeDiff -> Qf, reduceSubDiff -> Qg, reduceBEq -> Qh
open Bool renaming not_eq_true' -> Ba, not_eq_false' -> Bb, and_eq_true -> Bc, or_eq_true -> Bh, or_eq_false_iff -> Be
open Int renaming ofNat_lt -> Ia, ofNat_le -> Ib, not_lt -> Ic, not_le -> Ie
open Decidable renaming not_not -> Da
set_option maxRecDepth 100000

theorem l22Good_ok (s : ByteArray) (hs : s.size<=1000000) : Ctr Tryd.prog 28 [.str s] false (.d (.bool (okS s))) []:=by
 have c1:=l22End_ok s hs s.size 0 (by omega) (by omega)
 have e0 : ((0 : Nat) : Int)=0:=rfl
 rw [e0] at c1
 by_cases h80 : s.size<=80
 . by_cases h0 : s.size=0
   . have hk : okS s=false:=by
      rw [okS,show BL s=[] from List.eq_nil_of_length_eq_zero (by rw [← size_BL]; exact h0),prs_nil]; simp
     rw [hk]
     refine Ctr.of (n:=18) (rs:=[.tmp 2]) Tryd.func28 rfl rfl Tryd.ntmps28 rfl rfl (by kernel_rfl) Tryd.checked.mixed ?_
     simp (disch:=first | omega | decide +kernel) only [go_sem,Qa,Qb,Qc,Qd,Qe,↓reduceIte,reduceCtorEq,Qf,Qg,Qh]
     (repeat' (first | ((first | (refine gsel_split (fun q' => ?_) (fun q' => ?_)<;>(have h':=q')<;>(try simp only [za1,za2,Ba,Bb,za3,ne_eq,za4,za5,za6,Ia,Ib,Ic,Ie,Da,Bc,Bh,Be,za7,za8] at h')<;>try (exfalso; omega)) | (have q':=trivial; first | refine callX_new (c1) rfl (by decide) ?_ | refine callY_new (c1) rfl ?_ | refine hE _ _ ret_ne ?_ | refine hE _ _ exit_ne ?_))<;>(try simp (disch:=first | omega | decide +kernel) only [q',go_sem,Qa,Qb,Qc,Qd,Qe,↓reduceIte,reduceCtorEq,Qf,Qg,Qh])<;>clear q') | refine hN _ ?_ ?_ Wk.kk | with_reducible refine And.intro ?_ ?_ | with_reducible omega | exact ok_ints | exact cells_ints | exact no_mem | with_reducible exact plain_ints | (refine le_maxLen ?_; omega) | (refine za9 ⟨?_,?_⟩) | (simp only [go_sem,Qc,Qb,zb1,zb2,forall_eq]; done)))
     all_goals (first | omega | assumption | rfl | exact absurd trivial ‹¬True›)
   . cases hp : prs (BL s) with
     | none =>
       have hk : okS s=false:=by rw [okS,hp]; simp
       rw [endI_no (by rw [List.drop_zero]; exact hp)] at c1
       rw [hk]
       refine Ctr.of (n:=18) (rs:=[.tmp 2]) Tryd.func28 rfl rfl Tryd.ntmps28 rfl rfl (by kernel_rfl) Tryd.checked.mixed ?_
       simp (disch:=first | omega | decide +kernel) only [go_sem,Qa,Qb,Qc,Qd,Qe,↓reduceIte,reduceCtorEq,Qf,Qg,Qh]
       (repeat' (first | ((first | (refine gsel_split (fun q' => ?_) (fun q' => ?_)<;>(have h':=q')<;>(try simp only [za1,za2,Ba,Bb,za3,ne_eq,za4,za5,za6,Ia,Ib,Ic,Ie,Da,Bc,Bh,Be,za7,za8] at h')<;>try (exfalso; omega)) | (have q':=trivial; first | refine callX_new (c1) rfl (by decide) ?_ | refine callY_new (c1) rfl ?_ | refine hE _ _ ret_ne ?_ | refine hE _ _ exit_ne ?_))<;>(try simp (disch:=first | omega | decide +kernel) only [q',go_sem,Qa,Qb,Qc,Qd,Qe,↓reduceIte,reduceCtorEq,Qf,Qg,Qh])<;>clear q') | refine hN _ ?_ ?_ Wk.kk | with_reducible refine And.intro ?_ ?_ | with_reducible omega | exact ok_ints | exact cells_ints | exact no_mem | with_reducible exact plain_ints | (refine le_maxLen ?_; omega) | (refine za9 ⟨?_,?_⟩) | (simp only [go_sem,Qc,Qb,zb1,zb2,forall_eq]; done)))
       all_goals (first | omega | assumption | rfl | exact absurd trivial ‹¬True›)
     | some p =>
       obtain ⟨a,r⟩:=p
       have he : endI s 0=(s.size : Int) - r.length:=by rw [endI,List.drop_zero,hp]
       rw [he] at c1
       cases r with
       | nil =>
         have hk : okS s=true:=by rw [okS,hp]; simp [h80]
         rw [hk]
         rw [List.length_nil] at c1
         refine Ctr.of (n:=18) (rs:=[.tmp 2]) Tryd.func28 rfl rfl Tryd.ntmps28 rfl rfl (by kernel_rfl) Tryd.checked.mixed ?_
         simp (disch:=first | omega | decide +kernel) only [go_sem,Qa,Qb,Qc,Qd,Qe,↓reduceIte,reduceCtorEq,Qf,Qg,Qh]
         (repeat' (first | ((first | (refine gsel_split (fun q' => ?_) (fun q' => ?_)<;>(have h':=q')<;>(try simp only [za1,za2,Ba,Bb,za3,ne_eq,za4,za5,za6,Ia,Ib,Ic,Ie,Da,Bc,Bh,Be,za7,za8] at h')<;>try (exfalso; omega)) | (have q':=trivial; first | refine callX_new (c1) rfl (by decide) ?_ | refine callY_new (c1) rfl ?_ | refine hE _ _ ret_ne ?_ | refine hE _ _ exit_ne ?_))<;>(try simp (disch:=first | omega | decide +kernel) only [q',go_sem,Qa,Qb,Qc,Qd,Qe,↓reduceIte,reduceCtorEq,Qf,Qg,Qh])<;>clear q') | refine hN _ ?_ ?_ Wk.kk | with_reducible refine And.intro ?_ ?_ | with_reducible omega | exact ok_ints | exact cells_ints | exact no_mem | with_reducible exact plain_ints | (refine le_maxLen ?_; omega) | (refine za9 ⟨?_,?_⟩) | (simp only [go_sem,Qc,Qb,zb1,zb2,forall_eq]; done)))
         all_goals (first | omega | assumption | rfl | exact absurd trivial ‹¬True› | (simp; done))
       | cons o r1 =>
         have hk : okS s=false:=by rw [okS,hp]; simp
         rw [hk]
         rw [List.length_cons] at c1
         refine Ctr.of (n:=18) (rs:=[.tmp 2]) Tryd.func28 rfl rfl Tryd.ntmps28 rfl rfl (by kernel_rfl) Tryd.checked.mixed ?_
         simp (disch:=first | omega | decide +kernel) only [go_sem,Qa,Qb,Qc,Qd,Qe,↓reduceIte,reduceCtorEq,Qf,Qg,Qh]
         (repeat' (first | ((first | (refine gsel_split (fun q' => ?_) (fun q' => ?_)<;>(have h':=q')<;>(try simp only [za1,za2,Ba,Bb,za3,ne_eq,za4,za5,za6,Ia,Ib,Ic,Ie,Da,Bc,Bh,Be,za7,za8] at h')<;>try (exfalso; omega)) | (have q':=trivial; first | refine callX_new (c1) rfl (by decide) ?_ | refine callY_new (c1) rfl ?_ | refine hE _ _ ret_ne ?_ | refine hE _ _ exit_ne ?_))<;>(try simp (disch:=first | omega | decide +kernel) only [q',go_sem,Qa,Qb,Qc,Qd,Qe,↓reduceIte,reduceCtorEq,Qf,Qg,Qh])<;>clear q') | refine hN _ ?_ ?_ Wk.kk | with_reducible refine And.intro ?_ ?_ | with_reducible omega | exact ok_ints | exact cells_ints | exact no_mem | with_reducible exact plain_ints | (refine le_maxLen ?_; omega) | (refine za9 ⟨?_,?_⟩) | (simp only [go_sem,Qc,Qb,zb1,zb2,forall_eq]; done)))
         all_goals (first | omega | assumption | rfl | exact absurd trivial ‹¬True› | (simp; omega))
 . have hk : okS s=false:=okS_long (by omega)
   rw [hk]
   refine Ctr.of (n:=18) (rs:=[.tmp 2]) Tryd.func28 rfl rfl Tryd.ntmps28 rfl rfl (by kernel_rfl) Tryd.checked.mixed ?_
   simp (disch:=first | omega | decide +kernel) only [go_sem,Qa,Qb,Qc,Qd,Qe,↓reduceIte,reduceCtorEq,Qf,Qg,Qh]
   (repeat' (first | ((first | (refine gsel_split (fun q' => ?_) (fun q' => ?_)<;>(have h':=q')<;>(try simp only [za1,za2,Ba,Bb,za3,ne_eq,za4,za5,za6,Ia,Ib,Ic,Ie,Da,Bc,Bh,Be,za7,za8] at h')<;>try (exfalso; omega)) | (have q':=trivial; first | refine callX_new (c1) rfl (by decide) ?_ | refine callY_new (c1) rfl ?_ | refine hE _ _ ret_ne ?_ | refine hE _ _ exit_ne ?_))<;>(try simp (disch:=first | omega | decide +kernel) only [q',go_sem,Qa,Qb,Qc,Qd,Qe,↓reduceIte,reduceCtorEq,Qf,Qg,Qh])<;>clear q') | refine hN _ ?_ ?_ Wk.kk | with_reducible refine And.intro ?_ ?_ | with_reducible omega | exact ok_ints | exact cells_ints | exact no_mem | with_reducible exact plain_ints | (refine le_maxLen ?_; omega) | (refine za9 ⟨?_,?_⟩) | (simp only [go_sem,Qc,Qb,zb1,zb2,forall_eq]; done)))
   all_goals (first | omega | assumption | rfl | exact absurd trivial ‹¬True›)
def Fm.op : Fm->UInt8
 | .lf c => c
 | .ng _ => 126
 | .jn o _ _ => o
def Fm.p1 : Fm->ByteArray
 | .lf _ => ⟨#[]⟩
 | .ng a => a.T
 | .jn _ a _ => a.T
def Fm.p2 : Fm->ByteArray
 | .lf _ => ⟨#[]⟩
 | .ng _ => ⟨#[]⟩
 | .jn _ _ b => b.T
theorem l22Letter_ok (x : Fm) (hw : x.wf=true) : Ctr Tryd.prog 29 [.str x.T] false (.d (.bool (match x with | .lf c => isLet c | _ => false))) []:=by
 cases x with
 | lf c =>
   have hz : (Fm.lf c).T.size=1:=rfl
   have e0 : (Fm.lf c).T.data.toList.getD 0 0=c:=rfl
   have t0 : Int.toNat 0=0:=rfl
   have h : isLet c=(decide (97<=(c.toNat : Int)) && decide ((c.toNat : Int)<=102)):=by
    unfold isLet
    rw [← Bool.decide_and]
    apply decide_eq_decide.2
    rw [UInt8.le_iff_toNat_le,UInt8.le_iff_toNat_le]
    have e1 : (97 : UInt8).toNat=97:=rfl
    have e2 : (102 : UInt8).toNat=102:=rfl
    omega
   show Ctr _ _ _ _ (.d (.bool (isLet c))) _
   rw [h]
   generalize (Fm.lf c).T=t at *
   refine Ctr.of (n:=16) (rs:=[.tmp 2]) Tryd.func29 rfl rfl Tryd.ntmps29 rfl rfl (by kernel_rfl) Tryd.checked.mixed ?_
   simp (disch:=first | omega | decide +kernel) only [hz,e0,t0,go_sem,Qa,Qb,Qc,Qd,Qe,↓reduceIte,reduceCtorEq,Qf,Qg,Qh]
   (repeat' (first | ((first | (refine gsel_split (fun q' => ?_) (fun q' => ?_)<;>(have h':=q')<;>(try simp only [za1,za2,Ba,Bb,za3,ne_eq,za4,za5,za6,Ia,Ib,Ic,Ie,Da,Bc,Bh,Be,za7,za8] at h')<;>try (exfalso; omega)) | (have q':=trivial; first | refine hE _ _ ret_ne ?_ | refine hE _ _ exit_ne ?_))<;>(try simp (disch:=first | omega | decide +kernel) only [q',hz,e0,t0,go_sem,Qa,Qb,Qc,Qd,Qe,↓reduceIte,reduceCtorEq,Qf,Qg,Qh])<;>clear q') | refine hN _ ?_ ?_ Wk.kk | with_reducible refine And.intro ?_ ?_ | with_reducible omega | exact ok_ints | exact cells_ints | exact no_mem | with_reducible exact plain_ints | (refine le_maxLen ?_; omega) | (refine za9 ⟨?_,?_⟩) | (simp only [go_sem,Qc,Qb,zb1,zb2,forall_eq]; done)))
   all_goals (first | omega | assumption | rfl | exact absurd trivial ‹¬True› | (congr 1; simp_all; done))
 | ng a =>
   have hz : (Fm.ng a).T.size=a.T.size + 1:=by simp only [size_BL,BL_T,Fm.tl,List.length_cons]
   have:=List.length_pos_iff.2 (tl_ne a)
   rw [← BL_T,← size_BL] at this
   generalize (Fm.ng a).T=t at *
   refine Ctr.of (n:=16) (rs:=[.tmp 2]) Tryd.func29 rfl rfl Tryd.ntmps29 rfl rfl (by kernel_rfl) Tryd.checked.mixed ?_
   simp (disch:=first | omega | decide +kernel) only [hz,go_sem,Qa,Qb,Qc,Qd,Qe,↓reduceIte,reduceCtorEq,Qf,Qg,Qh]
   (repeat' (first | ((first | (refine gsel_split (fun q' => ?_) (fun q' => ?_)<;>(have h':=q')<;>(try simp only [za1,za2,Ba,Bb,za3,ne_eq,za4,za5,za6,Ia,Ib,Ic,Ie,Da,Bc,Bh,Be,za7,za8] at h')<;>try (exfalso; omega)) | (have q':=trivial; first | refine hE _ _ ret_ne ?_ | refine hE _ _ exit_ne ?_))<;>(try simp (disch:=first | omega | decide +kernel) only [q',hz,go_sem,Qa,Qb,Qc,Qd,Qe,↓reduceIte,reduceCtorEq,Qf,Qg,Qh])<;>clear q') | refine hN _ ?_ ?_ Wk.kk | with_reducible refine And.intro ?_ ?_ | with_reducible omega | exact ok_ints | exact cells_ints | exact no_mem | with_reducible exact plain_ints | (refine le_maxLen ?_; omega) | (refine za9 ⟨?_,?_⟩) | (simp only [go_sem,Qc,Qb,zb1,zb2,forall_eq]; done)))
   all_goals (first | omega | assumption | rfl | exact absurd trivial ‹¬True›)
 | jn o a b =>
   have hz : (Fm.jn o a b).T.size=a.T.size + b.T.size + 3:=by simp only [size_BL,BL_T,Fm.tl,List.length_cons,List.length_append,List.length_nil]; omega
   generalize (Fm.jn o a b).T=t at *
   refine Ctr.of (n:=16) (rs:=[.tmp 2]) Tryd.func29 rfl rfl Tryd.ntmps29 rfl rfl (by kernel_rfl) Tryd.checked.mixed ?_
   simp (disch:=first | omega | decide +kernel) only [hz,go_sem,Qa,Qb,Qc,Qd,Qe,↓reduceIte,reduceCtorEq,Qf,Qg,Qh]
   (repeat' (first | ((first | (refine gsel_split (fun q' => ?_) (fun q' => ?_)<;>(have h':=q')<;>(try simp only [za1,za2,Ba,Bb,za3,ne_eq,za4,za5,za6,Ia,Ib,Ic,Ie,Da,Bc,Bh,Be,za7,za8] at h')<;>try (exfalso; omega)) | (have q':=trivial; first | refine hE _ _ ret_ne ?_ | refine hE _ _ exit_ne ?_))<;>(try simp (disch:=first | omega | decide +kernel) only [q',hz,go_sem,Qa,Qb,Qc,Qd,Qe,↓reduceIte,reduceCtorEq,Qf,Qg,Qh])<;>clear q') | refine hN _ ?_ ?_ Wk.kk | with_reducible refine And.intro ?_ ?_ | with_reducible omega | exact ok_ints | exact cells_ints | exact no_mem | with_reducible exact plain_ints | (refine le_maxLen ?_; omega) | (refine za9 ⟨?_,?_⟩) | (simp only [go_sem,Qc,Qb,zb1,zb2,forall_eq]; done)))
   all_goals (first | omega | assumption | rfl | exact absurd trivial ‹¬True›)
end Abs.Y

namespace Abs.Y
open Go Go.Proofs Abs
open Nat renaming reduceEqDiff -> Qa, reduceLT -> Qb, reduceAdd -> Qc, reduceMul -> Qd, reduceSub -> Qe, reduceLeDiff -> Qf, reduceSubDiff -> Qg, reduceBEq -> Qh
open Bool renaming not_eq_true' -> Ba, not_eq_false' -> Bb, and_eq_true -> Bc, or_eq_true -> Bh, or_eq_false_iff -> Be
open Int renaming ofNat_lt -> Ia, ofNat_le -> Ib, not_lt -> Ic, not_le -> Ie
open Decidable renaming not_not -> Da
set_option maxRecDepth 100000

theorem sch_el : ∀ j,j < 10->schemesD.getD j .nilptr=.str (sch j).T
 | 0,_ | 1,_ | 2,_ | 3,_ | 4,_ | 5,_ | 6,_ | 7,_ | 8,_ | 9,_ => rfl
theorem sch_sz : ∀ j,(sch j).T.size<=30
 | 0 | 1 | 2 | 3 | 4 | 5 | 6 | 7 | 8 => by decide
 | _ + 9 => by show 1<=30; omega
theorem parse_sch (j : Nat) : Ctr Tryd.prog 32 [.str (sch j).T] true (.tup [.d (fmD (sch j)),.d (.bool true)]) []:=by
 have hz:=sch_sz j
 obtain ⟨x,hx,c1⟩:=parse_ok (sch j).T (by omega)
 have hk : okS (sch j).T=true:=okS_T (sch_wf j) (by omega)
 rw [hx hk,hk,fmS_T (sch_wf j)] at c1
 exact c1
end Abs.Y
