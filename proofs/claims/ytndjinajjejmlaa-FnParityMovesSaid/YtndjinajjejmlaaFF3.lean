/- What functions of this program compute, over plain data. No condition. -/
import Derived.Test.YtndjinajjejmlaaPM6
import Derived.Test.YtndjinajjejmlaaAbsLoopO
import Derived.Test.YtndjinajjejmlaaM3a
import Derived.Test.YtndjinajjejmlaaG5c
import Derived.Test.YtndjinajjejmlaaAbsRow
set_option linter.all false
open Nat renaming reduceEqDiff -> Qa, reduceLT -> Qb, reduceAdd -> Qc, reduceMul -> Qd, reduceSub -> Qe, reduceLeDiff -> Qf, reduceSubDiff -> Qg, reduceBEq -> Qh
open Bool renaming not_eq_true' -> Ba, not_eq_false' -> Bb, and_eq_true -> Bc, or_eq_true -> Bh, or_eq_false_iff -> Be
open Int renaming ofNat_lt -> Ia, ofNat_le -> Ib, not_lt -> Ic, not_le -> Ie
open Decidable renaming not_not -> Da
namespace Abs
open Go Go.Proofs
def Wkd (N : Nat) (K : St->Prop) (st : St) : Prop:=∃ st',Wk N st st'∧K st'
theorem Wkd.of {N K st st'} (h : Wk N st st') (hk : K st') : Wkd N K st:=⟨st',h,hk⟩
theorem wpOps_cut {P : Program} {N : Nat} {Z B M w0} {l : List Oper} {K : St->Prop} {Q : Exit->Act->World->Prop} (hQ : ∀ st a w,Sim Z N B M w0 st a w->K st->Q .normal a w) (r2 : List Oper) :
 ∀ (r : List Oper) (t : Nat) (st : St) (a : Act) (w : World),l.drop t=r++r2->Sim Z N B M w0 st a w->opsA P N l r st (Wkd N (fun st' => opsA P N l r2 st' K))->wpOps P l.toArray Q (List.range' t (r++r2).length) a w
 | [], t, st, a, w, hd, ⟨_, _, hs⟩, hq => by
   obtain ⟨st',hw,hk⟩:=hq
   exact wpOps_of_opsA hQ r2 t st' a w hd (hw _ _ _ _ _ _ _ _ hs) hk
 | o :: r, t, st, a, w, hd, hs, hq => by
   have ho : l[t]? = some o:=by
    have:=congrArg (fun x : List Oper => x[0]?) hd
    simpa using this
   have hd' : l.drop (t + 1)=r++r2:=by
    have:=congrArg List.tail hd
    simpa using this
   simp only [List.cons_append,List.length_cons,List.range'_succ,wpOps]
   have ho' : (l.toArray)[t]? = some o:=by simpa using ho
   rw [ho']
   simp only
   have:=stepA_spec hs hq (K':=wpOps P l.toArray Q (List.range' (t + 1) (r++r2).length)) (Q:=Q) fun st' a' w' hs' hk => wpOps_cut hQ r2 r (t + 1) st' a' w' hd' hs' hk
   split
   . rename_i hw; rw [if_pos hw] at this; exact .inl this
   . rename_i hw; rw [if_neg hw] at this; exact this
theorem Ok.regCut {P : Program} {N id : Nat} {ops : Array Oper} {Q : Exit->St->Prop} {st : St} (m : Nat) (h : OpsW P N ops.toList (ops.toList.take m) st (Wkd N (fun st' => OpsW P N ops.toList (ops.toList.drop m) st' (Q .normal)))) : Ok P N (.region id ops false) Q st:=fun _ _ Z B M w0 a w hs => by
 obtain ⟨l⟩:=ops
 rw [OpsW_eq] at h
 have e : (fun st' => OpsW P N l (l.drop m) st' (Q .normal))=fun st' => opsA P N l (l.drop m) st' (Q .normal):=funext fun _ => OpsW_eq
 have h : opsA P N l (l.take m) st (Wkd N (fun st' => OpsW P N l (l.drop m) st' (Q .normal))):=h
 rw [e] at h
 have:=wpOps_cut (P:=P) (Q:=lift Z N B M w0 Q) (fun st a w hs hk => ⟨st,hs,hk⟩) (l.drop m) (l.take m) 0 st a w (List.take_append_drop m l).symm hs h
 show wpOps P l.toArray (lift Z N B M w0 Q) (List.range l.toArray.size) a w
 simpa [List.range_eq_range',List.take_append_drop] using this
end Abs
namespace Abs.Y
open Go Go.Proofs Abs
set_option maxRecDepth 100000

def sgTo (out : List (List Int)) (v : Int) (k : Nat) : List (List Int):=sgS (out.take k) v
theorem sgTo_succ {out : List (List Int)} {v : Int} {k : Nat} (h : k < out.length) : sgTo out v (k + 1)=sgTo out v k++[out.getD k []++[v],out.getD k []++[-v]]:=by
 unfold sgTo sgS
 rw [take_succ [] out k h,List.flatMap_append]; simp
theorem sgTo_len (out : List (List Int)) (v : Int) (k : Nat) : (sgTo out v k).length<=2 * k:=by
 unfold sgTo; rw [sgS_len,List.length_take]; omega
set_option maxHeartbeats 4000000 in
theorem signings_ok (l : List Int) (hl : l.length<=4) (hb : ∀ v ∈ l,0 < v∧v<=60) : Ctr Try.prog 49 [D.ints l] true (.d (.slice ((sgI l).map D.ints))) []:=by
 have hs0 : [D.slice []]=List.map D.ints (sgI []):=rfl
 refine Ctr.of (n:=40) (rs:=[.tmp 2]) Try.func49 rfl rfl Try.ntmps49 rfl rfl (by kernel_rfl) Try.checked.mixed ?_
 simp (disch:=first | omega | decide +kernel) only [D.ints,go_sem,Qa,Qb,Qc,Qd,Qe,↓reduceIte,reduceCtorEq,Qf,Qg,Qh]
 (repeat' (first | ((first | (refine gsel_split (fun q' => ?_) (fun q' => ?_)<;>(have h':=q')<;>(try simp only [za1,za2,Ba,Bb,za3,ne_eq,za4,za5,za6,Ia,Ib,Ic,Ie,Da,Bc,Bh,Be,za7,za8] at h')) | (have q':=trivial; first | refine hE _ _ ret_ne ?_ | refine hE _ _ exit_ne ?_))<;>(try simp (disch:=first | omega | decide +kernel) only [q',D.ints,go_sem,Qa,Qb,Qc,Qd,Qe,↓reduceIte,reduceCtorEq,Qf,Qg,Qh])<;>clear q') | refine hN _ ?_ ?_ Wk.kk | with_reducible refine And.intro ?_ ?_ | with_reducible omega | exact ok_ints | exact cells_ints | exact no_mem | with_reducible exact plain_ints | (refine le_maxLen ?_; omega) | (refine za9 ⟨?_,?_⟩) | (simp only [go_sem,Qc,Qb,zb1,zb2,forall_eq]; done)))
 refine Ok.weak (Wk.frz (j:=9) rfl) ?_
 simp (disch:=first | omega | decide +kernel) only [St.frz,frzS,frzO,AV.frz,AV.frzL,AO.frz,go_sem,Qa,Qb,Qc,Qd,Qe,↓reduceIte,reduceCtorEq,Qf,Qg,Qh]
 refine Ok.loopNO [25,24,23,22,21,20,19,18,17,16,15,14,13,12,9,8,7,6,5,4,3,1] (fun i _ => [(12,.d (.int .i64 (i : Nat))),(3,.d (.slice ((sgI (l.take i)).map D.ints)))]) (fun i (_ : Unit) => []) l.length (fun _ _ => True) () trivial (by refine Wk.auto ?_ ?_<;>simp [extraK,lk,killL,St.kill,wipeO,wipeS,AV.has,AV.hasL,AO.wipe,List.map_set,updSt,insL,dropS,ins,hs0]) ?_
 rintro R i _ hN hE hi _
 refine Ok.go ?_
 by_cases hlt : i < l.length
 . have hei:=el_ints (xs:=l) hlt
   have hv:=hb _ (getD_mem (z:=(0 : Int)) hlt)
   have hs : sgI (l.take (i + 1))=sgS (sgI (l.take i)) (l.getD i 0):=by rw [take_succ 0 l i hlt,sgI_app]
   have hL : (sgI (l.take i)).length<=8:=by
    rw [sgI_len,List.length_take,Nat.min_eq_left hi]
    have : i<=3:=by omega
    exact Nat.pow_le_pow_right (n:=2) (by decide) this
   have hn : ∀ c ∈ sgI (l.take i),c.length<=4:=fun c hc => by
    have:=congrArg List.length (sgI_abs _ c hc)
    rw [List.length_map,List.length_map,List.length_take] at this
    omega
   generalize l.getD i 0=v at *
   generalize sgI (l.take i)=out at *
   simp (disch:=first | omega | decide +kernel) only [hei,go_sem,Qa,Qb,Qc,Qd,Qe,↓reduceIte,reduceCtorEq,Qf,Qg,Qh]
   (repeat' (first | ((first | (refine gsel_split (fun q' => ?_) (fun q' => ?_)<;>(have h':=q')<;>(try simp only [za1,za2,Ba,Bb,za3,ne_eq,za4,za5,za6,Ia,Ib,Ic,Ie,Da,Bc,Bh,Be,za7,za8] at h')<;>try (exfalso; omega)) | (have q':=trivial; first | refine hE _ _ ret_ne ?_ | refine hE _ _ exit_ne ?_))<;>(try simp (disch:=first | omega | decide +kernel) only [q',hei,go_sem,Qa,Qb,Qc,Qd,Qe,↓reduceIte,reduceCtorEq,Qf,Qg,Qh])<;>clear q') | refine hN _ ?_ ?_ Wk.kk | with_reducible refine And.intro ?_ ?_ | with_reducible omega | exact ok_ints | exact cells_ints | exact no_mem | with_reducible exact plain_ints | (refine le_maxLen ?_; omega) | (refine za9 ⟨?_,?_⟩) | (simp only [go_sem,Qc,Qb,zb1,zb2,forall_eq]; done)))
   have hz : sgTo out v 0=[]:=rfl
   refine Ok.loopNO [25,24,23,22,21,20,19,18,15,14,13,9,8,7,6,4,1] (fun k _ => [(18,.d (.int .i64 (k : Nat))),(6,.sl 6)]) (fun k (_ : Unit) => [(6,.arr 25 1 ((sgTo out v k).map D.ints))]) out.length (fun _ _ => True) () trivial (by refine Wk.auto ?_ ?_<;>simp [extraK,lk,killL,St.kill,wipeO,wipeS,AV.has,AV.hasL,AO.wipe,List.map_set,updSt,insL,dropS,ins,hz,List.map_nil]) ?_
   rintro R2 k _ hN2 hE2 hk _
   by_cases hkt : k < out.length
   . have hek:=el_intss (xs:=out) hkt
     have hm:=hn _ (getD_mem (z:=([] : List Int)) hkt)
     have c1:=clone_ok (out.getD k []) (by omega)
     have hsu:=sgTo_succ (v:=v) hkt
     have hsl:=sgTo_len out v k
     have hneg : IntKind.i64.wrap (0 - v)=-v:=by rw [wrap_of (by omega)]; omega
     simp only [D.ints] at c1
     generalize out.getD k []=c at *
     refine Ok.seq (Ok.go ?_)
     simp (disch:=first | omega | decide +kernel) only [List.length_map,go_sem,Qa,Qb,Qc,Qd,Qe,↓reduceIte,reduceCtorEq,Qf,Qg,Qh]
     (repeat' (first | ((first | (refine gsel_split (fun q' => ?_) (fun q' => ?_)<;>(have h':=q')<;>(try simp only [za1,za2,Ba,Bb,za3,ne_eq,za4,za5,za6,Ia,Ib,Ic,Ie,Da,Bc,Bh,Be,za7,za8] at h')<;>try (exfalso; omega)) | (have q':=trivial; first | refine hE _ _ ret_ne ?_ | refine hE _ _ exit_ne ?_))<;>(try simp (disch:=first | omega | decide +kernel) only [q',List.length_map,go_sem,Qa,Qb,Qc,Qd,Qe,↓reduceIte,reduceCtorEq,Qf,Qg,Qh])<;>clear q') | refine hN _ ?_ ?_ Wk.kk | with_reducible refine And.intro ?_ ?_ | with_reducible omega | exact ok_ints | exact cells_ints | exact no_mem | with_reducible exact plain_ints | (refine le_maxLen ?_; omega) | (refine za9 ⟨?_,?_⟩) | (simp only [go_sem,Qc,Qb,zb1,zb2,forall_eq]; done)))
     refine Ok.seq (Ok.go ?_)
     simp (disch:=first | omega | decide +kernel) only [go_sem,Qa,Qb,Qc,Qd,Qe,↓reduceIte,reduceCtorEq,Qf,Qg,Qh]
     (repeat' (first | ((first | (refine gsel_split (fun q' => ?_) (fun q' => ?_)<;>(have h':=q')<;>(try simp only [za1,za2,Ba,Bb,za3,ne_eq,za4,za5,za6,Ia,Ib,Ic,Ie,Da,Bc,Bh,Be,za7,za8] at h')<;>try (exfalso; omega)) | (have q':=trivial; first | refine hE _ _ ret_ne ?_ | refine hE _ _ exit_ne ?_))<;>(try simp (disch:=first | omega | decide +kernel) only [q',go_sem,Qa,Qb,Qc,Qd,Qe,↓reduceIte,reduceCtorEq,Qf,Qg,Qh])<;>clear q') | refine hN _ ?_ ?_ Wk.kk | with_reducible refine And.intro ?_ ?_ | with_reducible omega | exact ok_ints | exact cells_ints | exact no_mem | with_reducible exact plain_ints | (refine le_maxLen ?_; omega) | (refine za9 ⟨?_,?_⟩) | (simp only [go_sem,Qc,Qb,zb1,zb2,forall_eq]; done)))
     refine Ok.seq (Ok.block (Ok.seq (Ok.go ?_)))
     simp (disch:=first | omega | decide +kernel) only [hek,D.ints,go_sem,Qa,Qb,Qc,Qd,Qe,↓reduceIte,reduceCtorEq,Qf,Qg,Qh]
     (repeat' (first | ((first | (refine gsel_split (fun q' => ?_) (fun q' => ?_)<;>(have h':=q')<;>(try simp only [za1,za2,Ba,Bb,za3,ne_eq,za4,za5,za6,Ia,Ib,Ic,Ie,Da,Bc,Bh,Be,za7,za8] at h')<;>try (exfalso; omega)) | (have q':=trivial; first | refine hE _ _ ret_ne ?_ | refine hE _ _ exit_ne ?_))<;>(try simp (disch:=first | omega | decide +kernel) only [q',hek,D.ints,go_sem,Qa,Qb,Qc,Qd,Qe,↓reduceIte,reduceCtorEq,Qf,Qg,Qh])<;>clear q') | refine hN _ ?_ ?_ Wk.kk | with_reducible refine And.intro ?_ ?_ | with_reducible omega | exact ok_ints | exact cells_ints | exact no_mem | with_reducible exact plain_ints | (refine le_maxLen ?_; omega) | (refine za9 ⟨?_,?_⟩) | (simp only [go_sem,Qc,Qb,zb1,zb2,forall_eq]; done)))
     refine Ok.regCut 12 ?_
     simp (disch:=first | omega | decide +kernel) only [D.ints,hneg,go_sem,Qa,Qb,Qc,Qd,Qe,↓reduceIte,reduceCtorEq,Qf,Qg,Qh]
     (repeat' (first | ((first | (refine gsel_split (fun q' => ?_) (fun q' => ?_)<;>(have h':=q')<;>(try simp only [za1,za2,Ba,Bb,za3,ne_eq,za4,za5,za6,Ia,Ib,Ic,Ie,Da,Bc,Bh,Be,za7,za8] at h')<;>try (exfalso; omega)) | (have q':=trivial; first | refine callX_new (c1) rfl (by decide) ?_ | refine callY_new (c1) rfl ?_ | refine hE _ _ ret_ne ?_ | refine hE _ _ exit_ne ?_))<;>(try simp (disch:=first | omega | decide +kernel) only [q',D.ints,hneg,go_sem,Qa,Qb,Qc,Qd,Qe,↓reduceIte,reduceCtorEq,Qf,Qg,Qh])<;>clear q') | refine hN _ ?_ ?_ Wk.kk | with_reducible refine And.intro ?_ ?_ | with_reducible omega | exact ok_ints | exact cells_ints | exact no_mem | with_reducible exact plain_ints | (refine le_maxLen ?_; omega) | (refine za9 ⟨?_,?_⟩) | (simp only [go_sem,Qc,Qb,zb1,zb2,forall_eq]; done)))
     refine Wkd.of ((Wk.frz (j:=3000000) rfl).trans (Wk.frz (j:=2500000) rfl)) ?_
     simp (disch:=first | omega | decide +kernel) only [St.frz,frzS,frzO,AV.frz,AV.frzL,AO.frz,go_sem,Qa,Qb,Qc,Qd,Qe,↓reduceIte,reduceCtorEq,Qf,Qg,Qh]
     (repeat' (first | ((first | (refine gsel_split (fun q' => ?_) (fun q' => ?_)<;>(have h':=q')<;>(try simp only [za1,za2,Ba,Bb,za3,ne_eq,za4,za5,za6,Ia,Ib,Ic,Ie,Da,Bc,Bh,Be,za7,za8] at h')<;>try (exfalso; omega)) | (have q':=trivial; first | refine hE _ _ ret_ne ?_ | refine hE _ _ exit_ne ?_))<;>(try simp (disch:=first | omega | decide +kernel) only [q',List.length_map,go_sem,Qa,Qb,Qc,Qd,Qe,↓reduceIte,reduceCtorEq,Qf,Qg,Qh])<;>clear q') | refine hN _ ?_ ?_ Wk.kk | with_reducible refine And.intro ?_ ?_ | with_reducible omega | exact ok_ints | exact cells_ints | exact no_mem | with_reducible exact plain_ints | (refine le_maxLen ?_; omega) | (refine za9 ⟨?_,?_⟩) | (simp only [go_sem,Qc,Qb,zb1,zb2,forall_eq]; done)))
     refine Ok.go ?_
     simp (disch:=first | omega | decide +kernel) only [go_sem,Qa,Qb,Qc,Qd,Qe,↓reduceIte,reduceCtorEq,Qf,Qg,Qh]
     rw [show (k : Int) + 1=((k + 1 : Nat) : Int) by omega]
     refine hN2 () _ hkt trivial ?_
     rw [hsu]
     exact (by refine Wk.auto ?_ ?_<;>simp [extraK,lk,killL,St.kill,wipeO,wipeS,AV.has,AV.hasL,AO.wipe,List.map_set,updSt,insL,dropS,ins,D.ints,List.map_append,List.map_cons,List.map_nil,List.append_assoc])
   . obtain rfl : k=out.length:=by omega
     have ho : sgTo out v out.length=sgS out v:=by unfold sgTo; rw [List.take_length]
     refine Ok.go ?_
     simp (disch:=first | omega | decide +kernel) only [go_sem,Qa,Qb,Qc,Qd,Qe,↓reduceIte,reduceCtorEq,Qf,Qg,Qh]
     (repeat' (first | ((first | (refine gsel_split (fun q' => ?_) (fun q' => ?_)<;>(have h':=q')<;>(try simp only [za1,za2,Ba,Bb,za3,ne_eq,za4,za5,za6,Ia,Ib,Ic,Ie,Da,Bc,Bh,Be,za7,za8] at h')<;>try (exfalso; omega)) | (have q':=trivial; first | refine hE _ _ ret_ne ?_ | refine hE _ _ exit_ne ?_))<;>(try simp (disch:=first | omega | decide +kernel) only [q',go_sem,Qa,Qb,Qc,Qd,Qe,↓reduceIte,reduceCtorEq,Qf,Qg,Qh])<;>clear q') | refine hN _ ?_ ?_ Wk.kk | with_reducible refine And.intro ?_ ?_ | with_reducible omega | exact ok_ints | exact cells_ints | exact no_mem | with_reducible exact plain_ints | (refine le_maxLen ?_; omega) | (refine za9 ⟨?_,?_⟩) | (simp only [go_sem,Qc,Qb,zb1,zb2,forall_eq]; done)))
     refine hE2 _ _ exit_ne ?_
     simp (disch:=first | omega | decide +kernel) only [go_sem,Qa,Qb,Qc,Qd,Qe,↓reduceIte,reduceCtorEq,Qf,Qg,Qh]
     rw [show (i : Int) + 1=((i + 1 : Nat) : Int) by omega,ho]
     refine hN () _ hlt trivial ((Wk.frz (j:=6) rfl).trans ?_)
     rw [hs]
     exact (by refine Wk.auto ?_ ?_<;>simp [extraK,lk,killL,St.kill,wipeO,wipeS,AV.has,AV.hasL,AO.wipe,List.map_set,updSt,insL,dropS,ins,St.frz,frzS,frzO,AV.frz,AV.frzL,AO.frz])
 . obtain rfl : i=l.length:=by omega
   rw [List.take_length] at *
   simp (disch:=first | omega | decide +kernel) only [go_sem,Qa,Qb,Qc,Qd,Qe,↓reduceIte,reduceCtorEq,Qf,Qg,Qh]
   (repeat' (first | ((first | (refine gsel_split (fun q' => ?_) (fun q' => ?_)<;>(have h':=q')<;>(try simp only [za1,za2,Ba,Bb,za3,ne_eq,za4,za5,za6,Ia,Ib,Ic,Ie,Da,Bc,Bh,Be,za7,za8] at h')<;>try (exfalso; omega)) | (have q':=trivial; first | refine hE _ _ ret_ne ?_ | refine hE _ _ exit_ne ?_))<;>(try simp (disch:=first | omega | decide +kernel) only [q',go_sem,Qa,Qb,Qc,Qd,Qe,↓reduceIte,reduceCtorEq,Qf,Qg,Qh])<;>clear q') | refine hN _ ?_ ?_ Wk.kk | with_reducible refine And.intro ?_ ?_ | with_reducible omega | exact ok_ints | exact cells_ints | exact no_mem | with_reducible exact plain_ints | (refine le_maxLen ?_; omega) | (refine za9 ⟨?_,?_⟩) | (simp only [go_sem,Qc,Qb,zb1,zb2,forall_eq]; done)))
   exact ret_s1 [] rfl
set_option maxHeartbeats 4000000 in
theorem xorClauses_ok (l : List Int) (odd : Bool) (hl : l.length<=4) (hb : ∀ v ∈ l,0 < v∧v<=60) : Ctr Try.prog 30 [D.ints l,.bool odd] true (.d (.slice ((xorI l odd).map D.ints))) []:=by
 have c1:=signings_ok l hl hb
 have hL : (sgI l).length<=16:=by rw [sgI_len]; exact Nat.pow_le_pow_right (n:=2) (by decide) hl
 have hn : ∀ c ∈ sgI l,c.length<=4:=fun c hc => by
  have:=congrArg List.length (sgI_abs _ c hc)
  rw [List.length_map,List.length_map] at this
  omega
 have hx : xorI l odd=(sgI l).filter (xpB odd):=rfl
 rw [hx]
 clear hx hb
 generalize sgI l=out at *
 simp only [D.ints] at c1
 refine Ctr.of (n:=40) (rs:=[.tmp 4]) Try.func30 rfl rfl Try.ntmps30 rfl rfl (by kernel_rfl) Try.checked.mixed ?_
 simp (disch:=first | omega | decide +kernel) only [D.ints,go_sem,Qa,Qb,Qc,Qd,Qe,↓reduceIte,reduceCtorEq,Qf,Qg,Qh]
 (repeat' (first | ((first | (refine gsel_split (fun q' => ?_) (fun q' => ?_)<;>(have h':=q')<;>(try simp only [za1,za2,Ba,Bb,za3,ne_eq,za4,za5,za6,Ia,Ib,Ic,Ie,Da,Bc,Bh,Be,za7,za8] at h')) | (have q':=trivial; first | refine callX_shared (c1) rfl (by decide) ?_ | refine callY_shared (c1) rfl ?_ | refine hE _ _ ret_ne ?_ | refine hE _ _ exit_ne ?_))<;>(try simp (disch:=first | omega | decide +kernel) only [q',D.ints,go_sem,Qa,Qb,Qc,Qd,Qe,↓reduceIte,reduceCtorEq,Qf,Qg,Qh])<;>clear q') | refine hN _ ?_ ?_ Wk.kk | with_reducible refine And.intro ?_ ?_ | with_reducible omega | exact ok_ints | exact cells_ints | exact no_mem | with_reducible exact plain_ints | (refine le_maxLen ?_; omega) | (refine za9 ⟨?_,?_⟩) | (simp only [go_sem,Qc,Qb,zb1,zb2,forall_eq]; done)))
 refine Ok.loopN [25,24,23,22,21,20,19,18,17,16,15,14,10,9,8,7,6,5,3,2] (fun i _ => [(14,.d (.int .i64 (i : Nat))),(5,.sl 5)]) (fun i (_ : Unit) => [(5,.arr 25 1 (((out.take i).filter (xpB odd)).map D.ints))]) out.length (fun _ _ => True) () trivial (by refine Wk.auto ?_ ?_<;>simp [extraK,lk,killL,St.kill,wipeO,wipeS,AV.has,AV.hasL,AO.wipe,List.map_set,updSt,insL,dropS,ins,List.take_zero,List.filter_nil,List.map_nil]) ?_
 rintro R i _ hN hE hi _
 by_cases hlt : i < out.length
 . have hei:=el_intss (xs:=out) hlt
   have hm:=hn _ (getD_mem (z:=([] : List Int)) hlt)
   have hs : (out.take (i + 1)).filter (xpB odd)=(out.take i).filter (xpB odd)++if xpB odd (out.getD i [])=true then [out.getD i []] else []:=by
    rw [take_succ [] out i hlt,List.filter_append,List.filter_cons,List.filter_nil]
   have hfl : ((out.take i).filter (xpB odd)).length<=i:=Nat.le_trans (List.length_filter_le _ _) (by rw [List.length_take]; omega)
   generalize (out.take i).filter (xpB odd)=fl at *
   generalize out.getD i []=c at *
   have hz : ngI []=0:=rfl
   simp (disch:=first | omega | decide +kernel) only [hei,D.ints,go_sem,Qa,Qb,Qc,Qd,Qe,↓reduceIte,reduceCtorEq,Qf,Qg,Qh]
   (repeat' (first | ((first | (refine gsel_split (fun q' => ?_) (fun q' => ?_)<;>(have h':=q')<;>(try simp only [za1,za2,Ba,Bb,za3,ne_eq,za4,za5,za6,Ia,Ib,Ic,Ie,Da,Bc,Bh,Be,za7,za8] at h')) | (have q':=trivial; first | refine hE _ _ ret_ne ?_ | refine hE _ _ exit_ne ?_))<;>(try simp (disch:=first | omega | decide +kernel) only [q',hei,D.ints,go_sem,Qa,Qb,Qc,Qd,Qe,↓reduceIte,reduceCtorEq,Qf,Qg,Qh])<;>clear q') | refine hN _ ?_ ?_ Wk.kk | with_reducible refine And.intro ?_ ?_ | with_reducible omega | exact ok_ints | exact cells_ints | exact no_mem | with_reducible exact plain_ints | (refine le_maxLen ?_; omega) | (refine za9 ⟨?_,?_⟩) | (simp only [go_sem,Qc,Qb,zb1,zb2,forall_eq]; done)))
   refine Ok.loopN [25,24,23,22,21,20,17,16,15,10,9,8,6,3,2] (fun j _ => [(20,.d (.int .i64 (j : Nat))),(8,.d (.int .i64 (ngI (c.take j))))]) (fun _ (_ : Unit) => []) c.length (fun _ _ => True) () trivial (by refine Wk.auto ?_ ?_<;>simp [extraK,lk,killL,St.kill,wipeO,wipeS,AV.has,AV.hasL,AO.wipe,List.map_set,updSt,insL,dropS,ins,List.take_zero,hz]) ?_
   rintro R2 j _ hN2 hE hj _
   by_cases hjt : j < c.length
   . have hej:=el_ints (xs:=c) hjt
     have h0:=ngI_nn (c.take j)
     have h1:=ngI_le (c.take j)
     have hsj : ngI (c.take (j + 1))=ngI (c.take j) + if c.getD j 0 < 0 then 1 else 0:=by rw [take_succ 0 c j hjt,ngI_app]
     rw [List.length_take] at h1
     generalize c.getD j 0=y at *
     generalize ngI (c.take j)=m at *
     by_cases hy : y < 0
     . rw [if_pos hy] at hsj
       simp (disch:=first | omega | decide +kernel) only [hej,go_sem,Qa,Qb,Qc,Qd,Qe,↓reduceIte,reduceCtorEq,Qf,Qg,Qh]
       (repeat' (first | ((first | (refine gsel_split (fun q' => ?_) (fun q' => ?_)<;>(have h':=q')<;>(try simp only [za1,za2,Ba,Bb,za3,ne_eq,za4,za5,za6,Ia,Ib,Ic,Ie,Da,Bc,Bh,Be,za7,za8] at h')) | (have q':=trivial; first | refine hE _ _ ret_ne ?_ | refine hE _ _ exit_ne ?_))<;>(try simp (disch:=first | omega | decide +kernel) only [q',hej,go_sem,Qa,Qb,Qc,Qd,Qe,↓reduceIte,reduceCtorEq,Qf,Qg,Qh])<;>clear q') | refine hN _ ?_ ?_ Wk.kk | with_reducible refine And.intro ?_ ?_ | with_reducible omega | exact ok_ints | exact cells_ints | exact no_mem | with_reducible exact plain_ints | (refine le_maxLen ?_; omega) | (refine za9 ⟨?_,?_⟩) | (simp only [go_sem,Qc,Qb,zb1,zb2,forall_eq]; done)))
       refine hN2 () _ hjt trivial (by refine Wk.auto ?_ ?_<;>simp [extraK,lk,killL,St.kill,wipeO,wipeS,AV.has,AV.hasL,AO.wipe,List.map_set,updSt,insL,dropS,ins,hsj])
     . rw [if_neg hy,Int.add_zero] at hsj
       simp (disch:=first | omega | decide +kernel) only [hej,go_sem,Qa,Qb,Qc,Qd,Qe,↓reduceIte,reduceCtorEq,Qf,Qg,Qh]
       (repeat' (first | ((first | (refine gsel_split (fun q' => ?_) (fun q' => ?_)<;>(have h':=q')<;>(try simp only [za1,za2,Ba,Bb,za3,ne_eq,za4,za5,za6,Ia,Ib,Ic,Ie,Da,Bc,Bh,Be,za7,za8] at h')) | (have q':=trivial; first | refine hE _ _ ret_ne ?_ | refine hE _ _ exit_ne ?_))<;>(try simp (disch:=first | omega | decide +kernel) only [q',hej,go_sem,Qa,Qb,Qc,Qd,Qe,↓reduceIte,reduceCtorEq,Qf,Qg,Qh])<;>clear q') | refine hN _ ?_ ?_ Wk.kk | with_reducible refine And.intro ?_ ?_ | with_reducible omega | exact ok_ints | exact cells_ints | exact no_mem | with_reducible exact plain_ints | (refine le_maxLen ?_; omega) | (refine za9 ⟨?_,?_⟩) | (simp only [go_sem,Qc,Qb,zb1,zb2,forall_eq]; done)))
       refine hN2 () _ hjt trivial (by refine Wk.auto ?_ ?_<;>simp [extraK,lk,killL,St.kill,wipeO,wipeS,AV.has,AV.hasL,AO.wipe,List.map_set,updSt,insL,dropS,ins,hsj])
   . obtain rfl : j=c.length:=by omega
     have hxp : xpB odd c=(decide (Int.tmod (ngI c) 2=0) == odd):=rfl
     rw [List.take_length] at *
     have h0:=ngI_nn c
     have h1:=ngI_le c
     generalize ngI c=m at *
     clear hN2
     simp (disch:=first | omega | decide +kernel) only [go_sem,Qa,Qb,Qc,Qd,Qe,↓reduceIte,reduceCtorEq,Qf,Qg,Qh]
     (repeat' (first | ((first | (refine gsel_split (fun q' => ?_) (fun q' => ?_)<;>(have h':=q')<;>(try simp only [za1,za2,Ba,Bb,za3,ne_eq,za4,za5,za6,Ia,Ib,Ic,Ie,Da,Bc,Bh,Be,za7,za8] at h')) | (have q':=trivial; first | refine hE _ _ ret_ne ?_ | refine hE _ _ exit_ne ?_))<;>(try simp (disch:=first | omega | decide +kernel) only [q',go_sem,Qa,Qb,Qc,Qd,Qe,↓reduceIte,reduceCtorEq,Qf,Qg,Qh])<;>clear q') | refine hN _ ?_ ?_ Wk.kk | with_reducible refine And.intro ?_ ?_ | with_reducible omega | exact ok_ints | exact cells_ints | exact no_mem | with_reducible exact plain_ints | (refine le_maxLen ?_; omega) | (refine za9 ⟨?_,?_⟩) | (simp only [go_sem,Qc,Qb,zb1,zb2,forall_eq]; done)))
     all_goals rw [hxp,show decide (m.tmod 2=0)=(m.tmod 2 == 0) from rfl] at hs
     . rw [if_pos (by rw [h']; exact beq_self_eq_true odd)] at hs
       rw [show (i : Int) + 1=((i + 1 : Nat) : Int) by omega]
       refine hN () _ hlt trivial ?_
       rw [hs]
       exact (by refine Wk.auto ?_ ?_<;>simp [extraK,lk,killL,St.kill,wipeO,wipeS,AV.has,AV.hasL,AO.wipe,List.map_set,updSt,insL,dropS,ins,D.ints,List.map_append,List.map_cons,List.map_nil])
     . rw [if_neg (by simpa using h'),List.append_nil] at hs
       rw [show (i : Int) + 1=((i + 1 : Nat) : Int) by omega]
       refine hN () _ hlt trivial ?_
       rw [hs]
       exact (by refine Wk.auto ?_ ?_<;>simp [extraK,lk,killL,St.kill,wipeO,wipeS,AV.has,AV.hasL,AO.wipe,List.map_set,updSt,insL,dropS,ins,])
 . obtain rfl : i=out.length:=by omega
   rw [List.take_length] at *
   simp (disch:=first | omega | decide +kernel) only [go_sem,Qa,Qb,Qc,Qd,Qe,↓reduceIte,reduceCtorEq,Qf,Qg,Qh]
   (repeat' (first | ((first | (refine gsel_split (fun q' => ?_) (fun q' => ?_)<;>(have h':=q')<;>(try simp only [za1,za2,Ba,Bb,za3,ne_eq,za4,za5,za6,Ia,Ib,Ic,Ie,Da,Bc,Bh,Be,za7,za8] at h')) | (have q':=trivial; first | refine hE _ _ ret_ne ?_ | refine hE _ _ exit_ne ?_))<;>(try simp (disch:=first | omega | decide +kernel) only [q',go_sem,Qa,Qb,Qc,Qd,Qe,↓reduceIte,reduceCtorEq,Qf,Qg,Qh])<;>clear q') | refine hN _ ?_ ?_ Wk.kk | with_reducible refine And.intro ?_ ?_ | with_reducible omega | exact ok_ints | exact cells_ints | exact no_mem | with_reducible exact plain_ints | (refine le_maxLen ?_; omega) | (refine za9 ⟨?_,?_⟩) | (simp only [go_sem,Qc,Qb,zb1,zb2,forall_eq]; done)))
   exact ret_s1 [5] rfl
end Abs.Y

namespace Abs
open Go Go.RowKit
def Z7c (P : Program) (N : Nat) (l : List Oper) (K : St->Prop) (st : St) : List (Oper × Nat)->List (Oper × Nat)->Nat->List Bool->List Oper->Prop
 | hs,ts,_,_,[] => HeadW P N l (fst7 hs) st (kH7 P N l hs ts K)
 | hs,ts,k,true :: cs,o :: r => Z7c P N l K st (hs++[(o,k)]) ts (k + 1) cs r
 | hs,ts,k,false :: cs,o :: r => Z7c P N l K st hs (ts++[(o,k)]) (k + 1) cs r
 | _,_,_,[],_ :: _ => False
@[go_sem] theorem Z7c_nil (P N l K st hs ts k cs) : Z7c P N l K st hs ts k cs []=HeadW P N l (fst7 hs) st (kH7 P N l hs ts K):=by cases cs<;>rfl
@[go_sem] theorem Z7c_in (P N l K st hs ts k cs o r) : Z7c P N l K st hs ts k (true :: cs) (o :: r)=Z7c P N l K st (hs++[(o,k)]) ts (k + 1) cs r:=rfl
@[go_sem] theorem Z7c_out (P N l K st hs ts k cs o r) : Z7c P N l K st hs ts k (false :: cs) (o :: r)=Z7c P N l K st hs (ts++[(o,k)]) (k + 1) cs r:=rfl
theorem Z7c_spec {P : Program} {N : Nat} {l : List Oper} {K : St->Prop} {st : St} : ∀ (r : List Oper) (pre cs : List Bool) (hs ts : List (Oper × Nat)),Z7c P N l K st hs ts pre.length cs r ->
 HeadW P N l (fst7 (hs++(r.zipIdx pre.length).filter fun p => (pre++cs).getD p.2 false)) st (kH7 P N l (hs++(r.zipIdx pre.length).filter fun p => (pre++cs).getD p.2 false) (ts++(r.zipIdx pre.length).filter fun p => !(pre++cs).getD p.2 false) K)
 | [],pre,cs,hs,ts,h => by rw [Z7c_nil] at h; simpa using h
 | o :: r,pre,[],hs,ts,h => h.elim
 | o :: r, pre, b :: cs, hs, ts, h => by
   have e : (pre++b :: cs).getD pre.length false=b:=by simp [List.getD_eq_getElem?_getD]
   have e2 : pre++b :: cs=(pre++[b])++cs:=by simp
   rw [List.zipIdx_cons]
   cases b with
   | true =>
     have:=Z7c_spec r (pre++[true]) cs (hs++[(o,pre.length)]) ts (by rw [Z7c_in] at h; simpa using h)
     rw [List.filter_cons_of_pos (by exact e),List.filter_cons_of_neg (by simp only [e]; simp)]
     rw [List.length_append,List.length_singleton,← e2] at this
     simpa only [List.append_assoc,List.singleton_append] using this
   | false =>
     have:=Z7c_spec r (pre++[false]) cs hs (ts++[(o,pre.length)]) (by rw [Z7c_out] at h; simpa using h)
     rw [List.filter_cons_of_neg (by simp only [e]; simp),List.filter_cons_of_pos (by simp only [e]; rfl)]
     rw [List.length_append,List.length_singleton,← e2] at this
     simpa only [List.append_assoc,List.singleton_append] using this
theorem Ok.reg7 {P : Program} {N id : Nat} {ops : Array Oper} {Q : Exit->St->Prop} {st : St} (cls : List Bool) (h7 : ok7 cls ops.toList=true) (h : Z7c P N ops.toList (Q .normal) st [] [] 0 cls ops.toList) : Ok P N (.region id ops true) Q st:=fun h1 h2 Z B M w0 a w hs => by
 have h' : headA P N ops.toList ((hs7 cls ops.toList).map (·.1)) st fun st' => tail7 P N ops.toList (hs7 cls ops.toList) (ts7 cls ops.toList) st' (Q .normal):=by
  have h:=Z7c_spec ops.toList [] cls [] [] h
  rw [HeadW_eq,← fst7_eq] at h
  have e : ∀ hs ts K,kH7 P N ops.toList hs ts K=fun S => tail7 P N ops.toList hs ts S K:=fun hs ts K => funext fun S => kT7_spec P N ops.toList hs ts K S
  rw [e] at h
  exact h
 obtain ⟨l⟩:=ops
 exact wp_drawn7 h2 h7 (fun st a w hs hk => ⟨st,hs,hk⟩) hs h'
end Abs

namespace Abs
open Go Go.RowKit
theorem Ok.seqJ {P : Program} {N : Nat} {x y : Code} {Q : Exit->St->Prop} {st : St} (Sc : St) (h1 : Ok P N y Q Sc) (h2 : Ok P N x (fun e s => (e=.normal∧Wk N s Sc)∨(e ≠ .normal∧Q e s)) st) : Ok P N (.seq x y) Q st :=
 Ok.seq (h2.mono fun e s h => by
  cases e with
  | normal =>
    rcases h with ⟨_,h⟩ | ⟨h,_⟩
    . exact Ok.weak h h1
    . exact absurd rfl h
  | _ =>
    rcases h with ⟨h,_⟩ | ⟨_,h⟩
    . cases h
    . exact h)
end Abs

namespace Abs
open Go Go.Proofs
end Abs
namespace Abs.Y
open Go Go.Proofs Abs
set_option maxRecDepth 100000

section
variable (g : List Int->List Int) (n : Nat)
def pvar (i j : Nat) : Int:=((i : Int) - 1) * n + j
def pRow (i : Nat) : Nat->List Int
 | 0 => []
 | j + 1 => pRow i j++[pvar n i (j + 1)]
def pA : Nat->List (List Int)
 | 0 => []
 | i + 1 => pA i++[g (pRow n (i + 1) n)]
def pK (j i : Nat) (l : List (List Int)) : Nat->List (List Int)
 | 0 => l
 | c + 1 => pK j i l c++[g [-(pvar n i j),-(pvar n (i + 1 + c) j)]]
def pI (j : Nat) (l : List (List Int)) : Nat->List (List Int)
 | 0 => l
 | c + 1 => pK g n j (c + 1) (pI j l c) (n - c)
def pJ : Nat->List (List Int)
 | 0 => pA g n (n + 1)
 | c + 1 => pI g n (c + 1) (pJ c) (n + 1)
def fM (i j : Nat) (l : List (List Int)) : Nat->List (List Int)
 | 0 => l
 | c + 1 => fM i j l c++[g [-(pvar n i j),-(pvar n i (j + 1 + c))]]
def fJ (i : Nat) (l : List (List Int)) : Nat->List (List Int)
 | 0 => l
 | c + 1 => fM g n i (c + 1) (fJ i l c) (n - (c + 1))
def fI (l : List (List Int)) : Nat->List (List Int)
 | 0 => l
 | c + 1 => fJ g n (c + 1) (fI l c) n
def oRow (j : Nat) : Nat->List Int
 | 0 => []
 | i + 1 => oRow j i++[pvar n (i + 1) j]
def oJ (l : List (List Int)) : Nat->List (List Int)
 | 0 => l
 | c + 1 => oJ l c++[oRow n (c + 1) (n + 1)]
end
def cnfS (n : Nat) : List (List Int):=pJ id n n
def funS (n : Nat) : List (List Int):=fI id n (cnfS n) (n + 1)
def ontoS (n : Nat) : List (List Int):=oJ n (funS n) n
end Abs.Y

namespace Abs.Y
open Go Go.Proofs Abs
set_option maxRecDepth 100000

def mustI (xs : List Int) : List Int:=optL (clauseI xs)
@[reducible] def fmB (v : Int) (k : Nat) : AO:=.box 61 [.d (.int .i64 v),.sl k]
@[reducible] def fmT (L : List (List Int)) : AO:=.dp (some (25,1)) (L.map D.ints) none
def cnfI (n : Nat) : List (List Int):=pJ mustI n n
end Abs.Y
