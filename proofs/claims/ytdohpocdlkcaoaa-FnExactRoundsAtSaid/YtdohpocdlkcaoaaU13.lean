/- What functions of this program compute, over plain data. No condition. -/
import Derived.Test.YtdohpocdlkcaoaaU14
set_option linter.all false
namespace Abs
open Go Go.RowKit
theorem Ok.seqAt {P : Program} {N : Nat} {x y : Code} {Q : Exit->St->Prop} {st : St} (Sc : St) (h1 : Ok P N y Q Sc) (h2 : Ok P N x (fun e s => (e=.normal∧Wk N s Sc)∨(e ≠ .normal∧Q e s)) st) : Ok P N (.seq x y) Q st :=
 Ok.seq (h2.mono fun e s h => by
  cases e with
  | normal =>
    rcases h with ⟨_,h⟩ | ⟨h,_⟩
    . exact Ok.weak h h1
    . exact absurd rfl h
  | _ =>
    rcases h with ⟨h,_⟩ | ⟨_,h⟩
    . cases h
    . exact h)
theorem Ctr.data2 {P : Program} {f : FuncId} {xs : List D} {sh : Bool} {e : TypeId} {k : Nat} {es : List D} {y : D} (h : Ctr P f xs sh (.tup [.sl 0,.d y]) [(0,.arr e k es)]) : Ctr P f xs true (.d (.tup [.slice es,y])) []:=by
 refine ⟨h.1,fun S w vs hl hr => (h.2 S w vs hl hr).mono fun en w' ⟨v,he,hf,β,φ,hrel,hobj,hown,hdis⟩ => ⟨v,he,hf,β,φ,.d ?_,by simp [lk],by simp [lk],by simp [lk]⟩⟩
 cases hrel with
 | tup hl2 hr2 =>
   rename_i vs2
   refine .tup (by simpa using hl2) fun i hi => ?_
   match i,hi with
   | 0, _ =>
     have h0:=hr2 0 (by simp)
     simp only [List.getD_cons_zero] at h0 ⊢
     generalize vs2.getD 0 Go.undef=x at *
     cases h0
     exact rd_of_arr (hobj 0 (.arr e k es) (by simp [lk])) (fun g hg _ => ⟨hg.1.imp id fun h => ⟨trivial,h.2⟩,by simp [lk]⟩) fun g hg => ⟨.inl (hown 0 (.arr e k es) g (by simp [lk]) hg),by simp [lk]⟩
   | 1, _ =>
     have h1:=hr2 1 (by simp)
     simp only [List.getD_cons_zero,List.getD_cons_succ] at h1 ⊢
     generalize vs2.getD 1 Go.undef=x at *
     cases h1 with
     | d h1 => exact h1.weaken fun g hg => ⟨hg.1.imp id fun h => ⟨trivial,h.2⟩,by simp [lk]⟩
theorem retM_wrk {P : Program} {a j u : Nat} {t e : TypeId} {cells cs' : List AV} {y : D} {w : Nat->Value} {st : St} {oo : List (Nat × AO)} (κ : Nat->Nat) (h : lk a st.s=some (.p j 0)) (h' : lk u st.s=some (.d y)) (hj : lk j st.o=some (.box e cells)) (hag : aggT P t=true) (hn : P.cellsOf t=cells.length) (hd : allD cells=none)
 (hu : (P.underlying t).isSome=true) (hc : cells=AV.renL κ cs') (ho : ∀ p ∈ oo,lk (κ p.1) st.o=some (p.2.ren κ)) (hi : ∀ p ∈ oo,∀ q ∈ oo,κ p.1=κ q.1->p.1=q.1) : retM P [.cell a t,.tmp u] w [] true (.tup [.st cs',.d y]) oo .ret st:=by
 have hl : (lk a st.s).bind (loadV P st.o t)=some (0 + P.cellsOf t<=cells.length∧(P.underlying t).isSome=true,.st cells):=by
  rw [h,Option.bind_some,loadV,hj]
  simp only [hag,if_true,List.drop_zero,hn,List.take_length,hd]
 simp only [retM,resV,hl,h']
 exact ⟨⟨hu,⟨by omega,hu⟩,trivial⟩,⟨κ,by simp only [oneOf,AV.ren,AV.renL,hc],ho,hi,trivial⟩,.inl trivial⟩
end Abs
namespace Abs.Y
open Go Go.Proofs Abs
open Nat renaming reduceEqDiff -> Qa, reduceLT -> Qb, reduceAdd -> Qc, reduceMul -> Qd, reduceSub -> Qe, reduceLeDiff -> Qf, reduceSubDiff -> Qg, reduceBEq -> Qh
open Bool renaming not_eq_true' -> Ba, not_eq_false' -> Bb, and_eq_true -> Bc, or_eq_true -> Bd, or_eq_false_iff -> Be
open Int renaming ofNat_lt -> Ia, ofNat_le -> Ib, not_lt -> Ic, not_le -> Ie
open Decidable renaming not_not -> Da
set_option maxRecDepth 100000
set_option pp.maxSteps 1000000
set_option pp.deepTerms true

@[reducible] def wrkV (so : List (List Int)) : AV:=.st [.sl 600000005,.sl 600000004,.sl 600000003,.sl 600000002,.sl 600000001,.d (.slice (so.map D.ints))]
@[reducible] def wrkO (w : Wrk) : List (Nat × AO):=[(600000005,.arr 38 1 (w.list.map D.ints)),(600000004,.arr 3 1 (w.rd.map (.int .i64))),(600000003,.arr 3 1 (w.lf.map (.int .i64))),(600000002,.arr 3 1 (w.rt.map (.int .i64))),(600000001,.arr 3 1 (w.pv.map (.int .i64)))]
@[reducible] def wrkV0 (so : List (List Int)) : AV:=.st [.sl 4,.sl 3,.sl 2,.sl 1,.sl 0,.d (.slice (so.map D.ints))]
@[reducible] def wrkO0 (w : Wrk) : List (Nat × AO):=[(4,.arr 38 1 (w.list.map D.ints)),(3,.arr 3 1 (w.rd.map (.int .i64))),(2,.arr 3 1 (w.lf.map (.int .i64))),(1,.arr 3 1 (w.rt.map (.int .i64))),(0,.arr 3 1 (w.pv.map (.int .i64)))]
@[reducible] def fB (e : TypeId) (f : Fnd) : AO:=.box e [.d (.slice []),.d (.slice []),.d (.slice (f.lf.map (.int .i64))),.d (.slice (f.rt.map (.int .i64))),.d (.slice (f.pv.map (.int .i64))),.d (.slice (f.so.map D.ints))]
theorem nil6 {e : TypeId} : ∀ β S w v F,OK β S w (.box e [.nilS,.nilS,.nilS,.nilS,.nilS,.nilS]) v F->OK β S w (fB e ⟨[],[],[],[]⟩) v F:=fun β S w v F h => by
 have key : ∀ y,Rel β S w .nilS y->Rel β S w (.d (.slice [])) y:=fun y h => by cases h; exact .d (.nil _)
 cases h with
 | box hF xs hv hw hr =>
   refine .box hF xs hv hw fun i hi => ?_
   have:=hr i hi
   match i,hi with
   | 0,_ => exact key _ this
   | 1,_ => exact key _ this
   | 2,_ => exact key _ this
   | 3,_ => exact key _ this
   | 4,_ => exact key _ this
   | 5,_ => exact key _ this
set_option maxHeartbeats 16000000 in
theorem l10Round_ok (w : Wrk) (width vars round : Nat) (hw : WOK w) (hv : vars<=6) (hwd : width<=6) (hr : 1<=round∧round<=5000) :
 CtrM Try.prog 164 [.d (.int .i64 (vars : Nat)),wrkV0 w.so,.d (.int .i64 (width : Nat)),.d (.int .i64 (round : Nat))] (wrkO0 w) [] true
  (.tup [wrkV0 (roundI w width vars round).so,.d (.bool (decide ((0 : Int) < ((fndR w width vars round).so.length : Nat))))]) (wrkO0 (roundI w width vars round)):=by
 have hll:=hw.len
 have c1:=l10Order_ok w (fun x hx => g6_sm (hw.g6 x hx)) hw.nd (by omega) (fun x hx => by have:=g6_len (hw.g6 x hx); omega)
 refine CtrR.eq ?_
 refine CtrR.ofO (n:=218) (rs:=[.cell 8 88,.tmp 9]) Try.func164 rfl rfl Try.ntmps164 rfl rfl (by kernel_rfl) Try.checked.mixed ?_; intro u
 refine Ok.weak ((Wk.swp 4 600000005).trans ((Wk.swp 3 600000004).trans ((Wk.swp 2 600000003).trans ((Wk.swp 1 600000002).trans (Wk.swp 0 600000001))))) ?_
 simp (disch:=first | omega | decide +kernel) only [swpS,swpO,swp,AV.ren,AV.renL,AO.ren,wrkO0,go_sem,Qa,Qb,Qc,Qd,Qe,↓reduceIte,reduceCtorEq,Qf,Qg,Qh]
 refine Ok.seq (Ok.go ?_)
 simp (disch:=first | omega | decide +kernel) only [go_sem,Qa,Qb,Qc,Qd,Qe,↓reduceIte,reduceCtorEq,Qf,Qg,Qh]
 refine Ok.seq (Ok.go ?_)
 simp (disch:=first | omega | decide +kernel) only [go_sem,Qa,Qb,Qc,Qd,Qe,↓reduceIte,reduceCtorEq,Qf,Qg,Qh]
 (repeat' (first | ((first | (refine gsel_split (fun q' => ?_) (fun q' => ?_)<;>(have h':=q')<;>(try simp only [za1,za2,Ba,Bb,za3,ne_eq,za4,za5,za6,Ia,Ib,Ic,Ie,Da,Bc,Bd,Be,za7,za8] at h')) | (have q':=trivial; first | refine callX_new (c1) rfl (by decide) ?_ | refine callY_new (c1) rfl ?_ | refine hE _ _ ret_ne ?_ | refine hE _ _ exit_ne ?_))<;>(try simp (disch:=first | omega | decide +kernel) only [q',go_sem,Qa,Qb,Qc,Qd,Qe,↓reduceIte,reduceCtorEq,Qf,Qg,Qh])<;>clear q') | refine hN _ ?_ ?_ Wk.kk | with_reducible refine And.intro ?_ ?_ | with_reducible omega | exact ok_ints | exact cells_ints | exact no_mem | with_reducible exact plain_ints | (refine le_maxLen ?_; omega) | (refine za9 ⟨?_,?_⟩) | (simp only [go_sem,Qc,Qb,zb1,zb2,forall_eq]; done)))
 refine Ok.weak (Wk.frz (j:=2100000) rfl) ?_
 simp (disch:=first | omega | decide +kernel) only [St.frz,frzS,frzO,AV.frz,AV.frzL,AO.frz,go_sem,Qa,Qb,Qc,Qd,Qe,↓reduceIte,reduceCtorEq,Qf,Qg,Qh]
 refine Ok.weak (Wk.obj 11 rfl nil6) ?_
 simp (disch:=first | omega | decide +kernel) only [ins,go_sem,Qa,Qb,Qc,Qd,Qe,↓reduceIte,reduceCtorEq,Qf,Qg,Qh]
 refine Ok.seq (Ok.seq (Ok.go ?_))
 simp (disch:=first | omega | decide +kernel) only [go_sem,Qa,Qb,Qc,Qd,Qe,↓reduceIte,reduceCtorEq,Qf,Qg,Qh]
 refine Ok.block ?_
 refine Ok.loopNO [217,216,215,214,213,212,211,210,209,208,207,206,205,204,203,202,201,200,199,198,197,196,195,194,193,192,191,190,189,188,187,186,185,184,183,182,181,180,179,178,177,176,175,174,173,172,171,170,169,168,167,166,165,164,163,162,161,160,159,158,157,156,155,154,153,152,151,150,149,148,147,146,145,144,143,142,141,140,139,138,137,136,135,134,133,132,131,130,129,128,127,126,125,124,123,122,121,120,119,118,117,116,115,114,113,112,111,110,109,108,107,106,105,104,103,102,101,100,99,98,97,96,95,94,93,92,91,90,89,88,87,86,85,84,83,82,81,80,79,78,77,76,75,74,73,72,71,70,69,68,67,66,65,64,63,62,61,60,59,58,57,56,55,54,53,52,51,50,49,48,47,46,45,44,43,42,41,40,39,38,37,36,35,34,33,32,31,30,29,28,27,26,25,24,23,22,21,20,19,18,17,16,15,14,13,12,9,7,6,4,1] (fun a (_ : Fnd) => [(12,.d (.int .i64 (a : Nat)))]) (fun _ (f : Fnd) => [(11,fB 88 f)]) (ordI w.list w.list.length).length
  (fun a f => f=fndA w width vars round (ordI w.list w.list.length) a) ⟨[],[],[],[]⟩ rfl (by refine Wk.auto ?_ ?_<;>simp [extraK,lk,killL,St.kill,wipeO,wipeS,AV.has,AV.hasL,AO.wipe,List.map_set,updSt,insL,dropS,ins,]) ?_
 have hon:=ord_len (i:=w.list.length) (fun x hx => g6_sm (hw.g6 x hx)) hw.nd (Nat.le_refl _)
 have hob : ∀ j ∈ ordI w.list w.list.length,j < w.list.length:=fun j hj => by
  have:=(ord_all (fun x hx => g6_sm (hw.g6 x hx)) hw.nd w.list.length (Nat.le_refl _)).2.mem_iff.1 hj
  simpa using this
 generalize hO : ordI w.list w.list.length=o at *
 have heo : ∀ j,j < o.length->el (iN o) j=.int .i64 (o.getD j 0 : Nat):=fun j hj => el_map (f:=fun j : Nat => D.int .i64 (j : Nat)) 0 hj
 rintro R a f hN hE ha hf
 have hfo : FOK f:=hf ▸ FOK.stepA hw.getD a
 by_cases hlt : a < o.length
 . refine Ok.seq (Ok.go ?_)
   simp (disch:=first | omega | decide +kernel) only [List.length_map,go_sem,Qa,Qb,Qc,Qd,Qe,↓reduceIte,reduceCtorEq,Qf,Qg,Qh]
   (repeat' (first | ((first | (refine gsel_split (fun q' => ?_) (fun q' => ?_)<;>(have h':=q')<;>(try simp only [za1,za2,Ba,Bb,za3,ne_eq,za4,za5,za6,Ia,Ib,Ic,Ie,Da,Bc,Bd,Be,za7,za8] at h')<;>try (exfalso; omega)) | (have q':=trivial; first | refine hE _ _ ret_ne ?_ | refine hE _ _ exit_ne ?_))<;>(try simp (disch:=first | omega | decide +kernel) only [q',List.length_map,go_sem,Qa,Qb,Qc,Qd,Qe,↓reduceIte,reduceCtorEq,Qf,Qg,Qh])<;>clear q') | refine hN _ ?_ ?_ Wk.kk | with_reducible refine And.intro ?_ ?_ | with_reducible omega | exact ok_ints | exact cells_ints | exact no_mem | with_reducible exact plain_ints | (refine le_maxLen ?_; omega) | (refine za9 ⟨?_,?_⟩) | (simp only [go_sem,Qc,Qb,zb1,zb2,forall_eq]; done)))
   refine Ok.seq (Ok.block (Ok.seq (Ok.go ?_)))
   simp (disch:=first | omega | decide +kernel) only [go_sem,Qa,Qb,Qc,Qd,Qe,↓reduceIte,reduceCtorEq,Qf,Qg,Qh]
   refine Ok.block ?_
   refine Ok.loopNO [217,216,215,214,213,212,211,210,209,208,207,206,205,204,203,202,201,200,199,198,197,196,195,194,193,192,191,190,189,188,187,186,185,184,183,182,181,180,179,178,177,176,175,174,173,172,171,170,169,168,167,166,165,164,163,162,161,160,159,158,157,156,155,154,153,152,151,150,149,148,147,146,145,144,143,142,141,140,139,138,137,136,135,134,133,132,131,130,129,128,127,126,125,124,123,122,121,120,119,118,117,116,115,114,113,112,111,110,109,108,107,106,105,104,103,102,101,100,99,98,97,96,95,94,93,92,91,90,89,88,87,86,85,84,83,82,81,80,79,78,77,76,75,74,73,72,71,70,69,68,67,66,65,64,63,62,61,60,59,58,57,56,55,54,53,52,51,50,49,48,47,46,45,44,43,42,41,40,39,38,37,36,35,34,33,32,31,30,29,28,27,26,25,24,23,22,21,20,19,18,17,16,15,14,13,9,7,6,4,1] (fun b (_ : Fnd) => [(13,.d (.int .i64 (b : Nat)))]) (fun _ (f : Fnd) => [(11,fB 88 f)]) o.length
    (fun b g => g=fndB w width vars round o (o.getD a 0) f b) f rfl (by refine Wk.auto ?_ ?_<;>simp [extraK,lk,killL,St.kill,wipeO,wipeS,AV.has,AV.hasL,AO.wipe,List.map_set,updSt,insL,dropS,ins,]) ?_
   rintro R2 b g hN2 hE2 hb hg
   have hgo : FOK g:=hg ▸ FOK.stepB hw.getD hfo _ b
   by_cases hlt2 : b < o.length
   . refine Ok.seq (Ok.go ?_)
     simp (disch:=first | omega | decide +kernel) only [List.length_map,go_sem,Qa,Qb,Qc,Qd,Qe,↓reduceIte,reduceCtorEq,Qf,Qg,Qh]
     (repeat' (first | ((first | (refine gsel_split (fun q' => ?_) (fun q' => ?_)<;>(have h':=q')<;>(try simp only [za1,za2,Ba,Bb,za3,ne_eq,za4,za5,za6,Ia,Ib,Ic,Ie,Da,Bc,Bd,Be,za7,za8] at h')<;>try (exfalso; omega)) | (have q':=trivial; first | refine hE _ _ ret_ne ?_ | refine hE _ _ exit_ne ?_))<;>(try simp (disch:=first | omega | decide +kernel) only [q',List.length_map,go_sem,Qa,Qb,Qc,Qd,Qe,↓reduceIte,reduceCtorEq,Qf,Qg,Qh])<;>clear q') | refine hN _ ?_ ?_ Wk.kk | with_reducible refine And.intro ?_ ?_ | with_reducible omega | exact ok_ints | exact cells_ints | exact no_mem | with_reducible exact plain_ints | (refine le_maxLen ?_; omega) | (refine za9 ⟨?_,?_⟩) | (simp only [go_sem,Qc,Qb,zb1,zb2,forall_eq]; done)))
     refine Ok.seq (Ok.block ?_)
     have hia : o.getD a 0 < w.list.length:=hob _ (getD_mem hlt)
     have hib : o.getD b 0 < w.list.length:=hob _ (getD_mem hlt2)
     have e1:=heo a hlt
     have e2:=heo b hlt2
     have hna : fndA w width vars round o (a + 1)=fndB w width vars round o (o.getD a 0) f o.length:=by rw [fndA,← hf]
     have hnb : fndB w width vars round o (o.getD a 0) f (b + 1)=if oldW w round (o.getD a 0) && oldW w round (o.getD b 0) then g else fndV w width (o.getD a 0) (o.getD b 0) g vars:=by rw [fndB,← hg]
     have t1 : ((o.getD a 0 : Nat) : Int).toNat=o.getD a 0:=Int.toNat_natCast _
     have t2 : ((o.getD b 0 : Nat) : Int).toNat=o.getD b 0:=Int.toNat_natCast _
     have r1 : el (w.rd.map (.int .i64)) (o.getD a 0)=.int .i64 (w.rd.getD (o.getD a 0) 0):=el_ints (by have:=hw.rd; omega)
     have r2 : el (w.rd.map (.int .i64)) (o.getD b 0)=.int .i64 (w.rd.getD (o.getD b 0) 0):=el_ints (by have:=hw.rd; omega)
     have hrl:=hw.rd
     have hwr : (round : Int) - 1=((round - 1 : Nat) : Int):=by omega
     by_cases hold : w.rd.getD (o.getD a 0) 0 < (round : Int) - 1∧w.rd.getD (o.getD b 0) 0 < (round : Int) - 1
     . rw [if_pos (by simp only [oldW,Bc,decide_eq_true_eq]; exact hold)] at hnb
       refine Ok.seq (Ok.go ?_)
       simp (disch:=first | omega | decide +kernel) only [e1,e2,r1,r2,t1,t2,List.length_map,go_sem,Qa,Qb,Qc,Qd,Qe,↓reduceIte,reduceCtorEq,Qf,Qg,Qh]
       (repeat' (first | ((first | (refine gsel_split (fun q' => ?_) (fun q' => ?_)<;>(have h':=q')<;>(try simp only [za1,za2,Ba,Bb,za3,ne_eq,za4,za5,za6,Ia,Ib,Ic,Ie,Da,Bc,Bd,Be,za7,za8] at h')<;>try (exfalso; omega)) | (have q':=trivial; first | refine hE _ _ ret_ne ?_ | refine hE _ _ exit_ne ?_))<;>(try simp (disch:=first | omega | decide +kernel) only [q',e1,e2,r1,r2,t1,t2,List.length_map,go_sem,Qa,Qb,Qc,Qd,Qe,↓reduceIte,reduceCtorEq,Qf,Qg,Qh])<;>clear q') | refine hN _ ?_ ?_ Wk.kk | with_reducible refine And.intro ?_ ?_ | with_reducible omega | exact ok_ints | exact cells_ints | exact no_mem | with_reducible exact plain_ints | (refine le_maxLen ?_; omega) | (refine za9 ⟨?_,?_⟩) | (simp only [go_sem,Qc,Qb,zb1,zb2,forall_eq]; done)))
       refine Ok.go ?_
       simp (disch:=first | omega | decide +kernel) only [go_sem,Qa,Qb,Qc,Qd,Qe,↓reduceIte,reduceCtorEq,Qf,Qg,Qh]
       rw [show (b : Int) + 1=((b + 1 : Nat) : Int) by omega]
       exact hN2 g _ hlt2 hnb.symm (by refine Wk.auto ?_ ?_<;>simp [extraK,lk,killL,St.kill,wipeO,wipeS,AV.has,AV.hasL,AO.wipe,List.map_set,updSt,insL,dropS,ins,])
     . rw [if_neg (by simp only [oldW,Bc,decide_eq_true_eq]; exact hold)] at hnb
       refine Ok.seqAt ⟨[(13,.d (.int .i64 (b : Nat))),(12,.d (.int .i64 (a : Nat))),(11,.p 11 0),(10,.d (.slice (iN o))),(8,.p 8 0),(5,.p 5 0),(3,.d (.int .i64 (round : Nat))),(2,.d (.int .i64 (width : Nat))),(0,.d (.int .i64 (vars : Nat)))],
        wrkO w++[(11,fB 88 g),(8,fB 88 ⟨[],[],[],[]⟩),(5,.box 88 [.sl 600000005,.sl 600000004,.sl 600000003,.sl 600000002,.sl 600000001,.d (.slice (w.so.map D.ints))])]⟩ ?_ ?_
       . have hgV : ∀ v,FOK (fndV w width (o.getD a 0) (o.getD b 0) g v):=fun v => FOK.stepV hw.getD hgo _ _ v
         refine Ok.seq (Ok.go ?_)
         simp (disch:=first | omega | decide +kernel) only [go_sem,Qa,Qb,Qc,Qd,Qe,↓reduceIte,reduceCtorEq,Qf,Qg,Qh]
         refine Ok.block ?_
         refine Ok.loopNO [217,216,215,214,213,212,211,210,209,208,207,206,205,204,203,202,201,200,199,198,197,196,195,194,193,192,191,190,189,188,187,186,185,184,183,182,181,180,179,178,177,176,175,174,173,172,171,170,169,168,167,166,165,164,163,162,161,160,159,158,157,156,155,154,153,152,151,150,149,148,147,146,145,144,143,142,141,140,139,138,137,136,135,134,133,132,131,130,129,128,127,126,125,124,123,122,121,120,119,118,117,116,115,114,113,112,111,110,109,108,107,106,105,104,103,102,101,100,99,98,97,96,95,94,93,92,91,90,89,88,87,86,85,84,83,82,81,80,79,78,77,76,75,74,73,72,71,70,69,68,67,66,65,64,63,62,61,60,59,58,57,56,55,54,53,52,51,50,49,48,47,46,45,44,43,42,41,40,39,38,37,36,35,34,33,32,31,30,29,28,27,26,25,24,23,22,21,20,19,18,17,16,15,14,9,7,6,4,1] (fun v (_ : Fnd) => [(14,.d (.int .i64 (1 + (v : Nat))))]) (fun _ (f : Fnd) => [(11,fB 88 f)]) vars
          (fun v h => h=fndV w width (o.getD a 0) (o.getD b 0) g v) g rfl (by refine Wk.auto ?_ ?_<;>simp [extraK,lk,killL,St.kill,wipeO,wipeS,AV.has,AV.hasL,AO.wipe,List.map_set,updSt,insL,dropS,ins,]) ?_
         rintro R3 v h hN3 hE3 hv3 hh
         have hho : FOK h:=hh ▸ hgV v
         by_cases hlt3 : v < vars
         . refine Ok.seq (Ok.go ?_)
           simp (disch:=first | omega | decide +kernel) only [List.length_map,go_sem,Qa,Qb,Qc,Qd,Qe,↓reduceIte,reduceCtorEq,Qf,Qg,Qh]
           (repeat' (first | ((first | (refine gsel_split (fun q' => ?_) (fun q' => ?_)<;>(have h':=q')<;>(try simp only [za1,za2,Ba,Bb,za3,ne_eq,za4,za5,za6,Ia,Ib,Ic,Ie,Da,Bc,Bd,Be,za7,za8] at h')<;>try (exfalso; omega)) | (have q':=trivial; first | refine hE _ _ ret_ne ?_ | refine hE _ _ exit_ne ?_))<;>(try simp (disch:=first | omega | decide +kernel) only [q',List.length_map,go_sem,Qa,Qb,Qc,Qd,Qe,↓reduceIte,reduceCtorEq,Qf,Qg,Qh])<;>clear q') | refine hN _ ?_ ?_ Wk.kk | with_reducible refine And.intro ?_ ?_ | with_reducible omega | exact ok_ints | exact cells_ints | exact no_mem | with_reducible exact plain_ints | (refine le_maxLen ?_; omega) | (refine za9 ⟨?_,?_⟩) | (simp only [go_sem,Qc,Qb,zb1,zb2,forall_eq]; done)))
           refine Ok.seq (Ok.block ?_)
           have ga:=hw.getD (o.getD a 0)
           have gb:=hw.getD (o.getD b 0)
           have l1 : el (w.list.map D.ints) (o.getD a 0)=D.ints (w.list.getD (o.getD a 0) []):=el_map (f:=D.ints) [] hia
           have l2 : el (w.list.map D.ints) (o.getD b 0)=D.ints (w.list.getD (o.getD b 0) []):=el_map (f:=D.ints) [] hib
           have c2:=(l2Resolve_ok (w.list.getD (o.getD a 0) []) (w.list.getD (o.getD b 0) []) (1 + (v : Nat)) (by have:=g6_len ga; omega) (by have:=g6_len gb; omega)).data2
           have hstep : fndV w width (o.getD a 0) (o.getD b 0) g (v + 1)=fndS w width (o.getD a 0) (o.getD b 0) h (v + 1):=by rw [fndV,← hh]
           refine Ok.seq (Ok.go ?_)
           simp (disch:=first | omega | decide +kernel) only [e1,e2,t1,t2,l1,l2,List.length_map,D.ints,go_sem,Qa,Qb,Qc,Qd,Qe,↓reduceIte,reduceCtorEq,Qf,Qg,Qh]
           have hvc : (1 + (v : Int))=((v + 1 : Nat) : Int):=by omega
           cases hcr : resolveI (w.list.getD (o.getD a 0) []) (w.list.getD (o.getD b 0) []) (1 + (v : Int)) with
           | none =>
             have hnx : fndV w width (o.getD a 0) (o.getD b 0) g (v + 1)=h:=by rw [hstep,fndS,← hvc,hcr]
             rw [hcr] at c2
             simp only [Option.isSome_none,optL] at c2
             (repeat' (first | ((first | (refine gsel_split (fun q' => ?_) (fun q' => ?_)<;>(have h':=q')<;>(try simp only [za1,za2,Ba,Bb,za3,ne_eq,za4,za5,za6,Ia,Ib,Ic,Ie,Da,Bc,Bd,Be,za7,za8] at h')<;>try (exfalso; omega)) | (have q':=trivial; first | refine callX_shared (c2) rfl (by decide) ?_ | refine callY_shared (c2) rfl ?_ | refine hE _ _ ret_ne ?_ | refine hE _ _ exit_ne ?_))<;>(try simp (disch:=first | omega | decide +kernel) only [q',e1,e2,t1,t2,l1,l2,List.length_map,D.ints,go_sem,Qa,Qb,Qc,Qd,Qe,↓reduceIte,reduceCtorEq,Qf,Qg,Qh])<;>clear q') | refine hN _ ?_ ?_ Wk.kk | with_reducible refine And.intro ?_ ?_ | with_reducible omega | exact ok_ints | exact cells_ints | exact no_mem | with_reducible exact plain_ints | (refine le_maxLen ?_; omega) | (refine za9 ⟨?_,?_⟩) | (simp only [go_sem,Qc,Qb,zb1,zb2,forall_eq]; done)))
             refine Ok.seq (Ok.go ?_)
             simp (disch:=first | omega | decide +kernel) only [go_sem,Qa,Qb,Qc,Qd,Qe,↓reduceIte,reduceCtorEq,Qf,Qg,Qh]
             (repeat' (first | ((first | (refine gsel_split (fun q' => ?_) (fun q' => ?_)<;>(have h':=q')<;>(try simp only [za1,za2,Ba,Bb,za3,ne_eq,za4,za5,za6,Ia,Ib,Ic,Ie,Da,Bc,Bd,Be,za7,za8] at h')<;>try (exfalso; omega)) | (have q':=trivial; first | refine hE _ _ ret_ne ?_ | refine hE _ _ exit_ne ?_))<;>(try simp (disch:=first | omega | decide +kernel) only [q',go_sem,Qa,Qb,Qc,Qd,Qe,↓reduceIte,reduceCtorEq,Qf,Qg,Qh])<;>clear q') | refine hN _ ?_ ?_ Wk.kk | with_reducible refine And.intro ?_ ?_ | with_reducible omega | exact ok_ints | exact cells_ints | exact no_mem | with_reducible exact plain_ints | (refine le_maxLen ?_; omega) | (refine za9 ⟨?_,?_⟩) | (simp only [go_sem,Qc,Qb,zb1,zb2,forall_eq]; done)))
             refine Ok.go ?_
             simp (disch:=first | omega | decide +kernel) only [go_sem,Qa,Qb,Qc,Qd,Qe,↓reduceIte,reduceCtorEq,Qf,Qg,Qh]
             rw [show (1 + (v : Int) + 1)=1 + ((v + 1 : Nat) : Int) by omega]
             exact hN3 h _ hlt3 hnx.symm (by refine Wk.auto ?_ ?_<;>simp [extraK,lk,killL,St.kill,wipeO,wipeS,AV.has,AV.hasL,AO.wipe,List.map_set,updSt,insL,dropS,ins,])
           | some c =>
             have gc : G6 c:=(resolveI_some ga gb (by omega) hcr).2.2.2.1
             have gl:=g6_len gc
             rw [hcr] at c2
             simp only [Option.isSome_some,optL] at c2
             have cA:=l2At_ok w.so c (by have:=srt_len hw.so (fun x hx => hw.g6 x ((hw.mem x).1 hx)); omega) (by omega) (g6_sm gc) (fun x hx => by have:=g6_len (hw.g6 x ((hw.mem x).1 hx)); omega) hw.so
             have cB:=l2At_ok h.so c (by have:=srt_len hho.so hho.g6; omega) (by omega) (g6_sm gc) (fun x hx => by have:=g6_len (hho.g6 x hx); omega) hho.so
             have mA:=decide_eq_decide.1 (atI_mem hw.so (g6_sm gc))
             have mB:=decide_eq_decide.1 (atI_mem hho.so (g6_sm gc))
             have hSl:=srt_len hho.so hho.g6
             have hfs : fndV w width (o.getD a 0) (o.getD b 0) g (v + 1)=if c.length<=width∧c ∉ w.so∧c ∉ h.so then ⟨insI h.so c,insAt h.lf (plI h.so c) (o.getD a 0),insAt h.rt (plI h.so c) (o.getD b 0),insAt h.pv (plI h.so c) (1 + (v : Int))⟩ else h:=by rw [hstep,fndS,← hvc,hcr]
             generalize resolveI (w.list.getD (o.getD a 0) []) (w.list.getD (o.getD b 0) []) (1 + (v : Int))=rc at *
             (repeat' (first | ((first | (refine gsel_split (fun q' => ?_) (fun q' => ?_)<;>(have h':=q')<;>(try simp only [za1,za2,Ba,Bb,za3,ne_eq,za4,za5,za6,Ia,Ib,Ic,Ie,Da,Bc,Bd,Be,za7,za8] at h')<;>try (exfalso; omega)) | (have q':=trivial; first | refine callX_shared (c2) rfl (by decide) ?_ | refine callY_shared (c2) rfl ?_ | refine hE _ _ ret_ne ?_ | refine hE _ _ exit_ne ?_))<;>(try simp (disch:=first | omega | decide +kernel) only [q',e1,e2,t1,t2,l1,l2,List.length_map,D.ints,go_sem,Qa,Qb,Qc,Qd,Qe,↓reduceIte,reduceCtorEq,Qf,Qg,Qh])<;>clear q') | refine hN _ ?_ ?_ Wk.kk | with_reducible refine And.intro ?_ ?_ | with_reducible omega | exact ok_ints | exact cells_ints | exact no_mem | with_reducible exact plain_ints | (refine le_maxLen ?_; omega) | (refine za9 ⟨?_,?_⟩) | (simp only [go_sem,Qc,Qb,zb1,zb2,forall_eq]; done)))
             by_cases hif : c.length<=width∧c ∉ w.so∧c ∉ h.so
             . rw [if_pos hif] at hfs
               rw [← mA,← mB] at hif
               have hat:=plI_at hho.so (g6_sm gc)
               have hpk:=pl_le h.so c
               have cP:=l2Place_ok h.so c (plI h.so c) (by omega) (by omega) (g6_sm gc) (fun x hx => ⟨by have:=g6_len (hho.g6 x hx); omega,g6_sm (hho.g6 x hx)⟩) hat
               have cI:=l2Insert_ok h.so c (by omega) (by omega) (g6_sm gc) (fun x hx => by have:=g6_len (hho.g6 x hx); omega) hho.so
               refine Ok.seq (Ok.go ?_)
               simp (disch:=first | omega | decide +kernel) only [go_sem,Qa,Qb,Qc,Qd,Qe,↓reduceIte,reduceCtorEq,Qf,Qg,Qh]
               (repeat' (first | ((first | (refine gsel_split (fun q' => ?_) (fun q' => ?_)<;>(have h':=q')<;>(try simp only [za1,za2,Ba,Bb,za3,ne_eq,za4,za5,za6,Ia,Ib,Ic,Ie,Da,Bc,Bd,Be,za7,za8] at h')<;>try (exfalso; omega)) | (have q':=trivial; first | refine callX_new (cA) rfl (by decide) ?_ | refine callY_new (cA) rfl ?_ | refine callX_new (cB) rfl (by decide) ?_ | refine callY_new (cB) rfl ?_ | refine hE _ _ ret_ne ?_ | refine hE _ _ exit_ne ?_))<;>(try simp (disch:=first | omega | decide +kernel) only [q',go_sem,Qa,Qb,Qc,Qd,Qe,↓reduceIte,reduceCtorEq,Qf,Qg,Qh])<;>clear q') | refine hN _ ?_ ?_ Wk.kk | with_reducible refine And.intro ?_ ?_ | with_reducible omega | exact ok_ints | exact cells_ints | exact no_mem | with_reducible exact plain_ints | (refine le_maxLen ?_; omega) | (refine za9 ⟨?_,?_⟩) | (simp only [go_sem,Qc,Qb,zb1,zb2,forall_eq]; done)))
               refine Ok.seq (Ok.go ?_)
               simp (disch:=first | omega | decide +kernel) only [go_sem,Qa,Qb,Qc,Qd,Qe,↓reduceIte,reduceCtorEq,Qf,Qg,Qh]
               (repeat' (first | ((first | (refine gsel_split (fun q' => ?_) (fun q' => ?_)<;>(have h':=q')<;>(try simp only [za1,za2,Ba,Bb,za3,ne_eq,za4,za5,za6,Ia,Ib,Ic,Ie,Da,Bc,Bd,Be,za7,za8] at h')<;>try (exfalso; omega)) | (have q':=trivial; first | refine callX_new (cP) rfl (by decide) ?_ | refine callY_new (cP) rfl ?_ | refine hE _ _ ret_ne ?_ | refine hE _ _ exit_ne ?_))<;>(try simp (disch:=first | omega | decide +kernel) only [q',go_sem,Qa,Qb,Qc,Qd,Qe,↓reduceIte,reduceCtorEq,Qf,Qg,Qh])<;>clear q') | refine hN _ ?_ ?_ Wk.kk | with_reducible refine And.intro ?_ ?_ | with_reducible omega | exact ok_ints | exact cells_ints | exact no_mem | with_reducible exact plain_ints | (refine le_maxLen ?_; omega) | (refine za9 ⟨?_,?_⟩) | (simp only [go_sem,Qc,Qb,zb1,zb2,forall_eq]; done)))
               refine Ok.seq (Ok.go ?_)
               simp (disch:=first | omega | decide +kernel) only [go_sem,Qa,Qb,Qc,Qd,Qe,↓reduceIte,reduceCtorEq,Qf,Qg,Qh]
               (repeat' (first | ((first | (refine gsel_split (fun q' => ?_) (fun q' => ?_)<;>(have h':=q')<;>(try simp only [za1,za2,Ba,Bb,za3,ne_eq,za4,za5,za6,Ia,Ib,Ic,Ie,Da,Bc,Bd,Be,za7,za8] at h')<;>try (exfalso; omega)) | (have q':=trivial; first | refine callX_shared (cI) rfl (by decide) ?_ | refine callY_shared (cI) rfl ?_ | refine hE _ _ ret_ne ?_ | refine hE _ _ exit_ne ?_))<;>(try simp (disch:=first | omega | decide +kernel) only [q',go_sem,Qa,Qb,Qc,Qd,Qe,↓reduceIte,reduceCtorEq,Qf,Qg,Qh])<;>clear q') | refine hN _ ?_ ?_ Wk.kk | with_reducible refine And.intro ?_ ?_ | with_reducible omega | exact ok_ints | exact cells_ints | exact no_mem | with_reducible exact plain_ints | (refine le_maxLen ?_; omega) | (refine za9 ⟨?_,?_⟩) | (simp only [go_sem,Qc,Qb,zb1,zb2,forall_eq]; done)))
               have T : ∀ l : List Int,(l.map (D.int .i64)).take (plI h.so c)=(l.take (plI h.so c)).map (D.int .i64):=fun l => (List.map_take ..).symm
               have hlf:=hho.lf
               have hrt:=hho.rt
               have hpv:=hho.pv
               have cL:=l1Own_ok (h.lf.take (plI h.so c)) (by simp only [List.length_take]; omega)
               have eL : (h.lf.drop (plI h.so c)).take (h.lf.length - plI h.so c)=h.lf.drop (plI h.so c):=List.take_of_length_le (by simp)
               refine Ok.seq (Ok.go ?_)
               simp (disch:=first | omega | decide +kernel) only [e1,t1,T,eL,List.length_map,go_sem,Qa,Qb,Qc,Qd,Qe,↓reduceIte,reduceCtorEq,Qf,Qg,Qh]
               (repeat' (first | ((first | (refine gsel_split (fun q' => ?_) (fun q' => ?_)<;>(have h':=q')<;>(try simp only [za1,za2,Ba,Bb,za3,ne_eq,za4,za5,za6,Ia,Ib,Ic,Ie,Da,Bc,Bd,Be,za7,za8] at h')<;>try (exfalso; omega)) | (have q':=trivial; first | refine callX_new (cL) rfl (by decide) ?_ | refine callY_new (cL) rfl ?_ | refine hE _ _ ret_ne ?_ | refine hE _ _ exit_ne ?_))<;>(try simp (disch:=first | omega | decide +kernel) only [q',e1,t1,T,eL,List.length_map,go_sem,Qa,Qb,Qc,Qd,Qe,↓reduceIte,reduceCtorEq,Qf,Qg,Qh])<;>clear q') | refine hN _ ?_ ?_ Wk.kk | with_reducible refine And.intro ?_ ?_ | with_reducible omega | exact ok_ints | exact cells_ints | exact no_mem | with_reducible exact plain_ints | (refine le_maxLen ?_; omega) | (refine za9 ⟨?_,?_⟩) | (simp only [go_sem,Qc,Qb,zb1,zb2,forall_eq]; done)))
               have cR:=l1Own_ok (h.rt.take (plI h.so c)) (by simp only [List.length_take]; omega)
               have eR : (h.rt.drop (plI h.so c)).take (h.rt.length - plI h.so c)=h.rt.drop (plI h.so c):=List.take_of_length_le (by simp)
               refine Ok.seq (Ok.go ?_)
               simp (disch:=first | omega | decide +kernel) only [e2,t2,T,eR,List.length_map,go_sem,Qa,Qb,Qc,Qd,Qe,↓reduceIte,reduceCtorEq,Qf,Qg,Qh]
               (repeat' (first | ((first | (refine gsel_split (fun q' => ?_) (fun q' => ?_)<;>(have h':=q')<;>(try simp only [za1,za2,Ba,Bb,za3,ne_eq,za4,za5,za6,Ia,Ib,Ic,Ie,Da,Bc,Bd,Be,za7,za8] at h')<;>try (exfalso; omega)) | (have q':=trivial; first | refine callX_new (cR) rfl (by decide) ?_ | refine callY_new (cR) rfl ?_ | refine hE _ _ ret_ne ?_ | refine hE _ _ exit_ne ?_))<;>(try simp (disch:=first | omega | decide +kernel) only [q',e2,t2,T,eR,List.length_map,go_sem,Qa,Qb,Qc,Qd,Qe,↓reduceIte,reduceCtorEq,Qf,Qg,Qh])<;>clear q') | refine hN _ ?_ ?_ Wk.kk | with_reducible refine And.intro ?_ ?_ | with_reducible omega | exact ok_ints | exact cells_ints | exact no_mem | with_reducible exact plain_ints | (refine le_maxLen ?_; omega) | (refine za9 ⟨?_,?_⟩) | (simp only [go_sem,Qc,Qb,zb1,zb2,forall_eq]; done)))
               have cV:=l1Own_ok (h.pv.take (plI h.so c)) (by simp only [List.length_take]; omega)
               have eV : (h.pv.drop (plI h.so c)).take (h.pv.length - plI h.so c)=h.pv.drop (plI h.so c):=List.take_of_length_le (by simp)
               refine Ok.go ?_
               simp (disch:=first | omega | decide +kernel) only [T,eV,List.length_map,go_sem,Qa,Qb,Qc,Qd,Qe,↓reduceIte,reduceCtorEq,Qf,Qg,Qh]
               (repeat' (first | ((first | (refine gsel_split (fun q' => ?_) (fun q' => ?_)<;>(have h':=q')<;>(try simp only [za1,za2,Ba,Bb,za3,ne_eq,za4,za5,za6,Ia,Ib,Ic,Ie,Da,Bc,Bd,Be,za7,za8] at h')<;>try (exfalso; omega)) | (have q':=trivial; first | refine callX_new (cV) rfl (by decide) ?_ | refine callY_new (cV) rfl ?_ | refine hE _ _ ret_ne ?_ | refine hE _ _ exit_ne ?_))<;>(try simp (disch:=first | omega | decide +kernel) only [q',T,eV,List.length_map,go_sem,Qa,Qb,Qc,Qd,Qe,↓reduceIte,reduceCtorEq,Qf,Qg,Qh])<;>clear q') | refine hN _ ?_ ?_ Wk.kk | with_reducible refine And.intro ?_ ?_ | with_reducible omega | exact ok_ints | exact cells_ints | exact no_mem | with_reducible exact plain_ints | (refine le_maxLen ?_; omega) | (refine za9 ⟨?_,?_⟩) | (simp only [go_sem,Qc,Qb,zb1,zb2,forall_eq]; done)))
               refine Ok.go ?_
               simp (disch:=first | omega | decide +kernel) only [go_sem,Qa,Qb,Qc,Qd,Qe,↓reduceIte,reduceCtorEq,Qf,Qg,Qh]
               rw [show (1 + (v : Int) + 1)=1 + ((v + 1 : Nat) : Int) by omega]
               refine hN3 _ _ hlt3 hfs.symm ((Wk.frz (j:=12000000) rfl).trans ((Wk.frz (j:=13700000) rfl).trans ((Wk.frz (j:=15400000) rfl).trans ?_)))
               simp (disch:=first | omega | decide +kernel) only [St.frz,frzS,frzO,AV.frz,AV.frzL,AO.frz,go_sem,Qa,Qb,Qc,Qd,Qe,↓reduceIte,reduceCtorEq,Qf,Qg,Qh]
               exact (by refine Wk.auto ?_ ?_<;>simp [extraK,lk,killL,St.kill,wipeO,wipeS,AV.has,AV.hasL,AO.wipe,List.map_set,updSt,insL,dropS,ins,insAt,List.map_append,List.map_cons,List.append_assoc,List.singleton_append])
             . rw [if_neg hif] at hfs
               rw [← mA,← mB] at hif
               refine Ok.seq (Ok.go ?_)
               simp (disch:=first | omega | decide +kernel) only [go_sem,Qa,Qb,Qc,Qd,Qe,↓reduceIte,reduceCtorEq,Qf,Qg,Qh]
               (repeat' (first | ((first | (refine gsel_split (fun q' => ?_) (fun q' => ?_)<;>(have h':=q')<;>(try simp only [za1,za2,Ba,Bb,za3,ne_eq,za4,za5,za6,Ia,Ib,Ic,Ie,Da,Bc,Bd,Be,za7,za8] at h')<;>try (exfalso; omega)) | (have q':=trivial; first | refine callX_new (cA) rfl (by decide) ?_ | refine callY_new (cA) rfl ?_ | refine callX_new (cB) rfl (by decide) ?_ | refine callY_new (cB) rfl ?_ | refine hE _ _ ret_ne ?_ | refine hE _ _ exit_ne ?_))<;>(try simp (disch:=first | omega | decide +kernel) only [q',go_sem,Qa,Qb,Qc,Qd,Qe,↓reduceIte,reduceCtorEq,Qf,Qg,Qh])<;>clear q') | refine hN _ ?_ ?_ Wk.kk | with_reducible refine And.intro ?_ ?_ | with_reducible omega | exact ok_ints | exact cells_ints | exact no_mem | with_reducible exact plain_ints | (refine le_maxLen ?_; omega) | (refine za9 ⟨?_,?_⟩) | (simp only [go_sem,Qc,Qb,zb1,zb2,forall_eq]; done)))
               all_goals
                refine Ok.go ?_
                simp (disch:=first | omega | decide +kernel) only [go_sem,Qa,Qb,Qc,Qd,Qe,↓reduceIte,reduceCtorEq,Qf,Qg,Qh]
                rw [show (1 + (v : Int) + 1)=1 + ((v + 1 : Nat) : Int) by omega]
                exact hN3 h _ hlt3 hfs.symm (by refine Wk.auto ?_ ?_<;>simp [extraK,lk,killL,St.kill,wipeO,wipeS,AV.has,AV.hasL,AO.wipe,List.map_set,updSt,insL,dropS,ins,])
         . obtain rfl : v=vars:=by omega
           refine Ok.go ?_
           simp (disch:=first | omega | decide +kernel) only [List.length_map,go_sem,Qa,Qb,Qc,Qd,Qe,↓reduceIte,reduceCtorEq,Qf,Qg,Qh]
           (repeat' (first | ((first | (refine gsel_split (fun q' => ?_) (fun q' => ?_)<;>(have h':=q')<;>(try simp only [za1,za2,Ba,Bb,za3,ne_eq,za4,za5,za6,Ia,Ib,Ic,Ie,Da,Bc,Bd,Be,za7,za8] at h')<;>try (exfalso; omega)) | (have q':=trivial; first | refine hE _ _ ret_ne ?_ | refine hE _ _ exit_ne ?_))<;>(try simp (disch:=first | omega | decide +kernel) only [q',List.length_map,go_sem,Qa,Qb,Qc,Qd,Qe,↓reduceIte,reduceCtorEq,Qf,Qg,Qh])<;>clear q') | refine hN _ ?_ ?_ Wk.kk | with_reducible refine And.intro ?_ ?_ | with_reducible omega | exact ok_ints | exact cells_ints | exact no_mem | with_reducible exact plain_ints | (refine le_maxLen ?_; omega) | (refine za9 ⟨?_,?_⟩) | (simp only [go_sem,Qc,Qb,zb1,zb2,forall_eq]; done)))
           refine hE3 _ _ exit_ne ?_
           simp (disch:=first | omega | decide +kernel) only [go_sem,Qa,Qb,Qc,Qd,Qe,↓reduceIte,reduceCtorEq,Qf,Qg,Qh]
           refine Ok.go ?_
           simp (disch:=first | omega | decide +kernel) only [go_sem,Qa,Qb,Qc,Qd,Qe,↓reduceIte,reduceCtorEq,Qf,Qg,Qh]
           rw [show (b : Int) + 1=((b + 1 : Nat) : Int) by omega]
           exact hN2 h _ hlt2 (hh.trans hnb.symm) (by refine Wk.auto ?_ ?_<;>simp [extraK,lk,killL,St.kill,wipeO,wipeS,AV.has,AV.hasL,AO.wipe,List.map_set,updSt,insL,dropS,ins,])
       . refine Ok.go ?_
         simp (disch:=first | omega | decide +kernel) only [e1,e2,r1,r2,t1,t2,List.length_map,go_sem,Qa,Qb,Qc,Qd,Qe,↓reduceIte,reduceCtorEq,Qf,Qg,Qh]
         (repeat' (first | ((first | (refine gsel_split (fun q' => ?_) (fun q' => ?_)<;>(have h':=q')<;>(try simp only [za1,za2,Ba,Bb,za3,ne_eq,za4,za5,za6,Ia,Ib,Ic,Ie,Da,Bc,Bd,Be,za7,za8] at h')<;>try (exfalso; omega)) | (have q':=trivial; first | refine hE _ _ ret_ne ?_ | refine hE _ _ exit_ne ?_))<;>(try simp (disch:=first | omega | decide +kernel) only [q',e1,e2,r1,r2,t1,t2,List.length_map,go_sem,Qa,Qb,Qc,Qd,Qe,↓reduceIte,reduceCtorEq,Qf,Qg,Qh])<;>clear q') | refine hN _ ?_ ?_ Wk.kk | with_reducible refine And.intro ?_ ?_ | with_reducible omega | exact ok_ints | exact cells_ints | exact no_mem | with_reducible exact plain_ints | (refine le_maxLen ?_; omega) | (refine za9 ⟨?_,?_⟩) | (simp only [go_sem,Qc,Qb,zb1,zb2,forall_eq]; done)))
         all_goals first | exact (by refine Wk.auto ?_ ?_<;>simp [extraK,lk,killL,St.kill,wipeO,wipeS,AV.has,AV.hasL,AO.wipe,List.map_set,updSt,insL,dropS,ins,]) | trace_state
   . obtain rfl : b=o.length:=by omega
     have hna : fndA w width vars round o (a + 1)=fndB w width vars round o (o.getD a 0) f o.length:=by rw [fndA,← hf]
     refine Ok.go ?_
     simp (disch:=first | omega | decide +kernel) only [List.length_map,go_sem,Qa,Qb,Qc,Qd,Qe,↓reduceIte,reduceCtorEq,Qf,Qg,Qh]
     (repeat' (first | ((first | (refine gsel_split (fun q' => ?_) (fun q' => ?_)<;>(have h':=q')<;>(try simp only [za1,za2,Ba,Bb,za3,ne_eq,za4,za5,za6,Ia,Ib,Ic,Ie,Da,Bc,Bd,Be,za7,za8] at h')<;>try (exfalso; omega)) | (have q':=trivial; first | refine hE _ _ ret_ne ?_ | refine hE _ _ exit_ne ?_))<;>(try simp (disch:=first | omega | decide +kernel) only [q',List.length_map,go_sem,Qa,Qb,Qc,Qd,Qe,↓reduceIte,reduceCtorEq,Qf,Qg,Qh])<;>clear q') | refine hN _ ?_ ?_ Wk.kk | with_reducible refine And.intro ?_ ?_ | with_reducible omega | exact ok_ints | exact cells_ints | exact no_mem | with_reducible exact plain_ints | (refine le_maxLen ?_; omega) | (refine za9 ⟨?_,?_⟩) | (simp only [go_sem,Qc,Qb,zb1,zb2,forall_eq]; done)))
     refine hE2 _ _ exit_ne ?_
     simp (disch:=first | omega | decide +kernel) only [go_sem,Qa,Qb,Qc,Qd,Qe,↓reduceIte,reduceCtorEq,Qf,Qg,Qh]
     refine Ok.go ?_
     simp (disch:=first | omega | decide +kernel) only [go_sem,Qa,Qb,Qc,Qd,Qe,↓reduceIte,reduceCtorEq,Qf,Qg,Qh]
     rw [show (a : Int) + 1=((a + 1 : Nat) : Int) by omega]
     exact hN g _ hlt (hg.trans hna.symm) (by refine Wk.auto ?_ ?_<;>simp [extraK,lk,killL,St.kill,wipeO,wipeS,AV.has,AV.hasL,AO.wipe,List.map_set,updSt,insL,dropS,ins,])
 . obtain rfl : a=o.length:=by omega
   refine Ok.go ?_
   simp (disch:=first | omega | decide +kernel) only [List.length_map,go_sem,Qa,Qb,Qc,Qd,Qe,↓reduceIte,reduceCtorEq,Qf,Qg,Qh]
   (repeat' (first | ((first | (refine gsel_split (fun q' => ?_) (fun q' => ?_)<;>(have h':=q')<;>(try simp only [za1,za2,Ba,Bb,za3,ne_eq,za4,za5,za6,Ia,Ib,Ic,Ie,Da,Bc,Bd,Be,za7,za8] at h')<;>try (exfalso; omega)) | (have q':=trivial; first | refine hE _ _ ret_ne ?_ | refine hE _ _ exit_ne ?_))<;>(try simp (disch:=first | omega | decide +kernel) only [q',List.length_map,go_sem,Qa,Qb,Qc,Qd,Qe,↓reduceIte,reduceCtorEq,Qf,Qg,Qh])<;>clear q') | refine hN _ ?_ ?_ Wk.kk | with_reducible refine And.intro ?_ ?_ | with_reducible omega | exact ok_ints | exact cells_ints | exact no_mem | with_reducible exact plain_ints | (refine le_maxLen ?_; omega) | (refine za9 ⟨?_,?_⟩) | (simp only [go_sem,Qc,Qb,zb1,zb2,forall_eq]; done)))
   clear hN hE
   rw [show fndA w width vars round o o.length=fndR w width vars round by rw [fndR,hO]] at hf
   have hfo' : FOK f:=hf ▸ FOK.stepA hw.getD _
   have hfl:=srt_len hfo'.so hfo'.g6
   have hro : roundI w width vars (round : Nat)=⟨w.list++f.so,w.rd++List.replicate f.so.length (round : Int),w.lf++f.lf,w.rt++f.rt,w.pv++f.pv,f.so.foldl insI w.so⟩:=by rw [roundI,← hf]
   rw [hro,← hf]
   clear hro
   refine Ok.seq (Ok.seq (Ok.go ?_))
   simp (disch:=first | omega | decide +kernel) only [go_sem,Qa,Qb,Qc,Qd,Qe,↓reduceIte,reduceCtorEq,Qf,Qg,Qh]
   refine Ok.block ?_
   refine Ok.loopNO [217,216,215,214,213,212,211,210,209,208,207,206,205,204,203,202,201,200,199,198,197,196,195,194,193,192,191,190,189,188,187,186,185,184,183,182,181,180,179,178,177,176,175,174,173,172,171,170,169,168,167,166,165,164,163,162,161,160,159,158,157,156,155,154,153,152,151,150,149,148,147,146,145,144,143,142,141,140,139,138,137,136,135,134,133,132,131,130,129,128,127,126,125,124,123,122,121,120,119,118,117,116,115,114,113,112,111,110,109,108,107,106,105,104,103,102,101,100,99,98,97,96,95,94,93,92,91,90,89,88,87,86,85,84,83,82,81,80,79,78,77,76,75,74,73,72,71,70,69,68,67,66,65,64,63,62,61,60,59,58,57,56,55,54,53,52,51,50,49,48,47,46,45,44,43,42,41,40,39,38,37,36,35,34,33,32,31,30,29,28,27,26,25,24,23,22,21,20,19,18,17,16,15,14,13,12,10,9,7,6,4,1] (fun i (_ : Unit) => [(18,.d (.int .i64 (i : Nat)))]) (fun i (_ : Unit) => [(600000005,.arr 38 1 ((w.list++f.so.take i).map D.ints)),(600000004,.arr 3 1 ((w.rd++List.replicate i (round : Int)).map (.int .i64))),
    (5,.box 88 [.sl 600000005,.sl 600000004,.sl 600000003,.sl 600000002,.sl 600000001,.d (.slice (((f.so.take i).foldl insI w.so).map D.ints))])]) f.so.length
    (fun i _ => True) () trivial (by refine Wk.auto ?_ ?_<;>simp [extraK,lk,killL,St.kill,wipeO,wipeS,AV.has,AV.hasL,AO.wipe,List.map_set,updSt,insL,dropS,ins,List.take_zero,List.append_nil,List.replicate_zero,List.foldl_nil]) ?_
   rintro R i _ hN hE hi _
   by_cases hlt : i < f.so.length
   . have htk : f.so.take (i + 1)=f.so.take i++[f.so.getD i []]:=take_succ [] f.so i hlt
     have gc : G6 (f.so.getD i []):=hfo'.g6 _ (getD_mem hlt)
     have gl:=g6_len gc
     obtain ⟨s1,s2⟩:=foldl_ins (m:=f.so.take i) hw.so (fun x hx => g6_sm (hfo'.g6 x (List.mem_of_mem_take hx)))
     have sg : ∀ x ∈ (f.so.take i).foldl insI w.so,G6 x:=fun x hx => by
      rcases (s2 x).1 hx with h | h
      . exact hw.g6 x ((hw.mem x).1 h)
      . exact hfo'.g6 x (List.mem_of_mem_take h)
     have cI:=l2Insert_ok ((f.so.take i).foldl insI w.so) (f.so.getD i []) (by have:=srt_len s1 sg; omega) (by omega) (g6_sm gc) (fun x hx => by have:=g6_len (sg x hx); omega) s1
     have hfs : (f.so.take (i + 1)).foldl insI w.so=insI ((f.so.take i).foldl insI w.so) (f.so.getD i []):=by rw [htk,List.foldl_append]; rfl
     have el1 : el (f.so.map D.ints) i=D.ints (f.so.getD i []):=el_map (f:=D.ints) [] hlt
     have hti : (f.so.take i).length=i:=by rw [List.length_take]; omega
     have hrl:=hw.rd
     generalize (f.so.take i).foldl insI w.so=so1 at *
     generalize f.so.getD i []=c at *
     refine Ok.seq (Ok.go ?_)
     simp (disch:=first | omega | decide +kernel) only [List.length_map,go_sem,Qa,Qb,Qc,Qd,Qe,↓reduceIte,reduceCtorEq,Qf,Qg,Qh]
     (repeat' (first | ((first | (refine gsel_split (fun q' => ?_) (fun q' => ?_)<;>(have h':=q')<;>(try simp only [za1,za2,Ba,Bb,za3,ne_eq,za4,za5,za6,Ia,Ib,Ic,Ie,Da,Bc,Bd,Be,za7,za8] at h')<;>try (exfalso; omega)) | (have q':=trivial; first | refine hE _ _ ret_ne ?_ | refine hE _ _ exit_ne ?_))<;>(try simp (disch:=first | omega | decide +kernel) only [q',List.length_map,go_sem,Qa,Qb,Qc,Qd,Qe,↓reduceIte,reduceCtorEq,Qf,Qg,Qh])<;>clear q') | refine hN _ ?_ ?_ Wk.kk | with_reducible refine And.intro ?_ ?_ | with_reducible omega | exact ok_ints | exact cells_ints | exact no_mem | with_reducible exact plain_ints | (refine le_maxLen ?_; omega) | (refine za9 ⟨?_,?_⟩) | (simp only [go_sem,Qc,Qb,zb1,zb2,forall_eq]; done)))
     refine Ok.seq (Ok.block (Ok.seq (Ok.go ?_)))
     simp (disch:=first | omega | decide +kernel) only [el1,D.ints,List.length_map,go_sem,Qa,Qb,Qc,Qd,Qe,↓reduceIte,reduceCtorEq,Qf,Qg,Qh]
     (repeat' (first | ((first | (refine gsel_split (fun q' => ?_) (fun q' => ?_)<;>(have h':=q')<;>(try simp only [za1,za2,Ba,Bb,za3,ne_eq,za4,za5,za6,Ia,Ib,Ic,Ie,Da,Bc,Bd,Be,za7,za8] at h')<;>try (exfalso; omega)) | (have q':=trivial; first | refine hE _ _ ret_ne ?_ | refine hE _ _ exit_ne ?_))<;>(try simp (disch:=first | omega | decide +kernel) only [q',el1,D.ints,List.length_map,go_sem,Qa,Qb,Qc,Qd,Qe,↓reduceIte,reduceCtorEq,Qf,Qg,Qh])<;>clear q') | refine hN _ ?_ ?_ Wk.kk | with_reducible refine And.intro ?_ ?_ | with_reducible omega | exact ok_ints | exact cells_ints | exact no_mem | with_reducible exact plain_ints | (refine le_maxLen ?_; omega) | (refine za9 ⟨?_,?_⟩) | (simp only [go_sem,Qc,Qb,zb1,zb2,forall_eq]; done)))
     refine Ok.seq (Ok.go ?_)
     simp (disch:=first | omega | decide +kernel) only [List.length_map,go_sem,Qa,Qb,Qc,Qd,Qe,↓reduceIte,reduceCtorEq,Qf,Qg,Qh]
     (repeat' (first | ((first | (refine gsel_split (fun q' => ?_) (fun q' => ?_)<;>(have h':=q')<;>(try simp only [za1,za2,Ba,Bb,za3,ne_eq,za4,za5,za6,Ia,Ib,Ic,Ie,Da,Bc,Bd,Be,za7,za8] at h')<;>try (exfalso; omega)) | (have q':=trivial; first | refine hE _ _ ret_ne ?_ | refine hE _ _ exit_ne ?_))<;>(try simp (disch:=first | omega | decide +kernel) only [q',List.length_map,go_sem,Qa,Qb,Qc,Qd,Qe,↓reduceIte,reduceCtorEq,Qf,Qg,Qh])<;>clear q') | refine hN _ ?_ ?_ Wk.kk | with_reducible refine And.intro ?_ ?_ | with_reducible omega | exact ok_ints | exact cells_ints | exact no_mem | with_reducible exact plain_ints | (refine le_maxLen ?_; omega) | (refine za9 ⟨?_,?_⟩) | (simp only [go_sem,Qc,Qb,zb1,zb2,forall_eq]; done)))
     refine Ok.go ?_
     simp (disch:=first | omega | decide +kernel) only [el1,D.ints,List.length_map,go_sem,Qa,Qb,Qc,Qd,Qe,↓reduceIte,reduceCtorEq,Qf,Qg,Qh]
     (repeat' (first | ((first | (refine gsel_split (fun q' => ?_) (fun q' => ?_)<;>(have h':=q')<;>(try simp only [za1,za2,Ba,Bb,za3,ne_eq,za4,za5,za6,Ia,Ib,Ic,Ie,Da,Bc,Bd,Be,za7,za8] at h')<;>try (exfalso; omega)) | (have q':=trivial; first | refine callX_shared (cI) rfl (by decide) ?_ | refine callY_shared (cI) rfl ?_ | refine hE _ _ ret_ne ?_ | refine hE _ _ exit_ne ?_))<;>(try simp (disch:=first | omega | decide +kernel) only [q',el1,D.ints,List.length_map,go_sem,Qa,Qb,Qc,Qd,Qe,↓reduceIte,reduceCtorEq,Qf,Qg,Qh])<;>clear q') | refine hN _ ?_ ?_ Wk.kk | with_reducible refine And.intro ?_ ?_ | with_reducible omega | exact ok_ints | exact cells_ints | exact no_mem | with_reducible exact plain_ints | (refine le_maxLen ?_; omega) | (refine za9 ⟨?_,?_⟩) | (simp only [go_sem,Qc,Qb,zb1,zb2,forall_eq]; done)))
     refine Ok.go ?_
     simp (disch:=first | omega | decide +kernel) only [go_sem,Qa,Qb,Qc,Qd,Qe,↓reduceIte,reduceCtorEq,Qf,Qg,Qh]
     rw [show (i : Int) + 1=((i + 1 : Nat) : Int) by omega]
     refine hN () _ hlt trivial ?_
     rw [hfs,htk]
     exact (by refine Wk.auto ?_ ?_<;>simp [extraK,lk,killL,St.kill,wipeO,wipeS,AV.has,AV.hasL,AO.wipe,List.map_set,updSt,insL,dropS,ins,D.ints,List.map_append,List.map_cons,List.map_nil,List.replicate_succ',List.append_assoc])
   . obtain rfl : i=f.so.length:=by omega
     have hlf:=hfo'.lf
     have hrt:=hfo'.rt
     have hpv:=hfo'.pv
     have hok : ∀ l : List Int,∀ y ∈ l.map (D.int .i64),D.ok 1 y:=fun l y hy => by obtain ⟨c,_,rfl⟩:=List.mem_map.1 hy; exact ⟨rfl,fun x hx => by cases hx with | head => rfl | tail _ h => cases h⟩
     have l1:=hw.lf
     have l2:=hw.rt
     have l3:=hw.pv
     refine Ok.go ?_
     simp (disch:=first | omega | decide +kernel) only [List.length_map,go_sem,Qa,Qb,Qc,Qd,Qe,↓reduceIte,reduceCtorEq,Qf,Qg,Qh]
     (repeat' (first | ((first | (refine gsel_split (fun q' => ?_) (fun q' => ?_)<;>(have h':=q')<;>(try simp only [za1,za2,Ba,Bb,za3,ne_eq,za4,za5,za6,Ia,Ib,Ic,Ie,Da,Bc,Bd,Be,za7,za8] at h')<;>try (exfalso; omega)) | (have q':=trivial; first | refine hE _ _ ret_ne ?_ | refine hE _ _ exit_ne ?_))<;>(try simp (disch:=first | omega | decide +kernel) only [q',List.length_map,go_sem,Qa,Qb,Qc,Qd,Qe,↓reduceIte,reduceCtorEq,Qf,Qg,Qh])<;>clear q') | refine hN _ ?_ ?_ Wk.kk | with_reducible refine And.intro ?_ ?_ | with_reducible omega | exact ok_ints | exact cells_ints | exact no_mem | with_reducible exact plain_ints | (refine le_maxLen ?_; omega) | (refine za9 ⟨?_,?_⟩) | (simp only [go_sem,Qc,Qb,zb1,zb2,forall_eq]; done)))
     simp (disch:=first | omega | decide +kernel) only [List.take_length,go_sem,Qa,Qb,Qc,Qd,Qe,↓reduceIte,reduceCtorEq,Qf,Qg,Qh]
     refine Ok.seq (Ok.go ?_)
     simp (disch:=first | omega | decide +kernel) only [List.length_map,go_sem,Qa,Qb,Qc,Qd,Qe,↓reduceIte,reduceCtorEq,Qf,Qg,Qh]
     (repeat' (first | ((first | (refine gsel_split (fun q' => ?_) (fun q' => ?_)<;>(have h':=q')<;>(try simp only [za1,za2,Ba,Bb,za3,ne_eq,za4,za5,za6,Ia,Ib,Ic,Ie,Da,Bc,Bd,Be,za7,za8] at h')<;>try (exfalso; omega)) | (have q':=trivial; first | refine hE _ _ ret_ne ?_ | refine hE _ _ exit_ne ?_))<;>(try simp (disch:=first | omega | decide +kernel) only [q',List.length_map,go_sem,Qa,Qb,Qc,Qd,Qe,↓reduceIte,reduceCtorEq,Qf,Qg,Qh])<;>clear q') | refine hN _ ?_ ?_ Wk.kk | with_reducible refine And.intro ?_ ?_ | with_reducible omega | exact ok_ints | exact cells_ints | exact no_mem | with_reducible exact plain_ints | (refine le_maxLen ?_; omega) | (refine za9 ⟨?_,?_⟩) | (simp only [go_sem,Qc,Qb,zb1,zb2,forall_eq]; done)))
     all_goals (first | exact hok _ | skip)
     refine Ok.seq (Ok.go ?_)
     simp (disch:=first | omega | decide +kernel) only [List.length_map,go_sem,Qa,Qb,Qc,Qd,Qe,↓reduceIte,reduceCtorEq,Qf,Qg,Qh]
     (repeat' (first | ((first | (refine gsel_split (fun q' => ?_) (fun q' => ?_)<;>(have h':=q')<;>(try simp only [za1,za2,Ba,Bb,za3,ne_eq,za4,za5,za6,Ia,Ib,Ic,Ie,Da,Bc,Bd,Be,za7,za8] at h')<;>try (exfalso; omega)) | (have q':=trivial; first | refine hE _ _ ret_ne ?_ | refine hE _ _ exit_ne ?_))<;>(try simp (disch:=first | omega | decide +kernel) only [q',List.length_map,go_sem,Qa,Qb,Qc,Qd,Qe,↓reduceIte,reduceCtorEq,Qf,Qg,Qh])<;>clear q') | refine hN _ ?_ ?_ Wk.kk | with_reducible refine And.intro ?_ ?_ | with_reducible omega | exact ok_ints | exact cells_ints | exact no_mem | with_reducible exact plain_ints | (refine le_maxLen ?_; omega) | (refine za9 ⟨?_,?_⟩) | (simp only [go_sem,Qc,Qb,zb1,zb2,forall_eq]; done)))
     all_goals (first | exact hok _ | skip)
     refine Ok.seq (Ok.go ?_)
     simp (disch:=first | omega | decide +kernel) only [List.length_map,go_sem,Qa,Qb,Qc,Qd,Qe,↓reduceIte,reduceCtorEq,Qf,Qg,Qh]
     (repeat' (first | ((first | (refine gsel_split (fun q' => ?_) (fun q' => ?_)<;>(have h':=q')<;>(try simp only [za1,za2,Ba,Bb,za3,ne_eq,za4,za5,za6,Ia,Ib,Ic,Ie,Da,Bc,Bd,Be,za7,za8] at h')<;>try (exfalso; omega)) | (have q':=trivial; first | refine hE _ _ ret_ne ?_ | refine hE _ _ exit_ne ?_))<;>(try simp (disch:=first | omega | decide +kernel) only [q',List.length_map,go_sem,Qa,Qb,Qc,Qd,Qe,↓reduceIte,reduceCtorEq,Qf,Qg,Qh])<;>clear q') | refine hN _ ?_ ?_ Wk.kk | with_reducible refine And.intro ?_ ?_ | with_reducible omega | exact ok_ints | exact cells_ints | exact no_mem | with_reducible exact plain_ints | (refine le_maxLen ?_; omega) | (refine za9 ⟨?_,?_⟩) | (simp only [go_sem,Qc,Qb,zb1,zb2,forall_eq]; done)))
     all_goals (first | exact hok _ | skip)
     refine Ok.go ?_
     simp (disch:=first | omega | decide +kernel) only [List.length_map,go_sem,Qa,Qb,Qc,Qd,Qe,↓reduceIte,reduceCtorEq,Qf,Qg,Qh]
     (repeat' (first | ((first | (refine gsel_split (fun q' => ?_) (fun q' => ?_)<;>(have h':=q')<;>(try simp only [za1,za2,Ba,Bb,za3,ne_eq,za4,za5,za6,Ia,Ib,Ic,Ie,Da,Bc,Bd,Be,za7,za8] at h')<;>try (exfalso; omega)) | (have q':=trivial; first | refine hE _ _ ret_ne ?_ | refine hE _ _ exit_ne ?_))<;>(try simp (disch:=first | omega | decide +kernel) only [q',List.length_map,go_sem,Qa,Qb,Qc,Qd,Qe,↓reduceIte,reduceCtorEq,Qf,Qg,Qh])<;>clear q') | refine hN _ ?_ ?_ Wk.kk | with_reducible refine And.intro ?_ ?_ | with_reducible omega | exact ok_ints | exact cells_ints | exact no_mem | with_reducible exact plain_ints | (refine le_maxLen ?_; omega) | (refine za9 ⟨?_,?_⟩) | (simp only [go_sem,Qc,Qb,zb1,zb2,forall_eq]; done)))
     refine ⟨_,_,⟨rfl,rfl⟩,retM_wrk (nth [600000001,600000002,600000003,600000004,600000005]) rfl rfl rfl (by simp only [go_sem]) (by simp only [go_sem,List.length_cons,List.length_nil]) rfl (by simp only [go_sem]) rfl ?_ ?_⟩
     . intro p hp
       simp only [List.mem_cons,List.not_mem_nil,or_false] at hp
       rcases hp with rfl | rfl | rfl | rfl | rfl<;>simp [lk,nth,AO.ren,List.map_append]
     . intro p hp q hq
       simp only [List.mem_cons,List.not_mem_nil,or_false] at hp hq
       rcases hp with rfl | rfl | rfl | rfl | rfl<;>rcases hq with rfl | rfl | rfl | rfl | rfl<;>simp [nth]
end Abs.Y
