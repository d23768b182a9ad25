/- What functions of this program compute, over plain data. No condition. -/
import Derived.Test.YtckigpgkmdhfoaaST1
import Derived.Test.YtckigpgkmdhfoaaG4
import Derived.Test.YtckigpgkmdhfoaaAbsReg7
set_option linter.all false
namespace Abs
open Go Go.Proofs
theorem callX_rels {P : Program} {N f cavs st dst K} {xs : List AV} {sh : Bool} {Q : AV->Prop} (hs : CtrR P f xs [] [] sh fun r oo => oo=[]∧Q r) (hp : passM P (delL [] st.o) (nth []) sh cavs xs) (hd : dstB N dst)
 (hK : ∀ r,Q r->K (impM st dst (nth []) [] r [])) : callX P N f cavs dst K st :=
 callX_rel [] [] [] hs hp trivial (by simp [namesI,keysO]) hd fun r oo ⟨e,hQ⟩ => by subst e; exact ⟨by simp [namesOK,keysO],hK r hQ⟩
theorem endF {P : Program} {N : Nat} {rs u sh} {R : AV->List (Nat × AO)->Prop} {st : St} (js : List Nat) (h : retR P rs u [] sh R .ret (frzs js st)) : ∃ st',Wk N st st'∧retR P rs u [] sh R .ret st' :=
 ⟨_,fun _ β φ _ _ _ _ _ hs => ⟨β,φ,hs.frzs⟩,h⟩
theorem retR_cv {P : Program} {a j b : Nat} {t e : TypeId} {cells : List AV} {ds : List D} {y : D} {st : St} {u : Nat->Value} {R : AV->List (Nat × AO)->Prop} (h : lk a st.s=some (.p j 0)) (h' : lk b st.s=some (.d y)) (hj : lk j st.o=some (.box e cells)) (hag : aggT P t=true) (hn : P.cellsOf t=cells.length) (hd : allD cells=some ds)
 (hu : (P.underlying t).isSome=true) (hR : R (.tup [.d (.agg ds),.d y]) []) : retR P [.cell a t,.tmp b] u [] true R .ret st:=by
 have hl : (lk a st.s).bind (loadV P st.o t)=some (0 + P.cellsOf t<=cells.length∧(P.underlying t).isSome=true,.d (.agg ds)):=by
  rw [h,Option.bind_some,loadV,hj]
  simp only [hag,if_true,List.drop_zero,hn,List.take_length,hd]
 refine ⟨_,_,hR,?_⟩
 simp only [retM,resV,hl,h']
 exact ⟨⟨hu,⟨by omega,hu⟩,trivial⟩,⟨fun q => q,rfl,by simp,by simp,trivial⟩,.inl trivial⟩
theorem retR_c {P : Program} {a j : Nat} {t e : TypeId} {cells : List AV} {ds : List D} {st : St} {u : Nat->Value} {R : AV->List (Nat × AO)->Prop} (h : lk a st.s=some (.p j 0)) (hj : lk j st.o=some (.box e cells)) (hag : aggT P t=true) (hn : P.cellsOf t=cells.length) (hd : allD cells=some ds)
 (hu : (P.underlying t).isSome=true) (hR : R (.d (.agg ds)) []) : retR P [.cell a t] u [] true R .ret st:=by
 have hl : (lk a st.s).bind (loadV P st.o t)=some (0 + P.cellsOf t<=cells.length∧(P.underlying t).isSome=true,.d (.agg ds)):=by
  rw [h,Option.bind_some,loadV,hj]
  simp only [hag,if_true,List.drop_zero,hn,List.take_length,hd]
 refine ⟨_,_,hR,?_⟩
 simp only [retM,resV,hl]
 exact ⟨⟨hu,⟨by omega,hu⟩,trivial⟩,⟨fun q => q,rfl,by simp,by simp,trivial⟩,.inl trivial⟩
theorem retR_p {P : Program} {a : Nat} {x : D} {st : St} {u : Nat->Value} {R : AV->List (Nat × AO)->Prop} (h : lk a st.s=some (.d x)) (hx : x.plain=true) (hR : R (.d x) []) : retR P [.tmp a] u [] false R .ret st:=by
 refine ⟨_,_,hR,?_⟩
 simp only [retM,resV,h]
 exact ⟨trivial,⟨fun q => q,rfl,by simp,by simp,trivial⟩,.inr ⟨hx,trivial⟩⟩
theorem retR_sb {P : Program} {a b i : Nat} {y : D} {o1 : AO} {st : St} {u : Nat->Value} {R : AV->List (Nat × AO)->Prop} (h : lk a st.s=some (.sl i)) (h' : lk b st.s=some (.d y)) (k1 : lk i st.o=some o1) (r1 : ∀ f,o1.ren f=o1)
 (hR : R (.tup [.sl 1,.d y]) [(1,o1)]) : retR P [.tmp a,.tmp b] u [] true R .ret st:=by
 refine ⟨_,_,hR,?_⟩
 simp only [retM,resV,h,h']
 refine ⟨trivial,⟨fun _ => i,rfl,?_,?_,trivial⟩,.inl trivial⟩
 . intro p hp
   obtain rfl:=List.mem_singleton.1 hp
   simpa [r1] using k1
 . intro p hp q hq _
   obtain rfl:=List.mem_singleton.1 hp
   obtain rfl:=List.mem_singleton.1 hq
   rfl
theorem retR_dd {P : Program} {a b : Nat} {x y : D} {st : St} {u : Nat->Value} {R : AV->List (Nat × AO)->Prop} (h : lk a st.s=some (.d x)) (h' : lk b st.s=some (.d y)) (hR : R (.tup [.d x,.d y]) []) : retR P [.tmp a,.tmp b] u [] true R .ret st:=by
 refine ⟨_,_,hR,?_⟩
 simp only [retM,resV,h,h']
 exact ⟨trivial,⟨fun q => q,rfl,by simp,by simp,trivial⟩,.inl trivial⟩
end Abs
namespace Abs.Y
open Go Go.Proofs Abs
open Nat renaming reduceEqDiff -> Qa, reduceLT -> Qb, reduceAdd -> Qc, reduceMul -> Qd, reduceSub -> Qe, reduceLeDiff -> Qf, reduceSubDiff -> Qg, reduceBEq -> Qh
open Bool renaming not_eq_true' -> Ba, not_eq_false' -> Bb, and_eq_true -> Bc, or_eq_true -> Bd, or_eq_false_iff -> Be
open Int renaming ofNat_lt -> Ia, ofNat_le -> Ib, not_lt -> Ic, not_le -> Ie
open Decidable renaming not_not -> Da
set_option maxRecDepth 100000

def NewR (f : FuncId) (xs : List AV) (Q : List Int × Bool->Prop) : Prop:=CtrR Try.prog f xs [] [] true fun r oo => ∃ x : List Int × Bool,r=.tup [.sl 1,.d (.bool x.2)]∧oo=[(1,.arr 3 1 (x.1.map (.int .i64)))]∧Q x
theorem callX_newR {N f cavs st d K xs Q} (hs : NewR f xs Q) (hp : passM Try.prog (delL [] st.o) (nth []) true cavs xs) (hd : d < N)
 (hK : ∀ x : List Int × Bool,Q x->K (impM st (some d) (nth [100000 * (d + 1),100000 * (d + 1) + 1]) [100000 * (d + 1) + 1] (.tup [.sl 1,.d (.bool x.2)]) [(1,.arr 3 1 (x.1.map (.int .i64)))])) : callX Try.prog N f cavs (some d) K st :=
 callX_rel [] [100000 * (d + 1),100000 * (d + 1) + 1] [100000 * (d + 1) + 1] hs hp trivial (by simp [namesI,keysO]) hd fun r oo ⟨x,e1,e2,hQ⟩ => by
  subst e1; subst e2; exact ⟨by simp [namesOK,keysO,nth],hK x hQ⟩
def byte (s : ByteArray) (i : Nat) : Int:=(s.data.toList.getD i 0).toNat
def splA (s : ByteArray) (b : Int) : Nat->List ByteArray × Nat
 | 0 => ([],0)
 | i + 1 => if byte s i=b then ((splA s b i).1++[s.extract (splA s b i).2 i],i + 1) else splA s b i
def splI (s : ByteArray) (b : Int) : List ByteArray:=(splA s b s.size).1++[s.extract (splA s b s.size).2 s.size]
theorem splA_bd (s : ByteArray) (b : Int) : ∀ i,i<=s.size->(splA s b i).1.length<=i∧(splA s b i).2<=i∧∀ p ∈ (splA s b i).1,p.size<=s.size
 | 0,_ => ⟨Nat.le_refl _,Nat.le_refl _,fun _ h => nomatch h⟩
 | i + 1, h => by
   obtain ⟨h1,h2,h3⟩:=splA_bd s b i (by omega)
   rw [splA]
   split
   . refine ⟨by simp; omega,Nat.le_refl _,fun p hp => ?_⟩
     rcases List.mem_append.1 hp with hp | hp
     . exact h3 p hp
     . rw [List.mem_singleton] at hp; subst hp; rw [ByteArray.size_extract]; omega
   . exact ⟨by omega,by omega,h3⟩
theorem splI_bd (s : ByteArray) (b : Int) : 1<=(splI s b).length∧(splI s b).length<=s.size + 1∧∀ p ∈ splI s b,p.size<=s.size:=by
 obtain ⟨h1,h2,h3⟩:=splA_bd s b s.size (Nat.le_refl _)
 refine ⟨by simp [splI],by simp [splI]; omega,fun p hp => ?_⟩
 rcases List.mem_append.1 hp with hp | hp
 . exact h3 p hp
 . rw [List.mem_singleton] at hp; subst hp; rw [ByteArray.size_extract]; omega
theorem plain_strs (ps : List ByteArray) : ∀ x ∈ ps.map D.str,x.plain=true:=fun x hx => by obtain ⟨p,_,rfl⟩:=List.mem_map.1 hx; rfl
theorem l1Split_ok (s : ByteArray) (b : Int) (hs : s.size<=1000000) : Ctr Try.prog 167 [.str s,.int .u8 b] false (.sl 0) [(0,.arr 9 1 ((splI s b).map .str))]:=by
 refine Ctr.of (n:=35) (rs:=[.tmp 4]) Try.func167 rfl rfl Try.ntmps167 rfl rfl (by kernel_rfl) Try.checked.mixed ?_
 simp (disch:=first | omega | decide +kernel) only [go_sem,Qa,Qb,Qc,Qd,Qe,↓reduceIte,reduceCtorEq,Qf,Qg,Qh]
 (repeat' (first | ((first | (refine gsel_split (fun q' => ?_) (fun q' => ?_)<;>(have h':=q')<;>(try simp only [za1,za2,Ba,Bb,za3,ne_eq,za4,za5,za6,Ia,Ib,Ic,Ie,Da,Bc,Bd,Be,za7,za8] at h')<;>try (exfalso; omega)) | (have q':=trivial; first | refine hE _ _ ret_ne ?_ | refine hE _ _ exit_ne ?_))<;>(try simp (disch:=first | omega | decide +kernel) only [q',go_sem,Qa,Qb,Qc,Qd,Qe,↓reduceIte,reduceCtorEq,Qf,Qg,Qh])<;>clear q') | refine hN _ ?_ ?_ Wk.kk | with_reducible refine And.intro ?_ ?_ | with_reducible omega | exact ok_ints | exact cells_ints | exact no_mem | with_reducible exact plain_ints | (refine le_maxLen ?_; omega) | (refine za9 ⟨?_,?_⟩) | (simp only [go_sem,Qc,Qb,zb1,zb2,forall_eq]; done)))
 refine Ok.loopN [34,33,32,31,30,29,28,27,26,25,24,23,22,21,20,19,18,17,16,15,14,13,12,11,10,9,8,7,6,5,4,3,2] (fun i (a : List ByteArray × Nat) => [(7,.d (.int .i64 (i : Nat))),(6,.d (.int .i64 (a.2 : Nat))),(5,.sl 8)]) (fun _ (a : List ByteArray × Nat) => [(8,.arr 9 1 (a.1.map .str))]) s.size (fun i a => a=splA s b i) ([],0) rfl (Wk.kk) ?_
 rintro R i ⟨ps,k⟩ hN hE hi ha
 have hb:=splA_bd s b i hi
 rw [← ha] at hb
 obtain ⟨hb1,hb2,hb3⟩:=hb
 dsimp only at hb1 hb2 hb3 ⊢
 by_cases hlt : i < s.size
 . have hsu : splA s b (i + 1)=if byte s i=b then (ps++[s.extract k i],i + 1) else (ps,k):=by rw [splA,← ha]
   unfold byte at hsu
   have e1 : ((i : Int) + 1)=((i + 1 : Nat) : Int):=by omega
   by_cases hbb : ((s.data.toList.getD i 0).toNat : Int)=b
   . rw [if_pos hbb] at hsu
     simp (disch:=first | omega | decide +kernel) only [Int.toNat_natCast,go_sem,Qa,Qb,Qc,Qd,Qe,↓reduceIte,reduceCtorEq,Qf,Qg,Qh]
     (repeat' (first | ((first | (refine gsel_split (fun q' => ?_) (fun q' => ?_)<;>(have h':=q')<;>(try simp only [za1,za2,Ba,Bb,za3,ne_eq,za4,za5,za6,Ia,Ib,Ic,Ie,Da,Bc,Bd,Be,za7,za8] at h')<;>try (exfalso; omega)) | (have q':=trivial; first | refine hE _ _ ret_ne ?_ | refine hE _ _ exit_ne ?_))<;>(try simp (disch:=first | omega | decide +kernel) only [q',Int.toNat_natCast,go_sem,Qa,Qb,Qc,Qd,Qe,↓reduceIte,reduceCtorEq,Qf,Qg,Qh])<;>clear q') | refine hN _ ?_ ?_ Wk.kk | with_reducible refine And.intro ?_ ?_ | with_reducible omega | exact ok_ints | exact cells_ints | exact no_mem | with_reducible exact plain_ints | (refine le_maxLen ?_; omega) | (refine za9 ⟨?_,?_⟩) | (simp only [go_sem,Qc,Qb,zb1,zb2,forall_eq]; done)))
     exact hN (ps++[s.extract k i],i + 1) _ hlt hsu.symm (by refine Wk.auto ?_ ?_<;>simp [extraK,lk,killL,St.kill,wipeO,wipeS,AV.has,AV.hasL,AO.wipe,List.map_set,updSt,insL,dropS,ins,List.map_append,List.map_cons,List.map_nil])
   . rw [if_neg hbb] at hsu
     simp (disch:=first | omega | decide +kernel) only [Int.toNat_natCast,go_sem,Qa,Qb,Qc,Qd,Qe,↓reduceIte,reduceCtorEq,Qf,Qg,Qh]
     (repeat' (first | ((first | (refine gsel_split (fun q' => ?_) (fun q' => ?_)<;>(have h':=q')<;>(try simp only [za1,za2,Ba,Bb,za3,ne_eq,za4,za5,za6,Ia,Ib,Ic,Ie,Da,Bc,Bd,Be,za7,za8] at h')<;>try (exfalso; omega)) | (have q':=trivial; first | refine hE _ _ ret_ne ?_ | refine hE _ _ exit_ne ?_))<;>(try simp (disch:=first | omega | decide +kernel) only [q',Int.toNat_natCast,go_sem,Qa,Qb,Qc,Qd,Qe,↓reduceIte,reduceCtorEq,Qf,Qg,Qh])<;>clear q') | refine hN _ ?_ ?_ Wk.kk | with_reducible refine And.intro ?_ ?_ | with_reducible omega | exact ok_ints | exact cells_ints | exact no_mem | with_reducible exact plain_ints | (refine le_maxLen ?_; omega) | (refine za9 ⟨?_,?_⟩) | (simp only [go_sem,Qc,Qb,zb1,zb2,forall_eq]; done)))
     exact hN (ps,k) _ hlt hsu.symm (by refine Wk.auto ?_ ?_<;>simp [extraK,lk,killL,St.kill,wipeO,wipeS,AV.has,AV.hasL,AO.wipe,List.map_set,updSt,insL,dropS,ins,])
 . obtain rfl : i=s.size:=by omega
   have hf : splI s b=ps++[s.extract k s.size]:=by rw [splI,← ha]
   simp (disch:=first | omega | decide +kernel) only [Int.toNat_natCast,go_sem,Qa,Qb,Qc,Qd,Qe,↓reduceIte,reduceCtorEq,Qf,Qg,Qh]
   (repeat' (first | ((first | (refine gsel_split (fun q' => ?_) (fun q' => ?_)<;>(have h':=q')<;>(try simp only [za1,za2,Ba,Bb,za3,ne_eq,za4,za5,za6,Ia,Ib,Ic,Ie,Da,Bc,Bd,Be,za7,za8] at h')<;>try (exfalso; omega)) | (have q':=trivial; first | refine hE _ _ ret_ne ?_ | refine hE _ _ exit_ne ?_))<;>(try simp (disch:=first | omega | decide +kernel) only [q',Int.toNat_natCast,go_sem,Qa,Qb,Qc,Qd,Qe,↓reduceIte,reduceCtorEq,Qf,Qg,Qh])<;>clear q') | refine hN _ ?_ ?_ Wk.kk | with_reducible refine And.intro ?_ ?_ | with_reducible omega | exact ok_ints | exact cells_ints | exact no_mem | with_reducible exact plain_ints | (refine le_maxLen ?_; omega) | (refine za9 ⟨?_,?_⟩) | (simp only [go_sem,Qc,Qb,zb1,zb2,forall_eq]; done)))
   have hpl:=plain_strs (ps++[s.extract k s.size])
   rw [hf]
   simp only [List.map_append,List.map_cons,List.map_nil] at hpl ⊢
   exact ret_sl 8 rfl rfl hpl
@[reducible] def QN : AV->Prop:=fun r => ∃ x : Int × Bool,r=.tup [.d (.int .i64 x.1),.d (.bool x.2)]∧-999999<=x.1∧x.1<=999999
theorem wrap_u8 (x : Int) (h1 : 0<=x) (h2 : x < 256) : IntKind.u8.wrap x=x:=by
 simp only [IntKind.wrap,IntKind.signed,IntKind.bits]
 simp; omega
theorem l1Read_ok (s : ByteArray) (hs : s.size<=1000000) : CtrR Try.prog 168 [.d (.str s)] [] [] true fun r oo => oo=[]∧QN r:=by
 have c1:=fun x : Int => l1In_ok x 1 6
 have hex : (s.extract 1 s.size).size=s.size - 1:=by rw [ByteArray.size_extract]; omega
 refine CtrR.of (n:=58) (rs:=[.tmp 2,.tmp 3]) Try.func168 rfl rfl Try.ntmps168 rfl rfl (by kernel_rfl) Try.checked.mixed ?_; intro u
 have t1 : Int.toNat 1=1:=rfl
 simp (disch:=first | omega | decide +kernel) only [Int.toNat_natCast,t1,go_sem,Qa,Qb,Qc,Qd,Qe,↓reduceIte,reduceCtorEq,Qf,Qg,Qh]
 (repeat' (first | ((first | (refine gsel_split (fun q' => ?_) (fun q' => ?_)<;>(have h':=q')<;>(try simp only [za1,za2,Ba,Bb,za3,ne_eq,za4,za5,za6,Ia,Ib,Ic,Ie,Da,Bc,Bd,Be,za7,za8] at h')<;>try (exfalso; omega)) | (have q':=trivial; first | refine callX_new (c1 _) rfl (by decide) ?_ | refine callY_new (c1 _) rfl ?_ | refine hE _ _ ret_ne ?_ | refine hE _ _ exit_ne ?_))<;>(try simp (disch:=first | omega | decide +kernel) only [q',Int.toNat_natCast,t1,go_sem,Qa,Qb,Qc,Qd,Qe,↓reduceIte,reduceCtorEq,Qf,Qg,Qh])<;>clear q') | refine hN _ ?_ ?_ Wk.kk | with_reducible refine And.intro ?_ ?_ | with_reducible omega | exact ok_ints | exact cells_ints | exact no_mem | with_reducible exact plain_ints | (refine le_maxLen ?_; omega) | (refine za9 ⟨?_,?_⟩) | (simp only [go_sem,Qc,Qb,zb1,zb2,forall_eq]; done)))
 all_goals (first | exact retR_dd rfl rfl ⟨rfl,(0,false),rfl,by decide,by decide⟩ | skip)
 . refine Ok.loopN [57,56,55,54,53,52,51,50,49,48,47,46,45,44,43,42,41,40,39,38,37,36,35,34,33,32,31,30,29,28,27,26,25,24,23,22,21,20,19,18,17,16,15,14,13,12,11,10,9,8,7,6,5] (fun i (n : Int) => [(6,.d (.int .i64 (i : Nat))),(5,.d (.int .i64 n))]) (fun _ _ => []) (s.extract 1 s.size).size (fun i n => 0<=n∧n + 1<=10 ^ i) 0 (by simp) (Wk.kk) ?_
   rintro R i n hN hE hi ⟨hn1,hn2⟩
   have hp : ((10 : Int) ^ i)<=1000000:=by
    have : ((10 ^ i : Nat) : Int)<=((10 ^ 6 : Nat) : Int):=Ib.2 (Nat.pow_le_pow_right (by decide) (by omega))
    simpa using this
   by_cases hlt : i < (s.extract 1 s.size).size
   . have hb : ((((s.extract 1 s.size)).data.toList.getD i 0).toNat : Int) < 256:=Ia.2 (UInt8.toNat_lt _)
     have hpw : ((10 : Int) ^ (i + 1))=10 ^ i * 10:=Int.pow_succ ..
     simp (disch:=first | omega | decide +kernel) only [Int.toNat_natCast,go_sem,Qa,Qb,Qc,Qd,Qe,↓reduceIte,reduceCtorEq,Qf,Qg,Qh]
     (repeat' (first | ((first | (refine gsel_split (fun q' => ?_) (fun q' => ?_)<;>(have h':=q')<;>(try simp only [za1,za2,Ba,Bb,za3,ne_eq,za4,za5,za6,Ia,Ib,Ic,Ie,Da,Bc,Bd,Be,za7,za8] at h')<;>try (exfalso; omega)) | (have q':=trivial; first | refine hE _ _ ret_ne ?_ | refine hE _ _ exit_ne ?_))<;>(try simp (disch:=first | omega | decide +kernel) only [q',Int.toNat_natCast,wrap_u8,go_sem,Qa,Qb,Qc,Qd,Qe,↓reduceIte,reduceCtorEq,Qf,Qg,Qh])<;>clear q') | refine hN _ ?_ ?_ Wk.kk | with_reducible refine And.intro ?_ ?_ | with_reducible omega | exact ok_ints | exact cells_ints | exact no_mem | with_reducible exact plain_ints | (refine le_maxLen ?_; omega) | (refine za9 ⟨?_,?_⟩) | (simp only [go_sem,Qc,Qb,zb1,zb2,forall_eq]; done)))
     all_goals (first | exact retR_dd rfl rfl ⟨rfl,(0,false),rfl,by decide,by decide⟩ | (refine hN (10 * n + (((s.extract 1 s.size).data.toList.getD i 0).toNat - 48)) _ hlt ⟨by omega,by omega⟩ (by refine Wk.auto ?_ ?_<;>simp [extraK,lk,killL,St.kill,wipeO,wipeS,AV.has,AV.hasL,AO.wipe,List.map_set,updSt,insL,dropS,ins,])))
   . obtain rfl : i=(s.extract 1 s.size).size:=by omega
     have c2:=l1Num_ok n (by omega)
     have c3:=l1Num_ok (0 - n) (by omega)
     simp (disch:=first | omega | decide +kernel) only [Int.toNat_natCast,go_sem,Qa,Qb,Qc,Qd,Qe,↓reduceIte,reduceCtorEq,Qf,Qg,Qh]
     (repeat' (first | ((first | (refine gsel_split (fun q' => ?_) (fun q' => ?_)<;>(have h':=q')<;>(try simp only [za1,za2,Ba,Bb,za3,ne_eq,za4,za5,za6,Ia,Ib,Ic,Ie,Da,Bc,Bd,Be,za7,za8] at h')<;>try (exfalso; omega)) | (have q':=trivial; first | refine callX_new (c2) rfl (by decide) ?_ | refine callY_new (c2) rfl ?_ | refine callX_new (c3) rfl (by decide) ?_ | refine callY_new (c3) rfl ?_ | refine hE _ _ ret_ne ?_ | refine hE _ _ exit_ne ?_))<;>(try simp (disch:=first | omega | decide +kernel) only [q',Int.toNat_natCast,go_sem,Qa,Qb,Qc,Qd,Qe,↓reduceIte,reduceCtorEq,Qf,Qg,Qh])<;>clear q') | refine hN _ ?_ ?_ Wk.kk | with_reducible refine And.intro ?_ ?_ | with_reducible omega | exact ok_ints | exact cells_ints | exact no_mem | with_reducible exact plain_ints | (refine le_maxLen ?_; omega) | (refine za9 ⟨?_,?_⟩) | (simp only [go_sem,Qc,Qb,zb1,zb2,forall_eq]; done)))
     all_goals (first | exact retR_dd rfl rfl ⟨rfl,(0,false),rfl,by decide,by decide⟩ | exact retR_dd rfl rfl ⟨rfl,(n,true),rfl,by omega,by omega⟩ | exact retR_dd rfl rfl ⟨rfl,(0 - n,true),rfl,by omega,by omega⟩)
 . refine Ok.loopN [57,56,55,54,53,52,51,50,49,48,47,46,45,44,43,42,41,40,39,38,37,36,35,34,33,32,31,30,29,28,27,26,25,24,23,22,21,20,19,18,17,16,15,14,13,12,11,10,9,8,7,6,5] (fun i (n : Int) => [(6,.d (.int .i64 (i : Nat))),(5,.d (.int .i64 n))]) (fun _ _ => []) s.size (fun i n => 0<=n∧n + 1<=10 ^ i) 0 (by simp) (Wk.kk) ?_
   rintro R i n hN hE hi ⟨hn1,hn2⟩
   have hp : ((10 : Int) ^ i)<=1000000:=by
    have : ((10 ^ i : Nat) : Int)<=((10 ^ 6 : Nat) : Int):=Ib.2 (Nat.pow_le_pow_right (by decide) (by omega))
    simpa using this
   by_cases hlt : i < s.size
   . have hb : (((s).data.toList.getD i 0).toNat : Int) < 256:=Ia.2 (UInt8.toNat_lt _)
     have hpw : ((10 : Int) ^ (i + 1))=10 ^ i * 10:=Int.pow_succ ..
     simp (disch:=first | omega | decide +kernel) only [Int.toNat_natCast,go_sem,Qa,Qb,Qc,Qd,Qe,↓reduceIte,reduceCtorEq,Qf,Qg,Qh]
     (repeat' (first | ((first | (refine gsel_split (fun q' => ?_) (fun q' => ?_)<;>(have h':=q')<;>(try simp only [za1,za2,Ba,Bb,za3,ne_eq,za4,za5,za6,Ia,Ib,Ic,Ie,Da,Bc,Bd,Be,za7,za8] at h')<;>try (exfalso; omega)) | (have q':=trivial; first | refine hE _ _ ret_ne ?_ | refine hE _ _ exit_ne ?_))<;>(try simp (disch:=first | omega | decide +kernel) only [q',Int.toNat_natCast,wrap_u8,go_sem,Qa,Qb,Qc,Qd,Qe,↓reduceIte,reduceCtorEq,Qf,Qg,Qh])<;>clear q') | refine hN _ ?_ ?_ Wk.kk | with_reducible refine And.intro ?_ ?_ | with_reducible omega | exact ok_ints | exact cells_ints | exact no_mem | with_reducible exact plain_ints | (refine le_maxLen ?_; omega) | (refine za9 ⟨?_,?_⟩) | (simp only [go_sem,Qc,Qb,zb1,zb2,forall_eq]; done)))
     all_goals (first | exact retR_dd rfl rfl ⟨rfl,(0,false),rfl,by decide,by decide⟩ | (refine hN (10 * n + ((s.data.toList.getD i 0).toNat - 48)) _ hlt ⟨by omega,by omega⟩ (by refine Wk.auto ?_ ?_<;>simp [extraK,lk,killL,St.kill,wipeO,wipeS,AV.has,AV.hasL,AO.wipe,List.map_set,updSt,insL,dropS,ins,])))
   . obtain rfl : i=s.size:=by omega
     have c2:=l1Num_ok n (by omega)
     have c3:=l1Num_ok (0 - n) (by omega)
     simp (disch:=first | omega | decide +kernel) only [Int.toNat_natCast,go_sem,Qa,Qb,Qc,Qd,Qe,↓reduceIte,reduceCtorEq,Qf,Qg,Qh]
     (repeat' (first | ((first | (refine gsel_split (fun q' => ?_) (fun q' => ?_)<;>(have h':=q')<;>(try simp only [za1,za2,Ba,Bb,za3,ne_eq,za4,za5,za6,Ia,Ib,Ic,Ie,Da,Bc,Bd,Be,za7,za8] at h')<;>try (exfalso; omega)) | (have q':=trivial; first | refine callX_new (c2) rfl (by decide) ?_ | refine callY_new (c2) rfl ?_ | refine callX_new (c3) rfl (by decide) ?_ | refine callY_new (c3) rfl ?_ | refine hE _ _ ret_ne ?_ | refine hE _ _ exit_ne ?_))<;>(try simp (disch:=first | omega | decide +kernel) only [q',Int.toNat_natCast,go_sem,Qa,Qb,Qc,Qd,Qe,↓reduceIte,reduceCtorEq,Qf,Qg,Qh])<;>clear q') | refine hN _ ?_ ?_ Wk.kk | with_reducible refine And.intro ?_ ?_ | with_reducible omega | exact ok_ints | exact cells_ints | exact no_mem | with_reducible exact plain_ints | (refine le_maxLen ?_; omega) | (refine za9 ⟨?_,?_⟩) | (simp only [go_sem,Qc,Qb,zb1,zb2,forall_eq]; done)))
     all_goals (first | exact retR_dd rfl rfl ⟨rfl,(0,false),rfl,by decide,by decide⟩ | exact retR_dd rfl rfl ⟨rfl,(n,true),rfl,by omega,by omega⟩ | exact retR_dd rfl rfl ⟨rfl,(0 - n,true),rfl,by omega,by omega⟩)
 . refine Ok.loopN [57,56,55,54,53,52,51,50,49,48,47,46,45,44,43,42,41,40,39,38,37,36,35,34,33,32,31,30,29,28,27,26,25,24,23,22,21,20,19,18,17,16,15,14,13,12,11,10,9,8,7,6,5] (fun i (n : Int) => [(6,.d (.int .i64 (i : Nat))),(5,.d (.int .i64 n))]) (fun _ _ => []) s.size (fun i n => 0<=n∧n + 1<=10 ^ i) 0 (by simp) (Wk.kk) ?_
   rintro R i n hN hE hi ⟨hn1,hn2⟩
   have hp : ((10 : Int) ^ i)<=1000000:=by
    have : ((10 ^ i : Nat) : Int)<=((10 ^ 6 : Nat) : Int):=Ib.2 (Nat.pow_le_pow_right (by decide) (by omega))
    simpa using this
   by_cases hlt : i < s.size
   . have hb : (((s).data.toList.getD i 0).toNat : Int) < 256:=Ia.2 (UInt8.toNat_lt _)
     have hpw : ((10 : Int) ^ (i + 1))=10 ^ i * 10:=Int.pow_succ ..
     simp (disch:=first | omega | decide +kernel) only [Int.toNat_natCast,go_sem,Qa,Qb,Qc,Qd,Qe,↓reduceIte,reduceCtorEq,Qf,Qg,Qh]
     (repeat' (first | ((first | (refine gsel_split (fun q' => ?_) (fun q' => ?_)<;>(have h':=q')<;>(try simp only [za1,za2,Ba,Bb,za3,ne_eq,za4,za5,za6,Ia,Ib,Ic,Ie,Da,Bc,Bd,Be,za7,za8] at h')<;>try (exfalso; omega)) | (have q':=trivial; first | refine hE _ _ ret_ne ?_ | refine hE _ _ exit_ne ?_))<;>(try simp (disch:=first | omega | decide +kernel) only [q',Int.toNat_natCast,wrap_u8,go_sem,Qa,Qb,Qc,Qd,Qe,↓reduceIte,reduceCtorEq,Qf,Qg,Qh])<;>clear q') | refine hN _ ?_ ?_ Wk.kk | with_reducible refine And.intro ?_ ?_ | with_reducible omega | exact ok_ints | exact cells_ints | exact no_mem | with_reducible exact plain_ints | (refine le_maxLen ?_; omega) | (refine za9 ⟨?_,?_⟩) | (simp only [go_sem,Qc,Qb,zb1,zb2,forall_eq]; done)))
     all_goals (first | exact retR_dd rfl rfl ⟨rfl,(0,false),rfl,by decide,by decide⟩ | (refine hN (10 * n + ((s.data.toList.getD i 0).toNat - 48)) _ hlt ⟨by omega,by omega⟩ (by refine Wk.auto ?_ ?_<;>simp [extraK,lk,killL,St.kill,wipeO,wipeS,AV.has,AV.hasL,AO.wipe,List.map_set,updSt,insL,dropS,ins,])))
   . obtain rfl : i=s.size:=by omega
     have c2:=l1Num_ok n (by omega)
     have c3:=l1Num_ok (0 - n) (by omega)
     simp (disch:=first | omega | decide +kernel) only [Int.toNat_natCast,go_sem,Qa,Qb,Qc,Qd,Qe,↓reduceIte,reduceCtorEq,Qf,Qg,Qh]
     (repeat' (first | ((first | (refine gsel_split (fun q' => ?_) (fun q' => ?_)<;>(have h':=q')<;>(try simp only [za1,za2,Ba,Bb,za3,ne_eq,za4,za5,za6,Ia,Ib,Ic,Ie,Da,Bc,Bd,Be,za7,za8] at h')<;>try (exfalso; omega)) | (have q':=trivial; first | refine callX_new (c2) rfl (by decide) ?_ | refine callY_new (c2) rfl ?_ | refine callX_new (c3) rfl (by decide) ?_ | refine callY_new (c3) rfl ?_ | refine hE _ _ ret_ne ?_ | refine hE _ _ exit_ne ?_))<;>(try simp (disch:=first | omega | decide +kernel) only [q',Int.toNat_natCast,go_sem,Qa,Qb,Qc,Qd,Qe,↓reduceIte,reduceCtorEq,Qf,Qg,Qh])<;>clear q') | refine hN _ ?_ ?_ Wk.kk | with_reducible refine And.intro ?_ ?_ | with_reducible omega | exact ok_ints | exact cells_ints | exact no_mem | with_reducible exact plain_ints | (refine le_maxLen ?_; omega) | (refine za9 ⟨?_,?_⟩) | (simp only [go_sem,Qc,Qb,zb1,zb2,forall_eq]; done)))
     all_goals (first | exact retR_dd rfl rfl ⟨rfl,(0,false),rfl,by decide,by decide⟩ | exact retR_dd rfl rfl ⟨rfl,(n,true),rfl,by omega,by omega⟩ | exact retR_dd rfl rfl ⟨rfl,(0 - n,true),rfl,by omega,by omega⟩)
end Abs.Y
