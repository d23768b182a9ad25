/- What functions of this program compute, over plain data. No condition. -/
import Derived.Test.YtckigpgkmdhfoaaST8
set_option linter.all false
namespace Abs.Y
open Go Go.Proofs Abs
open Nat renaming reduceEqDiff -> Qa, reduceLT -> Qb, reduceAdd -> Qc, reduceMul -> Qd, reduceSub -> Qe, reduceLeDiff -> Qf, reduceSubDiff -> Qg, reduceBEq -> Qh
open Bool renaming not_eq_true' -> Ba, not_eq_false' -> Bb, and_eq_true -> Bc, or_eq_true -> Bd, or_eq_false_iff -> Be
open Int renaming ofNat_lt -> Ia, ofNat_le -> Ib, not_lt -> Ic, not_le -> Ie
open Decidable renaming not_not -> Da
set_option maxRecDepth 100000

theorem vInts_self (a : List Int) (hl : a.length<=4294967296) : Ctr Try.prog 16 [.ints a,.ints a] false (.d (.bool true)) []:=by
 have h:=vInts_ok a a hl
 rwa [decide_eq_true rfl] at h
set_option maxHeartbeats 16000000 in
theorem law_FnRestriction : ∀ xs,AllR [isSl isU8] xs->Ctr Try.prog 3 xs false (.d (.bool true)) []:=by
 intro xs hx
 obtain ⟨x0,ys,rfl,h0,hx⟩:=allR_cons hx
 obtain rfl:=allR_nil hx
 obtain ⟨code,rfl,hcb⟩:=r_bytes h0
 have c0:=vBig_ok code
 by_cases hbig : 65536 < code.length
 . rw [decide_eq_true hbig] at c0
   refine Ctr.of (n:=178) (rs:=[.tmp 2]) Try.func3 rfl rfl Try.ntmps3 rfl rfl (by kernel_rfl) Try.checked.mixed ?_
   simp (disch:=first | omega | decide +kernel) only [go_sem,Qa,Qb,Qc,Qd,Qe,↓reduceIte,reduceCtorEq,Qf,Qg,Qh]
   refine callX_new (c0) rfl (by decide) ?_
   simp (disch:=first | omega | decide +kernel) only [go_sem,Qa,Qb,Qc,Qd,Qe,↓reduceIte,reduceCtorEq,Qf,Qg,Qh]
 have hc : CodeOK code:=⟨by omega,hcb⟩
 rw [decide_eq_false hbig] at c0
 refine Ctr.ofK (n:=178) (rs:=[.tmp 2]) Try.func3 rfl rfl Try.ntmps3 rfl rfl (by kernel_rfl) Try.checked.mixed ?_
 refine Ok.seq (Ok.go ?_)
 simp (disch:=first | omega | decide +kernel) only [go_sem,Qa,Qb,Qc,Qd,Qe,↓reduceIte,reduceCtorEq,Qf,Qg,Qh]
 refine Ok.seq (Ok.go ?_)
 simp (disch:=first | omega | decide +kernel) only [go_sem,Qa,Qb,Qc,Qd,Qe,↓reduceIte,reduceCtorEq,Qf,Qg,Qh]
 (repeat' (first | ((first | (refine gsel_split (fun q' => ?_) (fun q' => ?_)<;>(have h':=q')<;>(try simp only [za1,za2,Ba,Bb,za3,ne_eq,za4,za5,za6,Ia,Ib,Ic,Ie,Da,Bc,Bd,Be,za7,za8] at h')<;>try (exfalso; omega)) | (have q':=trivial; first | refine callX_new (c0) rfl (by decide) ?_ | refine callY_new (c0) rfl ?_ | refine hE _ _ ret_ne ?_ | refine hE _ _ exit_ne ?_))<;>(try simp (disch:=first | omega | decide +kernel) only [q',go_sem,Qa,Qb,Qc,Qd,Qe,↓reduceIte,reduceCtorEq,Qf,Qg,Qh])<;>clear q') | refine hN _ ?_ ?_ Wk.kk | with_reducible refine And.intro ?_ ?_ | with_reducible omega | exact ok_ints | exact cells_ints | exact no_mem | with_reducible exact plain_ints | (refine le_maxLen ?_; omega) | (refine za9 ⟨?_,?_⟩) | (simp only [go_sem,Qc,Qb,zb1,zb2,forall_eq]; done)))
 refine Ok.seq (Ok.go ?_)
 simp (disch:=first | omega | decide +kernel) only [go_sem,Qa,Qb,Qc,Qd,Qe,↓reduceIte,reduceCtorEq,Qf,Qg,Qh]
 have d1:=drawRestrictCnf_ok hc
 (repeat' (first | ((first | (refine gsel_split (fun q' => ?_) (fun q' => ?_)<;>(have h':=q')<;>(try simp only [za1,za2,Ba,Bb,za3,ne_eq,za4,za5,za6,Ia,Ib,Ic,Ie,Da,Bc,Bd,Be,za7,za8] at h')<;>try (exfalso; omega)) | (have q':=trivial; first | (refine callX_rels (d1) ⟨.inl rfl,trivial⟩ (by simp [dstB]) ?_; rintro _ ⟨xa,rfl,hxa⟩) | (refine callX_rels (d1) ⟨.inr ⟨rfl,_,rfl,rfl⟩,trivial⟩ (by simp [dstB]) ?_; rintro _ ⟨xa,rfl,hxa⟩) | refine hE _ _ ret_ne ?_ | refine hE _ _ exit_ne ?_))<;>(try simp (disch:=first | omega | decide +kernel) only [q',go_sem,Qa,Qb,Qc,Qd,Qe,↓reduceIte,reduceCtorEq,Qf,Qg,Qh])<;>clear q') | refine hN _ ?_ ?_ Wk.kk | with_reducible refine And.intro ?_ ?_ | with_reducible omega | exact ok_ints | exact cells_ints | exact no_mem | with_reducible exact plain_ints | (refine le_maxLen ?_; omega) | (refine za9 ⟨?_,?_⟩) | (simp only [go_sem,Qc,Qb,zb1,zb2,forall_eq]; done)))
 obtain ⟨⟨w,cs⟩,a⟩:=xa
 dsimp only at hxa ⊢
 obtain ⟨hw1,hw2,hl,hcl,hal⟩:=hxa
 have z : Sz3 cs a:=⟨by omega,fun c hc => by have:=hcl c hc; omega,by omega⟩
 obtain ⟨gs,gu,hg⟩ : ∃ (gs : List (List Int)) (gu : Int),(ok3 w cs a=false->gs=[]∧gu=0)∧(ok3 w cs a=true->gs=rsI cs a cs.length∧gu=w):=by
  cases ok3 w cs a
  . exact ⟨[],0,fun _ => ⟨rfl,rfl⟩,fun h => nomatch h⟩
  . exact ⟨_,_,fun h => (nomatch h),fun _ => ⟨rfl,rfl⟩⟩
 have hgl : gs.length<=100∧∀ c ∈ gs,c.length<=100:=by
  cases hk : ok3 w cs a with
  | false => obtain ⟨rfl,_⟩:=hg.1 hk; simp
  | true =>
    obtain ⟨rfl,_⟩:=hg.2 hk
    have:=rsI_len cs a cs.length
    refine ⟨by omega,fun c hc => ?_⟩
    obtain ⟨d,hd,rfl⟩:=mem_rs cs.length (Nat.le_refl _) hc
    exact Nat.le_trans (List.length_filter_le _ _) (hcl d hd)
 refine Ok.seqJ ⟨[(6,.d (.bool (ok3 w cs a))),(5,.p 5 0),(4,.d (.ints a)),(3,.p 3 0),(2,.d (.bool false)),(0,.d (D.bytes code))],[(5,.box 26 [.d (.int .i64 gu),.d (.slice (gs.map D.ints))]),(3,.box 26 [.d (.int .i64 w),.d (.slice (cs.map D.ints))])]⟩ ?_ (Ok.go ?_)
 rotate_left
 . cases hk : ok3 w cs a with
   | false =>
     obtain ⟨rfl,rfl⟩:=hg.1 hk
     have c1:=iRestrict_no w cs a z hk
     simp (disch:=first | omega | decide +kernel) only [go_sem,Qa,Qb,Qc,Qd,Qe,↓reduceIte,reduceCtorEq,Qf,Qg,Qh]
     (repeat' (first | ((first | (refine gsel_split (fun q' => ?_) (fun q' => ?_)<;>(have h':=q')<;>(try simp only [za1,za2,Ba,Bb,za3,ne_eq,za4,za5,za6,Ia,Ib,Ic,Ie,Da,Bc,Bd,Be,za7,za8] at h')<;>try (exfalso; omega)) | (have q':=trivial; first | refine callX_shared (c1) rfl (by decide) ?_ | refine callY_shared (c1) rfl ?_ | refine hE _ _ ret_ne ?_ | refine hE _ _ exit_ne ?_))<;>(try simp (disch:=first | omega | decide +kernel) only [q',go_sem,Qa,Qb,Qc,Qd,Qe,↓reduceIte,reduceCtorEq,Qf,Qg,Qh])<;>clear q') | refine hN _ ?_ ?_ Wk.kk | with_reducible refine And.intro ?_ ?_ | with_reducible omega | exact ok_ints | exact cells_ints | exact no_mem | with_reducible exact plain_ints | (refine le_maxLen ?_; omega) | (refine za9 ⟨?_,?_⟩) | (simp only [go_sem,Qc,Qb,zb1,zb2,forall_eq]; done)))
     exact (Wk.kk)
   | true =>
     obtain ⟨e1,e2⟩:=hg.2 hk; subst e1; have e3:=e2.symm; subst e3
     have hk':=hk
     unfold ok3 at hk'
     rw [Bc] at hk'
     have c1:=restrictCnf_ok w cs a hk'.1 hk'.2 (fun c hc => by have:=hcl c hc; omega) (by omega)
     simp (disch:=first | omega | decide +kernel) only [go_sem,Qa,Qb,Qc,Qd,Qe,↓reduceIte,reduceCtorEq,Qf,Qg,Qh]
     (repeat' (first | ((first | (refine gsel_split (fun q' => ?_) (fun q' => ?_)<;>(have h':=q')<;>(try simp only [za1,za2,Ba,Bb,za3,ne_eq,za4,za5,za6,Ia,Ib,Ic,Ie,Da,Bc,Bd,Be,za7,za8] at h')<;>try (exfalso; omega)) | (have q':=trivial; first | refine callX_new (c1) rfl (by decide) ?_ | refine callY_new (c1) rfl ?_ | refine hE _ _ ret_ne ?_ | refine hE _ _ exit_ne ?_))<;>(try simp (disch:=first | omega | decide +kernel) only [q',go_sem,Qa,Qb,Qc,Qd,Qe,↓reduceIte,reduceCtorEq,Qf,Qg,Qh])<;>clear q') | refine hN _ ?_ ?_ Wk.kk | with_reducible refine And.intro ?_ ?_ | with_reducible omega | exact ok_ints | exact cells_ints | exact no_mem | with_reducible exact plain_ints | (refine le_maxLen ?_; omega) | (refine za9 ⟨?_,?_⟩) | (simp only [go_sem,Qc,Qb,zb1,zb2,forall_eq]; done)))
     exact (Wk.data (j:=3700000) rfl rfl).trans (by refine Wk.auto ?_ ?_<;>simp [extraK,lk,killL,St.kill,wipeO,wipeS,AV.has,AV.hasL,AO.wipe,List.map_set,updSt,insL,dropS,ins,St.frz,frzS,frzO,AV.frz,AV.frzL,AO.frz])
 have c2 : Ctr Try.prog 9 [.agg [.int .i64 w,.slice (cs.map D.ints)],.ints a] true (.tup [.d (.agg [.int .i64 gu,.slice (gs.map D.ints)]),.d (.bool (ok3 w cs a))]) []:=by
  cases hk : ok3 w cs a with
  | false => obtain ⟨rfl,rfl⟩:=hg.1 hk; exact sRestrict_no w cs a z hk
  | true => obtain ⟨e1,e2⟩:=hg.2 hk; subst e1; have e3:=e2.symm; subst e3; exact sRestrict_yes w cs a z hk
 have c3:=vCnf_self gu gs (by omega) (fun c hc => by have:=hgl.2 c hc; omega)
 refine Ok.seq (Ok.go ?_)
 simp (disch:=first | omega | decide +kernel) only [go_sem,Qa,Qb,Qc,Qd,Qe,↓reduceIte,reduceCtorEq,Qf,Qg,Qh]
 (repeat' (first | ((first | (refine gsel_split (fun q' => ?_) (fun q' => ?_)<;>(have h':=q')<;>(try simp only [za1,za2,Ba,Bb,za3,ne_eq,za4,za5,za6,Ia,Ib,Ic,Ie,Da,Bc,Bd,Be,za7,za8] at h')<;>try (exfalso; omega)) | (have q':=trivial; first | refine callX_shared (c2) rfl (by decide) ?_ | refine callY_shared (c2) rfl ?_ | refine callX_new (c3) rfl (by decide) ?_ | refine callY_new (c3) rfl ?_ | refine hE _ _ ret_ne ?_ | refine hE _ _ exit_ne ?_))<;>(try simp (disch:=first | omega | decide +kernel) only [q',go_sem,Qa,Qb,Qc,Qd,Qe,↓reduceIte,reduceCtorEq,Qf,Qg,Qh])<;>clear q') | refine hN _ ?_ ?_ Wk.kk | with_reducible refine And.intro ?_ ?_ | with_reducible omega | exact ok_ints | exact cells_ints | exact no_mem | with_reducible exact plain_ints | (refine le_maxLen ?_; omega) | (refine za9 ⟨?_,?_⟩) | (simp only [go_sem,Qc,Qb,zb1,zb2,forall_eq]; done)))
 clear c2 c3 d1 c0
 refine Ok.seqJ ⟨[(2,.d (.bool false)),(0,.d (D.bytes code))],[]⟩ ?_ (Ok.go ?_)
 rotate_left
 . cases hk : ok3 w cs a with
   | false =>
     simp (disch:=first | omega | decide +kernel) only [go_sem,Qa,Qb,Qc,Qd,Qe,↓reduceIte,reduceCtorEq,Qf,Qg,Qh]
     (repeat' (first | ((first | (refine gsel_split (fun q' => ?_) (fun q' => ?_)<;>(have h':=q')<;>(try simp only [za1,za2,Ba,Bb,za3,ne_eq,za4,za5,za6,Ia,Ib,Ic,Ie,Da,Bc,Bd,Be,za7,za8] at h')<;>try (exfalso; omega)) | (have q':=trivial; first | refine hE _ _ ret_ne ?_ | refine hE _ _ exit_ne ?_))<;>(try simp (disch:=first | omega | decide +kernel) only [q',go_sem,Qa,Qb,Qc,Qd,Qe,↓reduceIte,reduceCtorEq,Qf,Qg,Qh])<;>clear q') | refine hN _ ?_ ?_ Wk.kk | with_reducible refine And.intro ?_ ?_ | with_reducible omega | exact ok_ints | exact cells_ints | exact no_mem | with_reducible exact plain_ints | (refine le_maxLen ?_; omega) | (refine za9 ⟨?_,?_⟩) | (simp only [go_sem,Qc,Qb,zb1,zb2,forall_eq]; done)))
     exact (Wk.kk)
   | true =>
     obtain ⟨e1,e2⟩:=hg.2 hk; subst e1; have e3:=e2.symm; subst e3
     have hk':=hk
     unfold ok3 at hk'
     rw [Bc] at hk'
     obtain ⟨hkc,hka⟩:=hk'
     have hv:=okVars_iff.1 (vars_of_ok hka)
     obtain ⟨n,rfl⟩:=Int.eq_ofNat_of_zero_le hv.1
     obtain ⟨x,hx1,hx2,d1⟩:=vAt_ok hc 2 (by omega)
     obtain ⟨y,hy1,hy2,d2⟩:=vAt_ok hc 3 (by omega)
     have e : IntKind.wrap .i64 (1 * 2 ^ min n 64)=((2 ^ n : Nat) : Int):=shl_one (by omega)
     have hq1 : 1<=2 ^ n:=Nat.one_le_two_pow
     have hq2 : 2 ^ n<=2 ^ 12:=Nat.pow_le_pow_right (by decide) (by omega)
     have h2 : (x * 256 + y).tmod ((2 ^ n : Nat) : Int)=(((x * 256 + y).toNat % 2 ^ n : Nat) : Int):=by
      rw [Int.tmod_eq_emod_of_nonneg (by omega),Int.natCast_emod,Int.toNat_of_nonneg (by omega)]
     obtain ⟨b,hb⟩ : ∃ b,b=(x * 256 + y).toNat % 2 ^ n:=⟨_,rfl⟩
     have hbl : b < 2 ^ n:=by rw [hb]; exact Nat.mod_lt _ (by omega)
     rw [← hb] at h2
     have hga:=good_of_ok hka
     have hla : ∀ l ∈ a,l.natAbs<=n:=fun l hl => by have:=bd_of_ok hka l hl; omega
     have hset:=setA_ok (u:=n) (b:=b) (a:=a) (by omega) hbl hga hla
     have hagr:=agree_setA (u:=n) (b:=b) (a:=a) (by omega) hbl hga hla
     have t1:=isModelOf_ok n (setA b a a.length) cs hkc (fun c hc => by have:=hcl c hc; omega) (hset a.length (Nat.le_refl _)).1
     have t2:=isModelOf_ok n (setA b a a.length) (rsI cs a cs.length) (okCnf_rs a hkc) (fun c hc => by have:=hgl.2 c hc; omega) (hset a.length (Nat.le_refl _)).1
     rw [tmod_rs hagr (fun c hc l hl => ((good_of_ok ((okCnf_all hkc).2.2 c hc)).2 l hl).1) cs.length (Nat.le_refl _),List.take_length] at t2
     generalize tmod cs (setA b a a.length)=m at *
     have hs63 : ∀ i,i<=a.length->setA b a i < 9223372036854775808:=fun i hi => by have:=(hset i hi).1; omega
     clear hset hagr hg
     generalize 2 ^ n=q at *
     simp (disch:=first | omega | decide +kernel) only [e,h2,Int.toNat_natCast,go_sem,Qa,Qb,Qc,Qd,Qe,↓reduceIte,reduceCtorEq,Qf,Qg,Qh]
     (repeat' (first | ((first | (refine gsel_split (fun q' => ?_) (fun q' => ?_)<;>(have h':=q')<;>(try simp only [za1,za2,Ba,Bb,za3,ne_eq,za4,za5,za6,Ia,Ib,Ic,Ie,Da,Bc,Bd,Be,za7,za8] at h')<;>try (exfalso; omega)) | (have q':=trivial; first | refine callX_new (d1) rfl (by decide) ?_ | refine callY_new (d1) rfl ?_ | refine callX_new (d2) rfl (by decide) ?_ | refine callY_new (d2) rfl ?_ | refine hE _ _ ret_ne ?_ | refine hE _ _ exit_ne ?_))<;>(try simp (disch:=first | omega | decide +kernel) only [q',e,h2,Int.toNat_natCast,go_sem,Qa,Qb,Qc,Qd,Qe,↓reduceIte,reduceCtorEq,Qf,Qg,Qh])<;>clear q') | refine hN _ ?_ ?_ Wk.kk | with_reducible refine And.intro ?_ ?_ | with_reducible omega | exact ok_ints | exact cells_ints | exact no_mem | with_reducible exact plain_ints | (refine le_maxLen ?_; omega) | (refine za9 ⟨?_,?_⟩) | (simp only [go_sem,Qc,Qb,zb1,zb2,forall_eq]; done)))
     refine Ok.loopN [177,176,175,174,173,172,171,170,169,168,167,166,165,164,163,162,161,160,159,158,157,156,155,154,153,152,151,150,149,148,147,146,145,144,143,142,141,140,139,138,137,136,135,134,133,132,131,130,129,128,127,126,125,124,123,122,121,120,119,118,117,116,115,114,113,112,111,110,109,108,107,106,105,104,103,102,101,100,99,98,97,96,95,94,93,92,91,90,89,88,87,86,85,84,83,82,81,80,79,78,77,76,75,74,73,72,71,70,69,68,67,66,65,64,63,62,61,60,59,58,57,56,55,54,53,52,51,50,49,48,47,46,45,44,43,42,41,40,39,38,37,36,35,34,33,32,31,30,29,28,27,26,25,24,23,22,21,20,19,18,17,16,15,14,13,12,11,10,9,8,7,6,1] (fun i (_ : Unit) => [(10,.d (.int .i64 (i : Nat))),(9,.d (.int .i64 (setA b a i : Nat)))]) (fun _ _ => []) a.length (fun _ _ => True) () trivial (by refine Wk.auto ?_ ?_<;>simp [extraK,lk,killL,St.kill,wipeO,wipeS,AV.has,AV.hasL,AO.wipe,List.map_set,updSt,insL,dropS,ins,show setA b a 0=b from rfl]) ?_
     rintro R i _ hN hE hi _
     have hsi:=hs63 i hi
     by_cases hlt : i < a.length
     . have hei : el (a.map (D.int .i64)) i=.int .i64 (a.getD i 0):=el_ints hlt
       have hm:=getD_mem (z:=(0 : Int)) hlt
       have hv0:=(hga.2 _ hm).1
       have hvn:=hla _ hm
       have hsu : setA b a (i + 1)=setB (setA b a i) (a.getD i 0):=rfl
       generalize a.getD i 0=v at *
       generalize setA b a i=s at *
       generalize setA b a (i + 1)=s' at *
       clear hE t1 t2 d1 d2 e h2
       by_cases hpos : 0 < v
       . have e5 : IntKind.wrap .i64 (1 * 2 ^ min (v - 1).toNat 64)=((2 ^ (v.natAbs - 1) : Nat) : Int):=by
          rw [show (v - 1).toNat=v.natAbs - 1 by omega]; exact shl_one (by omega)
         have e6 : bitV .or .i64 (s : Int) ((2 ^ (v.natAbs - 1) : Nat) : Int)=((s ||| 2 ^ (v.natAbs - 1) : Nat) : Int):=bitV_or (by omega) (by have : 2 ^ (v.natAbs - 1)<=2 ^ 12:=Nat.pow_le_pow_right (by decide) (by omega); omega)
         rw [setB,if_pos hpos] at hsu
         rw [← hsu] at e6
         generalize 2 ^ (v.natAbs - 1)=p at *
         simp (disch:=first | omega | decide +kernel) only [D.ints,hei,go_sem,Qa,Qb,Qc,Qd,Qe,↓reduceIte,reduceCtorEq,Qf,Qg,Qh]
         (repeat' (first | ((first | (refine gsel_split (fun q' => ?_) (fun q' => ?_)<;>(have h':=q')<;>(try simp only [za1,za2,Ba,Bb,za3,ne_eq,za4,za5,za6,Ia,Ib,Ic,Ie,Da,Bc,Bd,Be,za7,za8] at h')<;>try (exfalso; omega)) | (have q':=trivial; first | refine hE _ _ ret_ne ?_ | refine hE _ _ exit_ne ?_))<;>(try simp (disch:=first | omega | decide +kernel) only [q',D.ints,hei,e5,e6,go_sem,Qa,Qb,Qc,Qd,Qe,↓reduceIte,reduceCtorEq,Qf,Qg,Qh])<;>clear q') | refine hN _ ?_ ?_ Wk.kk | with_reducible refine And.intro ?_ ?_ | with_reducible omega | exact ok_ints | exact cells_ints | exact no_mem | with_reducible exact plain_ints | (refine le_maxLen ?_; omega) | (refine za9 ⟨?_,?_⟩) | (simp only [go_sem,Qc,Qb,zb1,zb2,forall_eq]; done)))
         exact hN () _ hlt trivial (by refine Wk.auto ?_ ?_<;>simp [extraK,lk,killL,St.kill,wipeO,wipeS,AV.has,AV.hasL,AO.wipe,List.map_set,updSt,insL,dropS,ins,D.ints])
       . have e5 : IntKind.wrap .i64 (1 * 2 ^ min (0 - v - 1).toNat 64)=((2 ^ (v.natAbs - 1) : Nat) : Int):=by
          rw [show (0 - v - 1).toNat=v.natAbs - 1 by omega]; exact shl_one (by omega)
         have e6 : bitV .andNot .i64 (s : Int) ((2 ^ (v.natAbs - 1) : Nat) : Int)=((clrN s (v.natAbs - 1) : Nat) : Int):=bitV_andNot (by omega) (by omega)
         rw [setB,if_neg hpos] at hsu
         rw [← hsu] at e6
         generalize 2 ^ (v.natAbs - 1)=p at *
         simp (disch:=first | omega | decide +kernel) only [D.ints,hei,go_sem,Qa,Qb,Qc,Qd,Qe,↓reduceIte,reduceCtorEq,Qf,Qg,Qh]
         (repeat' (first | ((first | (refine gsel_split (fun q' => ?_) (fun q' => ?_)<;>(have h':=q')<;>(try simp only [za1,za2,Ba,Bb,za3,ne_eq,za4,za5,za6,Ia,Ib,Ic,Ie,Da,Bc,Bd,Be,za7,za8] at h')<;>try (exfalso; omega)) | (have q':=trivial; first | refine hE _ _ ret_ne ?_ | refine hE _ _ exit_ne ?_))<;>(try simp (disch:=first | omega | decide +kernel) only [q',D.ints,hei,e5,e6,go_sem,Qa,Qb,Qc,Qd,Qe,↓reduceIte,reduceCtorEq,Qf,Qg,Qh])<;>clear q') | refine hN _ ?_ ?_ Wk.kk | with_reducible refine And.intro ?_ ?_ | with_reducible omega | exact ok_ints | exact cells_ints | exact no_mem | with_reducible exact plain_ints | (refine le_maxLen ?_; omega) | (refine za9 ⟨?_,?_⟩) | (simp only [go_sem,Qc,Qb,zb1,zb2,forall_eq]; done)))
         exact hN () _ hlt trivial (by refine Wk.auto ?_ ?_<;>simp [extraK,lk,killL,St.kill,wipeO,wipeS,AV.has,AV.hasL,AO.wipe,List.map_set,updSt,insL,dropS,ins,D.ints])
     . obtain rfl : i=a.length:=by omega
       simp (disch:=first | omega | decide +kernel) only [D.ints,go_sem,Qa,Qb,Qc,Qd,Qe,↓reduceIte,reduceCtorEq,Qf,Qg,Qh]
       (repeat' (first | ((first | (refine gsel_split (fun q' => ?_) (fun q' => ?_)<;>(have h':=q')<;>(try simp only [za1,za2,Ba,Bb,za3,ne_eq,za4,za5,za6,Ia,Ib,Ic,Ie,Da,Bc,Bd,Be,za7,za8] at h')<;>try (exfalso; omega)) | (have q':=trivial; first | refine callX_new (t1) rfl (by decide) ?_ | refine callY_new (t1) rfl ?_ | refine callX_new (t2) rfl (by decide) ?_ | refine callY_new (t2) rfl ?_ | refine hE _ _ ret_ne ?_ | refine hE _ _ exit_ne ?_))<;>(try simp (disch:=first | omega | decide +kernel) only [q',D.ints,go_sem,Qa,Qb,Qc,Qd,Qe,↓reduceIte,reduceCtorEq,Qf,Qg,Qh])<;>clear q') | refine hN _ ?_ ?_ Wk.kk | with_reducible refine And.intro ?_ ?_ | with_reducible omega | exact ok_ints | exact cells_ints | exact no_mem | with_reducible exact plain_ints | (refine le_maxLen ?_; omega) | (refine za9 ⟨?_,?_⟩) | (simp only [go_sem,Qc,Qb,zb1,zb2,forall_eq]; done)))
       all_goals (first | exact absurd trivial h' | exact (Wk.kk))
 clear hg hgl z hcl hal hl hw1 hw2
 have d1:=drawFalseClauses_ok hc
 refine Ok.seq (Ok.go ?_)
 simp (disch:=first | omega | decide +kernel) only [go_sem,Qa,Qb,Qc,Qd,Qe,↓reduceIte,reduceCtorEq,Qf,Qg,Qh]
 (repeat' (first | ((first | (refine gsel_split (fun q' => ?_) (fun q' => ?_)<;>(have h':=q')<;>(try simp only [za1,za2,Ba,Bb,za3,ne_eq,za4,za5,za6,Ia,Ib,Ic,Ie,Da,Bc,Bd,Be,za7,za8] at h')<;>try (exfalso; omega)) | (have q':=trivial; first | (refine callX_rels (d1) ⟨.inl rfl,trivial⟩ (by simp [dstB]) ?_; rintro _ ⟨xb,rfl,hxb⟩) | (refine callX_rels (d1) ⟨.inr ⟨rfl,_,rfl,rfl⟩,trivial⟩ (by simp [dstB]) ?_; rintro _ ⟨xb,rfl,hxb⟩) | refine hE _ _ ret_ne ?_ | refine hE _ _ exit_ne ?_))<;>(try simp (disch:=first | omega | decide +kernel) only [q',go_sem,Qa,Qb,Qc,Qd,Qe,↓reduceIte,reduceCtorEq,Qf,Qg,Qh])<;>clear q') | refine hN _ ?_ ?_ Wk.kk | with_reducible refine And.intro ?_ ?_ | with_reducible omega | exact ok_ints | exact cells_ints | exact no_mem | with_reducible exact plain_ints | (refine le_maxLen ?_; omega) | (refine za9 ⟨?_,?_⟩) | (simp only [go_sem,Qc,Qb,zb1,zb2,forall_eq]; done)))
 clear w cs a gs gu d1
 obtain ⟨⟨w,cs⟩,a⟩:=xb
 dsimp only at hxb ⊢
 obtain ⟨hw1,hw2,hl,hcl,hal⟩:=hxb
 have z : Sz3 cs a:=⟨by omega,fun c hc => by have:=hcl c hc; omega,by omega⟩
 have c1:=falseClausesG_ok w cs a z
 have c2:=sFalseClauses_ok w cs a z
 have c4:=valueOfCnf_ok w cs a z
 have c5:=sValueOfCnf_ok w cs a z
 obtain ⟨ok,hok⟩ : ∃ ok,ok=ok3 w cs a:=⟨_,rfl⟩
 obtain ⟨l,hll⟩ : ∃ l,l=if ok then fcI cs a cs.length else []:=⟨_,rfl⟩
 obtain ⟨v,hv⟩ : ∃ v,v=if ok then mvI cs a cs.length else 0:=⟨_,rfl⟩
 rw [← hok,← hll] at c1 c2
 rw [← hok,← hv] at c4 c5
 have hfl:=fcI_len cs a cs.length
 have hlen : l.length<=4294967296:=by rw [hll]; cases ok<;>simp; omega
 have hiff : ok=true->((v=-1)↔(0 < l.length)):=fun h => by
  rw [hll,hv,h,if_pos rfl,if_pos rfl,mv_fc,List.length_pos_iff]
 have c3:=vInts_self l hlen
 clear hll hv hok hfl
 refine Ok.seq (Ok.go ?_)
 simp (disch:=first | omega | decide +kernel) only [go_sem,Qa,Qb,Qc,Qd,Qe,↓reduceIte,reduceCtorEq,Qf,Qg,Qh]
 (repeat' (first | ((first | (refine gsel_split (fun q' => ?_) (fun q' => ?_)<;>(have h':=q')<;>(try simp only [za1,za2,Ba,Bb,za3,ne_eq,za4,za5,za6,Ia,Ib,Ic,Ie,Da,Bc,Bd,Be,za7,za8] at h')<;>try (exfalso; omega)) | (have q':=trivial; first | refine callX_new (c1) rfl (by decide) ?_ | refine callY_new (c1) rfl ?_ | refine hE _ _ ret_ne ?_ | refine hE _ _ exit_ne ?_))<;>(try simp (disch:=first | omega | decide +kernel) only [q',go_sem,Qa,Qb,Qc,Qd,Qe,↓reduceIte,reduceCtorEq,Qf,Qg,Qh])<;>clear q') | refine hN _ ?_ ?_ Wk.kk | with_reducible refine And.intro ?_ ?_ | with_reducible omega | exact ok_ints | exact cells_ints | exact no_mem | with_reducible exact plain_ints | (refine le_maxLen ?_; omega) | (refine za9 ⟨?_,?_⟩) | (simp only [go_sem,Qc,Qb,zb1,zb2,forall_eq]; done)))
 refine Ok.seq (Ok.go ?_)
 simp (disch:=first | omega | decide +kernel) only [go_sem,Qa,Qb,Qc,Qd,Qe,↓reduceIte,reduceCtorEq,Qf,Qg,Qh]
 (repeat' (first | ((first | (refine gsel_split (fun q' => ?_) (fun q' => ?_)<;>(have h':=q')<;>(try simp only [za1,za2,Ba,Bb,za3,ne_eq,za4,za5,za6,Ia,Ib,Ic,Ie,Da,Bc,Bd,Be,za7,za8] at h')<;>try (exfalso; omega)) | (have q':=trivial; first | refine callX_new (c2) rfl (by decide) ?_ | refine callY_new (c2) rfl ?_ | refine callX_new (c3) rfl (by decide) ?_ | refine callY_new (c3) rfl ?_ | refine hE _ _ ret_ne ?_ | refine hE _ _ exit_ne ?_))<;>(try simp (disch:=first | omega | decide +kernel) only [q',go_sem,Qa,Qb,Qc,Qd,Qe,↓reduceIte,reduceCtorEq,Qf,Qg,Qh])<;>clear q') | refine hN _ ?_ ?_ Wk.kk | with_reducible refine And.intro ?_ ?_ | with_reducible omega | exact ok_ints | exact cells_ints | exact no_mem | with_reducible exact plain_ints | (refine le_maxLen ?_; omega) | (refine za9 ⟨?_,?_⟩) | (simp only [go_sem,Qc,Qb,zb1,zb2,forall_eq]; done)))
 cases ok with
 | false =>
   clear hiff
   refine Ok.go ?_
   simp (disch:=first | omega | decide +kernel) only [List.length_map,go_sem,Qa,Qb,Qc,Qd,Qe,↓reduceIte,reduceCtorEq,Qf,Qg,Qh]
   (repeat' (first | ((first | (refine gsel_split (fun q' => ?_) (fun q' => ?_)<;>(have h':=q')<;>(try simp only [za1,za2,Ba,Bb,za3,ne_eq,za4,za5,za6,Ia,Ib,Ic,Ie,Da,Bc,Bd,Be,za7,za8] at h')<;>try (exfalso; omega)) | (have q':=trivial; first | refine callX_new (c4) rfl (by decide) ?_ | refine callY_new (c4) rfl ?_ | refine callX_new (c5) rfl (by decide) ?_ | refine callY_new (c5) rfl ?_ | refine hE _ _ ret_ne ?_ | refine hE _ _ exit_ne ?_))<;>(try simp (disch:=first | omega | decide +kernel) only [q',List.length_map,go_sem,Qa,Qb,Qc,Qd,Qe,↓reduceIte,reduceCtorEq,Qf,Qg,Qh])<;>clear q') | refine hN _ ?_ ?_ Wk.kk | with_reducible refine And.intro ?_ ?_ | with_reducible omega | exact ok_ints | exact cells_ints | exact no_mem | with_reducible exact plain_ints | (refine le_maxLen ?_; omega) | (refine za9 ⟨?_,?_⟩) | (simp only [go_sem,Qc,Qb,zb1,zb2,forall_eq]; done)))
   all_goals (first | exact absurd trivial h')
 | true =>
   have hb2 : (v == -1)=decide ((0 : Int) < (l.length : Int)):=by
    have:=hiff rfl
    by_cases h : v=-1
    . rw [decide_eq_true (by have:=this.1 h; omega)]; simpa using h
    . rw [decide_eq_false (fun hh => h (this.2 (by omega)))]; simpa using h
   clear hiff
   refine Ok.go ?_
   simp (disch:=first | omega | decide +kernel) only [List.length_map,go_sem,Qa,Qb,Qc,Qd,Qe,↓reduceIte,reduceCtorEq,Qf,Qg,Qh]
   (repeat' (first | ((first | (refine gsel_split (fun q' => ?_) (fun q' => ?_)<;>(have h':=q')<;>(try simp only [za1,za2,Ba,Bb,za3,ne_eq,za4,za5,za6,Ia,Ib,Ic,Ie,Da,Bc,Bd,Be,za7,za8] at h')<;>try (exfalso; omega)) | (have q':=trivial; first | refine callX_new (c4) rfl (by decide) ?_ | refine callY_new (c4) rfl ?_ | refine callX_new (c5) rfl (by decide) ?_ | refine callY_new (c5) rfl ?_ | refine hE _ _ ret_ne ?_ | refine hE _ _ exit_ne ?_))<;>(try simp (disch:=first | omega | decide +kernel) only [q',List.length_map,hb2,go_sem,Qa,Qb,Qc,Qd,Qe,↓reduceIte,reduceCtorEq,Qf,Qg,Qh])<;>clear q') | refine hN _ ?_ ?_ Wk.kk | with_reducible refine And.intro ?_ ?_ | with_reducible omega | exact ok_ints | exact cells_ints | exact no_mem | with_reducible exact plain_ints | (refine le_maxLen ?_; omega) | (refine za9 ⟨?_,?_⟩) | (simp only [go_sem,Qc,Qb,zb1,zb2,forall_eq]; done)))
   all_goals (first | exact absurd trivial h' | exact absurd rfl h')
end Abs.Y
