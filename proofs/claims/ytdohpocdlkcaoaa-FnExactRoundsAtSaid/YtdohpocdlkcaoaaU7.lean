/- What functions of this program compute, over plain data. No condition. -/
import Derived.Test.YtdohpocdlkcaoaaU6
set_option linter.all false
namespace Abs.Y
open Go Go.Proofs Abs
open Nat renaming reduceEqDiff -> Qa, reduceLT -> Qb, reduceAdd -> Qc, reduceMul -> Qd, reduceSub -> Qe, reduceLeDiff -> Qf, reduceSubDiff -> Qg, reduceBEq -> Qh
open Bool renaming not_eq_true' -> Ba, not_eq_false' -> Bb, and_eq_true -> Bc, or_eq_true -> Bd, or_eq_false_iff -> Be
open Int renaming ofNat_lt -> Ia, ofNat_le -> Ib, not_lt -> Ic, not_le -> Ie
open Decidable renaming not_not -> Da
set_option maxRecDepth 100000

structure FinC (cs : List (List Int)) (w : Nat) (L : CT) (last : Nat) : Prop where
 nd : (keysC L).Nodup
 mem : ∀ c k,(c,k) ∈ L↔NewC cs w k c
 le : ∀ p ∈ L,p.2<=last
 ex : L ≠ []->∃ p ∈ L,p.2=last
def D.clo (L : CT) (last : Nat) : D:=.agg [.slice ((esO L).map fun p => .int .u16 p.1),.map .u16 .i64 (esO L),.int .i64 (last : Nat)]
structure Inv0 (cs : List (List Int)) (w i : Nat) (L : CT) : Prop where
 nd : (keysC L).Nodup
 mem : ∀ c k,(c,k) ∈ L↔k=0∧c ∈ cs.take i∧c.length<=w
theorem esO_app (L : CT) (c : List Int) (k : Nat) : esO (L++[(c,k)])=esO L++[((mkN c : Int),(k : Int))]:=by simp [esO]
theorem esO_len (L : CT) : (esO L).length=L.length:=by simp [esO]
set_option maxHeartbeats 16000000 in
theorem closureOf_ok {vv : Int} {cs : List (List Int)} {w : Nat} (hg : ∀ c ∈ cs,G6 c) (hcl : cs.length<=60) (hcx : ∀ j,(cs.getD j []).length<=100) (hw : w<=6) :
 CtrR Try.prog 80 [.d (.agg [.int .i64 vv,.slice (cs.map D.ints)]),.d (.int .i64 (w : Int))] [] [] true (fun r oo => ∃ L last,FinC cs w L last∧r=.d (.ptr (D.clo L last))∧oo=[]):=by
 refine CtrR.ofO (n:=99) (rs:=[.tmp 4]) Try.func80 rfl rfl Try.ntmps80 rfl rfl (by kernel_rfl) Try.checked.mixed ?_; intro u
 refine Ok.endsW ?_
 refine Ok.seq (Ok.go ?_)
 simp (disch:=first | omega | decide +kernel) only [go_sem,Qa,Qb,Qc,Qd,Qe,↓reduceIte,reduceCtorEq,Qf,Qg,Qh]
 refine Ok.seq (Ok.go ?_)
 simp (disch:=first | omega | decide +kernel) only [go_sem,Qa,Qb,Qc,Qd,Qe,↓reduceIte,reduceCtorEq,Qf,Qg,Qh]
 (repeat' (first | ((first | (refine gsel_split (fun q' => ?_) (fun q' => ?_)<;>(have h':=q')<;>(try simp only [za1,za2,Ba,Bb,za3,ne_eq,za4,za5,za6,Ia,Ib,Ic,Ie,Da,Bc,Bd,Be,za7,za8] at h')<;>try (exfalso; omega)) | (have q':=trivial; first | refine hE _ _ ret_ne ?_ | refine hE _ _ exit_ne ?_))<;>(try simp (disch:=first | omega | decide +kernel) only [q',go_sem,Qa,Qb,Qc,Qd,Qe,↓reduceIte,reduceCtorEq,Qf,Qg,Qh])<;>clear q') | refine hN _ ?_ ?_ Wk.kk | with_reducible refine And.intro ?_ ?_ | with_reducible omega | exact ok_ints | exact cells_ints | exact no_mem | with_reducible exact plain_ints | (refine le_maxLen ?_; omega) | (refine za9 ⟨?_,?_⟩) | (simp only [go_sem,Qc,Qb,zb1,zb2,forall_eq]; done)))
 refine Ok.weak ((Wk.nilObj 800000001 19 0 rfl rfl (by simp) (by decide) (e:=154) (k:=1) (by decide)).trans ((Wk.arw 800000001 (by simp (disch:=first | omega | decide +kernel) only [setL,go_sem,Qa,Qb,Qc,Qd,Qe,↓reduceIte,reduceCtorEq,Qf,Qg,Qh]; rfl)).trans (show Wk _ _ ⟨[(5,.p 19 0),(4,.d .nilptr),(2,.p 2 0),(1,.d (.int .i64 (w : Int)))],
  [(800000001,clR [] []),(19,clB 0 800000001 17),(17,clM []),(2,.box 29 [.d (.int .i64 vv),.d (.slice (cs.map D.ints))])]⟩ from (by refine Wk.auto ?_ ?_<;>simp [extraK,lk,killL,St.kill,wipeO,wipeS,AV.has,AV.hasL,AO.wipe,List.map_set,updSt,insL,dropS,ins,setL])))) ?_
 refine Ok.seq (Ok.go ?_)
 simp (disch:=first | omega | decide +kernel) only [go_sem,Qa,Qb,Qc,Qd,Qe,↓reduceIte,reduceCtorEq,Qf,Qg,Qh]
 refine Ok.loopN [98,97,96,95,94,93,92,91,90,89,88,87,86,85,84,83,82,81,80,79,78,77,76,75,74,73,72,71,70,69,68,67,66,65,64,63,62,61,60,59,58,57,56,55,54,53,52,51,50,49,48,47,46,45,44,43,42,41,40,39,38,37,36,35,34,33,32,31,30,29,28,27,26,25,24,23,20,19,18,17,16,15,14,13,12,11,10,9,8,7,6,3,0] (fun i _ => [(23,.d (.int .i64 (i : Nat)))]) (fun _ (L : CT) => [(19,clB 0 800000001 17),(800000001,clR (esO L) []),(17,clM (esO L))]) cs.length
  (fun i L => Inv0 cs w i L) [] ⟨List.Pairwise.nil,fun c k => by simp⟩ (by refine Wk.auto ?_ ?_<;>simp [extraK,lk,killL,St.kill,wipeO,wipeS,AV.has,AV.hasL,AO.wipe,List.map_set,updSt,insL,dropS,ins,esO,List.map_nil]) ?_
 rintro R i L hN hE hi hL
 have hgL : ∀ p ∈ L,G6 p.1:=fun p hp => hg _ (List.mem_of_mem_take ((hL.mem p.1 p.2).1 hp).2.1)
 have hll:=table_len hgL hL.nd
 by_cases hlt : i < cs.length
 . have hc:=getD_mem (z:=([] : List Int)) hlt
   have gc:=hg _ hc
   have hxl:=hcx i
   have c1:=maskOf_ok gc (by omega)
   have hel : el (cs.map D.ints) i=D.ints (cs.getD i []):=el_map (f:=D.ints) [] hlt
   have htk : cs.take (i + 1)=cs.take i++[cs.getD i []]:=take_succ [] cs i hlt
   generalize cs.getD i []=c at *
   by_cases hlw : (c.length : Int)<=w
   . by_cases hk : ∃ k,(c,k) ∈ L
     . obtain ⟨k,hk⟩:=hk
       have hm:=(mpAt_esO hgL gc hL.nd).1 k hk
       have c2:=add_old (esO L) 0 (mkN c : Int) 0 hm (by rw [esO_len]; omega)
       have hnx : Inv0 cs w (i + 1) L:=⟨hL.nd,fun d j => by
        rw [hL.mem,htk,List.mem_append,List.mem_singleton]
        constructor
        . rintro ⟨h1,h2,h3⟩
          exact ⟨h1,.inl h2,h3⟩
        . rintro ⟨h1,h2 | h2,h3⟩
          . exact ⟨h1,h2,h3⟩
          . subst h2; exact ⟨h1,((hL.mem d k).1 hk).2.1,h3⟩⟩
       simp (disch:=first | omega | decide +kernel) only [D.ints,hel,go_sem,Qa,Qb,Qc,Qd,Qe,↓reduceIte,reduceCtorEq,Qf,Qg,Qh]
       (repeat' (first | ((first | (refine gsel_split (fun q' => ?_) (fun q' => ?_)<;>(have h':=q')<;>(try simp only [za1,za2,Ba,Bb,za3,ne_eq,za4,za5,za6,Ia,Ib,Ic,Ie,Da,Bc,Bd,Be,za7,za8] at h')<;>try (exfalso; omega)) | (have q':=trivial; first | refine callX_new (c1) rfl (by decide) ?_ | refine callY_new (c1) rfl ?_ | refine hE _ _ ret_ne ?_ | refine hE _ _ exit_ne ?_))<;>(try simp (disch:=first | omega | decide +kernel) only [q',D.ints,hel,go_sem,Qa,Qb,Qc,Qd,Qe,↓reduceIte,reduceCtorEq,Qf,Qg,Qh])<;>clear q') | refine hN _ ?_ ?_ Wk.kk | with_reducible refine And.intro ?_ ?_ | with_reducible omega | exact ok_ints | exact cells_ints | exact no_mem | with_reducible exact plain_ints | (refine le_maxLen ?_; omega) | (refine za9 ⟨?_,?_⟩) | (simp only [go_sem,Qc,Qb,zb1,zb2,forall_eq]; done)))
       refine callX_mut [19,800000001,17] [19,800000001,17] [800000001] c2 ⟨.inl rfl,.inl rfl,.inl rfl,trivial⟩ ⟨rfl,rfl,rfl,trivial⟩ rfl (by simp [dstB]) ?_
       simp (disch:=first | omega | decide +kernel) only [go_sem,Qa,Qb,Qc,Qd,Qe,↓reduceIte,reduceCtorEq,Qf,Qg,Qh]
       (repeat' (first | ((first | (refine gsel_split (fun q' => ?_) (fun q' => ?_)<;>(have h':=q')<;>(try simp only [za1,za2,Ba,Bb,za3,ne_eq,za4,za5,za6,Ia,Ib,Ic,Ie,Da,Bc,Bd,Be,za7,za8] at h')<;>try (exfalso; omega)) | (have q':=trivial; first | refine hE _ _ ret_ne ?_ | refine hE _ _ exit_ne ?_))<;>(try simp (disch:=first | omega | decide +kernel) only [q',go_sem,Qa,Qb,Qc,Qd,Qe,↓reduceIte,reduceCtorEq,Qf,Qg,Qh])<;>clear q') | refine hN _ ?_ ?_ Wk.kk | with_reducible refine And.intro ?_ ?_ | with_reducible omega | exact ok_ints | exact cells_ints | exact no_mem | with_reducible exact plain_ints | (refine le_maxLen ?_; omega) | (refine za9 ⟨?_,?_⟩) | (simp only [go_sem,Qc,Qb,zb1,zb2,forall_eq]; done)))
       refine hN L _ hlt hnx (by refine Wk.auto ?_ ?_<;>simp [extraK,lk,killL,St.kill,wipeO,wipeS,AV.has,AV.hasL,AO.wipe,List.map_set,updSt,insL,dropS,ins,])
     . have hm:=(mpAt_esO hgL gc hL.nd).2 fun k h => hk ⟨k,h⟩
       have c2:=add_new (esO L) 0 (mkN c : Int) 0 hm (by rw [esO_len]; omega)
       have hnx : Inv0 cs w (i + 1) (L++[(c,0)]):=⟨by
        rw [show keysC (L++[(c,0)])=keysC L++[c] by simp [keysC],List.nodup_append]
        refine ⟨hL.nd,by simp,fun x hx y hy e => ?_⟩
        obtain rfl:=List.mem_singleton.1 hy
        subst e
        obtain ⟨p,hp,e⟩:=List.mem_map.1 hx
        exact hk ⟨p.2,by rw [← e]; exact hp⟩,fun d j => by
        rw [List.mem_append,List.mem_singleton,hL.mem,htk,List.mem_append,List.mem_singleton]
        constructor
        . rintro (⟨h1,h2,h3⟩ | h)
          . exact ⟨h1,.inl h2,h3⟩
          . cases h; exact ⟨rfl,.inr rfl,by omega⟩
        . rintro ⟨h1,h2 | h2,h3⟩
          . exact .inl ⟨h1,h2,h3⟩
          . subst h1; subst h2; exact .inr rfl⟩
       rw [show (esO L++[((mkN c : Int),(0 : Int))])=esO (L++[(c,0)]) from (esO_app L c 0).symm] at c2
       simp (disch:=first | omega | decide +kernel) only [D.ints,hel,go_sem,Qa,Qb,Qc,Qd,Qe,↓reduceIte,reduceCtorEq,Qf,Qg,Qh]
       (repeat' (first | ((first | (refine gsel_split (fun q' => ?_) (fun q' => ?_)<;>(have h':=q')<;>(try simp only [za1,za2,Ba,Bb,za3,ne_eq,za4,za5,za6,Ia,Ib,Ic,Ie,Da,Bc,Bd,Be,za7,za8] at h')<;>try (exfalso; omega)) | (have q':=trivial; first | refine callX_new (c1) rfl (by decide) ?_ | refine callY_new (c1) rfl ?_ | refine hE _ _ ret_ne ?_ | refine hE _ _ exit_ne ?_))<;>(try simp (disch:=first | omega | decide +kernel) only [q',D.ints,hel,go_sem,Qa,Qb,Qc,Qd,Qe,↓reduceIte,reduceCtorEq,Qf,Qg,Qh])<;>clear q') | refine hN _ ?_ ?_ Wk.kk | with_reducible refine And.intro ?_ ?_ | with_reducible omega | exact ok_ints | exact cells_ints | exact no_mem | with_reducible exact plain_ints | (refine le_maxLen ?_; omega) | (refine za9 ⟨?_,?_⟩) | (simp only [go_sem,Qc,Qb,zb1,zb2,forall_eq]; done)))
       refine callX_mut [19,800000001,17] [19,800000001,17] [800000001] c2 ⟨.inl rfl,.inl rfl,.inl rfl,trivial⟩ ⟨rfl,rfl,rfl,trivial⟩ rfl (by simp [dstB]) ?_
       simp (disch:=first | omega | decide +kernel) only [go_sem,Qa,Qb,Qc,Qd,Qe,↓reduceIte,reduceCtorEq,Qf,Qg,Qh]
       (repeat' (first | ((first | (refine gsel_split (fun q' => ?_) (fun q' => ?_)<;>(have h':=q')<;>(try simp only [za1,za2,Ba,Bb,za3,ne_eq,za4,za5,za6,Ia,Ib,Ic,Ie,Da,Bc,Bd,Be,za7,za8] at h')<;>try (exfalso; omega)) | (have q':=trivial; first | refine hE _ _ ret_ne ?_ | refine hE _ _ exit_ne ?_))<;>(try simp (disch:=first | omega | decide +kernel) only [q',go_sem,Qa,Qb,Qc,Qd,Qe,↓reduceIte,reduceCtorEq,Qf,Qg,Qh])<;>clear q') | refine hN _ ?_ ?_ Wk.kk | with_reducible refine And.intro ?_ ?_ | with_reducible omega | exact ok_ints | exact cells_ints | exact no_mem | with_reducible exact plain_ints | (refine le_maxLen ?_; omega) | (refine za9 ⟨?_,?_⟩) | (simp only [go_sem,Qc,Qb,zb1,zb2,forall_eq]; done)))
       refine hN (L++[(c,0)]) _ hlt hnx (by refine Wk.auto ?_ ?_<;>simp [extraK,lk,killL,St.kill,wipeO,wipeS,AV.has,AV.hasL,AO.wipe,List.map_set,updSt,insL,dropS,ins,])
   . have hnx : Inv0 cs w (i + 1) L:=⟨hL.nd,fun d j => by
      rw [hL.mem,htk,List.mem_append,List.mem_singleton]
      constructor
      . rintro ⟨h1,h2,h3⟩
        exact ⟨h1,.inl h2,h3⟩
      . rintro ⟨h1,h2 | h2,h3⟩
        . exact ⟨h1,h2,h3⟩
        . subst h2; omega⟩
     simp (disch:=first | omega | decide +kernel) only [D.ints,hel,go_sem,Qa,Qb,Qc,Qd,Qe,↓reduceIte,reduceCtorEq,Qf,Qg,Qh]
     (repeat' (first | ((first | (refine gsel_split (fun q' => ?_) (fun q' => ?_)<;>(have h':=q')<;>(try simp only [za1,za2,Ba,Bb,za3,ne_eq,za4,za5,za6,Ia,Ib,Ic,Ie,Da,Bc,Bd,Be,za7,za8] at h')<;>try (exfalso; omega)) | (have q':=trivial; first | refine hE _ _ ret_ne ?_ | refine hE _ _ exit_ne ?_))<;>(try simp (disch:=first | omega | decide +kernel) only [q',D.ints,hel,go_sem,Qa,Qb,Qc,Qd,Qe,↓reduceIte,reduceCtorEq,Qf,Qg,Qh])<;>clear q') | refine hN _ ?_ ?_ Wk.kk | with_reducible refine And.intro ?_ ?_ | with_reducible omega | exact ok_ints | exact cells_ints | exact no_mem | with_reducible exact plain_ints | (refine le_maxLen ?_; omega) | (refine za9 ⟨?_,?_⟩) | (simp only [go_sem,Qc,Qb,zb1,zb2,forall_eq]; done)))
     refine hN L _ hlt hnx (by refine Wk.auto ?_ ?_<;>simp [extraK,lk,killL,St.kill,wipeO,wipeS,AV.has,AV.hasL,AO.wipe,List.map_set,updSt,insL,dropS,ins,])
 . obtain rfl : i=cs.length:=by omega
   have hC0 : InvC cs w 0 L 0:=⟨hL.nd,fun c k => by
    rw [hL.mem,List.take_length]
    constructor
    . rintro ⟨rfl,h2,h3⟩; exact ⟨Nat.le_refl _,h2,h3⟩
    . rintro ⟨h1,h2⟩; obtain rfl : k=0:=by omega
      exact ⟨rfl,h2.1,h2.2⟩,fun i hi => ⟨fun _ => ((hL.mem _ _).1 (show ((L.getD i zC).1,(L.getD i zC).2) ∈ L from getD_memC hi)).1,fun _ => Nat.zero_le _⟩,Nat.zero_le _⟩
   simp (disch:=first | omega | decide +kernel) only [go_sem,Qa,Qb,Qc,Qd,Qe,↓reduceIte,reduceCtorEq,Qf,Qg,Qh]
   (repeat' (first | ((first | (refine gsel_split (fun q' => ?_) (fun q' => ?_)<;>(have h':=q')<;>(try simp only [za1,za2,Ba,Bb,za3,ne_eq,za4,za5,za6,Ia,Ib,Ic,Ie,Da,Bc,Bd,Be,za7,za8] at h')<;>try (exfalso; omega)) | (have q':=trivial; first | refine hE _ _ ret_ne ?_ | refine hE _ _ exit_ne ?_))<;>(try simp (disch:=first | omega | decide +kernel) only [q',go_sem,Qa,Qb,Qc,Qd,Qe,↓reduceIte,reduceCtorEq,Qf,Qg,Qh])<;>clear q') | refine hN _ ?_ ?_ Wk.kk | with_reducible refine And.intro ?_ ?_ | with_reducible omega | exact ok_ints | exact cells_ints | exact no_mem | with_reducible exact plain_ints | (refine le_maxLen ?_; omega) | (refine za9 ⟨?_,?_⟩) | (simp only [go_sem,Qc,Qb,zb1,zb2,forall_eq]; done)))
   clear hN hE hL
   refine Ok.go ?_
   simp (disch:=first | omega | decide +kernel) only [go_sem,Qa,Qb,Qc,Qd,Qe,↓reduceIte,reduceCtorEq,Qf,Qg,Qh]
   refine Ok.loopN [98,97,96,95,94,93,92,91,90,89,88,87,86,85,84,83,82,81,80,79,78,77,76,75,74,73,72,71,70,69,68,67,66,65,64,63,62,61,60,59,58,57,56,55,54,53,52,51,50,49,48,47,46,45,44,43,42,41,40,39,38,37,36,35,34,33,32,31,30,29,28,27,26,25,24,23,22,21,20,19,18,17,16,15,14,13,12,11,10,9,8,7,6,3,0] (fun r (s : (CT × Nat) × Nat) => [(8,.d (.int .i64 (s.1.2 : Nat))),(9,.d (.int .i64 (1 + (r : Nat))))]) (fun _ (s : (CT × Nat) × Nat) => [(19,clB (s.2 : Nat) 800000001 17),(800000001,clR (esO s.1.1) []),(17,clM (esO s.1.1))]) 5000
    (fun r s => InvC cs w r s.1.1 s.1.2∧r<=s.1.2∧(∀ p ∈ s.1.1,p.2<=s.2)∧(s.1.1 ≠ []->∃ p ∈ s.1.1,p.2=s.2)) ((L,0),0)
    ⟨hC0,Nat.zero_le _,fun p hp => ((hC0.mem p.1 p.2).1 hp).1,fun h => by
     obtain ⟨p,r,rfl⟩:=List.exists_cons_of_ne_nil h
     exact ⟨p,by simp,by have:=((hC0.mem p.1 p.2).1 (by simp)).1; omega⟩⟩ (by refine Wk.auto ?_ ?_<;>simp [extraK,lk,killL,St.kill,wipeO,wipeS,AV.has,AV.hasL,AO.wipe,List.map_set,updSt,insL,dropS,ins,]) ?_
   clear hC0 hgL hll
   rintro R1 r ⟨⟨L,frm⟩,last⟩ hN hE hr ⟨hC,hrl,hle,hex⟩
   simp only at hC hrl hle hex
   have hgL:=hC.g6 hg
   have hll:=table_len hgL hC.nd
   have hesl:=esO_len L
   dsimp only
   by_cases hfl : frm < L.length
   . simp (disch:=first | omega | decide +kernel) only [List.length_map,go_sem,Qa,Qb,Qc,Qd,Qe,↓reduceIte,reduceCtorEq,Qf,Qg,Qh]
     (repeat' (first | ((first | (refine gsel_split (fun q' => ?_) (fun q' => ?_)<;>(have h':=q')<;>(try simp only [za1,za2,Ba,Bb,za3,ne_eq,za4,za5,za6,Ia,Ib,Ic,Ie,Da,Bc,Bd,Be,za7,za8] at h')<;>try (exfalso; omega)) | (have q':=trivial; first | refine hE _ _ ret_ne ?_ | refine hE _ _ exit_ne ?_))<;>(try simp (disch:=first | omega | decide +kernel) only [q',List.length_map,go_sem,Qa,Qb,Qc,Qd,Qe,↓reduceIte,reduceCtorEq,Qf,Qg,Qh])<;>clear q') | refine hN _ ?_ ?_ Wk.kk | with_reducible refine And.intro ?_ ?_ | with_reducible omega | exact ok_ints | exact cells_ints | exact no_mem | with_reducible exact plain_ints | (refine le_maxLen ?_; omega) | (refine za9 ⟨?_,?_⟩) | (simp only [go_sem,Qc,Qb,zb1,zb2,forall_eq]; done)))
     have hfr:=hC.le
     refine Ok.loopN [98,97,96,95,94,93,92,91,90,89,88,87,86,85,84,83,82,81,80,79,78,77,76,75,74,73,72,71,70,69,68,67,66,65,64,63,62,61,60,59,58,57,56,55,54,53,52,51,50,49,48,47,46,45,44,43,42,41,40,39,38,37,36,35,34,33,32,31,30,29,28,27,26,25,24,23,22,21,20,19,18,17,16,15,14,13,12,11,8,7,6,3,0] (fun k (_ : CT × Nat) => [(11,.d (.int .i64 ((frm + k : Nat) : Int)))]) (fun _ (s : CT × Nat) => [(19,clB (s.2 : Nat) 800000001 17),(800000001,clR (esO (L++s.1)) []),(17,clM (esO (L++s.1)))]) (L.length - frm)
      (fun k s => InvI cs w r L s.1 (fun a _ => a < frm + k)∧(s.1=[]->s.2=last)∧(s.1 ≠ []->s.2=r + 1)) ([],last)
      ⟨hC.start,fun _ => rfl,fun h => absurd rfl h⟩ (by refine Wk.auto ?_ ?_<;>simp [extraK,lk,killL,St.kill,wipeO,wipeS,AV.has,AV.hasL,AO.wipe,List.map_set,updSt,insL,dropS,ins,List.append_nil]) ?_
     rintro R2 k ⟨E,la⟩ hN2 hE2 hk ⟨hI,hl0,hl1⟩
     simp only at hI hl0 hl1
     have hgE:=hI.g6 hg hC
     have hle2:=table_len hgE hI.nd
     have hesl2:=esO_len (L++E)
     rw [List.length_append] at hle2 hesl2
     dsimp only
     by_cases hlt : k < L.length - frm
     . simp (disch:=first | omega | decide +kernel) only [List.length_map,Option.isSome_none,Bool.false_eq_true,if_false,go_sem,Qa,Qb,Qc,Qd,Qe,↓reduceIte,reduceCtorEq,Qf,Qg,Qh]
       (repeat' (first | ((first | (refine gsel_split (fun q' => ?_) (fun q' => ?_)<;>(have h':=q')<;>(try simp only [za1,za2,Ba,Bb,za3,ne_eq,za4,za5,za6,Ia,Ib,Ic,Ie,Da,Bc,Bd,Be,za7,za8] at h')<;>try (exfalso; omega)) | (have q':=trivial; first | refine hE _ _ ret_ne ?_ | refine hE _ _ exit_ne ?_))<;>(try simp (disch:=first | omega | decide +kernel) only [q',List.length_map,Option.isSome_none,Bool.false_eq_true,if_false,go_sem,Qa,Qb,Qc,Qd,Qe,↓reduceIte,reduceCtorEq,Qf,Qg,Qh])<;>clear q') | refine hN _ ?_ ?_ Wk.kk | with_reducible refine And.intro ?_ ?_ | with_reducible omega | exact ok_ints | exact cells_ints | exact no_mem | with_reducible exact plain_ints | (refine le_maxLen ?_; omega) | (refine za9 ⟨?_,?_⟩) | (simp only [go_sem,Qc,Qb,zb1,zb2,forall_eq]; done)))
       have hiL : frm + k < L.length:=by omega
       have ga:=hgL _ (getD_memC hiL)
       refine Ok.loopN [98,97,96,95,94,93,92,91,90,89,88,87,86,85,84,83,82,81,80,79,78,77,76,75,74,73,72,71,70,69,68,67,66,65,64,63,60,59,58,57,56,55,54,53,52,51,50,49,48,47,46,45,44,43,42,41,40,39,38,37,36,35,34,33,32,31,30,29,28,27,26,25,24,23,22,21,20,19,18,17,16,15,14,13,12,8,7,6,3,0] (fun j (_ : CT × Nat) => [(63,.d (.int .i64 (j : Nat)))]) (fun _ (s : CT × Nat) => [(19,clB (s.2 : Nat) 800000001 17),(800000001,clR (esO (L++s.1)) [(61,frm + k)]),(17,clM (esO (L++s.1)))]) (frm + k)
        (fun j s => InvI cs w r L s.1 (fun a b => a < frm + k∨(a=frm + k∧b < j))∧(s.1=[]->s.2=last)∧(s.1 ≠ []->s.2=r + 1)) (E,la)
        ⟨hI.mono fun a b _ _ h => by omega,hl0,hl1⟩ (by refine Wk.auto ?_ ?_<;>simp [extraK,lk,killL,St.kill,wipeO,wipeS,AV.has,AV.hasL,AO.wipe,List.map_set,updSt,insL,dropS,ins,]) ?_
       clear hI hl0 hl1 hgE hle2 hesl2
       rintro R3 j ⟨E,la⟩ hN3 hE3 hj ⟨hI,hl0,hl1⟩
       simp only at hI hl0 hl1
       have hgE:=hI.g6 hg hC
       have hle2:=table_len hgE hI.nd
       have hesl2:=esO_len (L++E)
       rw [List.length_append] at hle2 hesl2
       dsimp only
       by_cases hlt3 : j < frm + k
       . have gb:=hgL _ (getD_memC (show j < L.length by omega))
         have hel : ∀ t,t < L.length->el ((esO (L++E)).map fun p => D.int .u16 p.1) t=D.mk (mkN (L.getD t zC).1):=fun t ht => by
          have h1 : t < (L++E).length:=by rw [List.length_append]; omega
          have : (L++E).getD t zC=L.getD t zC:=by rw [getD_app,if_pos ht]
          rw [← this,show (esO (L++E)).map (fun p => D.int .u16 p.1)=(L++E).map (fun p => D.mk (mkN p.1)) by simp [esO,Function.comp_def]]
          exact el_map (f:=fun p : List Int × Nat => D.mk (mkN p.1)) zC h1
         have hei:=hel (frm + k) hiL
         have hej:=hel j (by omega)
         clear hel
         have hskip : ∀ (E' : CT) (_ : Nat),InvI cs w r L E' (fun a b => (a < frm + k∨(a=frm + k∧b < j))∨(a=frm + k∧b=j))->InvI cs w r L E' (fun a b => a < frm + k∨(a=frm + k∧b < j + 1)):=fun E' _ h => h.mono fun a b _ _ h => by omega
         have hfd : [(61,frm + k)].find? (fun p : Nat × Nat => p.1 == 61)=some (61,frm + k):=rfl
         have hA:=mkN_lt ga
         have hB:=mkN_lt gb
         have hmr:=mask_res ga gb
         have hout:=fun c v (hv : 1<=v) (h : resolveI (L.getD (frm + k) zC).1 (L.getD j zC).1 v=some c∨resolveI (L.getD j zC).1 (L.getD (frm + k) zC).1 v=some c) => mask_out ga gb hv h
         have c1:=bothOf_ok _ _ hA hB
         have hK:=boN_lt (mkN (L.getD (frm + k) zC).1) (mkN (L.getD j zC).1)
         have c2:=one_ok (boN (mkN (L.getD (frm + k) zC).1) (mkN (L.getD j zC).1)) (by omega)
         have hK' : boN (mkN (L.getD (frm + k) zC).1) (mkN (L.getD j zC).1) ||| boN (mkN (L.getD (frm + k) zC).1) (mkN (L.getD j zC).1) <<< 6 < 65536:=Nat.or_lt_two_pow (n:=16) (by omega) (by rw [Nat.shiftLeft_eq]; omega)
         have hAB : mkN (L.getD (frm + k) zC).1 ||| mkN (L.getD j zC).1 < 4096:=Nat.or_lt_two_pow (n:=12) hA hB
         have e1:=shl6 (m:=boN (mkN (L.getD (frm + k) zC).1) (mkN (L.getD j zC).1)) (by omega)
         have e2:=or16 (a:=boN (mkN (L.getD (frm + k) zC).1) (mkN (L.getD j zC).1)) (b:=boN (mkN (L.getD (frm + k) zC).1) (mkN (L.getD j zC).1) <<< 6) (by omega) (by rw [Nat.shiftLeft_eq]; omega)
         have e3:=or16 (a:=mkN (L.getD (frm + k) zC).1) (b:=mkN (L.getD j zC).1) (by omega) (by omega)
         have e4:=andNot16 hAB hK'
         by_cases ho : oneN (boN (mkN (L.getD (frm + k) zC).1) (mkN (L.getD j zC).1))=true
         . obtain ⟨c,v,hv,hres⟩:=hmr.1 ho
           have hrp : ResP (L.getD (frm + k) zC).1 (L.getD j zC).1 c:=⟨v,hv,hres⟩
           have hN4:=hout c v hv hres
           have gc : G6 c:=by
            rcases hres with h | h
            . exact (resolveI_some ga gb hv h).2.2.2.1
            . exact (resolveI_some gb ga hv h).2.2.2.1
           have hpc:=mkN_pc gc
           have c3:=count_ok (mkN c) (mkN_lt gc)
           rw [hpc] at c3
           rw [show ((mkN (L.getD (frm + k) zC).1 ||| mkN (L.getD j zC).1) &&& (4095 ^^^ (boN (mkN (L.getD (frm + k) zC).1) (mkN (L.getD j zC).1) ||| boN (mkN (L.getD (frm + k) zC).1) (mkN (L.getD j zC).1) <<< 6)))=mkN c from hN4] at e4
           generalize boN (mkN (L.getD (frm + k) zC).1) (mkN (L.getD j zC).1)=bo at *
           generalize hmA : mkN (L.getD (frm + k) zC).1=mA at *
           generalize hmB : mkN (L.getD j zC).1=mB at *
           rw [ho] at c2
           by_cases hlw : (c.length : Int)<=w
           . by_cases hk : ∃ k',(c,k') ∈ L++E
             . have hnx:=hskip E la (hI.skip (i:=frm + k) (j:=j) fun d hd hdl => by rw [resP_uniq ga gb hd hrp]; exact hk)
               obtain ⟨k',hk⟩:=hk
               have hm:=(mpAt_esO hgE gc hI.nd).1 k' hk
               have c4:=add_oldV (frm + k) (esO (L++E)) (la : Nat) (mkN c : Int) (1 + r) hm (by rw [esO_len,List.length_append]; omega)
               simp (disch:=first | omega | decide +kernel) only [hfd,hei,hej,e1,e2,e3,e4,go_sem,Qa,Qb,Qc,Qd,Qe,↓reduceIte,reduceCtorEq,Qf,Qg,Qh]
               (repeat' (first | ((first | (refine gsel_split (fun q' => ?_) (fun q' => ?_)<;>(have h':=q')<;>(try simp only [za1,za2,Ba,Bb,za3,ne_eq,za4,za5,za6,Ia,Ib,Ic,Ie,Da,Bc,Bd,Be,za7,za8] at h')<;>try (exfalso; omega)) | (have q':=trivial; first | refine callX_new (c1) rfl (by decide) ?_ | refine callY_new (c1) rfl ?_ | refine callX_new (c2) rfl (by decide) ?_ | refine callY_new (c2) rfl ?_ | refine callX_new (c3) rfl (by decide) ?_ | refine callY_new (c3) rfl ?_ | refine hE _ _ ret_ne ?_ | refine hE _ _ exit_ne ?_))<;>(try simp (disch:=first | omega | decide +kernel) only [q',hfd,hei,hej,e1,e2,e3,e4,go_sem,Qa,Qb,Qc,Qd,Qe,↓reduceIte,reduceCtorEq,Qf,Qg,Qh])<;>clear q') | refine hN _ ?_ ?_ Wk.kk | with_reducible refine And.intro ?_ ?_ | with_reducible omega | exact ok_ints | exact cells_ints | exact no_mem | with_reducible exact plain_ints | (refine le_maxLen ?_; omega) | (refine za9 ⟨?_,?_⟩) | (simp only [go_sem,Qc,Qb,zb1,zb2,forall_eq]; done)))
               refine callX_mut [19,800000001,17,61] [19,800000001,17,61] [800000001] c4 ⟨.inl rfl,.inl rfl,.inl rfl,trivial⟩ ⟨rfl,rfl,rfl,rfl,trivial⟩ rfl (by simp [dstB,nth]) ?_
               simp (disch:=first | omega | decide +kernel) only [go_sem,Qa,Qb,Qc,Qd,Qe,↓reduceIte,reduceCtorEq,Qf,Qg,Qh]
               (repeat' (first | ((first | (refine gsel_split (fun q' => ?_) (fun q' => ?_)<;>(have h':=q')<;>(try simp only [za1,za2,Ba,Bb,za3,ne_eq,za4,za5,za6,Ia,Ib,Ic,Ie,Da,Bc,Bd,Be,za7,za8] at h')<;>try (exfalso; omega)) | (have q':=trivial; first | refine hE _ _ ret_ne ?_ | refine hE _ _ exit_ne ?_))<;>(try simp (disch:=first | omega | decide +kernel) only [q',go_sem,Qa,Qb,Qc,Qd,Qe,↓reduceIte,reduceCtorEq,Qf,Qg,Qh])<;>clear q') | refine hN _ ?_ ?_ Wk.kk | with_reducible refine And.intro ?_ ?_ | with_reducible omega | exact ok_ints | exact cells_ints | exact no_mem | with_reducible exact plain_ints | (refine le_maxLen ?_; omega) | (refine za9 ⟨?_,?_⟩) | (simp only [go_sem,Qc,Qb,zb1,zb2,forall_eq]; done)))
               all_goals exact hN3 (E,la) _ hlt3 ⟨hnx,hl0,hl1⟩ (by refine Wk.auto ?_ ?_<;>simp [extraK,lk,killL,St.kill,wipeO,wipeS,AV.has,AV.hasL,AO.wipe,List.map_set,updSt,insL,dropS,ins,nth])
             . have hm:=(mpAt_esO hgE gc hI.nd).2 fun k' h => hk ⟨k',h⟩
               have hnx:=hskip (E++[(c,r + 1)]) (r + 1) (hI.put hg hC hiL hlt3 hrp (by omega) fun k' h => hk ⟨k',h⟩)
               obtain ⟨r1,hr1⟩ : ∃ r1 : Nat,r1=r + 1:=⟨_,rfl⟩
               have hr2 : 1 + (r : Int)=(r1 : Int):=by omega
               have c4:=add_newV (frm + k) (esO (L++E)) (la : Nat) (mkN c : Int) (r1 : Int) hm (by rw [esO_len,List.length_append]; omega)
               rw [← esO_app,List.append_assoc] at c4
               rw [← hr1] at hnx
               simp (disch:=first | omega | decide +kernel) only [hfd,hei,hej,e1,e2,e3,e4,hr2,go_sem,Qa,Qb,Qc,Qd,Qe,↓reduceIte,reduceCtorEq,Qf,Qg,Qh]
               (repeat' (first | ((first | (refine gsel_split (fun q' => ?_) (fun q' => ?_)<;>(have h':=q')<;>(try simp only [za1,za2,Ba,Bb,za3,ne_eq,za4,za5,za6,Ia,Ib,Ic,Ie,Da,Bc,Bd,Be,za7,za8] at h')<;>try (exfalso; omega)) | (have q':=trivial; first | refine callX_new (c1) rfl (by decide) ?_ | refine callY_new (c1) rfl ?_ | refine callX_new (c2) rfl (by decide) ?_ | refine callY_new (c2) rfl ?_ | refine callX_new (c3) rfl (by decide) ?_ | refine callY_new (c3) rfl ?_ | refine hE _ _ ret_ne ?_ | refine hE _ _ exit_ne ?_))<;>(try simp (disch:=first | omega | decide +kernel) only [q',hfd,hei,hej,e1,e2,e3,e4,hr2,go_sem,Qa,Qb,Qc,Qd,Qe,↓reduceIte,reduceCtorEq,Qf,Qg,Qh])<;>clear q') | refine hN _ ?_ ?_ Wk.kk | with_reducible refine And.intro ?_ ?_ | with_reducible omega | exact ok_ints | exact cells_ints | exact no_mem | with_reducible exact plain_ints | (refine le_maxLen ?_; omega) | (refine za9 ⟨?_,?_⟩) | (simp only [go_sem,Qc,Qb,zb1,zb2,forall_eq]; done)))
               refine callX_mut [19,800000001,17,61] [19,800000001,17,61] [800000001] c4 ⟨.inl rfl,.inl rfl,.inl rfl,trivial⟩ ⟨rfl,rfl,rfl,rfl,trivial⟩ rfl (by simp [dstB,nth]) ?_
               simp (disch:=first | omega | decide +kernel) only [hr2,go_sem,Qa,Qb,Qc,Qd,Qe,↓reduceIte,reduceCtorEq,Qf,Qg,Qh]
               (repeat' (first | ((first | (refine gsel_split (fun q' => ?_) (fun q' => ?_)<;>(have h':=q')<;>(try simp only [za1,za2,Ba,Bb,za3,ne_eq,za4,za5,za6,Ia,Ib,Ic,Ie,Da,Bc,Bd,Be,za7,za8] at h')<;>try (exfalso; omega)) | (have q':=trivial; first | refine hE _ _ ret_ne ?_ | refine hE _ _ exit_ne ?_))<;>(try simp (disch:=first | omega | decide +kernel) only [q',hr2,go_sem,Qa,Qb,Qc,Qd,Qe,↓reduceIte,reduceCtorEq,Qf,Qg,Qh])<;>clear q') | refine hN _ ?_ ?_ Wk.kk | with_reducible refine And.intro ?_ ?_ | with_reducible omega | exact ok_ints | exact cells_ints | exact no_mem | with_reducible exact plain_ints | (refine le_maxLen ?_; omega) | (refine za9 ⟨?_,?_⟩) | (simp only [go_sem,Qc,Qb,zb1,zb2,forall_eq]; done)))
               all_goals exact hN3 (E++[(c,r1)],r1) _ hlt3 ⟨hnx,fun h => absurd h (by simp),fun _ => hr1⟩ (by refine Wk.auto ?_ ?_<;>simp [extraK,lk,killL,St.kill,wipeO,wipeS,AV.has,AV.hasL,AO.wipe,List.map_set,updSt,insL,dropS,ins,hr2,nth])
           . have hnx:=hskip E la (hI.skip (i:=frm + k) (j:=j) fun d hd hdl => by
              have:=resP_uniq ga gb hd hrp
              subst this; omega)
             simp (disch:=first | omega | decide +kernel) only [hfd,hei,hej,e1,e2,e3,e4,go_sem,Qa,Qb,Qc,Qd,Qe,↓reduceIte,reduceCtorEq,Qf,Qg,Qh]
             (repeat' (first | ((first | (refine gsel_split (fun q' => ?_) (fun q' => ?_)<;>(have h':=q')<;>(try simp only [za1,za2,Ba,Bb,za3,ne_eq,za4,za5,za6,Ia,Ib,Ic,Ie,Da,Bc,Bd,Be,za7,za8] at h')<;>try (exfalso; omega)) | (have q':=trivial; first | refine callX_new (c1) rfl (by decide) ?_ | refine callY_new (c1) rfl ?_ | refine callX_new (c2) rfl (by decide) ?_ | refine callY_new (c2) rfl ?_ | refine callX_new (c3) rfl (by decide) ?_ | refine callY_new (c3) rfl ?_ | refine hE _ _ ret_ne ?_ | refine hE _ _ exit_ne ?_))<;>(try simp (disch:=first | omega | decide +kernel) only [q',hfd,hei,hej,e1,e2,e3,e4,go_sem,Qa,Qb,Qc,Qd,Qe,↓reduceIte,reduceCtorEq,Qf,Qg,Qh])<;>clear q') | refine hN _ ?_ ?_ Wk.kk | with_reducible refine And.intro ?_ ?_ | with_reducible omega | exact ok_ints | exact cells_ints | exact no_mem | with_reducible exact plain_ints | (refine le_maxLen ?_; omega) | (refine za9 ⟨?_,?_⟩) | (simp only [go_sem,Qc,Qb,zb1,zb2,forall_eq]; done)))
             all_goals exact hN3 (E,la) _ hlt3 ⟨hnx,hl0,hl1⟩ (by refine Wk.auto ?_ ?_<;>simp [extraK,lk,killL,St.kill,wipeO,wipeS,AV.has,AV.hasL,AO.wipe,List.map_set,updSt,insL,dropS,ins,nth])
         . have hnx:=hskip E la (hI.skip (i:=frm + k) (j:=j) fun d hd _ => by
            obtain ⟨v,hv,hd⟩:=hd
            exact absurd (hmr.2 ⟨d,v,hv,hd⟩) ho)
           rw [Bool.not_eq_true] at ho
           generalize hmA : mkN (L.getD (frm + k) zC).1=mA at *
           generalize hmB : mkN (L.getD j zC).1=mB at *
           generalize boN mA mB=bo at *
           rw [ho] at c2
           simp (disch:=first | omega | decide +kernel) only [hfd,hei,hej,go_sem,Qa,Qb,Qc,Qd,Qe,↓reduceIte,reduceCtorEq,Qf,Qg,Qh]
           (repeat' (first | ((first | (refine gsel_split (fun q' => ?_) (fun q' => ?_)<;>(have h':=q')<;>(try simp only [za1,za2,Ba,Bb,za3,ne_eq,za4,za5,za6,Ia,Ib,Ic,Ie,Da,Bc,Bd,Be,za7,za8] at h')<;>try (exfalso; omega)) | (have q':=trivial; first | refine callX_new (c1) rfl (by decide) ?_ | refine callY_new (c1) rfl ?_ | refine callX_new (c2) rfl (by decide) ?_ | refine callY_new (c2) rfl ?_ | refine hE _ _ ret_ne ?_ | refine hE _ _ exit_ne ?_))<;>(try simp (disch:=first | omega | decide +kernel) only [q',hfd,hei,hej,go_sem,Qa,Qb,Qc,Qd,Qe,↓reduceIte,reduceCtorEq,Qf,Qg,Qh])<;>clear q') | refine hN _ ?_ ?_ Wk.kk | with_reducible refine And.intro ?_ ?_ | with_reducible omega | exact ok_ints | exact cells_ints | exact no_mem | with_reducible exact plain_ints | (refine le_maxLen ?_; omega) | (refine za9 ⟨?_,?_⟩) | (simp only [go_sem,Qc,Qb,zb1,zb2,forall_eq]; done)))
           all_goals exact hN3 (E,la) _ hlt3 ⟨hnx,hl0,hl1⟩ (by refine Wk.auto ?_ ?_<;>simp [extraK,lk,killL,St.kill,wipeO,wipeS,AV.has,AV.hasL,AO.wipe,List.map_set,updSt,insL,dropS,ins,nth])
       . obtain rfl : j=frm + k:=by omega
         have hnx : InvI cs w r L E (fun a _ => a < frm + (k + 1)):=hI.mono fun a b _ _ h => by omega
         simp (disch:=first | omega | decide +kernel) only [List.length_map,go_sem,Qa,Qb,Qc,Qd,Qe,↓reduceIte,reduceCtorEq,Qf,Qg,Qh]
         (repeat' (first | ((first | (refine gsel_split (fun q' => ?_) (fun q' => ?_)<;>(have h':=q')<;>(try simp only [za1,za2,Ba,Bb,za3,ne_eq,za4,za5,za6,Ia,Ib,Ic,Ie,Da,Bc,Bd,Be,za7,za8] at h')<;>try (exfalso; omega)) | (have q':=trivial; first | refine hE _ _ ret_ne ?_ | refine hE _ _ exit_ne ?_))<;>(try simp (disch:=first | omega | decide +kernel) only [q',List.length_map,go_sem,Qa,Qb,Qc,Qd,Qe,↓reduceIte,reduceCtorEq,Qf,Qg,Qh])<;>clear q') | refine hN _ ?_ ?_ Wk.kk | with_reducible refine And.intro ?_ ?_ | with_reducible omega | exact ok_ints | exact cells_ints | exact no_mem | with_reducible exact plain_ints | (refine le_maxLen ?_; omega) | (refine za9 ⟨?_,?_⟩) | (simp only [go_sem,Qc,Qb,zb1,zb2,forall_eq]; done)))
         refine hE3 _ _ exit_ne ?_
         simp (disch:=first | omega | decide +kernel) only [List.length_map,go_sem,Qa,Qb,Qc,Qd,Qe,↓reduceIte,reduceCtorEq,Qf,Qg,Qh]
         (repeat' (first | ((first | (refine gsel_split (fun q' => ?_) (fun q' => ?_)<;>(have h':=q')<;>(try simp only [za1,za2,Ba,Bb,za3,ne_eq,za4,za5,za6,Ia,Ib,Ic,Ie,Da,Bc,Bd,Be,za7,za8] at h')<;>try (exfalso; omega)) | (have q':=trivial; first | refine hE _ _ ret_ne ?_ | refine hE _ _ exit_ne ?_))<;>(try simp (disch:=first | omega | decide +kernel) only [q',List.length_map,go_sem,Qa,Qb,Qc,Qd,Qe,↓reduceIte,reduceCtorEq,Qf,Qg,Qh])<;>clear q') | refine hN _ ?_ ?_ Wk.kk | with_reducible refine And.intro ?_ ?_ | with_reducible omega | exact ok_ints | exact cells_ints | exact no_mem | with_reducible exact plain_ints | (refine le_maxLen ?_; omega) | (refine za9 ⟨?_,?_⟩) | (simp only [go_sem,Qc,Qb,zb1,zb2,forall_eq]; done)))
         refine hN2 (E,la) _ hlt ⟨hnx,hl0,hl1⟩ ((Wk.unarw 800000001 rfl).trans ((Wk.arw 800000001 (by simp (disch:=first | omega | decide +kernel) only [go_sem,Qa,Qb,Qc,Qd,Qe,↓reduceIte,reduceCtorEq,Qf,Qg,Qh]; rfl)).trans ?_))
         rw [show ((frm + k : Nat) : Int) + 1=((frm + (k + 1) : Nat) : Int) by omega]
         exact (by refine Wk.auto ?_ ?_<;>simp [extraK,lk,killL,St.kill,wipeO,wipeS,AV.has,AV.hasL,AO.wipe,List.map_set,updSt,insL,dropS,ins,ins])
     . obtain rfl : k=L.length - frm:=by omega
       have hnx:=(hI.mono (D':=fun _ _ => True) fun a b h1 _ _ => by omega).done hg hC
       simp (disch:=first | omega | decide +kernel) only [List.length_map,go_sem,Qa,Qb,Qc,Qd,Qe,↓reduceIte,reduceCtorEq,Qf,Qg,Qh]
       (repeat' (first | ((first | (refine gsel_split (fun q' => ?_) (fun q' => ?_)<;>(have h':=q')<;>(try simp only [za1,za2,Ba,Bb,za3,ne_eq,za4,za5,za6,Ia,Ib,Ic,Ie,Da,Bc,Bd,Be,za7,za8] at h')<;>try (exfalso; omega)) | (have q':=trivial; first | refine hE _ _ ret_ne ?_ | refine hE _ _ exit_ne ?_))<;>(try simp (disch:=first | omega | decide +kernel) only [q',List.length_map,go_sem,Qa,Qb,Qc,Qd,Qe,↓reduceIte,reduceCtorEq,Qf,Qg,Qh])<;>clear q') | refine hN _ ?_ ?_ Wk.kk | with_reducible refine And.intro ?_ ?_ | with_reducible omega | exact ok_ints | exact cells_ints | exact no_mem | with_reducible exact plain_ints | (refine le_maxLen ?_; omega) | (refine za9 ⟨?_,?_⟩) | (simp only [go_sem,Qc,Qb,zb1,zb2,forall_eq]; done)))
       refine hE2 _ _ exit_ne ?_
       simp (disch:=first | omega | decide +kernel) only [List.length_map,go_sem,Qa,Qb,Qc,Qd,Qe,↓reduceIte,reduceCtorEq,Qf,Qg,Qh]
       (repeat' (first | ((first | (refine gsel_split (fun q' => ?_) (fun q' => ?_)<;>(have h':=q')<;>(try simp only [za1,za2,Ba,Bb,za3,ne_eq,za4,za5,za6,Ia,Ib,Ic,Ie,Da,Bc,Bd,Be,za7,za8] at h')<;>try (exfalso; omega)) | (have q':=trivial; first | refine hE _ _ ret_ne ?_ | refine hE _ _ exit_ne ?_))<;>(try simp (disch:=first | omega | decide +kernel) only [q',List.length_map,go_sem,Qa,Qb,Qc,Qd,Qe,↓reduceIte,reduceCtorEq,Qf,Qg,Qh])<;>clear q') | refine hN _ ?_ ?_ Wk.kk | with_reducible refine And.intro ?_ ?_ | with_reducible omega | exact ok_ints | exact cells_ints | exact no_mem | with_reducible exact plain_ints | (refine le_maxLen ?_; omega) | (refine za9 ⟨?_,?_⟩) | (simp only [go_sem,Qc,Qb,zb1,zb2,forall_eq]; done)))
       rw [show (1 + (r : Int) + 1)=1 + ((r + 1 : Nat) : Int) by omega,hesl]
       refine hN ((L++E,L.length),la) _ (by omega) ⟨hnx,by simp only; omega,fun p hp => ?_,fun h => ?_⟩ (by refine Wk.auto ?_ ?_<;>simp [extraK,lk,killL,St.kill,wipeO,wipeS,AV.has,AV.hasL,AO.wipe,List.map_set,updSt,insL,dropS,ins,])
       . simp only at hp ⊢
         by_cases he : E=[]
         . subst he
           rw [List.append_nil] at hp
           rw [hl0 rfl]; exact hle p hp
         . rw [hl1 he]
           have:=((hnx.mem p.1 p.2).1 hp).1
           exact this
       . simp only at h ⊢
         by_cases he : E=[]
         . subst he
           rw [List.append_nil,hl0 rfl]
           exact hex (by rwa [List.append_nil] at h)
         . obtain ⟨q,q',rfl⟩:=List.exists_cons_of_ne_nil he
           exact ⟨q,by simp,by rw [hl1 he]; exact (hI.snd q (by simp)).1⟩
   . simp (disch:=first | omega | decide +kernel) only [List.length_map,go_sem,Qa,Qb,Qc,Qd,Qe,↓reduceIte,reduceCtorEq,Qf,Qg,Qh]
     (repeat' (first | ((first | (refine gsel_split (fun q' => ?_) (fun q' => ?_)<;>(have h':=q')<;>(try simp only [za1,za2,Ba,Bb,za3,ne_eq,za4,za5,za6,Ia,Ib,Ic,Ie,Da,Bc,Bd,Be,za7,za8] at h')<;>try (exfalso; omega)) | (have q':=trivial; first | refine hE _ _ ret_ne ?_ | refine hE _ _ exit_ne ?_))<;>(try simp (disch:=first | omega | decide +kernel) only [q',List.length_map,go_sem,Qa,Qb,Qc,Qd,Qe,↓reduceIte,reduceCtorEq,Qf,Qg,Qh])<;>clear q') | refine hN _ ?_ ?_ Wk.kk | with_reducible refine And.intro ?_ ?_ | with_reducible omega | exact ok_ints | exact cells_ints | exact no_mem | with_reducible exact plain_ints | (refine le_maxLen ?_; omega) | (refine za9 ⟨?_,?_⟩) | (simp only [go_sem,Qc,Qb,zb1,zb2,forall_eq]; done)))
     have hrem : ∀ k c,NewC cs w k c->k<=r:=by
      have hno : ∀ c,¬ NewC cs w r c:=fun c hc => by
       obtain ⟨i,hi,e⟩:=List.getElem_of_mem ((hC.mem c r).2 ⟨Nat.le_refl _,hc⟩)
       have:=(hC.old i hi).2 (by simp [List.getD_eq_getElem?_getD,hi,e])
       omega
      intro k c hc
      cases r with
      | zero => exact absurd hc (new_none hno k c)
      | succ r => exact Classical.byContradiction fun h => new_stop hno k c (by omega) hc
     have fin : FinC cs w L last:=⟨hC.nd,fun c k => by rw [hC.mem]; exact ⟨fun h => h.2,fun h => ⟨hrem k c h,h⟩⟩,hle,hex⟩
     refine ⟨⟨[(4,.d (.ptr (D.clo L last)))],[]⟩,(Wk.mfz 17 rfl).trans ((show Wk _ _ ⟨[(4,.p 19 0)],[(800000001,clR (esO L) []),(19,.box 98 [.sl 800000001,.d (.map .u16 .i64 (esO L)),.d (.int .i64 (last : Nat))])]⟩ from (by refine Wk.auto ?_ ?_<;>simp [extraK,lk,killL,St.kill,wipeO,wipeS,AV.has,AV.hasL,AO.wipe,List.map_set,updSt,insL,dropS,ins,mfzS,mfzO,AV.mfz,AV.mfzL,AO.mfz])).trans
      ((Wk.unarw 800000001 rfl).trans ((Wk.data (j:=800000001) (by simp (disch:=first | omega | decide +kernel) only [go_sem,Qa,Qb,Qc,Qd,Qe,↓reduceIte,reduceCtorEq,Qf,Qg,Qh]; rfl) rfl).trans ?_))),?_⟩
     . refine Wk.trans (st':=⟨[(4,.p 19 0)],[(19,.box 98 [.d (.slice ((esO L).map fun p => .int .u16 p.1)),.d (.map .u16 .i64 (esO L)),.d (.int .i64 (last : Nat))])]⟩) (by simp only [St.frz,frzS,frzO,AV.frz,AV.frzL,AO.frz,ins,Qb,Qa,↓reduceIte]; exact Wk.refl) ((Wk.bfz 19 (D.clo L last) rfl rfl).trans ?_)
       exact (by refine Wk.auto ?_ ?_<;>simp [extraK,lk,killL,St.kill,wipeO,wipeS,AV.has,AV.hasL,AO.wipe,List.map_set,updSt,insL,dropS,ins,bfzS,bfzO,AV.bfz,AV.bfzL,AO.bfz])
     . exact ⟨_,_,⟨L,last,fin,rfl,rfl⟩,trivial,⟨fun j => j,rfl,by simp,by simp,trivial⟩,.inl rfl⟩
end Abs.Y
