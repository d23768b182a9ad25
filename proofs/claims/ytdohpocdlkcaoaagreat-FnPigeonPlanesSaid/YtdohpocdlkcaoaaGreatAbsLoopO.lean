/- What functions of this program compute, over plain data. No condition. -/
import Derived.Test.YtdohpocdlkcaoaaGreatAbsReg7
import Derived.Test.YtdohpocdlkcaoaaGreatAbsTagR
set_option linter.all false
namespace Abs.Y
open Go Go.Proofs Abs
open Nat renaming reduceEqDiff -> Qa, reduceLT -> Qb, reduceAdd -> Qc, reduceMul -> Qd, reduceSub -> Qe, reduceLeDiff -> Qf, reduceSubDiff -> Qg, reduceBEq -> Qh
open Bool renaming not_eq_true' -> Ba, not_eq_false' -> Bb, and_eq_true -> Bc, or_eq_true -> Bd, or_eq_false_iff -> Be
open Int renaming ofNat_lt -> Ia, ofNat_le -> Ib, not_lt -> Ic, not_le -> Ie
open Decidable renaming not_not -> Da
set_option maxRecDepth 100000

set_option maxHeartbeats 4000000 in
theorem pairAxiom_ok (vars u : Int) (cs : List (List Int)) (ps : List Tp) (n j i k : Int) (hn : 1<=n∧n<=3) (hj : 1<=j∧j<=3) (hik : 1<=i∧i < k∧k<=n + 1) (hl : ps.length<=10000)
 (hi : 0<=atP n j i k∧atP n j i k < cs.length) (hx : (cs.getD (atP n j i k).toNat []).length<=4294967296) (hc : Lits vars (cs.getD (atP n j i k).toNat [])) : CtrR Tryz.prog 75
 [.p 0 0,.d (.agg [.int .i64 u,.slice (cs.map D.ints)]),.d (.int .i64 n),.d (.int .i64 j),.d (.int .i64 i),.d (.int .i64 k)] [(0,plB vars 1),(1,plR ps)] [0] true (PlP vars ps ⟨planI vars (cs.getD (atP n j i k).toNat []),1,atP n j i k,0,0⟩):=by
 have c1:=pairsOf_ok (n + 1) (by omega)
 have c2:=pairNumber_ok (n + 1) i k (by omega) hik
 obtain ⟨a,ha⟩ : ∃ a : Nat,atP n j i k=a:=⟨(atP n j i k).toNat,by omega⟩
 have b1 : 0<=prs (n + 1)∧prs (n + 1)<=100∧0<=(j - 1) * prs (n + 1)∧(j - 1) * prs (n + 1)<=100:=by
  rcases (by omega : n=1∨n=2∨n=3) with rfl | rfl | rfl<;>rcases (by omega : j=1∨j=2∨j=3) with rfl | rfl | rfl<;>decide
 have b2 : 0<=pno (n + 1) i k∧pno (n + 1) i k<=100:=by
  unfold atP at ha hi; unfold atP at hc
  rcases (by omega : n=1∨n=2∨n=3) with rfl | rfl | rfl<;>rcases (by omega : i=1∨i=2∨i=3) with rfl | rfl | rfl<;>rcases (by omega : k=1∨k=2∨k=3∨k=4) with rfl | rfl | rfl | rfl<;>first | omega | decide
 have ha2:=ha
 unfold atP at ha2
 rw [ha] at hi hx hc ⊢
 rw [show (a : Int).toNat=a from rfl] at hx hc ⊢
 have c3:=axiom_ok vars u cs ps a hl (by omega) hx hc
 generalize prs (n + 1)=P1 at *
 generalize pno (n + 1) i k=P2 at *
 generalize hP3 : (j - 1) * P1=P3 at *
 refine CtrR.ofO (n:=32) (rs:=[.tmp 12]) Tryz.func75 rfl rfl Tryz.ntmps75 rfl rfl (by kernel_rfl) Tryz.checked.mixed ?_; intro u
 refine Ok.seq (Ok.go ?_)
 simp (disch:=first | omega | decide +kernel) only [go_sem,Qa,Qb,Qc,Qd,Qe,↓reduceIte,reduceCtorEq,Qf,Qg,Qh]
 refine Ok.seq (Ok.reg7 [true,true,true,true,true,true,true,true,true,true,true,true,true,true,true,true,true,true,false,false] (by decide +kernel) ?_)
 simp (disch:=first | omega | decide +kernel) only [go_sem,Qa,Qb,Qc,Qd,Qe,↓reduceIte,reduceCtorEq,Qf,Qg,Qh]
 (repeat' (first | ((first | (refine gsel_split (fun q' => ?_) (fun q' => ?_)<;>(have h':=q')<;>(try simp only [za1,za2,Ba,Bb,za3,ne_eq,za4,za5,za6,Ia,Ib,Ic,Ie,Da,Bc,Bd,Be,za7,za8] at h')) | (have q':=trivial; first | refine callX_new (c1) rfl (by decide) ?_ | refine callY_new (c1) rfl ?_ | refine callX_new (c2) rfl (by decide) ?_ | refine callY_new (c2) rfl ?_ | refine hE _ _ ret_ne ?_ | refine hE _ _ exit_ne ?_))<;>(try simp (disch:=first | omega | decide +kernel) only [q',go_sem,Qa,Qb,Qc,Qd,Qe,↓reduceIte,reduceCtorEq,Qf,Qg,Qh])<;>clear q') | refine hN _ ?_ ?_ Wk.kk | with_reducible refine And.intro ?_ ?_ | with_reducible omega | exact ok_ints | exact cells_ints | exact no_mem | with_reducible exact plain_ints | (refine le_maxLen ?_; omega) | (refine za9 ⟨?_,?_⟩) | (simp only [go_sem,Qc,Qb,zb1,zb2,forall_eq]; done)))
 simp only [hP3,ha2]
 refine callX_rel [0,1] [0,1,3200000] [1,3200000] c3 ⟨.inl rfl,.inl rfl,.inl rfl,trivial⟩ ⟨rfl,rfl,trivial⟩ (by simp [namesI,keysO,nth]) (by simp [dstB]) ?_
 rintro _ _ ⟨v,rfl,rfl⟩
 refine ⟨by simp [namesOK,keysO,nth],?_⟩
 simp (disch:=first | omega | decide +kernel) only [go_sem,Qa,Qb,Qc,Qd,Qe,↓reduceIte,reduceCtorEq,Qf,Qg,Qh]
 refine Ok.go ?_
 simp (disch:=first | omega | decide +kernel) only [go_sem,Qa,Qb,Qc,Qd,Qe,↓reduceIte,reduceCtorEq,Qf,Qg,Qh]
 exact retR_pl (k1:=1) (k2:=3200000) (row:=plR (ps++[(v,_)])) (by decide) rfl rfl rfl (fun _ => rfl) rfl rfl ⟨v,rfl,rfl⟩

def lastq (l : List PSt) : Pl:=(l.getD (l.length - 1) PSt.z).q
section
variable (u : Int) (cs : List (List Int)) (n j : Int)
def hPair (i k : Int) : PSt:=⟨planI u (cs.getD (atP n j i k).toNat []),1,atP n j i k,0,0⟩
def hS (k : Int) (l : List PSt) : List PSt:=l++[⟨zipP (fun a _ => k * a) (lastq l) (lastq l),5,(l.length : Int) - 1,0,k⟩]
def hI (m : Int) : Nat->List PSt->List PSt
 | 0,l => l
 | i + 1,l => hI m i l++[hPair u cs n j (i + 1) m,⟨addP (lastq (hI m i l)) (hPair u cs n j (i + 1) m).q,4,((hI m i l).length : Int) - 1,(hI m i l).length,0⟩]
def hD (k : Int) (l : List PSt) : List PSt:=l++[⟨halfK k (lastq l),6,(l.length : Int) - 1,0,k⟩]
def hM (l : List PSt) : Nat->List PSt
 | 0 => l++[hPair u cs n j 1 2]
 | k + 1 => hD (k + 2) (hI u cs n j (k + 3) (k + 2) (hS (k + 1) (hM l k)))
end
theorem hS_len (k : Int) (l : List PSt) : (hS k l).length=l.length + 1:=by simp [hS]
theorem hI_len {u cs n j m} : ∀ (i : Nat) (l : List PSt),(hI u cs n j m i l).length=l.length + 2 * i
 | 0,l => rfl
 | i + 1,l => by rw [hI,List.length_append,hI_len i]; simp; omega
theorem hM_len {u cs n j} (l : List PSt) : ∀ k,(hM u cs n j l k).length<=l.length + 1 + k * (2 * k + 4)
 | 0 => by simp [hM]
 | k + 1 => by
   have:=hM_len (u:=u) (cs:=cs) (n:=n) (j:=j) l k
   rw [hM,hD,List.length_append,hI_len,hS_len]
   have e : (k + 1) * (2 * (k + 1) + 4)=k * (2 * k + 4) + (4 * k + 6):=by
    rw [Nat.add_mul,Nat.mul_add 2 k 1,Nat.one_mul,show 2 * k + 2 * 1 + 4=(2 * k + 4) + 2 by omega,Nat.mul_add k]; omega
   simp only [List.length_singleton]; omega
end Abs.Y

namespace Abs.Y
open Go Go.Proofs Abs
open Nat renaming reduceEqDiff -> Qa, reduceLT -> Qb, reduceAdd -> Qc, reduceMul -> Qd, reduceSub -> Qe, reduceLeDiff -> Qf, reduceSubDiff -> Qg, reduceBEq -> Qh
open Bool renaming not_eq_true' -> Ba, not_eq_false' -> Bb, and_eq_true -> Bc, or_eq_true -> Bd, or_eq_false_iff -> Be
open Int renaming ofNat_lt -> Ia, ofNat_le -> Ib, not_lt -> Ic, not_le -> Ie
open Decidable renaming not_not -> Da
set_option maxRecDepth 100000

def okq (u : Int) (l : List PSt) : Prop:=(lastq l).co.length=u.toNat∧Bd 1000000 (lastq l)
structure HoleF (u : Int) (cs : List (List Int)) (n j : Int) (base : List PSt) : Prop where
 at_ : ∀ i k,1<=i->i < k->k<=n + 1->(0<=atP n j i k∧atP n j i k < cs.length)∧(cs.getD (atP n j i k).toNat []).length<=1000∧Lits u (cs.getD (atP n j i k).toNat [])
 q1 : ∀ k : Nat,(k : Int) + 2<=n->okq u (hM u cs n j base k)
 q2 : ∀ k i : Nat,(k : Int) + 2<=n->i<=k + 2->okq u (hI u cs n j (k + 3) i (hS (k + 1) (hM u cs n j base k)))
 q3 : ∀ k : Nat,(k : Int) + 2<=n->oddK (k + 2) (lastq (hI u cs n j (k + 3) (k + 2) (hS (k + 1) (hM u cs n j base k))))=false
def PlQ (vars : Int) (ps : List Tp) (L : List PSt) : AV->List (Nat × AO)->Prop:=fun r oo => ∃ qs : List Tp,(ps++qs).map (·.2)=L∧r=.d (.int .i64 ((L.length : Int) - 1))∧oo=[(0,plB vars 1),(1,plR (ps++qs)),(2,.res (qs.map resT))]
theorem pl_last {ps : List Tp} {L : List PSt} (h : ps.map (·.2)=L) (h0 : 0 < L.length) : ps.length - 1 < ps.length∧(ps.getD (ps.length - 1) Tp.z).2.q=lastq L:=by
 have e : ps.length=L.length:=by rw [← h,List.length_map]
 refine ⟨by omega,?_⟩
 subst h
 simp only [lastq,List.length_map,List.getD_eq_getElem?_getD,List.getElem?_map]
 rw [List.length_map] at h0
 rw [List.getElem?_eq_getElem (by omega)]
 rfl
theorem pairH_ok {w : Int} {cs : List (List Int)} {n j : Int} {base : List PSt} (hF : HoleF w cs n j base) (ps : List Tp) (i k : Int) (hn : 1<=n∧n<=3) (hj : 1<=j∧j<=3) (hik : 1<=i∧i < k∧k<=n + 1) (hl : ps.length<=10000) : CtrR Tryz.prog 75
 [.p 0 0,.d (.agg [.int .i64 w,.slice (cs.map D.ints)]),.d (.int .i64 n),.d (.int .i64 j),.d (.int .i64 i),.d (.int .i64 k)] [(0,plB w 1),(1,plR ps)] [0] true (PlP w ps (hPair w cs n j i k)):=by
 obtain ⟨a1,a2,a3⟩:=hF.at_ i k (by omega) (by omega) (by omega)
 exact pairAxiom_ok w w cs ps n j i k hn hj hik hl a1 (by omega) a3
theorem Bd.mono {n m : Int} {q : Pl} (h : Bd n q) (hnm : n<=m) : Bd m q:=⟨fun j => by have:=h.1 j; omega,by have:=h.2; omega⟩
theorem hM_pos {u cs n j} (l : List PSt) : ∀ k,l.length + 1<=(hM u cs n j l k).length
 | 0 => by simp [hM]
 | k + 1 => by
   have:=hM_pos (u:=u) (cs:=cs) (n:=n) (j:=j) l k
   rw [hM,hD,List.length_append,hI_len,hS_len]; omega
theorem okq_len {u : Int} {l : List PSt} (h : okq u l) (hu : u<=12) : (lastq l).co.length<=4294967296:=by rw [h.1]; omega
set_option maxHeartbeats 8000000 in
theorem hole_ok {w : Int} {cs : List (List Int)} {n j : Int} (ps : List Tp) (hn : 1<=n∧n<=3) (hj : 1<=j∧j<=3) (hl : ps.length<=1000) (hF : HoleF w cs n j (ps.map (·.2))) : CtrR Tryz.prog 39
 [.p 0 0,.d (.agg [.int .i64 w,.slice (cs.map D.ints)]),.d (.int .i64 n),.d (.int .i64 j)] [(0,plB w 1),(1,plR ps)] [0] true (PlQ w ps (hM w cs n j (ps.map (·.2)) (n - 1).toNat)):=by
 have c1:=pairH_ok hF ps 1 2 hn hj (by omega) (by omega)
 have hw:=(hF.at_ 1 2 (by omega) (by omega) (by omega)).2.2.2.1
 refine CtrR.of (n:=62) (rs:=[.tmp 8]) Tryz.func39 rfl rfl Tryz.ntmps39 rfl rfl (by kernel_rfl) Tryz.checked.mixed ?_; intro u
 simp (disch:=first | omega | decide +kernel) only [go_sem,Qa,Qb,Qc,Qd,Qe,↓reduceIte,reduceCtorEq,Qf,Qg,Qh]
 refine callX_rel [0,1] [0,1,800000001] [1,800000001] c1 ⟨.inl rfl,.inl rfl,.inl rfl,.inl rfl,.inl rfl,.inl rfl,trivial⟩ ⟨rfl,rfl,trivial⟩ (by simp [namesI,keysO,nth]) (by simp [dstB]) ?_
 rintro _ _ ⟨v,rfl,rfl⟩
 refine ⟨by simp [namesOK,keysO,nth],?_⟩
 simp (disch:=first | omega | decide +kernel) only [go_sem,Qa,Qb,Qc,Qd,Qe,↓reduceIte,reduceCtorEq,Qf,Qg,Qh]
 clear c1
 refine Ok.loopN [60,59,58,57,56,55,54,53,52,51,50,49,48,47,46,45,44,43,42,41,40,39,38,37,36,35,34,33,32,31,30,29,28,27,26,25,24,23,22,21,20,19,18,17,16,15,14,13,12,11,10,9,7,6,4,1] (fun i (qs : List Tp) => [(10,.d (.int .i64 (3 + (i : Nat)))),(9,.d (.int .i64 ((ps.length : Nat) + (qs.length : Nat) - 1)))]) (fun _ (qs : List Tp) => [(1,plR (ps++qs)),(800000001,.res (qs.map resT))]) (n - 1).toNat
  (fun i qs => (ps++qs).map (·.2)=hM w cs n j (ps.map (·.2)) i) [(v,hPair w cs n j 1 2)] (by simp [hM]) (by
   rw [show (ps.length : Int) + (([(v,hPair w cs n j 1 2)] : List Tp).length : Nat) - 1=(ps.length : Nat) by simp]
   exact (by refine Wk.auto ?_ ?_<;>simp [extraK,lk,killL,St.kill,wipeO,wipeS,AV.has,AV.hasL,AO.wipe,List.map_set,updSt,insL,dropS,ins,List.map_cons,List.map_nil])) ?_
 rintro R i qs hN hE hi hinv
 have hML:=hM_len (u:=w) (cs:=cs) (n:=n) (j:=j) (ps.map (·.2)) i
 have hMP:=hM_pos (u:=w) (cs:=cs) (n:=n) (j:=j) (ps.map (·.2)) i
 have hi3 : i * (2 * i + 4)<=100:=by
  have : i<=2:=by omega
  rcases (by omega : i=0∨i=1∨i=2) with rfl | rfl | rfl<;>decide
 have hLE : (hM w cs n j (ps.map (·.2)) i).length=ps.length + qs.length:=by rw [← hinv]; simp
 rw [hLE,List.length_map] at hML hMP
 by_cases hlt : i < (n - 1).toNat
 . have q1:=hF.q1 i (by omega)
   have hq2:=fun k h => hF.q2 i k (by omega) h
   have hq3:=hF.q3 i (by omega)
   have hMs : hM w cs n j (ps.map (·.2)) (i + 1)=hD (i + 2) (hI w cs n j (i + 3) (i + 2) (hS (i + 1) (hM w cs n j (ps.map (·.2)) i))):=rfl
   obtain ⟨p1,p2⟩:=pl_last hinv (by rw [hLE]; omega)
   have ea : (ps++qs).length - 1=ps.length + qs.length - 1:=by rw [List.length_append]
   rw [ea] at p1 p2
   have c2:=(scalePlaneO_ok (k:=(i : Int) + 1) (by omega) (q:=lastq (hM w cs n j (ps.map (·.2)) i)) (okq_len q1 hw) q1.2 (by omega) (by omega)).strip (ys:=[D.tpl ((ps++qs).getD (ps.length + qs.length - 1) Tp.z),.int .i64 ((i : Int) + 1)]) (by rw [tpl_strip1,p2])
   have e1 : ((ps.length : Int) + (qs.length : Int) - 1).toNat=ps.length + qs.length - 1:=by omega
   have e2 : 3 + (i : Int) - 2=i + 1:=by omega
   have hSe : hS (i + 1) (hM w cs n j (ps.map (·.2)) i)=(ps++qs).map (·.2)++[⟨zipP (fun a _ => ((i : Int) + 1) * a) (lastq (hM w cs n j (ps.map (·.2)) i)) (lastq (hM w cs n j (ps.map (·.2)) i)),5,(ps.length : Nat) + (qs.length : Nat) - 1,0,(i : Int) + 1⟩]:=by
    rw [hS,hLE,hinv]; simp
   have hp:=fun (rs : List Tp) (a b : Int) (h : 1<=a∧a < b∧b<=n + 1) (h2 : rs.length<=10000) => pairH_ok hF rs a b hn hj h h2
   have hpq : ∀ a b,1<=a->a < b->b<=n + 1->(hPair w cs n j a b).q.co.length=w.toNat∧Bd 1000000 (hPair w cs n j a b).q:=fun a b h1 h2 h3 => by
    obtain ⟨_,h4,h5⟩:=hF.at_ a b h1 h2 h3
    have:=planI_inv w (cs.getD (atP n j a b).toNat [])
    exact ⟨this.2,this.1.mono (by omega)⟩
   have hb1 : ps.length + qs.length<=1200:=by omega
   clear hinv hF q1 hML
   generalize hM w cs n j (ps.map (·.2)) i=L0 at *
   generalize zipP (fun a _ => ((i : Int) + 1) * a) (lastq L0) (lastq L0)=z0 at *
   generalize hS ((i : Int) + 1) L0=L1 at *
   clear p2 hLE
   simp (disch:=first | omega | decide +kernel) only [el_tp,e1,e2,go_sem,Qa,Qb,Qc,Qd,Qe,↓reduceIte,reduceCtorEq,Qf,Qg,Qh]
   (repeat' (first | ((first | (refine gsel_split (fun q' => ?_) (fun q' => ?_)<;>(have h':=q')<;>(try simp only [za1,za2,Ba,Bb,za3,ne_eq,za4,za5,za6,Ia,Ib,Ic,Ie,Da,Bc,Bd,Be,za7,za8] at h')) | (have q':=trivial; first | refine callX_new (c2) rfl (by decide) ?_ | refine callY_new (c2) rfl ?_ | refine hE _ _ ret_ne ?_ | refine hE _ _ exit_ne ?_))<;>(try simp (disch:=first | omega | decide +kernel) only [q',el_tp,e1,e2,go_sem,Qa,Qb,Qc,Qd,Qe,↓reduceIte,reduceCtorEq,Qf,Qg,Qh])<;>clear q') | refine hN _ ?_ ?_ Wk.kk | with_reducible refine And.intro ?_ ?_ | with_reducible omega | exact ok_ints | exact cells_ints | exact no_mem | with_reducible exact plain_ints | (refine le_maxLen ?_; omega) | (refine za9 ⟨?_,?_⟩) | (simp only [go_sem,Qc,Qb,zb1,zb2,forall_eq]; done)))
   refine callX_rel [0,1,3600000] [0,1,3600000] [1,3600000] (put_ok w (ps++qs) ⟨z0,5,(ps.length : Nat) + (qs.length : Nat) - 1,0,(i : Int) + 1⟩ (by simp; omega)) ⟨.inl rfl,.inl rfl,trivial⟩ ⟨rfl,rfl,rfl,trivial⟩ (by simp [namesI,keysO,nth]) (by simp [dstB]) ?_
   rintro _ _ ⟨v1,rfl,rfl⟩
   refine ⟨by simp [namesOK,keysO,nth],?_⟩
   simp (disch:=first | omega | decide +kernel) only [go_sem,Qa,Qb,Qc,Qd,Qe,↓reduceIte,reduceCtorEq,Qf,Qg,Qh]
   refine Ok.weak ((Wk.merge 800000001 3600000 (by decide) rfl rfl).trans (show Wk _ _ ⟨[(1000000000,.hdr 0 (u 0)),(12,.d (.int .i64 1)),(11,.d (.int .i64 ((ps.length + qs.length : Nat) : Int))),(10,.d (.int .i64 (3 + (i : Int)))),(8,.d (.int .i64 0)),(5,.p 5 0),(3,.d (.int .i64 j)),(2,.d (.int .i64 n)),(0,.p 0 0)],
    [(800000001,.res (qs.map resT++[resT (v1,⟨z0,5,(ps.length : Nat) + (qs.length : Nat) - 1,0,(i : Int) + 1⟩)])),(5,.box 27 [.d (.int .i64 w),.d (.slice (cs.map D.ints))]),(1,plR (ps++qs++[(v1,⟨z0,5,(ps.length : Nat) + (qs.length : Nat) - 1,0,(i : Int) + 1⟩)])),(0,plB w 1)]⟩ from (by refine Wk.auto ?_ ?_<;>simp [extraK,lk,killL,St.kill,wipeO,wipeS,AV.has,AV.hasL,AO.wipe,List.map_set,updSt,insL,dropS,ins,del]))) ?_
   refine Ok.loopN [55,54,53,52,51,50,49,48,47,46,45,44,43,42,41,17,16,15,14,13,12,11,7,6,4,1] (fun k (rs : List Tp) => [(12,.d (.int .i64 (1 + (k : Nat)))),(11,.d (.int .i64 ((ps.length : Nat) + (rs.length : Nat) - 1)))]) (fun _ (rs : List Tp) => [(1,plR (ps++rs)),(800000001,.res (rs.map resT))]) (i + 2)
    (fun k rs => (ps++rs).map (·.2)=hI w cs n j ((i : Int) + 3) k L1) (qs++[(v1,⟨z0,5,(ps.length : Nat) + (qs.length : Nat) - 1,0,(i : Int) + 1⟩)]) (by rw [hI,hSe]; simp) (by
     rw [show (ps.length : Int) + ((qs++[(v1,(⟨z0,5,(ps.length : Nat) + (qs.length : Nat) - 1,0,(i : Int) + 1⟩ : PSt))]).length : Nat) - 1=((ps.length + qs.length : Nat) : Int) by simp; omega]
     exact (by refine Wk.auto ?_ ?_<;>simp [extraK,lk,killL,St.kill,wipeO,wipeS,AV.has,AV.hasL,AO.wipe,List.map_set,updSt,insL,dropS,ins,List.map_cons,List.map_nil,List.map_append,del,List.append_assoc,Nat.add_assoc])) ?_
   rintro R2 k rs hN2 hE2 hk hinv2
   have hlen:=hI_len (u:=w) (cs:=cs) (n:=n) (j:=j) (m:=(i : Int) + 3) k L1
   have hL1 : L1.length=ps.length + qs.length + 1:=by rw [hSe]; simp [Nat.add_assoc]
   have hLR : (hI w cs n j ((i : Int) + 3) k L1).length=ps.length + rs.length:=by rw [← hinv2]; simp
   rw [hL1,hLR] at hlen
   obtain ⟨p3,p4⟩:=pl_last hinv2 (by rw [hLR]; omega)
   have eb : (ps++rs).length - 1=ps.length + rs.length - 1:=by rw [List.length_append]
   rw [eb] at p3 p4
   have eI : ((ps.length : Int) + (rs.length : Int) - 1)=((ps.length + rs.length - 1 : Nat) : Int):=by omega
   have q2:=hq2 k hk
   by_cases hlt2 : k < i + 2
   . have hpe : hPair w cs n j (1 + (k : Int)) (3 + (i : Int))=hPair w cs n j ((k : Int) + 1) ((i : Int) + 3):=by rw [Int.add_comm 1,Int.add_comm 3]
     have c3:=hp (ps++rs) (1 + (k : Int)) (3 + (i : Int)) (by omega) (by simp; omega)
     have hq5:=hpq ((k : Int) + 1) ((i : Int) + 3) (by omega) (by omega) (by omega)
     have hIs : hI w cs n j ((i : Int) + 3) (k + 1) L1=hI w cs n j ((i : Int) + 3) k L1++[hPair w cs n j ((k : Int) + 1) ((i : Int) + 3),⟨addP (lastq (hI w cs n j ((i : Int) + 3) k L1)) (hPair w cs n j ((k : Int) + 1) ((i : Int) + 3)).q,4,((hI w cs n j ((i : Int) + 3) k L1).length : Int) - 1,(hI w cs n j ((i : Int) + 3) k L1).length,0⟩]:=rfl
     rw [hLR] at hIs
     rw [hpe] at c3
     generalize hPair w cs n j ((k : Int) + 1) ((i : Int) + 3)=P0 at *
     generalize hLd : hI w cs n j ((i : Int) + 3) k L1=L2 at *
     have c4:=fun v2 => add_ok w (ps++rs++[(v2,P0)]) (ps.length + rs.length - 1) (ps.length + rs.length) (by simp; omega) (by simp; omega) (by simp) (qa:=lastq L2) (qb:=P0.q)
      (by rw [getD_app,if_pos (by simp; omega)]; exact p4) (by simp [List.getD_eq_getElem?_getD,List.getElem?_append]) (okq_len q2 hw) (by rw [q2.1,hq5.1]; exact Nat.le_refl _) q2.2 hq5.2
     rw [← eI] at c4
     clear hp hpq hq2 hq3 hMs hSe c2
     simp (disch:=first | omega | decide +kernel) only [go_sem,Qa,Qb,Qc,Qd,Qe,↓reduceIte,reduceCtorEq,Qf,Qg,Qh]
     (repeat' (first | ((first | (refine gsel_split (fun q' => ?_) (fun q' => ?_)<;>(have h':=q')<;>(try simp only [za1,za2,Ba,Bb,za3,ne_eq,za4,za5,za6,Ia,Ib,Ic,Ie,Da,Bc,Bd,Be,za7,za8] at h')) | (have q':=trivial; first | refine hE _ _ ret_ne ?_ | refine hE _ _ exit_ne ?_))<;>(try simp (disch:=first | omega | decide +kernel) only [q',go_sem,Qa,Qb,Qc,Qd,Qe,↓reduceIte,reduceCtorEq,Qf,Qg,Qh])<;>clear q') | refine hN _ ?_ ?_ Wk.kk | with_reducible refine And.intro ?_ ?_ | with_reducible omega | exact ok_ints | exact cells_ints | exact no_mem | with_reducible exact plain_ints | (refine le_maxLen ?_; omega) | (refine za9 ⟨?_,?_⟩) | (simp only [go_sem,Qc,Qb,zb1,zb2,forall_eq]; done)))
     refine callX_rel [0,1] [0,1,5500000] [1,5500000] c3 ⟨.inl rfl,.inl rfl,.inl rfl,.inl rfl,.inl rfl,.inl rfl,trivial⟩ ⟨rfl,rfl,trivial⟩ (by simp [namesI,keysO,nth]) (by simp [dstB]) ?_
     rintro _ _ ⟨v2,rfl,rfl⟩
     refine ⟨by simp [namesOK,keysO,nth],?_⟩
     have c5:=c4 v2
     simp (disch:=first | omega | decide +kernel) only [go_sem,Qa,Qb,Qc,Qd,Qe,↓reduceIte,reduceCtorEq,Qf,Qg,Qh]
     refine callX_rel [0,1] [0,1,5600000] [1,5600000] c5 ⟨.inl rfl,.inl rfl,.inl rfl,trivial⟩ ⟨rfl,rfl,trivial⟩ (by simp [namesI,keysO,nth]) (by simp [dstB]) ?_
     rintro _ _ ⟨v3,rfl,rfl⟩
     refine ⟨by simp [namesOK,keysO,nth],?_⟩
     simp (disch:=first | omega | decide +kernel) only [go_sem,Qa,Qb,Qc,Qd,Qe,↓reduceIte,reduceCtorEq,Qf,Qg,Qh]
     refine hN2 (rs++[(v2,P0),(v3,⟨addP (lastq L2) P0.q,4,(ps.length : Int) + (rs.length : Nat) - 1,((ps.length + rs.length : Nat) : Int),0⟩)]) _ hlt2 (by rw [hIs,← hinv2]; simp) ((Wk.merge 800000001 5500000 (by decide) rfl rfl).trans ((Wk.merge 800000001 5600000 (by decide) (by simp (disch:=first | omega | decide +kernel) only [del,go_sem,Qa,Qb,Qc,Qd,Qe,↓reduceIte,reduceCtorEq,Qf,Qg,Qh]; rfl) (by simp (disch:=first | omega | decide +kernel) only [del,go_sem,Qa,Qb,Qc,Qd,Qe,↓reduceIte,reduceCtorEq,Qf,Qg,Qh]; rfl)).trans ?_))
     rw [show (ps.length : Int) + ((rs++[(v2,P0),(v3,(⟨addP (lastq L2) P0.q,4,(ps.length : Int) + (rs.length : Nat) - 1,((ps.length + rs.length : Nat) : Int),0⟩ : PSt))]).length : Nat) - 1=((ps.length + rs.length + 1 : Nat) : Int) by simp; omega]
     exact (by refine Wk.auto ?_ ?_<;>simp [extraK,lk,killL,St.kill,wipeO,wipeS,AV.has,AV.hasL,AO.wipe,List.map_set,updSt,insL,dropS,ins,del,List.map_append,List.append_assoc,Int.add_assoc])
   . obtain rfl : k=i + 2:=by omega
     have e3 : 3 + (i : Int) - 1=i + 2:=by omega
     have c6:=divide_ok w (ps++rs) (ps.length + rs.length - 1) ((i : Int) + 2) (by omega) (by simp; omega) (by simp; omega) p4 (okq_len q2 hw) q2.2 hq3
     rw [← eI] at c6
     have hMs2 : hM w cs n j (ps.map (·.2)) (i + 1)=hI w cs n j ((i : Int) + 3) (i + 2) L1++[⟨halfK ((i : Int) + 2) (lastq (hI w cs n j ((i : Int) + 3) (i + 2) L1)),6,(ps.length : Int) + (rs.length : Nat) - 1,0,(i : Int) + 2⟩]:=by
      rw [hMs,hD,hLR]; simp
     clear hp hpq hq2 hq3 hMs hSe c2 q2
     generalize hI w cs n j ((i : Int) + 3) (i + 2) L1=L2 at *
     simp (disch:=first | omega | decide +kernel) only [e3,go_sem,Qa,Qb,Qc,Qd,Qe,↓reduceIte,reduceCtorEq,Qf,Qg,Qh]
     (repeat' (first | ((first | (refine gsel_split (fun q' => ?_) (fun q' => ?_)<;>(have h':=q')<;>(try simp only [za1,za2,Ba,Bb,za3,ne_eq,za4,za5,za6,Ia,Ib,Ic,Ie,Da,Bc,Bd,Be,za7,za8] at h')) | (have q':=trivial; first | refine hE _ _ ret_ne ?_ | refine hE _ _ exit_ne ?_))<;>(try simp (disch:=first | omega | decide +kernel) only [q',e3,go_sem,Qa,Qb,Qc,Qd,Qe,↓reduceIte,reduceCtorEq,Qf,Qg,Qh])<;>clear q') | refine hN _ ?_ ?_ Wk.kk | with_reducible refine And.intro ?_ ?_ | with_reducible omega | exact ok_ints | exact cells_ints | exact no_mem | with_reducible exact plain_ints | (refine le_maxLen ?_; omega) | (refine za9 ⟨?_,?_⟩) | (simp only [go_sem,Qc,Qb,zb1,zb2,forall_eq]; done)))
     refine hE2 _ _ exit_ne ?_
     simp (disch:=first | omega | decide +kernel) only [e3,go_sem,Qa,Qb,Qc,Qd,Qe,↓reduceIte,reduceCtorEq,Qf,Qg,Qh]
     (repeat' (first | ((first | (refine gsel_split (fun q' => ?_) (fun q' => ?_)<;>(have h':=q')<;>(try simp only [za1,za2,Ba,Bb,za3,ne_eq,za4,za5,za6,Ia,Ib,Ic,Ie,Da,Bc,Bd,Be,za7,za8] at h')) | (have q':=trivial; first | refine hE _ _ ret_ne ?_ | refine hE _ _ exit_ne ?_))<;>(try simp (disch:=first | omega | decide +kernel) only [q',e3,go_sem,Qa,Qb,Qc,Qd,Qe,↓reduceIte,reduceCtorEq,Qf,Qg,Qh])<;>clear q') | refine hN _ ?_ ?_ Wk.kk | with_reducible refine And.intro ?_ ?_ | with_reducible omega | exact ok_ints | exact cells_ints | exact no_mem | with_reducible exact plain_ints | (refine le_maxLen ?_; omega) | (refine za9 ⟨?_,?_⟩) | (simp only [go_sem,Qc,Qb,zb1,zb2,forall_eq]; done)))
     refine callX_rel [0,1] [0,1,6100000] [1,6100000] c6 ⟨.inl rfl,.inl rfl,.inl rfl,trivial⟩ ⟨rfl,rfl,trivial⟩ (by simp [namesI,keysO,nth]) (by simp [dstB]) ?_
     rintro _ _ ⟨v4,rfl,rfl⟩
     refine ⟨by simp [namesOK,keysO,nth],?_⟩
     simp (disch:=first | omega | decide +kernel) only [go_sem,Qa,Qb,Qc,Qd,Qe,↓reduceIte,reduceCtorEq,Qf,Qg,Qh]
     refine hN (rs++[(v4,⟨halfK ((i : Int) + 2) (lastq L2),6,(ps.length : Int) + (rs.length : Nat) - 1,0,(i : Int) + 2⟩)]) _ hlt (by rw [hMs2,← hinv2]; simp) ((Wk.merge 800000001 6100000 (by decide) rfl rfl).trans ?_)
     rw [show (ps.length : Int) + ((rs++[(v4,(⟨halfK ((i : Int) + 2) (lastq L2),6,(ps.length : Int) + (rs.length : Nat) - 1,0,(i : Int) + 2⟩ : PSt))]).length : Nat) - 1=((ps.length + rs.length : Nat) : Int) by simp; omega]
     exact (by refine Wk.auto ?_ ?_<;>simp [extraK,lk,killL,St.kill,wipeO,wipeS,AV.has,AV.hasL,AO.wipe,List.map_set,updSt,insL,dropS,ins,del,List.map_append,List.append_assoc,Int.add_assoc])
 . obtain rfl : i=(n - 1).toNat:=by omega
   simp (disch:=first | omega | decide +kernel) only [go_sem,Qa,Qb,Qc,Qd,Qe,↓reduceIte,reduceCtorEq,Qf,Qg,Qh]
   (repeat' (first | ((first | (refine gsel_split (fun q' => ?_) (fun q' => ?_)<;>(have h':=q')<;>(try simp only [za1,za2,Ba,Bb,za3,ne_eq,za4,za5,za6,Ia,Ib,Ic,Ie,Da,Bc,Bd,Be,za7,za8] at h')) | (have q':=trivial; first | refine hE _ _ ret_ne ?_ | refine hE _ _ exit_ne ?_))<;>(try simp (disch:=first | omega | decide +kernel) only [q',go_sem,Qa,Qb,Qc,Qd,Qe,↓reduceIte,reduceCtorEq,Qf,Qg,Qh])<;>clear q') | refine hN _ ?_ ?_ Wk.kk | with_reducible refine And.intro ?_ ?_ | with_reducible omega | exact ok_ints | exact cells_ints | exact no_mem | with_reducible exact plain_ints | (refine le_maxLen ?_; omega) | (refine za9 ⟨?_,?_⟩) | (simp only [go_sem,Qc,Qb,zb1,zb2,forall_eq]; done)))
   exact retR_pl (k1:=1) (k2:=800000001) (row:=plR (ps++qs)) (by decide) rfl rfl rfl (fun _ => rfl) rfl rfl ⟨qs,hinv,by rw [hLE]; congr 2,rfl⟩
end Abs.Y

namespace Abs
open Go Go.RowKit
theorem Ok.loopO {P : Program} {N : Nat} {c : Code} {Q : Exit->St->Prop} {st : St} (I : Nat->St->Prop) (n0 : Nat) {st0 : St} (hw : Wk N st st0) (h0 : I n0 st0) (hr : ∀ n st,I n st->Ok P N c (loopQ N I n Q) st) : Ok P N (.loop c) Q st:=by
 intro h1 h2 Z B M w0 a w ⟨β,φ,hs⟩
 refine ⟨fun n a w => ∃ st,Sim Z N B M w0 st a w∧I n st,n0,⟨st0,hw _ _ _ _ _ _ _ _ hs,h0⟩,fun n a w ⟨st',hs',hI⟩ => ?_⟩
 refine sw_mono c (hr n st' hI h1 h2 Z B M w0 a w hs') fun e a w hl => ?_
 cases e with
 | normal =>
   obtain ⟨st1,⟨β1,φ1,hs1⟩,m,st2,hlt,hw2,hI2⟩:=hl
   exact ⟨m,hlt,st2,hw2 _ _ _ _ _ _ _ _ hs1,hI2⟩
 | exit id => exact hl
 | goto l => exact hl
 | ret => exact hl
 | panic ch => exact hl
 | outgrown => exact hl
theorem Ok.loopNO {P : Program} {N : Nat} {c : Code} {Q : Exit->St->Prop} {S : List (Nat × AV)} {O : List (Nat × AO)} {α : Type} (ks : List Nat) (u : Nat->α->List (Nat × AV)) (ou : Nat->α->List (Nat × AO)) (len : Nat) (I : Nat->α->Prop)
 (a0 : α) (hI : I 0 a0) (hw : Wk N ⟨S,O⟩ (updSt ks (u 0 a0) (ou 0 a0) S O))
 (hr : ∀ (R : Exit->St->Prop) (i : Nat) (a : α),(∀ a' st,i < len->I (i + 1) a'->Wk N st (updSt ks (u (i + 1) a') (ou (i + 1) a') S O)->R .normal st)->(∀ e st,e ≠ .normal->Q e st->R e st)->i<=len->I i a ->
  Ok P N c R (updSt ks (u i a) (ou i a) S O)) : Ok P N (.loop c) Q ⟨S,O⟩ :=
 Ok.loopO (fun n st => ∃ i a,n=len - i∧i<=len∧I i a∧st=updSt ks (u i a) (ou i a) S O) len hw ⟨0,a0,rfl,Nat.zero_le _,hI,rfl⟩ fun n st ⟨i,a,h1,h2,hI,h⟩ => by
  subst h
  refine hr _ i a (fun a' st hlt hI' hw' => ⟨len - (i + 1),_,by omega,hw',i + 1,a',rfl,hlt,hI',rfl⟩) (fun e st h1 h2 => ?_) h2 hI
  cases e<;>first | exact absurd rfl h1 | exact h2
theorem Ok.block {P : Program} {N id : Nat} {c : Code} {Q : Exit->St->Prop} {st : St} (h : Ok P N c (blockQ id Q) st) : Ok P N (.block id c) Q st:=fun h1 h2 Z B M w0 a w hs => by
 refine sw_mono c (h h1 h2 Z B M w0 a w hs) fun e a w hl => ?_
 cases e with
 | exit id' =>
   obtain ⟨st',hs',hk⟩:=hl
   simp only [blockQ] at hk
   simp only [Exit.inBlock]
   split
   . rename_i e; rw [if_pos e] at hk; exact ⟨st',hs',hk⟩
   . rename_i e; rw [if_neg e] at hk; exact ⟨st',hs',hk⟩
 | normal => exact hl
 | goto l => exact hl
 | ret => exact hl
 | panic ch => exact hl
 | outgrown => exact hl
end Abs
