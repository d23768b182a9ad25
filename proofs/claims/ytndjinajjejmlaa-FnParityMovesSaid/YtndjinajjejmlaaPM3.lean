/- What functions of this program compute, over plain data. No condition. -/
import Derived.Test.YtndjinajjejmlaaK5
import Derived.Test.YtndjinajjejmlaaK2
set_option linter.all false
open Nat renaming reduceEqDiff -> Qa, reduceLT -> Qb, reduceAdd -> Qc, reduceMul -> Qd, reduceSub -> Qe, reduceLeDiff -> Qf, reduceSubDiff -> Qg, reduceBEq -> Qh
open Bool renaming not_eq_true' -> Ba, not_eq_false' -> Bb, and_eq_true -> Bc, or_eq_true -> Bh, or_eq_false_iff -> Be
open Int renaming ofNat_lt -> Ia, ofNat_le -> Ib, not_lt -> Ic, not_le -> Ie
open Decidable renaming not_not -> Da
namespace Abs.Y
open Go Go.Proofs Abs
set_option maxRecDepth 100000

def fstD (l : List (Int × Int)) : List D:=l.map fun r => D.int .i64 r.1
def sndD (l : List (Int × Int)) : List D:=l.map fun r => D.int .i64 r.2
end Abs.Y

namespace Abs.Y
open Go Go.Proofs Abs
set_option maxRecDepth 100000

def sB (S : List Int) (m : Nat) : List Bool:=(List.range m).map fun i : Nat => decide ((i : Int) ∈ S)
def sD (S : List Int) (m : Nat) : List D:=(sB S m).map D.bool
theorem sB_len {S m} : (sB S m).length=m:=by simp [sB]
theorem sD_len {S m} : (sD S m).length=m:=by simp [sD,sB]
theorem sD_nil : sD [] 8=[D.bool false,D.bool false,D.bool false,D.bool false,D.bool false,D.bool false,D.bool false,D.bool false]:=rfl
theorem el_sD {S : List Int} {m i : Nat} (h : i < m) : el (sD S m) i=.bool (decide ((i : Int) ∈ S)):=by
 rw [sD,el_map (f:=D.bool) false (by rw [sB_len]; exact h)]
 congr 1
 simp [sB,List.getD_eq_getElem?_getD,h]
theorem sD_set {S : List Int} {m : Nat} {x : Int} (h : 0<=x∧x < m) : (sD S m).set x.toNat (.bool true)=sD (S++[x]) m:=by
 apply List.ext_getElem
 . simp [sD_len]
 . intro i h1 h2
   rw [List.getElem_set]
   simp only [sD,sB,List.getElem_map,List.getElem_range]
   split
   . rename_i he
     have : (i : Int)=x:=by omega
     simp [this]
   . rename_i he
     congr 1
     have : ¬ (i : Int)=x:=by omega
     simp [this]
def stepS (g : Chg) (p : List Int × List (List (Int × Int))) (v : Nat) : List Int × List (List (Int × Int)):=if (v : Int) ∈ p.1 then p else (p.1++(lineI g v).map (·.1),p.2++[lineI g v])
def linesL (g : Chg) (k : Nat) : List Int × List (List (Int × Int)):=(List.range k).foldl (stepS g) ([],[])
def linesI (g : Chg) : List (List (Int × Int)):=(linesL g g.n.toNat).2
theorem linesL_succ (g : Chg) (k : Nat) : linesL g (k + 1)=stepS g (linesL g k) k:=by simp [linesL,List.range_succ]
theorem linesL_le (g : Chg) : ∀ k,(linesL g k).2.length<=k
 | 0 => by simp [linesL]
 | k + 1 => by
   rw [linesL_succ]; have:=linesL_le g k
   unfold stepS; split
   . omega
   . simp; omega
theorem lineI_lin {g : Chg} (hg : goodC g=true) {v : Int} (hv : 0<=v∧v < g.n) : LinOk g (lineI g v):=by
 have h : ∀ (f i : Nat) (out : List (Int × Int)),LinOk g out->LinOk g (lineF g f i out):=by
  intro f
  induction f with
  | zero => exact fun i out h => h
  | succ f ih =>
    intro i out h
    rw [lineF]
    split
    . exact ih _ _ (growL_ok hg (fun k h => h) h)
    . exact h
 exact h _ _ _ (lin_start hg hv)
def D.lin (l : List (Int × Int)) : D:=.slice (l.map D.ed)
set_option maxHeartbeats 8000000 in
theorem lines_ok (g : Chg) (hg : goodC g=true) : Ctr Try.prog 62 [D.chg g] true (.d (.slice ((linesI g).map D.lin))) []:=by
 have hs:=(goodC_spec hg).1
 have hn8:=hs.1.2
 have hn1:=hs.1.1
 refine Ctr.of (n:=36) (rs:=[.tmp 2]) Try.func62 rfl rfl Try.ntmps62 rfl rfl (by kernel_rfl) Try.checked.mixed ?_
 simp (disch:=first | omega | decide +kernel) only [D.chg,D.ints,go_sem,Qa,Qb,Qc,Qd,Qe,↓reduceIte,reduceCtorEq,Qf,Qg,Qh]
 (repeat' (first | ((first | (refine gsel_split (fun q' => ?_) (fun q' => ?_)<;>(have h':=q')<;>(try simp only [za1,za2,Ba,Bb,za3,ne_eq,za4,za5,za6,Ia,Ib,Ic,Ie,Da,Bc,Bh,Be,za7,za8] at h')) | (have q':=trivial; first | refine hE _ _ ret_ne ?_ | refine hE _ _ exit_ne ?_))<;>(try simp (disch:=first | omega | decide +kernel) only [q',go_sem,Qa,Qb,Qc,Qd,Qe,↓reduceIte,reduceCtorEq,Qf,Qg,Qh])<;>clear q') | refine hN _ ?_ ?_ Wk.kk | with_reducible refine And.intro ?_ ?_ | with_reducible omega | exact ok_ints | exact cells_ints | exact no_mem | with_reducible exact plain_ints | (refine le_maxLen ?_; omega) | (refine za9 ⟨?_,?_⟩) | (simp only [go_sem,Qc,Qb,zb1,zb2,forall_eq]; done)))
 refine Ok.loopN [35,34,33,32,31,30,29,28,27,26,25,24,23,22,21,20,19,18,17,16,15,14,13,12,11,8,7,6,5,3] (fun i _ => [(11,.d (.int .i64 (i : Nat))),(3,.sl 3)]) (fun _ (p : List Int × List (List (Int × Int))) => [(4,.arv 96 1 (sD p.1 8)),(3,.arr 89 1 (p.2.map D.lin))]) g.n.toNat
  (fun i p => p=linesL g i) ([],[]) rfl (by refine Wk.auto ?_ ?_<;>simp [extraK,lk,killL,St.kill,wipeO,wipeS,AV.has,AV.hasL,AO.wipe,List.map_set,updSt,insL,dropS,ins,sD_nil]) ?_
 rintro R i p hN hE hi hp
 have hle:=linesL_le g i
 rw [← hp] at hle
 by_cases hlt : i < g.n.toNat
 . have hsu:=linesL_succ g i
   rw [← hp] at hsu
   obtain ⟨S,out⟩:=p
   unfold stepS at hsu
   simp only at hsu hle
   have hes : el (sD S 8) i=.bool (decide ((i : Int) ∈ S)):=el_sD (by omega)
   have hi0 : ((i : Nat) : Int).toNat=i:=by omega
   by_cases hm : (i : Int) ∈ S
   . rw [if_pos hm] at hsu
     rw [decide_eq_true hm] at hes
     simp (disch:=first | omega | decide +kernel) only [hes,sD_len,hi0,go_sem,Qa,Qb,Qc,Qd,Qe,↓reduceIte,reduceCtorEq,Qf,Qg,Qh]
     (repeat' (first | ((first | (refine gsel_split (fun q' => ?_) (fun q' => ?_)<;>(have h':=q')<;>(try simp only [za1,za2,Ba,Bb,za3,ne_eq,za4,za5,za6,Ia,Ib,Ic,Ie,Da,Bc,Bh,Be,za7,za8] at h')) | (have q':=trivial; first | refine hE _ _ ret_ne ?_ | refine hE _ _ exit_ne ?_))<;>(try simp (disch:=first | omega | decide +kernel) only [q',hes,sD_len,hi0,go_sem,Qa,Qb,Qc,Qd,Qe,↓reduceIte,reduceCtorEq,Qf,Qg,Qh])<;>clear q') | refine hN _ ?_ ?_ Wk.kk | with_reducible refine And.intro ?_ ?_ | with_reducible omega | exact ok_ints | exact cells_ints | exact no_mem | with_reducible exact plain_ints | (refine le_maxLen ?_; omega) | (refine za9 ⟨?_,?_⟩) | (simp only [go_sem,Qc,Qb,zb1,zb2,forall_eq]; done)))
     refine hN (S,out) _ hlt hsu.symm (by refine Wk.auto ?_ ?_<;>simp [extraK,lk,killL,St.kill,wipeO,wipeS,AV.has,AV.hasL,AO.wipe,List.map_set,updSt,insL,dropS,ins,])
   . rw [if_neg hm] at hsu
     rw [decide_eq_false hm] at hes
     have hv : 0<=(i : Int)∧(i : Int) < g.n:=by omega
     have c1:=Ctr.data1 (line_ok g i hg hv)
     have hlk:=lineI_lin hg hv
     have hll:=hlk.len
     generalize lineI g i=l at *
     simp (disch:=first | omega | decide +kernel) only [hes,sD_len,hi0,go_sem,Qa,Qb,Qc,Qd,Qe,↓reduceIte,reduceCtorEq,Qf,Qg,Qh]
     (repeat' (first | ((first | (refine gsel_split (fun q' => ?_) (fun q' => ?_)<;>(have h':=q')<;>(try simp only [za1,za2,Ba,Bb,za3,ne_eq,za4,za5,za6,Ia,Ib,Ic,Ie,Da,Bc,Bh,Be,za7,za8] at h')) | (have q':=trivial; first | refine callX_shared (c1) rfl (by decide) ?_ | refine callY_shared (c1) rfl ?_ | refine hE _ _ ret_ne ?_ | refine hE _ _ exit_ne ?_))<;>(try simp (disch:=first | omega | decide +kernel) only [q',hes,sD_len,hi0,D.chg,D.ints,go_sem,Qa,Qb,Qc,Qd,Qe,↓reduceIte,reduceCtorEq,Qf,Qg,Qh])<;>clear q') | refine hN _ ?_ ?_ Wk.kk | with_reducible refine And.intro ?_ ?_ | with_reducible omega | exact ok_ints | exact cells_ints | exact no_mem | with_reducible exact plain_ints | (refine le_maxLen ?_; omega) | (refine za9 ⟨?_,?_⟩) | (simp only [go_sem,Qc,Qb,zb1,zb2,forall_eq]; done)))
     refine Ok.loopN [35,34,33,32,31,30,29,28,27,26,25,24,23,22,15,8] (fun j _ => [(22,.d (.int .i64 (j : Nat)))]) (fun _ (S' : List Int) => [(4,.arv 96 1 (sD S' 8))]) l.length
      (fun j S' => S'=S++(l.take j).map (·.1)) S (by simp) (Wk.kk) ?_
     rintro R2 j S' hN2 hE hj rfl
     by_cases hjl : j < l.length
     . have hvx:=hlk.vx _ (getD_mem (z:=((0 : Int),(0 : Int))) hjl)
       have htk : (l.take (j + 1)).map (·.1)=(l.take j).map (·.1)++[(l.getD j (0,0)).1]:=by rw [take_succ (0,0) l j hjl]; simp
       have hel : el (List.map D.ed l) j=.agg [.int .i64 (l.getD j (0,0)).1,.int .i64 (l.getD j (0,0)).2]:=el_eds hjl
       generalize l.getD j (0,0)=r at *
       have hset:=sD_set (S:=S++(l.take j).map (·.1)) (m:=8) (x:=r.1) (by omega)
       have hel2 : el (sD (S++(l.take j).map (·.1)) 8) r.1.toNat=.bool (decide (((r.1.toNat : Nat) : Int) ∈ S++(l.take j).map (·.1))):=el_sD (by omega)
       generalize hS' : S++(l.take j).map (·.1)=S' at *
       simp (disch:=first | omega | decide +kernel) only [hel,sD_len,el_c0,el_c1,go_sem,Qa,Qb,Qc,Qd,Qe,↓reduceIte,reduceCtorEq,Qf,Qg,Qh]
       (repeat' (first | ((first | (refine gsel_split (fun q' => ?_) (fun q' => ?_)<;>(have h':=q')<;>(try simp only [za1,za2,Ba,Bb,za3,ne_eq,za4,za5,za6,Ia,Ib,Ic,Ie,Da,Bc,Bh,Be,za7,za8] at h')) | (have q':=trivial; first | refine hE _ _ ret_ne ?_ | refine hE _ _ exit_ne ?_))<;>(try simp (disch:=first | omega | decide +kernel) only [q',hel,hel2,sD_len,hset,el_c0,el_c1,go_sem,Qa,Qb,Qc,Qd,Qe,↓reduceIte,reduceCtorEq,Qf,Qg,Qh])<;>clear q') | refine hN _ ?_ ?_ Wk.kk | with_reducible refine And.intro ?_ ?_ | with_reducible omega | exact ok_ints | exact cells_ints | exact no_mem | with_reducible exact plain_ints | (refine le_maxLen ?_; omega) | (refine za9 ⟨?_,?_⟩) | (simp only [go_sem,Qc,Qb,zb1,zb2,forall_eq]; done)))
       refine hN2 _ _ hjl (by rw [htk,← List.append_assoc,hS']) (by refine Wk.auto ?_ ?_<;>simp [extraK,lk,killL,St.kill,wipeO,wipeS,AV.has,AV.hasL,AO.wipe,List.map_set,updSt,insL,dropS,ins,])
     . obtain rfl : j=l.length:=by omega
       rw [List.take_length]
       simp (disch:=first | omega | decide +kernel) only [go_sem,Qa,Qb,Qc,Qd,Qe,↓reduceIte,reduceCtorEq,Qf,Qg,Qh]
       (repeat' (first | ((first | (refine gsel_split (fun q' => ?_) (fun q' => ?_)<;>(have h':=q')<;>(try simp only [za1,za2,Ba,Bb,za3,ne_eq,za4,za5,za6,Ia,Ib,Ic,Ie,Da,Bc,Bh,Be,za7,za8] at h')) | (have q':=trivial; first | refine hE _ _ ret_ne ?_ | refine hE _ _ exit_ne ?_))<;>(try simp (disch:=first | omega | decide +kernel) only [q',go_sem,Qa,Qb,Qc,Qd,Qe,↓reduceIte,reduceCtorEq,Qf,Qg,Qh])<;>clear q') | refine hN _ ?_ ?_ Wk.kk | with_reducible refine And.intro ?_ ?_ | with_reducible omega | exact ok_ints | exact cells_ints | exact no_mem | with_reducible exact plain_ints | (refine le_maxLen ?_; omega) | (refine za9 ⟨?_,?_⟩) | (simp only [go_sem,Qc,Qb,zb1,zb2,forall_eq]; done)))
       refine hN (S++l.map (·.1),out++[l]) _ hlt hsu.symm (by refine Wk.auto ?_ ?_<;>simp [extraK,lk,killL,St.kill,wipeO,wipeS,AV.has,AV.hasL,AO.wipe,List.map_set,updSt,insL,dropS,ins,D.lin])
 . obtain rfl : i=g.n.toNat:=by omega
   simp (disch:=first | omega | decide +kernel) only [go_sem,Qa,Qb,Qc,Qd,Qe,↓reduceIte,reduceCtorEq,Qf,Qg,Qh]
   (repeat' (first | ((first | (refine gsel_split (fun q' => ?_) (fun q' => ?_)<;>(have h':=q')<;>(try simp only [za1,za2,Ba,Bb,za3,ne_eq,za4,za5,za6,Ia,Ib,Ic,Ie,Da,Bc,Bh,Be,za7,za8] at h')) | (have q':=trivial; first | refine hE _ _ ret_ne ?_ | refine hE _ _ exit_ne ?_))<;>(try simp (disch:=first | omega | decide +kernel) only [q',go_sem,Qa,Qb,Qc,Qd,Qe,↓reduceIte,reduceCtorEq,Qf,Qg,Qh])<;>clear q') | refine hN _ ?_ ?_ Wk.kk | with_reducible refine And.intro ?_ ?_ | with_reducible omega | exact ok_ints | exact cells_ints | exact no_mem | with_reducible exact plain_ints | (refine le_maxLen ?_; omega) | (refine za9 ⟨?_,?_⟩) | (simp only [go_sem,Qc,Qb,zb1,zb2,forall_eq]; done)))
   rw [show linesI g=p.2 by rw [hp]; rfl]
   exact ret_s1 [3] rfl
end Abs.Y

namespace Abs.Y
open Go Go.Proofs Abs
set_option maxRecDepth 100000

theorem edges_iff {g : Chg} {v k : Int} : k ∈ edgesAt g v↔(0<=k∧k.toNat < g.ed.length∧((g.ed.getD k.toNat (0,0)).1=v∨(g.ed.getD k.toNat (0,0)).2=v)):=by
 refine ⟨mem_edges,fun ⟨h0,h1,h2⟩ => ?_⟩
 unfold edgesAt edgesTo
 refine List.mem_map.2 ⟨k.toNat,List.mem_filter.2 ⟨List.mem_range.2 h1,?_⟩,by omega⟩
 rcases h2 with h2 | h2
 . exact atB_1 h2
 . exact atB_2 h2
def ClosedV (g : Chg) (C : List Int) : Prop:=∀ x ∈ C,∀ k ∈ edgesAt g x,other g x k ∈ C
def Par (g : Chg) (out : List (Int × Int)) : Prop:=∀ j,0 < j->j < out.length->∃ i,i < j∧(out.getD j (0,0)).2 ∈ edgesAt g (out.getD i (0,0)).1∧other g (out.getD i (0,0)).1 (out.getD j (0,0)).2=(out.getD j (0,0)).1
def DoneV (g : Chg) (i : Nat) (out : List (Int × Int)) : Prop:=∀ j,j < i->j < out.length->∀ k ∈ edgesAt g (out.getD j (0,0)).1,other g (out.getD j (0,0)).1 k ∈ out.map (·.1)
theorem getD_pre {l l' : List (Int × Int)} (h : l <+: l') {i : Nat} (hi : i < l.length) : l'.getD i (0,0)=l.getD i (0,0):=by
 obtain ⟨t,rfl⟩:=h
 simp [List.getD_eq_getElem?_getD,List.getElem?_append_left hi]
theorem mem_pre {l l' : List (Int × Int)} (h : l <+: l') {x : Int} (hx : x ∈ l.map (·.1)) : x ∈ l'.map (·.1):=by
 obtain ⟨t,rfl⟩:=h
 rw [List.map_append]; exact List.mem_append_left _ hx
theorem grow1_has {g : Chg} {now k : Int} {out : List (Int × Int)} : other g now k ∈ (grow1 g now out k).map (·.1):=by
 unfold grow1; split
 . rename_i h; exact hasV_mem.1 h
 . simp
theorem growL_has {g : Chg} {now : Int} : ∀ {ks : List Int} {out : List (Int × Int)},∀ k ∈ ks,other g now k ∈ (growL g now ks out).map (·.1)
 | k :: r, out, k', h => by
   show _ ∈ (growL g now r (grow1 g now out k)).map (·.1)
   rcases List.mem_cons.1 h with rfl | h
   . exact mem_pre (growL_pre (ks:=r)) grow1_has
   . exact growL_has (ks:=r) k' h
theorem grow1_par {g : Chg} {now k : Int} {out : List (Int × Int)} {i : Nat} (hi : i < out.length) (hn : (out.getD i (0,0)).1=now) (hk : k ∈ edgesAt g now) (h : Par g out) : Par g (grow1 g now out k):=by
 unfold grow1; split
 . exact h
 . intro j h0 hj
   have hp : out <+: out++[(other g now k,k)]:=List.prefix_append _ _
   by_cases hlt : j < out.length
   . obtain ⟨i',h1,h2,h3⟩:=h j h0 hlt
     refine ⟨i',h1,?_⟩
     rw [getD_pre hp hlt,getD_pre hp (by omega)]
     exact ⟨h2,h3⟩
   . obtain rfl : j=out.length:=by simp at hj; omega
     refine ⟨i,hi,?_⟩
     rw [getD_pre hp hi,hn,show (out++[(other g now k,k)]).getD out.length (0,0)=(other g now k,k) by simp [List.getD_eq_getElem?_getD]]
     exact ⟨hk,rfl⟩
theorem growL_par {g : Chg} {now : Int} : ∀ {ks : List Int} {out : List (Int × Int)} {i : Nat},i < out.length->(out.getD i (0,0)).1=now->(∀ k ∈ ks,k ∈ edgesAt g now)->Par g out->Par g (growL g now ks out)
 | [],_,_,_,_,_,h => h
 | k :: r, out, i, hi, hn, hk, h => by
   have hp:=grow1_pre (g:=g) (now:=now) (k:=k) (out:=out)
   exact growL_par (ks:=r) (Nat.lt_of_lt_of_le hi hp.length_le) (by rw [getD_pre hp hi]; exact hn) (fun k' h' => hk k' (by simp [h'])) (grow1_par hi hn (hk k (by simp)) h)
theorem lineF_spec {g : Chg} (hg : goodC g=true) : ∀ (f i : Nat) (out : List (Int × Int)),LinOk g out->Par g out->DoneV g i out->9<=f + i ->
 LinOk g (lineF g f i out)∧Par g (lineF g f i out)∧DoneV g (lineF g f i out).length (lineF g f i out)∧out <+: lineF g f i out:=by
 intro f
 induction f with
 | zero =>
   intro i out h1 h2 h3 h4
   have:=h1.len
   exact ⟨h1,h2,fun j _ (hj : j < out.length) => h3 j (by omega) hj,List.prefix_rfl⟩
 | succ f ih =>
   intro i out h1 h2 h3 h4
   rw [lineF]
   split
   . rename_i hi
     have hp : out <+: stepL g out i:=growL_pre
     obtain ⟨a,b,c,d⟩:=ih (i + 1) (stepL g out i) (growL_ok hg (fun k h => h) h1) (growL_par hi rfl (fun k h => h) h2) (fun j hj hjl k hk => by
      by_cases e : j=i
      . subst e
        rw [getD_pre hp hi] at hk ⊢
        exact growL_has k hk
      . have hjo : j < out.length:=by omega
        rw [getD_pre hp hjo] at hk ⊢
        exact mem_pre hp (h3 j (by omega) hjo k hk)) (by omega)
     exact ⟨a,b,c,hp.trans d⟩
   . exact ⟨h1,h2,fun j _ hj => h3 j (by omega) hj,List.prefix_rfl⟩
theorem lineI_spec {g : Chg} (hg : goodC g=true) {v : Int} (hv : 0<=v∧v < g.n) : LinOk g (lineI g v)∧Par g (lineI g v)∧ClosedV g ((lineI g v).map (·.1))∧[(v,-1)] <+: lineI g v:=by
 obtain ⟨a,b,c,d⟩:=lineF_spec hg 9 0 [(v,-1)] (lin_start hg hv) (fun j h0 hj => by simp at hj; omega) (fun j hj => by omega) (by omega)
 refine ⟨a,b,fun x hx k hk => ?_,d⟩
 obtain ⟨r,hr,rfl⟩:=List.mem_map.1 hx
 obtain ⟨j,hj,rfl⟩:=List.getElem_of_mem hr
 have e : (lineI g v).getD j (0,0)=(lineI g v)[j]:=by simp [List.getD_eq_getElem?_getD,hj]
 have:=c j hj hj
 rw [show lineF g 9 0 [(v,-1)]=lineI g v from rfl,e] at this
 exact this k hk
theorem line_head {g : Chg} {v : Int} (h : [(v,-1)] <+: lineI g v) : ∃ t,lineI g v=(v,-1) :: t:=by
 obtain ⟨t,ht⟩:=h; exact ⟨t,ht.symm⟩
end Abs.Y

namespace Abs.Y
open Go Go.Proofs Abs
set_option maxRecDepth 100000

end Abs.Y

namespace Abs
open Go Go.RowKit

mutual
def AV.bfz (j : Nat) (x : D) : AV->AV
 | .sl i => if i=j then .undef else .sl i
 | .p i o => if i=j then (if o=0 then .d (.ptr x) else .undef) else .p i o
 | .pe i k n o => if i=j then .undef else .pe i k n o
 | .mq i => if i=j then .undef else .mq i
 | .sf i k l => if i=j then .undef else .sf i k l
 | .vw i q n k => if q=j then .undef else .vw i q n k
 | .pv i q k n o => if q=j then .undef else .pv i q k n o
 | .tup xs => .tup (AV.bfzL j x xs)
 | .st xs => .st (AV.bfzL j x xs)
 | .fn f cs => .fn f (AV.bfzL j x cs)
 | y => y
def AV.bfzL (j : Nat) (x : D) : List AV->List AV
 | [] => []
 | y :: r => y.bfz j x :: AV.bfzL j x r
end
theorem bfzL_length {j x} : ∀ xs : List AV,(AV.bfzL j x xs).length=xs.length
 | [] => rfl
 | y :: r => by simp [AV.bfzL,bfzL_length r]
theorem bfzL_getD {j x} : ∀ (xs : List AV) (i : Nat),(AV.bfzL j x xs).getD i .undef=(xs.getD i .undef).bfz j x
 | [],i => by simp [AV.bfzL,AV.bfz]
 | y :: r,0 => by simp [AV.bfzL]
 | y :: r,i + 1 => by simpa [AV.bfzL] using bfzL_getD r i
def bfzS (j : Nat) (x : D) : List (Nat × AV)->List (Nat × AV)
 | [] => []
 | (k,v) :: r => (k,v.bfz j x) :: bfzS j x r
def AO.bfz (j : Nat) (x : D) : AO->AO
 | .box e cells => .box e (AV.bfzL j x cells)
 | .dp t xs (some (c,some d)) => .dp t xs (if d=j then some (c,none) else some (c,some d))
 | y => y
def bfzO (j : Nat) (x : D) : List (Nat × AO)->List (Nat × AO)
 | [] => []
 | (k,v) :: r => if k=j then bfzO j x r else (k,v.bfz j x) :: bfzO j x r
theorem lk_bfzS {i j x} : ∀ {l : List (Nat × AV)} {v},lk i (bfzS j x l)=some v->∃ u,lk i l=some u∧v=u.bfz j x
 | [],_,h => by simp [bfzS,lk] at h
 | (k, u) :: r, v, h => by
   simp only [bfzS,lk] at h
   simp only [lk]
   split at h
   . rename_i e; rw [if_pos e]; cases h; exact ⟨u,rfl,rfl⟩
   . rename_i e; rw [if_neg e]; exact lk_bfzS h
theorem lk_bfzO {i j x} : ∀ {l : List (Nat × AO)} {o},lk i (bfzO j x l)=some o->i ≠ j∧∃ o',lk i l=some o'∧o=o'.bfz j x
 | [],_,h => by simp [bfzO,lk] at h
 | (k, v) :: r, o, h => by
   simp only [bfzO] at h
   split at h
   . rename_i hk
     obtain ⟨h1,o',h2,h3⟩:=lk_bfzO h
     exact ⟨h1,o',by simp only [lk]; rw [if_neg (by omega)]; exact h2,h3⟩
   . rename_i hk
     simp only [lk] at h
     split at h
     . rename_i e; subst e; cases h; exact ⟨hk,v,by simp [lk],rfl⟩
     . rename_i e
       obtain ⟨h1,o',h2,h3⟩:=lk_bfzO h
       exact ⟨h1,o',by simp only [lk]; rw [if_neg e]; exact h2,h3⟩
theorem Rel.bfz {β S w j x b n c} (hb : β j=.slice (some ⟨b,0,none⟩) n c) (hr : Rd S w (.ptr x) (.pointer (some ⟨b,0,none⟩))) : ∀ {av v},Rel β S w av v->Rel β S w (av.bfz j x) v:=by
 intro av v h
 induction h with
 | undef v => exact .undef v
 | d h => exact .d h
 | sl i =>
   simp only [AV.bfz]; split
   . exact .undef _
   . exact .sl i
 | p h =>
   simp only [AV.bfz]; split
   . rename_i e; subst e
     rw [hb] at h; cases h
     split
     . rename_i e0; subst e0; exact .d hr
     . exact .undef _
   . exact .p h
 | pe h =>
   simp only [AV.bfz]; split
   . exact .undef _
   . exact .pe h
 | mq h =>
   simp only [AV.bfz]; split
   . exact .undef _
   . exact .mq h
 | sf h hl =>
   simp only [AV.bfz]; split
   . exact .undef _
   . exact .sf h hl
 | vw h =>
   simp only [AV.bfz]; split
   . exact .undef _
   . exact .vw h
 | pv h =>
   simp only [AV.bfz]; split
   . exact .undef _
   . exact .pv h
 | tup hl _ ih => exact .tup (by rw [bfzL_length]; exact hl) fun i hi => by rw [bfzL_length] at hi; rw [bfzL_getD]; exact ih i hi
 | fn hl _ ih => exact .fn (by rw [bfzL_length]; exact hl) fun i hi => by rw [bfzL_length] at hi; rw [bfzL_getD]; exact ih i hi
 | e0n => exact .e0n
 | e0s ad => exact .e0s ad
 | hdr h => exact .hdr h
 | nilS => exact .nilS
 | st hl _ ih => exact .st (by rw [bfzL_length]; exact hl) fun i hi => by rw [bfzL_length] at hi; rw [bfzL_getD]; exact ih i hi
theorem OK.bfz {β S w j x b n c o v F} (hb : β j=.slice (some ⟨b,0,none⟩) n c) (hr : Rd S w (.ptr x) (.pointer (some ⟨b,0,none⟩))) (h : OK β S w o v F) : OK β S w (o.bfz j x) v F:=by
 cases h with
 | box hF xs hv hw hrel =>
   exact .box hF xs hv (by rw [bfzL_length]; exact hw) fun i hi => by rw [bfzL_length] at hi; rw [bfzL_getD]; exact (hrel i hi).bfz hb hr
 | arr hF xs hk0 hk hw hrel => exact .arr hF xs hk0 hk hw hrel
 | arv hF xs hv hk0 hk hw hrel => exact .arv hF xs hv hk0 hk hw hrel
 | mp b ms c hF hv hbb he => exact .mp b ms c hF hv hbb he
 | res hv hlt fs hr2 hf hd => exact .res hv hlt fs hr2 hf hd
 | arw hlt xs hk0 hk hw hbb hr2 hv => exact .arw hlt xs hk0 hk hw hbb hr2 hv
 | view hF b c hv => exact .view hF b c hv
 | d1 hlt h => exact .d1 hlt h
 | dp hlt h =>
   rename_i t xs ho
   rcases h with ⟨rfl,rfl,rfl,h⟩ | ⟨e,k,ys,fs,ht,h⟩
   . exact .dp hlt (.inl ⟨rfl,rfl,rfl,h⟩)
   . rcases ho with _ | ⟨c',_ | d⟩
     . exact .dp hlt (.inr ⟨e,k,ys,fs,ht,h⟩)
     . exact .dp hlt (.inr ⟨e,k,ys,fs,ht,h⟩)
     . simp only [AO.bfz]
       split
       . exact .dp hlt (.inr ⟨e,k,ys,fs,ht,{ h with hr:=fun i hi hn => h.hr i hi fun c' d' e => by cases e; exact hn _ none rfl,hh:=fun _ _ h => by cases h }⟩)
       . exact .dp hlt (.inr ⟨e,k,ys,fs,ht,h⟩)
theorem bfz_res {j x} {o : AO} (h : (o.bfz j x).isRes=false) : o.isRes=false:=by
 cases o<;>first | rfl | exact h
theorem Wk.bfz {N} {S : List (Nat × AV)} {O : List (Nat × AO)} (j : Nat) (x : D) {e : TypeId} {cells : List AV} (hj : lk j O=some (.box e cells)) (hx : cells=x.cells.map .d) : Wk N ⟨S,O⟩ ⟨bfzS j x S,bfzO j x O⟩:=fun Z β φ B M w0 a w h => by
 subst hx
 have hO:=h.objs j _ hj
 have hS : ∀ g,free Z φ O g->g < w.heap.size->free Z φ (bfzO j x O) g∧w.heap[g]? = w.heap[g]? := fun g hg _ => by
  refine ⟨⟨hg.1,fun i y hi hy => ?_⟩,rfl⟩
  obtain ⟨hne,o',ho',rfl⟩:=lk_bfzO hi
  exact hg.2 i o' ho' (bfz_res hy)
 obtain ⟨b,c,hb,hr⟩ : ∃ b c,β j=.slice (some ⟨b,0,none⟩) 1 c∧Rd (free Z φ (bfzO j x O)) w (.ptr x) (.pointer (some ⟨b,0,none⟩)):=by
  have hdis : ∀ g,φ j g->free Z φ (bfzO j x O) g:=fun g hg => ⟨h.z g (h.own j _ g hj hg),fun i y hi _ hgi => by
   obtain ⟨hne,o',ho',_⟩:=lk_bfzO hi
   exact hne (h.disj i j o' _ g ho' hj hgi hg)⟩
  generalize φ j=F at *
  generalize β j=v at *
  cases hO with
  | box hF xs hv hw hrel =>
    have hw':=hw
    rcases hw.2 with ⟨h1,_⟩ | ⟨g,cap,cur,h1,_,h3,h4,_⟩
    . exact absurd h1 hv
    . subst h1
      refine ⟨g,cap,rfl,.ptr (fun i => xs.getD i Go.undef) (fun i hi => ⟨hdis g (by rw [hF]; rfl),?_⟩) fun i hi => ?_⟩
      . have h9 : i < xs.length:=by rw [hw'.1,Nat.one_mul,List.length_map]; exact hi
        have h10:=ownsRow_cell hw' rfl h9
        rwa [Nat.zero_add]
      . have h5:=hrel i (by simpa using hi)
        have h6 : (x.cells.map AV.d).getD i .undef=.d (x.cells.getD i .nilptr):=by
         simp [List.getD_eq_getElem?_getD,hi]
        rw [h6] at h5
        cases h5 with
        | d h5 => exact h5.move hS
 refine ⟨β,φ,h.nd.move hS,h.size,fun i av hi => ?_,fun i o hi => ?_,fun i o g hi hg => ?_,fun i i' o o' g hi hi' hg hg' => ?_,h.fr,h.z⟩
 . obtain ⟨u,hu,rfl⟩:=lk_bfzS hi
   exact ((h.slots i u hu).move hS).bfz hb hr
 . obtain ⟨hne,o',ho',rfl⟩:=lk_bfzO hi
   exact ((h.objs i o' ho').move hS (Nat.le_refl _) (fun _ _ => rfl)).bfz hb hr
 . obtain ⟨hne,o',ho',_⟩:=lk_bfzO hi
   exact h.own i o' g ho' hg
 . obtain ⟨hne,y,hy,_⟩:=lk_bfzO hi
   obtain ⟨hne',y',hy',_⟩:=lk_bfzO hi'
   exact h.disj i i' y y' g hy hy' hg hg'
def cutQ (P : Program) (N : Nat) (y : Code) (Q : Exit->St->Prop) (st : St) : Prop:=∃ st',Wk N st st'∧Awp P N y Q st'
theorem retM_u {P : Program} {u : Nat->Value} {sh : Bool} {ob : AO} {st : St} (ho : lk 0 st.o=some ob) (hk : lk 1000000000 st.s=some (.hdr 0 (u 0))) (hr : ob.ren (fun j => j)=ob) (hs : sh=true∨ob.plain) : retM P [] u [0] sh (.tup []) [(0,ob)] .ret st:=by
 simp only [retM,resV]
 refine ⟨trivial,⟨fun j => j,rfl,by simpa [hr] using ho,by simp,⟨rfl,hk,trivial⟩⟩,?_⟩
 rcases hs with rfl | hs
 . exact .inl rfl
 . exact .inr ⟨trivial,hs,trivial⟩
theorem retM_n {P : Program} {u : Nat->Value} {sh : Bool} {ob : AO} {st : St} (ho : lk 0 st.o=some ob) (hk : lk 1000000000 st.s=some (.hdr 0 (u 0))) (hr : ob.ren (fun j => j)=ob) (hs : sh=true∨ob.plain) : retM P [] u [0] sh (.tup []) [(0,ob)] .normal st :=
 retM_u (P:=P) ho hk hr hs
end Abs

namespace Abs.Y
open Go Go.Proofs Abs
set_option maxRecDepth 100000

def partD (l : List (Int × Int)) : D:=.slice ((sortZ (l.map (·.1))).map (.int .i64))
def partsI (g : Chg) : List (List Int):=(linesI g).map fun l => sortZ (l.map (·.1))
def slotP (out : List (List (Int × Int))) : AV:=match out with | [] => .e0 | _ :: _ => .sl 52
def objP (S : List Int) (N : Nat) (out : List (List (Int × Int))) : List (Nat × AO):=match out with | [] => [(13,.arr 4 1 (sD S N))] | x :: r => [(52,.arr 25 1 ((x :: r).map partD)),(13,.arr 4 1 (sD S N))]
end Abs.Y

namespace Abs.Y
open Go Go.Proofs Abs
set_option maxRecDepth 100000

def AdjG (g : Chg) (u v : Int) : Prop:=(u,v) ∈ g.ed∨(v,u) ∈ g.ed
theorem AdjG.symm {g : Chg} {u v : Int} (h : AdjG g u v) : AdjG g v u:=h.elim .inr .inl
inductive Conn (g : Chg) : Int->Int->Prop
 | refl (v : Int) : Conn g v v
 | step {u v w : Int} : Conn g u v->AdjG g v w->Conn g u w
theorem Conn.trans {g : Chg} {u v w : Int} (h1 : Conn g u v) (h2 : Conn g v w) : Conn g u w:=by
 induction h2 with
 | refl => exact h1
 | step _ h ih => exact .step ih h
theorem Conn.one {g : Chg} {u v : Int} (h : AdjG g u v) : Conn g u v:=.step (.refl u) h
theorem Conn.symm {g : Chg} {u v : Int} (h : Conn g u v) : Conn g v u:=by
 induction h with
 | refl => exact .refl _
 | step _ h ih => exact (Conn.one h.symm).trans ih
theorem ed_get {g : Chg} {e : Int × Int} (h : e ∈ g.ed) : ∃ k : Nat,k < g.ed.length∧g.ed.getD k (0,0)=e:=by
 obtain ⟨k,hk,rfl⟩:=List.mem_iff_getElem.1 h
 exact ⟨k,hk,by simp [List.getD_eq_getElem?_getD,hk]⟩
theorem adj_of_edge {g : Chg} {v k : Int} (h : k ∈ edgesAt g v) : AdjG g v (other g v k):=by
 obtain ⟨h1,h2,h3⟩:=edges_iff.1 h
 have hm:=getD_mem (z:=((0 : Int),(0 : Int))) h2
 unfold other AdjG
 generalize g.ed.getD k.toNat (0,0)=e at *
 obtain ⟨p,q⟩:=e
 dsimp only at h3 hm ⊢
 rcases h3 with rfl | rfl
 . left; rw [show p + q - p=q by omega]; exact hm
 . right; rw [show p + q - q=p by omega]; exact hm
theorem edge_of_adj {g : Chg} {v w : Int} (h : AdjG g v w) : ∃ k ∈ edgesAt g v,other g v k=w:=by
 rcases h with h | h
 . obtain ⟨k,hk,e⟩:=ed_get h
   refine ⟨(k : Int),edges_iff.2 ⟨by omega,by simpa using hk,?_⟩,?_⟩
   . rw [Int.toNat_natCast,e]; exact .inl rfl
   . unfold other; rw [Int.toNat_natCast,e]; dsimp only; omega
 . obtain ⟨k,hk,e⟩:=ed_get h
   refine ⟨(k : Int),edges_iff.2 ⟨by omega,by simpa using hk,?_⟩,?_⟩
   . rw [Int.toNat_natCast,e]; exact .inr rfl
   . unfold other; rw [Int.toNat_natCast,e]; dsimp only; omega
theorem line_iff {g : Chg} (hg : goodC g=true) {v : Int} (hv : 0<=v∧v < g.n) {x : Int} : x ∈ (lineI g v).map (·.1)↔Conn g v x:=by
 obtain ⟨h1,h2,h3,h4⟩:=lineI_spec hg hv
 obtain ⟨t,ht⟩:=line_head h4
 constructor
 . have key : ∀ j,j < (lineI g v).length->Conn g v ((lineI g v).getD j (0,0)).1:=by
    intro j
    induction j using Nat.strongRecOn with
    | ind j ih =>
      intro hj
      by_cases h0 : j=0
      . subst h0; rw [ht]; exact .refl v
      . obtain ⟨i,hi,h5,h6⟩:=h2 j (by omega) hj
        have:=adj_of_edge h5
        rw [h6] at this
        exact .step (ih i hi (by omega)) this
   intro hx
   obtain ⟨r,hr,rfl⟩:=List.mem_map.1 hx
   obtain ⟨j,hj,rfl⟩:=List.mem_iff_getElem.1 hr
   have:=key j hj
   rwa [show (lineI g v).getD j (0,0)=(lineI g v)[j] by simp [List.getD_eq_getElem?_getD,hj]] at this
 . intro h
   induction h with
   | refl => rw [ht]; simp
   | step _ ha ih =>
     obtain ⟨k,hk,rfl⟩:=edge_of_adj ha
     exact h3 _ ih k hk
open Classical in
noncomputable def minB (g : Chg) (v : Nat) : Bool:=decide (∀ u : Nat,u < v->¬ Conn g u v)
theorem minB_iff {g : Chg} {v : Nat} : minB g v=true↔∀ u : Nat,u < v->¬ Conn g u v:=by simp [minB]
theorem lines_char {g : Chg} (hg : goodC g=true) : ∀ k : Nat,(k : Int)<=g.n->(∀ x,x ∈ (linesL g k).1↔∃ u : Nat,u < k∧Conn g u x)∧(linesL g k).2=((List.range k).filter (minB g)).map fun v : Nat => lineI g v
 | 0,_ => ⟨fun x => by simp [linesL],by simp [linesL]⟩
 | k + 1, h => by
   obtain ⟨h1,h2⟩:=lines_char hg k (by omega)
   have hv : (0 : Int)<=(k : Int)∧(k : Int) < g.n:=by omega
   rw [linesL_succ,List.range_succ,List.filter_append,List.map_append,stepS]
   by_cases hk : (k : Int) ∈ (linesL g k).1
   . rw [if_pos hk]
     obtain ⟨u,hu,hc⟩:=(h1 k).1 hk
     have hm : minB g k=false:=by
      rw [← Bool.not_eq_true,minB_iff]; exact fun h => h u hu hc
     refine ⟨fun x => ?_,?_⟩
     . rw [h1]
       constructor
       . rintro ⟨w,hw,hcw⟩; exact ⟨w,by omega,hcw⟩
       . rintro ⟨w,hw,hcw⟩
         by_cases hwk : w < k
         . exact ⟨w,hwk,hcw⟩
         . obtain rfl : w=k:=by omega
           exact ⟨u,hu,hc.trans hcw⟩
     . rw [h2]; simp [hm]
   . rw [if_neg hk]
     have hm : minB g k=true:=minB_iff.2 fun u hu hc => hk ((h1 k).2 ⟨u,hu,hc⟩)
     refine ⟨fun x => ?_,?_⟩
     . rw [List.mem_append,h1,line_iff hg hv]
       constructor
       . rintro (⟨w,hw,hcw⟩ | h)
         . exact ⟨w,by omega,hcw⟩
         . exact ⟨k,by omega,h⟩
       . rintro ⟨w,hw,hcw⟩
         by_cases hwk : w < k
         . exact .inl ⟨w,hwk,hcw⟩
         . obtain rfl : w=k:=by omega
           exact .inr hcw
     . rw [h2]; simp [hm]
open Classical in
noncomputable def connB (g : Chg) (v w : Nat) : Bool:=decide (Conn g v w)
theorem connB_iff {g : Chg} {v w : Nat} : connB g v w=true↔Conn g v w:=by simp [connB]
noncomputable def cmpV (g : Chg) (v : Nat) : List Int:=((List.range g.n.toNat).filter (connB g v)).map fun w : Nat => (w : Int)
theorem mem_compL {g : Chg} {v : Nat} {x : Int} : x ∈ cmpV g v↔∃ w : Nat,w < g.n.toNat∧Conn g v w∧x=w:=by
 unfold cmpV
 rw [List.mem_map]
 constructor
 . rintro ⟨w,hw,rfl⟩
   rw [List.mem_filter,List.mem_range,connB_iff] at hw
   exact ⟨w,hw.1,hw.2,rfl⟩
 . rintro ⟨w,h1,h2,rfl⟩
   exact ⟨w,by rw [List.mem_filter,List.mem_range,connB_iff]; exact ⟨h1,h2⟩,rfl⟩
theorem compL_asc (g : Chg) (v : Nat) : Asc (cmpV g v):=by
 unfold Asc cmpV
 rw [List.pairwise_map]
 exact ((List.pairwise_lt_range (n:=g.n.toNat)).sublist List.filter_sublist).imp fun h => by omega
theorem parts_char {g : Chg} (hg : goodC g=true) : partsI g=((List.range g.n.toNat).filter (minB g)).map (cmpV g):=by
 have hn : 0<=g.n:=by have:=(goodC_spec hg).1.1; omega
 unfold partsI linesI
 rw [(lines_char hg g.n.toNat (by omega)).2,List.map_map]
 refine List.map_congr_left fun v hv => ?_
 have hv2:=List.mem_range.1 (List.mem_filter.1 hv).1
 have hvn : (0 : Int)<=(v : Int)∧(v : Int) < g.n:=by omega
 have hl:=lineI_lin hg hvn
 refine asc_uniq (sortZ_asc hl.nd) (compL_asc g v) fun x => ?_
 show x ∈ sortZ ((lineI g v).map (·.1))↔_
 rw [(sortZ_perm _).mem_iff,line_iff hg hvn,mem_compL]
 constructor
 . intro hc
   have hx : x ∈ (lineI g v).map (·.1):=(line_iff hg hvn).2 hc
   obtain ⟨r,hr,rfl⟩:=List.mem_map.1 hx
   have hb:=hl.vx r hr
   exact ⟨r.1.toNat,by omega,by rw [Int.toNat_of_nonneg hb.1]; exact hc,by omega⟩
 . rintro ⟨w,_,hc,rfl⟩; exact hc
end Abs.Y

namespace Abs.Y
open Go Go.Proofs Abs
set_option maxRecDepth 100000

def rs (n : Nat) (f : Nat->Int) : Int:=(List.range n).foldl (fun s i => s + f i) 0
theorem rs_zero (f : Nat->Int) : rs 0 f=0:=rfl
theorem rs_succ (n : Nat) (f : Nat->Int) : rs (n + 1) f=rs n f + f n:=by simp [rs,List.range_succ]
theorem rs_congr {f g : Nat->Int} : ∀ n,(∀ i,i < n->f i=g i)->rs n f=rs n g
 | 0,_ => rfl
 | n + 1,h => by rw [rs_succ,rs_succ,rs_congr n fun i hi => h i (by omega),h n (by omega)]
theorem rs_two {f g : Nat->Int} {a b : Nat} (hab : a < b) (h2 : (f a + f b - (g a + g b)) % 2=0) : ∀ n,(∀ i,i < n->i ≠ a->i ≠ b->f i=g i) ->
 (b < n->(rs n f - rs n g) % 2=0)∧(a < n->n<=b->rs n f - rs n g=f a - g a)∧(n<=a->rs n f=rs n g)
 | 0,_ => ⟨fun h => absurd h (by omega),fun h => absurd h (by omega),fun _ => rfl⟩
 | n + 1, h => by
   obtain ⟨h3,h4,h5⟩:=rs_two hab h2 n fun i hi => h i (by omega)
   rw [rs_succ,rs_succ]
   refine ⟨fun hb => ?_,fun ha hb => ?_,fun ha => ?_⟩
   . by_cases hn : n=b
     . subst hn
       have:=h4 hab (Nat.le_refl _)
       omega
     . have:=h3 (by omega)
       have:=h n (by omega) (by omega) hn
       omega
   . by_cases hn : n=a
     . subst hn
       have:=h5 (Nat.le_refl _)
       omega
     . have:=h4 (by omega) (by omega)
       have:=h n (by omega) hn (by omega)
       omega
   . have:=h5 (by omega)
     have:=h n (by omega) (by omega) (by omega)
     omega
def delN (b w : Nat) : Nat:=if w < b then w else w + 1
theorem rs_del (f : Nat->Int) {b : Nat} : ∀ n,(n<=b->rs n f=rs n (fun w => f (delN b w)))∧(b<=n->rs (n + 1) f=rs n (fun w => f (delN b w)) + f b)
 | 0 => ⟨fun _ => rfl,fun h => by
  obtain rfl : b=0:=by omega
  rw [rs_succ]; simp [rs]⟩
 | n + 1 => by
   obtain ⟨h1,h2⟩:=rs_del f (b:=b) n
   refine ⟨fun h => ?_,fun h => ?_⟩
   . rw [rs_succ,rs_succ,h1 (by omega)]
     rw [show delN b n=n by unfold delN; rw [if_pos (by omega)]]
   . rw [rs_succ,rs_succ n (fun w => f (delN b w))]
     by_cases hb : b=n + 1
     . subst hb
       have h3:=h1 (by omega)
       rw [rs_succ,h3]
       rw [show delN (n + 1) n=n by unfold delN; rw [if_pos (by omega)]]
     . rw [h2 (by omega)]
       rw [show delN b n=n + 1 by unfold delN; rw [if_neg (by omega)]]
       omega
end Abs.Y

namespace Abs.Y
open Go Go.Proofs Abs
set_option maxRecDepth 100000

def sumP (g : Chg) (p : List Int) : Int:=(p.map fun v => g.ch.getD v.toNat 0).sum
theorem sum_filt (p : Nat->Bool) (f : Int->Int) : ∀ n,((((List.range n).filter p).map fun w : Nat => (w : Int)).map f).sum=rs n fun w => if p w then f w else 0
 | 0 => rfl
 | n + 1 => by
   rw [rs_succ,List.range_succ,List.filter_append,List.map_append,List.map_append,List.sum_append,sum_filt p f n]
   cases h : p n<;>simp [h]
noncomputable def ctS (g : Chg) (v w : Nat) : Int:=if connB g v w then g.ch.getD w 0 else 0
theorem sum_compL (g : Chg) (v : Nat) : sumP g (cmpV g v)=rs g.n.toNat (ctS g v):=by
 unfold sumP cmpV
 rw [sum_filt]
 exact rs_congr _ fun i _ => by unfold ctS; rw [Int.toNat_natCast]
theorem rs_nonneg {f : Nat->Int} : ∀ n,(∀ i,i < n->0<=f i)->0<=rs n f
 | 0,_ => Int.le_refl _
 | n + 1, h => by
   rw [rs_succ]
   have:=rs_nonneg n fun i hi => h i (by omega)
   have:=h n (by omega)
   omega
structure GoodP (g : Chg) : Prop where
 n1 : 1<=g.n∧g.n<=8
 m : g.ed.length<=12
 c : (g.ch.length : Int)=g.n
 e : ∀ e ∈ g.ed,0<=e.1∧e.1 < e.2∧e.2 < g.n
 q : ∀ v,v < g.ch.length->0<=g.ch.getD v 0∧g.ch.getD v 0<=1
 d : ∀ v : Nat,v < g.ch.length->(edgesAt g v).length<=4
theorem good_iff {g : Chg} : goodC g=true↔GoodP g:=by
 constructor
 . intro h
   obtain ⟨⟨h1,h2,h3⟩,h4,h5⟩:=goodC_spec h
   refine ⟨h1,h2,h3,fun e he => ?_,fun v hv => ?_,fun v hv => ?_⟩
   . obtain ⟨k,hk,rfl⟩:=ed_get he
     exact of_decide_eq_true (h4 k hk)
   . have:=h5 v hv
     unfold chOk at this
     simp only [Bc,decide_eq_true_eq] at this
     exact this.1
   . have:=h5 v hv
     unfold chOk at this
     simp only [Bc,decide_eq_true_eq] at this
     exact this.2
 . intro h
   refine goodC_good ⟨h.n1,h.m,h.c⟩ (fun k hk => edOk_y (h.e _ (getD_mem hk))) fun v hv => chOk_y (h.q v hv) (h.d v hv)
theorem ctS_nonneg {g : Chg} (hg : GoodP g) (v : Nat) : ∀ i,i < g.n.toNat->0<=ctS g v i:=fun i hi => by
 unfold ctS
 have:=hg.c
 split
 . exact (hg.q i (by omega)).1
 . omega
def flipC (ch : List Int) (e : Int × Int) : List Int:=(ch.set e.1.toNat (1 - ch.getD e.1.toNat 0)).set e.2.toNat (1 - ch.getD e.2.toNat 0)
def flipG (g : Chg) (k : Nat) : Chg:=⟨g.n,g.ed,flipC g.ch (g.ed.getD k (0,0))⟩
theorem getDs (l : List Int) (i : Nat) (x : Int) (j : Nat) : (l.set i x).getD j 0=if i=j∧j < l.length then x else l.getD j 0:=by
 rw [List.getD_eq_getElem?_getD,List.getD_eq_getElem?_getD,List.getElem?_set]
 by_cases h : i=j
 . subst h
   by_cases hl : i < l.length
   . simp [hl]
   . simp [hl]
 . simp [h]
theorem flipC_get {ch : List Int} {e : Int × Int} (h : 0<=e.1∧e.1 < e.2∧e.2 < ch.length) (w : Nat) : (flipC ch e).getD w 0=if (w : Int)=e.1∨(w : Int)=e.2 then 1 - ch.getD w 0 else ch.getD w 0:=by
 unfold flipC
 rw [getDs,getDs,List.length_set]
 by_cases h2 : (w : Int)=e.2
 . rw [if_pos ⟨by omega,by omega⟩,if_pos (.inr h2),show e.2.toNat=w by omega]
 . rw [if_neg fun h' => h2 (by omega)]
   by_cases h1 : (w : Int)=e.1
   . rw [if_pos ⟨by omega,by omega⟩,if_pos (.inl h1),show e.1.toNat=w by omega]
   . rw [if_neg fun h' => h1 (by omega),if_neg (by omega)]
theorem flipC_len (ch : List Int) (e : Int × Int) : (flipC ch e).length=ch.length:=by simp [flipC]
theorem flipG_good {g : Chg} (hg : GoodP g) {k : Nat} (hk : k < g.ed.length) : GoodP (flipG g k):=by
 have he:=hg.e _ (getD_mem (z:=((0 : Int),(0 : Int))) hk)
 have hc:=hg.c
 refine ⟨hg.n1,hg.m,by show ((flipC g.ch _).length : Int)=_; rw [flipC_len]; exact hc,hg.e,fun v hv => ?_,fun v hv => ?_⟩
 . have hv' : v < g.ch.length:=by have : v < (flipC g.ch (g.ed.getD k (0,0))).length:=hv; rwa [flipC_len] at this
   have hq:=hg.q v hv'
   show 0<=(flipC g.ch (g.ed.getD k (0,0))).getD v 0∧(flipC g.ch (g.ed.getD k (0,0))).getD v 0<=1
   rw [flipC_get ⟨he.1,he.2.1,by omega⟩]
   split<;>omega
 . have hv' : v < g.ch.length:=by have : v < (flipC g.ch (g.ed.getD k (0,0))).length:=hv; rwa [flipC_len] at this
   exact hg.d v hv'
theorem conn_ed {g h : Chg} (he : g.ed=h.ed) {u v : Int} (hc : Conn g u v) : Conn h u v:=by
 induction hc with
 | refl => exact .refl _
 | step _ ha ih => exact .step ih (by unfold AdjG at ha ⊢; rwa [← he])
theorem connB_ed {g h : Chg} (he : g.ed=h.ed) (u v : Nat) : connB g u v=connB h u v:=by
 rw [Bool.eq_iff_iff,connB_iff,connB_iff]; exact ⟨conn_ed he,conn_ed he.symm⟩
theorem minB_ed {g h : Chg} (he : g.ed=h.ed) (v : Nat) : minB g v=minB h v:=by
 rw [Bool.eq_iff_iff,minB_iff,minB_iff]
 exact ⟨fun h1 u hu hc => h1 u hu (conn_ed he.symm hc),fun h1 u hu hc => h1 u hu (conn_ed he hc)⟩
theorem partsI_ed {g h : Chg} (hg : goodC g=true) (hh : goodC h=true) (he : g.ed=h.ed) (hn : g.n=h.n) : partsI g=partsI h:=by
 rw [parts_char hg,parts_char hh,hn]
 have h1 : minB g=minB h:=funext fun v => minB_ed he v
 have h2 : cmpV g=cmpV h:=funext fun v => by
  unfold cmpV
  rw [hn,show connB g v=connB h v from funext fun w => connB_ed he v w]
 rw [h1,h2]
theorem odd_same {s t : Int} (hs : 0<=s) (ht : 0<=t) (h : (s - t) % 2=0) : decide (Int.tmod s 2=1)=decide (Int.tmod t 2=1):=by
 rw [Int.tmod_eq_emod_of_nonneg hs,Int.tmod_eq_emod_of_nonneg ht]
 exact decide_eq_decide.2 (by omega)
theorem flip_sum {g : Chg} (hg : GoodP g) {k : Nat} (hk : k < g.ed.length) (v : Nat) : decide (Int.tmod (sumP (flipG g k) (cmpV (flipG g k) v)) 2=1)=decide (Int.tmod (sumP g (cmpV g v)) 2=1):=by
 have hm:=getD_mem (z:=((0 : Int),(0 : Int))) hk
 have he:=hg.e _ hm
 have hc:=hg.c
 rw [sum_compL,sum_compL]
 have hn : (flipG g k).n=g.n:=rfl
 refine odd_same (rs_nonneg _ (ctS_nonneg (flipG_good hg hk) v)) (rs_nonneg _ (ctS_nonneg hg v)) ?_
 rw [hn]
 generalize hee : g.ed.getD k (0,0)=e at *
 have hget:=flipC_get (ch:=g.ch) (e:=e) ⟨he.1,he.2.1,by omega⟩
 have hct : ∀ w,ctS (flipG g k) v w=if connB g v w then (flipC g.ch e).getD w 0 else 0:=fun w => by
  unfold ctS
  rw [connB_ed (h:=g) (show (flipG g k).ed=g.ed from rfl)]
  show (if connB g v w=true then (flipC g.ch (g.ed.getD k (0,0))).getD w 0 else 0)=_
  rw [hee]
 refine (rs_two (f:=ctS (flipG g k) v) (g:=ctS g v) (a:=e.1.toNat) (b:=e.2.toNat) (by omega) ?_ g.n.toNat fun i hi h1 h2 => ?_).1 (by omega)
 . have ha:=hget e.1.toNat
   have hb:=hget e.2.toNat
   rw [if_pos (.inl (by omega))] at ha
   rw [if_pos (.inr (by omega))] at hb
   rw [hct,hct,ha,hb]
   unfold ctS
   have hab : connB g v e.1.toNat=connB g v e.2.toNat:=by
    rw [Bool.eq_iff_iff,connB_iff,connB_iff,Int.toNat_of_nonneg he.1,Int.toNat_of_nonneg (by omega)]
    exact ⟨fun h => .step h (.inl hm),fun h => .step h (.inr hm)⟩
   rw [hab]
   split<;>omega
 . have hw:=hget i
   rw [if_neg (by omega)] at hw
   rw [hct,hw]; rfl
end Abs.Y
