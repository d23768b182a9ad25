/- What functions of this program compute, over plain data. No condition. -/
import Derived.Test.YtdohpocdlkcaoaaAbsBox
import Derived.Test.YtdohpocdlkcaoaaAbsArw
import Derived.Test.YtdohpocdlkcaoaaAbsBits16
set_option linter.all false
namespace Abs.Y
open Go Go.Proofs Abs
open Nat renaming reduceEqDiff -> Qa, reduceLT -> Qb, reduceAdd -> Qc, reduceMul -> Qd, reduceSub -> Qe, reduceLeDiff -> Qf, reduceSubDiff -> Qg, reduceBEq -> Qh
open Bool renaming not_eq_true' -> Ba, not_eq_false' -> Bb, and_eq_true -> Bc, or_eq_true -> Bd, or_eq_false_iff -> Be
open Int renaming ofNat_lt -> Ia, ofNat_le -> Ib, not_lt -> Ic, not_le -> Ie
open Decidable renaming not_not -> Da
set_option maxRecDepth 100000

theorem mmt1 : mapT Try.prog 96=some (.u16,.i64):=by kernel_rfl
attribute [go_sem] mmt1
@[reducible] def clB (last : Int) (j k : Nat) : AO:=.box 98 [.sl j,.mq k,.d (.int .i64 last)]
@[reducible] def clR (es : List (Int × Int)) (vs : List (Nat × Nat)) : AO:=.arw 154 1 (es.map fun p => .int .u16 p.1) vs
@[reducible] def clM (es : List (Int × Int)) : AO:=.mp .u16 .i64 es
theorem hpl : ∀ es : List (Int × Int),∀ x ∈ es.map (fun p : Int × Int => D.int .u16 p.1),x.plain=true:=fun es x hx => by
 obtain ⟨p,_,rfl⟩:=List.mem_map.1 hx
 rfl
theorem retM_id {P : Program} {u : Nat->Value} {st : St} {keep : List Nat} {oo : List (Nat × AO)} (e : Exit) (he : e=.normal∨e=.ret) (ho : ∀ p ∈ oo,lk p.1 st.o=some (p.2.ren fun j => j)) (hm : keptM st u (fun j => j) keep) (hp : plainO oo) : retM P [] u keep false (.tup []) oo e st:=by
 have key : retM P [] u keep false (.tup []) oo .ret st:=by
  simp only [retM,resV]
  exact ⟨trivial,⟨fun j => j,rfl,ho,fun p hp q hq e => e,hm⟩,.inr ⟨trivial,hp⟩⟩
 rcases he with rfl | rfl<;>exact key
set_option maxHeartbeats 4000000 in
theorem add_new (es : List (Int × Int)) (last m r : Int) (h : mpAt m es=none) (hl : es.length<=100000) : CtrM Try.prog 166 [.p 0 0,.d (.int .u16 m),.d (.int .i64 r)] [(0,clB last 1 2),(1,clR es []),(2,clM es)] [0,2] false (.tup [])
 [(0,clB r 1 2),(1,clR (es++[(m,r)]) []),(2,clM (es++[(m,r)]))]:=by
 have hp:=mpPut_new (v:=r) es h
 refine CtrM.of (n:=39) (rs:=[]) Try.func166 rfl rfl Try.ntmps166 rfl rfl (by kernel_rfl) Try.checked.mixed ?_; intro u
 simp (disch:=first | omega | decide +kernel) only [h,Option.isSome_none,Option.isSome_some,go_sem,Qa,Qb,Qc,Qd,Qe,↓reduceIte,reduceCtorEq,Qf,Qg,Qh]
 (repeat' (first | ((first | (refine gsel_split (fun q' => ?_) (fun q' => ?_)<;>(have h':=q')<;>(try simp only [za1,za2,Ba,Bb,za3,ne_eq,za4,za5,za6,Ia,Ib,Ic,Ie,Da,Bc,Bd,Be,za7,za8] at h')<;>try (exfalso; omega)) | (have q':=trivial; first | refine hE _ _ ret_ne ?_ | refine hE _ _ exit_ne ?_))<;>(try simp (disch:=first | omega | decide +kernel) only [q',h,Option.isSome_none,Option.isSome_some,go_sem,Qa,Qb,Qc,Qd,Qe,↓reduceIte,reduceCtorEq,Qf,Qg,Qh])<;>clear q') | refine hN _ ?_ ?_ Wk.kk | with_reducible refine And.intro ?_ ?_ | with_reducible omega | exact ok_ints | exact cells_ints | exact no_mem | with_reducible exact plain_ints | (refine le_maxLen ?_; omega) | (refine za9 ⟨?_,?_⟩) | (simp only [go_sem,Qc,Qb,zb1,zb2,forall_eq]; done)))
 all_goals first | (exact absurd h' (by decide); done) | skip
 rw [hp]
 all_goals exact retM_id _ (by first | exact .inl rfl | exact .inr rfl) (by
  intro p hp
  simp only [List.mem_cons,List.not_mem_nil,or_false] at hp
  rcases hp with rfl | rfl | rfl<;>first | rfl | (simp only [clR,List.map_append]; rfl)) ⟨rfl,rfl,rfl,rfl,trivial⟩ (by simp only [plainO,AO.plain,clB,clR,clM]; refine ⟨?_,hpl _,?_⟩<;>simp [AV.plain,AV.plainL,D.plain])
set_option maxHeartbeats 4000000 in
theorem add_old (es : List (Int × Int)) (last m r : Int) {y : Int} (h : mpAt m es=some y) (hl : es.length<=100000) : CtrM Try.prog 166 [.p 0 0,.d (.int .u16 m),.d (.int .i64 r)] [(0,clB last 1 2),(1,clR es []),(2,clM es)] [0,2] false (.tup [])
 [(0,clB last 1 2),(1,clR es []),(2,clM es)]:=by
 refine CtrM.of (n:=39) (rs:=[]) Try.func166 rfl rfl Try.ntmps166 rfl rfl (by kernel_rfl) Try.checked.mixed ?_; intro u
 simp (disch:=first | omega | decide +kernel) only [h,Option.isSome_none,Option.isSome_some,go_sem,Qa,Qb,Qc,Qd,Qe,↓reduceIte,reduceCtorEq,Qf,Qg,Qh]
 (repeat' (first | ((first | (refine gsel_split (fun q' => ?_) (fun q' => ?_)<;>(have h':=q')<;>(try simp only [za1,za2,Ba,Bb,za3,ne_eq,za4,za5,za6,Ia,Ib,Ic,Ie,Da,Bc,Bd,Be,za7,za8] at h')<;>try (exfalso; omega)) | (have q':=trivial; first | refine hE _ _ ret_ne ?_ | refine hE _ _ exit_ne ?_))<;>(try simp (disch:=first | omega | decide +kernel) only [q',h,Option.isSome_none,Option.isSome_some,go_sem,Qa,Qb,Qc,Qd,Qe,↓reduceIte,reduceCtorEq,Qf,Qg,Qh])<;>clear q') | refine hN _ ?_ ?_ Wk.kk | with_reducible refine And.intro ?_ ?_ | with_reducible omega | exact ok_ints | exact cells_ints | exact no_mem | with_reducible exact plain_ints | (refine le_maxLen ?_; omega) | (refine za9 ⟨?_,?_⟩) | (simp only [go_sem,Qc,Qb,zb1,zb2,forall_eq]; done)))
 all_goals first | (exact absurd h' (by decide); done) | skip
 all_goals exact retM_id _ (by first | exact .inl rfl | exact .inr rfl) (by
  intro p hp
  simp only [List.mem_cons,List.not_mem_nil,or_false] at hp
  rcases hp with rfl | rfl | rfl<;>first | rfl | (simp only [clR,List.map_append]; rfl)) ⟨rfl,rfl,rfl,rfl,trivial⟩ (by simp only [plainO,AO.plain,clB,clR,clM]; refine ⟨?_,hpl _,?_⟩<;>simp [AV.plain,AV.plainL,D.plain])
set_option maxHeartbeats 4000000 in
theorem add_newV (n : Nat) (es : List (Int × Int)) (last m r : Int) (h : mpAt m es=none) (hl : es.length<=100000) : CtrM Try.prog 166 [.p 0 0,.d (.int .u16 m),.d (.int .i64 r)] [(0,clB last 1 2),(1,clR es [(3,n)]),(2,clM es),(3,.view n)] [0,2,3] false (.tup [])
 [(0,clB r 1 2),(1,clR (es++[(m,r)]) [(3,n)]),(2,clM (es++[(m,r)])),(3,.view n)]:=by
 have hp:=mpPut_new (v:=r) es h
 refine CtrM.of (n:=39) (rs:=[]) Try.func166 rfl rfl Try.ntmps166 rfl rfl (by kernel_rfl) Try.checked.mixed ?_; intro u
 simp (disch:=first | omega | decide +kernel) only [h,Option.isSome_none,Option.isSome_some,go_sem,Qa,Qb,Qc,Qd,Qe,↓reduceIte,reduceCtorEq,Qf,Qg,Qh]
 (repeat' (first | ((first | (refine gsel_split (fun q' => ?_) (fun q' => ?_)<;>(have h':=q')<;>(try simp only [za1,za2,Ba,Bb,za3,ne_eq,za4,za5,za6,Ia,Ib,Ic,Ie,Da,Bc,Bd,Be,za7,za8] at h')<;>try (exfalso; omega)) | (have q':=trivial; first | refine hE _ _ ret_ne ?_ | refine hE _ _ exit_ne ?_))<;>(try simp (disch:=first | omega | decide +kernel) only [q',h,Option.isSome_none,Option.isSome_some,go_sem,Qa,Qb,Qc,Qd,Qe,↓reduceIte,reduceCtorEq,Qf,Qg,Qh])<;>clear q') | refine hN _ ?_ ?_ Wk.kk | with_reducible refine And.intro ?_ ?_ | with_reducible omega | exact ok_ints | exact cells_ints | exact no_mem | with_reducible exact plain_ints | (refine le_maxLen ?_; omega) | (refine za9 ⟨?_,?_⟩) | (simp only [go_sem,Qc,Qb,zb1,zb2,forall_eq]; done)))
 all_goals first | (exact absurd h' (by decide); done) | skip
 rw [hp]
 all_goals exact retM_id _ (by first | exact .inl rfl | exact .inr rfl) (by
  intro p hp
  simp only [List.mem_cons,List.not_mem_nil,or_false] at hp
  rcases hp with rfl | rfl | rfl | rfl<;>first | rfl | (simp only [clR,List.map_append]; rfl)) ⟨rfl,rfl,rfl,rfl,rfl,rfl,trivial⟩ (by simp only [plainO,AO.plain,clB,clR,clM]; refine ⟨?_,hpl _,?_⟩<;>simp [AV.plain,AV.plainL,D.plain])
set_option maxHeartbeats 4000000 in
theorem add_oldV (n : Nat) (es : List (Int × Int)) (last m r : Int) {y : Int} (h : mpAt m es=some y) (hl : es.length<=100000) : CtrM Try.prog 166 [.p 0 0,.d (.int .u16 m),.d (.int .i64 r)] [(0,clB last 1 2),(1,clR es [(3,n)]),(2,clM es),(3,.view n)] [0,2,3] false (.tup [])
 [(0,clB last 1 2),(1,clR es [(3,n)]),(2,clM es),(3,.view n)]:=by
 refine CtrM.of (n:=39) (rs:=[]) Try.func166 rfl rfl Try.ntmps166 rfl rfl (by kernel_rfl) Try.checked.mixed ?_; intro u
 simp (disch:=first | omega | decide +kernel) only [h,Option.isSome_none,Option.isSome_some,go_sem,Qa,Qb,Qc,Qd,Qe,↓reduceIte,reduceCtorEq,Qf,Qg,Qh]
 (repeat' (first | ((first | (refine gsel_split (fun q' => ?_) (fun q' => ?_)<;>(have h':=q')<;>(try simp only [za1,za2,Ba,Bb,za3,ne_eq,za4,za5,za6,Ia,Ib,Ic,Ie,Da,Bc,Bd,Be,za7,za8] at h')<;>try (exfalso; omega)) | (have q':=trivial; first | refine hE _ _ ret_ne ?_ | refine hE _ _ exit_ne ?_))<;>(try simp (disch:=first | omega | decide +kernel) only [q',h,Option.isSome_none,Option.isSome_some,go_sem,Qa,Qb,Qc,Qd,Qe,↓reduceIte,reduceCtorEq,Qf,Qg,Qh])<;>clear q') | refine hN _ ?_ ?_ Wk.kk | with_reducible refine And.intro ?_ ?_ | with_reducible omega | exact ok_ints | exact cells_ints | exact no_mem | with_reducible exact plain_ints | (refine le_maxLen ?_; omega) | (refine za9 ⟨?_,?_⟩) | (simp only [go_sem,Qc,Qb,zb1,zb2,forall_eq]; done)))
 all_goals first | (exact absurd h' (by decide); done) | skip
 all_goals exact retM_id _ (by first | exact .inl rfl | exact .inr rfl) (by
  intro p hp
  simp only [List.mem_cons,List.not_mem_nil,or_false] at hp
  rcases hp with rfl | rfl | rfl | rfl<;>first | rfl | (simp only [clR,List.map_append]; rfl)) ⟨rfl,rfl,rfl,rfl,rfl,rfl,trivial⟩ (by simp only [plainO,AO.plain,clB,clR,clM]; refine ⟨?_,hpl _,?_⟩<;>simp [AV.plain,AV.plainL,D.plain])
end Abs.Y

namespace Abs.Y
open Go Go.Proofs Abs
open Nat renaming reduceEqDiff -> Qa, reduceLT -> Qb, reduceAdd -> Qc, reduceMul -> Qd, reduceSub -> Qe, reduceLeDiff -> Qf, reduceSubDiff -> Qg, reduceBEq -> Qh
open Bool renaming not_eq_true' -> Ba, not_eq_false' -> Bb, and_eq_true -> Bc, or_eq_true -> Bd, or_eq_false_iff -> Be
open Int renaming ofNat_lt -> Ia, ofNat_le -> Ib, not_lt -> Ic, not_le -> Ie
open Decidable renaming not_not -> Da
set_option maxRecDepth 100000

section
variable (cs : List (List Int)) (w : Nat)
def Cl : Nat->List Int->Prop
 | 0,c => c ∈ cs∧c.length<=w
 | r + 1,c => Cl r c∨(c.length<=w∧∃ a b v,1<=v∧Cl r a∧Cl r b∧resolveI a b v=some c)
def NewC : Nat->List Int->Prop
 | 0,c => Cl cs w 0 c
 | r + 1,c => Cl cs w (r + 1) c∧¬ Cl cs w r c
end
section
variable {cs : List (List Int)} {w : Nat}
theorem cl_g6 (h : ∀ c ∈ cs,G6 c) : ∀ r c,Cl cs w r c->G6 c
 | 0,c,hc => h c hc.1
 | r + 1, c, hc => by
   rcases hc with hc | ⟨_,a,b,v,hv,ha,hb,hr⟩
   . exact cl_g6 h r c hc
   . exact (resolveI_some (cl_g6 h r a ha) (cl_g6 h r b hb) hv hr).2.2.2.1
theorem cl_mono {r s : Nat} (h : r<=s) {c : List Int} (hc : Cl cs w r c) : Cl cs w s c:=by
 induction h with
 | refl => exact hc
 | step _ ih => exact .inl ih
theorem new_cl {r : Nat} {c : List Int} (h : NewC cs w r c) : Cl cs w r c:=by
 cases r with
 | zero => exact h
 | succ r => exact h.1
theorem cl_new : ∀ {r : Nat} {c : List Int},Cl cs w r c->∃ k,k<=r∧NewC cs w k c
 | 0,c,h => ⟨0,Nat.le_refl _,h⟩
 | r + 1, c, h => by
   by_cases hc : Cl cs w r c
   . obtain ⟨k,h1,h2⟩:=cl_new hc
     exact ⟨k,by omega,h2⟩
   . exact ⟨r + 1,Nat.le_refl _,h,hc⟩
theorem new_uniq {r s : Nat} {c : List Int} (h1 : NewC cs w r c) (h2 : NewC cs w s c) : r=s:=by
 have key : ∀ {r s : Nat},NewC cs w r c->NewC cs w s c->¬ r < s:=fun {r s} h1 h2 hlt => by
  cases s with
  | zero => omega
  | succ s => exact h2.2 (cl_mono (by omega) (new_cl h1))
 have h3:=key h1 h2
 have h4:=key h2 h1
 omega
theorem new_g6 (h : ∀ c ∈ cs,G6 c) {r c} (hc : NewC cs w r c) : G6 c:=cl_g6 h r c (new_cl hc)
theorem new_stop {r : Nat} (h : ∀ c,¬ NewC cs w (r + 1) c) : ∀ s c,r < s->¬ NewC cs w s c:=by
 have hst : ∀ c,Cl cs w (r + 1) c->Cl cs w r c:=fun c hc => Classical.byContradiction fun hn => h c ⟨hc,hn⟩
 have key : ∀ d c,Cl cs w (r + d) c->Cl cs w r c:=by
  intro d
  induction d with
  | zero => exact fun c hc => hc
  | succ d ih =>
    intro c hc
    rcases hc with hc | ⟨h1,a,b,v,hv,ha,hb,hr⟩
    . exact ih c hc
    . exact hst c (.inr ⟨h1,a,b,v,hv,ih a ha,ih b hb,hr⟩)
 intro s c hs hn
 obtain ⟨d,rfl⟩ : ∃ d,s=r + (d + 1):=⟨s - r - 1,by omega⟩
 exact hn.2 (cl_mono (Nat.le_add_right r d) (key (d + 1) c hn.1))
theorem new_none (h : ∀ c,¬ NewC cs w 0 c) : ∀ s c,¬ NewC cs w s c:=by
 have key : ∀ r c,¬ Cl cs w r c:=by
  intro r
  induction r with
  | zero => exact h
  | succ r ih =>
    intro c hc
    rcases hc with hc | ⟨_,a,_,_,_,ha,_⟩
    . exact ih c hc
    . exact ih a ha
 exact fun s c hc => key s c (new_cl hc)
end
abbrev CT:=List (List Int × Nat)
def esO (L : CT) : List (Int × Int):=L.map fun p => ((mkN p.1 : Int),(p.2 : Int))
def keysC (L : CT) : List (List Int):=L.map (·.1)
theorem mpAt_esO : ∀ {L : CT} {c : List Int},(∀ p ∈ L,G6 p.1)->G6 c->(keysC L).Nodup ->
 (∀ k,(c,k) ∈ L->mpAt (mkN c : Int) (esO L)=some (k : Int))∧((∀ k,(c,k) ∉ L)->mpAt (mkN c : Int) (esO L)=none)
 | [],c,_,_,_ => ⟨fun k h => by simp at h,fun _ => rfl⟩
 | (d, j) :: r, c, hg, gc, hn => by
   have hn':=List.nodup_cons.1 hn
   obtain ⟨h1,h2⟩:=mpAt_esO (L:=r) (c:=c) (fun p hp => hg p (by simp [hp])) gc hn'.2
   have gd:=hg (d,j) (by simp)
   by_cases e : d=c
   . subst e
     refine ⟨fun k hk => ?_,fun h => absurd (List.mem_cons_self) (h j)⟩
     have : k=j:=by
      rcases List.mem_cons.1 hk with h | h
      . cases h; rfl
      . exact absurd (List.mem_map.2 ⟨(d,k),h,rfl⟩) hn'.1
     subst this
     simp [esO,mpAt]
   . have hne : ¬ (mkN c : Int)=(mkN d : Int):=fun h => e (mkN_inj gd gc (by omega))
     have hs : mpAt (mkN c : Int) (esO ((d,j) :: r))=mpAt (mkN c : Int) (esO r):=by
      simp only [esO,List.map_cons,mpAt,hne,if_false]
     rw [hs]
     refine ⟨fun k hk => h1 k ?_,fun h => h2 fun k hk => h k (by simp [hk])⟩
     rcases List.mem_cons.1 hk with h | h
     . cases h; exact absurd rfl e
     . exact h
theorem nodup_lt : ∀ (n : Nat) (l : List Nat),l.Nodup->(∀ x ∈ l,x < n)->l.length<=n
 | 0, l, _, h => by
   cases l with
   | nil => simp
   | cons x r => exact absurd (h x (by simp)) (by omega)
 | n + 1, l, hn, h => by
   by_cases hm : n ∈ l
   . have:=nodup_lt n (l.erase n) (hn.erase n) (fun x hx => by
      have h1:=(hn.mem_erase_iff).1 hx
      have:=h x h1.2
      omega)
     rw [List.length_erase_of_mem hm] at this; omega
   . have:=nodup_lt n l hn (fun x hx => by
      have:=h x hx
      have : x ≠ n:=fun e => hm (e ▸ hx)
      omega)
     omega
theorem table_len {L : CT} (hg : ∀ p ∈ L,G6 p.1) (hn : (keysC L).Nodup) : L.length<=4096:=by
 have h : ((keysC L).map mkN).Nodup:=by
  rw [List.Nodup,List.pairwise_map]
  refine List.Pairwise.imp_of_mem ?_ hn
  intro a b ha hb hab e
  obtain ⟨p,hp,rfl⟩:=List.mem_map.1 ha
  obtain ⟨q,hq,rfl⟩:=List.mem_map.1 hb
  exact hab (mkN_inj (hg p hp) (hg q hq) e)
 have:=nodup_lt 4096 _ h (fun x hx => by
  obtain ⟨c,hc,rfl⟩:=List.mem_map.1 hx
  obtain ⟨p,hp,rfl⟩:=List.mem_map.1 hc
  exact mkN_lt (hg p hp))
 simpa [keysC] using this
end Abs.Y

namespace Abs
open Go Go.RowKit

theorem getD_app {α : Type} (z : α) (a b : List α) (i : Nat) : (a++b).getD i z=if i < a.length then a.getD i z else b.getD (i - a.length) z:=by
 simp only [List.getD_eq_getElem?_getD,List.getElem?_append]
 split<;>rfl
end Abs

namespace Abs
open Go Go.RowKit
theorem Ok.loopO {P : Program} {N : Nat} {c : Code} {Q : Exit->St->Prop} {st : St} (I : Nat->St->Prop) (n0 : Nat) {st0 : St} (hw : Wk N st st0) (h0 : I n0 st0) (hr : ∀ n st,I n st->Ok P N c (loopQ N I n Q) st) : Ok P N (.loop c) Q st:=by
 intro h1 h2 Z B M w0 a w ⟨β,φ,hs⟩
 refine ⟨fun n a w => ∃ st,Sim Z N B M w0 st a w∧I n st,n0,⟨st0,hw _ _ _ _ _ _ _ _ hs,h0⟩,fun n a w ⟨st',hs',hI⟩ => ?_⟩
 refine sw_mono c (hr n st' hI h1 h2 Z B M w0 a w hs') fun e a w hl => ?_
 cases e with
 | normal =>
   obtain ⟨st1,⟨β1,φ1,hs1⟩,m,st2,hlt,hw2,hI2⟩:=hl
   exact ⟨m,hlt,st2,hw2 _ _ _ _ _ _ _ _ hs1,hI2⟩
 | exit id => exact hl
 | goto l => exact hl
 | ret => exact hl
 | panic ch => exact hl
 | outgrown => exact hl
theorem Ok.loopNO {P : Program} {N : Nat} {c : Code} {Q : Exit->St->Prop} {S : List (Nat × AV)} {O : List (Nat × AO)} {α : Type} (ks : List Nat) (u : Nat->α->List (Nat × AV)) (ou : Nat->α->List (Nat × AO)) (len : Nat) (I : Nat->α->Prop)
 (a0 : α) (hI : I 0 a0) (hw : Wk N ⟨S,O⟩ (updSt ks (u 0 a0) (ou 0 a0) S O))
 (hr : ∀ (R : Exit->St->Prop) (i : Nat) (a : α),(∀ a' st,i < len->I (i + 1) a'->Wk N st (updSt ks (u (i + 1) a') (ou (i + 1) a') S O)->R .normal st)->(∀ e st,e ≠ .normal->Q e st->R e st)->i<=len->I i a ->
  Ok P N c R (updSt ks (u i a) (ou i a) S O)) : Ok P N (.loop c) Q ⟨S,O⟩ :=
 Ok.loopO (fun n st => ∃ i a,n=len - i∧i<=len∧I i a∧st=updSt ks (u i a) (ou i a) S O) len hw ⟨0,a0,rfl,Nat.zero_le _,hI,rfl⟩ fun n st ⟨i,a,h1,h2,hI,h⟩ => by
  subst h
  refine hr _ i a (fun a' st hlt hI' hw' => ⟨len - (i + 1),_,by omega,hw',i + 1,a',rfl,hlt,hI',rfl⟩) (fun e st h1 h2 => ?_) h2 hI
  cases e<;>first | exact absurd rfl h1 | exact h2
theorem Ok.block {P : Program} {N id : Nat} {c : Code} {Q : Exit->St->Prop} {st : St} (h : Ok P N c (blockQ id Q) st) : Ok P N (.block id c) Q st:=fun h1 h2 Z B M w0 a w hs => by
 refine sw_mono c (h h1 h2 Z B M w0 a w hs) fun e a w hl => ?_
 cases e with
 | exit id' =>
   obtain ⟨st',hs',hk⟩:=hl
   simp only [blockQ] at hk
   simp only [Exit.inBlock]
   split
   . rename_i e; rw [if_pos e] at hk; exact ⟨st',hs',hk⟩
   . rename_i e; rw [if_neg e] at hk; exact ⟨st',hs',hk⟩
 | normal => exact hl
 | goto l => exact hl
 | ret => exact hl
 | panic ch => exact hl
 | outgrown => exact hl
end Abs

namespace Abs
open Go Go.RowKit
def Z7c (P : Program) (N : Nat) (l : List Oper) (K : St->Prop) (st : St) : List (Oper × Nat)->List (Oper × Nat)->Nat->List Bool->List Oper->Prop
 | hs,ts,_,_,[] => HeadW P N l (fst7 hs) st (kH7 P N l hs ts K)
 | hs,ts,k,true :: cs,o :: r => Z7c P N l K st (hs++[(o,k)]) ts (k + 1) cs r
 | hs,ts,k,false :: cs,o :: r => Z7c P N l K st hs (ts++[(o,k)]) (k + 1) cs r
 | _,_,_,[],_ :: _ => False
@[go_sem] theorem Z7c_nil (P N l K st hs ts k cs) : Z7c P N l K st hs ts k cs []=HeadW P N l (fst7 hs) st (kH7 P N l hs ts K):=by cases cs<;>rfl
@[go_sem] theorem Z7c_in (P N l K st hs ts k cs o r) : Z7c P N l K st hs ts k (true :: cs) (o :: r)=Z7c P N l K st (hs++[(o,k)]) ts (k + 1) cs r:=rfl
@[go_sem] theorem Z7c_out (P N l K st hs ts k cs o r) : Z7c P N l K st hs ts k (false :: cs) (o :: r)=Z7c P N l K st hs (ts++[(o,k)]) (k + 1) cs r:=rfl
theorem Z7c_spec {P : Program} {N : Nat} {l : List Oper} {K : St->Prop} {st : St} : ∀ (r : List Oper) (pre cs : List Bool) (hs ts : List (Oper × Nat)),Z7c P N l K st hs ts pre.length cs r ->
 HeadW P N l (fst7 (hs++(r.zipIdx pre.length).filter fun p => (pre++cs).getD p.2 false)) st (kH7 P N l (hs++(r.zipIdx pre.length).filter fun p => (pre++cs).getD p.2 false) (ts++(r.zipIdx pre.length).filter fun p => !(pre++cs).getD p.2 false) K)
 | [],pre,cs,hs,ts,h => by rw [Z7c_nil] at h; simpa using h
 | o :: r,pre,[],hs,ts,h => h.elim
 | o :: r, pre, b :: cs, hs, ts, h => by
   have e : (pre++b :: cs).getD pre.length false=b:=by simp [List.getD_eq_getElem?_getD]
   have e2 : pre++b :: cs=(pre++[b])++cs:=by simp
   rw [List.zipIdx_cons]
   cases b with
   | true =>
     have:=Z7c_spec r (pre++[true]) cs (hs++[(o,pre.length)]) ts (by rw [Z7c_in] at h; simpa using h)
     rw [List.filter_cons_of_pos (by exact e),List.filter_cons_of_neg (by simp only [e]; simp)]
     rw [List.length_append,List.length_singleton,← e2] at this
     simpa only [List.append_assoc,List.singleton_append] using this
   | false =>
     have:=Z7c_spec r (pre++[false]) cs hs (ts++[(o,pre.length)]) (by rw [Z7c_out] at h; simpa using h)
     rw [List.filter_cons_of_neg (by simp only [e]; simp),List.filter_cons_of_pos (by simp only [e]; rfl)]
     rw [List.length_append,List.length_singleton,← e2] at this
     simpa only [List.append_assoc,List.singleton_append] using this
theorem Ok.reg7 {P : Program} {N id : Nat} {ops : Array Oper} {Q : Exit->St->Prop} {st : St} (cls : List Bool) (h7 : ok7 cls ops.toList=true) (h : Z7c P N ops.toList (Q .normal) st [] [] 0 cls ops.toList) : Ok P N (.region id ops true) Q st:=fun h1 h2 Z B M w0 a w hs => by
 have h' : headA P N ops.toList ((hs7 cls ops.toList).map (·.1)) st fun st' => tail7 P N ops.toList (hs7 cls ops.toList) (ts7 cls ops.toList) st' (Q .normal):=by
  have h:=Z7c_spec ops.toList [] cls [] [] h
  rw [HeadW_eq,← fst7_eq] at h
  have e : ∀ hs ts K,kH7 P N ops.toList hs ts K=fun S => tail7 P N ops.toList hs ts S K:=fun hs ts K => funext fun S => kT7_spec P N ops.toList hs ts K S
  rw [e] at h
  exact h
 obtain ⟨l⟩:=ops
 exact wp_drawn7 h2 h7 (fun st a w hs hk => ⟨st,hs,hk⟩) hs h'
end Abs

namespace Abs.Y
open Go Go.Proofs Abs
open Nat renaming reduceEqDiff -> Qa, reduceLT -> Qb, reduceAdd -> Qc, reduceMul -> Qd, reduceSub -> Qe, reduceLeDiff -> Qf, reduceSubDiff -> Qg, reduceBEq -> Qh
open Bool renaming not_eq_true' -> Ba, not_eq_false' -> Bb, and_eq_true -> Bc, or_eq_true -> Bd, or_eq_false_iff -> Be
open Int renaming ofNat_lt -> Ia, ofNat_le -> Ib, not_lt -> Ic, not_le -> Ie
open Decidable renaming not_not -> Da
set_option maxRecDepth 100000

def zC : List Int × Nat:=([],0)
structure InvC (cs : List (List Int)) (w r : Nat) (L : CT) (frm : Nat) : Prop where
 nd : (keysC L).Nodup
 mem : ∀ c k,(c,k) ∈ L↔k<=r∧NewC cs w k c
 old : ∀ i,i < L.length->(frm<=i↔(L.getD i zC).2=r)
 le : frm<=L.length
def ResP (a b c : List Int) : Prop:=∃ v,1<=v∧(resolveI a b v=some c∨resolveI b a v=some c)
structure InvI (cs : List (List Int)) (w r : Nat) (L E : CT) (D : Nat->Nat->Prop) : Prop where
 nd : (keysC (L++E)).Nodup
 snd : ∀ p ∈ E,p.2=r + 1∧NewC cs w (r + 1) p.1
 cmp : ∀ i j,i < L.length->j < i->D i j->∀ c,ResP (L.getD i zC).1 (L.getD j zC).1 c->c.length<=w->∃ k,(c,k) ∈ L++E
theorem getD_memC {L : CT} {i : Nat} (h : i < L.length) : L.getD i zC ∈ L:=getD_mem h
section
variable {cs : List (List Int)} {w r : Nat} {L E : CT} {frm : Nat} {D : Nat->Nat->Prop}
theorem InvC.g6 (hg : ∀ c ∈ cs,G6 c) (h : InvC cs w r L frm) : ∀ p ∈ L,G6 p.1:=fun p hp => new_g6 hg ((h.mem p.1 p.2).1 hp).2
theorem InvI.g6 (hg : ∀ c ∈ cs,G6 c) (h : InvC cs w r L frm) (h' : InvI cs w r L E D) : ∀ p ∈ L++E,G6 p.1:=fun p hp => by
 rcases List.mem_append.1 hp with hp | hp
 . exact h.g6 hg p hp
 . exact new_g6 hg (h'.snd p hp).2
theorem InvC.cl (h : InvC cs w r L frm) {p} (hp : p ∈ L) : Cl cs w r p.1:=by
 obtain ⟨h1,h2⟩:=(h.mem p.1 p.2).1 hp
 exact cl_mono h1 (new_cl h2)
theorem InvC.start (h : InvC cs w r L frm) : InvI cs w r L [] (fun i _ => i < frm) where
 nd:=by rw [List.append_nil]; exact h.nd
 snd p hp:=nomatch hp
 cmp i j hi hj hd c hc hl:=by
  -- both were there before the last round
  obtain ⟨v,hv,hr⟩:=hc
  have key : ∀ t,t < frm->t < L.length->r ≠ 0∧∃ k,k < r∧NewC cs w k (L.getD t zC).1:=fun t ht htl => by
   have h1:=(h.mem _ _).1 (show ((L.getD t zC).1,(L.getD t zC).2) ∈ L from getD_memC htl)
   have h2 : ¬ (L.getD t zC).2=r:=fun e => by have:=(h.old t htl).2 e; omega
   exact ⟨by omega,_,by omega,h1.2⟩
  obtain ⟨r0,k1,h1,n1⟩:=key i hd hi
  obtain ⟨_,k2,h2,n2⟩:=key j (by omega) (by omega)
  obtain ⟨s,rfl⟩ : ∃ s,r=s + 1:=⟨r - 1,by omega⟩
  have ca:=cl_mono (show k1<=s by omega) (new_cl n1)
  have cb:=cl_mono (show k2<=s by omega) (new_cl n2)
  have cc : Cl cs w (s + 1) c:=by
   rcases hr with hr | hr
   . exact .inr ⟨hl,_,_,v,hv,ca,cb,hr⟩
   . exact .inr ⟨hl,_,_,v,hv,cb,ca,hr⟩
  obtain ⟨k,hk,hn⟩:=cl_new cc
  exact ⟨k,by rw [List.append_nil]; exact (h.mem c k).2 ⟨hk,hn⟩⟩
theorem InvI.mono {D' : Nat->Nat->Prop} (h : InvI cs w r L E D) (hd : ∀ i j,i < L.length->j < i->D' i j->D i j) : InvI cs w r L E D' :=
 ⟨h.nd,h.snd,fun i j hi hj hD => h.cmp i j hi hj (hd i j hi hj hD)⟩
theorem InvI.skip (h : InvI cs w r L E D) {i j : Nat} (hs : ∀ c,ResP (L.getD i zC).1 (L.getD j zC).1 c->c.length<=w->∃ k,(c,k) ∈ L++E) : InvI cs w r L E (fun a b => D a b∨(a=i∧b=j)) :=
 ⟨h.nd,h.snd,fun a b ha hb hD => by
  rcases hD with hD | ⟨rfl,rfl⟩
  . exact h.cmp a b ha hb hD
  . exact hs⟩
theorem resP_uniq {a b c d : List Int} (ga : G6 a) (gb : G6 b) (h1 : ResP a b c) (h2 : ResP a b d) : c=d:=by
 obtain ⟨v,hv,h1⟩:=h1
 obtain ⟨v',hv',h2⟩:=h2
 have gc : ∀ {c v},1<=v->(resolveI a b v=some c∨resolveI b a v=some c)->G6 c:=fun hv h => by
  rcases h with h | h
  . exact (resolveI_some ga gb hv h).2.2.2.1
  . exact (resolveI_some gb ga hv h).2.2.2.1
 exact mkN_inj (gc hv h1) (gc hv' h2) ((mask_out ga gb hv h1).symm.trans (mask_out ga gb hv' h2))
theorem InvI.put (hg : ∀ c ∈ cs,G6 c) (hC : InvC cs w r L frm) (h : InvI cs w r L E D) {i j : Nat} (hi : i < L.length) (hj : j < i) {c : List Int} (hc : ResP (L.getD i zC).1 (L.getD j zC).1 c) (hl : c.length<=w) (hn : ∀ k,(c,k) ∉ L++E) :
 InvI cs w r L (E++[(c,r + 1)]) (fun a b => D a b∨(a=i∧b=j)) where
 nd:=by
  have h1 : keysC (L++(E++[(c,r + 1)]))=keysC (L++E)++[c]:=by simp [keysC]
  rw [h1,List.nodup_append]
  refine ⟨h.nd,by simp,fun x hx y hy e => ?_⟩
  obtain rfl:=List.mem_singleton.1 hy
  subst e
  obtain ⟨p,hp,e⟩:=List.mem_map.1 hx
  exact hn p.2 (by rw [← e]; exact hp)
 snd p hp:=by
  rcases List.mem_append.1 hp with hp | hp
  . exact h.snd p hp
  . obtain rfl:=List.mem_singleton.1 hp
    refine ⟨rfl,?_,fun hcl => ?_⟩
    . obtain ⟨v,hv,hr⟩:=hc
      have ca:=hC.cl (getD_memC hi)
      have cb:=hC.cl (getD_memC (show j < L.length by omega))
      rcases hr with hr | hr
      . exact .inr ⟨hl,_,_,v,hv,ca,cb,hr⟩
      . exact .inr ⟨hl,_,_,v,hv,cb,ca,hr⟩
    . obtain ⟨k,hk,hnk⟩:=cl_new hcl
      exact hn k (List.mem_append.2 (.inl ((hC.mem c k).2 ⟨hk,hnk⟩)))
 cmp a b ha hb hD d hd hdl:=by
  rcases hD with hD | ⟨rfl,rfl⟩
  . obtain ⟨k,hk⟩:=h.cmp a b ha hb hD d hd hdl
    exact ⟨k,by rw [← List.append_assoc]; exact List.mem_append.2 (.inl hk)⟩
  . have:=resP_uniq (hC.g6 hg _ (getD_memC ha)) (hC.g6 hg _ (getD_memC (show b < L.length by omega))) hc hd
    subst this
    exact ⟨r + 1,by simp⟩
theorem InvI.done (hg : ∀ c ∈ cs,G6 c) (hC : InvC cs w r L frm) (h : InvI cs w r L E (fun _ _ => True)) : InvC cs w (r + 1) (L++E) L.length where
 nd:=h.nd
 mem c k:=by
  constructor
  . intro hp
    rcases List.mem_append.1 hp with hp | hp
    . have:=(hC.mem c k).1 hp
      exact ⟨by omega,this.2⟩
    . obtain ⟨h1,h2⟩:=h.snd _ hp
      simp only at h1 h2
      subst h1
      exact ⟨Nat.le_refl _,h2⟩
  . rintro ⟨hk,hn⟩
    by_cases hkr : k<=r
    . exact List.mem_append.2 (.inl ((hC.mem c k).2 ⟨hkr,hn⟩))
    obtain rfl : k=r + 1:=by omega
    obtain ⟨hcl,hno⟩:=hn
    rcases hcl with hcl | ⟨hl,a,b,v,hv,ca,cb,hr⟩
    . exact absurd hcl hno
    . obtain ⟨ka,hka,na⟩:=cl_new ca
      obtain ⟨kb,hkb,nb⟩:=cl_new cb
      obtain ⟨p,hp,ep⟩:=List.getElem_of_mem ((hC.mem a ka).2 ⟨hka,na⟩)
      obtain ⟨q,hq,eq⟩:=List.getElem_of_mem ((hC.mem b kb).2 ⟨hkb,nb⟩)
      have gp : (L.getD p zC).1=a:=by simp [List.getD_eq_getElem?_getD,hp,ep]
      have gq : (L.getD q zC).1=b:=by simp [List.getD_eq_getElem?_getD,hq,eq]
      have ga:=cl_g6 hg r a ca
      have gb:=cl_g6 hg r b cb
      have hab : a ≠ b:=fun e => by
       subst e
       obtain ⟨_,h1,h2,_⟩:=resolveI_some ga gb hv hr
       exact good_neg ga.1 h1 h2
      have hpq : p ≠ q:=fun e => by subst e; exact hab (gp.symm.trans gq)
      have fin : ∃ k,(c,k) ∈ L++E:=by
       rcases Nat.lt_or_gt_of_ne hpq with h1 | h1
       . exact h.cmp q p hq h1 trivial c ⟨v,hv,by rw [gp,gq]; exact .inr hr⟩ hl
       . exact h.cmp p q hp h1 trivial c ⟨v,hv,by rw [gp,gq]; exact .inl hr⟩ hl
      obtain ⟨k,hk'⟩:=fin
      rcases List.mem_append.1 hk' with h1 | h1
      . obtain ⟨h2,h3⟩:=(hC.mem c k).1 h1
        exact absurd (cl_mono h2 (new_cl h3)) hno
      . have:=(h.snd _ h1).1
        simp only at this
        subst this
        exact hk'
 old i hi:=by
  rw [List.length_append] at hi
  rw [getD_app]
  by_cases hil : i < L.length
  . rw [if_pos hil]
    have:=((hC.mem _ _).1 (show ((L.getD i zC).1,(L.getD i zC).2) ∈ L from getD_memC hil)).1
    constructor<;>intro h'<;>omega
  . rw [if_neg hil]
    have:=(h.snd _ (getD_memC (show i - L.length < E.length by omega))).1
    constructor<;>intro h'
    . exact this
    . omega
 le:=by rw [List.length_append]; omega
end
end Abs.Y
