/- What functions of this program compute, over plain data. No condition. -/
import Derived.Test.YtiafnejjhnjbfaaGreatWN4
import Derived.OwnWalk
import Derived.Test.YtiafnejjhnjbfaaGreatWN1
import Derived.Test.YtiafnejjhnjbfaaGreatFQ3
import Derived.Test.YtiafnejjhnjbfaaGreatFO4
import Derived.Test.YtiafnejjhnjbfaaGreatFD2
import Derived.Test.YtiafnejjhnjbfaaGreatAbsBits
import Derived.Test.YtiafnejjhnjbfaaGreatAbsLoopO
set_option linter.all false
open Nat renaming reduceEqDiff -> Qa, reduceLT -> Qb, reduceAdd -> Qc, reduceMul -> Qd, reduceSub -> Qe, reduceLeDiff -> Qf, reduceSubDiff -> Qg, reduceBEq -> Qh
open Bool renaming not_eq_true' -> Ba, not_eq_false' -> Bb, and_eq_true -> Bc, or_eq_true -> Bh, or_eq_false_iff -> Be
open Int renaming ofNat_lt -> Ia, ofNat_le -> Ib, not_lt -> Ic, not_le -> Ie
open Decidable renaming not_not -> Da
namespace Go.Proofs
open Go.RowKit Go.Lib
set_option maxRecDepth 100000
theorem Tryz.infoStr : (Tryz.prog.info? 9).map (fun i => (i.zero,i.size,i.bytes))=some (some (.string ⟨#[]⟩),1,16):=by kernel_rfl
def onV : List Value:=(List.range 8).map fun j => .string ⟨#[onB j]⟩
theorem onV_at {j : Nat} {v : Value} (h : onV[j]? = some v) : j < 8∧v=.string ⟨#[onB j]⟩:=by
 rw [onV,List.getElem?_map] at h
 obtain ⟨x,h1,h2⟩:=Option.map_eq_some_iff.1 h
 obtain ⟨h3,h4⟩:=List.getElem?_eq_some_iff.1 h1
 have h3 : j < 8:=by simpa using h3
 rw [List.getElem_range] at h4
 subst h4
 exact ⟨h3,h2.symm⟩
theorem size_alloc (w : World) (o : Obj) : (w.alloc o).heap.size=w.heap.size + 1:=by
 show (w.heap.push o).size=_
 simp
theorem rep_new (w : World) (A : Array Value) (t t' : TypeId) (c : Nat) (hA : ∀ j,j < 8->A[j]? = some (.string ⟨#[onB j]⟩)) :
 RepA (((w.alloc (.cells A t)).alloc (.cells #[.int .u32 0,.int .i32 0,.int .u32 0,.nilIface,.slice (some ⟨w.heap.size,0,none⟩) 8 c] t')).drew) (w.heap.size + 1) w.heap.size c:=by
 obtain ⟨B,hB⟩ : ∃ B : Array Value,B=#[.int .u32 0,.int .i32 0,.int .u32 0,.nilIface,.slice (some ⟨w.heap.size,0,none⟩) 8 c]:=⟨_,rfl⟩
 rw [← hB]
 have h1 : ((w.alloc (.cells A t)).alloc (.cells B t')).heap[w.heap.size + 1]? = some (.cells B t' (0,0)):=by
  have:=heap_alloc_last (w.alloc (.cells A t)) (.cells B t')
  rwa [size_alloc] at this
 have h0 : ((w.alloc (.cells A t)).alloc (.cells B t')).heap[w.heap.size]? = some (.cells A t (0,0)):=by
  rw [Below.heap_alloc _ _ _ (by rw [size_alloc]; omega)]
  exact heap_alloc_last w _
 have cb : ∀ j,(((w.alloc (.cells A t)).alloc (.cells B t')).drew).cell? ⟨w.heap.size + 1,j,none⟩=B[j]? := fun j => by
  rw [World.cell?_drew]; exact cell_of_row _ _ j _ _ (0,0) h1
 refine ⟨?_,?_,by rw [cb,hB]; rfl,by rw [cb,hB]; rfl,by rw [cb,hB]; rfl,by rw [cb,hB]; rfl,fun j => ?_,fun j hj => ?_,by omega⟩
 . show w.heap.size + 1 < ((w.alloc (.cells A t)).alloc (.cells B t')).heap.size
   rw [size_alloc,size_alloc]; omega
 . show w.heap.size < ((w.alloc (.cells A t)).alloc (.cells B t')).heap.size
   rw [size_alloc,size_alloc]; omega
 . show ((w.alloc (.cells A t)).alloc (.cells B t')).frozen? _=false
   simp only [World.frozen?, h1]; simp
 . rw [World.cell?_drew,cell_of_row _ _ j _ _ (0,0) h0]; exact hA j hj
set_option maxHeartbeats 4000000 in
theorem Tryz.newrep_w (g0 c0 : Nat) (w : World) (hg : g0 < w.heap.size) (hs : ∀ j,j < 8->w.cell? ⟨g0,j,none⟩=some (.string ⟨#[onB j]⟩)) :
 Calls Tryz.prog 30 #[.slice (some ⟨g0,0,none⟩) 8 c0] w fun e w' => ∃ b g c,e=.returned (.pointer (some ⟨b,0,none⟩))∧Below w.heap.size w w'∧w.heap.size<=b∧RepA w' b g c:=by
 obtain ⟨i0,hi,hz0,hz1,hz2⟩:=info_parts Tryz.infoStr
 have hap:=fun ty => run_append_nil (P:=Tryz.prog) (w:=w) 56 ty 9 i0 (.string ⟨#[]⟩) Tryz.underlying56 hi hz0 ⟨g0,0,none⟩ 8 c0 onV (by rw [hz1]; rfl) (fun j v hj => by
  obtain ⟨h1,rfl⟩:=onV_at hj
  rw [Addr.add_lit,Nat.zero_add]; exact hs j h1) (by decide) (by decide) (by rw [hz2]; decide)
 obtain ⟨C,hC⟩ : ∃ C,C=onV.toArray++Builtin.zeroCells (Value.string ⟨#[]⟩).cells (grownCap w 8 0 9 - 8):=⟨_,rfl⟩
 rw [← hC] at hap
 have hC1 : Hid (∀ j,j < 8->C[j]? = some (.string ⟨#[onB j]⟩)):=fun j hj => by
  rw [hC,Array.getElem?_append_left (by simp [onV]; exact hj)]
  simp [onV,hj]
 clear hC
 go_enter Tryz.func30,Tryz.ntmps30
 go_wp2
 go_ret
 refine ⟨w.heap.size + 1,w.heap.size,_,rfl,?_,by omega,rep_new w _ _ _ _ (fun j hj => ?_)⟩
 . exact (((Below.refl _ w).alloc (Nat.le_refl _) _).alloc (by rw [size_alloc]; omega) _).drew
 . clear hC1 hap
   match j,hj with
   | 0,_ | 1,_ | 2,_ | 3,_ | 4,_ | 5,_ | 6,_ | 7,_ => first | rfl | (rw [Array.getElem?_append_left (by decide)]; rfl) | trace_state
end Go.Proofs

namespace Go.Proofs
open Go.RowKit Go.Lib
set_option maxRecDepth 100000
theorem idx_none {c : UInt8} : ∀ l : List UInt8,c ∉ l->Lib.indexByte l c=-1
 | [],_ => rfl
 | b :: l, h => by
   have h1 : b ≠ c:=fun e => h (by rw [e]; exact List.mem_cons_self)
   have h2:=idx_none l fun e => h (List.mem_cons_of_mem _ e)
   unfold Lib.indexByte
   simp [h1,h2]
set_option maxHeartbeats 4000000 in
theorem Tryz.dual_w (s : ByteArray) (w : World) (hs : s.size<=1000) (h62 : (62 : UInt8) ∉ s.data.toList)
 (hf : ∀ w : World,Calls Tryz.prog 13 #[.string s] w fun e w' => e=.returned (.bool true)∧Below w.heap.size w w') :
 Calls Tryz.prog 9 #[.string s] w fun e w' => e=.returned (.tuple #[.string ⟨(s.data.toList.map bswp).toArray⟩,.bool true])∧Below w.heap.size w w':=by
 have hh : ∀ w : World,Calls Tryz.prog 29 #[.string s,.string ⟨#[62]⟩] w fun e w' => e=.returned (.bool false)∧w'=w:=fun w => by
  refine (Tryz.has_w s 62 w).mono fun e w' ⟨h1,h2⟩ => ⟨?_,h2⟩
  rw [h1,idx_none _ h62]; rfl
 have hnot : ∀ (x : Bool) (w : World),(Op.unary .not (.bool x)).run Tryz.prog w=.ok (.bool (!x)) w:=fun _ _ => rfl
 go_enter Tryz.func9,Tryz.ntmps9
 go_wp2_with (first | (go_at_call 13; refine (hf _).mono ?_; rintro e w1 ⟨rfl,hB1⟩) | (go_at_call 29; refine (hh _).mono ?_; rintro e w2 ⟨rfl,rfl⟩))
 have hB3 : Below w.heap.size w (w2.alloc (.cells #[.string ⟨#[38]⟩,.string ⟨#[124]⟩,.string ⟨#[124]⟩,.string ⟨#[38]⟩,.string ⟨#[48]⟩,.string ⟨#[49]⟩,.string ⟨#[49]⟩,.string ⟨#[48]⟩] 9)):=hB1.alloc hB1.size _
 have hc3 : ∀ j,j < 8->(w2.alloc (.cells #[.string ⟨#[38]⟩,.string ⟨#[124]⟩,.string ⟨#[124]⟩,.string ⟨#[38]⟩,.string ⟨#[48]⟩,.string ⟨#[49]⟩,.string ⟨#[49]⟩,.string ⟨#[48]⟩] 9)).cell? ⟨w2.heap.size,j,none⟩=some (.string ⟨#[onB j]⟩):=fun j hj => by
  rw [cell_of_row _ _ j _ _ (0,0) (heap_alloc_last w2 _)]
  match j,hj with
  | 0,_ | 1,_ | 2,_ | 3,_ | 4,_ | 5,_ | 6,_ | 7,_ => rfl
 have hs3 : w2.heap.size < (w2.alloc (.cells #[.string ⟨#[38]⟩,.string ⟨#[124]⟩,.string ⟨#[124]⟩,.string ⟨#[38]⟩,.string ⟨#[48]⟩,.string ⟨#[49]⟩,.string ⟨#[49]⟩,.string ⟨#[48]⟩] 9)).heap.size:=by rw [size_alloc]; omega
 generalize w2.alloc (.cells #[.string ⟨#[38]⟩,.string ⟨#[124]⟩,.string ⟨#[124]⟩,.string ⟨#[38]⟩,.string ⟨#[48]⟩,.string ⟨#[49]⟩,.string ⟨#[49]⟩,.string ⟨#[48]⟩] 9)=W3 at *
 refine (Tryz.newrep_w w2.heap.size 8 W3 hs3 hc3).mono ?_
 rintro e w4 ⟨b,g,c,rfl,hB4,hb4,hR⟩
 have hr:=Tryz.replace_w b g c s w4 hR hs
 go_wp2_with (go_at_call 31; refine hr.mono ?_; rintro e w5 ⟨rfl,hB5⟩)
 go_ret2
 have q1:=hB3.size
 have q4:=hB4.size
 exact ⟨rfl,(hB3.trans (hB4.mono q1)).trans (hB5.mono (by omega))⟩
end Go.Proofs
namespace Abs.Y
open Go Go.Proofs Abs
set_option maxRecDepth 100000
theorem isF_w (s : ByteArray) (hs : s.size<=1000) (hk : okS s=true) (w : World) : Calls Tryz.prog 13 #[.string s] w fun e w' => e=.returned (.bool true)∧Go.RowKit.Below w.heap.size w w':=by
 have c1:=IsFormula_ok s (by omega)
 rw [hk] at c1
 have:=c1.2 (fun _ => False) w [.string s] rfl (fun i hi => by
  obtain rfl : i=0:=by simpa using hi
  exact .str s) (GS.nil ⟨rfl,rfl⟩)
 refine this.mono fun e w' ⟨v,he,hf,β,φ,hrel,_,_,_⟩ => ⟨?_,hf.os,hf.tape,hf.output,hf.size,fun k hk => hf.block k hk (fun h => h)⟩
 rw [he]
 cases hrel with
 | d h => cases h; rfl
theorem DualFormula_ok (s : ByteArray) (hs : s.size<=1000) (hk : okS s=true) (h62 : (62 : UInt8) ∉ BL s) : Ctr Tryz.prog 9 [.str s] false (.tup [.d (.str ⟨((BL s).map swp).toArray⟩),.d (.bool true)]) []:=by
 refine ⟨⟨_,Tryz.func9,by kernel_rfl,by kernel_rfl⟩,fun S w vs hl hr hG => ?_⟩
 obtain ⟨v,rfl⟩ : ∃ v,vs=[v]:=by
  match vs,hl with
  | [a],_ => exact ⟨a,rfl⟩
 have h:=hr 0 (by simp)
 simp only [List.getD_cons_zero] at h
 cases h
 refine (Tryz.dual_w s w hs h62 (isF_w s hs hk)).mono fun en w' ⟨he,hb⟩ => ⟨_,he,?_,?_⟩
 . exact ⟨hb.os,hb.tape,hb.output,hb.size,hb.size,fun g hg _ => hb.block g hg,Nat.le_refl _⟩
 . refine ⟨fun _ => Go.undef,fun _ _ => False,.tup rfl fun i hi => ?_,fun j o hj => by simp [lk] at hj,fun j o g hj => by simp [lk] at hj,fun j j' o o' g hj hj' => by simp [lk] at hj⟩
   match i,hi with
   | 0,_ => exact .d (.str _)
   | 1,_ => exact .d (.bool _)
end Abs.Y

namespace Abs.Y
open Go Go.Proofs Abs
set_option maxRecDepth 100000
set_option maxHeartbeats 4000000

theorem formula_ok {code : List Int} (hc : CodeOK code) : Draws 52 [] 130 (QT 29) code:=fun at_ seed h1 h2 h3 => by
 have c1:=amongB_ok hc [1,2,3,3,4,5,6,8] 1 8 (by decide) (by decide)
 simp only [List.map_cons,List.map_nil] at c1
 have c2:=fun (n : Int) (h1 : 1<=n) (h2 : n<=8) => formula22_ok hc n.toNat n h1 (by omega) h2
 refine CtrR.of (n:=13) (rs:=[.tmp 2]) Tryz.func52 rfl rfl Tryz.ntmps52 rfl rfl (by kernel_rfl) Tryz.checked.mixed ?_; intro u
 simp (disch:=first | omega | decide +kernel) only [curO,curB,D.bytes,go_sem,Qa,Qb,Qc,Qd,Qe,↓reduceIte,reduceCtorEq,Qf,Qg,Qh]
 (repeat' (first | ((first | (refine gsel_split (fun q' => ?_) (fun q' => ?_)<;>(have h':=q')<;>(try simp only [za1,za2,Ba,Bb,za3,ne_eq,za4,za5,za6,Ia,Ib,Ic,Ie,Da,Bc,Bh,Be,za7,za8] at h')<;>try (exfalso; omega)) | (have q':=trivial; first | (refine callX_drawL _ _ (c1) ⟨.inl rfl,.inl rfl,trivial⟩ rfl rfl (by decide) (by simp [dstB]) (by omega) (by omega) (by omega) ?_; rintro _ at1 sd1 hat1 hat2 hsd1 hsd2 ⟨x1,rfl,hx1⟩) | (refine callX_draw _ (c2 x1 (by omega) (by omega)) ⟨.inl rfl,.inl rfl,trivial⟩ rfl (by simp [dstB]) (by omega) (by omega) (by omega) ?_; rintro _ atb sdb hatb1 hatb2 hsdb1 hsdb2 ⟨xb,rfl,hxb⟩) | refine callX_new (l22Good_ok xb (by omega)) rfl (by decide) ?_ | refine callY_new (l22Good_ok xb (by omega)) rfl ?_ | refine hE _ _ ret_ne ?_ | refine hE _ _ exit_ne ?_))<;>(try simp (disch:=first | omega | decide +kernel) only [q',curO,curB,D.bytes,go_sem,Qa,Qb,Qc,Qd,Qe,↓reduceIte,reduceCtorEq,Qf,Qg,Qh])<;>clear q') | refine hN _ ?_ ?_ Wk.kk | with_reducible refine And.intro ?_ ?_ | with_reducible omega | exact ok_ints | exact cells_ints | exact no_mem | with_reducible exact plain_ints | (refine le_maxLen ?_; omega) | (refine za9 ⟨?_,?_⟩) | (simp only [go_sem,Qc,Qb,zb1,zb2,forall_eq]; done)))
 all_goals (first | omega | (exact retR_draw rfl rfl rfl (by omega) (by omega) (by omega) (by omega) ⟨_,rfl,by first | omega | decide⟩))
theorem spoilt_ok {code : List Int} (hc : CodeOK code) (t w : ByteArray) (ht : t.size<=100000) (hw : 1<=w.size∧w.size<=60000) : Draws 54 [.d (.str t),.d (.str w)] 6 (QT (t.size + 1)) code:=fun at_ seed h1 h2 h3 => by
 have c1:=pick_ok hc (t.size : Nat) (by omega)
 have c2:=pick_ok hc (w.size : Nat) (by omega)
 have c3:=pick_ok hc 3 (by omega)
 by_cases h0 : t.size=0
 . have ht0 : t=⟨#[]⟩:=ext_BL (List.eq_nil_of_length_eq_zero (by rw [← size_BL]; exact h0))
   have he : (t.toList == (ByteArray.mk #[]).toList)=true:=by rw [ht0]; exact beq_self_eq_true _
   refine CtrR.of (n:=57) (rs:=[.tmp 6]) Tryz.func54 rfl rfl Tryz.ntmps54 rfl rfl (by kernel_rfl) Tryz.checked.mixed ?_; intro u
   simp (disch:=first | omega | decide +kernel) only [curO,curB,D.bytes,he,go_sem,Qa,Qb,Qc,Qd,Qe,↓reduceIte,reduceCtorEq,Qf,Qg,Qh]
   (repeat' (first | ((first | (refine gsel_split (fun q' => ?_) (fun q' => ?_)<;>(have h':=q')<;>(try simp only [za1,za2,Ba,Bb,za3,ne_eq,za4,za5,za6,Ia,Ib,Ic,Ie,Da,Bc,Bh,Be,za7,za8] at h')<;>try (exfalso; omega)) | (have q':=trivial; first | refine hE _ _ ret_ne ?_ | refine hE _ _ exit_ne ?_))<;>(try simp (disch:=first | omega | decide +kernel) only [q',curO,curB,D.bytes,he,go_sem,Qa,Qb,Qc,Qd,Qe,↓reduceIte,reduceCtorEq,Qf,Qg,Qh])<;>clear q') | refine hN _ ?_ ?_ Wk.kk | with_reducible refine And.intro ?_ ?_ | with_reducible omega | exact ok_ints | exact cells_ints | exact no_mem | with_reducible exact plain_ints | (refine le_maxLen ?_; omega) | (refine za9 ⟨?_,?_⟩) | (simp only [go_sem,Qc,Qb,zb1,zb2,forall_eq]; done)))
   all_goals (first | omega | (exact retR_draw rfl rfl rfl (by omega) (by omega) (by omega) (by omega) ⟨_,rfl,by rw [ByteArray.size_extract]; omega⟩))
 . have he : (t.toList == (ByteArray.mk #[]).toList)=false:=by
    rw [beq_eq_false_iff_ne,ByteArray.toList_eq,ByteArray.toList_eq]
    intro e
    apply h0
    rw [size_BL]
    exact congrArg List.length e
   refine CtrR.of (n:=57) (rs:=[.tmp 6]) Tryz.func54 rfl rfl Tryz.ntmps54 rfl rfl (by kernel_rfl) Tryz.checked.mixed ?_; intro u
   simp (disch:=first | omega | decide +kernel) only [curO,curB,D.bytes,he,go_sem,Qa,Qb,Qc,Qd,Qe,↓reduceIte,reduceCtorEq,Qf,Qg,Qh]
   (repeat' (first | ((first | (refine gsel_split (fun q' => ?_) (fun q' => ?_)<;>(have h':=q')<;>(try simp only [za1,za2,Ba,Bb,za3,ne_eq,za4,za5,za6,Ia,Ib,Ic,Ie,Da,Bc,Bh,Be,za7,za8] at h')<;>try (exfalso; omega)) | (have q':=trivial; first | (refine callX_draw _ (c1) ⟨.inl rfl,.inl rfl,trivial⟩ rfl (by simp [dstB]) (by omega) (by omega) (by omega) ?_; rintro _ ata sda hata1 hata2 hsda1 hsda2 ⟨xa,rfl,hxa⟩) | (refine callX_draw _ (c2) ⟨.inl rfl,.inl rfl,trivial⟩ rfl (by simp [dstB]) (by omega) (by omega) (by omega) ?_; rintro _ atb sdb hatb1 hatb2 hsdb1 hsdb2 ⟨xb,rfl,hxb⟩) | (refine callX_draw _ (c3) ⟨.inl rfl,.inl rfl,trivial⟩ rfl (by simp [dstB]) (by omega) (by omega) (by omega) ?_; rintro _ atc sdc hatc1 hatc2 hsdc1 hsdc2 ⟨xc,rfl,hxc⟩) | refine hE _ _ ret_ne ?_ | refine hE _ _ exit_ne ?_))<;>(try simp (disch:=first | omega | decide +kernel) only [q',curO,curB,D.bytes,he,ByteArray.size_append,ByteArray.size_extract,go_sem,Qa,Qb,Qc,Qd,Qe,↓reduceIte,reduceCtorEq,Qf,Qg,Qh])<;>clear q') | refine hN _ ?_ ?_ Wk.kk | with_reducible refine And.intro ?_ ?_ | with_reducible omega | exact ok_ints | exact cells_ints | exact no_mem | with_reducible exact plain_ints | (refine le_maxLen ?_; omega) | (refine za9 ⟨?_,?_⟩) | (simp only [go_sem,Qc,Qb,zb1,zb2,forall_eq]; done)))
   all_goals (first | omega | (exact retR_draw rfl rfl rfl (by omega) (by omega) (by omega) (by omega) ⟨_,rfl,by simp only [ByteArray.size_append,ByteArray.size_extract]; omega⟩))
end Abs.Y

namespace Abs.Y
open Go Go.Proofs Abs
set_option maxRecDepth 100000

def By.st (b : By) (c : UInt8) : ByteArray:=match b c with
 | none => ⟨#[]⟩
 | some y => y.T
def By.L (b : By) : List D:=[.str (b.st 97),.str (b.st 98),.str (b.st 99)]
end Abs.Y

namespace Abs.Y
open Go Go.Proofs Abs
set_option maxRecDepth 100000

noncomputable def caseF (k : Int) (a b c : ByteArray) : Fm:=(sch (k - 1).toNat).sub (f3 (fmS a) (fmS b) (fmS c))
noncomputable def caseG (k : Int) (a b c : ByteArray) : Bool:=decide (1<=k) && decide (k<=10) && okS a && okS b && okS c && decide ((caseF k a b c).T.size<=80)
noncomputable def caseS (k : Int) (a b c : ByteArray) : ByteArray:=if caseG k a b c then (caseF k a b c).T else ⟨#[]⟩
noncomputable def schS (k : Int) : ByteArray:=if 1<=k∧k<=10 then (sch (k - 1).toNat).T else ⟨#[]⟩
end Abs.Y

namespace Abs
open Go Go.Proofs
end Abs
namespace Abs.Y
open Go Go.Proofs Abs
set_option maxRecDepth 100000

end Abs.Y

namespace Abs
open Go Go.RowKit
theorem Ok.seqJ {P : Program} {N : Nat} {x y : Code} {Q : Exit->St->Prop} {st : St} (Sc : St) (h1 : Ok P N y Q Sc) (h2 : Ok P N x (fun e s => (e=.normal∧Wk N s Sc)∨(e ≠ .normal∧Q e s)) st) : Ok P N (.seq x y) Q st :=
 Ok.seq (h2.mono fun e s h => by
  cases e with
  | normal =>
    rcases h with ⟨_,h⟩ | ⟨h,_⟩
    . exact Ok.weak h h1
    . exact absurd rfl h
  | _ =>
    rcases h with ⟨h,_⟩ | ⟨_,h⟩
    . cases h
    . exact h)
theorem retM_vv {P : Program} {t1 t2 : Nat} {st : St} {u : Nat->Value} {x y : D} (h1 : lk t1 st.s=some (.d x)) (h2 : lk t2 st.s=some (.d y)) : retM P [.tmp t1,.tmp t2] u [] true (.tup [.d x,.d y]) [] .ret st:=by
 simp only [retM,resV,h1,h2]
 exact ⟨trivial,⟨fun q => q,rfl,by simp,by simp,trivial⟩,.inl trivial⟩
theorem retM_v {P : Program} {t1 : Nat} {st : St} {u : Nat->Value} {x : D} (h1 : lk t1 st.s=some (.d x)) : retM P [.tmp t1] u [] true (.d x) [] .ret st:=by
 simp only [retM,resV,h1]
 exact ⟨trivial,⟨fun q => q,rfl,by simp,by simp,trivial⟩,.inl trivial⟩
end Abs

namespace Abs
open Go Go.Proofs
end Abs
namespace Abs.Y
open Go Go.Proofs Abs
set_option maxRecDepth 100000
set_option maxHeartbeats 4000000

theorem formulaText_ok {code : List Int} (hc : CodeOK code) : Draws 34 [] 140 (QT 81) code:=fun at_ seed h1 h2 h3 => by
 have c1:=formula_ok hc
 have c2:=pick_ok hc 16 (by omega)
 have c3:=pick_ok hc 4 (by omega)
 have c4:=ofL_ok hc [⟨#[]⟩,⟨#[103]⟩,⟨#[40,97,38,98]⟩,⟨#[97,38,98]⟩,⟨#[40,41]⟩,⟨#[126]⟩,⟨#[65]⟩] 4 (by decide) (by decide)
 simp only [List.map_cons,List.map_nil] at c4
 have c5:=fun (t : ByteArray) (ht : t.size<=29) => spoilt_ok hc t ⟨#[97,98,48,49,126,40,38,124,62,41]⟩ (by omega) (by decide)
 have z1 : (ByteArray.mk #[126]).size=1:=rfl
 refine CtrR.of (n:=31) (rs:=[.tmp 2]) Tryz.func34 rfl rfl Tryz.ntmps34 rfl rfl (by kernel_rfl) Tryz.checked.mixed ?_; intro u
 simp (disch:=first | omega | decide +kernel) only [curO,curB,D.bytes,go_sem,Qa,Qb,Qc,Qd,Qe,↓reduceIte,reduceCtorEq,Qf,Qg,Qh]
 (repeat' (first | ((first | (refine gsel_split (fun q' => ?_) (fun q' => ?_)<;>(have h':=q')<;>(try simp only [za1,za2,Ba,Bb,za3,ne_eq,za4,za5,za6,Ia,Ib,Ic,Ie,Da,Bc,Bh,Be,za7,za8] at h')<;>try (exfalso; omega)) | (have q':=trivial; first | (refine callX_draw _ (c1) ⟨.inl rfl,trivial⟩ rfl (by simp [dstB]) (by omega) (by omega) (by omega) ?_; rintro _ ata sda hata1 hata2 hsda1 hsda2 ⟨xa,rfl,hxa⟩) | (refine callX_draw _ (c2) ⟨.inl rfl,.inl rfl,trivial⟩ rfl (by simp [dstB]) (by omega) (by omega) (by omega) ?_; rintro _ atb sdb hatb1 hatb2 hsdb1 hsdb2 ⟨xb,rfl,hxb⟩) | (refine callX_draw _ (c5 xa (by omega)) ⟨.inl rfl,.inl rfl,.inl rfl,trivial⟩ rfl (by simp [dstB]) (by omega) (by omega) (by omega) ?_; rintro _ atc sdc hatc1 hatc2 hsdc1 hsdc2 ⟨xc,rfl,hxc⟩) | (refine callX_draw _ (c3) ⟨.inl rfl,.inl rfl,trivial⟩ rfl (by simp [dstB]) (by omega) (by omega) (by omega) ?_; rintro _ atd sdd hatd1 hatd2 hsdd1 hsdd2 ⟨xd,rfl,hxd⟩) | (refine callX_drawL _ _ (c4) ⟨.inl rfl,.inl rfl,trivial⟩ rfl rfl (by decide) (by simp [dstB]) (by omega) (by omega) (by omega) ?_; rintro _ at1 sd1 hat1 hat2 hsd1 hsd2 ⟨x1,rfl,hx1⟩) | refine hE _ _ ret_ne ?_ | refine hE _ _ exit_ne ?_))<;>(try simp (disch:=first | omega | decide +kernel) only [q',curO,curB,D.bytes,go_sem,Qa,Qb,Qc,Qd,Qe,↓reduceIte,reduceCtorEq,Qf,Qg,Qh])<;>clear q') | refine hN _ ?_ ?_ Wk.kk | with_reducible refine And.intro ?_ ?_ | with_reducible omega | exact ok_ints | exact cells_ints | exact no_mem | with_reducible exact plain_ints | (refine le_maxLen ?_; omega) | (refine za9 ⟨?_,?_⟩) | (simp only [go_sem,Qc,Qb,zb1,zb2,forall_eq]; done)))
 all_goals (first | omega | (exact retR_draw rfl rfl rfl (by omega) (by omega) (by omega) (by omega) ⟨_,rfl,by omega⟩) | skip)
 refine Ok.loopN [30,29,28,27,26,25,24,23,22,21,20,19,18,17,16,15,14,13,12,11,10,9,8,7,6,5,3,1] (fun _ (w : ByteArray) => [(3,.d (.str w))]) (fun _ _ => []) (81 - xa.size) (fun i w => w.size=xa.size + i) xa rfl (Wk.kk) ?_
 rintro R i w hN hE hi hw
 simp (disch:=first | omega | decide +kernel) only [go_sem,Qa,Qb,Qc,Qd,Qe,↓reduceIte,reduceCtorEq,Qf,Qg,Qh]
 (repeat' (first | ((first | (refine gsel_split (fun q' => ?_) (fun q' => ?_)<;>(have h':=q')<;>(try simp only [za1,za2,Ba,Bb,za3,ne_eq,za4,za5,za6,Ia,Ib,Ic,Ie,Da,Bc,Bh,Be,za7,za8] at h')<;>try (exfalso; omega)) | (have q':=trivial; first | refine hE _ _ ret_ne ?_ | refine hE _ _ exit_ne ?_))<;>(try simp (disch:=first | omega | decide +kernel) only [q',z1,ByteArray.size_append,go_sem,Qa,Qb,Qc,Qd,Qe,↓reduceIte,reduceCtorEq,Qf,Qg,Qh])<;>clear q') | refine hN _ ?_ ?_ Wk.kk | with_reducible refine And.intro ?_ ?_ | with_reducible omega | exact ok_ints | exact cells_ints | exact no_mem | with_reducible exact plain_ints | (refine le_maxLen ?_; omega) | (refine za9 ⟨?_,?_⟩) | (simp only [go_sem,Qc,Qb,zb1,zb2,forall_eq]; done)))
 all_goals (first | omega | (refine hN (ByteArray.mk #[126]++w) _ (by omega) (by rw [ByteArray.size_append,z1]; omega) (by refine Wk.auto ?_ ?_<;>simp [extraK,lk,killL,St.kill,wipeO,wipeS,AV.has,AV.hasL,AO.wipe,List.map_set,updSt,insL,dropS,ins,])) | (exact retR_draw rfl rfl rfl (by omega) (by omega) (by omega) (by omega) ⟨_,rfl,by omega⟩))
end Abs.Y

namespace Abs.Y
open Go Go.Proofs Abs
set_option maxRecDepth 100000

theorem r_bytes {x : D} (h : isSl isU8 x) : ∃ code : List Int,x=D.bytes code∧∀ i,0<=code.getD i 0∧code.getD i 0 < 256:=by
 obtain ⟨es,rfl,_,hes⟩:=h
 have key : ∀ es : List D,(∀ e ∈ es,isU8 e)->∃ code : List Int,es=code.map (D.int .u8)∧∀ b ∈ code,0<=b∧b < 256:=by
  intro es
  induction es with
  | nil => exact fun _ => ⟨[],rfl,fun _ h => by cases h⟩
  | cons e r ih =>
    intro h
    obtain ⟨n,rfl,h1,h2⟩:=h e (by simp)
    obtain ⟨c,rfl,hc⟩:=ih fun x hx => h x (by simp [hx])
    exact ⟨n :: c,rfl,fun b hb => by
     rcases List.mem_cons.1 hb with rfl | hb
     . omega
     . exact hc b hb⟩
 obtain ⟨code,rfl,hc⟩:=key es hes
 refine ⟨code,rfl,fun i => ?_⟩
 by_cases hi : i < code.length
 . exact hc _ (getD_mem hi)
 . simp [List.getD_eq_getElem?_getD,List.getElem?_eq_none (show code.length<=i by omega)]
end Abs.Y

namespace Abs
open Go Go.Proofs
theorem callX_rels {P : Program} {N f cavs st dst K} {xs : List AV} {sh : Bool} {Q : AV->Prop} (hs : CtrR P f xs [] [] sh fun r oo => oo=[]∧Q r) (hp : passM P (delL [] st.o) (nth []) sh cavs xs) (hd : dstB N dst)
 (hK : ∀ r,Q r->K (impM st dst (nth []) [] r [])) : callX P N f cavs dst K st :=
 callX_rel [] [] [] hs hp trivial (by simp [namesI,keysO]) hd fun r oo ⟨e,hQ⟩ => by subst e; exact ⟨by simp [namesOK,keysO],hK r hQ⟩
end Abs
