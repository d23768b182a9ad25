/- What functions of this program compute, over plain data. No condition. -/
import Derived.Test.YtiafnejjhnjbfaaGreatWN3
set_option linter.all false
namespace Go.Proofs
open Go.RowKit Go.Lib
set_option maxRecDepth 100000
theorem filA_other {f : Nat->Option Nat} {w : World} {a : Nat} {p : Addr} (h : filA f w a) (hp : p.block ≠ a) (v : Value) : filA f (w.setCell p v) a:=fun j hj => by
 obtain ⟨x,h1,h2,h3⟩:=h j hj
 refine ⟨x,?_,by rw [World.frozen?_setCell]; exact h2,h3⟩
 rw [World.cell?_setCell_other _ _ _ _ (by intro q; exact hp (by rw [q]))]
 exact h1
structure RepA (w : World) (b g c : Nat) : Prop where
 hb : b < w.heap.size
 hg : g < w.heap.size
 c0 : w.cell? ⟨b,0,none⟩=some (.int .u32 0)
 c1 : w.cell? ⟨b,1,none⟩=some (.int .i32 0)
 c3 : w.cell? ⟨b,3,none⟩=some .nilIface
 c4 : w.cell? ⟨b,4,none⟩=some (.slice (some ⟨g,0,none⟩) 8 c)
 f : ∀ j,w.frozen? ⟨b,j,none⟩=false
 hs : ∀ j,j < 8->w.cell? ⟨g,j,none⟩=some (.string ⟨#[onB j]⟩)
 ne : g ≠ b
set_option maxHeartbeats 4000000 in
theorem Tryz.once_w (b g c : Nat) (w : World) (hb : b < w.heap.size) (hg : g < w.heap.size) (c3 : w.cell? ⟨b,3,none⟩=some .nilIface) (c4 : w.cell? ⟨b,4,none⟩=some (.slice (some ⟨g,0,none⟩) 8 c)) (f : ∀ j,w.frozen? ⟨b,j,none⟩=false) (hs : ∀ j,j < 8->w.cell? ⟨g,j,none⟩=some (.string ⟨#[onB j]⟩)) :
 Calls Tryz.prog 51 #[.pointer (some ⟨b,0,none⟩)] w fun e w' => e=.returned (.tuple #[])∧Below b w w'∧w'.cell? ⟨b,3,none⟩=some (.iface 111 (.pointer (some ⟨w.heap.size,0,none⟩))) ∧
  (∀ j,j < 3->w'.cell? ⟨b,j,none⟩=w.cell? ⟨b,j,none⟩∧w'.frozen? ⟨b,j,none⟩=false)∧w.heap.size < w'.heap.size∧filA (fun j => some (tabR 4 j)) w' w.heap.size:=by
 have cc:=Tryz.build_w b g c w c4 hb hg hs
 go_enter Tryz.func51,Tryz.ntmps51
 go_wp2_with (go_at_call 60; refine cc.mono ?_; rintro e w1 ⟨rfl,hB,hsz,hf⟩; have d3:=(hB.cell (p:=⟨b,3,none⟩) hb).trans c3; have d4:=(hB.cell (p:=⟨b,4,none⟩) hb).trans c4; have e3:=(hB.frozen (p:=⟨b,3,none⟩) hb).trans (f 3); have e4:=(hB.frozen (p:=⟨b,4,none⟩) hb).trans (f 4))
 go_wp2
 go_end0
 have hne : ∀ j,j < 3->∀ k,3<=k->(⟨b,k,none⟩ : Addr) ≠ ⟨b,j,none⟩:=fun j hj k hk q => by have:=congrArg Addr.off q; simp at this; omega
 refine ⟨rfl,((hB.mono (Nat.le_of_lt hb)).setCell (Nat.le_refl _) _).setCell (Nat.le_refl _) _,?_,fun j hj => ⟨?_,?_⟩,?_,?_⟩
 . rw [World.cell?_setCell_other _ _ _ _ (by simp),World.cell?_setCell_same _ _ _ d3]
 . rw [World.cell?_setCell_other _ _ _ _ (hne j hj 4 (by omega)),World.cell?_setCell_other _ _ _ _ (hne j hj 3 (by omega))]
   exact hB.cell (p:=⟨b,j,none⟩) hb
 . rw [World.frozen?_setCell,World.frozen?_setCell]
   exact (hB.frozen (p:=⟨b,j,none⟩) hb).trans (f j)
 . simpa [World.setCell] using hsz
 . exact filA_other (filA_other hf (by simp; omega) _) (by simp; omega) _
set_option maxHeartbeats 4000000 in
theorem Tryz.slow_w (b g c : Nat) (w : World) (h : RepA w b g c) :
 Calls Tryz.prog 59 #[.pointer (some ⟨b,0,none⟩),.func (.func 51) #[.pointer (some ⟨b,0,none⟩)] #[]] w fun e w' => e=.returned (.tuple #[])∧Below b w w'∧∃ a,a ≠ b∧w'.cell? ⟨b,3,none⟩=some (.iface 111 (.pointer (some ⟨a,0,none⟩)))∧a < w'.heap.size∧filA (fun j => some (tabR 4 j)) w' a:=by
 obtain ⟨hb,hg,c0,c1,c3,c4,f,hs,ne⟩:=h
 have q : ∀ i k : Nat,i ≠ k->(⟨b,i,none⟩ : Addr) ≠ ⟨b,k,none⟩:=fun i k h e => h (by have:=congrArg Addr.off e; simpa using this)
 have hl:=run_call_load (P:=Tryz.prog) Tryz.func68 (by kernel_rfl) (by kernel_rfl) (by kernel_rfl) .u32 (by kernel_rfl) (w:=w.setCell ⟨b,1,none⟩ (.int .i32 1)) (a:=⟨b,0,none⟩) (x:=0) ((World.cell?_setCell_other _ ⟨b,1,none⟩ ⟨b,0,none⟩ _ (q 1 0 (by omega))).trans c0)
 have cc:=Tryz.once_w b g c (w.setCell ⟨b,1,none⟩ (.int .i32 1)) (by simpa [World.setCell] using hb) (by simpa [World.setCell] using hg) ((World.cell?_setCell_other _ _ _ _ (q 1 3 (by omega))).trans c3) ((World.cell?_setCell_other _ _ _ _ (q 1 4 (by omega))).trans c4) (fun j => by rw [World.frozen?_setCell]; exact f j) (fun j hj => (World.cell?_setCell_other _ _ _ _ (fun e => ne (by have:=congrArg Addr.block e; simpa using this.symm))).trans (hs j hj))
 have hnot : ∀ (x : Bool) (w : World),(Op.unary .not (.bool x)).run Tryz.prog w=.ok (.bool (!x)) w:=fun _ _ => rfl
 have hlk:=Tryz.lock_free ⟨b,1,none⟩ w c1 (f 1)
 go_enter_defers Tryz.func59,Tryz.ntmps59
 go_wp2_with (go_at_call 69; refine hlk.mono ?_; rintro e w' ⟨rfl,rfl⟩)
 go_wp2_with (first | (go_at_call 51; refine cc.mono ?_; rintro e w1 ⟨rfl,hB,d3,hk,hsz,hf⟩) | (go_at_call 58; go_in))
 have k0:=hk 0 (by omega)
 have k1:=hk 1 (by omega)
 have m0 : w1.cell? ⟨b,0,none⟩=some (.int .u32 0):=k0.1.trans ((World.cell?_setCell_other _ _ _ _ (q 1 0 (by omega))).trans c0)
 have m1 : w1.cell? ⟨b,1,none⟩=some (.int .i32 1):=k1.1.trans (World.cell?_setCell_same _ _ _ c1)
 have hBw : Below b w w1:=((Below.refl b w).setCell (p:=⟨b,1,none⟩) (Nat.le_refl _) _).trans hB
 refine leaves_cons (f:=71) (args:=#[.pointer (some ⟨b,0,none⟩),.bool true]) (by simp) (by simp [go_sem]) ?_
 refine (Tryz.store_deferred ⟨b,0,none⟩ (.int .u32 0) .returning _ m0 k0.2).mono ?_
 rintro e u' w'' ⟨rfl,rfl,rfl⟩
 refine leaves_cons (f:=70) (args:=#[.pointer (some ⟨b,1,none⟩)]) (by simp [settle]) (by simp [go_sem]) ?_
 refine (Tryz.unlock_deferred ⟨b,1,none⟩ _ _ ?_ ?_).mono ?_
 . rw [World.cell?_setCell_other _ _ _ _ (q 0 1 (by omega)),World.cell?_drew]; exact m1
 . rw [World.frozen?_setCell]; exact k1.2
 rintro e u' w'' ⟨rfl,rfl,rfl⟩
 have hfin : Below b w ((w1.drew.setCell ⟨b,0,none⟩ (.int .u32 1)).setCell ⟨b,1,none⟩ (.int .i32 0))∧∃ a,a ≠ b∧((w1.drew.setCell ⟨b,0,none⟩ (.int .u32 1)).setCell ⟨b,1,none⟩ (.int .i32 0)).cell? ⟨b,3,none⟩=some (.iface 111 (.pointer (some ⟨a,0,none⟩)))∧a < ((w1.drew.setCell ⟨b,0,none⟩ (.int .u32 1)).setCell ⟨b,1,none⟩ (.int .i32 0)).heap.size∧filA (fun j => some (tabR 4 j)) ((w1.drew.setCell ⟨b,0,none⟩ (.int .u32 1)).setCell ⟨b,1,none⟩ (.int .i32 0)) a:=by
  have hsz0 : (w.setCell ⟨b,1,none⟩ (.int .i32 1)).heap.size=w.heap.size:=by simp [World.setCell]
  rw [hsz0] at d3 hsz hf
  refine ⟨(hBw.drew.setCell (p:=⟨b,0,none⟩) (Nat.le_refl _) _).setCell (p:=⟨b,1,none⟩) (Nat.le_refl _) _,w.heap.size,by omega,?_,?_,?_⟩
  . rw [World.cell?_setCell_other _ _ _ _ (q 1 3 (by omega)),World.cell?_setCell_other _ _ _ _ (q 0 3 (by omega)),World.cell?_drew]; exact d3
  . show _ < _
    simpa [World.setCell] using hsz
  . refine filA_other (filA_other (w:=w1.drew) (fun j hj => ?_) (by simp; omega) _) (by simp; omega) _
    obtain ⟨v,h1,h2,h3⟩:=hf j hj
    exact ⟨v,by rw [World.cell?_drew]; exact h1,h2,h3⟩
 generalize (w1.drew.setCell ⟨b,0,none⟩ (.int .u32 1)).setCell ⟨b,1,none⟩ (.int .i32 0)=W at *
 simp [Leaves,settle,results,Tryz.results59]
 exact hfin
set_option maxHeartbeats 4000000 in
theorem Tryz.do_w (b g c : Nat) (w : World) (h : RepA w b g c) :
 Calls Tryz.prog 50 #[.pointer (some ⟨b,0,none⟩),.func (.func 51) #[.pointer (some ⟨b,0,none⟩)] #[]] w fun e w' => e=.returned (.tuple #[])∧Below b w w'∧∃ a,a ≠ b∧w'.cell? ⟨b,3,none⟩=some (.iface 111 (.pointer (some ⟨a,0,none⟩)))∧a < w'.heap.size∧filA (fun j => some (tabR 4 j)) w' a:=by
 have hl:=run_call_load (P:=Tryz.prog) Tryz.func68 (by kernel_rfl) (by kernel_rfl) (by kernel_rfl) .u32 (by kernel_rfl) h.c0
 have hnot : ∀ (x : Bool) (w : World),(Op.unary .not (.bool x)).run Tryz.prog w=.ok (.bool (!x)) w:=fun _ _ => rfl
 have cc:=Tryz.slow_w b g c w h
 go_enter Tryz.func50,Tryz.ntmps50
 go_wp2_with (first | (go_at_call 59; refine cc.mono ?_; rintro e w' ⟨rfl,hB,hA⟩) | (go_at_call 58; go_in))
 go_end0
 exact ⟨rfl,hB,hA⟩
def bswp (c : UInt8) : UInt8:=if c=38 then 124 else if c=124 then 38 else if c=48 then 49 else if c=49 then 48 else c
theorem bswp_tab (c : UInt8) : tabR 4 c.toNat=(bswp c).toNat:=by
 have h : ∀ n,n < 256->tabR 4 n=(bswp (UInt8.ofNat n)).toNat:=by decide +kernel
 have:=h c.toNat c.toNat_lt
 rwa [UInt8.ofNat_toNat] at this
set_option maxHeartbeats 4000000 in
theorem Tryz.replace_w (b g c : Nat) (s : ByteArray) (w : World) (h : RepA w b g c) (hs : s.size<=1000) :
 Calls Tryz.prog 31 #[.pointer (some ⟨b,0,none⟩),.string s] w fun e w' => e=.returned (.string ⟨(s.data.toList.map bswp).toArray⟩)∧Below b w w':=by
 have cc:=Tryz.do_w b g c w h
 have hm : ∀ (a : Nat) (w : World), (method 282 111 (.pointer (some ⟨a, 0, none⟩)) "Replace").run Tryz.prog w = .ok (131, .pointer (some ⟨a, 0, none⟩)) w := fun _ _ => by kernel_rfl
 have hmf : ∀ (fn : Fn) (first cap : Array Value) (w : World),(Instr.makeFunc fn first cap).run Tryz.prog w=.ok (.func fn first cap) w:=fun _ _ _ _ => rfl
 go_enter Tryz.func31,Tryz.ntmps31
 go_wp2_with (go_at_call 50; refine cc.mono ?_; rintro e w1 ⟨rfl,hB,a,hne,d3,hsz,hf⟩; have hT : ∀ c : UInt8,w1.cell? ⟨a,c.toNat,none⟩=some (.int .u8 (bswp c).toNat):=fun c => by { obtain ⟨v,h1,h2,h3⟩:=hf c.toNat c.toNat_lt; rw [h1,h3 _ rfl,bswp_tab] })
 have hm1:=hm a w1
 have hBs:=hB.size
 clear hm
 go_wp2_with (go_at_call 131; refine (Tryz.brep_w a s bswp w1 hT hsz hs).mono ?_; rintro e w2 ⟨rfl,hB2⟩)
 go_ret
 exact ⟨rfl,hB.trans (hB2.mono (Nat.le_trans (Nat.le_of_lt h.hb) hBs))⟩
end Go.Proofs
