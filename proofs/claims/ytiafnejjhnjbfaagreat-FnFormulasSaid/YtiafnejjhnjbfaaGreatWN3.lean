/- What functions of this program compute, over plain data. No condition. -/
import Derived.Test.YtiafnejjhnjbfaaGreatWN2
import Derived.Deep.WholeRow
set_option linter.all false
namespace Go.Proofs
open Go.RowKit Go.Lib
set_option maxRecDepth 100000
def onB (j : Nat) : UInt8:=[38,124,124,38,48,49,49,48].getD j 0
def tabR (r j : Nat) : Nat:=if 1<=r∧j=49 then 48 else if 2<=r∧j=48 then 49 else if 3<=r∧j=124 then 38 else if 4<=r∧j=38 then 124 else j
def filA (f : Nat->Option Nat) (wr : World) (a : Nat) : Prop:=∀ j,j < 256->∃ v,wr.cell? ⟨a,j,none⟩=some v∧wr.frozen? ⟨a,j,none⟩=false∧∀ n,f j=some n->v=.int .u8 n
theorem filA_set {f f' : Nat->Option Nat} {wr : World} {a k : Nat} {n : Nat} (h : filA f wr a) (hk : k < 256) (hn : f' k=some n) (hf : ∀ j,j ≠ k->f' j=f j) : filA f' (wr.setCell ⟨a,k,none⟩ (.int .u8 n)) a:=fun j hj => by
 obtain ⟨v,h1,h2,h3⟩:=h j hj
 by_cases e : j=k
 . subst e
   refine ⟨.int .u8 n,World.cell?_setCell_same _ _ _ h1,by rw [World.frozen?_setCell]; exact h2,fun m hm => ?_⟩
   rw [hn] at hm; cases hm; rfl
 . refine ⟨v,?_,by rw [World.frozen?_setCell]; exact h2,fun m hm => h3 m (by rw [← hf j e]; exact hm)⟩
   rw [World.cell?_setCell_other _ _ _ _ (by intro q; exact e (by have:=congrArg Addr.off q; simpa using this.symm))]
   exact h1
theorem Tryz.zc_size : Tryz.zeroCells110.size=256:=by kernel_rfl
theorem filA_zero (w : World) : filA (fun _ => none) (w.alloc (.cells Tryz.zeroCells110 110)) w.heap.size:=fun j hj => by
 have h:=heap_alloc_last w (.cells Tryz.zeroCells110 110)
 refine ⟨Tryz.zeroCells110[j]'(by rw [Tryz.zc_size]; exact hj),?_,?_,fun n hn => by cases hn⟩
 . rw [cell_of_row _ _ j _ _ (0,0) h,Array.getElem?_eq_getElem]
 . simp only [World.frozen?, h]; simp
def idT (k j : Nat) : Option Nat:=if j < k then some j else none
set_option maxHeartbeats 8000000 in
theorem Tryz.build_w (b g c : Nat) (w : World) (hr : w.cell? ⟨b,4,none⟩=some (.slice (some ⟨g,0,none⟩) 8 c)) (hb : b < w.heap.size) (hg : g < w.heap.size) (hs : ∀ j,j < 8->w.cell? ⟨g,j,none⟩=some (.string ⟨#[onB j]⟩)) :
 Calls Tryz.prog 60 #[.pointer (some ⟨b,0,none⟩)] w fun e w' => e=.returned (.iface 111 (.pointer (some ⟨w.heap.size,0,none⟩)))∧Below w.heap.size w w'∧w.heap.size < w'.heap.size∧filA (fun j => some (tabR 4 j)) w' w.heap.size:=by
 have hst : (storeCells ⟨w.heap.size,0,none⟩ Tryz.zeroCells110.toList 0).run Tryz.prog (w.alloc (.cells Tryz.zeroCells110 110))=.ok () (w.alloc (.cells Tryz.zeroCells110 110)):=run_storeCells_new w 110 _ _ (by kernel_rfl) rfl (by kernel_rfl)
 have hB1 : Below w.heap.size w (w.alloc (.cells Tryz.zeroCells110 110)):=(Below.refl _ w).alloc (Nat.le_refl _) _
 have hF1:=filA_zero w
 have hS1 : w.heap.size < (w.alloc (.cells Tryz.zeroCells110 110)).heap.size:=by simp
 go_enter Tryz.func60,Tryz.ntmps60
 go_wp2
 go_loop [4,5] (fun f i => ∃ k : Nat,k<=4∧i=.int .i64 ((2 * k : Nat) : Int)∧f=.bool true) (fun _ i => 8 - (RowKit.intOf i).toNat)
 case atStart => exact ⟨0,by omega,rfl,rfl⟩
 case round =>
  obtain ⟨k,hk,rfl,rfl⟩:=hrel
  by_cases hlt : k < 4
  . have h1:=hs (2 * k) (by omega)
    have h2:=hs (2 * k + 1) (by omega)
    have z1 : (ByteArray.mk #[onB (2 * k)]).size=1:=rfl
    have z2 : (ByteArray.mk #[onB (2 * k + 1)]).size=1:=rfl
    go_wp2
    exact ⟨⟨k + 1,by omega,by go_num,rfl⟩,by simp [RowKit.intOf]; omega⟩
  . obtain rfl : k=4:=by omega
    go_wp2
    trace_state
    go_loopw [61,7] (fun v _ wr => ∃ k : Nat,k<=256∧v=.int .i64 k∧Below w.heap.size w wr∧w.heap.size < wr.heap.size∧filA (idT k) wr w.heap.size) (fun v _ _ => 256 - (RowKit.intOf v).toNat)
    case atStart => exact ⟨0,by omega,rfl,hB1,hS1,fun j hj => (hF1 j hj).imp fun v h => ⟨h.1,h.2.1,fun n hn => by simp [idT] at hn⟩⟩
    case round =>
     obtain ⟨k,hk,rfl,hnx,hsz,hfil⟩:=hrel
     by_cases hlt : k < 256
     . obtain ⟨v0,hck,hfk,_⟩:=hfil k hlt
       have hlt' : (k : Int) < 256:=by omega
       have hset : Hid (filA (idT (k + 1)) (wr.setCell ⟨w.heap.size,k,none⟩ (.int .u8 (k : Nat))) w.heap.size):=filA_set (f:=idT k) hfil hlt (by simp [idT]) (fun j hj => by
        unfold idT
        by_cases h : j < k
        . rw [if_pos h,if_pos (by omega)]
        . rw [if_neg h,if_neg (by omega)])
       have hB2 : Hid (Below w.heap.size w (wr.setCell ⟨w.heap.size,k,none⟩ (.int .u8 (k : Nat)))):=hnx.setCell (Nat.le_refl _) _
       have hs2 : Hid (w.heap.size < (wr.setCell ⟨w.heap.size,k,none⟩ (.int .u8 (k : Nat))).heap.size):=by
        show _ < _
        simpa [World.setCell] using hsz
       clear hfil
       go_wp2
       go_roundw
       case rel => exact ⟨k + 1,by omega,by go_num,hB2.out,hs2.out,hset.out⟩
       case measure => simp [RowKit.intOf]; omega
     . obtain rfl : k=256:=by omega
       have hf0 : filA (fun j => some (tabR 0 j)) wr w.heap.size:=fun j hj => (hfil j hj).imp fun v h => ⟨h.1,h.2.1,fun n hn => h.2.2 n (by
        have : tabR 0 j=j:=by simp [tabR]
        dsimp only at hn
        rw [this] at hn
        rw [idT,if_pos hj]; exact hn)⟩
       obtain ⟨wp,hwp⟩ : ∃ wp,wp=wr:=⟨_,rfl⟩
       subst hwp
       go_wp2
       go_loopw [8] (fun v wr => ∃ r : Nat,r<=4∧v=.int .i64 (6 - 2 * (r : Int))∧Below w.heap.size w wr∧w.heap.size < wr.heap.size∧filA (fun j => some (tabR r j)) wr w.heap.size) (fun v _ => (RowKit.intOf v + 2).toNat)
       case atStart => exact ⟨0,by omega,rfl,hnx,hsz,hf0⟩
       case round =>
        obtain ⟨wq,hwq⟩ : ∃ wq,wq=wr:=⟨_,rfl⟩
        subst hwq
        clear hfil hf0 hnx hsz
        obtain ⟨r,hr4,rfl,hnq,hsq,hfq⟩:=hrel
        obtain rfl | rfl | rfl | rfl | rfl : r=0∨r=1∨r=2∨r=3∨r=4:=by omega
        . have h1 : wq.cell? ⟨g,6,none⟩=some (.string ⟨#[49]⟩):=(hnq.cell hg).trans (hs 6 (by decide))
          have h2 : wq.cell? ⟨g,7,none⟩=some (.string ⟨#[48]⟩):=(hnq.cell hg).trans (hs 7 (by decide))
          obtain ⟨v0,hck,hfk,_⟩:=hfq 49 (by decide)
          have hset : Hid (filA (fun j => some (tabR 1 j)) (wq.setCell ⟨w.heap.size,49,none⟩ (.int .u8 ((48 : Nat) : Int))) w.heap.size):=filA_set hfq (by decide) rfl (fun j hj => by
           have hj : j ≠ 49:=hj
           simp [tabR,hj])
          have hB2 : Hid (Below w.heap.size w (wq.setCell ⟨w.heap.size,49,none⟩ (.int .u8 ((48 : Nat) : Int)))):=hnq.setCell (Nat.le_refl _) _
          have hs2 : Hid (w.heap.size < (wq.setCell ⟨w.heap.size,49,none⟩ (.int .u8 ((48 : Nat) : Int))).heap.size):=by
           show _ < _
           simpa [World.setCell] using hsq
          have o1 : ((49 : UInt8).toNat : Int)=49:=rfl
          have n1 : ((48 : UInt8).toNat : Int)=48:=rfl
          have o2 : ((49 : UInt8).toNat)=49:=rfl
          have z1 : (ByteArray.mk #[(49 : UInt8)]).size=1:=rfl
          have z2 : (ByteArray.mk #[(48 : UInt8)]).size=1:=rfl
          have i1 : ∀ h,(ByteArray.mk #[(49 : UInt8)])[0]'h=49:=fun _ => rfl
          have i2 : ∀ h,(ByteArray.mk #[(48 : UInt8)])[0]'h=48:=fun _ => rfl
          have n2 : ((48 : UInt8).toNat)=48:=rfl
          clear hfq
          go_wp2
          go_roundw
          case rel => exact ⟨1,by decide,by go_num,hB2.out,hs2.out,hset.out⟩
          case measure => simp [RowKit.intOf]
        . have h1 : wq.cell? ⟨g,4,none⟩=some (.string ⟨#[48]⟩):=(hnq.cell hg).trans (hs 4 (by decide))
          have h2 : wq.cell? ⟨g,5,none⟩=some (.string ⟨#[49]⟩):=(hnq.cell hg).trans (hs 5 (by decide))
          obtain ⟨v0,hck,hfk,_⟩:=hfq 48 (by decide)
          have hset : Hid (filA (fun j => some (tabR 2 j)) (wq.setCell ⟨w.heap.size,48,none⟩ (.int .u8 ((49 : Nat) : Int))) w.heap.size):=filA_set hfq (by decide) rfl (fun j hj => by
           have hj : j ≠ 48:=hj
           simp [tabR,hj])
          have hB2 : Hid (Below w.heap.size w (wq.setCell ⟨w.heap.size,48,none⟩ (.int .u8 ((49 : Nat) : Int)))):=hnq.setCell (Nat.le_refl _) _
          have hs2 : Hid (w.heap.size < (wq.setCell ⟨w.heap.size,48,none⟩ (.int .u8 ((49 : Nat) : Int))).heap.size):=by
           show _ < _
           simpa [World.setCell] using hsq
          have o1 : ((48 : UInt8).toNat : Int)=48:=rfl
          have n1 : ((49 : UInt8).toNat : Int)=49:=rfl
          have o2 : ((48 : UInt8).toNat)=48:=rfl
          have z1 : (ByteArray.mk #[(48 : UInt8)]).size=1:=rfl
          have z2 : (ByteArray.mk #[(49 : UInt8)]).size=1:=rfl
          have i1 : ∀ h,(ByteArray.mk #[(48 : UInt8)])[0]'h=48:=fun _ => rfl
          have i2 : ∀ h,(ByteArray.mk #[(49 : UInt8)])[0]'h=49:=fun _ => rfl
          have n2 : ((49 : UInt8).toNat)=49:=rfl
          clear hfq
          go_wp2
          go_roundw
          case rel => exact ⟨2,by decide,by go_num,hB2.out,hs2.out,hset.out⟩
          case measure => simp [RowKit.intOf]
        . have h1 : wq.cell? ⟨g,2,none⟩=some (.string ⟨#[124]⟩):=(hnq.cell hg).trans (hs 2 (by decide))
          have h2 : wq.cell? ⟨g,3,none⟩=some (.string ⟨#[38]⟩):=(hnq.cell hg).trans (hs 3 (by decide))
          obtain ⟨v0,hck,hfk,_⟩:=hfq 124 (by decide)
          have hset : Hid (filA (fun j => some (tabR 3 j)) (wq.setCell ⟨w.heap.size,124,none⟩ (.int .u8 ((38 : Nat) : Int))) w.heap.size):=filA_set hfq (by decide) rfl (fun j hj => by
           have hj : j ≠ 124:=hj
           simp [tabR,hj])
          have hB2 : Hid (Below w.heap.size w (wq.setCell ⟨w.heap.size,124,none⟩ (.int .u8 ((38 : Nat) : Int)))):=hnq.setCell (Nat.le_refl _) _
          have hs2 : Hid (w.heap.size < (wq.setCell ⟨w.heap.size,124,none⟩ (.int .u8 ((38 : Nat) : Int))).heap.size):=by
           show _ < _
           simpa [World.setCell] using hsq
          have o1 : ((124 : UInt8).toNat : Int)=124:=rfl
          have n1 : ((38 : UInt8).toNat : Int)=38:=rfl
          have o2 : ((124 : UInt8).toNat)=124:=rfl
          have z1 : (ByteArray.mk #[(124 : UInt8)]).size=1:=rfl
          have z2 : (ByteArray.mk #[(38 : UInt8)]).size=1:=rfl
          have i1 : ∀ h,(ByteArray.mk #[(124 : UInt8)])[0]'h=124:=fun _ => rfl
          have i2 : ∀ h,(ByteArray.mk #[(38 : UInt8)])[0]'h=38:=fun _ => rfl
          have n2 : ((38 : UInt8).toNat)=38:=rfl
          clear hfq
          go_wp2
          go_roundw
          case rel => exact ⟨3,by decide,by go_num,hB2.out,hs2.out,hset.out⟩
          case measure => simp [RowKit.intOf]
        . have h1 : wq.cell? ⟨g,0,none⟩=some (.string ⟨#[38]⟩):=(hnq.cell hg).trans (hs 0 (by decide))
          have h2 : wq.cell? ⟨g,1,none⟩=some (.string ⟨#[124]⟩):=(hnq.cell hg).trans (hs 1 (by decide))
          obtain ⟨v0,hck,hfk,_⟩:=hfq 38 (by decide)
          have hset : Hid (filA (fun j => some (tabR 4 j)) (wq.setCell ⟨w.heap.size,38,none⟩ (.int .u8 ((124 : Nat) : Int))) w.heap.size):=filA_set hfq (by decide) rfl (fun j hj => by
           have hj : j ≠ 38:=hj
           simp [tabR,hj])
          have hB2 : Hid (Below w.heap.size w (wq.setCell ⟨w.heap.size,38,none⟩ (.int .u8 ((124 : Nat) : Int)))):=hnq.setCell (Nat.le_refl _) _
          have hs2 : Hid (w.heap.size < (wq.setCell ⟨w.heap.size,38,none⟩ (.int .u8 ((124 : Nat) : Int))).heap.size):=by
           show _ < _
           simpa [World.setCell] using hsq
          have o1 : ((38 : UInt8).toNat : Int)=38:=rfl
          have n1 : ((124 : UInt8).toNat : Int)=124:=rfl
          have o2 : ((38 : UInt8).toNat)=38:=rfl
          have z1 : (ByteArray.mk #[(38 : UInt8)]).size=1:=rfl
          have z2 : (ByteArray.mk #[(124 : UInt8)]).size=1:=rfl
          have i1 : ∀ h,(ByteArray.mk #[(38 : UInt8)])[0]'h=38:=fun _ => rfl
          have i2 : ∀ h,(ByteArray.mk #[(124 : UInt8)])[0]'h=124:=fun _ => rfl
          have n2 : ((124 : UInt8).toNat)=124:=rfl
          clear hfq
          go_wp2
          go_roundw
          case rel => exact ⟨4,by decide,by go_num,hB2.out,hs2.out,hset.out⟩
          case measure => simp [RowKit.intOf]
        . go_wp2
          go_ret
          exact ⟨rfl,hnq,hsq,hfq⟩
end Go.Proofs
