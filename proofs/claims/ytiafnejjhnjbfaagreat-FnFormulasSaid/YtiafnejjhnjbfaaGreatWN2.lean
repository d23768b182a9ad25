/- What functions of this program compute, over plain data. No condition. -/
import Derived.Test.YtiafnejjhnjbfaaGreatWN1
import Derived.Below
import Derived.LoopTactic
import Derived.Lib.ConvBytes
import Derived.Laws.IdiomStrings
import Derived.Lib.Walk
set_option linter.all false
namespace Go.Proofs
open Go.RowKit Go.Lib
set_option maxRecDepth 100000
theorem bw_below (B : Nat) (w : World) (e : TypeId) (s : ByteArray) (h : B<=w.heap.size) : Below B w (Lib.bytesWorld w e s):=⟨rfl,rfl,rfl,by rw [Lib.bytesWorld_size]; omega,fun j hj => Lib.bytesWorld_at_old w e s j (by omega)⟩
theorem bw_frozen (w : World) (e : TypeId) (s : ByteArray) (j : Nat) (hj : j < s.size) : (Lib.bytesWorld w e s).frozen? ⟨w.heap.size,j,none⟩=false:=by
 have h2 : s.size<=(Lib.bytesCells w e s).size:=by simp [Lib.bytesCells]
 simp only [World.frozen?, Lib.bytesWorld_at_new]
 simp; omega
def bufA (T : UInt8->UInt8) (s : ByteArray) (k : Nat) (wr : World) (g : Nat) : Prop:=∀ j,j < s.size->wr.cell? ⟨g,j,none⟩=some (.int .u8 ((if j < k then T (s.data.toList.getD j 0) else s.data.toList.getD j 0) : UInt8).toNat)∧wr.frozen? ⟨g,j,none⟩=false
theorem bufA_new {T : UInt8->UInt8} {s : ByteArray} {k : Nat} {wr : World} {e : TypeId} (h : ∀ j,j < k->T (s.data.toList.getD j 0)=s.data.toList.getD j 0) : bufA T s k (Lib.bytesWorld wr e s) wr.heap.size:=fun j hj => by
 refine ⟨?_,bw_frozen wr e s j hj⟩
 rw [Lib.bytesWorld_cell wr e s j hj]
 split
 . rename_i h1; rw [h j h1]
 . rfl
theorem bufA_set {T : UInt8->UInt8} {s : ByteArray} {k : Nat} {wr : World} {g : Nat} (h : bufA T s k wr g) (hk : k < s.size) : bufA T s (k + 1) (wr.setCell ⟨g,k,none⟩ (.int .u8 (T (s.data.toList.getD k 0)).toNat)) g:=fun j hj => by
 by_cases e : j=k
 . subst e
   refine ⟨?_,?_⟩
   . rw [if_pos (by omega),World.cell?_setCell_same _ _ _ (h j hj).1]
   . rw [World.frozen?_setCell]; exact (h j hj).2
 . refine ⟨?_,?_⟩
   . rw [World.cell?_setCell_other _ _ _ _ (by intro q; exact e (by have:=congrArg Addr.off q; simpa using this.symm))]
     rw [(h j hj).1]
     by_cases h1 : j < k
     . rw [if_pos h1,if_pos (by omega)]
     . rw [if_neg h1,if_neg (by omega)]
   . rw [World.frozen?_setCell]; exact (h j hj).2
theorem bufA_same {T : UInt8->UInt8} {s : ByteArray} {k : Nat} {wr : World} {g : Nat} (h : bufA T s k wr g) (hk : T (s.data.toList.getD k 0)=s.data.toList.getD k 0) : bufA T s (k + 1) wr g:=fun j hj => by
 refine ⟨?_,(h j hj).2⟩
 rw [(h j hj).1]
 by_cases h1 : j < k
 . rw [if_pos h1,if_pos (by omega)]
 . rw [if_neg h1]
   by_cases e : j=k
   . subst e; rw [if_pos (by omega),hk]
   . rw [if_neg (by omega)]
theorem bufA_all {T : UInt8->UInt8} {s : ByteArray} {wr : World} {g : Nat} (h : bufA T s s.size wr g) : ∀ (j : Nat) (hj : j < (s.data.toList.map T).length),wr.cell? ((⟨g,0,none⟩ : Addr).add j)=some (.int .u8 ((s.data.toList.map T)[j].toNat : Int)):=fun j hj => by
 have hj' : j < s.size:=by simpa using hj
 rw [Addr.add_lit,Nat.zero_add,(h j hj').1,if_pos hj']
 congr 2
 simp [List.getD_eq_getElem?_getD,hj']
theorem same_all {T : UInt8->UInt8} {s : ByteArray} (h : ∀ j,j < s.size->T (s.data.toList.getD j 0)=s.data.toList.getD j 0) : (⟨(s.data.toList.map T).toArray⟩ : ByteArray)=s:=by
 have : s.data.toList.map T=s.data.toList:=by
  apply List.ext_getElem (by simp)
  intro i h1 h2
  have:=h i (by simpa using h2)
  simp only [List.getD_eq_getElem?_getD,List.getElem?_eq_getElem h2,Option.getD_some] at this
  simpa using this
 rw [this]
set_option maxHeartbeats 4000000 in
theorem Tryz.brep_w (a : Nat) (s : ByteArray) (T : UInt8->UInt8) (w : World) (hT : ∀ c : UInt8,w.cell? ⟨a,c.toNat,none⟩=some (.int .u8 (T c).toNat)) (ha : a < w.heap.size) (hs : s.size<=1000) :
 Calls Tryz.prog 131 #[.pointer (some ⟨a,0,none⟩),.string s] w fun e w' => e=.returned (.string ⟨(s.data.toList.map T).toArray⟩)∧Below w.heap.size w w':=by
 have hn1 : ∀ w : World,(binOp .eql 22 (.slice none 0 0) (.slice none 0 0)).run Tryz.prog w=.ok (.bool true) w:=fun _ => rfl
 have hn2 : ∀ (g l c : Nat) (w : World),(binOp .eql 22 (.slice (some ⟨g,0,none⟩) l c) (.slice none 0 0)).run Tryz.prog w=.ok (.bool false) w:=fun _ _ _ _ => rfl
 go_enter Tryz.func131,Tryz.ntmps131
 go_wp2
 go_loopw [5,6] (fun buf i wr => ∃ k : Nat,k<=s.size∧i=.int .i64 k∧Below w.heap.size w wr ∧
  ((buf = .slice none 0 0 ∧ ∀ j, j < k -> T (s.data.toList.getD j 0) = s.data.toList.getD j 0) ∨
   ∃ g c,buf=.slice (some ⟨g,0,none⟩) s.size c∧w.heap.size<=g∧bufA T s k wr g))
  (fun _ i _ => s.size - (RowKit.intOf i).toNat)
 case atStart => exact ⟨0,Nat.zero_le _,rfl,Below.refl _ _,.inl ⟨rfl,fun j hj => by omega⟩⟩
 case round =>
  obtain ⟨k,hk,rfl,hnx,hbuf⟩:=hrel
  have hsz:=hnx.size
  by_cases hlt : k < s.size
  . have hcx : wr.cell? ⟨a,(s[k]'hlt).toNat,none⟩=some (.int .u8 (T (s[k]'hlt)).toNat):=(hnx.cell ha).trans (hT _)
    have h256 : (s[k]'hlt).toNat < 256:=UInt8.toNat_lt _
    have h256' : ((s[k]'hlt).toNat : Int) < 256:=by omega
    have hx : Hid (s.data.toList.getD k 0=s[k]'hlt):=by
     show s.data.toList.getD k 0=s[k]'hlt
     simp [List.getD_eq_getElem?_getD,hlt]; rfl
    by_cases hne : T (s[k]'hlt)=s[k]'hlt
    . have hne1 : (((T (s[k]'hlt)).toNat : Int) != ((s[k]'hlt).toNat : Int))=false:=by rw [hne]; simp
      have hne2 : Hid (T (s[k]'hlt)=s[k]'hlt):=hne
      clear hne
      rcases hbuf with ⟨rfl,hsame⟩ | ⟨g,c,rfl,hg,hcells⟩
      . have hsame : Hid (∀ j,j < k->T (s.data.toList.getD j 0)=s.data.toList.getD j 0):=hsame
        go_wp2
        go_roundw
        case rel => exact ⟨k + 1,hlt,by go_num,hnx,.inl ⟨rfl,fun j hj => by
         rcases Nat.lt_or_ge j k with h | h
         . exact hsame.out j h
         . obtain rfl : j=k:=by omega
           rw [hx.out]; exact hne2.out⟩⟩
        case measure => simp [RowKit.intOf]; omega
      . have hcells : Hid (bufA T s k wr g):=hcells
        go_wp2
        go_roundw
        case rel => exact ⟨k + 1,hlt,by go_num,hnx,.inr ⟨g,c,rfl,hg,bufA_same hcells.out (by rw [hx.out]; exact hne2.out)⟩⟩
        case measure => simp [RowKit.intOf]; omega
    . have hne1 : (((T (s[k]'hlt)).toNat : Int) != ((s[k]'hlt).toNat : Int))=true:=by
       rw [bne_iff_ne]
       intro q
       exact hne (UInt8.toNat_inj.1 (by omega))
      clear hne
      rcases hbuf with ⟨rfl,hsame⟩ | ⟨g,c,rfl,hg,hcells⟩
      . have hcv:=Lib.run_convert_string_bytes (P:=Tryz.prog) wr 9 22 5 s Tryz.underlying9 Tryz.underlying22 Tryz.underlying5
        have hB:=(bw_below w.heap.size wr 5 s hsz)
        have hcells:=bufA_new (T:=T) (e:=5) (wr:=wr) hsame
        have hcx1 : (Lib.bytesWorld wr 5 s).cell? ⟨a,(s[k]'hlt).toNat,none⟩=some (.int .u8 (T (s[k]'hlt)).toNat):=(hB.cell ha).trans hcx
        have hc1:=(hcells k hlt).1
        have hf1:=(hcells k hlt).2
        have hset:=bufA_set hcells hlt
        have hset : Hid (bufA T s (k + 1) ((Lib.bytesWorld wr 5 s).setCell ⟨wr.heap.size,k,none⟩ (.int .u8 (T (s[k]'hlt)).toNat)) wr.heap.size):=by
         rw [hx.out] at hset; exact hset
        have hB2 : Hid (Below w.heap.size w ((Lib.bytesWorld wr 5 s).setCell ⟨wr.heap.size,k,none⟩ (.int .u8 (T (s[k]'hlt)).toNat))):=(hnx.trans hB).setCell hsz _
        rw [hx.out,if_neg (Nat.lt_irrefl k)] at hc1
        clear hcells hsame hB
        generalize Lib.bytesWorld wr 5 s=W1 at *
        go_wp2
        go_roundw
        case rel => exact ⟨k + 1,hlt,by go_num,hB2.out,.inr ⟨_,_,rfl,hsz,hset.out⟩⟩
        case measure => simp [RowKit.intOf]; omega
      . have hc1:=(hcells k hlt).1
        have hf1:=(hcells k hlt).2
        have hset:=bufA_set hcells hlt
        have hset : Hid (bufA T s (k + 1) (wr.setCell ⟨g,k,none⟩ (.int .u8 (T (s[k]'hlt)).toNat)) g):=by
         rw [hx.out] at hset; exact hset
        have hB2 : Hid (Below w.heap.size w (wr.setCell ⟨g,k,none⟩ (.int .u8 (T (s[k]'hlt)).toNat))):=hnx.setCell hg _
        rw [hx.out,if_neg (Nat.lt_irrefl k)] at hc1
        clear hcells
        go_wp2
        go_roundw
        case rel => exact ⟨k + 1,hlt,by go_num,hB2.out,.inr ⟨_,_,rfl,hg,hset.out⟩⟩
        case measure => simp [RowKit.intOf]; omega
  . obtain rfl : k=s.size:=by omega
    have hlt' : ¬ (s.size : Int) < s.size:=by omega
    rcases hbuf with ⟨rfl,hsame⟩ | ⟨g,c,rfl,hg,hcells⟩
    . have he:=same_all hsame
      have he : Hid ((⟨(s.data.toList.map T).toArray⟩ : ByteArray)=s):=he
      clear hsame
      go_wp2
      go_ret
      exact ⟨rfl,hnx⟩
    . have hcv:=run_convert_bytes_back (P:=Tryz.prog) wr 22 9 5 ⟨g,0,none⟩ c (s.data.toList.map T) Tryz.underlying22 Tryz.underlying5 Tryz.underlying9 (bufA_all hcells)
      rw [List.length_map,show s.data.toList.length=s.size from rfl] at hcv
      clear hcells
      go_wp2
      go_ret
      exact ⟨rfl,hnx⟩
end Go.Proofs
