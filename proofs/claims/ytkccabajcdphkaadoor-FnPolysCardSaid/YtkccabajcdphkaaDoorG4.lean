/- What functions of this program compute, over plain data. No condition. -/
import Derived.Test.YtkccabajcdphkaaDoorFacts
import Derived.Test.YtkccabajcdphkaaDoorAbsRow
set_option linter.all false
open Nat renaming reduceEqDiff -> Qa, reduceLT -> Qb, reduceAdd -> Qc, reduceMul -> Qd, reduceSub -> Qe, reduceLeDiff -> Qf, reduceSubDiff -> Qg, reduceBEq -> Qh
open Bool renaming not_eq_true' -> Ba, not_eq_false' -> Bb, and_eq_true -> Bc, or_eq_true -> Bh, or_eq_false_iff -> Be
open Int renaming ofNat_lt -> Ia, ofNat_le -> Ib, not_lt -> Ic, not_le -> Ie
open Decidable renaming not_not -> Da
namespace Abs.Y
open Go Go.Proofs Abs
set_option maxRecDepth 100000

theorem within_ok (n lo hi : Int) : Ctr Tryd.prog 71 [.int .i64 n,.int .i64 lo,.int .i64 hi] false (.d (.bool (decide (lo<=n) && decide (n<=hi)))) []:=by
 refine Ctr.of (n:=15) (rs:=[.tmp 6]) Tryd.func71 rfl rfl Tryd.ntmps71 rfl rfl (by kernel_rfl) Tryd.checked.mixed ?_
 simp (disch:=first | omega | decide +kernel) only [go_sem,Qa,Qb,Qc,Qd,Qe,↓reduceIte,reduceCtorEq,Qf,Qg,Qh]
 (repeat' (first | ((first | (refine gsel_split (fun q' => ?_) (fun q' => ?_)<;>(have h':=q')<;>(try simp only [za1,za2,Ba,Bb,za3,ne_eq,za4,za5,za6,Ia,Ib,Ic,Ie,Da,Bc,Bh,Be,za7,za8] at h')<;>try (exfalso; omega)) | (have q':=trivial; first | refine hE _ _ ret_ne ?_ | refine hE _ _ exit_ne ?_))<;>(try simp (disch:=first | omega | decide +kernel) only [q',go_sem,Qa,Qb,Qc,Qd,Qe,↓reduceIte,reduceCtorEq,Qf,Qg,Qh])<;>clear q') | with_reducible refine And.intro ?_ ?_ | with_reducible omega | (refine le_maxLen ?_; omega)))
theorem l1In_ok (x a b : Int) : Ctr Tryd.prog 74 [.int .i64 x,.int .i64 a,.int .i64 b] false (.d (.bool (decide (a<=x) && decide (x<=b)))) []:=by
 refine Ctr.of (n:=15) (rs:=[.tmp 6]) Tryd.func74 rfl rfl Tryd.ntmps74 rfl rfl (by kernel_rfl) Tryd.checked.mixed ?_
 simp (disch:=first | omega | decide +kernel) only [go_sem,Qa,Qb,Qc,Qd,Qe,↓reduceIte,reduceCtorEq,Qf,Qg,Qh]
 (repeat' (first | ((first | (refine gsel_split (fun q' => ?_) (fun q' => ?_)<;>(have h':=q')<;>(try simp only [za1,za2,Ba,Bb,za3,ne_eq,za4,za5,za6,Ia,Ib,Ic,Ie,Da,Bc,Bh,Be,za7,za8] at h')<;>try (exfalso; omega)) | (have q':=trivial; first | refine hE _ _ ret_ne ?_ | refine hE _ _ exit_ne ?_))<;>(try simp (disch:=first | omega | decide +kernel) only [q',go_sem,Qa,Qb,Qc,Qd,Qe,↓reduceIte,reduceCtorEq,Qf,Qg,Qh])<;>clear q') | with_reducible refine And.intro ?_ ?_ | with_reducible omega | (refine le_maxLen ?_; omega)))
def absI (n : Int) : Int:=if IntKind.i64.wrap (0 - n) > n then IntKind.i64.wrap (0 - n) else n
theorem abs_ok (n : Int) : Ctr Tryd.prog 86 [.int .i64 n] false (.d (.int .i64 (absI n))) []:=by
 refine Ctr.of (n:=7) (rs:=[.tmp 2]) Tryd.func86 rfl rfl Tryd.ntmps86 rfl rfl (by kernel_rfl) Tryd.checked.mixed ?_
 simp (disch:=first | omega | decide +kernel) only [go_sem,Qa,Qb,Qc,Qd,Qe,↓reduceIte,reduceCtorEq,Qf,Qg,Qh]
 simp [absI]
def varI (n : Int) : Int:=if n < 0 then IntKind.i64.wrap (0 - n) else n
theorem l2Var_ok (n : Int) : Ctr Tryd.prog 88 [.int .i64 n] false (.d (.int .i64 (varI n))) []:=by
 refine Ctr.of (n:=8) (rs:=[.tmp 2]) Tryd.func88 rfl rfl Tryd.ntmps88 rfl rfl (by kernel_rfl) Tryd.checked.mixed ?_
 simp (disch:=first | omega | decide +kernel) only [go_sem,Qa,Qb,Qc,Qd,Qe,↓reduceIte,reduceCtorEq,Qf,Qg,Qh]
 (repeat' (first | ((first | (refine gsel_split (fun q' => ?_) (fun q' => ?_)<;>(have h':=q')<;>(try simp only [za1,za2,Ba,Bb,za3,ne_eq,za4,za5,za6,Ia,Ib,Ic,Ie,Da,Bc,Bh,Be,za7,za8] at h')<;>try (exfalso; omega)) | (have q':=trivial; first | refine hE _ _ ret_ne ?_ | refine hE _ _ exit_ne ?_))<;>(try simp (disch:=first | omega | decide +kernel) only [q',go_sem,Qa,Qb,Qc,Qd,Qe,↓reduceIte,reduceCtorEq,Qf,Qg,Qh])<;>clear q') | with_reducible refine And.intro ?_ ?_ | with_reducible omega | (refine le_maxLen ?_; omega)))
 . simp [varI,h',D.plain]
 . simp [varI,Ic.2 h',D.plain]
def okVars (v : Int) : Bool:=decide (0<=v) && decide (v<=12)
def okLit (v l : Int) : Bool:=decide (l ≠ 0) && (decide (IntKind.i64.wrap (0 - v)<=l) && decide (l<=v))
theorem isLiteral_ok (v l : Int) : Ctr Tryd.prog 85 [.int .i64 v,.int .i64 l] false (.d (.bool (okLit v l))) []:=by
 refine Ctr.of (n:=14) (rs:=[.tmp 4]) Tryd.func85 rfl rfl Tryd.ntmps85 rfl rfl (by kernel_rfl) Tryd.checked.mixed ?_
 simp (disch:=first | omega | decide +kernel) only [go_sem,Qa,Qb,Qc,Qd,Qe,↓reduceIte,reduceCtorEq,Qf,Qg,Qh]
 (repeat' (first | ((first | (refine gsel_split (fun q' => ?_) (fun q' => ?_)<;>(have h':=q')<;>(try simp only [za1,za2,Ba,Bb,za3,ne_eq,za4,za5,za6,Ia,Ib,Ic,Ie,Da,Bc,Bh,Be,za7,za8] at h')<;>try (exfalso; omega)) | (have q':=trivial; first | refine callX_new (within_ok _ _ _) rfl (by decide) ?_ | refine callY_new (within_ok _ _ _) rfl ?_ | refine hE _ _ ret_ne ?_ | refine hE _ _ exit_ne ?_))<;>(try simp (disch:=first | omega | decide +kernel) only [q',go_sem,Qa,Qb,Qc,Qd,Qe,↓reduceIte,reduceCtorEq,Qf,Qg,Qh])<;>clear q') | with_reducible refine And.intro ?_ ?_ | with_reducible omega | (refine le_maxLen ?_; omega)))
 . simp [okLit,h']
 . simp [okLit,h']
theorem l2Lit_ok (v l : Int) : Ctr Tryd.prog 87 [.int .i64 v,.int .i64 l] false (.d (.bool (okLit v l))) []:=by
 refine Ctr.of (n:=14) (rs:=[.tmp 4]) Tryd.func87 rfl rfl Tryd.ntmps87 rfl rfl (by kernel_rfl) Tryd.checked.mixed ?_
 simp (disch:=first | omega | decide +kernel) only [go_sem,Qa,Qb,Qc,Qd,Qe,↓reduceIte,reduceCtorEq,Qf,Qg,Qh]
 (repeat' (first | ((first | (refine gsel_split (fun q' => ?_) (fun q' => ?_)<;>(have h':=q')<;>(try simp only [za1,za2,Ba,Bb,za3,ne_eq,za4,za5,za6,Ia,Ib,Ic,Ie,Da,Bc,Bh,Be,za7,za8] at h')<;>try (exfalso; omega)) | (have q':=trivial; first | refine callX_new (l1In_ok _ _ _) rfl (by decide) ?_ | refine callY_new (l1In_ok _ _ _) rfl ?_ | refine hE _ _ ret_ne ?_ | refine hE _ _ exit_ne ?_))<;>(try simp (disch:=first | omega | decide +kernel) only [q',go_sem,Qa,Qb,Qc,Qd,Qe,↓reduceIte,reduceCtorEq,Qf,Qg,Qh])<;>clear q') | with_reducible refine And.intro ?_ ?_ | with_reducible omega | (refine le_maxLen ?_; omega)))
 . simp [okLit,h',← Int.zero_sub]
   rfl
 . simp [okLit,h',← Int.zero_sub]
def okAt (v : Int) (c : List Int) (j : Nat) : Prop:=(c.getD j 0 ≠ 0∧-v<=c.getD j 0∧c.getD j 0<=v)∧(0 < j->(c.getD (j - 1) 0).natAbs < (c.getD j 0).natAbs)
instance (v c j) : Decidable (okAt v c j):=by unfold okAt; infer_instance
def okClause (v : Int) (c : List Int) : Bool:=okVars v && decide (∀ j,j < c.length->okAt v c j)
theorem absI_eq {n : Int} (h : -9223372036854775807<=n∧n<=9223372036854775807) : absI n=n.natAbs:=by
 rw [absI,wrap_of (n:=0 - n) (by omega)]; split<;>omega
end Abs.Y

namespace Abs
open Go Go.RowKit

theorem ofInt_nat (a : Nat) : BitVec.ofInt 64 (a : Int)=BitVec.ofNat 64 a:=by
 apply BitVec.eq_of_toNat_eq; simp [BitVec.toNat_ofInt]
theorem bitV_and {a b : Nat} (ha : a < 2 ^ 63) (hb : b < 2 ^ 63) : bitV .and .i64 a b=((a &&& b : Nat) : Int):=by
 have h : a &&& b < 2 ^ 63:=Nat.and_lt_two_pow _ hb
 show IntKind.wrap .i64 (((BitVec.ofInt 64 (a : Int)) &&& (BitVec.ofInt 64 (b : Int))).toNat : Nat)=_
 rw [ofInt_nat,ofInt_nat,BitVec.toNat_and,BitVec.toNat_ofNat,BitVec.toNat_ofNat,Nat.mod_eq_of_lt (by omega),Nat.mod_eq_of_lt (by omega),wrap_of (by omega)]
theorem bitV_or {a b : Nat} (ha : a < 2 ^ 63) (hb : b < 2 ^ 63) : bitV .or .i64 a b=((a ||| b : Nat) : Int):=by
 have h : a ||| b < 2 ^ 63:=Nat.or_lt_two_pow ha hb
 show IntKind.wrap .i64 (((BitVec.ofInt 64 (a : Int)) ||| (BitVec.ofInt 64 (b : Int))).toNat : Nat)=_
 rw [ofInt_nat,ofInt_nat,BitVec.toNat_or,BitVec.toNat_ofNat,BitVec.toNat_ofNat,Nat.mod_eq_of_lt (by omega),Nat.mod_eq_of_lt (by omega),wrap_of (by omega)]
theorem shl_one {e : Nat} (he : e<=62) : IntKind.wrap .i64 (1 * 2 ^ min e (IntKind.bits .i64))=((2 ^ e : Nat) : Int):=by
 have h : 2 ^ e<=2 ^ 62:=Nat.pow_le_pow_right (by decide) he
 rw [show min e (IntKind.bits .i64)=e by simp [IntKind.bits]; omega,Int.one_mul]
 have e1 : ((2 : Int) ^ e)=((2 ^ e : Nat) : Int):=by simp
 rw [e1]
 generalize 2 ^ e=x at *
 rw [wrap_of (by omega)]
theorem shr_nat {b e : Nat} (he : e<=62) : (b : Int).fdiv (2 ^ min e (IntKind.bits .i64))=((b >>> e : Nat) : Int):=by
 rw [show min e (IntKind.bits .i64)=e by simp [IntKind.bits]; omega]
 have e1 : ((2 : Int) ^ e)=((2 ^ e : Nat) : Int):=by simp
 rw [e1,Nat.shiftRight_eq_div_pow]
 rw [Int.fdiv_eq_ediv_of_nonneg _ (Int.natCast_nonneg _)]; simp
def bitI (b k : Nat) : Int:=if b.testBit k then 1 else 0
theorem bit_of {b k : Nat} (hk : k<=62) (hb : b < 2 ^ 63) : bitV .and .i64 ((b : Int).fdiv (2 ^ min k (IntKind.bits .i64))) 1=bitI b k:=by
 rw [shr_nat hk]
 have h : b >>> k < 2 ^ 63:=Nat.lt_of_le_of_lt (Nat.shiftRight_le b k) hb
 have:=bitV_and h (b:=1) (by decide)
 rw [show ((1 : Nat) : Int)=1 from rfl] at this
 rw [this,Nat.and_one_is_mod]
 unfold bitI
 rw [Nat.testBit,Nat.one_and_eq_mod_two,bne]
 rcases Nat.mod_two_eq_zero_or_one (b >>> k) with h | h<;>simp [h]
end Abs

namespace Abs.Y
open Go Go.Proofs Abs
set_option maxRecDepth 100000

def Vec (p : Int) (n : Nat) (v : List Int) : Prop:=v.length=n∧∀ i,0<=v.getD i 0∧v.getD i 0 < p
def stP (p : Int) (v : List Int) (m : Nat) (c : Int) : List Int:=v.set m ((v.getD m 0 + c) % p)
theorem getD_set (v : List Int) (m : Nat) (x : Int) (i : Nat) : (v.set m x).getD i 0=if m=i∧i < v.length then x else v.getD i 0:=by
 rw [List.getD_eq_getElem?_getD,List.getElem?_set,List.getD_eq_getElem?_getD]
 by_cases e : m=i
 . subst e
   by_cases h : m < v.length
   . simp [h]
   . simp [h]
 . simp [e]
theorem Vec.st {p : Int} {n : Nat} {v : List Int} (hp : 0 < p) (h : Vec p n v) (m : Nat) (c : Int) : Vec p n (stP p v m c):=by
 refine ⟨by simp [stP,h.1],fun i => ?_⟩
 rw [stP,getD_set]
 split
 . exact ⟨Int.emod_nonneg _ (by omega),Int.emod_lt_of_pos _ hp⟩
 . exact h.2 i
theorem Vec.zero {p : Int} (hp : 0 < p) (n : Nat) : Vec p n (List.replicate n 0):=by
 refine ⟨by simp,fun i => ?_⟩
 rw [List.getD_eq_getElem?_getD,List.getElem?_replicate]
 split<;>simp<;>omega
theorem st_zero {p : Int} {n : Nat} {v : List Int} (h : Vec p n v) (m : Nat) : stP p v m 0=v:=by
 have hm:=h.2 m
 unfold stP
 rw [Int.add_zero,Int.emod_eq_of_lt hm.1 hm.2]
 by_cases hl : m < v.length
 . rw [List.getD_eq_getElem?_getD,List.getElem?_eq_getElem hl,Option.getD_some,List.set_getElem_self]
 . rw [List.set_eq_of_length_le (by omega)]
def spT (v : List Int) : List (Int × Int):=((List.range v.length).filter fun m => decide (v.getD m 0 ≠ 0)).map fun m : Nat => ((m : Int),v.getD m 0)
theorem fold_sp {α : Type} (I : α->Prop) (g : α->Nat->Int->α) (v : List Int) (hI : ∀ a m c,I a->I (g a m c)) (h0 : ∀ a m,I a->g a m 0=a) :
 ∀ (r : List Nat) (a : α),I a->((r.filter fun m => decide (v.getD m 0 ≠ 0)).map fun m : Nat => ((m : Int),v.getD m 0)).foldl (fun a (t : Int × Int) => g a t.1.toNat t.2) a=r.foldl (fun a m => g a m (v.getD m 0)) a
 | [],_,_ => rfl
 | m :: r, a, ha => by
   by_cases hz : v.getD m 0=0
   . rw [List.filter_cons_of_neg (by rw [decide_eq_true_eq]; exact fun h => h hz),List.foldl_cons,hz,h0 a m ha]
     exact fold_sp I g v hI h0 r a ha
   . rw [List.filter_cons_of_pos (by rw [decide_eq_true_eq]; exact hz),List.map_cons,List.foldl_cons,List.foldl_cons]
     simp only [Int.toNat_natCast]
     exact fold_sp I g v hI h0 r _ (hI a m _ ha)
def rowD (p : Int) (b : List Int) (m : Nat) (c : Int) (v : List Int) : List Int:=(List.range b.length).foldl (fun v n => stP p v (m ||| n) (c * b.getD n 0)) v
def mulD (p : Int) (n : Nat) (a b : List Int) : List Int:=(List.range a.length).foldl (fun v m => rowD p b m (a.getD m 0) v) (List.replicate n 0)
def rowS (p : Int) (b : List (Int × Int)) (m : Nat) (c : Int) (v : List Int) : List Int:=b.foldl (fun v (t : Int × Int) => stP p v (m ||| t.1.toNat) (c * t.2)) v
def mulS (p : Int) (n : Nat) (a b : List (Int × Int)) : List Int:=a.foldl (fun v (s : Int × Int) => rowS p b s.1.toNat s.2 v) (List.replicate n 0)
theorem fold_vec {α : Type} {p : Int} {n : Nat} {f : List Int->α->List Int} (hf : ∀ v x,Vec p n v->Vec p n (f v x)) : ∀ (r : List α) {v : List Int},Vec p n v->Vec p n (r.foldl f v)
 | [],_,h => h
 | x :: r,v,h => fold_vec hf r (hf v x h)
theorem Vec.rowS {p : Int} {n : Nat} {v : List Int} (hp : 0 < p) (h : Vec p n v) (b : List (Int × Int)) (m : Nat) (c : Int) : Vec p n (rowS p b m c v) :=
 fold_vec (fun v t h => h.st hp _ _) b h
theorem Vec.rowD {p : Int} {n : Nat} {v : List Int} (hp : 0 < p) (h : Vec p n v) (b : List Int) (m : Nat) (c : Int) : Vec p n (rowD p b m c v) :=
 fold_vec (fun v t h => h.st hp _ _) _ h
theorem Vec.mulD {p : Int} (hp : 0 < p) (n : Nat) (a b : List Int) : Vec p n (mulD p n a b):=fold_vec (fun v m h => h.rowD hp b m _) _ (Vec.zero hp n)
theorem row_eq {p : Int} {n : Nat} {b : List Int} (hp : 0 < p) {v : List Int} (h : Vec p n v) (m : Nat) (c : Int) : rowS p (spT b) m c v=rowD p b m c v:=by
 refine fold_sp (Vec p n) (fun v k d => stP p v (m ||| k) (c * d)) b (fun v k d h => h.st hp _ _) (fun v k h => ?_) (List.range b.length) v h
 show stP p v (m ||| k) (c * 0)=v
 rw [Int.mul_zero]; exact st_zero h _
theorem row_zero {p : Int} {n : Nat} {v : List Int} (h : Vec p n v) (b : List (Int × Int)) (m : Nat) : rowS p b m 0 v=v:=by
 induction b with
 | nil => rfl
 | cons t r ih =>
   show rowS p r m 0 (stP p v (m ||| t.1.toNat) (0 * t.2))=v
   rw [Int.zero_mul,st_zero h]; exact ih
theorem mul_eq {p : Int} {n : Nat} {a b : List Int} (hp : 0 < p) : mulS p n (spT a) (spT b)=mulD p n a b:=by
 have h1:=fold_sp (Vec p n) (fun v m c => rowS p (spT b) m c v) a (fun v m c h => h.rowS hp _ m c) (fun v m h => row_zero h _ m) (List.range a.length) (List.replicate n 0) (Vec.zero hp n)
 show (spT a).foldl _ _=_
 refine Eq.trans h1 ?_
 unfold mulD
 have : ∀ (r : List Nat) (v : List Int),Vec p n v->r.foldl (fun v m => rowS p (spT b) m (a.getD m 0) v) v=r.foldl (fun v m => rowD p b m (a.getD m 0) v) v:=by
  intro r
  induction r with
  | nil => intro v _; rfl
  | cons m r ih =>
    intro v h
    rw [List.foldl_cons,List.foldl_cons,row_eq hp h]
    exact ih _ (h.rowD hp b m _)
 exact this _ _ (Vec.zero hp n)
def addD (p k : Int) (a b : List Int) : List Int:=List.zipWith (fun x y => (x + k * y) % p) a b
theorem getD_zip (f : Int->Int->Int) (a b : List Int) (h : a.length=b.length) (i : Nat) (hi : i < a.length) : (List.zipWith f a b).getD i 0=f (a.getD i 0) (b.getD i 0):=by
 simp only [List.getD_eq_getElem?_getD,List.getElem?_zipWith]
 rw [List.getElem?_eq_getElem (by omega),List.getElem?_eq_getElem (by omega)]; rfl
theorem Vec.addD {p k : Int} {n : Nat} {a b : List Int} (hp : 0 < p) (ha : a.length=n) (hb : b.length=n) : Vec p n (addD p k a b):=by
 refine ⟨by simp [Y.addD,ha,hb],fun i => ?_⟩
 by_cases hi : i < a.length
 . rw [Y.addD,getD_zip _ _ _ (by omega) i hi]
   exact ⟨Int.emod_nonneg _ (by omega),Int.emod_lt_of_pos _ hp⟩
 . rw [List.getD_eq_getElem?_getD,List.getElem?_eq_none (by simp [Y.addD]; omega)]; simp; omega
end Abs.Y

namespace Abs.Y
open Go Go.Proofs Abs
set_option maxRecDepth 100000

theorem getD_oob {a : List Int} {i : Nat} (h : a.length<=i) : a.getD i 0=0:=by
 rw [List.getD_eq_getElem?_getD,List.getElem?_eq_none h]; rfl
theorem addD_len {p k : Int} {a b : List Int} (h : a.length=b.length) : (addD p k a b).length=a.length:=by simp [addD,h]
theorem addD_get {p k : Int} {a b : List Int} (h : a.length=b.length) (i : Nat) : (addD p k a b).getD i 0=(a.getD i 0 + k * b.getD i 0) % p:=by
 by_cases hi : i < a.length
 . exact getD_zip _ a b h i hi
 . rw [getD_oob (by rw [addD_len h]; omega),getD_oob (a:=a) (by omega),getD_oob (a:=b) (by omega)]; simp
theorem vec_ext {p : Int} {n : Nat} {a b : List Int} (ha : a.length=n) (hb : b.length=n) (h : ∀ i,a.getD i 0=b.getD i 0) : a=b :=
 ext_getDz 0 (by rw [ha,hb]) fun i _ => h i
theorem emod_eq_of {p x y : Int} (t : Int) (h : x=y + p * t) : x % p=y % p:=by rw [h,Int.add_mul_emod_self_left]
theorem emod_wit (p x : Int) : ∃ t,x % p=x + p * t:=⟨-(x / p),by rw [Int.emod_def,Int.mul_neg]; omega⟩
theorem addD_addD {p k j : Int} {n : Nat} {v w r : List Int} (hv : v.length=n) (hw : w.length=n) (hr : r.length=n) : addD p k v (addD p j w r)=addD p (k * j) (addD p k v w) r:=by
 have h1 : (addD p j w r).length=n:=by rw [addD_len (by omega),hw]
 have h2 : (addD p k v w).length=n:=by rw [addD_len (by omega),hv]
 refine vec_ext (p:=p) (n:=n) (by rw [addD_len (by omega),hv]) (by rw [addD_len (by omega),h2]) fun i => ?_
 rw [addD_get (by omega),addD_get (by omega),addD_get (by omega),addD_get (by omega)]
 obtain ⟨t1,e1⟩:=emod_wit p (w.getD i 0 + j * r.getD i 0)
 obtain ⟨t2,e2⟩:=emod_wit p (v.getD i 0 + k * w.getD i 0)
 rw [e1,e2]
 exact emod_eq_of (k * t1 - t2) (by grind)
theorem addD_same {p k j : Int} {n : Nat} {v r : List Int} (hv : v.length=n) (hr : r.length=n) : addD p k (addD p j v r) r=addD p (j + k) v r:=by
 have h1 : (addD p j v r).length=n:=by rw [addD_len (by omega),hv]
 refine vec_ext (p:=p) (n:=n) (by rw [addD_len (by omega),h1]) (by rw [addD_len (by omega),hv]) fun i => ?_
 rw [addD_get (by omega),addD_get (by omega),addD_get (by omega)]
 obtain ⟨t1,e1⟩:=emod_wit p (v.getD i 0 + j * r.getD i 0)
 rw [e1]
 exact emod_eq_of t1 (by grind)
theorem addD_mul {p k : Int} {n : Nat} {v r : List Int} (t : Int) (hk : k=p * t) (hv : Vec p n v) (hr : r.length=n) : addD p k v r=v:=by
 have hl:=hv.1
 refine vec_ext (p:=p) (n:=n) (by rw [addD_len (by omega),hv.1]) hv.1 fun i => ?_
 rw [addD_get (by omega)]
 have h:=hv.2 i
 rw [emod_eq_of (y:=v.getD i 0) (t * r.getD i 0) (by rw [hk]; grind),Int.emod_eq_of_lt h.1 h.2]
theorem getD_rep (n i : Nat) : (List.replicate n (0 : Int)).getD i 0=0:=by
 rw [List.getD_eq_getElem?_getD,List.getElem?_replicate]; split<;>rfl
theorem addD_z {p k : Int} {n : Nat} {v : List Int} (hv : Vec p n v) : addD p k v (List.replicate n 0)=v:=by
 have hl:=hv.1
 refine vec_ext (p:=p) (n:=n) (by rw [addD_len (by simp; omega),hv.1]) hv.1 fun i => ?_
 have h:=hv.2 i
 rw [addD_get (by simp; omega),getD_rep,Int.mul_zero,Int.add_zero,Int.emod_eq_of_lt h.1 h.2]
theorem zero_addD {p : Int} {n : Nat} {v : List Int} (hv : Vec p n v) : addD p 1 (List.replicate n 0) v=v:=by
 have hl:=hv.1
 refine vec_ext (p:=p) (n:=n) (by rw [addD_len (by simp; omega)]; simp) hv.1 fun i => ?_
 have h:=hv.2 i
 rw [addD_get (by simp; omega),getD_rep,Int.zero_add,Int.one_mul,Int.emod_eq_of_lt h.1 h.2]
theorem vec_zero_iff {p : Int} {n : Nat} {v : List Int} (hv : v.length=n) : v=List.replicate n 0↔∀ i,v.getD i 0=0:=by
 constructor
 . intro h i; rw [h,getD_rep]
 . intro h; exact vec_ext (p:=p) (n:=n) hv (by simp) fun i => by rw [h i,getD_rep]
inductive Sp (p : Int) (n : Nat) (R : List (List Int)) : List Int->Prop
 | zero : Sp p n R (List.replicate n 0)
 | add {v r : List Int} (k : Int) : Sp p n R v->r ∈ R->Sp p n R (addD p k v r)
def AllV (p : Int) (n : Nat) (R : List (List Int)) : Prop:=∀ r ∈ R,Vec p n r
section
variable {p : Int} {n : Nat} (hp : 0 < p)
include hp
theorem Sp.vec {R : List (List Int)} {v : List Int} (hR : AllV p n R) (h : Sp p n R v) : Vec p n v:=by
 induction h with
 | zero => exact Vec.zero hp n
 | add k _ hr ih => exact Vec.addD hp ih.1 (hR _ hr).1
theorem Sp.plus {R : List (List Int)} {v w : List Int} (hR : AllV p n R) (k : Int) (hv : Sp p n R v) (hw : Sp p n R w) : Sp p n R (addD p k v w):=by
 induction hw with
 | zero => rw [addD_z (hv.vec hp hR)]; exact hv
 | add j hw hr ih =>
   rw [addD_addD (n:=n) (hv.vec hp hR).1 (hw.vec hp hR).1 (hR _ hr).1]
   exact .add _ ih hr
theorem Sp.self {R : List (List Int)} {r : List Int} (hR : AllV p n R) (hr : r ∈ R) : Sp p n R r:=by
 rw [← zero_addD (hR r hr)]
 exact .add 1 .zero hr
theorem Sp.trans {R R' : List (List Int)} {v : List Int} (hR' : AllV p n R') (h : ∀ r ∈ R,Sp p n R' r) (hv : Sp p n R v) : Sp p n R' v:=by
 induction hv with
 | zero => exact .zero
 | add k _ hr ih => exact ih.plus hp hR' k (h _ hr)
def redD (p : Int) (ld : List Int->Nat) (R : List (List Int)) (a : List Int) : List Int:=R.foldl (fun a r => addD p (p - a.getD (ld r) 0) a r) a
omit hp in
theorem redD_cons (ld : List Int->Nat) (r : List Int) (R : List (List Int)) (a : List Int) : redD p ld (r :: R) a=redD p ld R (addD p (p - a.getD (ld r) 0) a r):=rfl
theorem redD_vec (ld : List Int->Nat) {R : List (List Int)} : ∀ {a : List Int},AllV p n R->Vec p n a->Vec p n (redD p ld R a):=by
 induction R with
 | nil => exact fun _ h => h
 | cons r R ih => exact fun hR ha => ih (fun x hx => hR x (by simp [hx])) (Vec.addD hp ha.1 (hR r (by simp)).1)
theorem redD_lin (ld : List Int->Nat) {R : List (List Int)} : ∀ {v w : List Int} (k : Int),AllV p n R->Vec p n v->Vec p n w->redD p ld R (addD p k v w)=addD p k (redD p ld R v) (redD p ld R w):=by
 induction R with
 | nil => exact fun _ _ _ _ => rfl
 | cons r R ih =>
   intro v w k hR hv hw
   have hr:=hR r (by simp)
   have hl:=hv.1
   have hl2:=hw.1
   have hl3:=hr.1
   rw [redD_cons,redD_cons,redD_cons,← ih k (fun x hx => hR x (by simp [hx])) (Vec.addD hp hv.1 hr.1) (Vec.addD hp hw.1 hr.1)]
   congr 1
   have h1 : (addD p k v w).length=n:=by rw [addD_len (by omega),hl]
   have h2 : (addD p (p - v.getD (ld r) 0) v r).length=n:=by rw [addD_len (by omega),hl]
   have h3 : (addD p (p - w.getD (ld r) 0) w r).length=n:=by rw [addD_len (by omega),hl2]
   refine vec_ext (p:=p) (n:=n) (by rw [addD_len (by omega),h1]) (by rw [addD_len (by omega),h2]) fun i => ?_
   rw [addD_get (by omega),addD_get (by omega),addD_get (by omega),addD_get (by omega),addD_get (by omega),addD_get (by omega)]
   obtain ⟨t1,e1⟩:=emod_wit p (v.getD i 0 + k * w.getD i 0)
   obtain ⟨t2,e2⟩:=emod_wit p (v.getD (ld r) 0 + k * w.getD (ld r) 0)
   obtain ⟨t3,e3⟩:=emod_wit p (v.getD i 0 + (p - v.getD (ld r) 0) * r.getD i 0)
   obtain ⟨t4,e4⟩:=emod_wit p (w.getD i 0 + (p - w.getD (ld r) 0) * r.getD i 0)
   rw [e1,e2,e3,e4]
   exact emod_eq_of (t1 - t2 * r.getD i 0 - t3 - k * r.getD i 0 - k * t4) (by grind)
theorem redD_zero (ld : List Int->Nat) {R : List (List Int)} (hR : AllV p n R) : redD p ld R (List.replicate n 0)=List.replicate n 0:=by
 induction R with
 | nil => rfl
 | cons r R ih =>
   rw [redD_cons,getD_rep,Int.sub_zero,addD_mul 1 (by omega) (Vec.zero hp n) (hR r (by simp)).1]
   exact ih fun x hx => hR x (by simp [hx])
def Tri (ld : List Int->Nat) (R : List (List Int)) : Prop:=(∀ r ∈ R,r.getD (ld r) 0=1)∧R.Pairwise fun r s => s.getD (ld r) 0=0
theorem redD_row (ld : List Int->Nat) {R : List (List Int)} (hR : AllV p n R) (hT : Tri ld R) : ∀ r ∈ R,redD p ld R r=List.replicate n 0:=by
 induction R with
 | nil => exact fun r hr => by cases hr
 | cons r0 R ih =>
   intro r hr
   have hr0:=hR r0 (by simp)
   have hR' : AllV p n R:=fun x hx => hR x (by simp [hx])
   obtain ⟨h1,h2⟩:=hT
   rw [List.pairwise_cons] at h2
   rw [redD_cons]
   rcases List.mem_cons.1 hr with rfl | hr
   . have hz : addD p (p - r.getD (ld r) 0) r r=List.replicate n 0:=by
      refine (vec_zero_iff (p:=p) (by rw [addD_len rfl,hr0.1])).2 fun i => ?_
      rw [addD_get rfl,h1 r (by simp)]
      rw [emod_eq_of (y:=0) (r.getD i 0) (by grind)]; simp
     rw [hz]
     exact redD_zero hp ld hR'
   . rw [h2.1 r hr,Int.sub_zero,addD_mul 1 (by omega) (hR' r hr) hr0.1]
     exact ih hR' ⟨fun x hx => h1 x (by simp [hx]),h2.2⟩ r hr
theorem redD_sp (ld : List Int->Nat) {R : List (List Int)} {v : List Int} (hR : AllV p n R) (hT : Tri ld R) (hv : Sp p n R v) : redD p ld R v=List.replicate n 0:=by
 induction hv with
 | zero => exact redD_zero hp ld hR
 | add k h hr ih =>
   rw [redD_lin hp ld k hR (h.vec hp hR) (hR _ hr),ih,redD_row hp ld hR hT _ hr]
   exact addD_z (Vec.zero hp n)
theorem redD_in (ld : List Int->Nat) {R R' : List (List Int)} (hR' : AllV p n R') : ∀ {a : List Int},AllV p n R->(∀ r ∈ R,Sp p n R' r)->Vec p n a->(Sp p n R' (redD p ld R a)↔Sp p n R' a):=by
 induction R with
 | nil => exact fun _ _ _ => Iff.rfl
 | cons r R ih =>
   intro a hR hS ha
   have hr:=hR r (by simp)
   have hrS:=hS r (by simp)
   rw [redD_cons,ih (fun x hx => hR x (by simp [hx])) (fun x hx => hS x (by simp [hx])) (Vec.addD hp ha.1 hr.1)]
   generalize p - a.getD (ld r) 0=c
   constructor
   . intro h
     have:=h.plus hp hR' (-c) hrS
     rwa [addD_same (n:=n) ha.1 hr.1,addD_mul 0 (by omega) ha hr.1] at this
   . exact fun h => h.plus hp hR' c hrS
theorem red_iff (ld : List Int->Nat) {R : List (List Int)} {a : List Int} (hR : AllV p n R) (hT : Tri ld R) (ha : Vec p n a) : redD p ld R a=List.replicate n 0↔Sp p n R a:=by
 constructor
 . intro h
   have h1:=redD_in hp ld (a:=a) hR hR (fun r hr => Sp.self hp hR hr) ha
   rw [h] at h1
   exact h1.1 .zero
 . exact redD_sp hp ld hR hT
theorem redD_lead (ld : List Int->Nat) {R : List (List Int)} (hR : AllV p n R) (hT : Tri ld R) : ∀ {a : List Int},Vec p n a->∀ r ∈ R,(redD p ld R a).getD (ld r) 0=0:=by
 have stay : ∀ (R : List (List Int)) (m : Nat) (a : List Int),AllV p n R->(∀ r ∈ R,r.getD m 0=0)->Vec p n a->a.getD m 0=0->(redD p ld R a).getD m 0=0:=by
  intro R m
  induction R with
  | nil => exact fun a _ _ _ h => h
  | cons r R ih =>
    intro a hR h ha h0
    have hr:=hR r (by simp)
    rw [redD_cons]
    refine ih _ (fun x hx => hR x (by simp [hx])) (fun x hx => h x (by simp [hx])) (Vec.addD hp ha.1 hr.1) ?_
    rw [addD_get (by rw [ha.1,hr.1]),h0,h r (by simp)]; simp
 induction R with
 | nil =>
   intro a _ r hr
   cases hr
 | cons r0 R ih =>
   intro a ha r hr
   have hr0:=hR r0 (by simp)
   have hR' : AllV p n R:=fun x hx => hR x (by simp [hx])
   obtain ⟨h1,h2⟩:=hT
   rw [List.pairwise_cons] at h2
   have hv:=Vec.addD (p:=p) (k:=p - a.getD (ld r0) 0) hp ha.1 hr0.1
   rw [redD_cons]
   rcases List.mem_cons.1 hr with rfl | hr
   . refine stay R _ _ hR' h2.1 hv ?_
     rw [addD_get (by rw [ha.1,hr0.1]),h1 r (by simp),Int.mul_one]
     rw [emod_eq_of (y:=0) 1 (by omega)]; simp
   . exact ih hR' ⟨fun x hx => h1 x (by simp [hx]),h2.2⟩ hv r hr
def SpEq (p : Int) (n : Nat) (R R' : List (List Int)) : Prop:=∀ v,Sp p n R v↔Sp p n R' v
theorem sp_tri (ld : List Int->Nat) {R : List (List Int)} {a : List Int} {k c : Int} (hR : AllV p n R) (ha : Vec p n a) (hk : k * c % p=1) : SpEq p n (R++[addD p k (List.replicate n 0) (redD p ld R a)]) (R++[a]):=by
 have hrest:=redD_vec hp ld hR ha
 have hn:=Vec.addD (p:=p) (k:=k) hp (a:=List.replicate n 0) (n:=n) (by simp) hrest.1
 have hA : AllV p n (R++[a]):=fun x hx => by
  rcases List.mem_append.1 hx with h | h
  . exact hR x h
  . rw [List.mem_singleton.1 h]; exact ha
 have hB : AllV p n (R++[addD p k (List.replicate n 0) (redD p ld R a)]):=fun x hx => by
  rcases List.mem_append.1 hx with h | h
  . exact hR x h
  . rw [List.mem_singleton.1 h]; exact hn
 have hback : addD p c (List.replicate n 0) (addD p k (List.replicate n 0) (redD p ld R a))=redD p ld R a:=by
  have hl:=hrest.1
  rw [addD_addD (n:=n) (by simp) (by simp) hl,addD_z (Vec.zero hp n)]
  refine vec_ext (p:=p) (n:=n) (by rw [addD_len (by simp; omega)]; simp) hl fun i => ?_
  have h:=hrest.2 i
  rw [addD_get (by simp; omega),getD_rep,Int.zero_add]
  obtain ⟨t,e⟩:=emod_wit p (k * c)
  rw [hk] at e
  rw [emod_eq_of (y:=(redD p ld R a).getD i 0) (-t * (redD p ld R a).getD i 0) (by grind),Int.emod_eq_of_lt h.1 h.2]
 intro v
 constructor
 . refine Sp.trans hp hA fun r hr => ?_
   rcases List.mem_append.1 hr with h | h
   . exact Sp.self hp hA (List.mem_append.2 (.inl h))
   . rw [List.mem_singleton.1 h]
     refine Sp.plus hp hA k .zero ?_
     refine (redD_in hp ld hA hR (fun x hx => Sp.self hp hA (List.mem_append.2 (.inl hx))) ha).2 ?_
     exact Sp.self hp hA (List.mem_append.2 (.inr (List.mem_singleton.2 rfl)))
 . refine Sp.trans hp hB fun r hr => ?_
   rcases List.mem_append.1 hr with h | h
   . exact Sp.self hp hB (List.mem_append.2 (.inl h))
   . rw [List.mem_singleton.1 h]
     refine (redD_in hp ld hB hR (fun x hx => Sp.self hp hB (List.mem_append.2 (.inl hx))) ha).1 ?_
     have h9:=Sp.plus hp hB c .zero (Sp.self hp hB (List.mem_append.2 (.inr (List.mem_singleton.2 rfl))))
     rwa [hback] at h9
end
end Abs.Y

namespace Abs.Y
open Go Go.Proofs Abs
set_option maxRecDepth 100000

structure Lds (κ : Nat->Nat) (n : Nat) (ld : List Int->Nat) : Prop where
 inj : ∀ i j,i < n->j < n->κ i=κ j->i=j
 top : ∀ v : List Int,v.length=n->∀ i,v.getD i 0 ≠ 0->v.getD (ld v) 0 ≠ 0∧κ i<=κ (ld v)
theorem lt_of_get {v : List Int} {i : Nat} (h : v.getD i 0 ≠ 0) : i < v.length:=by
 by_cases hi : i < v.length
 . exact hi
 . exact absurd (getD_oob (by omega)) h
theorem Lds.eq {κ : Nat->Nat} {n : Nat} {ld : List Int->Nat} (h : Lds κ n ld) {v : List Int} (hv : v.length=n) {m : Nat} (hm : v.getD m 0 ≠ 0) (hle : ∀ i,v.getD i 0 ≠ 0->κ i<=κ m) : ld v=m:=by
 obtain ⟨h1,h2⟩:=h.top v hv m hm
 have h3:=hle _ h1
 have:=lt_of_get h1
 have:=lt_of_get hm
 exact h.inj _ _ (by omega) (by omega) (by omega)
structure Ech (p : Int) (n : Nat) (ld : List Int->Nat) (R : List (List Int)) : Prop where
 vec : AllV p n R
 one : ∀ r ∈ R,r.getD (ld r) 0=1
 pw : R.Pairwise fun r s => s.getD (ld r) 0=0∧r.getD (ld s) 0=0
theorem Ech.tri {p : Int} {n : Nat} {ld : List Int->Nat} {R : List (List Int)} (h : Ech p n ld R) : Tri ld R:=⟨h.one,h.pw.imp fun h => h.1⟩
theorem Ech.nil {p : Int} {n : Nat} {ld : List Int->Nat} : Ech p n ld []:=⟨fun _ h => (by cases h),fun _ h => (by cases h),.nil⟩
theorem Ech.perm {p : Int} {n : Nat} {ld : List Int->Nat} {R R' : List (List Int)} (h : Ech p n ld R) (e : R.Perm R') : Ech p n ld R' :=
 ⟨fun r hr => h.vec r (e.mem_iff.2 hr),fun r hr => h.one r (e.mem_iff.2 hr),(e.pairwise_iff fun h => ⟨h.2,h.1⟩).1 h.pw⟩
def clr (p : Int) (m : Nat) (rest : List Int) (r : List Int) : List Int:=addD p (p - r.getD m 0) r rest
def invN (p c : Int) : Nat:=if c=1 then 1 else if p=3 then 2 else if c=2 then 3 else if c=3 then 2 else 4
theorem invN_ok {p c : Int} (hp5 : p=2∨p=3∨p=5) (hc : 0 < c∧c < p) : 1<=invN p c∧(invN p c : Int) < p∧c * (invN p c : Int) % p=1∧∀ j : Nat,1<=j->j < invN p c->¬ c * (j : Int) % p=1:=by
 have key : ∀ j : Nat,j < 4->j=0∨j=1∨j=2∨j=3:=by omega
 have : (p=2∧c=1)∨(p=3∧c=1)∨(p=3∧c=2)∨(p=5∧c=1)∨(p=5∧c=2)∨(p=5∧c=3)∨(p=5∧c=4):=by omega
 rcases this with ⟨rfl,rfl⟩ | ⟨rfl,rfl⟩ | ⟨rfl,rfl⟩ | ⟨rfl,rfl⟩ | ⟨rfl,rfl⟩ | ⟨rfl,rfl⟩ | ⟨rfl,rfl⟩ <;>
  refine ⟨by decide,by decide,by decide,fun j h1 h2 => ?_⟩ <;>
  rcases key j (Nat.lt_of_lt_of_le h2 (by decide)) with rfl | rfl | rfl | rfl<;>first | (exact absurd h1 (by decide)) | (exact absurd h2 (by decide)) | decide
section
variable {p : Int} {n : Nat} {κ : Nat->Nat} {ld : List Int->Nat} (hp : 1 < p) (hL : Lds κ n ld)
include hp
include hL
theorem Ech.add {R : List (List Int)} {rest : List Int} {k : Int} (h : Ech p n ld R) (hv : Vec p n rest) (h0 : ∀ r ∈ R,rest.getD (ld r) 0=0) (hnz : rest.getD (ld rest) 0 ≠ 0) (hk : k * rest.getD (ld rest) 0 % p=1) :
 let row:=addD p k (List.replicate n 0) rest
 Vec p n row∧ld row=ld rest∧(∀ r ∈ R,ld (clr p (ld rest) row r)=ld r)∧Ech p n ld (R.map (clr p (ld rest) row)++[row]):=by
 intro row
 have hl:=hv.1
 have hrow : Vec p n row:=Vec.addD (by omega) (a:=List.replicate n 0) (by simp) hl
 have hg : ∀ i,row.getD i 0=k * rest.getD i 0 % p:=fun i => by
  show (addD p k (List.replicate n 0) rest).getD i 0=_
  rw [addD_get (by simp; omega),getD_rep,Int.zero_add]
 have hr0 : ∀ i,row.getD i 0 ≠ 0->rest.getD i 0 ≠ 0:=fun i h1 h2 => h1 (by rw [hg,h2]; simp)
 have hone : row.getD (ld rest) 0=1:=by rw [hg,hk]
 have htop : ∀ i,row.getD i 0 ≠ 0->κ i<=κ (ld rest):=fun i hi => (hL.top rest hl i (hr0 i hi)).2
 have hld : ld row=ld rest:=hL.eq hrow.1 (by rw [hone]; decide) htop
 have hz : ∀ r ∈ R,row.getD (ld r) 0=0:=fun r hr => by rw [hg,h0 r hr]; simp
 have hcg : ∀ r ∈ R,∀ i,(clr p (ld rest) row r).getD i 0=(r.getD i 0 + (p - r.getD (ld rest) 0) * row.getD i 0) % p:=fun r hr i => by
  have:=(h.vec r hr).1
  unfold clr
  rw [addD_get (by have:=hrow.1; omega)]
 have hcv : ∀ r ∈ R,Vec p n (clr p (ld rest) row r):=fun r hr => Vec.addD (by omega) (h.vec r hr).1 hrow.1
 have hc1 : ∀ r ∈ R,∀ s ∈ R,(clr p (ld rest) row r).getD (ld s) 0=r.getD (ld s) 0:=fun r hr s hs => by
  have:=(h.vec r hr).2 (ld s)
  rw [hcg r hr,hz s hs,Int.mul_zero,Int.add_zero,Int.emod_eq_of_lt this.1 this.2]
 have hcl : ∀ r ∈ R,(clr p (ld rest) row r).getD (ld rest) 0=0:=fun r hr => by
  rw [hcg r hr,hone,Int.mul_one,emod_eq_of (y:=0) 1 (by omega)]; simp
 have hcd : ∀ r ∈ R,ld (clr p (ld rest) row r)=ld r:=fun r hr => by
  have hv1:=h.vec r hr
  refine hL.eq (hcv r hr).1 (by rw [hc1 r hr r hr,h.one r hr]; decide) fun i hi => ?_
  by_cases hri : r.getD i 0=0
  . rw [hcg r hr,hri,Int.zero_add] at hi
    by_cases hm : r.getD (ld rest) 0=0
    . rw [hm,Int.sub_zero,Int.mul_emod_right] at hi; exact absurd rfl hi
    . have h1 : row.getD i 0 ≠ 0:=fun h => hi (by rw [h]; simp)
      exact Nat.le_trans (htop i h1) (hL.top r hv1.1 _ hm).2
  . exact (hL.top r hv1.1 i hri).2
 refine ⟨hrow,hld,hcd,⟨fun x hx => ?_,fun x hx => ?_,?_⟩⟩
 . rcases List.mem_append.1 hx with h1 | h1
   . obtain ⟨r,hr,rfl⟩:=List.mem_map.1 h1; exact hcv r hr
   . rw [List.mem_singleton.1 h1]; exact hrow
 . rcases List.mem_append.1 hx with h1 | h1
   . obtain ⟨r,hr,rfl⟩:=List.mem_map.1 h1
     rw [hcd r hr,hc1 r hr r hr]; exact h.one r hr
   . rw [List.mem_singleton.1 h1,hld]; exact hone
 . rw [List.pairwise_append]
   refine ⟨?_,List.pairwise_singleton _ _,fun a ha b hb => ?_⟩
   . rw [List.pairwise_map]
     refine List.Pairwise.imp_of_mem (fun {a b} ha hb hab => ?_) h.pw
     rw [hcd a ha,hcd b hb,hc1 b hb a ha,hc1 a ha b hb]; exact hab
   . obtain ⟨r,hr,rfl⟩:=List.mem_map.1 ha
     rw [List.mem_singleton.1 hb,hcd r hr,hld]
     exact ⟨hz r hr,hcl r hr⟩
end
section
variable {p : Int} {n : Nat} (hp : 0 < p)
include hp
theorem sp_clr {R : List (List Int)} {row : List Int} (m : Nat) (hR : AllV p n R) (hrow : Vec p n row) : SpEq p n (R.map (clr p m row)++[row]) (R++[row]):=by
 have hA : AllV p n (R++[row]):=fun x hx => by
  rcases List.mem_append.1 hx with h | h
  . exact hR x h
  . rw [List.mem_singleton.1 h]; exact hrow
 have hB : AllV p n (R.map (clr p m row)++[row]):=fun x hx => by
  rcases List.mem_append.1 hx with h | h
  . obtain ⟨r,hr,rfl⟩:=List.mem_map.1 h; exact Vec.addD hp (hR r hr).1 hrow.1
  . rw [List.mem_singleton.1 h]; exact hrow
 have s1 : Sp p n (R++[row]) row:=Sp.self hp hA (List.mem_append.2 (.inr (List.mem_singleton.2 rfl)))
 have s2 : Sp p n (R.map (clr p m row)++[row]) row:=Sp.self hp hB (List.mem_append.2 (.inr (List.mem_singleton.2 rfl)))
 intro v
 constructor
 . refine Sp.trans hp hA fun x hx => ?_
   rcases List.mem_append.1 hx with h | h
   . obtain ⟨r,hr,rfl⟩:=List.mem_map.1 h
     exact Sp.plus hp hA _ (Sp.self hp hA (List.mem_append.2 (.inl hr))) s1
   . rw [List.mem_singleton.1 h]; exact s1
 . refine Sp.trans hp hB fun x hx => ?_
   rcases List.mem_append.1 hx with h | h
   . have h1:=Sp.plus hp hB (-(p - x.getD m 0)) (Sp.self hp hB (List.mem_append.2 (.inl (List.mem_map_of_mem (f:=clr p m row) h)))) s2
     unfold clr at h1
     rwa [addD_same (n:=n) (hR x h).1 hrow.1,addD_mul 0 (by omega) (hR x h) hrow.1] at h1
   . rw [List.mem_singleton.1 h]; exact s2
theorem SpEq.perm {R R' : List (List Int)} (hR : AllV p n R) (e : R.Perm R') : SpEq p n R R':=by
 have hR' : AllV p n R':=fun r hr => hR r (e.mem_iff.2 hr)
 intro v
 exact ⟨Sp.trans hp hR' fun r hr => Sp.self hp hR' (e.mem_iff.1 hr),Sp.trans hp hR fun r hr => Sp.self hp hR (e.mem_iff.2 hr)⟩
end
end Abs.Y

namespace Abs.Y
open Go Go.Proofs Abs
set_option maxRecDepth 100000

def idxI (p : Int->Bool) (xs : List Int) : Int:=match xs.findIdx? p with | some i => (i : Nat) | none => -1
def subI (a b : List Int) : Bool:=!(a.any fun x => !(b.any (· == x)))
end Abs.Y

namespace Abs.Y
open Go Go.Proofs Abs
set_option maxRecDepth 100000

def okCnf (v : Int) (cs : List (List Int)) : Bool:=(okVars v && decide (cs.length<=60)) && cs.all (okClause v)
def okEarlier (v : Int) (steps : List Step) (k i : Int) : Bool:=(decide (0<=i) && decide (i<=k - 1)) && okClause v (steps.getD i.toNat Step.z).c
end Abs.Y

namespace Abs.Y
open Go Go.Proofs Abs
set_option maxRecDepth 100000

def putI (c : List Int) (l : Int) : List Int:=c.takeWhile (fun x => decide (varI x < varI l))++l :: c.dropWhile (fun x => decide (varI x < varI l))
def joinI : List Int->List Int->Option (List Int)
 | a,[] => some a
 | a,x :: r => if a.any (· == IntKind.i64.wrap (0 - x)) then none else joinI (if a.any (· == x) then a else putI a x) r
def optL (o : Option (List Int)) : List Int:=match o with | some c => c | none => []
def resolveI (a b : List Int) (v : Int) : Option (List Int) :=
 if (a.any (· == v) && b.any (· == IntKind.i64.wrap (0 - v)))=true then joinI (a.filter fun l => varI l != v) (b.filter fun l => varI l != v) else none
end Abs.Y
