/- What functions of this program compute, as contracts over plain data, with what the proofs need of them. No condition. -/
import Derived.Test.YtoppjihdipidiaaD16
import Derived.Test.YtoppjihdipidiaaD9
set_option linter.all false
namespace Abs
open Go Go.Proofs
theorem Ctr.boxD1 {P : Program} {f : FuncId} {xs : List D} {e : TypeId} {x : D} {cells : List AV} (hc : cellsD cells x.cells) (h : Ctr P f xs true (.p 0 0) [(0, .box e cells)]) : Ctr P f xs true (.d (.ptr x)) [] := by
  refine ⟨h.1, fun S w vs hl hr => (h.2 S w vs hl hr).mono fun en w' ⟨v, he, hf, β, φ, hrel, hobj, hown, hdis⟩ => ⟨v, he, hf, β, φ, ?_, by simp [lk], by simp [lk], by simp [lk]⟩⟩
  obtain ⟨b, c, hb, hrd⟩ := rd_of_box (S' := free (fun g => w.heap.size ≤ g ∨ (true = true ∧ S g)) φ []) (hobj 0 (.box e cells) (by simp [lk])) hc (fun g hg _ => ⟨hg.1, by simp [lk]⟩) fun g hg => ⟨.inl (hown 0 (.box e cells) g (by simp [lk]) hg), by simp [lk]⟩
  cases hrel with
  | p h => rw [hb] at h; cases h; exact .d (by simpa using hrd)
theorem ret_p1 {P : Program} {t j : Nat} {e : TypeId} {cells : List AV} {st : St} (js : List Nat) (h : lk t (frzs js st).s = some (.p j 0)) (hj : lk j (frzs js st).o = some (.box e cells)) (hc : AV.renL (fun _ => j) cells = cells) :
    retQ P [.tmp t] true (.p 0 0) [(0, .box e cells)] .ret st := by
  refine .inr ⟨rfl, js, ?_⟩
  simp only [retO, resV, h]
  exact ⟨trivial, .one j rfl (by rw [hj, AO.ren, hc]), .inl trivial⟩
end Abs
namespace Abs.Y
open Go Go.Proofs Abs
open Nat (reduceEqDiff reduceLT reduceAdd reduceMul reduceSub reduceLeDiff reduceSubDiff)
set_option maxRecDepth 100000

section
variable {p : Int} {u : Nat} (hp : p = 2 ∨ p = 3 ∨ p = 5) (hu : u ≤ 6)
def finE (cs : List (List Int)) (d : Int) : EchS := (keepE (p := p) (u := u) hp hu).fin cs d ⟨[], [], 0⟩
theorem finE_ok (cs : List (List Int)) (d : Int) : EchI p u (finE (p := p) (u := u) hp hu cs d) ∧ ∀ v, Sp p (2 ^ u) (finE (p := p) (u := u) hp hu cs d).R v ↔ Mn p u cs d v := by
  have h := (keepE (p := p) (u := u) hp hu).fin_ok (cs := cs) (d := d) (by omega) hu (s := ⟨[], [], 0⟩) EchI.nil rfl
  unfold finE
  generalize (keepE (p := p) (u := u) hp hu).fin cs d ⟨[], [], 0⟩ = X at *
  exact h
def rowsS (cs : List (List Int)) (d : Int) : List (List Int) := sortV (finE (p := p) (u := u) hp hu cs d).R (Lib.bitLen (finE (p := p) (u := u) hp hu cs d).R.length)
set_option maxHeartbeats 16000000 in
theorem span_ok {cs : List (List Int)} (hok : okCnf u cs = true) (d : Int) :
    Ctr Try.prog 104 [.ptr (D.alg p u cs (cs.map (clauseD p u))), .int .i64 d] true
      (.d (.ptr (D.ech p u (rowsS (p := p) (u := u) hp hu cs d) (List.replicate (rowsS (p := p) (u := u) hp hu cs d).length []) (finE (p := p) (u := u) hp hu cs d).many))) [] := by
  have h2 := pow_le6 hu
  have hp1 : 1 < p ∧ p ≤ 5 := by omega
  have h60 := cnf_len hok
  refine Ctr.boxD1 (e := 147) (cells := [.d (.int .i64 p), .d (.int .i64 u), .d (.slice ((rowsS (p := p) (u := u) hp hu cs d).map D.ints)), .d (.slice ((List.replicate (rowsS (p := p) (u := u) hp hu cs d).length []).map D.ints)), .d (.int .i64 (finE (p := p) (u := u) hp hu cs d).many)]) ⟨.inl rfl, .inl rfl, .inl rfl, .inl rfl, .inl rfl, trivial⟩ ?_
  have hput : ∀ (e : EchS) (a : List Int), (keepE (p := p) (u := u) hp hu).put e a = (addE p u e a, !decide (ldI (restE p e a) < 0)) := fun _ _ => rfl
  have hinv : ∀ e : EchS, (keepE (p := p) (u := u) hp hu).inv e = EchI p u e := fun _ => rfl
  have hql : (cs.map (clauseD p u)).length = cs.length := by simp
  refine Ctr.of (n := 66) (rs := [.tmp 4]) Try.func104 rfl rfl Try.ntmps104 rfl rfl (by kernel_rfl) Try.checked.mixed ?_
  simp (disch := first | omega | decide +kernel) only [D.ints, D.alg, go_sem, reduceEqDiff, reduceLT, reduceAdd, reduceMul, reduceSub, ↓reduceIte, reduceCtorEq, reduceLeDiff, reduceSubDiff, Nat.reduceBEq]
  (repeat' (first | (refine gsel_split (fun h => ?_) (fun h => ?_) <;> (have h' := h) <;> (try simp only [decide_eq_true_eq, decide_eq_false_iff_not, Bool.not_eq_true', Bool.not_eq_false', bne_iff_ne, ne_eq, beq_iff_eq, bne_eq_false_iff_eq, beq_eq_false_iff_ne, Int.ofNat_lt, Int.ofNat_le, Int.not_lt, Int.not_le, Decidable.not_not, Bool.and_eq_true, Bool.or_eq_true, Bool.or_eq_false_iff, gt_iff_lt, ge_iff_le] at h') <;> first | (exfalso; omega) | (simp (disch := first | omega | decide +kernel) only [h, D.ints, go_sem, reduceEqDiff, reduceLT, reduceAdd, reduceMul, reduceSub, ↓reduceIte, reduceCtorEq, reduceLeDiff, reduceSubDiff, Nat.reduceBEq] <;> clear h)) | ((first | refine hE _ _ ret_ne ?_ | refine hE _ _ exit_ne ?_) <;> try simp (disch := first | omega | decide +kernel) only [D.ints, go_sem, reduceEqDiff, reduceLT, reduceAdd, reduceMul, reduceSub, ↓reduceIte, reduceCtorEq, reduceLeDiff, reduceSubDiff, Nat.reduceBEq]) | (refine hN _ ?_ ?_ Wk.kk) | (with_reducible refine And.intro ?_ ?_) | (with_reducible omega) | (exact ok_ints) | (exact cells_ints) | (exact no_mem) | (with_reducible exact plain_ints) | (refine le_maxLen ?_; omega) | (refine List.forall_mem_cons.2 ⟨?_, ?_⟩) | (simp only [go_sem, Nat.reduceAdd, Nat.reduceLT, List.mem_cons, List.not_mem_nil, forall_eq]; done)))
  refine Ok.loopN [65, 64, 63, 62, 61, 60, 59, 58, 57, 56, 55, 54, 53, 52, 51, 50, 49, 48, 47, 46, 45, 44, 43, 42, 41, 40, 39, 38, 37, 36, 35, 34, 33, 32, 31, 30, 29, 28, 27, 26, 25, 24, 23, 22, 21, 18, 17, 16, 15, 14, 13, 12, 11, 10, 9, 8, 7, 6, 3, 2] (fun i (_ : EchS) => [(21, .d (.int .i64 (i : Nat)))]) (fun _ (e : EchS) => echN 14 900000001 900000002 p u e) cs.length
    (fun i e => EchI p u e ∧ e = ((keepE (p := p) (u := u) hp hu).puts (⟨[], [], 0⟩, false) (clausesD p u d (cs.take i))).1) ⟨[], [], 0⟩ ⟨EchI.nil, rfl⟩
    ((Wk.nilObj 900000001 14 2 rfl rfl (by simp) (by decide) (e := 92) (k := 1) (by decide)).trans ((Wk.nilObj 900000002 14 3 (by simp (disch := first | omega | decide +kernel) only [setL, go_sem, reduceEqDiff, reduceLT, reduceAdd, reduceMul, reduceSub, ↓reduceIte, reduceCtorEq, reduceLeDiff, reduceSubDiff, Nat.reduceBEq]; rfl) rfl (by simp [setL]) (by decide) (e := 92) (k := 1) (by decide)).trans
      ((Wk.deep 900000002 (by simp (disch := first | omega | decide +kernel) only [setL, go_sem, reduceEqDiff, reduceLT, reduceAdd, reduceMul, reduceSub, ↓reduceIte, reduceCtorEq, reduceLeDiff, reduceSubDiff, Nat.reduceBEq]; rfl) (by simp [flat])).trans (by refine Wk.auto ?_ ?_ <;> simp [extraK, lk, killL, St.kill, wipeO, wipeS, AV.has, AV.hasL, AO.wipe, List.map_set, updSt, insL, dropS, ins, setL, D.ints])))) ?_
  rintro R0 i e hN hE hi ⟨he, hes⟩
  by_cases hlt : i < cs.length
  · have hsu := clausesD_succ p u d cs hlt
    have hCv := Vec.clause hp1.1 u (cs.getD i [])
    have hei := el_intss (xs := cs) hlt
    have hei2 : el ((cs.map (clauseD p u)).map D.ints) i = .slice ((clauseD p u (cs.getD i [])).map (.int .i64)) := by
      rw [el_intss (by omega), getD_mapz (clauseD p u) [] [] cs hlt]
    by_cases hle : ((cs.getD i []).length : Int) ≤ d
    · rw [if_pos hle] at hsu
      have hs2 : addE p u e (clauseD p u (cs.getD i [])) = ((keepE (p := p) (u := u) hp hu).puts (⟨[], [], 0⟩, false) (clausesD p u d (cs.take (i + 1)))).1 := by
        rw [hsu, Keep.puts_snoc, ← hes, hput]
      have he2 := (addE_ok hp hu he hCv).1
      have c2 := echAdd_ok hp hu he hCv
      clear hes
      generalize clauseD p u (cs.getD i []) = C at *
      generalize addE p u e C = e2 at *
      simp (disch := first | omega | decide +kernel) only [D.ints, hei, hei2, go_sem, reduceEqDiff, reduceLT, reduceAdd, reduceMul, reduceSub, ↓reduceIte, reduceCtorEq, reduceLeDiff, reduceSubDiff, Nat.reduceBEq]
      (repeat' (first | (refine gsel_split (fun h => ?_) (fun h => ?_) <;> (have h' := h) <;> (try simp only [decide_eq_true_eq, decide_eq_false_iff_not, Bool.not_eq_true', Bool.not_eq_false', bne_iff_ne, ne_eq, beq_iff_eq, bne_eq_false_iff_eq, beq_eq_false_iff_ne, Int.ofNat_lt, Int.ofNat_le, Int.not_lt, Int.not_le, Decidable.not_not, Bool.and_eq_true, Bool.or_eq_true, Bool.or_eq_false_iff, gt_iff_lt, ge_iff_le] at h') <;> first | (exfalso; omega) | (simp (disch := first | omega | decide +kernel) only [h, D.ints, hei, hei2, go_sem, reduceEqDiff, reduceLT, reduceAdd, reduceMul, reduceSub, ↓reduceIte, reduceCtorEq, reduceLeDiff, reduceSubDiff, Nat.reduceBEq] <;> clear h)) | ((first | refine callX_mut [14, 900000001, 900000002] [14, 900000001, 900000002] [900000001, 900000002] (c2) ⟨.inl rfl, .inl rfl, trivial⟩ ⟨rfl, rfl, rfl, trivial⟩ rfl (by simp [dstB]) ?_ | refine hE _ _ ret_ne ?_ | refine hE _ _ exit_ne ?_) <;> try simp (disch := first | omega | decide +kernel) only [D.ints, hei, hei2, go_sem, reduceEqDiff, reduceLT, reduceAdd, reduceMul, reduceSub, ↓reduceIte, reduceCtorEq, reduceLeDiff, reduceSubDiff, Nat.reduceBEq]) | (refine hN _ ?_ ?_ Wk.kk) | (with_reducible refine And.intro ?_ ?_) | (with_reducible omega) | (exact ok_ints) | (exact cells_ints) | (exact no_mem) | (with_reducible exact plain_ints) | (refine le_maxLen ?_; omega) | (refine List.forall_mem_cons.2 ⟨?_, ?_⟩) | (simp only [go_sem, Nat.reduceAdd, Nat.reduceLT, List.mem_cons, List.not_mem_nil, forall_eq]; done)))
      all_goals (first | omega | (refine hN e2 _ hlt ⟨he2, hs2⟩ (by refine Wk.auto ?_ ?_ <;> simp [extraK, lk, killL, St.kill, wipeO, wipeS, AV.has, AV.hasL, AO.wipe, List.map_set, updSt, insL, dropS, ins, D.ints]); done))
    · rw [if_neg hle, List.append_nil] at hsu
      rw [← hsu] at hes
      simp (disch := first | omega | decide +kernel) only [D.ints, hei, hei2, go_sem, reduceEqDiff, reduceLT, reduceAdd, reduceMul, reduceSub, ↓reduceIte, reduceCtorEq, reduceLeDiff, reduceSubDiff, Nat.reduceBEq]
      (repeat' (first | (refine gsel_split (fun h => ?_) (fun h => ?_) <;> (have h' := h) <;> (try simp only [decide_eq_true_eq, decide_eq_false_iff_not, Bool.not_eq_true', Bool.not_eq_false', bne_iff_ne, ne_eq, beq_iff_eq, bne_eq_false_iff_eq, beq_eq_false_iff_ne, Int.ofNat_lt, Int.ofNat_le, Int.not_lt, Int.not_le, Decidable.not_not, Bool.and_eq_true, Bool.or_eq_true, Bool.or_eq_false_iff, gt_iff_lt, ge_iff_le] at h') <;> first | (exfalso; omega) | (simp (disch := first | omega | decide +kernel) only [h, D.ints, hei, hei2, go_sem, reduceEqDiff, reduceLT, reduceAdd, reduceMul, reduceSub, ↓reduceIte, reduceCtorEq, reduceLeDiff, reduceSubDiff, Nat.reduceBEq] <;> clear h)) | ((first | refine hE _ _ ret_ne ?_ | refine hE _ _ exit_ne ?_) <;> try simp (disch := first | omega | decide +kernel) only [D.ints, hei, hei2, go_sem, reduceEqDiff, reduceLT, reduceAdd, reduceMul, reduceSub, ↓reduceIte, reduceCtorEq, reduceLeDiff, reduceSubDiff, Nat.reduceBEq]) | (refine hN _ ?_ ?_ Wk.kk) | (with_reducible refine And.intro ?_ ?_) | (with_reducible omega) | (exact ok_ints) | (exact cells_ints) | (exact no_mem) | (with_reducible exact plain_ints) | (refine le_maxLen ?_; omega) | (refine List.forall_mem_cons.2 ⟨?_, ?_⟩) | (simp only [go_sem, Nat.reduceAdd, Nat.reduceLT, List.mem_cons, List.not_mem_nil, forall_eq]; done)))
      all_goals (first | omega | (refine hN e _ hlt ⟨he, hes⟩ (by refine Wk.auto ?_ ?_ <;> simp [extraK, lk, killL, St.kill, wipeO, wipeS, AV.has, AV.hasL, AO.wipe, List.map_set, updSt, insL, dropS, ins, D.ints]); done))
  · obtain rfl : i = cs.length := by omega
    rw [List.take_length] at hes
    obtain ⟨E0, hE0⟩ : ∃ E0, E0 = (keepE (p := p) (u := u) hp hu).base cs d ⟨[], [], 0⟩ := ⟨_, rfl⟩
    have hLb : e = E0 := by rw [hes, hE0]; rfl
    rw [← hLb] at hE0
    clear hes hN hLb
    have hfin : ((keepE (p := p) (u := u) hp hu).it d e 65).1 = finE (p := p) (u := u) hp hu cs d := by unfold finE Keep.fin; rw [hE0]
    have hit := fun i => (keepE (p := p) (u := u) hp hu).it_inv hp1.1 (d := d) (s := e) he i
    simp only [hinv] at hit
    have hbd := fun i => (keepE (p := p) (u := u) hp hu).it_bd hp1.1 hu (d := d) (s := e) he (i := i)
    have hend := fun i => (keepE (p := p) (u := u) hp hu).it_end hp1.1 hu (d := d) (s := e) he (i := i)
    simp only [hfin] at hend
    clear hfin hE0
    simp (disch := first | omega | decide +kernel) only [D.ints, go_sem, reduceEqDiff, reduceLT, reduceAdd, reduceMul, reduceSub, ↓reduceIte, reduceCtorEq, reduceLeDiff, reduceSubDiff, Nat.reduceBEq]
    (repeat' (first | (refine gsel_split (fun h => ?_) (fun h => ?_) <;> (have h' := h) <;> (try simp only [decide_eq_true_eq, decide_eq_false_iff_not, Bool.not_eq_true', Bool.not_eq_false', bne_iff_ne, ne_eq, beq_iff_eq, bne_eq_false_iff_eq, beq_eq_false_iff_ne, Int.ofNat_lt, Int.ofNat_le, Int.not_lt, Int.not_le, Decidable.not_not, Bool.and_eq_true, Bool.or_eq_true, Bool.or_eq_false_iff, gt_iff_lt, ge_iff_le] at h') <;> first | (exfalso; omega) | (simp (disch := first | omega | decide +kernel) only [h, D.ints, go_sem, reduceEqDiff, reduceLT, reduceAdd, reduceMul, reduceSub, ↓reduceIte, reduceCtorEq, reduceLeDiff, reduceSubDiff, Nat.reduceBEq] <;> clear h)) | ((first | refine hE _ _ ret_ne ?_ | refine hE _ _ exit_ne ?_) <;> try simp (disch := first | omega | decide +kernel) only [D.ints, go_sem, reduceEqDiff, reduceLT, reduceAdd, reduceMul, reduceSub, ↓reduceIte, reduceCtorEq, reduceLeDiff, reduceSubDiff, Nat.reduceBEq]) | (refine hN _ ?_ ?_ Wk.kk) | (with_reducible refine And.intro ?_ ?_) | (with_reducible omega) | (exact ok_ints) | (exact cells_ints) | (exact no_mem) | (with_reducible exact plain_ints) | (refine le_maxLen ?_; omega) | (refine List.forall_mem_cons.2 ⟨?_, ?_⟩) | (simp only [go_sem, Nat.reduceAdd, Nat.reduceLT, List.mem_cons, List.not_mem_nil, forall_eq]; done)))
    all_goals (first | omega | skip)
    refine Ok.weak (Wk.swp 8 9) ?_
    simp (disch := first | omega | decide +kernel) only [swpS, swpO, swp, AV.ren, AV.renL, AO.ren, go_sem, reduceEqDiff, reduceLT, reduceAdd, reduceMul, reduceSub, ↓reduceIte, reduceCtorEq, reduceLeDiff, reduceSubDiff, Nat.reduceBEq]
    refine Ok.loopN [65, 64, 63, 62, 61, 60, 59, 58, 57, 56, 55, 54, 53, 52, 51, 50, 49, 48, 47, 46, 45, 44, 43, 42, 41, 40, 39, 38, 37, 36, 35, 34, 33, 32, 31, 30, 29, 28, 27, 26, 25, 24, 23, 22, 21, 20, 19, 18, 17, 16, 15, 14, 13, 12, 11, 10, 9, 8, 7, 6, 3, 2] (fun _ (_ : EchS × Bool) => [(8, .p 9 0)]) (fun _ (q : EchS × Bool) => [(9, .box 4 [.d (.bool q.2)]), (900000002, .dp (some (92, 1)) (q.1.M.map D.ints) none), (900000001, .arr 92 1 (q.1.R.map D.ints)), (14, .box 147 [.d (.int .i64 p), .d (.int .i64 u), .sl 900000001, .sl 900000002, .d (.int .i64 (q.1.many : Nat))])]) 66
      (fun i q => q = (keepE (p := p) (u := u) hp hu).it d e i) (e, true) rfl (by refine Wk.auto ?_ ?_ <;> simp [extraK, lk, killL, St.kill, wipeO, wipeS, AV.has, AV.hasL, AO.wipe, List.map_set, updSt, insL, dropS, ins, D.ints]) ?_
    rintro R1 k ⟨A, b⟩ hN hE hk hq
    have hAi := hit k
    have hbk := hbd k
    have hek := hend k
    have hqs : (keepE (p := p) (u := u) hp hu).it d e (k + 1) = (keepE (p := p) (u := u) hp hu).puts (A, false) (prods p u d A.R) := by
      show (keepE (p := p) (u := u) hp hu).round d ((keepE (p := p) (u := u) hp hu).it d e k).1 = _
      rw [← hq]; rfl
    rw [← hq] at hAi hbk hek
    simp only at hAi hbk hek
    clear hq hit hbd hend
    cases b with
    | false =>
      have e1 := hek rfl
      have hbd2 := (hAi.toP hu).bd
      have hl : ∀ x ∈ A.R, x.length ≤ 64 := fun x hx => by have := (hAi.ech.vec x hx).1; omega
      have c1 := sortRows_ok A.R (by omega) hl
      have hsl := sortV_length hl (Lib.bitLen A.R.length)
      rw [show rowsS (p := p) (u := u) hp hu cs d = sortV A.R (Lib.bitLen A.R.length) by unfold rowsS; rw [← e1], ← e1] at hE
      clear hek hbk e1
      generalize sortV A.R (Lib.bitLen A.R.length) = S at *
      have er : (List.replicate S.length ([] : List Int)).map D.ints = List.replicate S.length (D.slice []) := by rw [List.map_replicate]; rfl
      rw [er] at hE
      simp (disch := first | omega | decide +kernel) only [D.ints, go_sem, reduceEqDiff, reduceLT, reduceAdd, reduceMul, reduceSub, ↓reduceIte, reduceCtorEq, reduceLeDiff, reduceSubDiff, Nat.reduceBEq]
      (repeat' (first | (refine gsel_split (fun h => ?_) (fun h => ?_) <;> (have h' := h) <;> (try simp only [decide_eq_true_eq, decide_eq_false_iff_not, Bool.not_eq_true', Bool.not_eq_false', bne_iff_ne, ne_eq, beq_iff_eq, bne_eq_false_iff_eq, beq_eq_false_iff_ne, Int.ofNat_lt, Int.ofNat_le, Int.not_lt, Int.not_le, Decidable.not_not, Bool.and_eq_true, Bool.or_eq_true, Bool.or_eq_false_iff, gt_iff_lt, ge_iff_le] at h') <;> first | (exfalso; omega) | (simp (disch := first | omega | decide +kernel) only [h, D.ints, go_sem, reduceEqDiff, reduceLT, reduceAdd, reduceMul, reduceSub, ↓reduceIte, reduceCtorEq, reduceLeDiff, reduceSubDiff, Nat.reduceBEq] <;> clear h)) | ((first | refine callX_mut [900000001] [900000001] [] (c1) ⟨.inl rfl, .inl rfl, trivial⟩ ⟨rfl, trivial⟩ rfl (by simp [dstB]) ?_ | refine hE _ _ ret_ne ?_ | refine hE _ _ exit_ne ?_) <;> try simp (disch := first | omega | decide +kernel) only [D.ints, go_sem, reduceEqDiff, reduceLT, reduceAdd, reduceMul, reduceSub, ↓reduceIte, reduceCtorEq, reduceLeDiff, reduceSubDiff, Nat.reduceBEq]) | (refine hN _ ?_ ?_ Wk.kk) | (with_reducible refine And.intro ?_ ?_) | (with_reducible omega) | (exact ok_ints) | (exact cells_ints) | (exact no_mem) | (with_reducible exact plain_ints) | (refine le_maxLen ?_; omega) | (refine List.forall_mem_cons.2 ⟨?_, ?_⟩) | (simp only [go_sem, Nat.reduceAdd, Nat.reduceLT, List.mem_cons, List.not_mem_nil, forall_eq]; done)))
      all_goals (first | omega | exact ret_p1 [900000001, 62] rfl rfl rfl)
    | true =>
      have hk64 := hbk rfl
      clear hbk hek
      have hAl := (hAi.toP hu).bd
      have c1 := cloneRows_ok A.R (by omega)
      have c2 := liftedAdd_ok (cs := cs) (q := cs.map (clauseD p u)) hp hu hAi.ech.vec hAl hAi d false
      rw [← hqs] at c2
      have hN1 := hN
      clear hN
      simp (disch := first | omega | decide +kernel) only [D.ints, go_sem, reduceEqDiff, reduceLT, reduceAdd, reduceMul, reduceSub, ↓reduceIte, reduceCtorEq, reduceLeDiff, reduceSubDiff, Nat.reduceBEq]
      (repeat' (first | (refine gsel_split (fun h => ?_) (fun h => ?_) <;> (have h' := h) <;> (try simp only [decide_eq_true_eq, decide_eq_false_iff_not, Bool.not_eq_true', Bool.not_eq_false', bne_iff_ne, ne_eq, beq_iff_eq, bne_eq_false_iff_eq, beq_eq_false_iff_ne, Int.ofNat_lt, Int.ofNat_le, Int.not_lt, Int.not_le, Decidable.not_not, Bool.and_eq_true, Bool.or_eq_true, Bool.or_eq_false_iff, gt_iff_lt, ge_iff_le] at h') <;> first | (exfalso; omega) | (simp (disch := first | omega | decide +kernel) only [h, D.ints, D.alg, spanO, echO, go_sem, reduceEqDiff, reduceLT, reduceAdd, reduceMul, reduceSub, ↓reduceIte, reduceCtorEq, reduceLeDiff, reduceSubDiff, Nat.reduceBEq] <;> clear h)) | ((first | refine callX_mut [900000001] [900000001, 900000046] [900000046] (c1) ⟨.inl rfl, trivial⟩ ⟨rfl, trivial⟩ rfl (by simp [dstB]) ?_ | refine callX_mut [14, 900000001, 900000002, 5, 9, 900000046] [14, 900000001, 900000002, 5, 9, 900000046] [900000001, 900000002] (c2) ⟨.inl rfl, .inl rfl, .inl rfl, .inl rfl, trivial⟩ ⟨rfl, rfl, rfl, rfl, rfl, rfl, trivial⟩ rfl (by simp [dstB]) ?_ | refine hE _ _ ret_ne ?_ | refine hE _ _ exit_ne ?_) <;> try simp (disch := first | omega | decide +kernel) only [D.ints, D.alg, spanO, echO, go_sem, reduceEqDiff, reduceLT, reduceAdd, reduceMul, reduceSub, ↓reduceIte, reduceCtorEq, reduceLeDiff, reduceSubDiff, Nat.reduceBEq]) | (refine hN _ ?_ ?_ Wk.kk) | (with_reducible refine And.intro ?_ ?_) | (with_reducible omega) | (exact ok_ints) | (exact cells_ints) | (exact no_mem) | (with_reducible exact plain_ints) | (refine le_maxLen ?_; omega) | (refine List.forall_mem_cons.2 ⟨?_, ?_⟩) | (simp only [go_sem, Nat.reduceAdd, Nat.reduceLT, List.mem_cons, List.not_mem_nil, forall_eq]; done)))
      all_goals (first | omega | skip)
      all_goals (refine hN1 ((keepE (p := p) (u := u) hp hu).it d e (k + 1)) _ (by omega) rfl ((Wk.swp 8 9).trans (by refine Wk.auto ?_ ?_ <;> simp [extraK, lk, killL, St.kill, wipeO, wipeS, AV.has, AV.hasL, AO.wipe, List.map_set, updSt, insL, dropS, ins, swpS, swpO, swp, AV.ren, AV.renL, AO.ren])))
end
end Abs.Y

namespace Abs.Y
open Go Go.Proofs Abs
open Nat (reduceEqDiff reduceLT reduceAdd reduceMul reduceSub reduceLeDiff reduceSubDiff)
set_option maxRecDepth 100000

structure SpanI (p : Int) (u : Nat) (cs : List (List Int)) (d : Int) (R M : List (List Int)) (many : Nat) : Prop where
  ech : Ech p (2 ^ u) ldG R
  sp : ∀ v, Sp p (2 ^ u) R v ↔ Mn p u cs d v
  toP : EchP p u R M many
theorem span_ex {p : Int} {u : Nat} (hp : p = 2 ∨ p = 3 ∨ p = 5) (hu : u ≤ 6) {cs : List (List Int)} (hok : okCnf u cs = true) (d : Int) :
    ∃ R M many, SpanI p u cs d R M many ∧ R.length = (basR hp hu cs d).length ∧ Ctr Try.prog 104 [.ptr (D.alg p u cs (cs.map (clauseD p u))), .int .i64 d] true (.d (.ptr (D.ech p u R M many))) [] := by
  have h64 := pow_le6 hu
  obtain ⟨h1, h2⟩ := finE_ok (p := p) (u := u) hp hu cs d
  have c := span_ok (p := p) (u := u) hp hu hok d
  have hl : ∀ x ∈ (finE (p := p) (u := u) hp hu cs d).R, x.length ≤ 64 := fun x hx => by have := (h1.ech.vec x hx).1; omega
  have hpm : (rowsS (p := p) (u := u) hp hu cs d).Perm (finE (p := p) (u := u) hp hu cs d).R := sortV_perm hl _
  have hb := basR_ok hp hu cs d
  have hbd := ech_bd h64 h1.ech
  have hm := h1.many
  generalize rowsS (p := p) (u := u) hp hu cs d = R at *
  generalize finE (p := p) (u := u) hp hu cs d = e at *
  have hE : Ech p (2 ^ u) ldG R := h1.ech.perm hpm.symm
  have hS : ∀ v, Sp p (2 ^ u) R v ↔ Mn p u cs d v := fun v => (SpEq.perm (by omega) hE.vec hpm v).trans (h2 v)
  refine ⟨R, _, _, ⟨hE, hS, ⟨hE.vec, fun r hr => hE.nz hr, by simp, fun m hm => ?_, by have := hpm.length_eq; omega, by omega⟩⟩, ?_, c⟩
  · rw [List.eq_of_mem_replicate hm]
    exact ⟨by simp, ⟨rfl, fun i => by simp; omega⟩⟩
  · exact ech_len (by omega) h64 hE hb.1.ech fun v => (hS v).trans (hb.2 v).symm
def askB (p v : Int) (cs : List (List Int)) : Bool := primeB p v && okCnf v cs
section
variable {p : Int} {u : Nat} (hp : p = 2 ∨ p = 3 ∨ p = 5) (hu : u ≤ 6)
include hp hu
end
end Abs.Y
