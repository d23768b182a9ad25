/- What functions of this program compute, as contracts over plain data, with what the proofs need of them. No condition. -/
import Derived.Test.YtcpflbfcglcjfaaE14
import Derived.Test.YtcpflbfcglcjfaaM9x
set_option linter.all false
namespace Abs
open Go Go.RowKit
theorem Ok.seqA1 {P : Program} {N : Nat} {x y : Code} {Q : Exit -> St -> Prop} {st : St} (Sc : St) (h1 : Ok P N y Q Sc) (h2 : Ok P N x (fun e s => (e = .normal ∧ Wk N s Sc) ∨ (e ≠ .normal ∧ Q e s)) st) : Ok P N (.seq x y) Q st :=
 Ok.seq (h2.mono fun e s h => by
  cases e with
  | normal =>
    rcases h with ⟨_, h⟩ | ⟨h, _⟩
    . exact Ok.weak h h1
    . exact absurd rfl h
  | _ =>
    rcases h with ⟨h, _⟩ | ⟨_, h⟩
    . cases h
    . exact h)
theorem Ok.condT {P : Program} {N : Nat} {c : Operand} {x y : Code} {Q : Exit -> St -> Prop} {st : St} (hc : ev st c = some (.d (.bool true))) (h : Ok P N x Q st) : Ok P N (.cond c x y) Q st := fun h1 h2 Z B M w0 a w hs => by
 simp only [codeOK, Bool.and_eq_true_iff] at h1
 have he : a.eval c = .bool true := by obtain ⟨β, φ, hB⟩ := hs; exact ev_bool hB hc
 exact ⟨true, he, fun _ => h h1.1 h2 Z B M w0 a w hs, fun e => nomatch e⟩
theorem ret_cbdE {P : Program} {a j u : Nat} {t e : TypeId} {cells : List AV} {ds : List D} {y : D} {st : St} (h : lk a st.s = some (.p j 0)) (h' : lk u st.s = some (.d y)) (hj : lk j st.o = some (.box e cells)) (hag : aggT P t = true) (hn : P.cellsOf t = cells.length) (hd : allD cells = some ds)
 (hu : (P.underlying t).isSome = true) (hp : (D.agg ds).plain = true) (hy : y.plain = true) : retQ P [.cell a t, .tmp u] false (.tup [.d (.agg ds), .d y]) [] .ret st := by
 refine .inl ?_
 have hl : (lk a st.s).bind (loadV P st.o t) = some (0 + P.cellsOf t <= cells.length ∧ (P.underlying t).isSome = true, .d (.agg ds)) := by
  rw [h, Option.bind_some, loadV, hj]
  simp only [hag, if_true, List.drop_zero, hn, List.take_length, hd]
 simp only [retO, resV, hl, h']
 exact ⟨⟨hu, ⟨by omega, hu⟩, trivial⟩, .nil rfl, .inr ⟨⟨hp, hy, trivial⟩, trivial⟩⟩
theorem nil2E {t : TypeId} {a : D} : ∀ β S w v F, OK β S w (.box t [.d a, .nilS]) v F -> OK β S w (.box t [.d a, .d (.slice [])]) v F := fun β S w v F h => by
 have key : ∀ y, Rel β S w .nilS y -> Rel β S w (.d (.slice [])) y := fun y h => by cases h; exact .d (.nil _)
 cases h with
 | box hF xs hv hw hr =>
   refine .box hF xs hv hw fun i hi => ?_
   have := hr i hi
   match i, hi with
   | 0, _ => exact this
   | 1, _ => exact key _ this
end Abs
namespace Abs.Y
open Go Go.Proofs Abs
open Nat renaming reduceEqDiff -> Qa, reduceLT -> Qb, reduceAdd -> Qc, reduceMul -> Qd, reduceSub -> Qe, reduceLeDiff -> Qf, reduceSubDiff -> Qg, reduceBEq -> Qh
open Bool renaming not_eq_true' -> Ba, not_eq_false' -> Bb, and_eq_true -> Bc, or_eq_true -> Bd, or_eq_false_iff -> Be
open Int renaming ofNat_lt -> Ia, ofNat_le -> Ib, not_lt -> Ic, not_le -> Ie
open Decidable renaming not_not -> Da
set_option maxRecDepth 100000

def elG (v : Int) (cs : List (List Int)) (x : Int) : Bool := okCnf v cs && (decide (1 <= x) && decide (x <= v))
theorem elG_good {v : Int} {cs : List (List Int)} {x : Int} (h : elG v cs x = true) : (∀ c ∈ cs, Good c) ∧ cs.length <= 60 ∧ (1 <= x ∧ x <= 12) ∧ (0 <= v ∧ v <= 12) := by
 simp only [elG, okCnf, Bc, decide_eq_true_eq, List.all_eq_true] at h
 obtain ⟨⟨⟨h1, h2⟩, h3⟩, h4, h5⟩ := h
 have h6 := okVars_iff.1 h1
 exact ⟨fun c hc => good_of_ok (h3 c hc), h2, ⟨h4, by omega⟩, h6⟩
set_option maxHeartbeats 16000000 in
theorem implElim_ok (v : Int) (cs : List (List Int)) (x : Int) (h : elG v cs x = true) (hle : (elimV cs x).length <= 60) :
 Ctr Try.prog 24 [.agg [.int .i64 v, .slice (cs.map D.ints)], .int .i64 x] false (.tup [.st [.d (.int .i64 v), .sl 0], .d (.bool true)]) [(0, .dp (some (52, 1)) ((elimV cs x).map D.ints) none)] := by
 obtain ⟨hg, hcl, hx, hv⟩ := elG_good h
 have hcg : ∀ c ∈ cs, c.length <= 13 := fun c hc => good_len (hg c hc)
 have hcx : ∀ j, (cs.getD j []).length <= 13 := fun j => by
  by_cases hj : j < cs.length
  . exact hcg _ (getD_mem hj)
  . rw [List.getD_eq_getElem?_getD, List.getElem?_eq_none (by omega)]; simp
 have c1 := isCnf_ok v cs (by omega) fun j => by have := hcx j; omega
 have c2 := isVar_ok v x
 have h' := h
 rw [elG, Bc] at h'
 rw [h'.1] at c1
 rw [h'.2] at c2
 have okc : ∀ c ∈ cs, okClause v c = true := fun c hc => by
  have h3 := h'.1
  simp only [okCnf, Bc, List.all_eq_true] at h3
  exact h3.2 c hc
 have oke : okClause v [] = true := by
  simp only [okClause, okVars_iff.2 hv, Bool.true_and, decide_eq_true_eq]
  intro j hj; simp at hj
 refine Ctr.ofK (n := 88) (rs := [.cell 4 34, .tmp 5]) Try.func24 rfl rfl Try.ntmps24 rfl rfl (by kernel_rfl) Try.checked.mixed ?_
 refine Ok.endsW ?_
 refine Ok.seq (Ok.go ?_)
 simp (disch := first | omega | decide +kernel) only [go_sem, Qa, Qb, Qc, Qd, Qe, ↓reduceIte, reduceCtorEq, Qf, Qg, Qh]
 refine Ok.seq (Ok.go ?_)
 simp (disch := first | omega | decide +kernel) only [go_sem, Qa, Qb, Qc, Qd, Qe, ↓reduceIte, reduceCtorEq, Qf, Qg, Qh]
 (repeat' (first | ((first | (refine gsel_split (fun q' => ?_) (fun q' => ?_) <;> (have h' := q') <;> (try simp only [za1, za2, Ba, Bb, za3, ne_eq, za4, za5, za6, Ia, Ib, Ic, Ie, Da, Bc, Bd, Be, za7, za8] at h') <;> try (exfalso; omega)) | (have q' := trivial; first | refine callX_new (c1) rfl (by decide) ?_ | refine callY_new (c1) rfl ?_ | refine callX_new (c2) rfl (by decide) ?_ | refine callY_new (c2) rfl ?_ | refine hE _ _ ret_ne ?_ | refine hE _ _ exit_ne ?_)) <;> (try simp (disch := first | omega | decide +kernel) only [q', go_sem, Qa, Qb, Qc, Qd, Qe, ↓reduceIte, reduceCtorEq, Qf, Qg, Qh]) <;> clear q') | refine hN _ ?_ ?_ Wk.kk | with_reducible refine And.intro ?_ ?_ | with_reducible omega | exact ok_ints | exact cells_ints | exact no_mem | with_reducible exact plain_ints | (refine le_maxLen ?_; omega) | (refine za9 ⟨?_, ?_⟩) | (simp only [go_sem, Qc, Qb, zb1, zb2, forall_eq]; done)))
 refine Ok.seq (Ok.go ?_)
 simp (disch := first | omega | decide +kernel) only [go_sem, Qa, Qb, Qc, Qd, Qe, ↓reduceIte, reduceCtorEq, Qf, Qg, Qh]
 (repeat' (first | ((first | (refine gsel_split (fun q' => ?_) (fun q' => ?_) <;> (have h' := q') <;> (try simp only [za1, za2, Ba, Bb, za3, ne_eq, za4, za5, za6, Ia, Ib, Ic, Ie, Da, Bc, Bd, Be, za7, za8] at h') <;> try (exfalso; omega)) | (have q' := trivial; first | refine hE _ _ ret_ne ?_ | refine hE _ _ exit_ne ?_)) <;> (try simp (disch := first | omega | decide +kernel) only [q', go_sem, Qa, Qb, Qc, Qd, Qe, ↓reduceIte, reduceCtorEq, Qf, Qg, Qh]) <;> clear q') | refine hN _ ?_ ?_ Wk.kk | with_reducible refine And.intro ?_ ?_ | with_reducible omega | exact ok_ints | exact cells_ints | exact no_mem | with_reducible exact plain_ints | (refine le_maxLen ?_; omega) | (refine za9 ⟨?_, ?_⟩) | (simp only [go_sem, Qc, Qb, zb1, zb2, forall_eq]; done)))
 refine Ok.seq (Ok.go ?_)
 simp (disch := first | omega | decide +kernel) only [go_sem, Qa, Qb, Qc, Qd, Qe, ↓reduceIte, reduceCtorEq, Qf, Qg, Qh]
 (repeat' (first | ((first | (refine gsel_split (fun q' => ?_) (fun q' => ?_) <;> (have h' := q') <;> (try simp only [za1, za2, Ba, Bb, za3, ne_eq, za4, za5, za6, Ia, Ib, Ic, Ie, Da, Bc, Bd, Be, za7, za8] at h') <;> try (exfalso; omega)) | (have q' := trivial; first | refine hE _ _ ret_ne ?_ | refine hE _ _ exit_ne ?_)) <;> (try simp (disch := first | omega | decide +kernel) only [q', go_sem, Qa, Qb, Qc, Qd, Qe, ↓reduceIte, reduceCtorEq, Qf, Qg, Qh]) <;> clear q') | refine hN _ ?_ ?_ Wk.kk | with_reducible refine And.intro ?_ ?_ | with_reducible omega | exact ok_ints | exact cells_ints | exact no_mem | with_reducible exact plain_ints | (refine le_maxLen ?_; omega) | (refine za9 ⟨?_, ?_⟩) | (simp only [go_sem, Qc, Qb, zb1, zb2, forall_eq]; done)))
 refine Ok.weak (Wk.nilObj 800000001 6 1 rfl rfl (by simp) (by decide) (e := 52) (k := 1) (by decide)) ?_
 simp (disch := first | omega | decide +kernel) only [setL, go_sem, Qa, Qb, Qc, Qd, Qe, ↓reduceIte, reduceCtorEq, Qf, Qg, Qh]
 refine Ok.weak (Wk.deep 800000001 rfl (by simp [flat])) ?_
 simp (disch := first | omega | decide +kernel) only [ins, go_sem, Qa, Qb, Qc, Qd, Qe, ↓reduceIte, reduceCtorEq, Qf, Qg, Qh]
 refine Ok.loopNO [87, 86, 85, 84, 83, 82, 81, 80, 79, 78, 77, 76, 75, 74, 73, 72, 71, 70, 69, 68, 67, 66, 65, 64, 63, 62, 61, 60, 59, 58, 57, 56, 55, 54, 53, 52, 51, 50, 49, 48, 47, 46, 45, 44, 43, 42, 41, 40, 39, 38, 37, 36, 35, 34, 33, 32, 31, 30, 27, 26, 25, 24, 23, 22, 21, 20, 19, 18, 17, 16, 15, 14, 13, 12, 11, 10, 9, 8, 7, 3, 0] (fun i (_ : Unit) => [(30, .d (.int .i64 (i : Nat)))]) (fun i (_ : Unit) => [(800000001, .dp (some (52, 1)) ((elAll cs x i).map D.ints) none)]) cs.length (fun _ _ => True) () trivial (by refine Wk.auto ?_ ?_ <;> simp [extraK, lk, killL, St.kill, wipeO, wipeS, AV.has, AV.hasL, AO.wipe, List.map_set, updSt, insL, dropS, ins, elAll, List.take_zero, List.flatMap_nil, List.map_nil]) ?_
 rintro R i _ hN hE hi _
 have hll := elAll_len (cs := cs) (x := x) i
 have hll2 : i * (cs.length + 1) <= 60 * 61 := Nat.mul_le_mul (by omega) (by omega)
 by_cases hlt : i < cs.length
 . have el1 : el (cs.map D.ints) i = D.ints (cs.getD i []) := el_map (f := D.ints) [] hlt
   have gc := hg _ (getD_mem (z := ([] : List Int)) hlt)
   have gcl := good_len gc
   have c3 := contains_ok (cs.getD i []) x (by omega)
   have c4 := contains_ok (cs.getD i []) (-x) (by omega)
   have c5 := clone_ok (cs.getD i []) (by omega)
   have hnx := elAll_succ (x := x) hlt
   have hneg : IntKind.i64.wrap (0 - x) = -x := by rw [wrap_of (by omega)]; omega
   have hkd : keepV x (cs.getD i []) = (!((cs.getD i []).any (· == x)) && !((cs.getD i []).any (· == -x))) := rfl
   have hrs : ∀ k, k < cs.length -> _ := fun k hk => resK_succ (x := x) (c := cs.getD i []) hk
   have hr0 : resK cs x (cs.getD i []) 0 = [] := rfl
   have hrc : ∀ k, Ctr Try.prog 100 [.ints (cs.getD i []), .ints (cs.getD k []), .int .i64 x] false (.tup [.sl 0, .d (.bool (resolveI (cs.getD i []) (cs.getD k []) x).isSome)]) [(0, .arr 3 1 ((optL (resolveI (cs.getD i []) (cs.getD k []) x)).map (.int .i64)))] := fun k => by
    by_cases hk : k < cs.length
    . exact resolve_ok (u := v) (u' := v) _ _ x (by omega) (by have := hcx k; omega) (okc _ (getD_mem hlt)) (okc _ (getD_mem hk))
    . exact resolve_ok (u := v) (u' := v) _ _ x (by omega) (by have := hcx k; omega) (okc _ (getD_mem hlt)) (by rw [List.getD_eq_getElem?_getD, List.getElem?_eq_none (by omega)]; exact oke)
   unfold elOne at hnx
   generalize cs.getD i [] = c at *
   generalize elAll cs x i = L at *
   refine Ok.seq (Ok.go ?_)
   simp (disch := first | omega | decide +kernel) only [List.length_map, go_sem, Qa, Qb, Qc, Qd, Qe, ↓reduceIte, reduceCtorEq, Qf, Qg, Qh]
   (repeat' (first | ((first | (refine gsel_split (fun q' => ?_) (fun q' => ?_) <;> (have h' := q') <;> (try simp only [za1, za2, Ba, Bb, za3, ne_eq, za4, za5, za6, Ia, Ib, Ic, Ie, Da, Bc, Bd, Be, za7, za8] at h') <;> try (exfalso; omega)) | (have q' := trivial; first | refine hE _ _ ret_ne ?_ | refine hE _ _ exit_ne ?_)) <;> (try simp (disch := first | omega | decide +kernel) only [q', List.length_map, go_sem, Qa, Qb, Qc, Qd, Qe, ↓reduceIte, reduceCtorEq, Qf, Qg, Qh]) <;> clear q') | refine hN _ ?_ ?_ Wk.kk | with_reducible refine And.intro ?_ ?_ | with_reducible omega | exact ok_ints | exact cells_ints | exact no_mem | with_reducible exact plain_ints | (refine le_maxLen ?_; omega) | (refine za9 ⟨?_, ?_⟩) | (simp only [go_sem, Qc, Qb, zb1, zb2, forall_eq]; done)))
   refine Ok.seq (Ok.go ?_)
   simp (disch := first | omega | decide +kernel) only [go_sem, Qa, Qb, Qc, Qd, Qe, ↓reduceIte, reduceCtorEq, Qf, Qg, Qh]
   (repeat' (first | ((first | (refine gsel_split (fun q' => ?_) (fun q' => ?_) <;> (have h' := q') <;> (try simp only [za1, za2, Ba, Bb, za3, ne_eq, za4, za5, za6, Ia, Ib, Ic, Ie, Da, Bc, Bd, Be, za7, za8] at h') <;> try (exfalso; omega)) | (have q' := trivial; first | refine hE _ _ ret_ne ?_ | refine hE _ _ exit_ne ?_)) <;> (try simp (disch := first | omega | decide +kernel) only [q', go_sem, Qa, Qb, Qc, Qd, Qe, ↓reduceIte, reduceCtorEq, Qf, Qg, Qh]) <;> clear q') | refine hN _ ?_ ?_ Wk.kk | with_reducible refine And.intro ?_ ?_ | with_reducible omega | exact ok_ints | exact cells_ints | exact no_mem | with_reducible exact plain_ints | (refine le_maxLen ?_; omega) | (refine za9 ⟨?_, ?_⟩) | (simp only [go_sem, Qc, Qb, zb1, zb2, forall_eq]; done)))
   refine Ok.seq (Ok.block (Ok.seq (Ok.go ?_)))
   simp (disch := first | omega | decide +kernel) only [el1, D.ints, List.length_map, go_sem, Qa, Qb, Qc, Qd, Qe, ↓reduceIte, reduceCtorEq, Qf, Qg, Qh]
   (repeat' (first | ((first | (refine gsel_split (fun q' => ?_) (fun q' => ?_) <;> (have h' := q') <;> (try simp only [za1, za2, Ba, Bb, za3, ne_eq, za4, za5, za6, Ia, Ib, Ic, Ie, Da, Bc, Bd, Be, za7, za8] at h') <;> try (exfalso; omega)) | (have q' := trivial; first | refine hE _ _ ret_ne ?_ | refine hE _ _ exit_ne ?_)) <;> (try simp (disch := first | omega | decide +kernel) only [q', el1, D.ints, List.length_map, go_sem, Qa, Qb, Qc, Qd, Qe, ↓reduceIte, reduceCtorEq, Qf, Qg, Qh]) <;> clear q') | refine hN _ ?_ ?_ Wk.kk | with_reducible refine And.intro ?_ ?_ | with_reducible omega | exact ok_ints | exact cells_ints | exact no_mem | with_reducible exact plain_ints | (refine le_maxLen ?_; omega) | (refine za9 ⟨?_, ?_⟩) | (simp only [go_sem, Qc, Qb, zb1, zb2, forall_eq]; done)))
   refine Ok.seqA1 ⟨[(30, .d (.int .i64 (i : Nat))), (29, .d (.int .i64 (cs.length : Nat))), (28, .d (.slice (cs.map D.ints))), (8, .d (.slice (c.map (.int .i64)))), (6, .p 6 0), (5, .d (.bool false)), (4, .p 4 0), (2, .p 2 0), (1, .d (.int .i64 x))],
    [(800000001, .dp (some (52, 1)) ((L ++ (if keepV x c then [c] else [])).map D.ints) none), (6, .box 34 [.d (.int .i64 v), .sl 800000001]), (4, .box 34 [.d (.int .i64 0), .d (.slice [])]), (2, .box 34 [.d (.int .i64 v), .d (.slice (cs.map D.ints))])]⟩ ?_ ?_
   . clear c3 c4 c5
     rw [← List.append_assoc] at hnx
     generalize (L ++ if keepV x c = true then [c] else []) = M at *
     have hMl : (M ++ resK cs x c cs.length).length <= 61 * 61 := by rw [← hnx]; exact Nat.le_trans (elAll_len (i + 1)) (Nat.mul_le_mul (by omega) (by omega))
     rw [List.length_append] at hMl
     refine Ok.seq (Ok.go ?_)
     simp (disch := first | omega | decide +kernel) only [List.length_map, go_sem, Qa, Qb, Qc, Qd, Qe, ↓reduceIte, reduceCtorEq, Qf, Qg, Qh]
     (repeat' (first | ((first | (refine gsel_split (fun q' => ?_) (fun q' => ?_) <;> (have h' := q') <;> (try simp only [za1, za2, Ba, Bb, za3, ne_eq, za4, za5, za6, Ia, Ib, Ic, Ie, Da, Bc, Bd, Be, za7, za8] at h') <;> try (exfalso; omega)) | (have q' := trivial; first | refine hE _ _ ret_ne ?_ | refine hE _ _ exit_ne ?_)) <;> (try simp (disch := first | omega | decide +kernel) only [q', List.length_map, go_sem, Qa, Qb, Qc, Qd, Qe, ↓reduceIte, reduceCtorEq, Qf, Qg, Qh]) <;> clear q') | refine hN _ ?_ ?_ Wk.kk | with_reducible refine And.intro ?_ ?_ | with_reducible omega | exact ok_ints | exact cells_ints | exact no_mem | with_reducible exact plain_ints | (refine le_maxLen ?_; omega) | (refine za9 ⟨?_, ?_⟩) | (simp only [go_sem, Qc, Qb, zb1, zb2, forall_eq]; done)))
     refine Ok.block ?_
     refine Ok.loopNO [87, 86, 85, 84, 83, 82, 81, 80, 79, 78, 77, 76, 75, 74, 73, 72, 71, 70, 69, 68, 67, 66, 65, 64, 63, 62, 61, 60, 59, 58, 57, 56, 55, 52, 51, 50, 49, 48, 47, 46, 45, 44, 43, 42, 41, 40, 39, 38, 37, 36, 35, 34, 33, 32, 31, 27, 26, 25, 24, 23, 22, 21, 20, 19, 18, 17, 16, 15, 14, 13, 12, 11, 10, 9, 7, 3, 0] (fun k (_ : Unit) => [(55, .d (.int .i64 (k : Nat)))]) (fun k (_ : Unit) => [(800000001, .dp (some (52, 1)) ((M ++ resK cs x c k).map D.ints) none)]) cs.length (fun _ _ => True) () trivial (by refine Wk.auto ?_ ?_ <;> simp [extraK, lk, killL, St.kill, wipeO, wipeS, AV.has, AV.hasL, AO.wipe, List.map_set, updSt, insL, dropS, ins, hr0, List.append_nil]) ?_
     rintro R2 k _ hN2 hE2 hk _
     have hkl := resK_len cs x c k
     by_cases hkt : k < cs.length
     . have el2 : el (cs.map D.ints) k = D.ints (cs.getD k []) := el_map (f := D.ints) [] hkt
       have c6 := hrc k
       have hs := hrs k hkt
       generalize cs.getD k [] = d at *
       generalize resK cs x c k = rk at *
       refine Ok.seq (Ok.go ?_)
       simp (disch := first | omega | decide +kernel) only [List.length_map, go_sem, Qa, Qb, Qc, Qd, Qe, ↓reduceIte, reduceCtorEq, Qf, Qg, Qh]
       (repeat' (first | ((first | (refine gsel_split (fun q' => ?_) (fun q' => ?_) <;> (have h' := q') <;> (try simp only [za1, za2, Ba, Bb, za3, ne_eq, za4, za5, za6, Ia, Ib, Ic, Ie, Da, Bc, Bd, Be, za7, za8] at h') <;> try (exfalso; omega)) | (have q' := trivial; first | refine hE _ _ ret_ne ?_ | refine hE _ _ exit_ne ?_)) <;> (try simp (disch := first | omega | decide +kernel) only [q', List.length_map, go_sem, Qa, Qb, Qc, Qd, Qe, ↓reduceIte, reduceCtorEq, Qf, Qg, Qh]) <;> clear q') | refine hN _ ?_ ?_ Wk.kk | with_reducible refine And.intro ?_ ?_ | with_reducible omega | exact ok_ints | exact cells_ints | exact no_mem | with_reducible exact plain_ints | (refine le_maxLen ?_; omega) | (refine za9 ⟨?_, ?_⟩) | (simp only [go_sem, Qc, Qb, zb1, zb2, forall_eq]; done)))
       refine Ok.seq (Ok.go ?_)
       simp (disch := first | omega | decide +kernel) only [go_sem, Qa, Qb, Qc, Qd, Qe, ↓reduceIte, reduceCtorEq, Qf, Qg, Qh]
       (repeat' (first | ((first | (refine gsel_split (fun q' => ?_) (fun q' => ?_) <;> (have h' := q') <;> (try simp only [za1, za2, Ba, Bb, za3, ne_eq, za4, za5, za6, Ia, Ib, Ic, Ie, Da, Bc, Bd, Be, za7, za8] at h') <;> try (exfalso; omega)) | (have q' := trivial; first | refine hE _ _ ret_ne ?_ | refine hE _ _ exit_ne ?_)) <;> (try simp (disch := first | omega | decide +kernel) only [q', go_sem, Qa, Qb, Qc, Qd, Qe, ↓reduceIte, reduceCtorEq, Qf, Qg, Qh]) <;> clear q') | refine hN _ ?_ ?_ Wk.kk | with_reducible refine And.intro ?_ ?_ | with_reducible omega | exact ok_ints | exact cells_ints | exact no_mem | with_reducible exact plain_ints | (refine le_maxLen ?_; omega) | (refine za9 ⟨?_, ?_⟩) | (simp only [go_sem, Qc, Qb, zb1, zb2, forall_eq]; done)))
       refine Ok.seq (Ok.block (Ok.seq (Ok.go ?_)))
       simp (disch := first | omega | decide +kernel) only [el2, D.ints, List.length_map, go_sem, Qa, Qb, Qc, Qd, Qe, ↓reduceIte, reduceCtorEq, Qf, Qg, Qh]
       (repeat' (first | ((first | (refine gsel_split (fun q' => ?_) (fun q' => ?_) <;> (have h' := q') <;> (try simp only [za1, za2, Ba, Bb, za3, ne_eq, za4, za5, za6, Ia, Ib, Ic, Ie, Da, Bc, Bd, Be, za7, za8] at h') <;> try (exfalso; omega)) | (have q' := trivial; first | refine hE _ _ ret_ne ?_ | refine hE _ _ exit_ne ?_)) <;> (try simp (disch := first | omega | decide +kernel) only [q', el2, D.ints, List.length_map, go_sem, Qa, Qb, Qc, Qd, Qe, ↓reduceIte, reduceCtorEq, Qf, Qg, Qh]) <;> clear q') | refine hN _ ?_ ?_ Wk.kk | with_reducible refine And.intro ?_ ?_ | with_reducible omega | exact ok_ints | exact cells_ints | exact no_mem | with_reducible exact plain_ints | (refine le_maxLen ?_; omega) | (refine za9 ⟨?_, ?_⟩) | (simp only [go_sem, Qc, Qb, zb1, zb2, forall_eq]; done)))
       cases hr : resolveI c d x with
       | none =>
         rw [hr] at c6 hs
         simp only [Option.isSome_none, optL] at c6 hs
         refine Ok.go ?_
         simp (disch := first | omega | decide +kernel) only [D.ints, go_sem, Qa, Qb, Qc, Qd, Qe, ↓reduceIte, reduceCtorEq, Qf, Qg, Qh]
         (repeat' (first | ((first | (refine gsel_split (fun q' => ?_) (fun q' => ?_) <;> (have h' := q') <;> (try simp only [za1, za2, Ba, Bb, za3, ne_eq, za4, za5, za6, Ia, Ib, Ic, Ie, Da, Bc, Bd, Be, za7, za8] at h') <;> try (exfalso; omega)) | (have q' := trivial; first | refine callX_new (c6) rfl (by decide) ?_ | refine callY_new (c6) rfl ?_ | refine hE _ _ ret_ne ?_ | refine hE _ _ exit_ne ?_)) <;> (try simp (disch := first | omega | decide +kernel) only [q', D.ints, go_sem, Qa, Qb, Qc, Qd, Qe, ↓reduceIte, reduceCtorEq, Qf, Qg, Qh]) <;> clear q') | refine hN _ ?_ ?_ Wk.kk | with_reducible refine And.intro ?_ ?_ | with_reducible omega | exact ok_ints | exact cells_ints | exact no_mem | with_reducible exact plain_ints | (refine le_maxLen ?_; omega) | (refine za9 ⟨?_, ?_⟩) | (simp only [go_sem, Qc, Qb, zb1, zb2, forall_eq]; done)))
         refine Ok.go ?_
         simp (disch := first | omega | decide +kernel) only [go_sem, Qa, Qb, Qc, Qd, Qe, ↓reduceIte, reduceCtorEq, Qf, Qg, Qh]
         rw [show (k : Int) + 1 = ((k + 1 : Nat) : Int) by omega]
         refine hN2 () _ hkt trivial ?_
         rw [hs]
         exact (by refine Wk.auto ?_ ?_ <;> simp [extraK, lk, killL, St.kill, wipeO, wipeS, AV.has, AV.hasL, AO.wipe, List.map_set, updSt, insL, dropS, ins, ])
       | some r =>
         rw [hr] at c6 hs
         simp only [Option.isSome_some, optL] at c6 hs
         refine Ok.go ?_
         simp (disch := first | omega | decide +kernel) only [D.ints, go_sem, Qa, Qb, Qc, Qd, Qe, ↓reduceIte, reduceCtorEq, Qf, Qg, Qh]
         (repeat' (first | ((first | (refine gsel_split (fun q' => ?_) (fun q' => ?_) <;> (have h' := q') <;> (try simp only [za1, za2, Ba, Bb, za3, ne_eq, za4, za5, za6, Ia, Ib, Ic, Ie, Da, Bc, Bd, Be, za7, za8] at h') <;> try (exfalso; omega)) | (have q' := trivial; first | refine callX_new (c6) rfl (by decide) ?_ | refine callY_new (c6) rfl ?_ | refine hE _ _ ret_ne ?_ | refine hE _ _ exit_ne ?_)) <;> (try simp (disch := first | omega | decide +kernel) only [q', D.ints, go_sem, Qa, Qb, Qc, Qd, Qe, ↓reduceIte, reduceCtorEq, Qf, Qg, Qh]) <;> clear q') | refine hN _ ?_ ?_ Wk.kk | with_reducible refine And.intro ?_ ?_ | with_reducible omega | exact ok_ints | exact cells_ints | exact no_mem | with_reducible exact plain_ints | (refine le_maxLen ?_; omega) | (refine za9 ⟨?_, ?_⟩) | (simp only [go_sem, Qc, Qb, zb1, zb2, forall_eq]; done)))
         all_goals (first | exact of_eq_true (bare_ints _) | omega | skip)
         refine Ok.go ?_
         simp (disch := first | omega | decide +kernel) only [go_sem, Qa, Qb, Qc, Qd, Qe, ↓reduceIte, reduceCtorEq, Qf, Qg, Qh]
         rw [show (k : Int) + 1 = ((k + 1 : Nat) : Int) by omega]
         refine hN2 () _ hkt trivial ?_
         rw [hs]
         exact (by refine Wk.auto ?_ ?_ <;> simp [extraK, lk, killL, St.kill, wipeO, wipeS, AV.has, AV.hasL, AO.wipe, List.map_set, updSt, insL, dropS, ins, D.ints, List.map_append, List.map_cons, List.map_nil, List.append_assoc])
     . obtain rfl : k = cs.length := by omega
       clear hN2
       refine Ok.go ?_
       simp (disch := first | omega | decide +kernel) only [List.length_map, go_sem, Qa, Qb, Qc, Qd, Qe, ↓reduceIte, reduceCtorEq, Qf, Qg, Qh]
       (repeat' (first | ((first | (refine gsel_split (fun q' => ?_) (fun q' => ?_) <;> (have h' := q') <;> (try simp only [za1, za2, Ba, Bb, za3, ne_eq, za4, za5, za6, Ia, Ib, Ic, Ie, Da, Bc, Bd, Be, za7, za8] at h') <;> try (exfalso; omega)) | (have q' := trivial; first | refine hE _ _ ret_ne ?_ | refine hE _ _ exit_ne ?_)) <;> (try simp (disch := first | omega | decide +kernel) only [q', List.length_map, go_sem, Qa, Qb, Qc, Qd, Qe, ↓reduceIte, reduceCtorEq, Qf, Qg, Qh]) <;> clear q') | refine hN _ ?_ ?_ Wk.kk | with_reducible refine And.intro ?_ ?_ | with_reducible omega | exact ok_ints | exact cells_ints | exact no_mem | with_reducible exact plain_ints | (refine le_maxLen ?_; omega) | (refine za9 ⟨?_, ?_⟩) | (simp only [go_sem, Qc, Qb, zb1, zb2, forall_eq]; done)))
       refine hE2 _ _ exit_ne ?_
       simp (disch := first | omega | decide +kernel) only [go_sem, Qa, Qb, Qc, Qd, Qe, ↓reduceIte, reduceCtorEq, Qf, Qg, Qh]
       refine Ok.go ?_
       simp (disch := first | omega | decide +kernel) only [go_sem, Qa, Qb, Qc, Qd, Qe, ↓reduceIte, reduceCtorEq, Qf, Qg, Qh]
       rw [show (i : Int) + 1 = ((i + 1 : Nat) : Int) by omega]
       refine hN () _ hlt trivial ?_
       rw [hnx]
       exact (by refine Wk.auto ?_ ?_ <;> simp [extraK, lk, killL, St.kill, wipeO, wipeS, AV.has, AV.hasL, AO.wipe, List.map_set, updSt, insL, dropS, ins, ])
   . rw [hkd]
     generalize c.any (· == x) = b1 at *
     generalize c.any (· == -x) = b2 at *
     cases b1 <;> cases b2
     . refine Ok.seq (Ok.go ?_)
       simp (disch := first | omega | decide +kernel) only [hneg, D.ints, go_sem, Qa, Qb, Qc, Qd, Qe, ↓reduceIte, reduceCtorEq, Qf, Qg, Qh]
       (repeat' (first | ((first | (refine gsel_split (fun q' => ?_) (fun q' => ?_) <;> (have h' := q') <;> (try simp only [za1, za2, Ba, Bb, za3, ne_eq, za4, za5, za6, Ia, Ib, Ic, Ie, Da, Bc, Bd, Be, za7, za8] at h') <;> try (exfalso; omega)) | (have q' := trivial; first | refine callX_new (c3) rfl (by decide) ?_ | refine callY_new (c3) rfl ?_ | refine callX_new (c4) rfl (by decide) ?_ | refine callY_new (c4) rfl ?_ | refine hE _ _ ret_ne ?_ | refine hE _ _ exit_ne ?_)) <;> (try simp (disch := first | omega | decide +kernel) only [q', hneg, D.ints, go_sem, Qa, Qb, Qc, Qd, Qe, ↓reduceIte, reduceCtorEq, Qf, Qg, Qh]) <;> clear q') | refine hN _ ?_ ?_ Wk.kk | with_reducible refine And.intro ?_ ?_ | with_reducible omega | exact ok_ints | exact cells_ints | exact no_mem | with_reducible exact plain_ints | (refine le_maxLen ?_; omega) | (refine za9 ⟨?_, ?_⟩) | (simp only [go_sem, Qc, Qb, zb1, zb2, forall_eq]; done)))
       refine Ok.condT rfl ?_
       refine Ok.reg7 [true, true, true, false, false, false, true, false] (by decide +kernel) ?_
       simp (disch := first | omega | decide +kernel) only [D.ints, go_sem, Qa, Qb, Qc, Qd, Qe, ↓reduceIte, reduceCtorEq, Qf, Qg, Qh]
       (repeat' (first | ((first | (refine gsel_split (fun q' => ?_) (fun q' => ?_) <;> (have h' := q') <;> (try simp only [za1, za2, Ba, Bb, za3, ne_eq, za4, za5, za6, Ia, Ib, Ic, Ie, Da, Bc, Bd, Be, za7, za8] at h') <;> try (exfalso; omega)) | (have q' := trivial; first | refine callX_new (c5) rfl (by decide) ?_ | refine callY_new (c5) rfl ?_ | refine hE _ _ ret_ne ?_ | refine hE _ _ exit_ne ?_)) <;> (try simp (disch := first | omega | decide +kernel) only [q', D.ints, go_sem, Qa, Qb, Qc, Qd, Qe, ↓reduceIte, reduceCtorEq, Qf, Qg, Qh]) <;> clear q') | refine hN _ ?_ ?_ Wk.kk | with_reducible refine And.intro ?_ ?_ | with_reducible omega | exact ok_ints | exact cells_ints | exact no_mem | with_reducible exact plain_ints | (refine le_maxLen ?_; omega) | (refine za9 ⟨?_, ?_⟩) | (simp only [go_sem, Qc, Qb, zb1, zb2, forall_eq]; done)))
       all_goals (first | exact of_eq_true (bare_ints _) | omega | exact (by refine Wk.auto ?_ ?_ <;> simp [extraK, lk, killL, St.kill, wipeO, wipeS, AV.has, AV.hasL, AO.wipe, List.map_set, updSt, insL, dropS, ins, D.ints, List.map_append, List.map_cons, List.map_nil]))
     all_goals
      refine Ok.seq (Ok.go ?_)
      simp (disch := first | omega | decide +kernel) only [hneg, D.ints, go_sem, Qa, Qb, Qc, Qd, Qe, ↓reduceIte, reduceCtorEq, Qf, Qg, Qh]
      (repeat' (first | ((first | (refine gsel_split (fun q' => ?_) (fun q' => ?_) <;> (have h' := q') <;> (try simp only [za1, za2, Ba, Bb, za3, ne_eq, za4, za5, za6, Ia, Ib, Ic, Ie, Da, Bc, Bd, Be, za7, za8] at h') <;> try (exfalso; omega)) | (have q' := trivial; first | refine callX_new (c3) rfl (by decide) ?_ | refine callY_new (c3) rfl ?_ | refine callX_new (c4) rfl (by decide) ?_ | refine callY_new (c4) rfl ?_ | refine hE _ _ ret_ne ?_ | refine hE _ _ exit_ne ?_)) <;> (try simp (disch := first | omega | decide +kernel) only [q', hneg, D.ints, go_sem, Qa, Qb, Qc, Qd, Qe, ↓reduceIte, reduceCtorEq, Qf, Qg, Qh]) <;> clear q') | refine hN _ ?_ ?_ Wk.kk | with_reducible refine And.intro ?_ ?_ | with_reducible omega | exact ok_ints | exact cells_ints | exact no_mem | with_reducible exact plain_ints | (refine le_maxLen ?_; omega) | (refine za9 ⟨?_, ?_⟩) | (simp only [go_sem, Qc, Qb, zb1, zb2, forall_eq]; done)))
      refine Ok.go ?_
      simp (disch := first | omega | decide +kernel) only [D.ints, go_sem, Qa, Qb, Qc, Qd, Qe, ↓reduceIte, reduceCtorEq, Qf, Qg, Qh]
      (repeat' (first | ((first | (refine gsel_split (fun q' => ?_) (fun q' => ?_) <;> (have h' := q') <;> (try simp only [za1, za2, Ba, Bb, za3, ne_eq, za4, za5, za6, Ia, Ib, Ic, Ie, Da, Bc, Bd, Be, za7, za8] at h') <;> try (exfalso; omega)) | (have q' := trivial; first | refine hE _ _ ret_ne ?_ | refine hE _ _ exit_ne ?_)) <;> (try simp (disch := first | omega | decide +kernel) only [q', D.ints, go_sem, Qa, Qb, Qc, Qd, Qe, ↓reduceIte, reduceCtorEq, Qf, Qg, Qh]) <;> clear q') | refine hN _ ?_ ?_ Wk.kk | with_reducible refine And.intro ?_ ?_ | with_reducible omega | exact ok_ints | exact cells_ints | exact no_mem | with_reducible exact plain_ints | (refine le_maxLen ?_; omega) | (refine za9 ⟨?_, ?_⟩) | (simp only [go_sem, Qc, Qb, zb1, zb2, forall_eq]; done)))
      exact (by refine Wk.auto ?_ ?_ <;> simp [extraK, lk, killL, St.kill, wipeO, wipeS, AV.has, AV.hasL, AO.wipe, List.map_set, updSt, insL, dropS, ins, ])
 . obtain rfl : i = cs.length := by omega
   clear hN
   refine Ok.go ?_
   simp (disch := first | omega | decide +kernel) only [List.length_map, go_sem, Qa, Qb, Qc, Qd, Qe, ↓reduceIte, reduceCtorEq, Qf, Qg, Qh]
   (repeat' (first | ((first | (refine gsel_split (fun q' => ?_) (fun q' => ?_) <;> (have h' := q') <;> (try simp only [za1, za2, Ba, Bb, za3, ne_eq, za4, za5, za6, Ia, Ib, Ic, Ie, Da, Bc, Bd, Be, za7, za8] at h') <;> try (exfalso; omega)) | (have q' := trivial; first | refine hE _ _ ret_ne ?_ | refine hE _ _ exit_ne ?_)) <;> (try simp (disch := first | omega | decide +kernel) only [q', List.length_map, go_sem, Qa, Qb, Qc, Qd, Qe, ↓reduceIte, reduceCtorEq, Qf, Qg, Qh]) <;> clear q') | refine hN _ ?_ ?_ Wk.kk | with_reducible refine And.intro ?_ ?_ | with_reducible omega | exact ok_ints | exact cells_ints | exact no_mem | with_reducible exact plain_ints | (refine le_maxLen ?_; omega) | (refine za9 ⟨?_, ?_⟩) | (simp only [go_sem, Qc, Qb, zb1, zb2, forall_eq]; done)))
   refine Ok.tag1 800000001 900000001 (by decide) (cs := elAll cs x cs.length) rfl fun ps hps => ?_
   have hpg : ∀ p ∈ ps, Good p.2 := fun p hp => elAll_good hg cs.length _ (hps ▸ List.mem_map.2 ⟨p, hp, rfl⟩)
   have hpl : ps.length <= 3660 := by have := congrArg List.length hps; rw [List.length_map] at this; omega
   have c6 := sortT_ok ps (by omega) (fun p hp => by have := good_len (hpg p hp); omega) fun p hp => good_sm (hpg p hp)
   obtain ⟨q1, q2⟩ := srtT_perm ps (Lib.bitLen ps.length) fun p hp => good_sm (hpg p hp)
   rw [hps] at q2
   generalize srtT ps (Lib.bitLen ps.length) = qs at *
   have hql : qs.length <= 3660 := by rw [q1.length_eq]; exact hpl
   have c7 := compactT_ok qs (by omega) (fun p hp => by have := good_len (hpg p (q1.mem_iff.1 hp)); omega)
   have hce := comp_eq hg q2
   have hcel : (cpT qs qs.length).length = (elimV cs x).length := by rw [← hce, List.length_map]
   have hsub : (cpT qs qs.length).Sublist qs := by have := cmpA_sub (z := zTg) (f := fun q : Tg => q.2) (l := qs) qs.length (Nat.le_refl _); rwa [List.take_length] at this
   generalize cpT qs qs.length = es at *
   have hq : (es.map fun p : Tg => D.slice (p.2.map (.int .i64))) = (elimV cs x).map D.ints := by rw [← hce, List.map_map]; rfl
   refine Ok.seq (Ok.go ?_)
   simp (disch := first | omega | decide +kernel) only [go_sem, Qa, Qb, Qc, Qd, Qe, ↓reduceIte, reduceCtorEq, Qf, Qg, Qh]
   refine callX_shareK 800000001 c6 ⟨.inl rfl, .inl rfl, trivial⟩ rfl (by simp [dstB]) ?_
   simp (disch := first | omega | decide +kernel) only [go_sem, Qa, Qb, Qc, Qd, Qe, ↓reduceIte, reduceCtorEq, Qf, Qg, Qh]
   refine Ok.seq (Ok.go ?_)
   simp (disch := first | omega | decide +kernel) only [go_sem, Qa, Qb, Qc, Qd, Qe, ↓reduceIte, reduceCtorEq, Qf, Qg, Qh]
   refine callX_mut [800000001] [8100000] [800000001, 8100000] c7 ⟨.inl rfl, .inl rfl, trivial⟩ ⟨rfl, trivial⟩ rfl (by simp [dstB]) ?_
   simp (disch := first | omega | decide +kernel) only [go_sem, Qa, Qb, Qc, Qd, Qe, ↓reduceIte, reduceCtorEq, Qf, Qg, Qh]
   (repeat' (first | ((first | (refine gsel_split (fun q' => ?_) (fun q' => ?_) <;> (have h' := q') <;> (try simp only [za1, za2, Ba, Bb, za3, ne_eq, za4, za5, za6, Ia, Ib, Ic, Ie, Da, Bc, Bd, Be, za7, za8] at h') <;> try (exfalso; omega)) | (have q' := trivial; first | refine hE _ _ ret_ne ?_ | refine hE _ _ exit_ne ?_)) <;> (try simp (disch := first | omega | decide +kernel) only [q', go_sem, Qa, Qb, Qc, Qd, Qe, ↓reduceIte, reduceCtorEq, Qf, Qg, Qh]) <;> clear q') | refine hN _ ?_ ?_ Wk.kk | with_reducible refine And.intro ?_ ?_ | with_reducible omega | exact ok_ints | exact cells_ints | exact no_mem | with_reducible exact plain_ints | (refine le_maxLen ?_; omega) | (refine za9 ⟨?_, ?_⟩) | (simp only [go_sem, Qc, Qb, zb1, zb2, forall_eq]; done)))
   refine Ok.seq (Ok.go ?_)
   simp (disch := first | omega | decide +kernel) only [List.length_map, hcel, go_sem, Qa, Qb, Qc, Qd, Qe, ↓reduceIte, reduceCtorEq, Qf, Qg, Qh]
   (repeat' (first | ((first | (refine gsel_split (fun q' => ?_) (fun q' => ?_) <;> (have h' := q') <;> (try simp only [za1, za2, Ba, Bb, za3, ne_eq, za4, za5, za6, Ia, Ib, Ic, Ie, Da, Bc, Bd, Be, za7, za8] at h') <;> try (exfalso; omega)) | (have q' := trivial; first | refine hE _ _ ret_ne ?_ | refine hE _ _ exit_ne ?_)) <;> (try simp (disch := first | omega | decide +kernel) only [q', List.length_map, hcel, go_sem, Qa, Qb, Qc, Qd, Qe, ↓reduceIte, reduceCtorEq, Qf, Qg, Qh]) <;> clear q') | refine hN _ ?_ ?_ Wk.kk | with_reducible refine And.intro ?_ ?_ | with_reducible omega | exact ok_ints | exact cells_ints | exact no_mem | with_reducible exact plain_ints | (refine le_maxLen ?_; omega) | (refine za9 ⟨?_, ?_⟩) | (simp only [go_sem, Qc, Qb, zb1, zb2, forall_eq]; done)))
   refine Ok.go ?_
   simp (disch := first | omega | decide +kernel) only [go_sem, Qa, Qb, Qc, Qd, Qe, ↓reduceIte, reduceCtorEq, Qf, Qg, Qh]
   (repeat' (first | ((first | (refine gsel_split (fun q' => ?_) (fun q' => ?_) <;> (have h' := q') <;> (try simp only [za1, za2, Ba, Bb, za3, ne_eq, za4, za5, za6, Ia, Ib, Ic, Ie, Da, Bc, Bd, Be, za7, za8] at h') <;> try (exfalso; omega)) | (have q' := trivial; first | refine hE _ _ ret_ne ?_ | refine hE _ _ exit_ne ?_)) <;> (try simp (disch := first | omega | decide +kernel) only [q', go_sem, Qa, Qb, Qc, Qd, Qe, ↓reduceIte, reduceCtorEq, Qf, Qg, Qh]) <;> clear q') | refine hN _ ?_ ?_ Wk.kk | with_reducible refine And.intro ?_ ?_ | with_reducible omega | exact ok_ints | exact cells_ints | exact no_mem | with_reducible exact plain_ints | (refine le_maxLen ?_; omega) | (refine za9 ⟨?_, ?_⟩) | (simp only [go_sem, Qc, Qb, zb1, zb2, forall_eq]; done)))
   refine ⟨_, Wk.thaw1 (S' := [(5, .d (.bool true)), (4, .p 4 0)]) (O' := [(8100000, .dp (some (52, 1)) (es.map fun p => .slice (p.2.map (.int .i64))) none), (4, .box 34 [.d (.int .i64 v), .sl 8100000])]) 8100000 900000001 rfl rfl ⟨qs, q1, hsub⟩ ?_ ?_, ?_⟩
   . intro p hp
     simp only [List.mem_cons, List.not_mem_nil, or_false] at hp
     rcases hp with rfl | rfl
     . exact ⟨rfl, rfl⟩
     . exact ⟨rfl, trivial⟩
   . intro p hp
     simp only [List.mem_cons, List.not_mem_nil, or_false] at hp
     rcases hp with rfl | rfl
     . exact .inl ⟨rfl, rfl⟩
     . exact .inr ⟨(by show (4 : Nat) ≠ 8100000; decide), (by show (4 : Nat) ≠ 900000001; decide), rfl, ⟨rfl, trivial, trivial⟩⟩
   . rw [hq]
     exact ret_cstd rfl rfl rfl (by simp only [go_sem]) (by simp only [go_sem, List.length_cons, List.length_nil]) rfl (by simp only [go_sem]) rfl rfl ⟨rfl, trivial, trivial⟩ trivial rfl rfl
set_option maxHeartbeats 16000000 in
theorem implElimB_ok (v : Int) (cs : List (List Int)) (x : Int) (h : elG v cs x = true) (hle : 60 < (elimV cs x).length) :
 Ctr Try.prog 24 [.agg [.int .i64 v, .slice (cs.map D.ints)], .int .i64 x] false (.tup [.d (.agg [.int .i64 0, .slice []]), .d (.bool false)]) [] := by
 obtain ⟨hg, hcl, hx, hv⟩ := elG_good h
 have hcg : ∀ c ∈ cs, c.length <= 13 := fun c hc => good_len (hg c hc)
 have hcx : ∀ j, (cs.getD j []).length <= 13 := fun j => by
  by_cases hj : j < cs.length
  . exact hcg _ (getD_mem hj)
  . rw [List.getD_eq_getElem?_getD, List.getElem?_eq_none (by omega)]; simp
 have c1 := isCnf_ok v cs (by omega) fun j => by have := hcx j; omega
 have c2 := isVar_ok v x
 have h' := h
 rw [elG, Bc] at h'
 rw [h'.1] at c1
 rw [h'.2] at c2
 have okc : ∀ c ∈ cs, okClause v c = true := fun c hc => by
  have h3 := h'.1
  simp only [okCnf, Bc, List.all_eq_true] at h3
  exact h3.2 c hc
 have oke : okClause v [] = true := by
  simp only [okClause, okVars_iff.2 hv, Bool.true_and, decide_eq_true_eq]
  intro j hj; simp at hj
 refine Ctr.ofK (n := 88) (rs := [.cell 4 34, .tmp 5]) Try.func24 rfl rfl Try.ntmps24 rfl rfl (by kernel_rfl) Try.checked.mixed ?_
 refine Ok.endsW ?_
 refine Ok.seq (Ok.go ?_)
 simp (disch := first | omega | decide +kernel) only [go_sem, Qa, Qb, Qc, Qd, Qe, ↓reduceIte, reduceCtorEq, Qf, Qg, Qh]
 refine Ok.seq (Ok.go ?_)
 simp (disch := first | omega | decide +kernel) only [go_sem, Qa, Qb, Qc, Qd, Qe, ↓reduceIte, reduceCtorEq, Qf, Qg, Qh]
 (repeat' (first | ((first | (refine gsel_split (fun q' => ?_) (fun q' => ?_) <;> (have h' := q') <;> (try simp only [za1, za2, Ba, Bb, za3, ne_eq, za4, za5, za6, Ia, Ib, Ic, Ie, Da, Bc, Bd, Be, za7, za8] at h') <;> try (exfalso; omega)) | (have q' := trivial; first | refine callX_new (c1) rfl (by decide) ?_ | refine callY_new (c1) rfl ?_ | refine callX_new (c2) rfl (by decide) ?_ | refine callY_new (c2) rfl ?_ | refine hE _ _ ret_ne ?_ | refine hE _ _ exit_ne ?_)) <;> (try simp (disch := first | omega | decide +kernel) only [q', go_sem, Qa, Qb, Qc, Qd, Qe, ↓reduceIte, reduceCtorEq, Qf, Qg, Qh]) <;> clear q') | refine hN _ ?_ ?_ Wk.kk | with_reducible refine And.intro ?_ ?_ | with_reducible omega | exact ok_ints | exact cells_ints | exact no_mem | with_reducible exact plain_ints | (refine le_maxLen ?_; omega) | (refine za9 ⟨?_, ?_⟩) | (simp only [go_sem, Qc, Qb, zb1, zb2, forall_eq]; done)))
 refine Ok.seq (Ok.go ?_)
 simp (disch := first | omega | decide +kernel) only [go_sem, Qa, Qb, Qc, Qd, Qe, ↓reduceIte, reduceCtorEq, Qf, Qg, Qh]
 (repeat' (first | ((first | (refine gsel_split (fun q' => ?_) (fun q' => ?_) <;> (have h' := q') <;> (try simp only [za1, za2, Ba, Bb, za3, ne_eq, za4, za5, za6, Ia, Ib, Ic, Ie, Da, Bc, Bd, Be, za7, za8] at h') <;> try (exfalso; omega)) | (have q' := trivial; first | refine hE _ _ ret_ne ?_ | refine hE _ _ exit_ne ?_)) <;> (try simp (disch := first | omega | decide +kernel) only [q', go_sem, Qa, Qb, Qc, Qd, Qe, ↓reduceIte, reduceCtorEq, Qf, Qg, Qh]) <;> clear q') | refine hN _ ?_ ?_ Wk.kk | with_reducible refine And.intro ?_ ?_ | with_reducible omega | exact ok_ints | exact cells_ints | exact no_mem | with_reducible exact plain_ints | (refine le_maxLen ?_; omega) | (refine za9 ⟨?_, ?_⟩) | (simp only [go_sem, Qc, Qb, zb1, zb2, forall_eq]; done)))
 refine Ok.seq (Ok.go ?_)
 simp (disch := first | omega | decide +kernel) only [go_sem, Qa, Qb, Qc, Qd, Qe, ↓reduceIte, reduceCtorEq, Qf, Qg, Qh]
 (repeat' (first | ((first | (refine gsel_split (fun q' => ?_) (fun q' => ?_) <;> (have h' := q') <;> (try simp only [za1, za2, Ba, Bb, za3, ne_eq, za4, za5, za6, Ia, Ib, Ic, Ie, Da, Bc, Bd, Be, za7, za8] at h') <;> try (exfalso; omega)) | (have q' := trivial; first | refine hE _ _ ret_ne ?_ | refine hE _ _ exit_ne ?_)) <;> (try simp (disch := first | omega | decide +kernel) only [q', go_sem, Qa, Qb, Qc, Qd, Qe, ↓reduceIte, reduceCtorEq, Qf, Qg, Qh]) <;> clear q') | refine hN _ ?_ ?_ Wk.kk | with_reducible refine And.intro ?_ ?_ | with_reducible omega | exact ok_ints | exact cells_ints | exact no_mem | with_reducible exact plain_ints | (refine le_maxLen ?_; omega) | (refine za9 ⟨?_, ?_⟩) | (simp only [go_sem, Qc, Qb, zb1, zb2, forall_eq]; done)))
 refine Ok.weak (Wk.nilObj 800000001 6 1 rfl rfl (by simp) (by decide) (e := 52) (k := 1) (by decide)) ?_
 simp (disch := first | omega | decide +kernel) only [setL, go_sem, Qa, Qb, Qc, Qd, Qe, ↓reduceIte, reduceCtorEq, Qf, Qg, Qh]
 refine Ok.weak (Wk.deep 800000001 rfl (by simp [flat])) ?_
 simp (disch := first | omega | decide +kernel) only [ins, go_sem, Qa, Qb, Qc, Qd, Qe, ↓reduceIte, reduceCtorEq, Qf, Qg, Qh]
 refine Ok.loopNO [87, 86, 85, 84, 83, 82, 81, 80, 79, 78, 77, 76, 75, 74, 73, 72, 71, 70, 69, 68, 67, 66, 65, 64, 63, 62, 61, 60, 59, 58, 57, 56, 55, 54, 53, 52, 51, 50, 49, 48, 47, 46, 45, 44, 43, 42, 41, 40, 39, 38, 37, 36, 35, 34, 33, 32, 31, 30, 27, 26, 25, 24, 23, 22, 21, 20, 19, 18, 17, 16, 15, 14, 13, 12, 11, 10, 9, 8, 7, 3, 0] (fun i (_ : Unit) => [(30, .d (.int .i64 (i : Nat)))]) (fun i (_ : Unit) => [(800000001, .dp (some (52, 1)) ((elAll cs x i).map D.ints) none)]) cs.length (fun _ _ => True) () trivial (by refine Wk.auto ?_ ?_ <;> simp [extraK, lk, killL, St.kill, wipeO, wipeS, AV.has, AV.hasL, AO.wipe, List.map_set, updSt, insL, dropS, ins, elAll, List.take_zero, List.flatMap_nil, List.map_nil]) ?_
 rintro R i _ hN hE hi _
 have hll := elAll_len (cs := cs) (x := x) i
 have hll2 : i * (cs.length + 1) <= 60 * 61 := Nat.mul_le_mul (by omega) (by omega)
 by_cases hlt : i < cs.length
 . have el1 : el (cs.map D.ints) i = D.ints (cs.getD i []) := el_map (f := D.ints) [] hlt
   have gc := hg _ (getD_mem (z := ([] : List Int)) hlt)
   have gcl := good_len gc
   have c3 := contains_ok (cs.getD i []) x (by omega)
   have c4 := contains_ok (cs.getD i []) (-x) (by omega)
   have c5 := clone_ok (cs.getD i []) (by omega)
   have hnx := elAll_succ (x := x) hlt
   have hneg : IntKind.i64.wrap (0 - x) = -x := by rw [wrap_of (by omega)]; omega
   have hkd : keepV x (cs.getD i []) = (!((cs.getD i []).any (· == x)) && !((cs.getD i []).any (· == -x))) := rfl
   have hrs : ∀ k, k < cs.length -> _ := fun k hk => resK_succ (x := x) (c := cs.getD i []) hk
   have hr0 : resK cs x (cs.getD i []) 0 = [] := rfl
   have hrc : ∀ k, Ctr Try.prog 100 [.ints (cs.getD i []), .ints (cs.getD k []), .int .i64 x] false (.tup [.sl 0, .d (.bool (resolveI (cs.getD i []) (cs.getD k []) x).isSome)]) [(0, .arr 3 1 ((optL (resolveI (cs.getD i []) (cs.getD k []) x)).map (.int .i64)))] := fun k => by
    by_cases hk : k < cs.length
    . exact resolve_ok (u := v) (u' := v) _ _ x (by omega) (by have := hcx k; omega) (okc _ (getD_mem hlt)) (okc _ (getD_mem hk))
    . exact resolve_ok (u := v) (u' := v) _ _ x (by omega) (by have := hcx k; omega) (okc _ (getD_mem hlt)) (by rw [List.getD_eq_getElem?_getD, List.getElem?_eq_none (by omega)]; exact oke)
   unfold elOne at hnx
   generalize cs.getD i [] = c at *
   generalize elAll cs x i = L at *
   refine Ok.seq (Ok.go ?_)
   simp (disch := first | omega | decide +kernel) only [List.length_map, go_sem, Qa, Qb, Qc, Qd, Qe, ↓reduceIte, reduceCtorEq, Qf, Qg, Qh]
   (repeat' (first | ((first | (refine gsel_split (fun q' => ?_) (fun q' => ?_) <;> (have h' := q') <;> (try simp only [za1, za2, Ba, Bb, za3, ne_eq, za4, za5, za6, Ia, Ib, Ic, Ie, Da, Bc, Bd, Be, za7, za8] at h') <;> try (exfalso; omega)) | (have q' := trivial; first | refine hE _ _ ret_ne ?_ | refine hE _ _ exit_ne ?_)) <;> (try simp (disch := first | omega | decide +kernel) only [q', List.length_map, go_sem, Qa, Qb, Qc, Qd, Qe, ↓reduceIte, reduceCtorEq, Qf, Qg, Qh]) <;> clear q') | refine hN _ ?_ ?_ Wk.kk | with_reducible refine And.intro ?_ ?_ | with_reducible omega | exact ok_ints | exact cells_ints | exact no_mem | with_reducible exact plain_ints | (refine le_maxLen ?_; omega) | (refine za9 ⟨?_, ?_⟩) | (simp only [go_sem, Qc, Qb, zb1, zb2, forall_eq]; done)))
   refine Ok.seq (Ok.go ?_)
   simp (disch := first | omega | decide +kernel) only [go_sem, Qa, Qb, Qc, Qd, Qe, ↓reduceIte, reduceCtorEq, Qf, Qg, Qh]
   (repeat' (first | ((first | (refine gsel_split (fun q' => ?_) (fun q' => ?_) <;> (have h' := q') <;> (try simp only [za1, za2, Ba, Bb, za3, ne_eq, za4, za5, za6, Ia, Ib, Ic, Ie, Da, Bc, Bd, Be, za7, za8] at h') <;> try (exfalso; omega)) | (have q' := trivial; first | refine hE _ _ ret_ne ?_ | refine hE _ _ exit_ne ?_)) <;> (try simp (disch := first | omega | decide +kernel) only [q', go_sem, Qa, Qb, Qc, Qd, Qe, ↓reduceIte, reduceCtorEq, Qf, Qg, Qh]) <;> clear q') | refine hN _ ?_ ?_ Wk.kk | with_reducible refine And.intro ?_ ?_ | with_reducible omega | exact ok_ints | exact cells_ints | exact no_mem | with_reducible exact plain_ints | (refine le_maxLen ?_; omega) | (refine za9 ⟨?_, ?_⟩) | (simp only [go_sem, Qc, Qb, zb1, zb2, forall_eq]; done)))
   refine Ok.seq (Ok.block (Ok.seq (Ok.go ?_)))
   simp (disch := first | omega | decide +kernel) only [el1, D.ints, List.length_map, go_sem, Qa, Qb, Qc, Qd, Qe, ↓reduceIte, reduceCtorEq, Qf, Qg, Qh]
   (repeat' (first | ((first | (refine gsel_split (fun q' => ?_) (fun q' => ?_) <;> (have h' := q') <;> (try simp only [za1, za2, Ba, Bb, za3, ne_eq, za4, za5, za6, Ia, Ib, Ic, Ie, Da, Bc, Bd, Be, za7, za8] at h') <;> try (exfalso; omega)) | (have q' := trivial; first | refine hE _ _ ret_ne ?_ | refine hE _ _ exit_ne ?_)) <;> (try simp (disch := first | omega | decide +kernel) only [q', el1, D.ints, List.length_map, go_sem, Qa, Qb, Qc, Qd, Qe, ↓reduceIte, reduceCtorEq, Qf, Qg, Qh]) <;> clear q') | refine hN _ ?_ ?_ Wk.kk | with_reducible refine And.intro ?_ ?_ | with_reducible omega | exact ok_ints | exact cells_ints | exact no_mem | with_reducible exact plain_ints | (refine le_maxLen ?_; omega) | (refine za9 ⟨?_, ?_⟩) | (simp only [go_sem, Qc, Qb, zb1, zb2, forall_eq]; done)))
   refine Ok.seqA1 ⟨[(30, .d (.int .i64 (i : Nat))), (29, .d (.int .i64 (cs.length : Nat))), (28, .d (.slice (cs.map D.ints))), (8, .d (.slice (c.map (.int .i64)))), (6, .p 6 0), (5, .d (.bool false)), (4, .p 4 0), (2, .p 2 0), (1, .d (.int .i64 x))],
    [(800000001, .dp (some (52, 1)) ((L ++ (if keepV x c then [c] else [])).map D.ints) none), (6, .box 34 [.d (.int .i64 v), .sl 800000001]), (4, .box 34 [.d (.int .i64 0), .d (.slice [])]), (2, .box 34 [.d (.int .i64 v), .d (.slice (cs.map D.ints))])]⟩ ?_ ?_
   . clear c3 c4 c5
     rw [← List.append_assoc] at hnx
     generalize (L ++ if keepV x c = true then [c] else []) = M at *
     have hMl : (M ++ resK cs x c cs.length).length <= 61 * 61 := by rw [← hnx]; exact Nat.le_trans (elAll_len (i + 1)) (Nat.mul_le_mul (by omega) (by omega))
     rw [List.length_append] at hMl
     refine Ok.seq (Ok.go ?_)
     simp (disch := first | omega | decide +kernel) only [List.length_map, go_sem, Qa, Qb, Qc, Qd, Qe, ↓reduceIte, reduceCtorEq, Qf, Qg, Qh]
     (repeat' (first | ((first | (refine gsel_split (fun q' => ?_) (fun q' => ?_) <;> (have h' := q') <;> (try simp only [za1, za2, Ba, Bb, za3, ne_eq, za4, za5, za6, Ia, Ib, Ic, Ie, Da, Bc, Bd, Be, za7, za8] at h') <;> try (exfalso; omega)) | (have q' := trivial; first | refine hE _ _ ret_ne ?_ | refine hE _ _ exit_ne ?_)) <;> (try simp (disch := first | omega | decide +kernel) only [q', List.length_map, go_sem, Qa, Qb, Qc, Qd, Qe, ↓reduceIte, reduceCtorEq, Qf, Qg, Qh]) <;> clear q') | refine hN _ ?_ ?_ Wk.kk | with_reducible refine And.intro ?_ ?_ | with_reducible omega | exact ok_ints | exact cells_ints | exact no_mem | with_reducible exact plain_ints | (refine le_maxLen ?_; omega) | (refine za9 ⟨?_, ?_⟩) | (simp only [go_sem, Qc, Qb, zb1, zb2, forall_eq]; done)))
     refine Ok.block ?_
     refine Ok.loopNO [87, 86, 85, 84, 83, 82, 81, 80, 79, 78, 77, 76, 75, 74, 73, 72, 71, 70, 69, 68, 67, 66, 65, 64, 63, 62, 61, 60, 59, 58, 57, 56, 55, 52, 51, 50, 49, 48, 47, 46, 45, 44, 43, 42, 41, 40, 39, 38, 37, 36, 35, 34, 33, 32, 31, 27, 26, 25, 24, 23, 22, 21, 20, 19, 18, 17, 16, 15, 14, 13, 12, 11, 10, 9, 7, 3, 0] (fun k (_ : Unit) => [(55, .d (.int .i64 (k : Nat)))]) (fun k (_ : Unit) => [(800000001, .dp (some (52, 1)) ((M ++ resK cs x c k).map D.ints) none)]) cs.length (fun _ _ => True) () trivial (by refine Wk.auto ?_ ?_ <;> simp [extraK, lk, killL, St.kill, wipeO, wipeS, AV.has, AV.hasL, AO.wipe, List.map_set, updSt, insL, dropS, ins, hr0, List.append_nil]) ?_
     rintro R2 k _ hN2 hE2 hk _
     have hkl := resK_len cs x c k
     by_cases hkt : k < cs.length
     . have el2 : el (cs.map D.ints) k = D.ints (cs.getD k []) := el_map (f := D.ints) [] hkt
       have c6 := hrc k
       have hs := hrs k hkt
       generalize cs.getD k [] = d at *
       generalize resK cs x c k = rk at *
       refine Ok.seq (Ok.go ?_)
       simp (disch := first | omega | decide +kernel) only [List.length_map, go_sem, Qa, Qb, Qc, Qd, Qe, ↓reduceIte, reduceCtorEq, Qf, Qg, Qh]
       (repeat' (first | ((first | (refine gsel_split (fun q' => ?_) (fun q' => ?_) <;> (have h' := q') <;> (try simp only [za1, za2, Ba, Bb, za3, ne_eq, za4, za5, za6, Ia, Ib, Ic, Ie, Da, Bc, Bd, Be, za7, za8] at h') <;> try (exfalso; omega)) | (have q' := trivial; first | refine hE _ _ ret_ne ?_ | refine hE _ _ exit_ne ?_)) <;> (try simp (disch := first | omega | decide +kernel) only [q', List.length_map, go_sem, Qa, Qb, Qc, Qd, Qe, ↓reduceIte, reduceCtorEq, Qf, Qg, Qh]) <;> clear q') | refine hN _ ?_ ?_ Wk.kk | with_reducible refine And.intro ?_ ?_ | with_reducible omega | exact ok_ints | exact cells_ints | exact no_mem | with_reducible exact plain_ints | (refine le_maxLen ?_; omega) | (refine za9 ⟨?_, ?_⟩) | (simp only [go_sem, Qc, Qb, zb1, zb2, forall_eq]; done)))
       refine Ok.seq (Ok.go ?_)
       simp (disch := first | omega | decide +kernel) only [go_sem, Qa, Qb, Qc, Qd, Qe, ↓reduceIte, reduceCtorEq, Qf, Qg, Qh]
       (repeat' (first | ((first | (refine gsel_split (fun q' => ?_) (fun q' => ?_) <;> (have h' := q') <;> (try simp only [za1, za2, Ba, Bb, za3, ne_eq, za4, za5, za6, Ia, Ib, Ic, Ie, Da, Bc, Bd, Be, za7, za8] at h') <;> try (exfalso; omega)) | (have q' := trivial; first | refine hE _ _ ret_ne ?_ | refine hE _ _ exit_ne ?_)) <;> (try simp (disch := first | omega | decide +kernel) only [q', go_sem, Qa, Qb, Qc, Qd, Qe, ↓reduceIte, reduceCtorEq, Qf, Qg, Qh]) <;> clear q') | refine hN _ ?_ ?_ Wk.kk | with_reducible refine And.intro ?_ ?_ | with_reducible omega | exact ok_ints | exact cells_ints | exact no_mem | with_reducible exact plain_ints | (refine le_maxLen ?_; omega) | (refine za9 ⟨?_, ?_⟩) | (simp only [go_sem, Qc, Qb, zb1, zb2, forall_eq]; done)))
       refine Ok.seq (Ok.block (Ok.seq (Ok.go ?_)))
       simp (disch := first | omega | decide +kernel) only [el2, D.ints, List.length_map, go_sem, Qa, Qb, Qc, Qd, Qe, ↓reduceIte, reduceCtorEq, Qf, Qg, Qh]
       (repeat' (first | ((first | (refine gsel_split (fun q' => ?_) (fun q' => ?_) <;> (have h' := q') <;> (try simp only [za1, za2, Ba, Bb, za3, ne_eq, za4, za5, za6, Ia, Ib, Ic, Ie, Da, Bc, Bd, Be, za7, za8] at h') <;> try (exfalso; omega)) | (have q' := trivial; first | refine hE _ _ ret_ne ?_ | refine hE _ _ exit_ne ?_)) <;> (try simp (disch := first | omega | decide +kernel) only [q', el2, D.ints, List.length_map, go_sem, Qa, Qb, Qc, Qd, Qe, ↓reduceIte, reduceCtorEq, Qf, Qg, Qh]) <;> clear q') | refine hN _ ?_ ?_ Wk.kk | with_reducible refine And.intro ?_ ?_ | with_reducible omega | exact ok_ints | exact cells_ints | exact no_mem | with_reducible exact plain_ints | (refine le_maxLen ?_; omega) | (refine za9 ⟨?_, ?_⟩) | (simp only [go_sem, Qc, Qb, zb1, zb2, forall_eq]; done)))
       cases hr : resolveI c d x with
       | none =>
         rw [hr] at c6 hs
         simp only [Option.isSome_none, optL] at c6 hs
         refine Ok.go ?_
         simp (disch := first | omega | decide +kernel) only [D.ints, go_sem, Qa, Qb, Qc, Qd, Qe, ↓reduceIte, reduceCtorEq, Qf, Qg, Qh]
         (repeat' (first | ((first | (refine gsel_split (fun q' => ?_) (fun q' => ?_) <;> (have h' := q') <;> (try simp only [za1, za2, Ba, Bb, za3, ne_eq, za4, za5, za6, Ia, Ib, Ic, Ie, Da, Bc, Bd, Be, za7, za8] at h') <;> try (exfalso; omega)) | (have q' := trivial; first | refine callX_new (c6) rfl (by decide) ?_ | refine callY_new (c6) rfl ?_ | refine hE _ _ ret_ne ?_ | refine hE _ _ exit_ne ?_)) <;> (try simp (disch := first | omega | decide +kernel) only [q', D.ints, go_sem, Qa, Qb, Qc, Qd, Qe, ↓reduceIte, reduceCtorEq, Qf, Qg, Qh]) <;> clear q') | refine hN _ ?_ ?_ Wk.kk | with_reducible refine And.intro ?_ ?_ | with_reducible omega | exact ok_ints | exact cells_ints | exact no_mem | with_reducible exact plain_ints | (refine le_maxLen ?_; omega) | (refine za9 ⟨?_, ?_⟩) | (simp only [go_sem, Qc, Qb, zb1, zb2, forall_eq]; done)))
         refine Ok.go ?_
         simp (disch := first | omega | decide +kernel) only [go_sem, Qa, Qb, Qc, Qd, Qe, ↓reduceIte, reduceCtorEq, Qf, Qg, Qh]
         rw [show (k : Int) + 1 = ((k + 1 : Nat) : Int) by omega]
         refine hN2 () _ hkt trivial ?_
         rw [hs]
         exact (by refine Wk.auto ?_ ?_ <;> simp [extraK, lk, killL, St.kill, wipeO, wipeS, AV.has, AV.hasL, AO.wipe, List.map_set, updSt, insL, dropS, ins, ])
       | some r =>
         rw [hr] at c6 hs
         simp only [Option.isSome_some, optL] at c6 hs
         refine Ok.go ?_
         simp (disch := first | omega | decide +kernel) only [D.ints, go_sem, Qa, Qb, Qc, Qd, Qe, ↓reduceIte, reduceCtorEq, Qf, Qg, Qh]
         (repeat' (first | ((first | (refine gsel_split (fun q' => ?_) (fun q' => ?_) <;> (have h' := q') <;> (try simp only [za1, za2, Ba, Bb, za3, ne_eq, za4, za5, za6, Ia, Ib, Ic, Ie, Da, Bc, Bd, Be, za7, za8] at h') <;> try (exfalso; omega)) | (have q' := trivial; first | refine callX_new (c6) rfl (by decide) ?_ | refine callY_new (c6) rfl ?_ | refine hE _ _ ret_ne ?_ | refine hE _ _ exit_ne ?_)) <;> (try simp (disch := first | omega | decide +kernel) only [q', D.ints, go_sem, Qa, Qb, Qc, Qd, Qe, ↓reduceIte, reduceCtorEq, Qf, Qg, Qh]) <;> clear q') | refine hN _ ?_ ?_ Wk.kk | with_reducible refine And.intro ?_ ?_ | with_reducible omega | exact ok_ints | exact cells_ints | exact no_mem | with_reducible exact plain_ints | (refine le_maxLen ?_; omega) | (refine za9 ⟨?_, ?_⟩) | (simp only [go_sem, Qc, Qb, zb1, zb2, forall_eq]; done)))
         all_goals (first | exact of_eq_true (bare_ints _) | omega | skip)
         refine Ok.go ?_
         simp (disch := first | omega | decide +kernel) only [go_sem, Qa, Qb, Qc, Qd, Qe, ↓reduceIte, reduceCtorEq, Qf, Qg, Qh]
         rw [show (k : Int) + 1 = ((k + 1 : Nat) : Int) by omega]
         refine hN2 () _ hkt trivial ?_
         rw [hs]
         exact (by refine Wk.auto ?_ ?_ <;> simp [extraK, lk, killL, St.kill, wipeO, wipeS, AV.has, AV.hasL, AO.wipe, List.map_set, updSt, insL, dropS, ins, D.ints, List.map_append, List.map_cons, List.map_nil, List.append_assoc])
     . obtain rfl : k = cs.length := by omega
       clear hN2
       refine Ok.go ?_
       simp (disch := first | omega | decide +kernel) only [List.length_map, go_sem, Qa, Qb, Qc, Qd, Qe, ↓reduceIte, reduceCtorEq, Qf, Qg, Qh]
       (repeat' (first | ((first | (refine gsel_split (fun q' => ?_) (fun q' => ?_) <;> (have h' := q') <;> (try simp only [za1, za2, Ba, Bb, za3, ne_eq, za4, za5, za6, Ia, Ib, Ic, Ie, Da, Bc, Bd, Be, za7, za8] at h') <;> try (exfalso; omega)) | (have q' := trivial; first | refine hE _ _ ret_ne ?_ | refine hE _ _ exit_ne ?_)) <;> (try simp (disch := first | omega | decide +kernel) only [q', List.length_map, go_sem, Qa, Qb, Qc, Qd, Qe, ↓reduceIte, reduceCtorEq, Qf, Qg, Qh]) <;> clear q') | refine hN _ ?_ ?_ Wk.kk | with_reducible refine And.intro ?_ ?_ | with_reducible omega | exact ok_ints | exact cells_ints | exact no_mem | with_reducible exact plain_ints | (refine le_maxLen ?_; omega) | (refine za9 ⟨?_, ?_⟩) | (simp only [go_sem, Qc, Qb, zb1, zb2, forall_eq]; done)))
       refine hE2 _ _ exit_ne ?_
       simp (disch := first | omega | decide +kernel) only [go_sem, Qa, Qb, Qc, Qd, Qe, ↓reduceIte, reduceCtorEq, Qf, Qg, Qh]
       refine Ok.go ?_
       simp (disch := first | omega | decide +kernel) only [go_sem, Qa, Qb, Qc, Qd, Qe, ↓reduceIte, reduceCtorEq, Qf, Qg, Qh]
       rw [show (i : Int) + 1 = ((i + 1 : Nat) : Int) by omega]
       refine hN () _ hlt trivial ?_
       rw [hnx]
       exact (by refine Wk.auto ?_ ?_ <;> simp [extraK, lk, killL, St.kill, wipeO, wipeS, AV.has, AV.hasL, AO.wipe, List.map_set, updSt, insL, dropS, ins, ])
   . rw [hkd]
     generalize c.any (· == x) = b1 at *
     generalize c.any (· == -x) = b2 at *
     cases b1 <;> cases b2
     . refine Ok.seq (Ok.go ?_)
       simp (disch := first | omega | decide +kernel) only [hneg, D.ints, go_sem, Qa, Qb, Qc, Qd, Qe, ↓reduceIte, reduceCtorEq, Qf, Qg, Qh]
       (repeat' (first | ((first | (refine gsel_split (fun q' => ?_) (fun q' => ?_) <;> (have h' := q') <;> (try simp only [za1, za2, Ba, Bb, za3, ne_eq, za4, za5, za6, Ia, Ib, Ic, Ie, Da, Bc, Bd, Be, za7, za8] at h') <;> try (exfalso; omega)) | (have q' := trivial; first | refine callX_new (c3) rfl (by decide) ?_ | refine callY_new (c3) rfl ?_ | refine callX_new (c4) rfl (by decide) ?_ | refine callY_new (c4) rfl ?_ | refine hE _ _ ret_ne ?_ | refine hE _ _ exit_ne ?_)) <;> (try simp (disch := first | omega | decide +kernel) only [q', hneg, D.ints, go_sem, Qa, Qb, Qc, Qd, Qe, ↓reduceIte, reduceCtorEq, Qf, Qg, Qh]) <;> clear q') | refine hN _ ?_ ?_ Wk.kk | with_reducible refine And.intro ?_ ?_ | with_reducible omega | exact ok_ints | exact cells_ints | exact no_mem | with_reducible exact plain_ints | (refine le_maxLen ?_; omega) | (refine za9 ⟨?_, ?_⟩) | (simp only [go_sem, Qc, Qb, zb1, zb2, forall_eq]; done)))
       refine Ok.condT rfl ?_
       refine Ok.reg7 [true, true, true, false, false, false, true, false] (by decide +kernel) ?_
       simp (disch := first | omega | decide +kernel) only [D.ints, go_sem, Qa, Qb, Qc, Qd, Qe, ↓reduceIte, reduceCtorEq, Qf, Qg, Qh]
       (repeat' (first | ((first | (refine gsel_split (fun q' => ?_) (fun q' => ?_) <;> (have h' := q') <;> (try simp only [za1, za2, Ba, Bb, za3, ne_eq, za4, za5, za6, Ia, Ib, Ic, Ie, Da, Bc, Bd, Be, za7, za8] at h') <;> try (exfalso; omega)) | (have q' := trivial; first | refine callX_new (c5) rfl (by decide) ?_ | refine callY_new (c5) rfl ?_ | refine hE _ _ ret_ne ?_ | refine hE _ _ exit_ne ?_)) <;> (try simp (disch := first | omega | decide +kernel) only [q', D.ints, go_sem, Qa, Qb, Qc, Qd, Qe, ↓reduceIte, reduceCtorEq, Qf, Qg, Qh]) <;> clear q') | refine hN _ ?_ ?_ Wk.kk | with_reducible refine And.intro ?_ ?_ | with_reducible omega | exact ok_ints | exact cells_ints | exact no_mem | with_reducible exact plain_ints | (refine le_maxLen ?_; omega) | (refine za9 ⟨?_, ?_⟩) | (simp only [go_sem, Qc, Qb, zb1, zb2, forall_eq]; done)))
       all_goals (first | exact of_eq_true (bare_ints _) | omega | exact (by refine Wk.auto ?_ ?_ <;> simp [extraK, lk, killL, St.kill, wipeO, wipeS, AV.has, AV.hasL, AO.wipe, List.map_set, updSt, insL, dropS, ins, D.ints, List.map_append, List.map_cons, List.map_nil]))
     all_goals
      refine Ok.seq (Ok.go ?_)
      simp (disch := first | omega | decide +kernel) only [hneg, D.ints, go_sem, Qa, Qb, Qc, Qd, Qe, ↓reduceIte, reduceCtorEq, Qf, Qg, Qh]
      (repeat' (first | ((first | (refine gsel_split (fun q' => ?_) (fun q' => ?_) <;> (have h' := q') <;> (try simp only [za1, za2, Ba, Bb, za3, ne_eq, za4, za5, za6, Ia, Ib, Ic, Ie, Da, Bc, Bd, Be, za7, za8] at h') <;> try (exfalso; omega)) | (have q' := trivial; first | refine callX_new (c3) rfl (by decide) ?_ | refine callY_new (c3) rfl ?_ | refine callX_new (c4) rfl (by decide) ?_ | refine callY_new (c4) rfl ?_ | refine hE _ _ ret_ne ?_ | refine hE _ _ exit_ne ?_)) <;> (try simp (disch := first | omega | decide +kernel) only [q', hneg, D.ints, go_sem, Qa, Qb, Qc, Qd, Qe, ↓reduceIte, reduceCtorEq, Qf, Qg, Qh]) <;> clear q') | refine hN _ ?_ ?_ Wk.kk | with_reducible refine And.intro ?_ ?_ | with_reducible omega | exact ok_ints | exact cells_ints | exact no_mem | with_reducible exact plain_ints | (refine le_maxLen ?_; omega) | (refine za9 ⟨?_, ?_⟩) | (simp only [go_sem, Qc, Qb, zb1, zb2, forall_eq]; done)))
      refine Ok.go ?_
      simp (disch := first | omega | decide +kernel) only [D.ints, go_sem, Qa, Qb, Qc, Qd, Qe, ↓reduceIte, reduceCtorEq, Qf, Qg, Qh]
      (repeat' (first | ((first | (refine gsel_split (fun q' => ?_) (fun q' => ?_) <;> (have h' := q') <;> (try simp only [za1, za2, Ba, Bb, za3, ne_eq, za4, za5, za6, Ia, Ib, Ic, Ie, Da, Bc, Bd, Be, za7, za8] at h') <;> try (exfalso; omega)) | (have q' := trivial; first | refine hE _ _ ret_ne ?_ | refine hE _ _ exit_ne ?_)) <;> (try simp (disch := first | omega | decide +kernel) only [q', D.ints, go_sem, Qa, Qb, Qc, Qd, Qe, ↓reduceIte, reduceCtorEq, Qf, Qg, Qh]) <;> clear q') | refine hN _ ?_ ?_ Wk.kk | with_reducible refine And.intro ?_ ?_ | with_reducible omega | exact ok_ints | exact cells_ints | exact no_mem | with_reducible exact plain_ints | (refine le_maxLen ?_; omega) | (refine za9 ⟨?_, ?_⟩) | (simp only [go_sem, Qc, Qb, zb1, zb2, forall_eq]; done)))
      exact (by refine Wk.auto ?_ ?_ <;> simp [extraK, lk, killL, St.kill, wipeO, wipeS, AV.has, AV.hasL, AO.wipe, List.map_set, updSt, insL, dropS, ins, ])
 . obtain rfl : i = cs.length := by omega
   clear hN
   refine Ok.go ?_
   simp (disch := first | omega | decide +kernel) only [List.length_map, go_sem, Qa, Qb, Qc, Qd, Qe, ↓reduceIte, reduceCtorEq, Qf, Qg, Qh]
   (repeat' (first | ((first | (refine gsel_split (fun q' => ?_) (fun q' => ?_) <;> (have h' := q') <;> (try simp only [za1, za2, Ba, Bb, za3, ne_eq, za4, za5, za6, Ia, Ib, Ic, Ie, Da, Bc, Bd, Be, za7, za8] at h') <;> try (exfalso; omega)) | (have q' := trivial; first | refine hE _ _ ret_ne ?_ | refine hE _ _ exit_ne ?_)) <;> (try simp (disch := first | omega | decide +kernel) only [q', List.length_map, go_sem, Qa, Qb, Qc, Qd, Qe, ↓reduceIte, reduceCtorEq, Qf, Qg, Qh]) <;> clear q') | refine hN _ ?_ ?_ Wk.kk | with_reducible refine And.intro ?_ ?_ | with_reducible omega | exact ok_ints | exact cells_ints | exact no_mem | with_reducible exact plain_ints | (refine le_maxLen ?_; omega) | (refine za9 ⟨?_, ?_⟩) | (simp only [go_sem, Qc, Qb, zb1, zb2, forall_eq]; done)))
   refine Ok.tag1 800000001 900000001 (by decide) (cs := elAll cs x cs.length) rfl fun ps hps => ?_
   have hpg : ∀ p ∈ ps, Good p.2 := fun p hp => elAll_good hg cs.length _ (hps ▸ List.mem_map.2 ⟨p, hp, rfl⟩)
   have hpl : ps.length <= 3660 := by have := congrArg List.length hps; rw [List.length_map] at this; omega
   have c6 := sortT_ok ps (by omega) (fun p hp => by have := good_len (hpg p hp); omega) fun p hp => good_sm (hpg p hp)
   obtain ⟨q1, q2⟩ := srtT_perm ps (Lib.bitLen ps.length) fun p hp => good_sm (hpg p hp)
   rw [hps] at q2
   generalize srtT ps (Lib.bitLen ps.length) = qs at *
   have hql : qs.length <= 3660 := by rw [q1.length_eq]; exact hpl
   have c7 := compactT_ok qs (by omega) (fun p hp => by have := good_len (hpg p (q1.mem_iff.1 hp)); omega)
   have hce := comp_eq hg q2
   have hcel : (cpT qs qs.length).length = (elimV cs x).length := by rw [← hce, List.length_map]
   have hsub : (cpT qs qs.length).Sublist qs := by have := cmpA_sub (z := zTg) (f := fun q : Tg => q.2) (l := qs) qs.length (Nat.le_refl _); rwa [List.take_length] at this
   generalize cpT qs qs.length = es at *
   have hq : (es.map fun p : Tg => D.slice (p.2.map (.int .i64))) = (elimV cs x).map D.ints := by rw [← hce, List.map_map]; rfl
   refine Ok.seq (Ok.go ?_)
   simp (disch := first | omega | decide +kernel) only [go_sem, Qa, Qb, Qc, Qd, Qe, ↓reduceIte, reduceCtorEq, Qf, Qg, Qh]
   refine callX_shareK 800000001 c6 ⟨.inl rfl, .inl rfl, trivial⟩ rfl (by simp [dstB]) ?_
   simp (disch := first | omega | decide +kernel) only [go_sem, Qa, Qb, Qc, Qd, Qe, ↓reduceIte, reduceCtorEq, Qf, Qg, Qh]
   refine Ok.seq (Ok.go ?_)
   simp (disch := first | omega | decide +kernel) only [go_sem, Qa, Qb, Qc, Qd, Qe, ↓reduceIte, reduceCtorEq, Qf, Qg, Qh]
   refine callX_mut [800000001] [8100000] [800000001, 8100000] c7 ⟨.inl rfl, .inl rfl, trivial⟩ ⟨rfl, trivial⟩ rfl (by simp [dstB]) ?_
   simp (disch := first | omega | decide +kernel) only [go_sem, Qa, Qb, Qc, Qd, Qe, ↓reduceIte, reduceCtorEq, Qf, Qg, Qh]
   (repeat' (first | ((first | (refine gsel_split (fun q' => ?_) (fun q' => ?_) <;> (have h' := q') <;> (try simp only [za1, za2, Ba, Bb, za3, ne_eq, za4, za5, za6, Ia, Ib, Ic, Ie, Da, Bc, Bd, Be, za7, za8] at h') <;> try (exfalso; omega)) | (have q' := trivial; first | refine hE _ _ ret_ne ?_ | refine hE _ _ exit_ne ?_)) <;> (try simp (disch := first | omega | decide +kernel) only [q', go_sem, Qa, Qb, Qc, Qd, Qe, ↓reduceIte, reduceCtorEq, Qf, Qg, Qh]) <;> clear q') | refine hN _ ?_ ?_ Wk.kk | with_reducible refine And.intro ?_ ?_ | with_reducible omega | exact ok_ints | exact cells_ints | exact no_mem | with_reducible exact plain_ints | (refine le_maxLen ?_; omega) | (refine za9 ⟨?_, ?_⟩) | (simp only [go_sem, Qc, Qb, zb1, zb2, forall_eq]; done)))
   refine Ok.seq (Ok.go ?_)
   simp (disch := first | omega | decide +kernel) only [List.length_map, hcel, go_sem, Qa, Qb, Qc, Qd, Qe, ↓reduceIte, reduceCtorEq, Qf, Qg, Qh]
   (repeat' (first | ((first | (refine gsel_split (fun q' => ?_) (fun q' => ?_) <;> (have h' := q') <;> (try simp only [za1, za2, Ba, Bb, za3, ne_eq, za4, za5, za6, Ia, Ib, Ic, Ie, Da, Bc, Bd, Be, za7, za8] at h') <;> try (exfalso; omega)) | (have q' := trivial; first | refine hE _ _ ret_ne ?_ | refine hE _ _ exit_ne ?_)) <;> (try simp (disch := first | omega | decide +kernel) only [q', List.length_map, hcel, go_sem, Qa, Qb, Qc, Qd, Qe, ↓reduceIte, reduceCtorEq, Qf, Qg, Qh]) <;> clear q') | refine hN _ ?_ ?_ Wk.kk | with_reducible refine And.intro ?_ ?_ | with_reducible omega | exact ok_ints | exact cells_ints | exact no_mem | with_reducible exact plain_ints | (refine le_maxLen ?_; omega) | (refine za9 ⟨?_, ?_⟩) | (simp only [go_sem, Qc, Qb, zb1, zb2, forall_eq]; done)))
   exact ⟨_, Wk.obj 4 rfl nil2E, ret_cbdE rfl rfl rfl (by simp only [go_sem]) (by simp only [go_sem, List.length_cons, List.length_nil]) rfl (by simp only [go_sem]) rfl rfl⟩
set_option maxHeartbeats 8000000 in
theorem implElimF_ok (v : Int) (cs : List (List Int)) (x : Int) (h : elG v cs x = false) (hl : cs.length <= 1048576) (hc : ∀ j, (cs.getD j []).length <= 1048576) :
 Ctr Try.prog 24 [.agg [.int .i64 v, .slice (cs.map D.ints)], .int .i64 x] false (.tup [.d (.agg [.int .i64 0, .slice []]), .d (.bool false)]) [] := by
 have c1 := isCnf_ok v cs (by omega) fun j => by have := hc j; omega
 have c2 := isVar_ok v x
 rw [elG] at h
 cases hb : okCnf v cs with
 | false =>
   rw [hb] at c1
   refine Ctr.ofK (n := 88) (rs := [.cell 4 34, .tmp 5]) Try.func24 rfl rfl Try.ntmps24 rfl rfl (by kernel_rfl) Try.checked.mixed ?_
   refine Ok.endsW ?_
   refine Ok.go ?_
   simp (disch := first | omega | decide +kernel) only [go_sem, Qa, Qb, Qc, Qd, Qe, ↓reduceIte, reduceCtorEq, Qf, Qg, Qh]
   (repeat' (first | ((first | (refine gsel_split (fun q' => ?_) (fun q' => ?_) <;> (have h' := q') <;> (try simp only [za1, za2, Ba, Bb, za3, ne_eq, za4, za5, za6, Ia, Ib, Ic, Ie, Da, Bc, Bd, Be, za7, za8] at h') <;> try (exfalso; omega)) | (have q' := trivial; first | refine callX_new (c1) rfl (by decide) ?_ | refine callY_new (c1) rfl ?_ | refine callX_new (c2) rfl (by decide) ?_ | refine callY_new (c2) rfl ?_ | refine hE _ _ ret_ne ?_ | refine hE _ _ exit_ne ?_)) <;> (try simp (disch := first | omega | decide +kernel) only [q', go_sem, Qa, Qb, Qc, Qd, Qe, ↓reduceIte, reduceCtorEq, Qf, Qg, Qh]) <;> clear q') | refine hN _ ?_ ?_ Wk.kk | with_reducible refine And.intro ?_ ?_ | with_reducible omega | exact ok_ints | exact cells_ints | exact no_mem | with_reducible exact plain_ints | (refine le_maxLen ?_; omega) | (refine za9 ⟨?_, ?_⟩) | (simp only [go_sem, Qc, Qb, zb1, zb2, forall_eq]; done)))
   exact ⟨_, Wk.obj 4 rfl nil2E, ret_cbdE rfl rfl rfl (by simp only [go_sem]) (by simp only [go_sem, List.length_cons, List.length_nil]) rfl (by simp only [go_sem]) rfl rfl⟩
 | true =>
   rw [hb] at c1 h
   rw [Bool.true_and] at h
   rw [h] at c2
   refine Ctr.ofK (n := 88) (rs := [.cell 4 34, .tmp 5]) Try.func24 rfl rfl Try.ntmps24 rfl rfl (by kernel_rfl) Try.checked.mixed ?_
   refine Ok.endsW ?_
   refine Ok.go ?_
   simp (disch := first | omega | decide +kernel) only [go_sem, Qa, Qb, Qc, Qd, Qe, ↓reduceIte, reduceCtorEq, Qf, Qg, Qh]
   (repeat' (first | ((first | (refine gsel_split (fun q' => ?_) (fun q' => ?_) <;> (have h' := q') <;> (try simp only [za1, za2, Ba, Bb, za3, ne_eq, za4, za5, za6, Ia, Ib, Ic, Ie, Da, Bc, Bd, Be, za7, za8] at h') <;> try (exfalso; omega)) | (have q' := trivial; first | refine callX_new (c1) rfl (by decide) ?_ | refine callY_new (c1) rfl ?_ | refine callX_new (c2) rfl (by decide) ?_ | refine callY_new (c2) rfl ?_ | refine hE _ _ ret_ne ?_ | refine hE _ _ exit_ne ?_)) <;> (try simp (disch := first | omega | decide +kernel) only [q', go_sem, Qa, Qb, Qc, Qd, Qe, ↓reduceIte, reduceCtorEq, Qf, Qg, Qh]) <;> clear q') | refine hN _ ?_ ?_ Wk.kk | with_reducible refine And.intro ?_ ?_ | with_reducible omega | exact ok_ints | exact cells_ints | exact no_mem | with_reducible exact plain_ints | (refine le_maxLen ?_; omega) | (refine za9 ⟨?_, ?_⟩) | (simp only [go_sem, Qc, Qb, zb1, zb2, forall_eq]; done)))
   exact ⟨_, Wk.obj 4 rfl nil2E, ret_cbdE rfl rfl rfl (by simp only [go_sem]) (by simp only [go_sem, List.length_cons, List.length_nil]) rfl (by simp only [go_sem]) rfl rfl⟩
end Abs.Y
