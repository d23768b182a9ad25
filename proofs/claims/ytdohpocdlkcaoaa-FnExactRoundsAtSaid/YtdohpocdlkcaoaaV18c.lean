/- What functions of this program compute, over plain data. No condition. -/
import Derived.Test.YtdohpocdlkcaoaaV10c
import Derived.Test.YtdohpocdlkcaoaaE11
import Derived.Test.YtdohpocdlkcaoaaAbsJoin
set_option linter.all false
namespace Abs
open Go Go.RowKit
theorem Wk.resE {N : Nat} {S : List (Nat × AV)} {O : List (Nat × AO)} (r : Nat) : Wk N ⟨S,O⟩ ⟨wipeS r S,ins r (.res []) (wipeO r O)⟩:=fun Z β φ B M w0 a w hs => by
 let β':=upd β r (.slice none 0 0)
 let φ':=updF φ r (fun _ => False)
 have e1 : φ' r=fun _ => False:=updF_eq
 have e3 : ∀ i,i ≠ r->φ' i=φ i:=fun i h => updF_ne i h
 have b3 : ∀ i,i ≠ r->β' i=β i:=fun i h => upd_ne i h
 have hk : ∀ i x,lk i (ins r (.res []) (wipeO r O))=some x->(i=r∧x=.res [])∨(i ≠ r∧∃ y,lk i O=some y∧x=y.wipe r):=fun i x hi => by
  rw [lk_ins] at hi
  split at hi
  . rename_i h3; cases hi; exact .inl ⟨h3,rfl⟩
  . rename_i h3
    obtain ⟨_,y,h5,h6⟩:=lk_wipeO hi
    exact .inr ⟨h3,y,h5,h6⟩
 have hm : ∀ g,free Z φ O g->g < w.heap.size->free Z φ' (ins r (.res []) (wipeO r O)) g∧w.heap[g]? = w.heap[g]? := fun g hg _ => ⟨⟨hg.1,fun i x hi hx => by
  rcases hk i x hi with ⟨rfl,rfl⟩ | ⟨h3,y,h5,rfl⟩
  . cases hx
  . rw [e3 i h3]; exact hg.2 i y h5 (by rw [← wipe_res (j:=r)]; exact hx)⟩,rfl⟩
 refine ⟨β',φ',hs.nd.move hm,hs.size,fun i av hi => ?_,fun i x hi => ?_,fun i x g hi hg => ?_,fun i i' x x' g hi hi' hg hg' => ?_,hs.fr,hs.z⟩
 . obtain ⟨h3,h4⟩:=lk_wipeS hi
   rcases h4 with rfl | h4
   . exact .undef _
   . exact ((hs.slots i av h4).move hm).other b3 h3
 . rcases hk i x hi with ⟨rfl,rfl⟩ | ⟨h3,y,h5,rfl⟩
   . rw [e1]
     show OK β' _ w _ (upd β i _ i) _
     rw [upd_eq]
     exact .res rfl (fun g hg => hg.elim) (fun _ _ => False) (fun n hn => by simp at hn) (fun n g hg => hg) fun n n' g hg _ => hg.elim
   . rw [e3 i h3,b3 i h3]
     exact ((hs.objs i y h5).move hm (Nat.le_refl _) fun _ _ => rfl).wipe b3
 . rcases hk i x hi with ⟨rfl,rfl⟩ | ⟨h3,y,h5,rfl⟩
   . rw [e1] at hg; exact hg.elim
   . rw [e3 i h3] at hg; exact hs.own i y g h5 hg
 . rcases hk i x hi with ⟨rfl,rfl⟩ | ⟨h3,y,h5,rfl⟩<;>rcases hk i' x' hi' with ⟨rfl,rfl⟩ | ⟨h3',y',h5',rfl⟩
   . rfl
   . rw [e1] at hg; exact hg.elim
   . rw [e1] at hg'; exact hg'.elim
   . rw [e3 i h3] at hg; rw [e3 i' h3'] at hg'; exact hs.disj i i' y y' g h5 h5' hg hg'
theorem flat_sl1 (rs : List (List D)) : flat (rs.map D.sl1)=rs.map D.sl1:=flat_one fun x hx => by
 obtain ⟨c,_,rfl⟩:=List.mem_map.1 hx; rfl
theorem flat_sl (rs : List (List D)) : flat (rs.map D.slice)=rs.map D.slice:=flat_one fun x hx => by
 obtain ⟨c,_,rfl⟩:=List.mem_map.1 hx; rfl
theorem OK.un1 {β S w t v F} {rs : List (List D)} (h : OK β S w (.dp t (rs.map D.sl1) none) v F) : OK β S w (.dp t (rs.map D.slice) none) v F:=by
 cases h with
 | dp hlt hD =>
   refine .dp hlt ?_
   rcases hD with ⟨h1,_,h3,h4⟩ | ⟨e,k,xs,fs,ht,hR⟩
   . have : rs=[]:=by simpa using h3
     subst this
     exact .inl ⟨h1,rfl,rfl,h4⟩
   . refine .inr ⟨e,k,xs,fs,ht,hR.hk0,fun x hx => ?_,by simpa using hR.hw,hR.hb,hR.hf,hR.hd,fun i hi _ => ?_,fun _ _ h => by cases h⟩
     . obtain ⟨c,hc,rfl⟩:=List.mem_map.1 hx
       exact hR.hk (.sl1 c) (List.mem_map.2 ⟨c,hc,rfl⟩)
     . rw [flat_sl] at hi ⊢
       have hi' : i < rs.length:=by simpa using hi
       have:=hR.hr i (by rw [flat_sl1]; simpa using hi') (by simp)
       rw [flat_sl1] at this
       simp only [List.getD_eq_getElem?_getD,List.getElem?_map,List.getElem?_eq_getElem hi',Option.map_some,Option.getD_some] at this ⊢
       cases this with
       | sl1 h _ => exact h
theorem Wk.un1 {N} {S : List (Nat × AV)} {O : List (Nat × AO)} (j : Nat) {t} {rs : List (List D)} (hj : lk j O=some (.dp t (rs.map D.sl1) none)) : Wk N ⟨S,O⟩ ⟨S,ins j (.dp t (rs.map D.slice) none) O⟩ :=
 Wk.obj (st:=⟨S,O⟩) j hj fun _ _ _ _ _ h => h.un1
end Abs
namespace Abs.Y
open Go Go.Proofs Abs
open Nat renaming reduceEqDiff -> Qa, reduceLT -> Qb, reduceAdd -> Qc, reduceMul -> Qd, reduceSub -> Qe, reduceLeDiff -> Qf, reduceSubDiff -> Qg, reduceBEq -> Qh
open Bool renaming not_eq_true' -> Ba, not_eq_false' -> Bb, and_eq_true -> Bc, or_eq_true -> Bd, or_eq_false_iff -> Be
open Int renaming ofNat_lt -> Ia, ofNat_le -> Ib, not_lt -> Ic, not_le -> Ie
open Decidable renaming not_not -> Da
set_option maxRecDepth 100000

@[reducible] def D.row1 (r : List (List Int)) : D:=.sl1 (r.map D.ints)
theorem grp_ne (l : List (List Int)) (rd : List Int) : ∀ i,0 < i->grpI l rd i ≠ []
 | i + 1, _ => by
   rw [grpI]
   split<;>simp
theorem grp_len (l : List (List Int)) (rd : List Int) : ∀ i,(grpI l rd i).length<=i
 | 0 => Nat.le_refl _
 | i + 1 => by
   have:=grp_len l rd i
   rw [grpI]
   split
   . simp; omega
   . rw [List.length_append,List.length_dropLast,List.length_singleton]; omega
theorem grp_el (l : List (List Int)) (rd : List Int) : ∀ i,∀ x ∈ grpI l rd i,x.length<=i
 | 0,x,h => nomatch h
 | i + 1, x, h => by
   have ih:=grp_el l rd i
   rw [grpI] at h
   split at h
   . rcases List.mem_append.1 h with h | h
     . have:=ih x h; omega
     . rw [List.mem_singleton] at h; subst h; simp
   . rcases List.mem_append.1 h with h | h
     . have:=ih x (List.dropLast_subset _ h); omega
     . rw [List.mem_singleton] at h
       subst h
       by_cases h0 : grpI l rd i=[]
       . rw [h0]; simp
       . obtain ⟨P,q,e⟩ : ∃ P q,grpI l rd i=P++[q]:=⟨_,_,(List.dropLast_concat_getLast h0).symm⟩
         have:=ih q (by rw [e]; simp)
         rw [e,List.getLastD_concat]; simp; omega
set_option maxHeartbeats 8000000 in
theorem sRounds_ok (v : Int) (cs : List (List Int)) (w : Int) (hl : cs.length<=1048576) (hc : ∀ j,(cs.getD j []).length<=1048576) :
 Ctr Try.prog 9 [.agg [.int .i64 v,.slice (cs.map D.ints)],.int .i64 w] false (.tup [.sl 0,.d (.bool (goodN v cs w))]) [(0,.dp (some (22,1)) ((rndI v cs w).map D.rows) none)]:=by
 have c1:=l10Good_ok v cs (by omega) fun j => by have:=hc j; omega
 have c2:=l10Width_ok w
 unfold rndI
 cases h : goodN v cs w with
 | false =>
   rw [if_neg (by decide)]
   have h':=h
   unfold goodN at h'
   refine Ctr.ofK (n:=69) (rs:=[.tmp 4,.tmp 5]) Try.func9 rfl rfl Try.ntmps9 rfl rfl (by kernel_rfl) Try.checked.mixed ?_
   refine Ok.endsW ?_
   refine Ok.go ?_
   by_cases h1 : (okCnf v cs && decide (v<=6))=true
   . rw [h1,Bool.true_and] at h'
     rw [Bool.and_comm] at h1
     rw [h1] at c1
     rw [h'] at c2
     simp (disch:=first | omega | decide +kernel) only [List.map_nil,go_sem,Qa,Qb,Qc,Qd,Qe,↓reduceIte,reduceCtorEq,Qf,Qg,Qh]
     (repeat' (first | ((first | (refine gsel_split (fun q' => ?_) (fun q' => ?_)<;>(have h':=q')<;>(try simp only [za1,za2,Ba,Bb,za3,ne_eq,za4,za5,za6,Ia,Ib,Ic,Ie,Da,Bc,Bd,Be,za7,za8] at h')) | (have q':=trivial; first | refine callX_new (c1) rfl (by decide) ?_ | refine callY_new (c1) rfl ?_ | refine callX_new (c2) rfl (by decide) ?_ | refine callY_new (c2) rfl ?_ | refine hE _ _ ret_ne ?_ | refine hE _ _ exit_ne ?_))<;>(try simp (disch:=first | omega | decide +kernel) only [q',List.map_nil,go_sem,Qa,Qb,Qc,Qd,Qe,↓reduceIte,reduceCtorEq,Qf,Qg,Qh])<;>clear q') | refine hN _ ?_ ?_ Wk.kk | with_reducible refine And.intro ?_ ?_ | with_reducible omega | exact ok_ints | exact cells_ints | exact no_mem | with_reducible exact plain_ints | (refine le_maxLen ?_; omega) | (refine za9 ⟨?_,?_⟩) | (simp only [go_sem,Qc,Qb,zb1,zb2,forall_eq]; done)))
     all_goals exact ⟨_,Wk.deep 9 rfl (by simp [flat]),ret_dpd 9 rfl rfl rfl rfl⟩
   . rw [Bool.not_eq_true,Bool.and_comm] at h1
     rw [h1] at c1
     simp (disch:=first | omega | decide +kernel) only [List.map_nil,go_sem,Qa,Qb,Qc,Qd,Qe,↓reduceIte,reduceCtorEq,Qf,Qg,Qh]
     (repeat' (first | ((first | (refine gsel_split (fun q' => ?_) (fun q' => ?_)<;>(have h':=q')<;>(try simp only [za1,za2,Ba,Bb,za3,ne_eq,za4,za5,za6,Ia,Ib,Ic,Ie,Da,Bc,Bd,Be,za7,za8] at h')) | (have q':=trivial; first | refine callX_new (c1) rfl (by decide) ?_ | refine callY_new (c1) rfl ?_ | refine callX_new (c2) rfl (by decide) ?_ | refine callY_new (c2) rfl ?_ | refine hE _ _ ret_ne ?_ | refine hE _ _ exit_ne ?_))<;>(try simp (disch:=first | omega | decide +kernel) only [q',List.map_nil,go_sem,Qa,Qb,Qc,Qd,Qe,↓reduceIte,reduceCtorEq,Qf,Qg,Qh])<;>clear q') | refine hN _ ?_ ?_ Wk.kk | with_reducible refine And.intro ?_ ?_ | with_reducible omega | exact ok_ints | exact cells_ints | exact no_mem | with_reducible exact plain_ints | (refine le_maxLen ?_; omega) | (refine za9 ⟨?_,?_⟩) | (simp only [go_sem,Qc,Qb,zb1,zb2,forall_eq]; done)))
     all_goals exact ⟨_,Wk.deep 9 rfl (by simp [flat]),ret_dpd 9 rfl rfl rfl rfl⟩
 | true =>
   rw [if_pos rfl]
   obtain ⟨g1,g2,g3,g4⟩:=good6 h
   have hb:=good_below h
   have h':=h
   rw [goodN,Bc,Bool.and_comm (okCnf v cs)] at h'
   rw [h'.1] at c1
   rw [h'.2] at c2
   obtain ⟨w,rfl⟩ : ∃ n : Nat,w=n:=⟨w.toNat,by omega⟩
   obtain ⟨v,rfl⟩ : ∃ n : Nat,v=n:=⟨v.toNat,by omega⟩
   rw [Int.toNat_natCast] at *
   have c3:=l10Closure_ok g1 hb g2 (by omega) (show w<=6 by omega)
   refine Ctr.ofK (n:=69) (rs:=[.tmp 4,.tmp 5]) Try.func9 rfl rfl Try.ntmps9 rfl rfl (by kernel_rfl) Try.checked.mixed ?_
   refine Ok.endsW ?_
   refine Ok.seq (Ok.go ?_)
   simp (disch:=first | omega | decide +kernel) only [go_sem,Qa,Qb,Qc,Qd,Qe,↓reduceIte,reduceCtorEq,Qf,Qg,Qh]
   refine Ok.seq (Ok.go ?_)
   simp (disch:=first | omega | decide +kernel) only [go_sem,Qa,Qb,Qc,Qd,Qe,↓reduceIte,reduceCtorEq,Qf,Qg,Qh]
   refine ⟨by simp,?_⟩
   refine Ok.seq (Ok.go ?_)
   simp (disch:=first | omega | decide +kernel) only [go_sem,Qa,Qb,Qc,Qd,Qe,↓reduceIte,reduceCtorEq,Qf,Qg,Qh]
   (repeat' (first | ((first | (refine gsel_split (fun q' => ?_) (fun q' => ?_)<;>(have h':=q')<;>(try simp only [za1,za2,Ba,Bb,za3,ne_eq,za4,za5,za6,Ia,Ib,Ic,Ie,Da,Bc,Bd,Be,za7,za8] at h')) | (have q':=trivial; first | refine callX_new (c1) rfl (by decide) ?_ | refine callY_new (c1) rfl ?_ | refine callX_new (c2) rfl (by decide) ?_ | refine callY_new (c2) rfl ?_ | refine hE _ _ ret_ne ?_ | refine hE _ _ exit_ne ?_))<;>(try simp (disch:=first | omega | decide +kernel) only [q',go_sem,Qa,Qb,Qc,Qd,Qe,↓reduceIte,reduceCtorEq,Qf,Qg,Qh])<;>clear q') | refine hN _ ?_ ?_ Wk.kk | with_reducible refine And.intro ?_ ?_ | with_reducible omega | exact ok_ints | exact cells_ints | exact no_mem | with_reducible exact plain_ints | (refine le_maxLen ?_; omega) | (refine za9 ⟨?_,?_⟩) | (simp only [go_sem,Qc,Qb,zb1,zb2,forall_eq]; done)))
   refine Ok.seq (Ok.go ?_)
   simp (disch:=first | omega | decide +kernel) only [go_sem,Qa,Qb,Qc,Qd,Qe,↓reduceIte,reduceCtorEq,Qf,Qg,Qh]
   refine callX_rel [] [] [] c3 ⟨.inl rfl,.inl rfl,trivial⟩ trivial (by simp [namesI,keysO]) (by simp [dstB]) ?_
   rintro _ _ ⟨W,k,hF,rfl,rfl⟩
   refine ⟨by simp [namesOK,keysO],?_⟩
   have hrows:=hF.rows g1 hb
   have hok:=hF.inv.ok
   have hWl:=hok.len
   have hWr:=hok.rd
   have hg6:=hok.g6
   obtain ⟨l,rd,a3,a4,a5,a6⟩:=W
   simp only at hrows hWl hWr hg6
   rw [← hrows]
   clear hrows hok hF c3 c1 c2
   simp (disch:=first | omega | decide +kernel) only [D.wrk,go_sem,Qa,Qb,Qc,Qd,Qe,↓reduceIte,reduceCtorEq,Qf,Qg,Qh]
   refine ⟨fun c hc => by simp only [List.mem_cons,List.not_mem_nil,or_false] at hc; rcases hc with rfl | rfl | rfl | rfl | rfl | rfl<;>rfl,?_⟩
   refine Ok.seq (Ok.seq (Ok.go ?_))
   simp (disch:=first | omega | decide +kernel) only [go_sem,Qa,Qb,Qc,Qd,Qe,↓reduceIte,reduceCtorEq,Qf,Qg,Qh]
   refine Ok.block ?_
   refine Ok.weak ((Wk.deep 9 rfl (by simp [flat])).trans (show Wk _ _ ⟨[(8,.d (.int .i64 0)),(7,.p 7 0),(6,.sl 9)],[(9,.dp (some (22,1)) [] none),(7,.box 88 [.d (.slice (l.map D.ints)),.d (.ints rd),.d (.ints a3),.d (.ints a4),.d (.ints a5),.d (.slice (a6.map D.ints))])]⟩ from (by refine Wk.auto ?_ ?_<;>simp [extraK,lk,killL,St.kill,wipeO,wipeS,AV.has,AV.hasL,AO.wipe,List.map_set,updSt,insL,dropS,ins,]))) ?_
   refine Ok.loopNO [68,67,66,65,64,63,62,61,60,59,58,57,56,55,54,53,52,51,50,49,48,47,46,45,44,43,42,41,40,39,38,37,36,35,34,33,32,31,30,29,28,27,26,25,24,23,22,21,20,19,18,17,16,15,14,13,12,11,10,9,8,6,5,4,3,2,1,0] (fun i (_ : Unit) => [(8,.d (.int .i64 (i : Nat))),(6,.sl 9)]) (fun i _ => [(9,.dp (some (22,1)) ((grpI l rd i).map D.row1) none)]) l.length (fun _ _ => True) () trivial (by refine Wk.auto ?_ ?_<;>simp [extraK,lk,killL,St.kill,wipeO,wipeS,AV.has,AV.hasL,AO.wipe,List.map_set,updSt,insL,dropS,ins,grpI,List.map_nil]) ?_
   rintro R i _ hN hE hi _
   by_cases hlt : i < l.length
   . have hgs : grpI l rd (i + 1)=if i=0∨rd.getD i 0 ≠ rd.getD (i - 1) 0 then grpI l rd i++[[l.getD i []]] else (grpI l rd i).dropLast++[(grpI l rd i).getLastD []++[l.getD i []]]:=rfl
     have hgl : (grpI l rd i).length<=i:=grp_len l rd i
     have hgn:=grp_ne l rd i
     have hel:=el_intss (xs:=l) hlt
     have her:=el_ints (xs:=rd) (i:=i) (by omega)
     have her2:=el_ints (xs:=rd) (i:=i - 1) (by omega)
     have hcl : (l.getD i []).length<=12:=by have:=g6_len (hg6 _ (getD_mem (z:=([] : List Int)) hlt)); omega
     obtain ⟨P,q,hPq,hst⟩ : ∃ P q,grpI l rd (i + 1)=P++[q++[l.getD i []]]∧((i=0∨rd.getD i 0 ≠ rd.getD (i - 1) 0)∧P=grpI l rd i∧q=[]∨¬ (i=0∨rd.getD i 0 ≠ rd.getD (i - 1) 0)∧P++[q]=grpI l rd i):=by
      by_cases hn : i=0∨rd.getD i 0 ≠ rd.getD (i - 1) 0
      . exact ⟨grpI l rd i,[],by rw [hgs,if_pos hn]; rfl,.inl ⟨hn,rfl,rfl⟩⟩
      . refine ⟨(grpI l rd i).dropLast,(grpI l rd i).getLastD [],by rw [hgs,if_neg hn],.inr ⟨hn,?_⟩⟩
        have h0:=hgn (by omega)
        obtain ⟨P,q,e⟩ : ∃ P q,grpI l rd i=P++[q]:=⟨_,_,(List.dropLast_concat_getLast h0).symm⟩
        rw [e,List.dropLast_concat,List.getLastD_concat]
     have hPl : P.length<=4096:=by
      rcases hst with ⟨_,h2,_⟩ | ⟨_,h2⟩
      . rw [h2]; omega
      . have:=congrArg List.length h2
        simp at this; omega
     have hql : q.length<=4096:=by
      rcases hst with ⟨_,_,h2⟩ | ⟨_,h2⟩
      . rw [h2]; simp
      . have:=grp_el l rd i q (by rw [← h2]; simp); omega
     have hset : ((P++[q]).map D.row1).set P.length (.sl1 (q.map D.ints++[.slice ((l.getD i []).map (.int .i64))]))=(P++[q++[l.getD i []]]).map D.row1:=by
      simp [List.map_append,D.row1,D.ints]
     generalize hG : grpI l rd i=G at *
     clear hgs hgn
     refine Ok.seq (Ok.go ?_)
     simp (disch:=first | omega | decide +kernel) only [List.length_map,go_sem,Qa,Qb,Qc,Qd,Qe,↓reduceIte,reduceCtorEq,Qf,Qg,Qh]
     (repeat' (first | ((first | (refine gsel_split (fun q' => ?_) (fun q' => ?_)<;>(have h':=q')<;>(try simp only [za1,za2,Ba,Bb,za3,ne_eq,za4,za5,za6,Ia,Ib,Ic,Ie,Da,Bc,Bd,Be,za7,za8] at h')<;>try (exfalso; omega)) | (have q':=trivial; first | refine hE _ _ ret_ne ?_ | refine hE _ _ exit_ne ?_))<;>(try simp (disch:=first | omega | decide +kernel) only [q',List.length_map,go_sem,Qa,Qb,Qc,Qd,Qe,↓reduceIte,reduceCtorEq,Qf,Qg,Qh])<;>clear q') | refine hN _ ?_ ?_ Wk.kk | with_reducible refine And.intro ?_ ?_ | with_reducible omega | exact ok_ints | exact cells_ints | exact no_mem | with_reducible exact plain_ints | (refine le_maxLen ?_; omega) | (refine za9 ⟨?_,?_⟩) | (simp only [go_sem,Qc,Qb,zb1,zb2,forall_eq]; done)))
     refine Ok.seq (Ok.block ?_)
     refine Ok.seqJ ⟨[(8,.d (.int .i64 (i : Nat))),(7,.p 7 0),(6,.sl 9)],[(9,.dp (some (22,1)) ((P++[q]).map D.row1) none),(7,.box 88 [.d (.slice (l.map D.ints)),.d (.ints rd),.d (.ints a3),.d (.ints a4),.d (.ints a5),.d (.slice (a6.map D.ints))])]⟩ ?_ (Ok.weak (Wk.resE 2000000001) (Ok.go ?_))
     . have hlast : el ((P++[q]).map D.row1) P.length=D.row1 q:=by
        rw [el_map (f:=D.row1) ([] : List (List Int)) (by simp)]
        congr 1
        simp [List.getD_eq_getElem?_getD]
       have hll : ((P++[q]).map D.row1).length=P.length + 1:=by simp
       refine Ok.weak ((Wk.lend1 9 P.length 0 900000001 (ys:=q.map D.ints) rfl (by decide) (by rw [hll]; omega) (by rw [hlast]; rfl) (by rw [hlast]; exact Nat.zero_lt_one)).trans (show Wk _ _ ⟨[(8,.d (.int .i64 (i : Nat))),(7,.p 7 0),(6,.sl 9)],[(900000001,.d1 (q.map D.ints)),(9,.dp (some (22,1)) ((P++[q]).map D.row1) (some ((P.length,0),some 900000001))),(7,.box 88 [.d (.slice (l.map D.ints)),.d (.ints rd),.d (.ints a3),.d (.ints a4),.d (.ints a5),.d (.slice (a6.map D.ints))])]⟩ from (by refine Wk.auto ?_ ?_<;>simp [extraK,lk,killL,St.kill,wipeO,wipeS,AV.has,AV.hasL,AO.wipe,List.map_set,updSt,insL,dropS,ins,]))) ?_
       refine Ok.reg7 [true,true,true,true,true,true,true,true,true,true,true,true,true,true,true,false,false,false,true,false] (by decide +kernel) ?_
       have c4:=l1Own_ok (l.getD i []) (by omega)
       have hag : (D.row1 q).isAgg=false:=rfl
       have hti : ((P.length + 1 : Nat) : Int) - 1=((P.length : Nat) : Int):=by omega
       simp (disch:=first | omega | decide +kernel) only [D.ints,hll,hlast,hel,hti,List.length_map,Int.toNat_natCast,go_sem,Qa,Qb,Qc,Qd,Qe,↓reduceIte,reduceCtorEq,Qf,Qg,Qh]
       (repeat' (first | ((first | (refine gsel_split (fun q' => ?_) (fun q' => ?_)<;>(have h':=q')<;>(try simp only [za1,za2,Ba,Bb,za3,ne_eq,za4,za5,za6,Ia,Ib,Ic,Ie,Da,Bc,Bd,Be,za7,za8] at h')<;>try (exfalso; omega)) | (have q':=trivial; first | refine callX_new (c4) rfl (by decide) ?_ | refine callY_new (c4) rfl ?_ | refine hE _ _ ret_ne ?_ | refine hE _ _ exit_ne ?_))<;>(try simp (disch:=first | omega | decide +kernel) only [q',D.ints,hll,hlast,hel,hti,List.length_map,Int.toNat_natCast,go_sem,Qa,Qb,Qc,Qd,Qe,↓reduceIte,reduceCtorEq,Qf,Qg,Qh])<;>clear q') | refine hN _ ?_ ?_ Wk.kk | with_reducible refine And.intro ?_ ?_ | with_reducible omega | exact ok_ints | exact cells_ints | exact no_mem | with_reducible exact plain_ints | (refine le_maxLen ?_; omega) | (refine za9 ⟨?_,?_⟩) | (simp only [go_sem,Qc,Qb,zb1,zb2,forall_eq]; done)))
       all_goals (first | (exact (rfl : (D.row1 q).cells.length=1)) | exact (fun y hy => by obtain ⟨c,_,rfl⟩:=List.mem_map.1 hy; rfl) | (refine le_maxLen ?_; omega) | omega | skip)
       refine Ok.go ?_
       simp (disch:=first | omega | decide +kernel) only [go_sem,Qa,Qb,Qc,Qd,Qe,↓reduceIte,reduceCtorEq,Qf,Qg,Qh]
       refine hN () _ hlt trivial ?_
       rw [hPq,← hset]
       exact (by refine Wk.auto ?_ ?_<;>simp [extraK,lk,killL,St.kill,wipeO,wipeS,AV.has,AV.hasL,AO.wipe,List.map_set,updSt,insL,dropS,ins,D.ints,hag])
     . by_cases h0 : i=0
       . subst h0
         rcases hst with ⟨_,rfl,rfl⟩ | ⟨h1,_⟩
         . simp (disch:=first | omega | decide +kernel) only [List.length_map,go_sem,Qa,Qb,Qc,Qd,Qe,↓reduceIte,reduceCtorEq,Qf,Qg,Qh]
           (repeat' (first | ((first | (refine gsel_split (fun q' => ?_) (fun q' => ?_)<;>(have h':=q')<;>(try simp only [za1,za2,Ba,Bb,za3,ne_eq,za4,za5,za6,Ia,Ib,Ic,Ie,Da,Bc,Bd,Be,za7,za8] at h')<;>try (exfalso; omega)) | (have q':=trivial; first | refine hE _ _ ret_ne ?_ | refine hE _ _ exit_ne ?_))<;>(try simp (disch:=first | omega | decide +kernel) only [q',List.length_map,go_sem,Qa,Qb,Qc,Qd,Qe,↓reduceIte,reduceCtorEq,Qf,Qg,Qh])<;>clear q') | refine hN _ ?_ ?_ Wk.kk | with_reducible refine And.intro ?_ ?_ | with_reducible omega | exact ok_ints | exact cells_ints | exact no_mem | with_reducible exact plain_ints | (refine le_maxLen ?_; omega) | (refine za9 ⟨?_,?_⟩) | (simp only [go_sem,Qc,Qb,zb1,zb2,forall_eq]; done)))
           all_goals (first | rfl | exact absurd trivial h' | exact (by refine Wk.auto ?_ ?_<;>simp [extraK,lk,killL,St.kill,wipeO,wipeS,AV.has,AV.hasL,AO.wipe,List.map_set,updSt,insL,dropS,ins,List.map_append,List.map_cons,List.map_nil]))
         . exact absurd (.inl rfl) h1
       . have ht : (i : Int) - 1=((i - 1 : Nat) : Int):=by omega
         by_cases h1 : rd.getD i 0=rd.getD (i - 1) 0
         . rcases hst with ⟨h2,_⟩ | ⟨_,h2⟩
           . exact absurd h2 (by omega)
           . subst h2
             simp (disch:=first | omega | decide +kernel) only [D.ints,List.length_map,her,her2,ht,Int.toNat_natCast,go_sem,Qa,Qb,Qc,Qd,Qe,↓reduceIte,reduceCtorEq,Qf,Qg,Qh]
             (repeat' (first | ((first | (refine gsel_split (fun q' => ?_) (fun q' => ?_)<;>(have h':=q')<;>(try simp only [za1,za2,Ba,Bb,za3,ne_eq,za4,za5,za6,Ia,Ib,Ic,Ie,Da,Bc,Bd,Be,za7,za8] at h')<;>try (exfalso; omega)) | (have q':=trivial; first | refine hE _ _ ret_ne ?_ | refine hE _ _ exit_ne ?_))<;>(try simp (disch:=first | omega | decide +kernel) only [q',D.ints,List.length_map,her,her2,ht,Int.toNat_natCast,go_sem,Qa,Qb,Qc,Qd,Qe,↓reduceIte,reduceCtorEq,Qf,Qg,Qh])<;>clear q') | refine hN _ ?_ ?_ Wk.kk | with_reducible refine And.intro ?_ ?_ | with_reducible omega | exact ok_ints | exact cells_ints | exact no_mem | with_reducible exact plain_ints | (refine le_maxLen ?_; omega) | (refine za9 ⟨?_,?_⟩) | (simp only [go_sem,Qc,Qb,zb1,zb2,forall_eq]; done)))
             all_goals (first | rfl | exact absurd trivial h' | (exfalso; omega) | exact (by refine Wk.auto ?_ ?_<;>simp [extraK,lk,killL,St.kill,wipeO,wipeS,AV.has,AV.hasL,AO.wipe,List.map_set,updSt,insL,dropS,ins,List.map_append,List.map_cons,List.map_nil]))
         . rcases hst with ⟨_,rfl,rfl⟩ | ⟨h2,_⟩
           . simp (disch:=first | omega | decide +kernel) only [D.ints,List.length_map,her,her2,ht,Int.toNat_natCast,go_sem,Qa,Qb,Qc,Qd,Qe,↓reduceIte,reduceCtorEq,Qf,Qg,Qh]
             (repeat' (first | ((first | (refine gsel_split (fun q' => ?_) (fun q' => ?_)<;>(have h':=q')<;>(try simp only [za1,za2,Ba,Bb,za3,ne_eq,za4,za5,za6,Ia,Ib,Ic,Ie,Da,Bc,Bd,Be,za7,za8] at h')<;>try (exfalso; omega)) | (have q':=trivial; first | refine hE _ _ ret_ne ?_ | refine hE _ _ exit_ne ?_))<;>(try simp (disch:=first | omega | decide +kernel) only [q',D.ints,List.length_map,her,her2,ht,Int.toNat_natCast,go_sem,Qa,Qb,Qc,Qd,Qe,↓reduceIte,reduceCtorEq,Qf,Qg,Qh])<;>clear q') | refine hN _ ?_ ?_ Wk.kk | with_reducible refine And.intro ?_ ?_ | with_reducible omega | exact ok_ints | exact cells_ints | exact no_mem | with_reducible exact plain_ints | (refine le_maxLen ?_; omega) | (refine za9 ⟨?_,?_⟩) | (simp only [go_sem,Qc,Qb,zb1,zb2,forall_eq]; done)))
             all_goals (first | rfl | exact absurd trivial h' | (exfalso; omega) | exact (by refine Wk.auto ?_ ?_<;>simp [extraK,lk,killL,St.kill,wipeO,wipeS,AV.has,AV.hasL,AO.wipe,List.map_set,updSt,insL,dropS,ins,List.map_append,List.map_cons,List.map_nil]))
           . exact absurd (.inr h1) h2
   . obtain rfl : i=l.length:=by omega
     clear hN
     refine Ok.go ?_
     simp (disch:=first | omega | decide +kernel) only [List.length_map,go_sem,Qa,Qb,Qc,Qd,Qe,↓reduceIte,reduceCtorEq,Qf,Qg,Qh]
     (repeat' (first | ((first | (refine gsel_split (fun q' => ?_) (fun q' => ?_)<;>(have h':=q')<;>(try simp only [za1,za2,Ba,Bb,za3,ne_eq,za4,za5,za6,Ia,Ib,Ic,Ie,Da,Bc,Bd,Be,za7,za8] at h')<;>try (exfalso; omega)) | (have q':=trivial; first | refine hE _ _ ret_ne ?_ | refine hE _ _ exit_ne ?_))<;>(try simp (disch:=first | omega | decide +kernel) only [q',List.length_map,go_sem,Qa,Qb,Qc,Qd,Qe,↓reduceIte,reduceCtorEq,Qf,Qg,Qh])<;>clear q') | refine hN _ ?_ ?_ Wk.kk | with_reducible refine And.intro ?_ ?_ | with_reducible omega | exact ok_ints | exact cells_ints | exact no_mem | with_reducible exact plain_ints | (refine le_maxLen ?_; omega) | (refine za9 ⟨?_,?_⟩) | (simp only [go_sem,Qc,Qb,zb1,zb2,forall_eq]; done)))
     refine Ok.go ?_
     simp (disch:=first | omega | decide +kernel) only [go_sem,Qa,Qb,Qc,Qd,Qe,↓reduceIte,reduceCtorEq,Qf,Qg,Qh]
     (repeat' (first | ((first | (refine gsel_split (fun q' => ?_) (fun q' => ?_)<;>(have h':=q')<;>(try simp only [za1,za2,Ba,Bb,za3,ne_eq,za4,za5,za6,Ia,Ib,Ic,Ie,Da,Bc,Bd,Be,za7,za8] at h')<;>try (exfalso; omega)) | (have q':=trivial; first | refine hE _ _ ret_ne ?_ | refine hE _ _ exit_ne ?_))<;>(try simp (disch:=first | omega | decide +kernel) only [q',go_sem,Qa,Qb,Qc,Qd,Qe,↓reduceIte,reduceCtorEq,Qf,Qg,Qh])<;>clear q') | refine hN _ ?_ ?_ Wk.kk | with_reducible refine And.intro ?_ ?_ | with_reducible omega | exact ok_ints | exact cells_ints | exact no_mem | with_reducible exact plain_ints | (refine le_maxLen ?_; omega) | (refine za9 ⟨?_,?_⟩) | (simp only [go_sem,Qc,Qb,zb1,zb2,forall_eq]; done)))
     rw [show (grpI l rd l.length).map D.row1=((grpI l rd l.length).map fun r => r.map D.ints).map D.sl1 by simp [D.row1,Function.comp_def],show (grpI l rd l.length).map D.rows=((grpI l rd l.length).map fun r => r.map D.ints).map D.slice by simp [D.rows,Function.comp_def]]
     exact ⟨_,Wk.un1 9 rfl,ret_dpd 9 rfl rfl rfl rfl⟩
end Abs.Y
