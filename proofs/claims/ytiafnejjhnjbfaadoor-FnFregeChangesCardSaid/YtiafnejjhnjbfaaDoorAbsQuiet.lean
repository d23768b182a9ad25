/- The machine yields what the quiet operations' abstract rule says. No condition. -/
import Derived.Test.YtiafnejjhnjbfaaDoorAbsOps
import Derived.Laws.StructEq
set_option linter.all false
namespace Abs
open Go Go.RowKit

theorem add_eq (b o n : Nat) : (⟨b,o,none⟩ : Addr).add n=⟨b,o + n,none⟩:=Addr.add_lit b o n

theorem ownsRow_some {w : World} {e size v n xs} (h : w.ownsRow 0 e size v n xs) (hv : v ≠ .slice none 0 0) :
 ∃ g cap cur,v=.slice (some ⟨g,0,none⟩) n cap∧w.heap[g]? = some (.cells cur e (0,0))∧n<=cap∧cap<=maxLen∧cur.size=cap * size∧cur.toList.take (n * size)=xs:=by
 rcases h.2 with ⟨h1,_⟩ | ⟨g,cap,cur,h1,_,h2⟩
 . exact absurd h1 hv
 . exact ⟨g,cap,cur,h1,h2⟩

theorem ownsRow_cell {w : World} {e size v n xs g} (h : w.ownsRow 0 e size v n xs) (hv : v.ownBlock=some g) {i : Nat} (hi : i < xs.length) :
 w.cell? ⟨g,i,none⟩=some (xs.getD i Go.undef):=by
 have:=h.cells (g:=g) hv i (xs.getD i Go.undef) (by simp [List.getD_eq_getElem?_getD,hi])
 simpa [add_eq] using this

theorem flat_length {es : List D} {k : Nat} (hk : ∀ e ∈ es,e.cells.length=k) : (flat es).length=es.length * k:=by
 induction es with
 | nil => simp [flat]
 | cons x r ih =>
   have h1:=hk x (by simp)
   have h2:=ih fun e he => hk e (by simp [he])
   simp only [flat,List.flatMap_cons,List.length_append,List.length_cons] at *
   rw [h1,h2,Nat.add_mul]; omega

theorem flat_getD {es : List D} {k : Nat} (hk : ∀ e ∈ es,e.cells.length=k) : ∀ {i j : Nat},i < es.length->j < k->(flat es).getD (i * k + j) .nilptr=(el es i).cells.getD j .nilptr:=by
 induction es with
 | nil => intro i j hi; simp at hi
 | cons x r ih =>
   intro i j hi hj
   have h1:=hk x (by simp)
   cases i with
   | zero =>
     simp only [flat,List.flatMap_cons,Nat.zero_mul,Nat.zero_add,el,List.getD_eq_getElem?_getD,List.getElem?_cons_zero,Option.getD_some]
     rw [List.getElem?_append_left (by omega)]
   | succ i =>
     have:=ih (fun e he => hk e (by simp [he])) (i:=i) (j:=j) (by simpa using hi) hj
     simp only [flat,List.flatMap_cons,el,List.getD_eq_getElem?_getD,List.getElem?_cons_succ] at this ⊢
     rw [List.getElem?_append_right (by rw [h1,Nat.add_mul]; omega)]
     rw [← this]
     congr 2
     rw [h1,Nat.add_mul]; omega

theorem el_mem {es : List D} {i : Nat} (h : i < es.length) : el es i ∈ es:=by
 simp only [el,List.getD_eq_getElem?_getD,List.getElem?_eq_getElem h,Option.getD_some]
 exact List.getElem_mem h

def Place (S : Nat->Prop) (w : World) (b off : Nat) (x : D) : Prop :=
 ∃ vs : Nat->Value,(∀ i,i < x.cells.length->S b∧w.cell? ⟨b,off + i,none⟩=some (vs i))∧∀ i,i < x.cells.length->Rd S w (x.cells.getD i .nilptr) (vs i)

theorem Place.rd {S w b off x} (h : Place S w b off x) : Rd S w (.ptr x) (.pointer (some ⟨b,off,none⟩)):=by
 obtain ⟨vs,h1,h2⟩:=h; exact .ptr vs h1 h2
theorem rd_ptr {S w x v} (h : Rd S w (.ptr x) v) : ∃ b off,v=.pointer (some ⟨b,off,none⟩)∧Place S w b off x:=by
 cases h with
 | ptr vs h1 h2 => exact ⟨_,_,rfl,vs,h1,h2⟩

theorem run_loadVar_cells {P : Program} {S w b off x t} (vs : Nat->Value) (h1 : ∀ i,i < x.cells.length->w.cell? ⟨b,off + i,none⟩=some (vs i))
 (h2 : ∀ i,i < x.cells.length->Rd S w (x.cells.getD i .nilptr) (vs i)) (hf : x.fits P t) (hu : (P.underlying t).isSome=true) :
 ∃ v,(loadVar t ⟨b,off,none⟩).run P w=.ok v w∧Rd S w x v:=by
 obtain ⟨d,hd⟩:=Option.isSome_iff_exists.1 hu
 obtain ⟨hf1,hf2⟩:=hf
 simp only [loadVar,Sem.run_bind,run_isAgg hd,Result.andThen_ok,run_sizeOf' hd]
 by_cases ha : aggT P t=true
 . rw [ha] at hf1 ⊢
   cases x<;>simp [D.isAgg] at hf1
   rename_i cs
   simp only [D.cells] at h1 h2 hf2
   have hl:=run_loadCells (P:=P) w ⟨b,off,none⟩ (P.cellsOf t) vs (fun j hj => by rw [add_eq]; exact h1 j (by omega))
   refine ⟨.agg ((List.range (P.cellsOf t)).map vs).toArray,by simp [hl,run_sizeOf' hd],?_⟩
   have:=Rd.agg (S:=S) (w:=w) (cs:=cs) (vs:=(List.range (P.cellsOf t)).map vs) (by simp [hf2]) (fun i hi => by
    have h3:=h2 i hi
    simpa [List.getD_eq_getElem?_getD,show i < P.cellsOf t by omega] using h3)
   simpa using this
 . have ha' : aggT P t=false:=by simpa using ha
   rw [ha'] at hf1 ⊢
   have hx : x.cells=[x]:=by cases x<;>simp_all [D.isAgg,D.cells]
   rw [hx] at h1 h2
   refine ⟨vs 0,?_,by simpa using h2 0 (by simp)⟩
   have:=h1 0 (by simp)
   simp at this
   simp [run_load,this]

theorem run_loadVar_place {P : Program} {S w b off x t} (h : Place S w b off x) (hf : x.fits P t) (hu : (P.underlying t).isSome=true) :
 ∃ v,(loadVar t ⟨b,off,none⟩).run P w=.ok v w∧Rd S w x v:=by
 obtain ⟨vs,h1,h2⟩:=h
 exact run_loadVar_cells vs (fun i hi => (h1 i hi).2) h2 hf hu

theorem cells_one {x : D} (h : x.isAgg=false) : x.cells=[x]:=by cases x<;>simp_all [D.isAgg,D.cells]
theorem partD_cells {P : Program} {cs o t} (h : partOK P cs o t) : (partD P cs o t).cells.length=P.cellsOf t∧(partD P cs o t).isAgg=aggT P t ∧
 ∀ i,i < P.cellsOf t->(partD P cs o t).cells.getD i .nilptr=cs.getD (o + i) .nilptr:=by
 obtain ⟨h1,h2,h3,_⟩:=h
 unfold partD
 split
 . rename_i ha
   simp only [D.cells,D.isAgg,ha,List.length_take,List.length_drop]
   refine ⟨by omega,trivial,fun i hi => ?_⟩
   simp only [List.getD_eq_getElem?_getD,List.getElem?_take,List.getElem?_drop]
   rw [if_pos hi]
 . rename_i ha
   rcases h3 with h3 | ⟨h3,h4⟩
   . exact absurd h3 ha
   . rw [cells_one h4]
     refine ⟨by simp [h3],by simpa using h4.trans (by simpa using ha),fun i hi => ?_⟩
     have : i=0:=by omega
     subst this
     simp

theorem Place.part {P : Program} {S w b off cs o t} (h : Place S w b off (.agg cs)) (ho : partOK P cs o t) : Place S w b (off + o) (partD P cs o t):=by
 obtain ⟨vs,hc,hr⟩:=h
 simp only [D.cells] at hc hr
 obtain ⟨h1,_,h3⟩:=partD_cells ho
 refine ⟨fun i => vs (o + i),fun i hi => ?_,fun i hi => ?_⟩
 . rw [h1] at hi
   have:=hc (o + i) (by have:=ho.1; omega)
   rw [Nat.add_assoc]; exact this
 . rw [h1] at hi
   rw [h3 i hi]
   exact hr (o + i) (by have:=ho.1; omega)

theorem rd_agg {S w cs v} (h : Rd S w (.agg cs) v) : ∃ vs : List Value,v=.agg vs.toArray∧vs.length=cs.length∧∀ i,i < cs.length->Rd S w (cs.getD i .nilptr) (vs.getD i Go.undef):=by
 cases h with
 | agg hl hr => exact ⟨_,rfl,hl,hr⟩

theorem run_part {P : Program} {S w cs o t} {vs : List Value} (hl : vs.length=cs.length) (hr : ∀ i,i < cs.length->Rd S w (cs.getD i .nilptr) (vs.getD i Go.undef))
 (ho : partOK P cs o t) : ∃ v,(Go.part t vs.toArray o).run P w=.ok v w∧Rd S w (partD P cs o t) v:=by
 obtain ⟨h1,h2,h3,hu⟩:=ho
 obtain ⟨d,hd⟩:=Option.isSome_iff_exists.1 hu
 simp only [Go.part,Sem.run_bind,run_isAgg hd,Result.andThen_ok]
 by_cases ha : aggT P t=true
 . refine ⟨.agg ((vs.drop o).take (P.cellsOf t)).toArray,?_,?_⟩
   . simp [ha,run_sizeOf' hd,List.extract_eq_take_drop]
   . unfold partD; rw [if_pos ha]
     refine .agg (by simp [hl]) fun i hi => ?_
     simp only [List.length_take,List.length_drop] at hi
     have:=hr (o + i) (by omega)
     simp only [List.getD_eq_getElem?_getD,List.getElem?_take,List.getElem?_drop] at this ⊢
     rw [if_pos (by omega),if_pos (by omega)]; exact this
 . have ha' : aggT P t=false:=by simpa using ha
   have hlt : o < vs.length:=by omega
   refine ⟨vs.getD o Go.undef,?_,?_⟩
   . simp [ha',hlt]
   . unfold partD; rw [if_neg ha]; exact hr o (by omega)
theorem eqFields_spec {P : Program} {S w cs ds} {xs ys : List Value} (hl : xs.length=cs.length) (hr : ∀ i,i < cs.length->Rd S w (cs.getD i .nilptr) (xs.getD i Go.undef))
 (hl' : ys.length=ds.length) (hr' : ∀ i,i < ds.length->Rd S w (ds.getD i .nilptr) (ys.getD i Go.undef)) (d : Nat) :
 ∀ fs : List Field, (∀ f ∈ fs, f.name ≠ "_" ∧ (isIntT P f.type || isStrT P f.type) = true) -> eqLok P cs ds (fs.map fun f => (f.offset, f.type)) ->
  (Op.eqFields (d + 1) xs.toArray ys.toArray fs).run P w=.ok (eqL cs ds (fs.map fun f => (f.offset,f.type))) w
 | [],_,_ => by simp [Op.eqFields,eqL]
 | f :: fs, hf, hok => by
   obtain ⟨h1,h2,h3,h4,h5⟩:=hok
   obtain ⟨a,ha,hra⟩:=run_part (P:=P) hl hr h1
   obtain ⟨b,hb,hrb⟩:=run_part (P:=P) hl' hr' h2
   have ih:=eqFields_spec (P:=P) hl hr hl' hr' d fs (fun x hx => hf x (by simp [hx])) h5
   obtain ⟨hn,hi⟩:=hf f (by simp)
   unfold partD at hra hrb
   rw [if_neg (by simp [h3])] at hra hrb
   simp only [List.map_cons,eqL]
   generalize cs.getD f.offset .nilptr=x at *
   generalize ds.getD f.offset .nilptr=y at *
   split at h4
   . obtain ⟨h4,hi⟩:=h4
     subst h4
     cases hra
     cases hrb
     unfold isIntT at hi
     split at hi
     . rename_i k' hu
       simp only [Op.eqFields,if_pos hn,Sem.run_bind,ha,hb,Result.andThen_ok,run_equalIn_int w d f.type _ k' _ _ hu,Sem.run_ite]
       split
       . rename_i e
         simp only [Bool.not_eq_true'] at e
         rw [e]; simp
       . rename_i e
         simp only [Bool.not_eq_true',Bool.not_eq_false] at e
         rw [e,ih]; simp
     . cases hi
   . cases hra
     cases hrb
     unfold isStrT at h4
     split at h4
     . rename_i hu
       simp only [Op.eqFields,if_pos hn,Sem.run_bind,ha,hb,Result.andThen_ok,run_equalIn_string w d f.type _ _ hu,Sem.run_ite]
       split
       . rename_i e
         simp only [Bool.not_eq_true'] at e
         rw [e]; simp
       . rename_i e
         simp only [Bool.not_eq_true',Bool.not_eq_false] at e
         rw [e,ih]; simp
     . cases h4
   . exact h4.elim
theorem eqArray_spec {P : Program} {S w cs ds t e} {xs ys : List Value} (hl : xs.length=cs.length) (hr : ∀ i,i < cs.length->Rd S w (cs.getD i .nilptr) (xs.getD i Go.undef))
 (hl' : ys.length=ds.length) (hr' : ∀ i,i < ds.length->Rd S w (ds.getD i .nilptr) (ys.getD i Go.undef)) (hu : P.underlying t=some (.array 2 e)) (hi : isIntT P e=true) (hk : P.cellsOf e=1)
 (hok : eqLok P cs ds [(0,e),(1,e)]) : (Op.equalIn 10000 t (.agg xs.toArray) (.agg ys.toArray)).run P w=.ok (eqL cs ds [(0,e),(1,e)]) w:=by
 unfold isIntT at hi
 split at hi
 case h_2 => cases hi
 rename_i k' he
 obtain ⟨h1,h2,h3,h4,h1',h2',_,h4',_⟩:=hok
 obtain ⟨a,ha,hra⟩:=run_part (P:=P) hl hr h1
 obtain ⟨b,hb,hrb⟩:=run_part (P:=P) hl' hr' h2
 obtain ⟨a',ha',hra'⟩:=run_part (P:=P) hl hr h1'
 obtain ⟨b',hb',hrb'⟩:=run_part (P:=P) hl' hr' h2'
 unfold partD at hra hrb hra' hrb'
 rw [if_neg (by simp [h3])] at hra hrb hra' hrb'
 simp only [eqL]
 generalize cs.getD 0 .nilptr=x at *
 generalize ds.getD 0 .nilptr=y at *
 generalize cs.getD 1 .nilptr=x' at *
 generalize ds.getD 1 .nilptr=y' at *
 split at h4
 case h_3 => exact h4.elim
 case h_2 =>
  unfold isStrT at h4
  rw [he] at h4; cases h4
 rename_i k1 n k2 m
 split at h4'
 case h_3 => exact h4'.elim
 case h_2 =>
  unfold isStrT at h4'
  rw [he] at h4'; cases h4'
 rename_i k1' n' k2' m'
 obtain ⟨h4,_⟩:=h4
 obtain ⟨h4',_⟩:=h4'
 subst h4 h4'
 cases hra
 cases hrb
 cases hra'
 cases hrb'
 rw [show (10000 : Nat)=9998 + 1 + 1 from rfl,Op.equalIn]
 simp only [Sem.run_bind,run_underlying hu,Result.andThen_ok,run_sizeOf' he,hk]
 simp only [Std.Legacy.Range.forIn_eq_forIn_range',Std.Legacy.Range.size,Nat.sub_zero,Nat.add_sub_cancel,Nat.div_one,List.range'_succ,List.range'_zero,List.forIn_cons,List.forIn_nil]
 cases e1 : (n == m)<;>cases e2 : (n' == m')<;>simp [Sem.run_bind,ha,hb,ha',hb',run_equalIn_int w 9998 e _ k' _ _ he,e1,e2]
theorem eqShape_spec {P : Program} {S w cs ds t l} {xs ys : List Value} (hq : eqShape P t=some l) (hc : eqLok P cs ds l) (hl : xs.length=cs.length) (hr : ∀ i,i < cs.length->Rd S w (cs.getD i .nilptr) (xs.getD i Go.undef))
 (hl' : ys.length=ds.length) (hr' : ∀ i,i < ds.length->Rd S w (ds.getD i .nilptr) (ys.getD i Go.undef)) :
 (∀ op x y,(eqGuard op t x y (.agg xs.toArray) (.agg ys.toArray)).run P w=.ok () w)∧(Op.equalIn 10000 t (.agg xs.toArray) (.agg ys.toArray)).run P w=.ok (eqL cs ds l) w:=by
 unfold eqShape at hq
 split at hq
 . rename_i fs hu
   split at hq
   . rename_i h
     cases hq
     have hfo : P.fieldsOf t=fs:=by unfold Program.fieldsOf; rw [hu]
     refine ⟨fun op x y => run_eqGuard_agg w op t x y _ _ h.1,?_⟩
     rw [run_equalIn_agg w 9999 t _ _ (by rw [hfo]; exact hu) h.2.1,hfo]
     exact eqFields_spec hl hr hl' hr' 9998 fs.toList h.2.2 hc
   . cases hq
 . rename_i n e hu
   split at hq
   . rename_i h
     obtain ⟨rfl,h1,h2,h3⟩:=h
     cases hq
     exact ⟨fun op x y => run_eqGuard_agg w op t x y _ _ h1,eqArray_spec hl hr hl' hr' hu h2 h3 hc⟩
   . cases hq
 . cases hq
theorem run_partA {P : Program} {β S w cs o t} {vs : List Value} (hl : vs.length=cs.length) (hr : ∀ i,i < cs.length->Rel β S w (cs.getD i .undef) (vs.getD i Go.undef))
 (ho : partAOK P cs o t) : ∃ v,(Go.part t vs.toArray o).run P w=.ok v w∧Rel β S w (partA P cs o t) v:=by
 obtain ⟨h1,h2,hu⟩:=ho
 obtain ⟨d,hd⟩:=Option.isSome_iff_exists.1 hu
 simp only [Go.part,Sem.run_bind,run_isAgg hd,Result.andThen_ok]
 by_cases ha : aggT P t=true
 . refine ⟨.agg ((vs.drop o).take (P.cellsOf t)).toArray,?_,?_⟩
   . simp [ha,run_sizeOf' hd,List.extract_eq_take_drop]
   . unfold partA; rw [if_pos ha]
     refine .st (by simp [hl]) fun i hi => ?_
     simp only [List.length_take,List.length_drop] at hi
     have:=hr (o + i) (by omega)
     simp only [List.getD_eq_getElem?_getD,List.getElem?_take,List.getElem?_drop] at this ⊢
     rw [if_pos (by omega),if_pos (by omega)]; exact this
 . have ha' : aggT P t=false:=by simpa using ha
   have hlt : o < vs.length:=by omega
   refine ⟨vs.getD o Go.undef,?_,?_⟩
   . simp [ha',hlt]
   . unfold partA; rw [if_neg ha]; exact hr o (by omega)
theorem Dp.rd_bare {S w x v F} (hb : x.bare=true) (h : Dp w x v F) : Rd S w x v:=by
 cases h with
 | int k n => exact .int k n
 | bool b => exact .bool b
 | str s => exact .str s
 | nil v _ h =>
   cases h with
   | nil a => exact .nil a
   | some b off c => exact Rd.slice (es:=[]) (k:=0) (fun _ => Go.undef) (by simp) (by simp) (by simp [flat]) (by simp [flat])
 | sl1 => simp [D.bare] at hb
 | slice xs fs hk0 hk hw hb' hf hd hr =>
   rename_i es e k
   have : es=[]:=by cases es<;>simp_all [D.bare]
   subst this
   rcases hw.2 with ⟨h1,_⟩ | ⟨g,cap,cur,h1,_⟩
   . rw [h1]; exact .nil _
   . rw [h1]; exact Rd.slice (es:=[]) (k:=0) (fun _ => Go.undef) (by simp) (by simp) (by simp [flat]) (by simp [flat])
theorem DpO.at {β : Nat->Value} {w : World} {t es ho v F} (h : DpO β w t es ho v F) (hne : es ≠ []) : ∃ e k xs fs,(t=none∨t=some (e,k))∧DpR β w e k es ho v F xs fs:=by
 rcases h with ⟨_,_,h,_⟩ | h
 . exact absurd h hne
 . exact h
section
variable {P : Program} {Z : Nat->Prop} {β : Nat->Value} {φ : Nat->Nat->Prop} {N B : Nat} {M : Nat->Prop} {w0 : World} {st : St} {a : Act} {w : World}

theorem obj_of (h : SimB Z β φ N B M w0 st a w) {j o} (hj : lk j st.o=some o) : OK β (free Z φ st.o) w o (β j) (φ j):=h.objs j o hj

theorem run_loadAt_ptr {P : Program} {t : TypeId} {ad : Addr} {w : World} : (Instr.loadAt t (.pointer (some ad))).run P w=(loadVar t ad).run P w:=by
 simp [Instr.loadAt,Instr.sureAddr]

theorem allD_rd {β : Nat->Value} {S : Nat->Prop} {w : World} : ∀ {cs : List AV} {ds},allD cs=some ds->cs.length=ds.length∧∀ i v,i < ds.length->Rel β S w (cs.getD i .undef) v->Rd S w (ds.getD i .nilptr) v
 | [],_,h => by simp [allD] at h; subst h; simp
 | .d x :: r, ds, h => by
   simp only [allD] at h
   split at h
   . rename_i xs hx
     cases h
     obtain ⟨h1,h2⟩:=allD_rd hx
     refine ⟨by simp [h1],fun i v hi hr => ?_⟩
     cases i with
     | zero => simp only [List.getD_cons_zero] at hr ⊢; cases hr; assumption
     | succ i => simp only [List.getD_cons_succ] at hr ⊢; exact h2 i v (by simpa using hi) hr
   . cases h
 | .nilS :: r, ds, h => by
   simp only [allD] at h
   split at h
   . rename_i xs hx
     cases h
     obtain ⟨h1,h2⟩:=allD_rd hx
     refine ⟨by simp [h1],fun i v hi hr => ?_⟩
     cases i with
     | zero => simp only [List.getD_cons_zero] at hr ⊢; cases hr; exact .nil _
     | succ i => simp only [List.getD_cons_succ] at hr ⊢; exact h2 i v (by simpa using hi) hr
   . cases h
 | .hdr _ _ :: _,_,h => by simp [allD] at h
 | .st _ :: _,_,h => by simp [allD] at h
 | .undef :: _,_,h => by simp [allD] at h
 | .sl _ :: _,_,h => by simp [allD] at h
 | .p _ _ :: _,_,h => by simp [allD] at h
 | .pe _ _ _ _ :: _,_,h => by simp [allD] at h
 | .mq _ :: _,_,h => by simp [allD] at h
 | .sf _ _ _ :: _,_,h => by simp [allD] at h
 | .vw _ _ _ _ :: _,_,h => by simp [allD] at h
 | .pv _ _ _ _ _ :: _,_,h => by simp [allD] at h
 | .tup _ :: _,_,h => by simp [allD] at h
 | .fn _ _ :: _,_,h => by simp [allD] at h
 | .e0 :: _,_,h => by simp [allD] at h

theorem loadV_spec (h : SimB Z β φ N B M w0 st a w) {t av c r v} (hv : Rel β (free Z φ st.o) w av v) (hq : loadV P st.o t av=some (c,r)) (hc : c) (hu : (P.underlying t).isSome=true) :
 ∃ u,(Instr.loadAt t v).run P w=.ok u w∧Rel β (free Z φ st.o) w r u:=by
 cases av with
 | d x =>
   cases x<;>simp only [loadV,Option.some.injEq,Prod.mk.injEq,reduceCtorEq] at hq
   obtain ⟨rfl,rfl⟩:=hq
   cases hv with
   | d hr =>
     obtain ⟨b,off,rfl,hp⟩:=rd_ptr hr
     obtain ⟨u,h1,h2⟩:=run_loadVar_place hp hc hu
     exact ⟨u,by rw [run_loadAt_ptr,h1],.d h2⟩
 | p j off =>
   simp only [loadV] at hq
   cases hv with
   | p hβ =>
     rename_i b n cp
     split at hq
     . rename_i e cells hj
       have hO:=obj_of h hj
       rw [hβ] at hO
       cases hO with
       | box hF xs hne hw hr =>
         split at hq
         . rename_i ha
           split at hq
           . rename_i ds hds
             simp only [Option.some.injEq,Prod.mk.injEq] at hq
             obtain ⟨rfl,rfl⟩:=hq
             obtain ⟨hlen,_⟩:=hc
             obtain ⟨h1,h2⟩:=allD_rd (β:=β) (S:=free Z φ st.o) (w:=w) hds
             have hxl : xs.length=cells.length:=by simpa using hw.1
             obtain ⟨d,hd⟩:=Option.isSome_iff_exists.1 hu
             have hl:=run_loadCells (P:=P) w ⟨b,off,none⟩ (P.cellsOf t) (fun i => xs.getD (off + i) Go.undef) (fun i hi => by
              rw [add_eq]; exact ownsRow_cell hw rfl (by omega))
             refine ⟨.agg ((List.range (P.cellsOf t)).map fun i => xs.getD (off + i) Go.undef).toArray,?_,?_⟩
             . rw [run_loadAt_ptr]; simp [loadVar,run_isAgg hd,ha,run_sizeOf' hd,hl]
             . have hdl : ds.length=P.cellsOf t:=by rw [← h1]; simp; omega
               refine .d (.agg (by simp [hdl]) fun i hi => ?_)
               have h4:=hr (off + i) (by omega)
               have h5 : ((cells.drop off).take (P.cellsOf t)).getD i .undef=cells.getD (off + i) .undef:=by
                simp only [List.getD_eq_getElem?_getD,List.getElem?_take,List.getElem?_drop]
                rw [if_pos (by omega)]
               rw [← h5] at h4
               have h6:=h2 i _ hi h4
               generalize hgv : xs.getD (off + i) Go.undef=gv at *
               simp only [List.getD_eq_getElem?_getD,List.getElem?_map,List.getElem?_range (show i < P.cellsOf t by omega),Option.map_some,Option.getD_some]
               simp only [List.getD_eq_getElem?_getD] at hgv
               rw [hgv]; simpa using h6
           . simp only [Option.some.injEq,Prod.mk.injEq] at hq
             obtain ⟨rfl,rfl⟩:=hq
             obtain ⟨hlen,_⟩:=hc
             have hxl : xs.length=cells.length:=by simpa using hw.1
             obtain ⟨d,hd⟩:=Option.isSome_iff_exists.1 hu
             have hl:=run_loadCells (P:=P) w ⟨b,off,none⟩ (P.cellsOf t) (fun i => xs.getD (off + i) Go.undef) (fun i hi => by
              rw [add_eq]; exact ownsRow_cell hw rfl (by omega))
             refine ⟨.agg ((List.range (P.cellsOf t)).map fun i => xs.getD (off + i) Go.undef).toArray,?_,?_⟩
             . rw [run_loadAt_ptr]; simp [loadVar,run_isAgg hd,ha,run_sizeOf' hd,hl]
             . refine .st (by simp; omega) fun i hi => ?_
               simp only [List.length_take,List.length_drop] at hi
               have h4:=hr (off + i) (by omega)
               simp only [List.getD_eq_getElem?_getD,List.getElem?_take,List.getElem?_drop,List.getElem?_map,List.getElem?_range (show i < P.cellsOf t by omega),Option.map_some,Option.getD_some] at h4 ⊢
               rw [if_pos (by omega)]; exact h4
         . rename_i ha
           simp only [Option.some.injEq,Prod.mk.injEq] at hq
           obtain ⟨rfl,rfl⟩:=hq
           obtain ⟨hlt,_⟩:=hc
           have hxl : xs.length=cells.length:=by simpa using hw.1
           obtain ⟨d,hd⟩:=Option.isSome_iff_exists.1 hu
           refine ⟨xs.getD off Go.undef,?_,hr off hlt⟩
           have hcell:=ownsRow_cell hw rfl (i:=off) (by omega)
           rw [run_loadAt_ptr]; simp [loadVar,run_isAgg hd,ha,run_load,hcell]
     . rename_i e k es hj
       have hO:=obj_of h hj
       rw [hβ] at hO
       cases hO with
       | arv hF xs hne hk0 hk hw hr =>
         split at hq
         . rename_i ha
           simp only [Option.some.injEq,Prod.mk.injEq] at hq
           obtain ⟨rfl,rfl⟩:=hq
           obtain ⟨rfl,hlen,_⟩:=hc
           obtain ⟨d,hd⟩:=Option.isSome_iff_exists.1 hu
           have hxl : xs.length=(flat es).length:=by simpa using hw.1
           have hl:=run_loadCells (P:=P) w ⟨b,0,none⟩ (P.cellsOf t) (fun i => xs.getD i Go.undef) (fun i hi => by
            rw [add_eq,Nat.zero_add]; exact ownsRow_cell hw rfl (by omega))
           refine ⟨.agg ((List.range (P.cellsOf t)).map fun i => xs.getD i Go.undef).toArray,?_,?_⟩
           . rw [run_loadAt_ptr]; simp [loadVar,run_isAgg hd,ha,run_sizeOf' hd,hl]
           . refine .d (.agg (by simp [hlen]) fun i hi => ?_)
             have h4:=hr i hi
             simp only [List.getD_eq_getElem?_getD,List.getElem?_map,List.getElem?_range (show i < P.cellsOf t by omega),Option.map_some,Option.getD_some]
             simpa using h4
         . cases hq
     . cases hq
 | pe j k i fo =>
   simp only [loadV] at hq
   cases hv with
   | pe hβ =>
     rename_i b n cp
     have key : ∀ (es : List D) (xs : List Value),k<=k->(∀ x ∈ es,x.cells.length=k)->xs.length=es.length * k ->
      (∀ i,i < xs.length->w.cell? ⟨b,i,none⟩=some (xs.getD i Go.undef)) ->
      (∀ i,i < (flat es).length->Rd (free Z φ st.o) w ((flat es).getD i .nilptr) (xs.getD i Go.undef)) ->
      (if aggT P t then (if P.cellsOf t=k then some (i < es.length∧fo=0∧(el es i).fits P t,AV.d (el es i))
       else some (i < es.length∧fo + P.cellsOf t<=(el es i).cells.length,AV.d (.agg (((el es i).cells.drop fo).take (P.cellsOf t)))))
       else some (i < es.length∧fo < (el es i).cells.length,.d ((el es i).cells.getD fo .nilptr)))=some (c,r) ->
      ∃ u,(Instr.loadAt t (.pointer (some ⟨b,i * k + fo,none⟩))).run P w=.ok u w∧Rel β (free Z φ st.o) w r u:=by
      intro es xs _ hk hxl hcell hrd hq
      have hle : ∀ t,i < es.length->t < k->i * k + t < es.length * k:=fun t h1 h2 => by
       have : (i + 1) * k<=es.length * k:=Nat.mul_le_mul_right k (by omega)
       rw [Nat.add_mul] at this; omega
      split at hq
      . rename_i ha
        split at hq
        case isFalse =>
         simp only [Option.some.injEq,Prod.mk.injEq] at hq
         obtain ⟨rfl,rfl⟩:=hq
         obtain ⟨hi,hfo⟩:=hc
         have hcl : (el es i).cells.length=k:=hk _ (el_mem hi)
         have hcc : (D.agg (((el es i).cells.drop fo).take (P.cellsOf t))).cells=((el es i).cells.drop fo).take (P.cellsOf t):=rfl
         have hll : (D.agg (((el es i).cells.drop fo).take (P.cellsOf t))).cells.length=P.cellsOf t:=by
          rw [hcc,List.length_take,List.length_drop]; omega
         obtain ⟨u,h1,h2⟩:=run_loadVar_cells (P:=P) (S:=free Z φ st.o) (w:=w) (b:=b) (off:=i * k + fo) (x:=.agg (((el es i).cells.drop fo).take (P.cellsOf t))) (t:=t) (fun j => xs.getD (i * k + (fo + j)) Go.undef)
          (fun j hj => by
           rw [hll] at hj
           have:=hle (fo + j) hi (by omega)
           rw [Nat.add_assoc]; exact hcell _ (by omega))
          (fun j hj => by
           rw [hll] at hj
           have:=hle (fo + j) hi (by omega)
           have h3:=hrd (i * k + (fo + j)) (by rw [flat_length hk]; omega)
           rw [flat_getD hk hi (by omega)] at h3
           rw [hcc]
           have e : (((el es i).cells.drop fo).take (P.cellsOf t)).getD j .nilptr=(el es i).cells.getD (fo + j) .nilptr:=by
            simp [List.getD_eq_getElem?_getD,List.getElem?_take,List.getElem?_drop,hj]
           rw [e]; exact h3) ⟨by rw [ha]; rfl,hll⟩ hu
         exact ⟨u,by rw [run_loadAt_ptr]; exact h1,.d h2⟩
        simp only [Option.some.injEq,Prod.mk.injEq] at hq
        obtain ⟨rfl,rfl⟩:=hq
        obtain ⟨hi,rfl,hf⟩:=hc
        have hcl : (el es i).cells.length=k:=hk _ (el_mem hi)
        obtain ⟨u,h1,h2⟩:=run_loadVar_cells (P:=P) (S:=free Z φ st.o) (w:=w) (b:=b) (off:=i * k + 0) (x:=el es i) (t:=t) (fun j => xs.getD (i * k + j) Go.undef)
         (fun j hj => by have:=hle j hi (by omega); rw [Nat.add_zero]; exact hcell _ (by omega))
         (fun j hj => by
          have:=hle j hi (by omega)
          have h3:=hrd (i * k + j) (by rw [flat_length hk]; omega)
          rwa [flat_getD hk hi (by omega)] at h3) hf hu
        exact ⟨u,by rw [run_loadAt_ptr]; exact h1,.d h2⟩
      . rename_i ha
        simp only [Option.some.injEq,Prod.mk.injEq] at hq
        obtain ⟨rfl,rfl⟩:=hq
        obtain ⟨hi,hfo⟩:=hc
        have hcl : (el es i).cells.length=k:=hk _ (el_mem hi)
        have:=hle fo hi (by omega)
        obtain ⟨d,hd⟩:=Option.isSome_iff_exists.1 hu
        refine ⟨xs.getD (i * k + fo) Go.undef,?_,.d ?_⟩
        . rw [run_loadAt_ptr]; simp [loadVar,run_isAgg hd,ha,run_load,hcell (i * k + fo) (by omega)]
        . have h3:=hrd (i * k + fo) (by rw [flat_length hk]; omega)
          rwa [flat_getD hk hi (by omega)] at h3
     split at hq
     . rename_i e k' es hj
       have hO:=obj_of h hj
       rw [hβ] at hO
       cases hO with
       | arr hF xs hk0 hk hw hr =>
         by_cases hkk : k=k'
         . subst hkk
           exact key es xs (Nat.le_refl _) hk hw.1 (fun i hi => ownsRow_cell hw rfl hi) hr (by simpa [hu] using hq)
         . exfalso; repeat' split at hq
           all_goals (simp only [Option.some.injEq,Prod.mk.injEq] at hq; obtain ⟨rfl,_⟩:=hq; exact hkk hc.1)
     . rename_i e k' es hj
       have hO:=obj_of h hj
       rw [hβ] at hO
       cases hO with
       | arv hF xs hne hk0 hk hw hr =>
         by_cases hkk : k=k'
         . subst hkk
           exact key es xs (Nat.le_refl _) hk (by have:=hw.1; rw [flat_length hk] at this; omega) (fun i hi => ownsRow_cell hw rfl hi) hr (by simpa [hu] using hq)
         . exfalso; repeat' split at hq
           all_goals (simp only [Option.some.injEq,Prod.mk.injEq] at hq; obtain ⟨rfl,_⟩:=hq; exact hkk hc.1)
     . rename_i e k' es vs hj
       have hO:=obj_of h hj
       rw [hβ] at hO
       cases hO with
       | arw hlt xs hk0 hk hw hbb hr hvv =>
         by_cases hkk : k=k'
         . subst hkk
           exact key es xs (Nat.le_refl _) hk hw.1 (fun i hi => ownsRow_cell hw rfl hi) hr (by simpa [hu] using hq)
         . exfalso; repeat' split at hq
           all_goals (simp only [Option.some.injEq,Prod.mk.injEq] at hq; obtain ⟨rfl,_⟩:=hq; exact hkk hc.1)
     . rename_i t' es hj
       split at hq
       . cases hq
       . rename_i ha
         split at hq
         . cases hq
         . simp only [Option.some.injEq,Prod.mk.injEq] at hq
           obtain ⟨rfl,rfl⟩:=hq
           obtain ⟨hi,hk',hfo,hba,_⟩:=hc
           have hO:=obj_of h hj
           rw [hβ] at hO
           cases hO with
           | dp hlt hD =>
             obtain ⟨e,k2,xs,fs,_,hR⟩:=hD.at (by rintro rfl; simp at hi)
             have hcl : (el es i).cells.length=k2:=hR.hk _ (el_mem hi)
             have hkk : k2=k:=by omega
             subst hkk
             have hle : i * k2 + fo < es.length * k2:=by
              have : (i + 1) * k2<=es.length * k2:=Nat.mul_le_mul_right k2 (by omega)
              rw [Nat.add_mul] at this; omega
             have hxl:=hR.hw.1
             have fl:=flat_length hR.hk
             obtain ⟨d,hd⟩:=Option.isSome_iff_exists.1 hu
             refine ⟨xs.getD (i * k2 + fo) Go.undef,?_,.d ?_⟩
             . rw [run_loadAt_ptr]; simp [loadVar,run_isAgg hd,ha,run_load,ownsRow_cell hR.hw rfl (i:=i * k2 + fo) (by omega)]
             . have h3:=hR.hr (i * k2 + fo) (by omega) (by simp)
               rw [flat_getD hR.hk hi (by omega)] at h3
               exact h3.rd_bare hba
     . rename_i t' es c' d' hj
       split at hq
       . cases hq
       . rename_i ha
         split at hq
         . cases hq
         . simp only [Option.some.injEq,Prod.mk.injEq] at hq
           obtain ⟨rfl,rfl⟩:=hq
           obtain ⟨rfl,rfl,hk',_⟩:=hc
           have hO:=obj_of h hj
           rw [hβ] at hO
           cases hO with
           | dp hlt hD =>
             rcases hD with ⟨_,h2,_⟩ | ⟨e,k2,xs,fs,_,hR⟩
             . cases h2
             . obtain ⟨hi,hfo,hb,_⟩:=hR.hh _ _ rfl
               have hcl : (el es c'.1).cells.length=k2:=hR.hk _ (el_mem hi)
               have hkk : k2=k:=by omega
               subst hkk
               have hle : c'.1 * k2 + c'.2 < es.length * k2:=by
                have : (c'.1 + 1) * k2<=es.length * k2:=Nat.mul_le_mul_right k2 (by omega)
                rw [Nat.add_mul] at this; omega
               have hxl:=hR.hw.1
               obtain ⟨d,hd⟩:=Option.isSome_iff_exists.1 hu
               refine ⟨β d',?_,.sl d'⟩
               rw [hb,run_loadAt_ptr]; simp [loadVar,run_isAgg hd,ha,run_load,ownsRow_cell hR.hw rfl (i:=c'.1 * k2 + c'.2) (by omega)]
     . cases hq
 | undef => simp [loadV] at hq
 | sl j => simp [loadV] at hq
 | tup xs => simp [loadV] at hq
 | fn f cs => simp [loadV] at hq
 | e0 => simp [loadV] at hq
 | hdr j u => simp [loadV] at hq
 | mq j => simp [loadV] at hq
 | sf j k l => simp [loadV] at hq
 | vw j q n k => simp [loadV] at hq
 | pv j q k i fo => simp [loadV] at hq
 | nilS => simp [loadV] at hq
 | st xs => simp [loadV] at hq

theorem rd_slice_elem {S w es v} (h : Rd S w (.slice es) v) {i : Nat} (hi : i < es.length) :
 ∃ b off cap,v=.slice (some ⟨b,off,none⟩) es.length cap∧Place S w b (off + i * (el es i).cells.length) (el es i):=by
 cases h with
 | nil => simp at hi
 | slice vs hk hcap hc hr =>
   rename_i b off cap k
   have hcl : (el es i).cells.length=k:=hk _ (el_mem hi)
   have hle : ∀ t,t < k->i * k + t < (flat es).length:=fun t h2 => by
    have : (i + 1) * k<=es.length * k:=Nat.mul_le_mul_right k (by omega)
    rw [flat_length hk]; rw [Nat.add_mul] at this; omega
   refine ⟨b,off,cap,rfl,fun j => vs (i * k + j),fun j hj => ?_,fun j hj => ?_⟩
   . rw [hcl] at hj ⊢
     have:=hc _ (hle j hj)
     rw [Nat.add_assoc]; exact this
   . rw [hcl] at hj
     have:=hr _ (hle j hj)
     rwa [flat_getD hk hi hj] at this

theorem indexV_spec (h : SimB Z β φ N B M w0 st a w) {t av c r v kk n} (hv : Rel β (free Z φ st.o) w av v) (hq : indexV P st.o t av n=some (c,r)) (hc : c) :
 ∃ u,(Instr.indexAt t v (.int kk n)).run P w=.ok u w∧Rel β (free Z φ st.o) w r u:=by
 unfold indexV at hq
 split at hq
 . rename_i e he
   have hu:=elemSl_spec he
   cases av with
   | d x =>
     cases x<;>simp only [Option.some.injEq,Prod.mk.injEq,reduceCtorEq] at hq
     rename_i es
     obtain ⟨rfl,rfl⟩:=hq
     obtain ⟨h0,h1,h2,h3⟩:=hc
     cases hv with
     | d hr =>
       have hi : n.toNat < es.length:=by omega
       obtain ⟨b,off,cap,rfl,hp⟩:=rd_slice_elem hr hi
       refine ⟨.pointer (some ⟨b,off + n.toNat * P.cellsOf e,none⟩),?_,.d (Place.rd (by rw [← h2]; exact hp))⟩
       simp [Instr.indexAt,asIntOf,run_underlying hu,h0,h1,run_sizeOf_pos h3,add_eq]
   | sl j =>
     simp only at hq
     split at hq
     . rename_i e' k es hj
       simp only [Option.some.injEq,Prod.mk.injEq] at hq
       obtain ⟨rfl,rfl⟩:=hq
       obtain ⟨h0,h1,h2⟩:=hc
       cases hv
       have hO:=obj_of h hj
       have hi : n.toNat < es.length:=by omega
       generalize hβ : β j=v at *
       cases hO with
       | arr hF xs hk0 hk hw hr =>
         have hne : v ≠ .slice none 0 0:=by
          rintro rfl
          rcases hw.2 with ⟨_,h3⟩ | ⟨g,cap,cur,h3,_⟩
          . omega
          . cases h3
         obtain ⟨g,cap,cur,rfl,hg,_⟩:=ownsRow_some hw hne
         refine ⟨.pointer (some ⟨g,n.toNat * k + 0,none⟩),?_,.pe hβ⟩
         subst h2
         simp [Instr.indexAt,asIntOf,run_underlying hu,h0,h1,run_sizeOf_pos hk0,add_eq]
     . rename_i e' k es vs hj
       simp only [Option.some.injEq,Prod.mk.injEq] at hq
       obtain ⟨rfl,rfl⟩:=hq
       obtain ⟨h0,h1,h2⟩:=hc
       cases hv
       have hO:=obj_of h hj
       have hi : n.toNat < es.length:=by omega
       generalize hβ : β j=v at *
       cases hO with
       | arw hlt xs hk0 hk hw hbb hr hvv =>
         have hne : v ≠ .slice none 0 0:=by
          rintro rfl
          rcases hw.2 with ⟨_,h3⟩ | ⟨g,cap,cur,h3,_⟩
          . omega
          . cases h3
         obtain ⟨g,cap,cur,rfl,hg,_⟩:=ownsRow_some hw hne
         refine ⟨.pointer (some ⟨g,n.toNat * k + 0,none⟩),?_,.pe hβ⟩
         subst h2
         simp [Instr.indexAt,asIntOf,run_underlying hu,h0,h1,run_sizeOf_pos hk0,add_eq]
     . rename_i t' es ho hj
       simp only [Option.some.injEq,Prod.mk.injEq] at hq
       obtain ⟨rfl,rfl⟩:=hq
       obtain ⟨h0,h1,h2,h3⟩:=hc
       cases hv
       have hO:=obj_of h hj
       have hi : n.toNat < es.length:=by omega
       generalize hβ : β j=v at *
       cases hO with
       | dp hlt hD =>
         obtain ⟨e2,k2,xs,fs,_,hR⟩:=hD.at (by rintro rfl; simp at hi)
         have hw:=hR.hw
         have hne : v ≠ .slice none 0 0:=by
          rintro rfl
          rcases hw.2 with ⟨_,h3⟩ | ⟨g,cap,cur,h3,_⟩
          . omega
          . cases h3
         obtain ⟨g,cap,cur,rfl,hg,_⟩:=ownsRow_some hw hne
         refine ⟨.pointer (some ⟨g,n.toNat * P.cellsOf e + 0,none⟩),?_,.pe hβ⟩
         simp [Instr.indexAt,asIntOf,run_underlying hu,h0,h1,run_sizeOf_pos h3,add_eq]
     . cases hq
   | vw j q nn k =>
     simp only [Option.some.injEq,Prod.mk.injEq] at hq
     obtain ⟨rfl,rfl⟩:=hq
     obtain ⟨h0,h1,h2,h3⟩:=hc
     cases hv with
     | @vw _ _ _ _ b c hβ =>
       refine ⟨.pointer (some ⟨b,n.toNat * k + 0,none⟩),?_,.pv hβ⟩
       subst h2
       simp [Instr.indexAt,asIntOf,run_underlying hu,h0,h1,run_sizeOf_pos h3,add_eq]
   | sf j k' l =>
     simp only at hq
     split at hq
     . rename_i e' k es hj
       simp only [Option.some.injEq,Prod.mk.injEq] at hq
       obtain ⟨rfl,rfl⟩:=hq
       obtain ⟨h0,h1,h2,rfl⟩:=hc
       have hO:=obj_of h hj
       cases hv with
       | @sf _ _ _ b m cp hβ hl =>
         rw [hβ] at hO
         cases hO with
         | arr hF xs hk0 hk hw hr =>
           obtain ⟨g,cap,cur,hs,hg,hcap,_⟩:=ownsRow_some hw (by simp)
           cases hs
           subst h2
           refine ⟨.pointer (some ⟨b,(l + n.toNat) * P.cellsOf e + 0,none⟩),?_,.pe hβ⟩
           rw [if_neg (by omega)]
           have h5 : n < ((es.length - l : Nat) : Int):=by omega
           have h6 : n.toNat < es.length - l:=by omega
           simp [Instr.indexAt,asIntOf,run_underlying hu,h0,h5,run_sizeOf_pos hk0,add_eq,Nat.add_mul]
     . cases hq
   | _ => simp at hq
 . split at hq
   . rename_i len e he
     have hu:=elemAr_spec he
     cases av with
     | d x =>
       cases x<;>try (cases hq; done)
       rename_i y
       cases y<;>simp only [Option.some.injEq,Prod.mk.injEq,reduceCtorEq] at hq
       rename_i cs
       obtain ⟨rfl,rfl⟩:=hq
       obtain ⟨h0,h1,h2⟩:=hc
       cases hv with
       | d hr =>
         obtain ⟨b,off,rfl,hp⟩:=rd_ptr hr
         refine ⟨.pointer (some ⟨b,off + n.toNat * P.cellsOf e,none⟩),?_,.d (Place.rd (hp.part h2))⟩
         have htiny : ¬ (n < 0):=by omega
         simp [Instr.indexAt,asIntOf,run_underlying hu,h0,h1,run_sizeOf_pos h2.2.1,add_eq,Instr.sureAddr]
     | p j off =>
       cases off with
       | zero =>
         simp only at hq
         split at hq
         . rename_i e' k es hj
           simp only [Option.some.injEq,Prod.mk.injEq] at hq
           obtain ⟨rfl,rfl⟩:=hq
           obtain ⟨h0,h1,h2⟩:=hc
           cases hv with
           | p hβ =>
             rename_i b n' cp
             have hO:=obj_of h hj
             cases hO with
             | arv hF xs hne hk0 hk hw hr =>
               refine ⟨.pointer (some ⟨b,n.toNat * k + 0,none⟩),?_,.pe hβ⟩
               subst h2
               simp [Instr.indexAt,asIntOf,run_underlying hu,h0,h1,run_sizeOf_pos hk0,add_eq,Instr.sureAddr]
         . cases hq
       | succ o => simp at hq
     | pe j k q fo =>
       simp only [Option.some.injEq,Prod.mk.injEq] at hq
       obtain ⟨rfl,rfl⟩:=hq
       obtain ⟨h0,h1,h2⟩:=hc
       cases hv with
       | pe hβ =>
         rename_i b n' cp
         refine ⟨.pointer (some ⟨b,q * k + (fo + n.toNat * P.cellsOf e),none⟩),?_,.pe hβ⟩
         have htiny : ¬ (n < 0):=by omega
         simp [Instr.indexAt,asIntOf,run_underlying hu,h0,h1,run_sizeOf_pos h2,add_eq,Instr.sureAddr,Nat.add_assoc]
     | _ => simp at hq
   . cases hq

theorem fieldAV_spec (h : SimB Z β φ N B M w0 st a w) {t av c r v f} (hv : Rel β (free Z φ st.o) w av v) (hq : fieldAV P t f av=some (c,r)) (hc : c) :
 ∃ u,(Instr.fieldAt t v f).run P w=.ok u w∧Rel β (free Z φ st.o) w r u:=by
 have go : ∀ {b off o ft},fieldOf P t f=some (o,ft)->0 < P.cellsOf ft ->
  (Instr.fieldAt t (.pointer (some ⟨b,off,none⟩)) f).run P w=.ok (.pointer (some ⟨b,off + o,none⟩)) w:=by
  intro b off o ft hf h0
  obtain ⟨fs,x,hu,hx,rfl,rfl⟩:=fieldOf_spec hf
  have hne : ¬ (P.cellsOf x.type=0):=by omega
  simp [Instr.fieldAt,run_underlying hu,hx,Instr.sureAddr,fieldPlace,run_sizeOf_pos h0,hne,add_eq]
 cases av with
 | d x =>
   cases x<;>simp only [fieldAV,reduceCtorEq] at hq
   rename_i y
   cases y<;>simp only [reduceCtorEq] at hq
   rename_i cs
   split at hq
   . rename_i o ft hf
     simp only [Option.some.injEq,Prod.mk.injEq] at hq
     obtain ⟨rfl,rfl⟩:=hq
     cases hv with
     | d hr =>
       obtain ⟨b,off,rfl,hp⟩:=rd_ptr hr
       exact ⟨_,go hf hc.2.1,.d (hp.part hc).rd⟩
   . cases hq
 | p j off =>
   simp only [fieldAV] at hq
   split at hq
   . rename_i o ft hf
     simp only [Option.some.injEq,Prod.mk.injEq] at hq
     obtain ⟨rfl,rfl⟩:=hq
     cases hv with
     | p hβ => exact ⟨_,go hf hc,.p hβ⟩
   . cases hq
 | pe j k i fo =>
   simp only [fieldAV] at hq
   split at hq
   . rename_i o ft hf
     simp only [Option.some.injEq,Prod.mk.injEq] at hq
     obtain ⟨rfl,rfl⟩:=hq
     cases hv with
     | pe hβ => exact ⟨_,go hf hc,by rw [Nat.add_assoc]; exact .pe hβ⟩
   . cases hq
 | _ => simp [fieldAV] at hq

theorem evA_spec (h : SimB Z β φ N B M w0 st a w) {x av} (hx : evA st x=some av) : Rel β (free Z φ st.o) w av (a.eval x):=by
 unfold evA at hx
 split at hx
 . cases hx; exact .nilS
 . exact ev_spec h hx
theorem evs_spec (h : SimB Z β φ N B M w0 st a w) : ∀ {xs avs},evs st xs=some avs->xs.length=avs.length ∧
 ∀ i,i < avs.length->Rel β (free Z φ st.o) w (avs.getD i .undef) ((xs.map a.eval).getD i Go.undef)
 | [],_,hq => by simp [evs] at hq; subst hq; simp
 | x :: r, avs, hq => by
   simp only [evs] at hq
   split at hq
   . rename_i y ys h1 h2
     cases hq
     obtain ⟨h3,h4⟩:=evs_spec h h2
     refine ⟨by simp [h3],fun i hi => ?_⟩
     cases i with
     | zero => simpa using evA_spec h h1
     | succ i => simpa using h4 i (by simpa using hi)
   . cases hq

theorem qv_spec (h : SimB Z β φ N B M w0 st a w) {o : Oper} {c r} (hq : qv P st o.op=some (c,r)) (hc : c) :
 ∃ u,(execOp a.eval o).run P w=.ok (.value u) w∧Rel β (free Z φ st.o) w r u:=by
 obtain ⟨dst,op,type,pos,after,guard⟩:=o
 simp only at hq
 cases op<;>simp only [qv,reduceCtorEq] at hq
 case move x =>
  obtain ⟨y,hy,he⟩:=Option.map_eq_some_iff.1 hq
  cases he
  exact ⟨a.eval x,by simp [execOp],ev_spec h hy⟩
 case assign x =>
  obtain ⟨y,hy,he⟩:=Option.map_eq_some_iff.1 hq
  cases he
  exact ⟨a.eval x,by simp [execOp],ev_spec h hy⟩
 case pick cd x y =>
  split at hq
  . rename_i b hb
    simp only [Option.some.injEq,Prod.mk.injEq] at hq
    obtain ⟨rfl,rfl⟩:=hq
    have h1:=ev_bool h hb
    refine ⟨if b then a.eval x else a.eval y,by simp [execOp,h1,asBool],?_⟩
    cases b
    . simp only [cond_false]
      cases hy : ev st y with
      | none => exact .undef _
      | some av => exact ev_spec h hy
    . simp only [cond_true]
      cases hy : ev st x with
      | none => exact .undef _
      | some av => exact ev_spec h hy
  . cases hq
 case load t x =>
  obtain ⟨⟨c',r'⟩,hq',he'⟩:=Option.map_eq_some_iff.1 hq
  obtain ⟨y,hy,he⟩:=Option.bind_eq_some_iff.1 hq'
  cases he'
  obtain ⟨u,h1,h2⟩:=loadV_spec h (ev_spec h hy) he hc.2 hc.1
  exact ⟨u,by simp [execOp,h1],h2⟩
 case nilCheck x =>
  have h1 : ∀ av,ev st x=some av->(∃ ad,a.eval x=.pointer (some ad))->∃ u,(execOp a.eval ⟨dst,.nilCheck x,type,pos,after,guard⟩).run P w=.ok (.value u) w∧Rel β (free Z φ st.o) w av u:=by
   rintro av hav ⟨ad,had⟩
   refine ⟨_,?_,ev_spec h hav⟩
   simp [execOp,had]
  split at hq<;>simp only [Option.some.injEq,Prod.mk.injEq,reduceCtorEq] at hq
  . rename_i y hy
    obtain ⟨rfl,rfl⟩:=hq
    obtain ⟨b,off,he,_⟩:=rd_ptr (ev_d h hy)
    exact h1 _ hy ⟨_,he⟩
  . rename_i j o hy
    obtain ⟨rfl,rfl⟩:=hq
    have:=ev_spec h hy
    refine h1 _ hy ?_
    generalize a.eval x=v at *
    cases this; exact ⟨_,rfl⟩
  . rename_i j k i o hy
    obtain ⟨rfl,rfl⟩:=hq
    have:=ev_spec h hy
    refine h1 _ hy ?_
    generalize a.eval x=v at *
    cases this; exact ⟨_,rfl⟩
 case binOp bop t x y yt =>
  split at hq
  . rename_i k n k' m hx hy
    obtain ⟨⟨c',z⟩,hr,he⟩:=Option.map_eq_some_iff.1 hq
    cases he
    obtain ⟨v,h1,h2⟩:=intB_spec (P:=P) hr hc t w
    refine ⟨v,?_,.d (h2 _)⟩
    simp [execOp,ev_int h hx,ev_int h hy,eqGuard_plain,h1]
  . rename_i s u hx hy
    obtain ⟨⟨c',z⟩,hr,he⟩:=Option.map_eq_some_iff.1 hq
    cases he
    obtain ⟨v,h1,h2⟩:=strB_spec (P:=P) hr hc t w
    refine ⟨v,?_,.d (h2 _)⟩
    simp [execOp,ev_str h hx,ev_str h hy,eqGuard_plain,h1]
  . rename_i s u hx hy
    cases bop<;>simp only [Option.some.injEq,Prod.mk.injEq,reduceCtorEq] at hq<;>obtain ⟨rfl,rfl⟩:=hq
    . refine ⟨.bool (s == u),?_,.d (.bool _)⟩
      simp [execOp,ev_bool h hx,ev_bool h hy,eqGuard_plain,run_eql_bool w t s u (isBoolT_spec hc)]
    . refine ⟨.bool (!(s == u)),?_,.d (.bool _)⟩
      simp [execOp,ev_bool h hx,ev_bool h hy,eqGuard_plain,run_neq_bool w t s u (isBoolT_spec hc)]
  . rename_i cs ds hx hy
    obtain ⟨xs,hvx,hlx,hrx⟩:=rd_agg (ev_d h hx)
    obtain ⟨ys,hvy,hly,hry⟩:=rd_agg (ev_d h hy)
    split at hq<;>simp only [Option.some.injEq,Prod.mk.injEq,reduceCtorEq] at hq<;>obtain ⟨rfl,rfl⟩:=hq
    . rename_i l hs
      obtain ⟨h1,h2⟩:=eqShape_spec hs hc hlx hrx hly hry
      refine ⟨.bool (eqL cs ds l),?_,.d (.bool _)⟩
      simp [execOp,hvx,hvy,h1,run_eql_struct,h2]
    . rename_i l hs
      obtain ⟨h1,h2⟩:=eqShape_spec hs hc hlx hrx hly hry
      refine ⟨.bool (!eqL cs ds l),?_,.d (.bool _)⟩
      simp [execOp,hvx,hvy,h1,run_neq_struct,h2]
  . rename_i hx hy
    have h1:=ev_d h hx
    have h2:=ev_d h hy
    have e1 : a.eval x=.pointer none:=by generalize a.eval x=v at *; cases h1; rfl
    have e2 : a.eval y=.pointer none:=by generalize a.eval y=v at *; cases h2; rfl
    cases bop<;>simp only [Option.some.injEq,Prod.mk.injEq,reduceCtorEq] at hq<;>obtain ⟨rfl,rfl⟩:=hq
    . exact ⟨.bool true,by simp only [execOp,e1,e2,eqGuard_at_pointer,Sem.run_bind,Sem.run_pure,Result.andThen_ok,run_eql_pointer_nil w t none (isPtrT_spec hc)]; rfl,.d (.bool _)⟩
    . exact ⟨.bool false,by simp only [execOp,e1,e2,eqGuard_at_pointer,Sem.run_bind,Sem.run_pure,Result.andThen_ok,run_neq_pointer_nil w t none (isPtrT_spec hc)]; rfl,.d (.bool _)⟩
  . rename_i z hx hy
    have h1:=ev_d h hx
    have h2:=ev_d h hy
    obtain ⟨b,e1⟩ : ∃ b,a.eval x=.pointer (some b):=by generalize a.eval x=v at *; cases h1; exact ⟨_,rfl⟩
    have e2 : a.eval y=.pointer none:=by generalize a.eval y=v at *; cases h2; rfl
    cases bop<;>simp only [Option.some.injEq,Prod.mk.injEq,reduceCtorEq] at hq<;>obtain ⟨rfl,rfl⟩:=hq
    . exact ⟨.bool false,by simp only [execOp,e1,e2,eqGuard_at_pointer,Sem.run_bind,Sem.run_pure,Result.andThen_ok,run_eql_pointer_nil w t (some b) (isPtrT_spec hc)]; rfl,.d (.bool _)⟩
    . exact ⟨.bool true,by simp only [execOp,e1,e2,eqGuard_at_pointer,Sem.run_bind,Sem.run_pure,Result.andThen_ok,run_neq_pointer_nil w t (some b) (isPtrT_spec hc)]; rfl,.d (.bool _)⟩
  . cases hq
 case unOp uop t x =>
  split at hq<;>simp only [Option.some.injEq,Prod.mk.injEq,reduceCtorEq] at hq<;>obtain ⟨rfl,rfl⟩:=hq
  . rename_i _ b hx
    exact ⟨.bool (!b),by simp [execOp,ev_bool h hx,Op.unary],.d (.bool _)⟩
  . rename_i _ k n hx
    exact ⟨.int k (k.wrap (0 - n)),by simp only [execOp,ev_int h hx,Op.unary,Op.intArith]; rfl,.d (.int _ _)⟩
  . rename_i _ k n hx
    exact ⟨.int k (bitV .xor k (if k.signed then -1 else k.max) n),by simp only [execOp,ev_int h hx,Op.unary,Op.intBits]; rfl,.d (.int _ _)⟩
 case lookup t m x co =>
  split at hq
  . rename_i j k n q r hm hx ht
    split at hq
    . rename_i q' r' es hj
      simp only [Option.some.injEq,Prod.mk.injEq] at hq
      obtain ⟨rfl,rfl⟩:=hq
      obtain ⟨rfl,rfl,rfl⟩:=hc
      have hO:=obj_of h hj
      have hr:=ev_spec h hm
      generalize hu : a.eval m=u at hr
      cases hr with
      | mq hβ =>
        rw [hβ] at hO
        cases hO with
        | mp b' ms cl hF hv hbb hes =>
          cases hv
          have h1:=run_lookup_mp ht hbb hes n co
          refine ⟨if co=true then Value.tuple #[Value.int r' ((mpAt n es).getD 0),Value.bool (mpAt n es).isSome] else Value.int r' ((mpAt n es).getD 0),by simp only [execOp,hu,ev_int h hx,h1,Sem.run_bind,Result.andThen_ok,Sem.run_pure],?_⟩
          cases co
          . exact .d (.int _ _)
          . refine .tup (by simp) fun i hi => ?_
            match i,hi with
            | 0,_ => exact .d (.int _ _)
            | 1,_ => exact .d (.bool _)
    . cases hq
  . rename_i q' r' es k n q r hm hx ht
    simp only [Option.some.injEq,Prod.mk.injEq] at hq
    obtain ⟨rfl,rfl⟩:=hq
    obtain ⟨rfl,rfl,rfl⟩:=hc
    have hr:=ev_d h hm
    generalize hu : a.eval m=u at hr
    cases hr with
    | map ms hS hbb hes =>
      have h1:=run_lookup_mp ht hbb hes n co
      refine ⟨if co=true then Value.tuple #[Value.int r' ((mpAt n es).getD 0),Value.bool (mpAt n es).isSome] else Value.int r' ((mpAt n es).getD 0),by simp only [execOp,hu,ev_int h hx,h1,Sem.run_bind,Result.andThen_ok,Sem.run_pure],?_⟩
      cases co
      . exact .d (.int _ _)
      . refine .tup (by simp) fun i hi => ?_
        match i,hi with
        | 0,_ => exact .d (.int _ _)
        | 1,_ => exact .d (.bool _)
  . cases hq
 case convert s t x =>
  split at hq
  . rename_i k n hx
    split at hq
    . rename_i k' hu
      simp only [Option.some.injEq,Prod.mk.injEq] at hq
      obtain ⟨rfl,rfl⟩:=hq
      obtain ⟨d,hd⟩:=Option.isSome_iff_exists.1 hc
      exact ⟨.int k' (k'.wrap n),by simp [execOp,ev_int h hx,convert,run_underlying hd,run_underlying hu,Conv.intToInt],.d (.int _ _)⟩
    . rename_i hu
      simp only [Option.some.injEq,Prod.mk.injEq] at hq
      obtain ⟨rfl,rfl⟩:=hq
      obtain ⟨d,hd⟩:=Option.isSome_iff_exists.1 hc
      exact ⟨.string (Utf8.encode n),by simp [execOp,ev_int h hx,convert,run_underlying hd,run_underlying hu,Conv.intToString],.d (.str _)⟩
    . cases hq
  . cases hq
 case fieldAddr t x f =>
  obtain ⟨y,hy,he⟩:=Option.bind_eq_some_iff.1 hq
  obtain ⟨u,h1,h2⟩:=fieldAV_spec h (ev_spec h hy) he hc
  exact ⟨u,by simp [execOp,h1],h2⟩
 case field t x f =>
  split at hq
  . rename_i cs hx
    split at hq
    . rename_i o ft hf
      simp only [Option.some.injEq,Prod.mk.injEq] at hq
      obtain ⟨rfl,rfl⟩:=hq
      obtain ⟨vs,hv,hl,hr⟩:=rd_agg (ev_d h hx)
      obtain ⟨fs,x',hu,hx',rfl,rfl⟩:=fieldOf_spec hf
      obtain ⟨u,h1,h2⟩:=run_part (P:=P) hl hr hc
      exact ⟨u,by simp [execOp,hv,Instr.field,run_underlying hu,hx',asAgg,h1],.d h2⟩
    . cases hq
  . rename_i cs hx
    split at hq
    . rename_i o ft hf
      simp only [Option.some.injEq,Prod.mk.injEq] at hq
      obtain ⟨rfl,rfl⟩:=hq
      obtain ⟨fs,x',hu,hx',rfl,rfl⟩:=fieldOf_spec hf
      have:=ev_spec h hx
      generalize hv : a.eval x=v at *
      cases this with
      | st hl hr =>
        obtain ⟨u,h1,h2⟩:=run_partA (P:=P) hl hr hc
        exact ⟨u,by simp [execOp,hv,Instr.field,run_underlying hu,hx',asAgg,h1],h2⟩
    . cases hq
  . cases hq
 case indexAddr t x i =>
  split at hq
  . rename_i av k n hx hi
    obtain ⟨u,h1,h2⟩:=indexV_spec h (kk:=k) (ev_spec h hx) hq hc
    exact ⟨u,by simp [execOp,ev_int h hi,h1],h2⟩
  . cases hq
 case index t x i =>
  split at hq
  . rename_i cs k n hx hi
    split at hq
    . rename_i len e he
      simp only [Option.some.injEq,Prod.mk.injEq] at hq
      obtain ⟨rfl,rfl⟩:=hq
      obtain ⟨h0,h1,h2⟩:=hc
      obtain ⟨vs,hv,hl,hr⟩:=rd_agg (ev_d h hx)
      obtain ⟨u,h3,h4⟩:=run_part (P:=P) hl hr h2
      exact ⟨u,by simp [execOp,hv,ev_int h hi,Instr.index,asIntOf,run_underlying (elemAr_spec he),h0,h1,run_sizeOf_pos h2.2.1,h3],.d h4⟩
    . cases hq
  . rename_i s k n hx hi
    simp only [Option.some.injEq,Prod.mk.injEq] at hq
    obtain ⟨rfl,rfl⟩:=hq
    obtain ⟨h0,h1,h2⟩:=hc
    have hlt : n.toNat < s.size:=by omega
    refine ⟨.int .u8 (s.data.toList.getD n.toNat 0).toNat,?_,.d (.int _ _)⟩
    have hg : s[n.toNat]? = some (s.data.toList.getD n.toNat 0):=by
     have : n.toNat < s.data.toList.length:=by simpa using hlt
     have hsz : n.toNat < s.data.size:=hlt
     rw [getElem?_pos s n.toNat hlt,List.getD_eq_getElem?_getD,Array.getElem?_toList,Array.getElem?_eq_getElem hsz]; rfl
    simp [execOp,ev_str h hx,ev_int h hi,Instr.index,asIntOf,run_underlying (isStrT_spec h2),h0,hg]
  . cases hq
 case extract x i =>
  split at hq<;>simp only [Option.some.injEq,Prod.mk.injEq,reduceCtorEq] at hq<;>obtain ⟨rfl,rfl⟩:=hq
  . rename_i xs hx
    have:=ev_spec h hx
    generalize hv : a.eval x=v at *
    cases this with
    | tup hl hr =>
      rename_i vs
      refine ⟨vs.getD i Go.undef,?_,hr i hc⟩
      have : i < vs.length:=by omega
      simp [execOp,hv,Instr.extract,this]
  . rename_i xs hx
    have:=ev_d h hx
    generalize hv : a.eval x=v at *
    cases this with
    | tup hl hr =>
      rename_i vs
      refine ⟨vs.getD i Go.undef,?_,.d (hr i hc)⟩
      have : i < vs.length:=by omega
      simp [execOp,hv,Instr.extract,this]
 case slice t x lo hi mx =>
  unfold e0V at hq
  cases mx with
  | none => cases hq
  | some m' =>
  cases hi with
  | none => cases hq
  | some h' =>
  cases lo with
  | some l' => cases hq
  | none =>
    simp only at hq
    split at hq
    . rename_i es k1 k2 hx hh hm
      split at hq
      . rename_i e he
        cases hq
        have hu:=elemSl_spec he
        have key : ∀ a0 n c,(Instr.sliceAt t (.slice a0 n c) none (some (.int k1 0)) (some (.int k2 0)) ).run P w=.ok (.slice a0 0 0) w:=fun a0 n c => by
         simp [Instr.sliceAt,run_underlying hu,Instr.slice,Instr.sliceBounds,Instr.sliceBound,asIntOf,run_sizeOf_pos hc]
        have hd:=ev_d h hx
        have h1:=ev_int h hh
        have h2:=ev_int h hm
        generalize hv : a.eval x=v at *
        cases hd with
        | nil a0 => cases a0 with
          | none => exact ⟨_,by simp [execOp,hv,h1,h2,key],.e0n⟩
          | some a1 => exact ⟨_,by simp only [execOp,Option.map_some,Option.map_none,hv,h1,h2,Sem.run_bind,key]; rfl,.e0s _⟩
        | slice vs hk hcap hc' hr => exact ⟨_,by simp only [execOp,Option.map_some,Option.map_none,hv,h1,h2,Sem.run_bind,key]; rfl,.e0s _⟩
      . cases hq
    . cases hq
 case makeFunc f first caps =>
  split at hq
  . rename_i h0
    obtain ⟨avs,hx,he⟩:=Option.map_eq_some_iff.1 hq
    cases he
    obtain ⟨h1,h2⟩:=evs_spec h hx
    have hf : first=#[]:=by simpa using h0
    subst hf
    refine ⟨.func f #[] (caps.map a.eval),by simp [execOp,Instr.makeFunc],?_⟩
    have:=Rel.fn (β:=β) (S:=free Z φ st.o) (w:=w) (f:=f) (caps:=avs) (us:=caps.toList.map a.eval) (by simpa using h1) h2
    have e : caps.map a.eval=(caps.toList.map a.eval).toArray:=by cases caps; simp
    rw [e]; exact this
  . obtain ⟨first⟩:=first
    obtain ⟨caps⟩:=caps
    split at hq
    . rename_i x hf hc'
      split at hq
      . rename_i y hy
        simp only [Option.some.injEq,Prod.mk.injEq] at hq
        obtain ⟨_,rfl⟩:=hq
        have hf : first=[x]:=hf
        have hc' : caps=[]:=hc'
        subst hf hc'
        have hr:=ev_d h hy
        have hr' : ∀ i,i < [y].length->Rd (free Z φ st.o) w ([y].getD i .nilptr) ([a.eval x].getD i Go.undef):=fun i hi => by
         obtain rfl : i=0:=by simpa using hi
         exact hr
        exact ⟨.func f #[a.eval x] #[],by simp [execOp,Instr.makeFunc],.d (.fn (vs:=[a.eval x]) (us:=[]) rfl rfl hr' (by simp))⟩
      . cases hq
    . cases hq
 case call cl =>
  obtain ⟨callee,args,argTypes⟩:=cl
  obtain ⟨args⟩:=args
  obtain ⟨argTypes⟩:=argTypes
  cases callee<;>try (cases hq; done)
  rename_i b
  simp only at hq
  unfold builtinV at hq
  split at hq
  . rename_i x t
    . split at hq
      . rename_i s hx
        simp only [Option.some.injEq,Prod.mk.injEq] at hq
        obtain ⟨rfl,rfl⟩:=hq
        refine ⟨.int .i64 s.size,?_,.d (.int _ _)⟩
        simp [execOp,resolve,invoke,builtin,ev_str h hx,Builtin.len_,run_underlying (isStrT_spec hc),goInt]
      . rename_i _ av _ hx
        split at hq
        . rename_i n hn
          simp only [Option.some.injEq,Prod.mk.injEq] at hq
          obtain ⟨rfl,rfl⟩:=hq
          refine ⟨.int .i64 n,?_,.d (.int _ _)⟩
          obtain ⟨e,he⟩:=Option.isSome_iff_exists.1 hc
          have key : ∃ b c m,a.eval x=.slice b m c∧n=m:=by
           cases av with
           | nilS =>
             simp only [lenV,Option.some.injEq] at hn
             have:=ev_spec h hx
             generalize a.eval x=v at *
             cases this
             exact ⟨_,_,_,rfl,by simpa using hn.symm⟩
           | d y =>
             cases y<;>simp only [lenV,Option.some.injEq,reduceCtorEq] at hn
             rename_i es
             have:=ev_d h hx
             generalize a.eval x=v at *
             cases this with
             | nil => exact ⟨_,_,_,rfl,by simpa using hn.symm⟩
             | slice vs hk hcap hc' hr => exact ⟨_,_,_,rfl,hn.symm⟩
           | sl j =>
             simp only [lenV] at hn
             split at hn
             . rename_i e' k es hj
               cases hn
               rw [ev_sl h hx]
               have hO:=obj_of h hj
               generalize β j=v at *
               cases hO with
               | arr hF xs hk0 hk hw hr =>
                 rcases hw.2 with ⟨h1,h2⟩ | ⟨g,cap,cur,h1,_⟩
                 . exact ⟨_,_,_,h1,by omega⟩
                 . exact ⟨_,_,_,h1,rfl⟩
             . rename_i t' es ho hj
               cases hn
               rw [ev_sl h hx]
               have hO:=obj_of h hj
               generalize β j=v at *
               cases hO with
               | dp hlt hD =>
                 rcases hD with ⟨_,_,rfl,hE⟩ | ⟨e2,k2,xs,fs,_,hR⟩
                 . cases hE<;>exact ⟨_,_,_,rfl,rfl⟩
                 . rcases hR.hw.2 with ⟨h1,h2⟩ | ⟨g,cap,cur,h1,_⟩
                   . exact ⟨_,_,_,h1,by omega⟩
                   . exact ⟨_,_,_,h1,rfl⟩
             . rename_i e' k es vs hj
               cases hn
               rw [ev_sl h hx]
               have hO:=obj_of h hj
               generalize β j=v at *
               cases hO with
               | arw hlt xs hk0 hk hw hbb hr hvv =>
                 rcases hw.2 with ⟨h1,h2⟩ | ⟨g,cap,cur,h1,_⟩
                 . exact ⟨_,_,_,h1,by omega⟩
                 . exact ⟨_,_,_,h1,rfl⟩
             . cases hn
           | vw j q nn k =>
             simp only [lenV,Option.some.injEq] at hn
             subst hn
             have hr:=ev_spec h hx
             generalize a.eval x=vx at *
             cases hr with
             | vw hβ => exact ⟨_,_,_,rfl,rfl⟩
           | sf j k l =>
             simp only [lenV] at hn
             split at hn
             . rename_i e' k' es hj
               cases hn
               have hO:=obj_of h hj
               have hr:=ev_spec h hx
               generalize a.eval x=vx at *
               cases hr with
               | @sf _ _ _ b m cp hβ hl =>
                 rw [hβ] at hO
                 cases hO with
                 | arr hF xs hk0 hk hw hr =>
                   obtain ⟨g,cap,cur,hs,hg,hcap,_⟩:=ownsRow_some hw (by simp)
                   cases hs
                   exact ⟨_,_,_,rfl,rfl⟩
             . cases hn
           | _ => simp [lenV] at hn
          obtain ⟨b,c',m,hv,rfl⟩:=key
          simp [execOp,resolve,invoke,builtin,hv,Builtin.len_,run_underlying (elemSl_spec he),goInt]
        . cases hq
      . cases hq
  . rename_i x y
    . split at hq
      . rename_i k n k' m hx hy
        simp only [Option.some.injEq,Prod.mk.injEq] at hq
        obtain ⟨rfl,rfl⟩:=hq
        refine ⟨.int k (if m > n then m else n),?_,.d (.int _ _)⟩
        simp [execOp,resolve,invoke,builtin,ev_int h hx,ev_int h hy,run_max_int2]
      . cases hq
  . rename_i x y
    . split at hq
      . rename_i k n k' m hx hy
        simp only [Option.some.injEq,Prod.mk.injEq] at hq
        obtain ⟨rfl,rfl⟩:=hq
        refine ⟨.int k (if m < n then m else n),?_,.d (.int _ _)⟩
        simp [execOp,resolve,invoke,builtin,ev_int h hx,ev_int h hy,run_min_int2]
      . cases hq
  . cases hq
end
end Abs
