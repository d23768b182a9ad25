/- The operations that make or change objects: the machine follows their rule. No condition. -/
import Derived.Test.YtiafnejjhnjbfaaDoorAbsRules
set_option linter.all false
namespace Abs
open Go Go.RowKit

section
variable {P : Program} {Z : Nat->Prop} {β : Nat->Value} {φ : Nat->Nat->Prop} {N B : Nat} {M : Nat->Prop} {w0 : World} {st : St} {a : Act} {w : World}

theorem append0_done (h : SimB Z β φ N B M w0 st a w) {o : Oper} {d c st'} {s x : Operand} {t e : TypeId} {ys : List D} (hd : o.dst=some d) (hN : d < N)
 (hop : o.op=.call { callee:=.builtin .append,args:=[s,x].toArray,argTypes:=[t,t].toArray }) (he : elemSl P t=some e) (hnr : noRoomS st s=true) (hx : ev st x=some (.d (.slice ys)))
 (hq : append0 P st s d e ys=some (c,st')) (hc : c) : Done P Z N B M w0 o a w st':=by
 have hu:=elemSl_spec he
 have hs : a.eval s=.slice none 0 0∨∃ ad,a.eval s=.slice (some ad) 0 0:=by
  unfold noRoomS at hnr
  split at hnr
  . exact .inl rfl
  . split at hnr
    . rename_i hev
      have:=ev_spec h hev
      generalize a.eval _=v at *
      cases this with
      | e0n => exact .inl rfl
      | e0s ad => exact .inr ⟨ad,rfl⟩
    . rename_i hev
      have:=ev_spec h hev
      generalize a.eval _=v at *
      cases this; exact .inl rfl
    . cases hnr
 have hxr:=ev_d h hx
 unfold append0 at hq
 split at hq
 . cases hq
   obtain ⟨i,hi,_⟩:=info_of_cells hc
   have hxv : ∃ c a0,a.eval x=.slice a0 0 c:=by
    generalize a.eval x=v at *
    cases hxr with
    | nil a0 => exact ⟨0,a0,rfl⟩
    | slice vs hk hcap hc' hr => exact ⟨_,_,rfl⟩
   obtain ⟨cx,ax,hxv⟩:=hxv
   have hrun : (Builtin.append_ #[t,t] o.type #[a.eval s,a.eval x]).run P w=.ok (a.eval s) w:=by
    rcases hs with hs | ⟨ad,hs⟩<;>rw [hs,hxv]<;>cases ax <;>
     simp [Builtin.append_,run_underlying hu,Go.sizeOf,typeInfo,hi,Builtin.lenOf,Builtin.firstCells,loadCells,loadCellsFrom,storeCells]
   refine Done.value (v:=a.eval s) (w':=w) (by simp [execOp,hop,resolve,invoke,builtin,hrun]) ?_
   rw [hd]
   refine ⟨β,φ,h.put (dst:=some d) (fun _ e => by cases e; exact hN) ?_⟩
   unfold emptyAV
   split
   . rcases hs with hs | ⟨ad,hs⟩<;>rw [hs]
     . exact .e0n
     . exact .e0s ad
   . rcases hs with hs | ⟨ad,hs⟩<;>rw [hs]
     . exact .d (.nil _)
     . exact .d (.nil _)
 . rename_i y r
   cases hq
   obtain ⟨hys,hk0,hlen,hbytes,hz,hzk⟩:=hc
   obtain ⟨z,hz⟩:=Option.isSome_iff_exists.1 hz
   obtain ⟨i,zv,hi,hiz,hzr⟩:=zeroD_spec hz
   have hzk:=hzk z hz
   have hisz : i.size=P.cellsOf e:=by simp [Program.cellsOf,hi]
   have hiby : i.bytes=P.bytesOf e:=by simp [Program.bytesOf,hi]
   have hzsz : zv.cells.size=P.cellsOf e:=by
    have:=(rd_cells (hzr (fun _ => True) w)).1
    simpa [hzk] using this
   have fl:=flat_length (es:=y :: r) (k:=P.cellsOf e) fun z hz => (hys z hz).1
   generalize hxv : a.eval x=v at *
   cases hxr with
   | slice vs hk' hcap hc' hr' =>
     rename_i b off cap kk
     have hnews : ∀ j u,((List.range ((y :: r).length * P.cellsOf e)).map vs)[j]? = some u->w.cell? ((⟨b,off,none⟩ : Addr).add j)=some u:=fun j u hu => by
      have hlt : j < (y :: r).length * P.cellsOf e:=by
       have:=(List.getElem?_eq_some_iff.1 hu).1; simpa using this
      have hu' : vs j=u:=by rw [List.getElem?_map,List.getElem?_range hlt] at hu; simpa using hu
      subst hu'
      rw [add_eq]; exact (hc' j (by omega)).2
     have hlen' : (((y :: r).length : Nat) : Int)<=9223372036854775807:=by unfold maxLen at hlen; omega
     have hrun : ∃ cap' cells,(Builtin.append_ #[t,t] o.type #[a.eval s,.slice (some ⟨b,off,none⟩) (y :: r).length cap]).run P w =
      .ok (.slice (some ⟨w.heap.size,0,none⟩) (y :: r).length cap') (w.drew.alloc (.cells cells e))∧(y :: r).length<=cap'∧cap'<=maxLen∧cells.size=cap' * P.cellsOf e ∧
      cells.toList.take ((y :: r).length * P.cellsOf e)=(List.range ((y :: r).length * P.cellsOf e)).map vs:=by
      have hshape : ∀ n,(y :: r).length<=n->(((List.range ((y :: r).length * P.cellsOf e)).map vs).toArray++Builtin.zeroCells zv.cells (n - (y :: r).length)).size=n * P.cellsOf e:=fun n hn => by
       simp only [Array.size_append,List.size_toArray,List.length_map,List.length_range,size_zeroCells,hzsz]
       rw [← Nat.add_mul]; congr 1; omega
      rcases hs with hs | ⟨ad',hs⟩
      . have e1:=run_append_nil (P:=P) w t o.type e i zv hu hi hiz ⟨b,off,none⟩ (y :: r).length cap ((List.range ((y :: r).length * P.cellsOf e)).map vs) (by simp [hisz]) hnews (by simp) hlen'
         (by rw [hiby]; omega)
        rw [hs]
        refine ⟨_,_,e1,grownCap_ge _ _ _ _,grownCap_le_maxLen _ _ _ _ hlen,hshape _ (grownCap_ge _ _ _ _),?_⟩
        rw [Array.toList_append,List.take_left' (by simp)]
      . have e1:=run_append_grow (P:=P) w t o.type e i zv hu hi hiz ad' 0 0 [] (by simp) (by simp) ⟨b,off,none⟩ (y :: r).length cap ((List.range ((y :: r).length * P.cellsOf e)).map vs) (by simp [hisz]) hnews (by simp)
         (by simpa using hlen') (by rw [hiby]; exact growslice_fits (by simp) (by simpa using hbytes))
        rw [hs]
        simp only [Nat.zero_add] at e1
        refine ⟨_,_,e1,grownCap_ge _ _ _ _,grownCap_le_maxLen _ _ _ _ hlen,?_,?_⟩
        . simpa using hshape _ (grownCap_ge w (y :: r).length 0 e)
        . simp only [List.nil_append,Array.toList_append,Array.empty_append]
          rw [List.take_left' (by simp)]
     obtain ⟨cap',cells,hrun,h1,h2,h3,h4⟩:=hrun
     have hg : Gb w (w.drew.alloc (.cells cells e)) none:=⟨⟨rfl,rfl,rfl,by simp,fun k hk _ => (World.grownBy_alloc w.drew _ none).block k hk (by simp)⟩,dr_mono (Nat.le_succ _)⟩
     have hop' : (execOp a.eval o).run P w=((Builtin.append_ #[t,t] o.type #[a.eval s,a.eval x]).run P w).andThen fun v w => .ok (.value v) w:=by simp [execOp,hop,resolve,invoke,builtin]
     refine Done.value (v:=.slice (some ⟨w.heap.size,0,none⟩) (y :: r).length cap') (w':=w.drew.alloc (.cells cells e)) (by rw [hop',hxv,hrun]; rfl) ?_
     rw [hd]
     refine h.newPut (hd:=.slice (some ⟨w.heap.size,0,none⟩) (y :: r).length cap') hN hg (by simp [Value.ownBlock]) (fun β' S' m1 m2 => ?_) (fun β' S' e => by rw [← e]; exact .sl _)
     refine .arr rfl ((List.range ((y :: r).length * P.cellsOf e)).map vs) hk0 (fun z hz => (hys z hz).1) ⟨by simp,.inr ⟨w.heap.size,cap',cells,rfl,Nat.zero_le _,heap_alloc_new w.drew _,h1,h2,h3,h4⟩⟩ fun ii hii => ?_
     have hlt : ii < (y :: r).length * P.cellsOf e:=by omega
     have:=m2 _ _ (hr' ii hii)
     have e : ((List.range ((y :: r).length * P.cellsOf e)).map vs).getD ii Go.undef=vs ii:=by rw [List.getD_eq_getElem?_getD,List.getElem?_map,List.getElem?_range hlt]; rfl
     rw [e]; exact this

theorem run_append_own2 {t rt e : TypeId} {i : TypeInfo} {zv : Value} (hu : P.underlying t=some (.slice e)) (hi : P.info? e=some i) (hiz : i.zero=some zv) (hisz : i.size=P.cellsOf e) (hiby : i.bytes=P.bytesOf e)
 (hzsz : zv.cells.size=P.cellsOf e) (hk0 : 0 < P.cellsOf e) {v : Value} {n : Nat} {xs : List Value} (hw : w.ownsRow 0 e (P.cellsOf e) v n xs) {ad : Addr} {m cp : Nat} {news : List Value} (hnl : news.length=m * P.cellsOf e)
 (hnc : ∀ jj u,news[jj]? = some u->w.cell? (ad.add jj)=some u) (hn1 : ∀ u ∈ news,u.oneCell'=true) (hlen : n + m<=maxLen) (hbytes : (n + m) * P.bytesOf e<=140737488355328) :
 ∃ v' w' row,(Builtin.append_ #[t,t] rt #[v,.slice (some ad) m cp]).run P w=.ok v' w'∧w'.ownsRow 0 e (P.cellsOf e) v' (n + m) (xs++news)∧Gb w w' row∧(∀ g,row=some g->v.ownBlock=some g) ∧
  ∀ g,v'.ownBlock=some g->w.heap.size<=g∨v.ownBlock=some g:=by
 obtain ⟨v',w',hrun,hown,hgrow,hnil⟩:=run_append_own (P:=P) w 0 t rt e i zv (P.cellsOf e) (P.bytesOf e) hu hi hiz hisz hiby hzsz hk0 v n xs hw
  ad m cp news hnl hnc hn1 hlen hbytes (Nat.zero_le _)
 refine ⟨v',w',_,hrun,by simpa using hown,⟨hgrow,dr_mono (run_drawn _ hrun)⟩,fun g hg => hg,fun g hg => ?_⟩
 rcases hw.2 with ⟨h1,h2⟩ | ⟨g0,cap,cur,h1,_,hg0,hnc0,hrest⟩
 . by_cases hm : m=0
   . rw [hnil.2 ⟨h1,hm⟩] at hg; cases hg
   . have e1:=run_append_nil (P:=P) w t rt e i zv hu hi hiz ad m cp news (by rw [hisz]; exact hnl) hnc (by omega) (by unfold maxLen at hlen; omega)
      (by rw [hiby]; have : m * P.bytesOf e<=(n + m) * P.bytesOf e:=Nat.mul_le_mul_right _ (by omega); omega)
     rw [h1] at hrun
     have e2:=hrun.symm.trans e1
     injection e2 with e3 e4
     rw [e3] at hg; cases hg; exact .inl (Nat.le_refl _)
 . by_cases hroom : n + m<=cap
   . have hfit : n * i.size + news.length<=cur.size:=by
      rw [hnl,hisz,hrest.2.1,← Nat.add_mul]; exact Nat.mul_le_mul_right _ hroom
     have e1:=run_append_room (P:=P) w t rt e i hu hi g0 n cap cur hg0 ad m cp news (by rw [hisz]; exact hnl) hnc hn1 hroom hfit
     rw [h1] at hrun
     have e2:=hrun.symm.trans e1
     injection e2 with e3 e4
     rw [e3] at hg; rw [h1]; exact .inr hg
   . have e1:=run_append_grow (P:=P) w t rt e i zv hu hi hiz ⟨g0,0,none⟩ n cap xs (by rw [hisz]; exact hw.1) (hw.cells (g:=g0) (by rw [h1]; rfl)) ad m cp news
      (by rw [hisz]; exact hnl) hnc (by omega) (by unfold maxLen at hlen; omega) (by rw [hiby]; exact growslice_fits (by omega) hbytes)
     rw [h1] at hrun
     have e2:=hrun.symm.trans e1
     injection e2 with e3 e4
     rw [e3] at hg; cases hg; exact .inl (Nat.le_refl _)

theorem run_append_kept {t rt e : TypeId} {i : TypeInfo} {zv : Value} (hu : P.underlying t=some (.slice e)) (hi : P.info? e=some i) (hiz : i.zero=some zv) (hisz : i.size=P.cellsOf e) (hiby : i.bytes=P.bytesOf e)
 (hk0 : 0 < P.cellsOf e) {v : Value} {n : Nat} {xs : List Value} (hw : w.ownsRow 0 e (P.cellsOf e) v n xs) {ad : Addr} {m cp : Nat} {news : List Value} (hnl : news.length=m * P.cellsOf e)
 (hnc : ∀ jj u,news[jj]? = some u->w.cell? (ad.add jj)=some u) (hn1 : ∀ u ∈ news,u.oneCell'=true) (hlen : n + m<=maxLen) (hbytes : (n + m) * P.bytesOf e<=140737488355328)
 {v' : Value} {w' : World} (hrun : (Builtin.append_ #[t,t] rt #[v,.slice (some ad) m cp]).run P w=.ok v' w') (hown : w'.ownsRow 0 e (P.cellsOf e) v' (n + m) (xs++news)) :
 ∀ b,v.ownBlock=some b->∀ q,q < n * P.cellsOf e->w'.cell? ⟨b,q,none⟩=some (xs.getD q Go.undef):=fun b hb q hq => by
 have hxl:=hw.1
 rcases hw.2 with ⟨h1,h2⟩ | ⟨g0,cap,cur,h1,_,hg0,hnc0,hrest⟩
 . rw [h1] at hb; cases hb
 . rw [h1] at hb; cases hb
   by_cases hroom : n + m<=cap
   . have hfit : n * i.size + news.length<=cur.size:=by
      rw [hnl,hisz,hrest.2.1,← Nat.add_mul]; exact Nat.mul_le_mul_right _ hroom
     have e1:=run_append_room (P:=P) w t rt e i hu hi g0 n cap cur hg0 ad m cp news (by rw [hisz]; exact hnl) hnc hn1 hroom hfit
     rw [h1] at hrun
     have e2:=hrun.symm.trans e1
     injection e2 with e3 e4
     rw [e3] at hown
     have:=ownsRow_cell hown rfl (i:=q) (by simp; omega)
     rw [this,List.getD_eq_getElem?_getD,List.getElem?_append_left (by omega),← List.getD_eq_getElem?_getD]
   . have e1:=run_append_grow (P:=P) w t rt e i zv hu hi hiz ⟨g0,0,none⟩ n cap xs (by rw [hisz]; exact hw.1) (hw.cells (g:=g0) (by rw [h1]; rfl)) ad m cp news
      (by rw [hisz]; exact hnl) hnc (by omega) (by unfold maxLen at hlen; omega) (by rw [hiby]; exact growslice_fits (by omega) hbytes)
     rw [h1] at hrun
     have e2:=hrun.symm.trans e1
     injection e2 with e3 e4
     have hlt : g0 < w.heap.size:=(Array.getElem?_eq_some_iff.1 hg0).1
     have hkeep : w'.heap[g0]? = w.heap[g0]? := by
      rw [e4]; exact (World.grownBy_alloc w.drew _ none).block g0 (by simpa using hlt) (by simp)
     rw [World.cell?_of_block hkeep]
     exact ownsRow_cell hw (by rw [h1]; rfl) (by omega)
theorem appendD_done (h : SimB Z β φ N B M w0 st a w) {o : Oper} {d j : Nat} {c st'} {s x : Operand} {t e : TypeId} (hd : o.dst=some d) (hN : d < N)
 (hop : o.op=.call { callee:=.builtin .append,args:=[s,x].toArray,argTypes:=[t,t].toArray }) (he : elemSl P t=some e) (hs : ev st s=some (.sl j))
 (hq : appendD P st d e j x=some (c,st')) (hc : c) : Done P Z N B M w0 o a w st':=by
 have hu:=elemSl_spec he
 have hsv:=ev_sl h hs
 unfold appendD at hq
 split at hq
 . rename_i e' k es st1 hdeep
   obtain ⟨φ1,h1,hj⟩:=deepAt_spec h hdeep
   split at hq
   . rename_i i hx
     split at hq
     . cases hq
     . rename_i hij
       split at hq
       . rename_i c1 ys hob
         cases hq
         obtain ⟨rfl,rfl,hc1,hky,hlen,hbytes,hz,hzk⟩:=hc
         obtain ⟨ob,hob,heat⟩:=Option.bind_eq_some_iff.1 hob
         obtain ⟨z,hz⟩:=Option.isSome_iff_exists.1 hz
         obtain ⟨ti,zv,hi,hiz,hzr⟩:=zeroD_spec hz
         have hzk:=hzk z hz
         have hisz : ti.size=P.cellsOf e':=by simp [Program.cellsOf,hi]
         have hiby : ti.bytes=P.bytesOf e':=by simp [Program.bytesOf,hi]
         have hzsz : zv.cells.size=P.cellsOf e':=by
          have:=(rd_cells (hzr (fun _ => True) w)).1
          simpa [hzk] using this
         have hxv:=ev_sl h1 hx
         have hOi:=h1.objs i ob hob
         have hDi:=eatOf_spec hOi heat hc1
         have hlti : ∀ g,φ1 i g->g < w.heap.size:=fun g hg => hOi.block_lt hg
         have hex : ∀ g,φ1 i g->¬ φ1 j g:=fun g hg hg' => hij (h1.disj i j ob _ g hob hj hg hg')
         have hOj:=h1.objs j _ hj
         have hltj : ∀ g,φ1 j g->g < w.heap.size:=fun g hg => hOj.block_lt hg
         obtain ⟨xs,fs,hR⟩ : ∃ xs fs,DpR β w e' (P.cellsOf e') es none (β j) (φ1 j) xs fs:=by
          cases hOj with
          | dp _ hD =>
            rcases hD with ⟨h2,_⟩ | ⟨e2,k2,xs,fs,ht,hR⟩
            . cases h2
            . rcases ht with ht | ht
              . cases ht
              . cases ht; exact ⟨xs,fs,hR⟩
         have fin : ∀ {v' w' row},(Builtin.append_ #[t,t] o.type #[β j,a.eval x]).run P w=.ok v' w'->Gb w w' row->(∀ g,row=some g->(β j).ownBlock=some g) ->
          (∀ g,v'.ownBlock=some g->w.heap.size<=g∨(β j).ownBlock=some g)->(∀ g,v'.ownBlock=some g->g < w'.heap.size) ->
          (∃ xs' fs',DpR (upd β j v') w' e' (P.cellsOf e') (es++ys) none v' (fun g => v'.ownBlock=some g∨φ1 j g∨φ1 i g) xs' fs') ->
          Done P Z N B M w0 o a w ⟨ins d (.sl j) (wipeS j (st1.kill i).s),ins j (.dp (some (e',P.cellsOf e')) (es++ys) none) (wipeO j (st1.kill i).o)⟩:=by
          intro v' w' row hrun hgrow hrow hv' hlt' ⟨xs',fs',hR'⟩
          refine Done.value (v:=v') (w':=w') (by simp [execOp,hop,resolve,invoke,builtin,hsv,hrun]) ?_
          have hjj : ∀ b,(β j).ownBlock=some b->φ1 j b:=fun b hb => (hR.hb b hb).1
          have hsim : SimB Z (upd β j v') (updF φ1 j (fun g => v'.ownBlock=some g∨φ1 j g∨φ1 i g)) N B M w0 ⟨wipeS j (st1.kill i).s,ins j (.dp (some (e',P.cellsOf e')) (es++ys) none) (wipeO j (st1.kill i).o)⟩ a w':=by
           refine h1.regroup (fun q => q=j∨q=i) (fun q => q=j) hgrow.os hgrow.tape hgrow.output hgrow.size hgrow.drawn (fun g hlt hn => hgrow.block g hlt fun eg => hn j _ (.inl rfl) hj rfl (hjj g (hrow g eg.symm))) (fun q av hq => ?_) (fun q ob' hq => ?_) (fun q q' g hq hq' _ _ => hq.trans hq'.symm)
           . obtain ⟨h2,h3⟩:=lk_wipeS hq
             rcases h3 with h3 | h3
             . exact .inl h3
             . obtain ⟨_,h5⟩:=lk_wipeS h3
               exact h5.imp id fun h5 => ⟨h5,fun _ hr => hr.other upd_ne h2⟩
           . rw [lk_ins] at hq
             split at hq
             . rename_i eq
               subst eq; cases hq
               refine .inr ⟨rfl,fun g hg => ?_,fun S' _ => ?_⟩
               . rw [updF_eq] at hg
                 rcases hg with hg | hg | hg
                 . rcases hv' g hg with h2 | h2
                   . exact .inl h2
                   . exact .inr ⟨q,_,.inl rfl,hj,rfl,hjj g h2⟩
                 . exact .inr ⟨q,_,.inl rfl,hj,rfl,hg⟩
                 . exact .inr ⟨i,_,.inr rfl,hob,eatOf_res heat,hg⟩
               . rw [upd_eq,updF_eq]
                 refine .dp (fun g hg => ?_) (.inr ⟨_,_,xs',fs',.inr rfl,hR'⟩)
                 rcases hg with hg | hg | hg
                 . exact hlt' g hg
                 . exact Nat.lt_of_lt_of_le (hltj g hg) hgrow.size
                 . exact Nat.lt_of_lt_of_le (hlti g hg) hgrow.size
             . rename_i hne
               obtain ⟨h2,y,h3,rfl⟩:=lk_wipeO hq
               obtain ⟨h4,y',h5,rfl⟩:=lk_wipeO h3
               exact .inl ⟨by rintro (h6 | h6); exact hne h6; exact h4 h6,updF_ne q hne,upd_ne q hne,y',h5,(wipe_res.trans wipe_res).symm,fun S w v F hO => (hO.wipe fun _ _ => rfl).wipe upd_ne⟩
          rw [hd]
          refine ⟨_,_,hsim.put (dst:=some d) (fun _ e => by cases e; exact hN) ?_⟩
          have:=Rel.sl (β:=upd β j v') (S:=free Z (updF φ1 j (fun g => v'.ownBlock=some g∨φ1 j g∨φ1 i g)) (ins j (.dp (some (e',P.cellsOf e')) (es++ys) none) (wipeO j (st1.kill i).o))) (w:=w') j
          rwa [upd_eq] at this
         have go : ∀ (ad : Addr) (cp : Nat) (news : List Value) (gs : Nat->Nat->Prop),a.eval x=.slice (some ad) ys.length cp->news.length=ys.length * P.cellsOf e'->(∀ jj u,news[jj]? = some u->w.cell? (ad.add jj)=some u)->(∀ u ∈ news,u.oneCell'=true) ->
          (∀ c,c < (flat ys).length->Dp w ((flat ys).getD c .nilptr) (news.getD c Go.undef) (gs c))->(∀ c c' g,gs c g->gs c' g->c=c')->(∀ c g,gs c g->φ1 i g) ->
          Done P Z N B M w0 o a w ⟨ins d (.sl j) (wipeS j (st1.kill i).s),ins j (.dp (some (e',P.cellsOf e')) (es++ys) none) (wipeO j (st1.kill i).o)⟩:=by
          intro ad cp news gs hxv hnl hnc hn1 hgs hgd hgi
          obtain ⟨v',w',row,hrun,hown,hgrow,hrow,hv'⟩:=run_append_own2 (P:=P) (rt:=o.type) hu hi hiz hisz hiby hzsz hR.hk0 hR.hw hnl hnc hn1 hlen hbytes
          refine fin (by rw [hxv]; exact hrun) hgrow hrow hv' (fun g hg => (hown.lt g hg).2) ⟨_,_,hR.app hky hnl hown (fun g hlt hn => hgrow.block g hlt fun eg => hn (hrow g eg.symm)) hv' hltj (fun c g hg => hlti g (hgi c g hg)) hgs hgd
           (fun c g hg => hex g (hgi c g hg)) (fun g hg => .inl hg) (fun g hg => .inr (.inl hg)) (fun c g hg => .inr (.inr (hgi c g hg)))⟩
         have none' : a.eval x=.slice none 0 0->ys=[]->Done P Z N B M w0 o a w ⟨ins d (.sl j) (wipeS j (st1.kill i).s),ins j (.dp (some (e',P.cellsOf e')) (es++ys) none) (wipeO j (st1.kill i).o)⟩:=by
          rintro hxv rfl
          have:=run_append_owned_none (P:=P) w 0 t o.type e' ti (P.cellsOf e') hu hi (β j) es.length xs hR.hw
          refine fin (v':=β j) (w':=w) (row:=none) (by rw [hxv]; exact this) (Gb.refl _ _) (by simp) (fun g hg => .inr hg) (fun g hg => (hR.hw.lt g hg).2) ⟨xs,fs,?_⟩
          rw [List.append_nil]
          have h2:=hR.mono (F':=fun g => (β j).ownBlock=some g∨φ1 j g∨φ1 i g) fun g hg => .inr (.inl hg)
          exact { h2 with hh:=fun _ _ h => by cases h }
         rw [← hxv] at hDi
         generalize hxg : a.eval x=vx at *
         cases hDi with
         | nil _ _ hE =>
           cases hE with
           | nil a0 => cases a0 with
             | none => exact none' rfl rfl
             | some ad => exact go ad 0 [] (fun _ _ => False) rfl (by simp) (by simp) (by simp) (by simp [flat]) (by simp) (by simp)
           | some b off cp => exact go ⟨b,off,none⟩ cp [] (fun _ _ => False) rfl (by simp) (by simp) (by simp) (by simp [flat]) (by simp) (by simp)
         | slice xs2 fs2 hk02 hk2 hw2 hb2 hf2 hd2 hr2 =>
           have fly:=flat_length hky
           rcases hw2.2 with ⟨h2,h3⟩ | ⟨g,cap,cur,h2,_⟩
           . exact none' h2 (List.eq_nil_of_length_eq_zero h3)
           . subst h2
             have hx2l : xs2.length=(flat ys).length:=by rw [flat_length hk2,hw2.1]
             refine go ⟨g,0,none⟩ cap xs2 fs2 rfl (by omega) (fun jj u hu => ?_) (fun u hu => ?_) hr2 hd2 (fun c g hg => hf2 c g hg)
             . obtain ⟨hlt,hu⟩:=List.getElem?_eq_some_iff.1 hu
               rw [add_eq,Nat.zero_add,ownsRow_cell hw2 rfl hlt]; simp [List.getD_eq_getElem?_getD,hlt,hu]
             . obtain ⟨q,hq,rfl⟩:=List.getElem_of_mem hu
               have:=hr2 q (by omega)
               simp only [List.getD_eq_getElem?_getD,List.getElem?_eq_getElem hq,Option.getD_some] at this
               exact this.one
       . cases hq
   . cases hq
 . cases hq

theorem run_append_any {t rt e e0 : TypeId} {i : TypeInfo} {zv : Value} (hu : P.underlying t=some (.slice e)) (hi : P.info? e=some i) (hiz : i.zero=some zv) (hisz : i.size=1) (hiby : i.bytes=P.bytesOf e)
 (hzsz : zv.cells.size=1) {v : Value} {n : Nat} {xs : List Value} (hn : v ≠ .slice none 0 0) (hw : w.ownsRow 0 e0 1 v n xs) {ad : Addr} {m cp : Nat} {news : List Value} (hnl : news.length=m)
 (hnc : ∀ jj u,news[jj]? = some u->w.cell? (ad.add jj)=some u) (hn1 : ∀ u ∈ news,u.oneCell'=true) (hlen : n + m<=maxLen) (hbytes : (n + m) * P.bytesOf e<=140737488355328) :
 ∃ v' w' row e',(Builtin.append_ #[t,t] rt #[v,.slice (some ad) m cp]).run P w=.ok v' w'∧w'.ownsRow 0 e' 1 v' (n + m) (xs++news)∧Gb w w' row∧(∀ g,row=some g->v.ownBlock=some g) ∧
  ∀ g,v'.ownBlock=some g->w.heap.size<=g∨v.ownBlock=some g:=by
 rcases hw.2 with ⟨h1,h2⟩ | ⟨g,cap,cur,rfl,hbg,hg,hnc0,hcm,hcs,htake⟩
 . exact absurd h1 hn
 . have hxl : xs.length=n:=by simpa using hw.1
   by_cases hroom : n + m<=cap
   . have hst:=run_storeCells_at P g n e0 news 0 cur w hg (by omega) hn1
     simp only [Nat.add_zero] at hst
     have hf:=run_firstCells_some (P:=P) w i.size m ad m cp news (by rw [hisz]; omega) hnc
     have hrun : (Builtin.append_ #[t,t] rt #[.slice (some ⟨g,0,none⟩) n cap,.slice (some ad) m cp]).run P w=.ok (.slice (some ⟨g,0,none⟩) (n + m) cap) (w.setRow g (cur.toList.take n++news++cur.toList.drop (n + news.length)).toArray):=by
      rw [hisz] at hf
      simp [Builtin.append_,run_underlying hu,Go.sizeOf,typeInfo,hi,hisz,Builtin.lenOf,hroom,hf,Addr.add_lit,hst]
     refine ⟨_,_,some g,e0,hrun,⟨by simp; omega,.inr ⟨g,cap,_,rfl,hbg,setRow_heap w g cur _ e0 _ hg,hroom,hcm,?_,?_⟩⟩,⟨⟨rfl,rfl,rfl,by simp,fun k _ hk => setRow_other w g k _ (fun e => hk (by simp [e]))⟩,(dr_mono (run_drawn _ hrun))⟩,fun g' h => by cases h; rfl,fun g' h => .inr h⟩
     . simp only [List.size_toArray,List.length_append,List.length_take,List.length_drop,Array.length_toList]; omega
     . simp only [Nat.mul_one] at htake ⊢
       rw [htake]; exact List.take_left' (by simp; omega)
   . obtain ⟨v',w',hrun,hown,hgrow⟩:=run_append_arg_grows (P:=P) w t rt e i zv 1 (P.bytesOf e) hu hi hiz hisz hiby hzsz (by decide) ⟨g,0,none⟩ n cap xs (by omega) (hw.cells (g:=g) rfl) ad m cp news (by omega) hnc (by omega) hlen hbytes
     refine ⟨v',w',none,e,hrun,⟨hown.1,?_⟩,⟨hgrow,dr_mono (run_drawn _ hrun)⟩,by simp,fun g' h => .inl (hown.lt g' h).1⟩
     rcases hown.2 with h | ⟨g2,cap2,cur2,e1,_,rest⟩
     . exact .inl h
     . exact .inr ⟨g2,cap2,cur2,e1,Nat.zero_le _,rest⟩
theorem run_append_bare {t rt e : TypeId} {i : TypeInfo} {zv : Value} (hu : P.underlying t=some (.slice e)) (hi : P.info? e=some i) (hiz : i.zero=some zv) (hisz : i.size=1) (hiby : i.bytes=P.bytesOf e)
 (hzsz : zv.cells.size=1) (a0 : Option Addr) {ad : Addr} {m cp : Nat} {news : List Value} (hm : 0 < m) (hnl : news.length=m)
 (hnc : ∀ jj u,news[jj]? = some u->w.cell? (ad.add jj)=some u) (hn1 : ∀ u ∈ news,u.oneCell'=true) (hlen : m<=maxLen) (hbytes : m * P.bytesOf e<=140737488355328) :
 ∃ v' w',(Builtin.append_ #[t,t] rt #[.slice a0 0 0,.slice (some ad) m cp]).run P w=.ok v' w'∧w'.ownsRow w.heap.size e 1 v' m news∧Gb w w' none:=by
 cases a0 with
 | none =>
   obtain ⟨v',w',hrun,hown,hgrow,_⟩:=run_append_own (P:=P) w w.heap.size t rt e i zv 1 (P.bytesOf e) hu hi hiz hisz hiby hzsz (by decide) (.slice none 0 0) 0 [] (World.ownsRow_nil w _ e 1) ad m cp news (by omega) hnc hn1 (by omega) (by rw [Nat.zero_add]; exact hbytes) (Nat.le_refl _)
   exact ⟨v',w',hrun,by simpa using hown,hgrow,dr_mono (run_drawn _ hrun)⟩
 | some b =>
   obtain ⟨v',w',hrun,hown,hgrow⟩:=run_append_arg_grows (P:=P) w t rt e i zv 1 (P.bytesOf e) hu hi hiz hisz hiby hzsz (by decide) b 0 0 [] rfl (by simp) ad m cp news (by omega) hnc (by omega) (by omega) (by rw [Nat.zero_add]; exact hbytes)
   exact ⟨v',w',hrun,by simpa using hown,hgrow,dr_mono (run_drawn _ hrun)⟩
theorem append1_done (h : SimB Z β φ N B M w0 st a w) {o : Oper} {d j : Nat} {c st'} {s x : Operand} {t e : TypeId} {es : List D} (hd : o.dst=some d) (hN : d < N)
 (hop : o.op=.call { callee:=.builtin .append,args:=[s,x].toArray,argTypes:=[t,t].toArray }) (he : elemSl P t=some e) (hs : ev st s=some (.sl j)) (hj : lk j st.o=some (.d1 es))
 (hq : append1 P st d e j x es=some (c,st')) (hc : c) : Done P Z N B M w0 o a w st':=by
 have hu:=elemSl_spec he
 have hsv:=ev_sl h hs
 unfold append1 at hq
 split at hq
 . rename_i i hx
   split at hq
   . cases hq
   . rename_i hij
     split at hq
     . rename_i c1 ys hob
       cases hq
       obtain ⟨hce,hc1,hys0,hke,hky,hlen,hbytes,hz,hzk⟩:=hc
       obtain ⟨ob,hob,heat⟩:=Option.bind_eq_some_iff.1 hob
       obtain ⟨z,hz⟩:=Option.isSome_iff_exists.1 hz
       obtain ⟨ti,zv,hi,hiz,hzr⟩:=zeroD_spec hz
       have hzk:=hzk z hz
       have hisz : ti.size=1:=by rw [← hce]; simp [Program.cellsOf,hi]
       have hiby : ti.bytes=P.bytesOf e:=by simp [Program.bytesOf,hi]
       have hzsz : zv.cells.size=1:=by
        have:=(rd_cells (hzr (fun _ => True) w)).1
        simpa [hzk] using this
       have hxv:=ev_sl h hx
       have hOi:=h.objs i ob hob
       have hDi:=eatOf_spec hOi heat hc1
       have hlti : ∀ g,φ i g->g < w.heap.size:=fun g hg => hOi.block_lt hg
       have hex : ∀ g,φ i g->¬ φ j g:=fun g hg hg' => hij (h.disj i j ob _ g hob hj hg hg')
       have hOj:=h.objs j _ hj
       have hltj : ∀ g,φ j g->g < w.heap.size:=fun g hg => hOj.block_lt hg
       have fly:=flat_length hky
       have hfa : flat (es++ys)=flat es++flat ys:=by simp [flat]
       -- what is appended
       obtain ⟨ad,cp,news,gs,hxs,hnl,hnc,hn1,hgs,hgd,hgi⟩ : ∃ (ad : Addr) (cp : Nat) (news : List Value) (gs : Nat->Nat->Prop),a.eval x=.slice (some ad) ys.length cp∧news.length=ys.length∧(∀ jj u,news[jj]? = some u->w.cell? (ad.add jj)=some u)∧(∀ u ∈ news,u.oneCell'=true) ∧
        (∀ c,c < (flat ys).length->Dp w ((flat ys).getD c .nilptr) (news.getD c Go.undef) (gs c))∧(∀ c c' g,gs c g->gs c' g->c=c')∧(∀ c g,gs c g->φ i g):=by
        rw [← hxv] at hDi
        generalize a.eval x=vx at *
        cases hDi with
        | nil _ _ hE => simp at hys0
        | slice xs2 fs2 hk02 hk2 hw2 hb2 hf2 hd2 hr2 =>
          rcases hw2.2 with ⟨h2,h3⟩ | ⟨g,cap,cur,h2,_⟩
          . omega
          . subst h2
            have hx2l : xs2.length=(flat ys).length:=by rw [flat_length hk2,hw2.1]
            refine ⟨⟨g,0,none⟩,cap,xs2,fs2,rfl,by omega,fun jj u hu => ?_,fun u hu => ?_,hr2,hd2,fun c g hg => hf2 c g hg⟩
            . obtain ⟨hlt,hu⟩:=List.getElem?_eq_some_iff.1 hu
              rw [add_eq,Nat.zero_add,ownsRow_cell hw2 rfl hlt]; simp [List.getD_eq_getElem?_getD,hlt,hu]
            . obtain ⟨q,hq,rfl⟩:=List.getElem_of_mem hu
              have:=hr2 q (by omega)
              simp only [List.getD_eq_getElem?_getD,List.getElem?_eq_getElem hq,Option.getD_some] at this
              exact this.one
       have fin : ∀ {v' w' row},(Builtin.append_ #[t,t] o.type #[β j,a.eval x]).run P w=.ok v' w'->Gb w w' row->(∀ g,row=some g->φ j g) ->
        (∀ g,v'.ownBlock=some g->w.heap.size<=g∨φ j g)->(∀ g,v'.ownBlock=some g->g < w'.heap.size) ->
        Dp w' (.slice (es++ys)) v' (fun g => v'.ownBlock=some g∨φ j g∨φ i g) ->
        Done P Z N B M w0 o a w ⟨ins d (.sl j) (wipeS j (st.kill i).s),ins j (.d1 (es++ys)) (wipeO j (st.kill i).o)⟩:=by
        intro v' w' row hrun hgrow hrow hv' hlt' hD'
        refine Done.value (v:=v') (w':=w') (by simp [execOp,hop,resolve,invoke,builtin,hsv,hrun]) ?_
        have hsim : SimB Z (upd β j v') (updF φ j (fun g => v'.ownBlock=some g∨φ j g∨φ i g)) N B M w0 ⟨wipeS j (st.kill i).s,ins j (.d1 (es++ys)) (wipeO j (st.kill i).o)⟩ a w':=by
         refine h.regroup (fun q => q=j∨q=i) (fun q => q=j) hgrow.os hgrow.tape hgrow.output hgrow.size hgrow.drawn (fun g hlt hn => hgrow.block g hlt fun eg => hn j _ (.inl rfl) hj rfl (hrow g eg.symm)) (fun q av hq => ?_) (fun q ob' hq => ?_) (fun q q' g hq hq' _ _ => hq.trans hq'.symm)
         . obtain ⟨h2,h3⟩:=lk_wipeS hq
           rcases h3 with h3 | h3
           . exact .inl h3
           . obtain ⟨_,h5⟩:=lk_wipeS h3
             exact h5.imp id fun h5 => ⟨h5,fun _ hr => hr.other upd_ne h2⟩
         . rw [lk_ins] at hq
           split at hq
           . rename_i eq
             subst eq; cases hq
             refine .inr ⟨rfl,fun g hg => ?_,fun S' _ => ?_⟩
             . rw [updF_eq] at hg
               rcases hg with hg | hg | hg
               . rcases hv' g hg with h2 | h2
                 . exact .inl h2
                 . exact .inr ⟨q,_,.inl rfl,hj,rfl,h2⟩
               . exact .inr ⟨q,_,.inl rfl,hj,rfl,hg⟩
               . exact .inr ⟨i,_,.inr rfl,hob,eatOf_res heat,hg⟩
             . rw [upd_eq,updF_eq]
               refine .d1 (fun g hg => ?_) (.sl1 hD' fun e => by simp at e; rw [e.2] at hys0; simp at hys0)
               rcases hg with hg | hg | hg
               . exact hlt' g hg
               . exact Nat.lt_of_lt_of_le (hltj g hg) hgrow.size
               . exact Nat.lt_of_lt_of_le (hlti g hg) hgrow.size
           . rename_i hne
             obtain ⟨h2,y,h3,rfl⟩:=lk_wipeO hq
             obtain ⟨h4,y',h5,rfl⟩:=lk_wipeO h3
             exact .inl ⟨by rintro (h6 | h6); exact hne h6; exact h4 h6,updF_ne q hne,upd_ne q hne,y',h5,(wipe_res.trans wipe_res).symm,fun S w v F hO => (hO.wipe fun _ _ => rfl).wipe upd_ne⟩
        rw [hd]
        refine ⟨_,_,hsim.put (dst:=some d) (fun _ e => by cases e; exact hN) ?_⟩
        have:=Rel.sl (β:=upd β j v') (S:=free Z (updF φ j (fun g => v'.ownBlock=some g∨φ j g∨φ i g)) (ins j (.d1 (es++ys)) (wipeO j (st.kill i).o))) (w:=w') j
        rwa [upd_eq] at this
       have bare : ∀ a0,β j=.slice a0 0 0->es=[]->Done P Z N B M w0 o a w ⟨ins d (.sl j) (wipeS j (st.kill i).s),ins j (.d1 (es++ys)) (wipeO j (st.kill i).o)⟩:=by
        intro a0 hb0 he0
        obtain ⟨v',w',hrun,hown,hgrow⟩:=run_append_bare (P:=P) (rt:=o.type) (w:=w) hu hi hiz hisz hiby hzsz a0 (cp:=cp) hys0 hnl hnc hn1 (by omega) (Nat.le_trans (Nat.mul_le_mul_right _ (by omega)) hbytes)
        refine fin (by rw [hb0,hxs]; exact hrun) hgrow (by simp) (fun g hg => .inl (hown.lt g hg).1) (fun g hg => (hown.lt g hg).2) ?_
        rw [he0,List.nil_append]
        have hown0 : w'.ownsRow 0 e 1 v' ys.length news:=by
         refine ⟨by omega,?_⟩
         rcases hown.2 with h | ⟨g2,cap2,cur2,e1,_,rest⟩
         . exact .inl h
         . exact .inr ⟨g2,cap2,cur2,e1,Nat.zero_le _,rest⟩
        refine .slice news gs (by decide) hky hown0 (fun b hb => ⟨.inl hb,fun c hg => ?_⟩) (fun c g hg => .inr (.inr (hgi c g hg))) hgd fun c hc => ?_
        . have:=(hown.lt b hb).1; have:=hlti _ (hgi c b hg); omega
        . exact (hgs c hc).move fun g hg hlt => hgrow.block g hlt (by simp)
       cases hOj with
       | d1 hlt0 hDj =>
         cases hDj with
         | sl1 hDj h0 =>
           -- a row that is there
           have row : ∀ (e0 : TypeId) (xs : List Value) (fs : Nat->Nat->Prop),w.ownsRow 0 e0 1 (β j) es.length xs->β j ≠ .slice none 0 0->(∀ x ∈ es,x.cells.length=1)->(∀ b,(β j).ownBlock=some b->φ j b∧∀ i,¬ fs i b)->(∀ i g,fs i g->φ j g) ->
            (∀ i i' g,fs i g->fs i' g->i=i')->(∀ i,i < (flat es).length->Dp w ((flat es).getD i .nilptr) (xs.getD i Go.undef) (fs i)) ->
            Done P Z N B M w0 o a w ⟨ins d (.sl j) (wipeS j (st.kill i).s),ins j (.d1 (es++ys)) (wipeO j (st.kill i).o)⟩:=by
            intro e0 xs fs hw hne hk hb hf hdj hr
            have fle:=flat_length hk
            have hxl:=hw.1
            obtain ⟨v',w',row,e',hrun,hown,hgrow,hrow,hv'⟩:=run_append_any (P:=P) (rt:=o.type) (w:=w) hu hi hiz hisz hiby hzsz hne hw (cp:=cp) hnl hnc hn1 hlen hbytes
            refine fin (by rw [hxs]; exact hrun) hgrow (fun g hg => (hb g (hrow g hg)).1) (fun g hg => (hv' g hg).imp id fun h2 => (hb g h2).1) (fun g hg => (hown.lt g hg).2) ?_
            refine .slice (xs++news) (fun c g => if c < es.length then fs c g else gs (c - es.length) g) (by decide) (fun x hx => (List.mem_append.1 hx).elim (hk x) (hky x)) (by simpa using hown) (fun b hbb => ⟨.inl hbb,fun c => ?_⟩) (fun c g => ?_) (fun c c' g => ?_) (fun c hc => ?_)
            . rcases hv' b hbb with h2 | h2
              . split
                . intro hg; have:=hltj _ (hf _ _ hg); omega
                . intro hg; have:=hlti _ (hgi _ _ hg); omega
              . split
                . exact (hb b h2).2 c
                . exact fun hg => hex _ (hgi _ _ hg) (hb b h2).1
            . split
              . exact fun hg => .inr (.inl (hf _ _ hg))
              . exact fun hg => .inr (.inr (hgi _ _ hg))
            . split<;>split
              . exact hdj c c' g
              . intro h1 h2; exact absurd (hf _ _ h1) (hex _ (hgi _ _ h2))
              . intro h1 h2; exact absurd (hf _ _ h2) (hex _ (hgi _ _ h1))
              . intro h1 h2; have:=hgd _ _ _ h1 h2; omega
            . rw [hfa] at hc ⊢
              simp only [List.length_append] at hc
              have e1 : (flat es++flat ys).getD c .nilptr=if c < es.length then (flat es).getD c .nilptr else (flat ys).getD (c - es.length) .nilptr:=by
               simp only [List.getD_eq_getElem?_getD,List.getElem?_append,fle,Nat.mul_one]; split<;>rfl
              have e2 : (xs++news).getD c Go.undef=if c < es.length then xs.getD c Go.undef else news.getD (c - es.length) Go.undef:=by
               simp only [List.getD_eq_getElem?_getD,List.getElem?_append,hxl,Nat.mul_one]; split<;>rfl
              rw [e1,e2]
              split
              . exact (hr c (by omega)).move fun g hg lt' => hgrow.block g lt' fun hbb => (hb g (hrow g hbb.symm)).2 c hg
              . exact (hgs _ (by omega)).move fun g hg lt' => hgrow.block g lt' fun hbb => hex g (hgi _ _ hg) (hb g (hrow g hbb.symm)).1
           by_cases hes : es=[]
           . rcases h0 hes with ⟨a0,hb0⟩ | ⟨e0,hw,hF⟩
             . exact bare a0 hb0 hes
             . by_cases hnil : β j=.slice none 0 0
               . exact bare none hnil hes
               . subst hes
                 exact row e0 [] (fun _ _ => False) hw hnil (by simp) (fun b hb => ⟨hF b hb,fun _ h => h⟩) (fun _ _ h => h.elim) (fun _ _ _ h => h.elim) (by simp [flat])
           . generalize hvj : β j=vj at *
             cases hDj with
             | nil _ _ hE => exact absurd rfl hes
             | slice xs fs hk0 hk hw hb hf hdj hr =>
               rename_i e0 k
               obtain ⟨y0,hy0⟩:=List.exists_mem_of_ne_nil es hes
               have hk1 : k=1:=by rw [← hk y0 hy0,hke y0 hy0]
               subst hk1
               have hn0 : 0 < es.length:=List.length_pos_iff.2 hes
               refine row e0 xs fs hw (fun e => ?_) hk hb hf hdj hr
               rcases hw.2 with ⟨_,h2⟩ | ⟨g,cap,cur,h2,_⟩
               . omega
               . rw [h2] at e; cases e
     . cases hq
 . cases hq

theorem lk_frzS_eq {i j : Nat} {es : List D} : ∀ (l : List (Nat × AV)),lk i (frzS j es l)=(lk i l).map (·.frz j es)
 | [] => rfl
 | (k, v) :: r => by
   simp only [frzS,lk]
   split
   . rfl
   . exact lk_frzS_eq r
theorem run_append_make {t ti rt e : TypeId} {i : TypeInfo} {zv : Value} (hu : P.underlying t=some (.slice e)) (hti : P.underlying ti=some (.int .i64)) (hi : P.info? e=some i) (hiz : i.zero=some zv) (hisz : i.size=1) (hiby : i.bytes=P.bytesOf e)
 (hzsz : zv.cells.size=1) (hz1 : ∀ u ∈ zv.cells.toList,u.oneCell'=true) {v : Value} {n : Nat} {xs : List Value} (hw : w.ownsRow 0 e 1 v n xs) {m : Nat} (hlen : n + m<=maxLen) (hbytes : (n + m) * P.bytesOf e<=140737488355328) :
 ∃ v' w' row,(Builtin.append_ #[t,ti] rt #[v,.int .i64 m]).run P w=.ok v' w'∧w'.ownsRow 0 e 1 v' (n + m) (xs++(Builtin.zeroCells zv.cells m).toList)∧Gb w w' row∧(∀ g,row=some g->v.ownBlock=some g) ∧
  ∀ g,v'.ownBlock=some g->w.heap.size<=g∨v.ownBlock=some g:=by
 have hsmall : n + m<=9223372036854775807:=by simp only [maxLen] at hlen; omega
 have hwr : IntKind.i64.wrap (m : Int)=m:=by rw [IntKind.wrap_i64]; omega
 have hm0 : ¬ ((m : Int) < 0):=by omega
 have hmb : m * i.bytes<=140737488355328:=by rw [hiby]; exact Nat.le_trans (Nat.mul_le_mul_right _ (by omega)) hbytes
 have hmb' : ¬ (281474976710656 < (m : Int) * (i.bytes : Int)):=by
  have : ((m * i.bytes : Nat) : Int)<=140737488355328:=by omega
  rw [Int.natCast_mul] at this; omega
 have hnl : (Builtin.zeroCells zv.cells m).toList.length=m:=by simp [Builtin.zeroCells,hzsz]
 have hn1 : ∀ u ∈ (Builtin.zeroCells zv.cells m).toList,u.oneCell'=true:=fun u hu => by
  simp only [Builtin.zeroCells,Array.toList_map,List.mem_map,hzsz,Nat.mod_one] at hu
  obtain ⟨k,_,rfl⟩:=hu
  refine hz1 _ ?_
  rw [getElem!_pos zv.cells 0 (by omega)]
  exact Array.mem_toList_iff.2 (Array.getElem_mem _)
 have hw0 : IntKind.i64.wrap 0=0:=by decide
 have grown : ∀ (old : Nat),old < n + m->∀ (xs0 : Array Value),xs0.toList=xs->
  (w.drew.alloc (.cells (xs0++Builtin.zeroCells zv.cells m++Builtin.zeroCells zv.cells (grownCap w (n + m) old e - (n + m))) e)).ownsRow 0 e 1
   (.slice (some ⟨w.heap.size,0,none⟩) (n + m) (grownCap w (n + m) old e)) (n + m) (xs++(Builtin.zeroCells zv.cells m).toList) ∧
  Gb w (w.drew.alloc (.cells (xs0++Builtin.zeroCells zv.cells m++Builtin.zeroCells zv.cells (grownCap w (n + m) old e - (n + m))) e)) none:=by
  intro old ho xs0 hxs
  have hxl : xs.length=n:=by simpa using hw.1
  have hge:=grownCap_ge w (n + m) old e
  have hcm : grownCap w (n + m) old e<=maxLen:=grownCap_le_maxLen w (n + m) old e hlen
  have hx0 : xs0.size=n:=by rw [← hxl,← hxs]; simp
  refine ⟨⟨by simp [hxl,hnl],.inr ⟨w.heap.size,_,_,rfl,Nat.zero_le _,heap_alloc_new w.drew _,hge,hcm,?_,?_⟩⟩,⟨rfl,rfl,rfl,by simp,fun k hk _ => (World.grownBy_alloc w.drew _ none).block k hk (by simp)⟩,dr_mono (Nat.le_succ _)⟩
  . simp only [Array.size_append,size_zeroCells,hzsz,hx0]; omega
  . simp only [Array.toList_append,hxs]
    rw [List.take_left' (by simp [hxl,hnl])]
 rcases hw.2 with ⟨rfl,rfl⟩ | ⟨g,cap,cur,rfl,hbg,hg,hnc,hcm,hcs,htake⟩
 . have hx : xs=[]:=List.eq_nil_of_length_eq_zero (by simpa using hw.1)
   subst hx
   by_cases hm : m=0
   . subst hm
     refine ⟨.slice none 0 0,w,none,?_,by simpa [Builtin.zeroCells] using World.ownsRow_nil w 0 e 1,Gb.refl _ _,by simp,fun g hg => by cases hg⟩
     simp [Builtin.append_,run_underlying hu,run_underlying hti,Go.sizeOf,typeInfo,hi,hisz,hw0,asInt,asIntOf]
   . have hgr:=grown 0 (by omega) #[] rfl
     refine ⟨_,_,none,?_,hgr.1,hgr.2,by simp,fun g hg => by cases hg; exact .inl (Nat.le_refl _)⟩
     have h48' : ¬ (281474976710656 < Builtin.nextslicecap m 0 * i.bytes):=by rw [nextslicecap_zero (by omega)]; omega
     have h63' : ¬ (9223372036854775807 < (m : Int)):=by omega
     simp [Builtin.append_,run_underlying hu,run_underlying hti,Go.sizeOf,typeInfo,hi,hiz,hisz,hwr,asInt,asIntOf,hm0,hmb',hm,h48',h63',Question.forced,run_firstCells_none,zeroValue,newRow,grownCap]
 . by_cases hroom : n + m<=cap
   . have hfit : n * i.size + (Builtin.zeroCells zv.cells m).toList.length<=cur.size:=by rw [hnl,hisz,hcs]; omega
     have hst:=run_storeCells_at P g n e (Builtin.zeroCells zv.cells m).toList 0 cur w hg (by rw [hnl,hcs]; omega) hn1
     simp only [Nat.add_zero] at hst
     refine ⟨.slice (some ⟨g,0,none⟩) (n + m) cap,w.setRow g (cur.toList.take n++(Builtin.zeroCells zv.cells m).toList++cur.toList.drop (n + (Builtin.zeroCells zv.cells m).toList.length)).toArray,some g,?_,⟨by
      have:=hw.1; simp [hnl]; omega,.inr ⟨g,cap,_,rfl,hbg,setRow_heap w g cur _ e _ hg,hroom,hcm,?_,?_⟩⟩,⟨⟨rfl,rfl,rfl,by simp,fun k _ hk => setRow_other w g k _ (fun e => hk (by simp [e]))⟩,Nat.le_refl _⟩,fun g' h => by cases h; rfl,fun g' h => .inr h⟩
     . by_cases h0 : m=0
       . subst h0
         simp [Builtin.zeroCells] at hst ⊢
         simp [Builtin.append_,run_underlying hu,run_underlying hti,Go.sizeOf,typeInfo,hi,hisz,hw0,asInt,asIntOf,Addr.add_lit,show n<=cap by omega,hst]
       . simp [Builtin.append_,run_underlying hu,run_underlying hti,Go.sizeOf,typeInfo,hi,hiz,hisz,hwr,asInt,asIntOf,hm0,hmb',hroom,h0,zeroValue,Addr.add_lit,hst]
     . have hnl2 : (Builtin.zeroCells zv.cells m).size=m:=by rw [← Array.length_toList]; exact hnl
       have hcs2 : cur.size=cap * 1:=hcs
       simp only [List.size_toArray,List.length_append,List.length_take,List.length_drop,Array.length_toList,hnl2]
       omega
     . have hxl : xs.length=n:=by simpa using hw.1
       rw [Nat.mul_one] at htake
       rw [htake,Nat.mul_one]
       exact List.take_left' (by simp [hxl,hnl])
   . have hgr:=grown cap (by omega) xs.toArray (by simp)
     have hfo:=run_firstCells_some (P:=P) w.drew i.size n ⟨g,0,none⟩ n cap xs (by rw [hisz]; exact hw.1) (by simpa using hw.cells (g:=g) rfl)
     rw [hisz] at hfo
     refine ⟨_,_,none,?_,hgr.1,hgr.2,by simp,fun g hg => by cases hg; exact .inl (Nat.le_refl _)⟩
     have h48' : ¬ (281474976710656 < Builtin.nextslicecap (n + m) cap * i.bytes):=by
      have:=growslice_fits (need:=n + m) (old:=cap) (bytes:=i.bytes) (by omega) (by rw [hiby]; exact hbytes); omega
     have h63' : ¬ (9223372036854775807 < ((n : Int) + (m : Int))):=by omega
     by_cases h0 : m=0
     . exact absurd hroom (by
        have:=hcs; omega)
     . simp [Builtin.append_,run_underlying hu,run_underlying hti,Go.sizeOf,typeInfo,hi,hiz,hisz,hwr,asInt,asIntOf,hm0,hmb',hroom,h0,h48',h63',Question.forced,hfo,zeroValue,newRow,grownCap]
theorem appendM_done (h : SimB Z β φ N B M w0 st a w) {o : Oper} {d : Nat} {c st'} {s x : Operand} {t t' : TypeId} (hd : o.dst=some d) (hN : d < N)
 (hop : o.op=.call { callee:=.builtin .append,args:=[s,x].toArray,argTypes:=[t,t'].toArray }) (hq : appendM P st d s x t t'=some (c,st')) (hc : c) : Done P Z N B M w0 o a w st':=by
 unfold appendM at hq
 split at hq
 . rename_i e j m he hs hx hti
   split at hq
   . rename_i e' k es kk z hj hz
     simp only [Option.some.injEq,Prod.mk.injEq] at hq
     obtain ⟨rfl,rfl⟩:=hq
     obtain ⟨rfl,rfl,hce,hm,hlen,hbytes⟩:=hc
     obtain ⟨m,rfl⟩ : ∃ q : Nat,m=q:=⟨m.toNat,by omega⟩
     rw [Int.toNat_natCast] at *
     have hu:=elemSl_spec he
     have hO:=h.objs j _ hj
     obtain ⟨i,zv,hi,hiz,hzr⟩:=zeroD_spec hz
     have hisz : i.size=1:=by rw [← hce]; simp [Program.cellsOf,hi]
     have hiby : i.bytes=P.bytesOf e':=by simp [Program.bytesOf,hi]
     have hzv : zv=.int kk z:=by have:=hzr (fun _ => True) w; cases this; rfl
     have hsv:=ev_sl h hs
     cases hO with
     | arr hF xs hk0 hk hw hr =>
       have hFj : φ j=ownS (β j):=hF
       obtain ⟨v',w',row,hrun,hown,hgrow,hrow,hv'⟩:=run_append_make (P:=P) (rt:=o.type) (ti:=t') (m:=m) hu hti hi hiz hisz hiby (by rw [hzv]; rfl) (by rw [hzv]; intro u hu; simp [Value.cells] at hu; subst hu; rfl) hw hlen hbytes
       have hall : ∀ x ∈ es++List.replicate m (D.int kk z),x.cells.length=1:=fun x hx => by
        rcases List.mem_append.1 hx with h1 | h1
        . exact hk x h1
        . rw [List.eq_of_mem_replicate h1]; rfl
       have fles:=flat_length hk
       have hzl : (Builtin.zeroCells zv.cells m).toList=List.replicate m (Value.int kk z):=by
        rw [hzv]
        refine List.ext_getElem (by simp [Builtin.zeroCells,Value.cells]) fun q h1 h2 => ?_
        simp [Builtin.zeroCells,Value.cells,Nat.mod_one]
       refine Done.value (v:=v') (w':=w') ?_ ?_
       . simp [execOp,hop,resolve,invoke,builtin,hsv,ev_int h hx,hrun]
       . have hsim:=h.redo (o:=.arr e' 1 (es++List.replicate m (D.int kk z))) hj hgrow (fun g hg => by rw [hFj]; exact hrow g hg) v' (ownS v') (fun g hg => by rw [hFj]; exact hv' g hg) (fun S' hm => by
          refine .arr rfl (xs++(Builtin.zeroCells zv.cells m).toList) (by omega) hall (by simpa using hown) fun ii hii => ?_
          have hfa : flat (es++List.replicate m (D.int kk z))=flat es++List.replicate m (D.int kk z):=by
           simp only [flat,List.flatMap_append]
           congr 1
           have key : ∀ q : Nat,(List.replicate q (D.int kk z)).flatMap D.cells=List.replicate q (D.int kk z):=fun q => by
            induction q with
            | zero => rfl
            | succ q ih => rw [List.replicate_succ,List.flatMap_cons,ih]; rfl
           exact key m
          rw [hfa] at hii ⊢
          have hxl : xs.length=(flat es).length:=by rw [fles,hw.1]
          by_cases hlt : ii < (flat es).length
          . have:=hm _ _ (hr ii hlt)
            simp only [List.getD_eq_getElem?_getD] at this ⊢
            rwa [List.getElem?_append_left hlt,List.getElem?_append_left (by omega)]
          . rw [hzl]
            simp only [List.length_append,List.length_replicate] at hii
            simp only [List.getD_eq_getElem?_getD]
            rw [List.getElem?_append_right (by omega),List.getElem?_append_right (by omega),List.getElem?_replicate,List.getElem?_replicate,if_pos (by omega),if_pos (by omega)]
            exact .int _ _)
         rw [hd]
         exact ⟨_,_,hsim.put (dst:=some d) (fun _ e => by cases e; exact hN) (by
          have:=Rel.sl (β:=upd β j v') (S:=free Z (updF φ j (ownS v')) (ins j (.arr e' 1 (es++List.replicate m (D.int kk z))) (wipeO j st.o))) (w:=w') j
          rwa [upd_eq] at this)⟩
   . cases hq
 . cases hq

theorem appendN_done (h : SimB Z β φ N B M w0 st a w) {o : Oper} {d j : Nat} {s x : Operand} {t e : TypeId} {es ys : List D} (hd : o.dst=some d) (hN : d < N)
 (hop : o.op=.call { callee:=.builtin .append,args:=[s,x].toArray,argTypes:=[t,t].toArray }) (he : elemSl P t=some e) (hsv : a.eval s=β j) (hj : lk j st.o=some (.arr e (P.cellsOf e) es)) (hn : newsOf st j x=some ys)
 (hys : ∀ y ∈ ys,y.ok (P.cellsOf e)) (hlen : es.length + ys.length<=maxLen) (hbytes : (es.length + ys.length) * P.bytesOf e<=140737488355328) (hz : (zeroD P e).isSome=true) (hzk : ∀ z,zeroD P e=some z->z.cells.length=P.cellsOf e) :
 Done P Z N B M w0 o a w ⟨ins d (.sl j) (wipeS j st.s),ins j (.arr e (P.cellsOf e) (es++ys)) (wipeO j st.o)⟩:=by
 have hu:=elemSl_spec he
 have hO:=h.objs j _ hj
 obtain ⟨z,hz⟩:=Option.isSome_iff_exists.1 hz
 obtain ⟨i,zv,hi,hiz,hzr⟩:=zeroD_spec hz
 have hzk:=hzk z hz
 have hisz : i.size=P.cellsOf e:=by simp [Program.cellsOf,hi]
 have hiby : i.bytes=P.bytesOf e:=by simp [Program.bytesOf,hi]
 have hzsz : zv.cells.size=P.cellsOf e:=by
  have:=(rd_cells (hzr (fun _ => True) w)).1
  simpa [hzk] using this
 cases hO with
 | arr hF xs hk0 hk hw hr =>
   have hFj : φ j=ownS (β j):=hF
   -- the appended value
   have news : (a.eval x=.slice none 0 0∧ys=[])∨∃ (ad : Addr) (cp : Nat) (news : List Value),a.eval x=.slice (some ad) ys.length cp∧news.length=ys.length * P.cellsOf e ∧
    (∀ jj u,news[jj]? = some u->w.cell? (ad.add jj)=some u)∧(∀ u ∈ news,u.oneCell'=true) ∧
    ∀ ii,ii < (flat ys).length->Rd (free Z φ st.o) w ((flat ys).getD ii .nilptr) (news.getD ii Go.undef):=by
    have fl:=flat_length (es:=ys) (k:=P.cellsOf e) fun y hy => (hys y hy).1
    have ones : ∀ {vs : Nat->Value},(∀ ii,ii < (flat ys).length->Rd (free Z φ st.o) w ((flat ys).getD ii .nilptr) (vs ii))->∀ u ∈ (List.range (ys.length * P.cellsOf e)).map vs,u.oneCell'=true:=by
     intro vs hv u hu
     obtain ⟨ii,hii,rfl⟩:=List.mem_map.1 hu
     have hlt : ii < (flat ys).length:=by rw [fl]; simpa using hii
     refine atom_one (hv ii hlt) ?_
     simp only [List.getD_eq_getElem?_getD,List.getElem?_eq_getElem hlt,Option.getD_some]
     have hmem:=List.getElem_mem hlt
     obtain ⟨y,hy,hcy⟩:=List.mem_flatMap.1 hmem
     exact (hys y hy).2 _ hcy
    unfold newsOf at hn
    split at hn
    . rename_i zs hx
      cases hn
      have:=ev_d h hx
      generalize a.eval x=v at *
      cases this with
      | nil a0 => cases a0 with
        | none => exact .inl ⟨rfl,rfl⟩
        | some ad => exact .inr ⟨ad,0,[],rfl,by simp,by simp,by simp,by simp [flat]⟩
      | slice vs hk' hcap hc' hr' =>
        rename_i b off cap kk
        refine .inr ⟨⟨b,off,none⟩,cap,(List.range (ys.length * P.cellsOf e)).map vs,rfl,by simp,fun jj u hu => ?_,ones hr',fun ii hii => ?_⟩
        . have hlt : jj < ys.length * P.cellsOf e:=by
           have:=(List.getElem?_eq_some_iff.1 hu).1; simpa using this
          simp [hlt] at hu
          subst hu
          rw [add_eq]; exact (hc' jj (by omega)).2
        . have hlt : ii < ys.length * P.cellsOf e:=by omega
          simpa [List.getD_eq_getElem?_getD,hlt] using hr' ii hii
    . rename_i jj hx
      split at hn
      . cases hn
      . split at hn
        . rename_i e2 k2 zs hjj
          cases hn
          rw [ev_sl h hx]
          have hO2:=h.objs jj _ hjj
          generalize β jj=v at *
          cases hO2 with
          | arr hF xs2 hk02 hk2 hw2 hr2 =>
            rcases hw2.2 with ⟨h1,h2⟩ | ⟨g,cap,cur,h1,h2⟩
            . exact .inl ⟨h1,List.eq_nil_of_length_eq_zero h2⟩
            . subst h1
              have hx2l : xs2.length=(flat ys).length:=by rw [flat_length hk2,hw2.1]
              refine .inr ⟨⟨g,0,none⟩,cap,(List.range (ys.length * P.cellsOf e)).map fun ii => xs2.getD ii Go.undef,rfl,by simp,fun jj u hu => ?_,ones hr2,fun ii hii => ?_⟩
              . have hlt : jj < ys.length * P.cellsOf e:=by
                 have:=(List.getElem?_eq_some_iff.1 hu).1; simpa using this
                have hu' : xs2.getD jj Go.undef=u:=by simpa [hlt] using hu
                rw [← hu',add_eq,Nat.zero_add]; exact ownsRow_cell hw2 rfl (by omega)
              . have hlt : ii < ys.length * P.cellsOf e:=by omega
                simpa [List.getD_eq_getElem?_getD,hlt] using hr2 ii hii
        . cases hn
    . cases hn
   have fl:=flat_length (es:=ys) (k:=P.cellsOf e) fun y hy => (hys y hy).1
   have fles:=flat_length hk
   have hall : ∀ x ∈ es++ys,x.cells.length=P.cellsOf e:=fun x hx => by
    rcases List.mem_append.1 hx with h1 | h1
    . exact hk x h1
    . exact (hys x h1).1
   rcases news with ⟨hxv,rfl⟩ | ⟨ad,cp,news,hxv,hnl,hnc,hn1,hnr⟩
   . -- nothing is appended
     refine Done.value (v:=β j) (w':=w) ?_ ?_
     . have:=run_append_owned_none (P:=P) w 0 t o.type e i (P.cellsOf e) hu hi (β j) es.length xs hw
       simp [execOp,hop,resolve,invoke,builtin,hsv,hxv,this]
     . rw [hd,List.append_nil]
       have hsim:=h.redo (o:=.arr e (P.cellsOf e) es) hj (w':=w) (row:=none) (Gb.refl _ _) (by simp) (β j) (ownS (β j)) (fun g hg => .inr (by rw [hFj]; exact hg))
        (fun S' hm => .arr rfl xs hk0 hk hw fun ii hii => hm _ _ (hr ii hii))
       exact ⟨_,_,hsim.put (dst:=some d) (fun _ e => by cases e; exact hN) (by
        have:=Rel.sl (β:=upd β j (β j)) (S:=free Z (updF φ j (ownS (β j))) (ins j (.arr e (P.cellsOf e) es) (wipeO j st.o))) (w:=w) j
        rwa [upd_eq] at this)⟩
   . obtain ⟨v',w',row,hrun,hown,hgrow,hrow,hv'⟩:=run_append_own2 (P:=P) (rt:=o.type) (cp:=cp) hu hi hiz hisz hiby hzsz hk0 hw hnl hnc hn1 hlen hbytes
     refine Done.value (v:=v') (w':=w') ?_ ?_
     . simp [execOp,hop,resolve,invoke,builtin,hsv,hxv,hrun]
     . have hsim:=h.redo (o:=.arr e (P.cellsOf e) (es++ys)) hj hgrow (fun g hg => by rw [hFj]; exact hrow g hg) v' (ownS v') (fun g hg => by rw [hFj]; exact hv' g hg) (fun S' hm => by
        refine .arr rfl (xs++news) hk0 hall (by simpa using hown) fun ii hii => ?_
        have hfa : flat (es++ys)=flat es++flat ys:=by simp [flat]
        rw [hfa] at hii ⊢
        have hxl : xs.length=(flat es).length:=by rw [fles,hw.1]
        by_cases hlt : ii < (flat es).length
        . have:=hm _ _ (hr ii hlt)
          simp only [List.getD_eq_getElem?_getD] at this ⊢
          rwa [List.getElem?_append_left hlt,List.getElem?_append_left (by omega)]
        . have:=hm _ _ (hnr (ii - (flat es).length) (by simp at hii; omega))
          simp only [List.getD_eq_getElem?_getD] at this ⊢
          rwa [List.getElem?_append_right (by omega),List.getElem?_append_right (by omega),hxl])
       rw [hd]
       exact ⟨_,_,hsim.put (dst:=some d) (fun _ e => by cases e; exact hN) (by
        have:=Rel.sl (β:=upd β j v') (S:=free Z (updF φ j (ownS v')) (ins j (.arr e (P.cellsOf e) (es++ys)) (wipeO j st.o))) (w:=w') j
        rwa [upd_eq] at this)⟩
theorem appendF_done (h : SimB Z β φ N B M w0 st a w) {o : Oper} {d j : Nat} {c st'} {s x : Operand} {t e : TypeId} (hd : o.dst=some d) (hN : d < N)
 (hop : o.op=.call { callee:=.builtin .append,args:=[s,x].toArray,argTypes:=[t,t].toArray }) (he : elemSl P t=some e) (hsv : a.eval s=β j) (hq : appendF P st d e j x=some (c,st')) (hc : c) : Done P Z N B M w0 o a w st':=by
 unfold appendF at hq
 split at hq
 . rename_i i hx
   split at hq
   . cases hq
   . rename_i hij
     split at hq
     . rename_i t0 ys hi
       split at hq
       . rename_i e' k es hj
         cases hq
         obtain ⟨rfl,rfl,hys,hlen,hbytes,hz,hzk⟩:=hc
         have h1:=h.frz' (es:=ys) hi rfl
         refine appendN_done h1 hd hN hop he hsv hj ?_ hys hlen hbytes hz hzk
         have hx' : ev (st.frz i ys) x=some (.d (.slice ys)):=by
          cases x with
          | tmp s0 =>
            have hx' : lk s0 st.s=some (.sl i):=hx
            show lk s0 (frzS i ys st.s)=_
            rw [lk_frzS_eq,hx',Option.map_some,AV.frz,if_pos rfl]
          | const v => exact absurd hx (by intro hx; exact const_noSl hx)
          | func f => cases hx
          | global g => exact absurd hx (by show (globD g).map AV.d ≠ _; cases globD g<;>simp)
         unfold newsOf; rw [hx']
       . cases hq
     . cases hq
 . cases hq
theorem append_done (h : SimB Z β φ N B M w0 st a w) {o : Oper} {d c st'} {args : List Operand} {ts : List TypeId} (hd : o.dst=some d) (hN : d < N)
 (hop : o.op=.call { callee:=.builtin .append,args:=args.toArray,argTypes:=ts.toArray }) (hq : appendA P st d args ts=some (c,st')) (hc : c) : Done P Z N B M w0 o a w st':=by
 unfold appendA at hq
 split at hq
 . rename_i s x t t'
   split at hq
   . exact appendM_done h hd hN hop hq hc
   . rename_i htt
     have htt : t'=t:=Classical.not_not.1 htt
     subst htt
     split at hq
     . rename_i hnr
       split at hq
       . rename_i e ys he hx
         exact append0_done h hd hN hop he hnr hx hq hc
       . rename_i e j he hx
         split at hq
         . rename_i e' k' ys hj
           split at hq
           . rename_i hnr'
             refine append0_done (h.frz hj) hd hN hop he hnr' ?_ hq hc
             cases x with
             | tmp s =>
               have hx' : lk s st.s=some (.sl j):=hx
               show lk s (frzS j ys st.s)=_
               rw [lk_frzS_eq,hx',Option.map_some,AV.frz,if_pos rfl]
             | const v => exact absurd hx (by
              intro hx
              have:=const_noSl hx
              exact this)
             | func f => cases hx
             | global g => exact absurd hx (by show (globD g).map AV.d ≠ _; cases globD g<;>simp)
           . cases hq
         . cases hq
       . cases hq
     . split at hq
       . rename_i e j he hs
         split at hq
         . exact appendD_done h hd hN hop he hs hq hc
         . rename_i hj
           exact append1_done h hd hN hop he hs hj hq hc
         split at hq
         . rename_i e' k es ys hj hn
           simp only [Option.some.injEq,Prod.mk.injEq] at hq
           obtain ⟨rfl,rfl⟩:=hq
           obtain ⟨rfl,rfl,hys,hlen,hbytes,hz,hzk⟩:=hc
           exact appendN_done h hd hN hop he (ev_sl h hs) hj hn hys hlen hbytes hz hzk
         . rename_i e' k es vs ys hj hn
           simp only [Option.some.injEq,Prod.mk.injEq] at hq
           obtain ⟨rfl,rfl⟩:=hq
           obtain ⟨rfl,rfl,hys,hlen,hbytes,hz,hzk⟩:=hc
           have hu:=elemSl_spec he
           have hO:=h.objs j _ hj
           obtain ⟨z,hz⟩:=Option.isSome_iff_exists.1 hz
           obtain ⟨i,zv,hi,hiz,hzr⟩:=zeroD_spec hz
           have hzk:=hzk z hz
           have hisz : i.size=P.cellsOf e':=by simp [Program.cellsOf,hi]
           have hiby : i.bytes=P.bytesOf e':=by simp [Program.bytesOf,hi]
           have hzsz : zv.cells.size=P.cellsOf e':=by
            have:=(rd_cells (hzr (fun _ => True) w)).1
            simpa [hzk] using this
           have hsv:=ev_sl h hs
           cases hO with
           | arw hlt xs hk0 hk hw hbb hr hvv =>
             have hFj : φ j=φ j:=rfl
             -- the appended value
             have news : (a.eval x=.slice none 0 0∧ys=[])∨∃ (ad : Addr) (cp : Nat) (news : List Value),a.eval x=.slice (some ad) ys.length cp∧news.length=ys.length * P.cellsOf e' ∧
              (∀ jj u,news[jj]? = some u->w.cell? (ad.add jj)=some u)∧(∀ u ∈ news,u.oneCell'=true) ∧
              ∀ ii,ii < (flat ys).length->Rd (free Z φ st.o) w ((flat ys).getD ii .nilptr) (news.getD ii Go.undef):=by
              have fl:=flat_length (es:=ys) (k:=P.cellsOf e') fun y hy => (hys y hy).1
              have ones : ∀ {vs : Nat->Value},(∀ ii,ii < (flat ys).length->Rd (free Z φ st.o) w ((flat ys).getD ii .nilptr) (vs ii))->∀ u ∈ (List.range (ys.length * P.cellsOf e')).map vs,u.oneCell'=true:=by
               intro vs hv u hu
               obtain ⟨ii,hii,rfl⟩:=List.mem_map.1 hu
               have hlt : ii < (flat ys).length:=by rw [fl]; simpa using hii
               refine atom_one (hv ii hlt) ?_
               simp only [List.getD_eq_getElem?_getD,List.getElem?_eq_getElem hlt,Option.getD_some]
               have hmem:=List.getElem_mem hlt
               obtain ⟨y,hy,hcy⟩:=List.mem_flatMap.1 hmem
               exact (hys y hy).2 _ hcy
              unfold newsOf at hn
              split at hn
              . rename_i zs hx
                cases hn
                have:=ev_d h hx
                generalize a.eval x=v at *
                cases this with
                | nil a0 => cases a0 with
                  | none => exact .inl ⟨rfl,rfl⟩
                  | some ad => exact .inr ⟨ad,0,[],rfl,by simp,by simp,by simp,by simp [flat]⟩
                | slice vs hk' hcap hc' hr' =>
                  rename_i b off cap kk
                  refine .inr ⟨⟨b,off,none⟩,cap,(List.range (ys.length * P.cellsOf e')).map vs,rfl,by simp,fun jj u hu => ?_,ones hr',fun ii hii => ?_⟩
                  . have hlt : jj < ys.length * P.cellsOf e':=by
                     have:=(List.getElem?_eq_some_iff.1 hu).1; simpa using this
                    simp [hlt] at hu
                    subst hu
                    rw [add_eq]; exact (hc' jj (by omega)).2
                  . have hlt : ii < ys.length * P.cellsOf e':=by omega
                    simpa [List.getD_eq_getElem?_getD,hlt] using hr' ii hii
              . rename_i jj hx
                split at hn
                . cases hn
                . split at hn
                  . rename_i e2 k2 zs hjj
                    cases hn
                    rw [ev_sl h hx]
                    have hO2:=h.objs jj _ hjj
                    generalize β jj=v at *
                    cases hO2 with
                    | arr hF xs2 hk02 hk2 hw2 hr2 =>
                      rcases hw2.2 with ⟨h1,h2⟩ | ⟨g,cap,cur,h1,h2⟩
                      . exact .inl ⟨h1,List.eq_nil_of_length_eq_zero h2⟩
                      . subst h1
                        have hx2l : xs2.length=(flat ys).length:=by rw [flat_length hk2,hw2.1]
                        refine .inr ⟨⟨g,0,none⟩,cap,(List.range (ys.length * P.cellsOf e')).map fun ii => xs2.getD ii Go.undef,rfl,by simp,fun jj u hu => ?_,ones hr2,fun ii hii => ?_⟩
                        . have hlt : jj < ys.length * P.cellsOf e':=by
                           have:=(List.getElem?_eq_some_iff.1 hu).1; simpa using this
                          have hu' : xs2.getD jj Go.undef=u:=by simpa [hlt] using hu
                          rw [← hu',add_eq,Nat.zero_add]; exact ownsRow_cell hw2 rfl (by omega)
                        . have hlt : ii < ys.length * P.cellsOf e':=by omega
                          simpa [List.getD_eq_getElem?_getD,hlt] using hr2 ii hii
                  . cases hn
              . cases hn
             have fl:=flat_length (es:=ys) (k:=P.cellsOf e') fun y hy => (hys y hy).1
             have fles:=flat_length hk
             have hall : ∀ x ∈ es++ys,x.cells.length=P.cellsOf e':=fun x hx => by
              rcases List.mem_append.1 hx with h1 | h1
              . exact hk x h1
              . exact (hys x h1).1
             rcases news with ⟨hxv,rfl⟩ | ⟨ad,cp,news,hxv,hnl,hnc,hn1,hnr⟩
             . -- nothing is appended
               refine Done.value (v:=β j) (w':=w) ?_ ?_
               . have:=run_append_owned_none (P:=P) w 0 t' o.type e' i (P.cellsOf e') hu hi (β j) es.length xs hw
                 simp [execOp,hop,resolve,invoke,builtin,hsv,hxv,this]
               . rw [hd,List.append_nil]
                 have hsim:=h.redo (o:=.arw e' (P.cellsOf e') es (vs.filter fun p => p.1 != j)) hj (w':=w) (row:=none) (Gb.refl _ _) (by simp) (β j) (φ j) (fun g hg => .inr hg)
                  (fun S' hm => .arw hlt xs hk0 hk hw hbb (fun ii hii => hm _ _ (hr ii hii)) fun q n hq => by
                   obtain ⟨h1,h2⟩:=List.mem_filter.1 hq
                   rw [upd_ne q (by simpa using h2)]
                   exact hvv q n h1)
                 exact ⟨_,_,hsim.put (dst:=some d) (fun _ e => by cases e; exact hN) (by
                  have:=Rel.sl (β:=upd β j (β j)) (S:=free Z (updF φ j (φ j)) (ins j (.arw e' (P.cellsOf e') es (vs.filter fun p => p.1 != j)) (wipeO j st.o))) (w:=w) j
                  rwa [upd_eq] at this)⟩
             . obtain ⟨v',w',row,hrun,hown,hgrow,hrow,hv'⟩:=run_append_own2 (P:=P) (rt:=o.type) (cp:=cp) hu hi hiz hisz hiby hzsz hk0 hw hnl hnc hn1 hlen hbytes
               refine Done.value (v:=v') (w':=w') ?_ ?_
               . simp [execOp,hop,resolve,invoke,builtin,hsv,hxv,hrun]
               . have hkept:=run_append_kept (P:=P) hu hi hiz hisz hiby hk0 hw hnl hnc hn1 hlen hbytes hrun hown
                 have hsim:=h.redo (o:=.arw e' (P.cellsOf e') (es++ys) (vs.filter fun p => p.1 != j)) hj hgrow (fun g hg => hbb g (hrow g hg)) v' (fun g => φ j g∨v'.ownBlock=some g) (fun g hg => hg.elim .inr fun hg => (hv' g hg).elim .inl fun h2 => .inr (hbb g h2)) (fun S' hm => by
                  refine .arw (fun g hg => ?_) (xs++news) hk0 hall (by simpa using hown) (fun b hb => .inr hb) (fun ii hii => ?_) fun q n hq => ?_
                  . rcases hg with hg | hg
                    . exact Nat.lt_of_lt_of_le (hlt g hg) hgrow.size
                    . exact (hown.lt g hg).2
                  . have hfa : flat (es++ys)=flat es++flat ys:=by simp [flat]
                    rw [hfa] at hii ⊢
                    have hxl : xs.length=(flat es).length:=by rw [fles,hw.1]
                    by_cases hlt : ii < (flat es).length
                    . have:=hm _ _ (hr ii hlt)
                      simp only [List.getD_eq_getElem?_getD] at this ⊢
                      rwa [List.getElem?_append_left hlt,List.getElem?_append_left (by omega)]
                    . have:=hm _ _ (hnr (ii - (flat es).length) (by simp at hii; omega))
                      simp only [List.getD_eq_getElem?_getD] at this ⊢
                      rwa [List.getElem?_append_right (by omega),List.getElem?_append_right (by omega),hxl]
                  . obtain ⟨h1,h2⟩:=List.mem_filter.1 hq
                    obtain ⟨h3,b,c,h4,h5,h6⟩:=hvv q n h1
                    rw [upd_ne q (by simpa using h2)]
                    refine ⟨by simp; omega,b,c,h4,fun h0 => .inl (h5 h0),fun ii hii => ?_⟩
                    have hn0 : 0 < n:=Nat.pos_of_ne_zero fun e => by rw [e,Nat.zero_mul] at hii; omega
                    have hle : n * P.cellsOf e'<=es.length * P.cellsOf e':=Nat.mul_le_mul_right _ h3
                    have hxl : xs.length=es.length * P.cellsOf e':=hw.1
                    rw [List.getD_eq_getElem?_getD,List.getElem?_append_left (by omega),← List.getD_eq_getElem?_getD]
                    by_cases hbo : (β j).ownBlock=some b
                    . exact hkept b hbo ii (by omega)
                    . rw [World.cell?_of_block (hgrow.block b (hlt b (h5 hn0)) fun e => hbo (hrow b e.symm))]
                      exact h6 ii hii)
                 rw [hd]
                 exact ⟨_,_,hsim.put (dst:=some d) (fun _ e => by cases e; exact hN) (by
                  have:=Rel.sl (β:=upd β j v') (S:=free Z (updF φ j (fun g => φ j g∨v'.ownBlock=some g)) (ins j (.arw e' (P.cellsOf e') (es++ys) (vs.filter fun p => p.1 != j)) (wipeO j st.o))) (w:=w') j
                  rwa [upd_eq] at this)⟩
         . exact appendF_done h hd hN hop he (ev_sl h hs) hq hc
         . cases hq
       . cases hq
 . cases hq

theorem run_newVar' (t : TypeId) (v : Value) (w : World) : (newVar t v).run P w=.ok ⟨w.heap.size,0,none⟩ (w.alloc (.cells v.cells t)):=by
 simp [newVar,newRow]

theorem cut_spec {t y lo hi c r v} {S} (k1 k2 : IntKind) (hr : Rd S w y v) (hq : cutV P t y lo hi=some (c,r)) (hc : c) :
 ∃ u,(Instr.sliceAt t v (lo.map (.int k1)) (hi.map (.int k2)) none).run P w=.ok u w∧Rd S w r u:=by
 unfold cutV at hq
 split at hq
 . rename_i es
   split at hq
   . rename_i e he
     have hu:=elemSl_spec he
     cases hq
     obtain ⟨h0,h1,h2,hk,hk0⟩:=hc
     have bd : ∀ (kk : IntKind) (x : Option Int) (dflt : Nat) (y : Nat) (code : BoundsCode),0<=x.getD dflt->x.getD dflt<=y ->
      (match x.map (Value.int kk) with
       | some v => Instr.sliceBound v y code
       | none => pure dflt : Sem Nat).run P w=.ok (x.getD dflt).toNat w:=by
      intro kk x dflt y code e1 e2
      cases x with
      | none => simp
      | some n => 
        simp only [Option.getD_some] at e1 e2
        simp [Instr.sliceBound,asIntOf,e1,e2]
     generalize hl : lo.getD 0=l at *
     generalize hh : hi.getD (es.length : Int)=hh' at *
     have key : ∀ (a0 : Option Addr) (cap : Nat),es.length<=cap ->
      (Instr.sliceAt t (.slice a0 es.length cap) (lo.map (.int k1)) (hi.map (.int k2)) none).run P w =
       .ok (.slice (if cap=l.toNat then a0 else a0.map (·.add (l.toNat * P.cellsOf e))) (hh'.toNat - l.toNat) (cap - l.toNat)) w:=by
      intro a0 cap hcap
      have b1:=bd k2 hi es.length cap .sliceAcap (by rw [hh]; omega) (by rw [hh]; omega)
      have b2:=bd k1 lo 0 hh'.toNat .sliceB (by rw [show ((0 : Nat) : Int)=0 from rfl,hl]; omega) (by rw [show ((0 : Nat) : Int)=0 from rfl,hl]; omega)
      rw [hh] at b1
      rw [show ((0 : Nat) : Int)=0 from rfl,hl] at b2
      have b3 : (Instr.sliceBounds true es.length cap (lo.map (.int k1)) (hi.map (.int k2)) none).run P w=.ok (l.toNat,hh'.toNat,cap) w:=by
       cases hi<;>cases lo<;>simp only [Option.map_some,Option.map_none,Instr.sliceBounds,Sem.run_bind,Sem.run_pure,Result.andThen_ok] at b1 b2 ⊢ <;>
        simp_all
      simp only [Instr.sliceAt,Sem.run_bind,run_underlying hu,Result.andThen_ok,Instr.slice,b3,run_sizeOf_pos hk0,Sem.run_pure]
     cases hr with
     | nil a0 =>
       have e1 : l=0:=by simp at h2; omega
       have e2 : hh'=0:=by simp at h2; omega
       subst e1; subst e2
       have:=key a0 0 (by simp)
       refine ⟨_,this,?_⟩
       simpa using Rd.nil a0
     | slice vs hk' hcap hc' hr' =>
       rename_i b off cap k
       have hlen : ((es.drop l.toNat).take (hh'.toNat - l.toNat)).length=hh'.toNat - l.toNat:=by simp; omega
       have:=key (some ⟨b,off,none⟩) cap hcap
       refine ⟨_,this,?_⟩
       have hkk : ∀ x ∈ (es.drop l.toNat).take (hh'.toNat - l.toNat),x.cells.length=P.cellsOf e:=fun x hx => hk x (List.mem_of_mem_drop (List.mem_of_mem_take hx))
       by_cases hemp : hh'.toNat - l.toNat=0
       . have he0 : (es.drop l.toNat).take (hh'.toNat - l.toNat)=[]:=by rw [hemp]; simp
         rw [he0,hemp]
         split
         . exact Rd.slice (es:=[]) (cap:=cap - l.toNat) (k:=0) (fun _ => Go.undef) (by simp) (by simp) (by simp [flat]) (by simp [flat])
         . simp only [Option.map_some,add_eq]
           exact Rd.slice (es:=[]) (cap:=cap - l.toNat) (k:=0) (fun _ => Go.undef) (by simp) (by simp) (by simp [flat]) (by simp [flat])
       . have hne : ¬ (cap=l.toNat):=by omega
         rw [if_neg hne]
         simp only [Option.map_some,add_eq]
         have fl:=flat_length hkk
         have fle:=flat_length hk
         rw [hlen] at fl
         have hsub : ∀ ii,ii < (flat ((es.drop l.toNat).take (hh'.toNat - l.toNat))).length->l.toNat * P.cellsOf e + ii < (flat es).length ∧
          (flat ((es.drop l.toNat).take (hh'.toNat - l.toNat))).getD ii .nilptr=(flat es).getD (l.toNat * P.cellsOf e + ii) .nilptr:=by
          intro ii hii
          rw [fl] at hii
          have hq1 : ii / P.cellsOf e < hh'.toNat - l.toNat:=Nat.div_lt_of_lt_mul (by rw [Nat.mul_comm]; exact hii)
          have hm:=Nat.mod_lt ii hk0
          have hdm:=Nat.div_add_mod ii (P.cellsOf e)
          have e1 : ii=(ii / P.cellsOf e) * P.cellsOf e + ii % P.cellsOf e:=by rw [Nat.mul_comm]; omega
          have e2 : l.toNat * P.cellsOf e + ii=(l.toNat + ii / P.cellsOf e) * P.cellsOf e + ii % P.cellsOf e:=by rw [Nat.add_mul]; omega
          have hlt : (l.toNat + ii / P.cellsOf e) < es.length:=by omega
          refine ⟨?_,?_⟩
          . rw [fle,e2]
            have : (l.toNat + ii / P.cellsOf e + 1) * P.cellsOf e<=es.length * P.cellsOf e:=Nat.mul_le_mul_right _ (by omega)
            rw [Nat.add_mul (l.toNat + ii / P.cellsOf e),Nat.one_mul] at this
            omega
          . rw [e2,flat_getD hk hlt hm]
            conv => lhs; rw [e1]
            rw [flat_getD hkk (by omega) hm]
            congr 1
            simp only [el,List.getD_eq_getElem?_getD,List.getElem?_take,List.getElem?_drop]
            rw [if_pos hq1]
         have:=Rd.slice (S:=S) (w:=w) (es:=(es.drop l.toNat).take (hh'.toNat - l.toNat)) (b:=b) (off:=off + l.toNat * P.cellsOf e) (cap:=cap - l.toNat) (k:=P.cellsOf e)
          (fun ii => vs (l.toNat * P.cellsOf e + ii)) hkk (by omega) (fun ii hii => by
           have:=hc' _ (hsub ii hii).1
           rw [Nat.add_assoc]; exact this) (fun ii hii => by
           rw [(hsub ii hii).2]; exact hr' _ (hsub ii hii).1)
         rwa [hlen] at this
   . cases hq
 . rename_i s
   cases hq
   obtain ⟨h0,h1,h2,hu⟩:=hc
   have hu:=isStrT_spec hu
   cases hr
   generalize hl : lo.getD 0=l at *
   generalize hh : hi.getD (s.size : Int)=hh' at *
   refine ⟨.string (s.extract l.toNat hh'.toNat),?_,.str _⟩
   have b3 : (Instr.sliceBounds false s.size s.size (lo.map (.int k1)) (hi.map (.int k2)) none).run P w=.ok (l.toNat,hh'.toNat,s.size) w:=by
    cases hi<;>cases lo<;>simp only [Option.getD_some,Option.getD_none] at hl hh<;>subst hl<;>subst hh <;>
     simp [Instr.sliceBounds,Instr.sliceBound,asIntOf]<;>(try simp_all)<;>(try omega)<;>(try rw [if_pos (by omega),if_pos (by omega)])
   simp only [Instr.sliceAt,Sem.run_bind,run_underlying hu,Result.andThen_ok,Instr.slice,Option.isSome_none]
   simp [b3]
 . cases hq

theorem bound_spec (h : SimB Z β φ N B M w0 st a w) {x b} (hq : bound x st=some b) : ∃ k,x.map a.eval=b.map (.int k):=by
 unfold bound at hq
 split at hq
 . cases hq; exact ⟨.i64,rfl⟩
 . rename_i y
   split at hq
   . rename_i k n hy
     cases hq
     exact ⟨k,by simp [ev_int h hy]⟩
   . cases hq

theorem store_row {e size v n xs} (hw : w.ownsRow 0 e size v n xs) {g off : Nat} {us : List Value} (hv : v.ownBlock=some g) (hle : off + us.length<=xs.length) (h1 : ∀ u ∈ us,u.oneCell'=true) :
 ∃ w',(storeCells ⟨g,off,none⟩ us).run P w=.ok () w'∧w'.ownsRow 0 e size v n (setL xs off us)∧Gb w w' (some g):=by
 rcases hw.2 with ⟨hn,_⟩ | ⟨g',cap,cur,rfl,_,hg,hnc,hcm,hcs,htake⟩
 . rw [hn] at hv; cases hv
 . cases hv
   have hxl : xs.length<=cur.size:=by rw [← htake]; simp; omega
   have hr:=run_storeCells_at P g' off e us 0 cur w hg (by omega) h1
   refine ⟨_,hr,⟨by rw [setL_length hle]; exact hw.1,.inr ⟨g',cap,_,rfl,Nat.zero_le _,setRow_heap w g' cur _ e _ hg,hnc,hcm,?_,?_⟩⟩,
    ⟨⟨rfl,rfl,rfl,by simp,fun k _ hk => setRow_other w g' k _ (fun e => hk (by rw [e]))⟩,Nat.le_refl _⟩⟩
   . simp only [Nat.add_zero,List.size_toArray,List.length_append,List.length_take,List.length_drop,Array.length_toList]; omega
   . simp only [Nat.add_zero]
     rw [← htake]
     apply List.ext_getElem?
     intro i
     have hns : n * size=xs.length:=hw.1.symm
     simp only [setL,List.getElem?_take,List.getElem?_append,List.length_append,List.length_take,List.getElem?_drop,Array.length_toList]
     have e1 : min off cur.size=off:=by omega
     have e2 : min off (min (n * size) cur.size)=off:=by omega
     rw [e1,e2]
     by_cases h3 : i < n * size
     . rw [if_pos h3]
       by_cases h4 : i < off
       . simp [h4,show i < off + us.length by omega,h3]
       . by_cases h5 : i < off + us.length
         . simp [h4,h5]
         . simp [h4,h5,show off + us.length + (i - (off + us.length)) < n * size by omega]
     . rw [if_neg h3]
       simp [show ¬ i < off by omega,show ¬ i < off + us.length by omega,show ¬ (off + us.length + (i - (off + us.length)) < n * size) by omega]

theorem run_storeAt' {t : TypeId} {g off : Nat} {v : Value} {w' : World} (hs : v.cells.size=P.cellsOf t) (h0 : 0 < P.cellsOf t) (hr : (storeCells ⟨g,off,none⟩ v.cells.toList).run P w=.ok () w') :
 (Instr.storeAt t (.pointer (some ⟨g,off,none⟩)) v).run P w=.ok () w':=by
 simp [Instr.storeAt,Instr.sureAddr,storeVar,run_sizeOf_pos h0,hs,hr]

theorem DpR.fill {β : Nat->Value} {w w' : World} {e k es v F xs fs} {c : Nat × Nat} (h : DpR β w e k es (some (c,none)) v F xs fs) {b : Nat} {ys : List D} {u : Value} {F2 : Nat->Prop}
 (hi : c.1 < es.length) (hfo : c.2 < k) (hv : v.ownBlock=some b) (hw' : w'.ownsRow 0 e k v es.length (setL xs (c.1 * k + c.2) [u]))
 (hblk : ∀ g,g < w.heap.size->g ≠ b->w'.heap[g]? = w.heap[g]?) (hg : Dp w (.sl1 ys) u F2) (hex : ∀ g,F2 g->¬ F g) :
 DpR β w' e k (setC es c.1 c.2 [.sl1 ys]) none v (fun g => F g∨F2 g) (setL xs (c.1 * k + c.2) [u]) (fun q g => if q=c.1 * k + c.2 then F2 g else fs q g):=by
 obtain ⟨f1,f2⟩:=flat_setC (fo:=c.2) (ds:=[.sl1 ys]) h.hk hi (by simp; omega) (by simp) (by simp [D.isAgg])
 have fl:=flat_length h.hk
 have hxl:=h.hw.1
 have hle : c.1 * k + k<=es.length * k:=by
  have : (c.1 + 1) * k<=es.length * k:=Nat.mul_le_mul_right k (by omega)
  rwa [Nat.add_mul,Nat.one_mul] at this
 have hFb : F b:=(h.hb b hv).1
 refine ⟨h.hk0,f2,by simpa [setC] using hw',fun b' hb' => ⟨.inl (h.hb b' hb').1,fun q => ?_⟩,fun q g => ?_,fun q q' g => ?_,fun q hq _ => ?_,fun _ _ h => by cases h⟩
 . split
   . exact fun hg => hex _ hg (h.hb b' hb').1
   . exact (h.hb b' hb').2 q
 . split
   . exact fun hg => .inr hg
   . exact fun hg => .inl (h.hf _ _ hg)
 . split<;>split
   . intro _ _; omega
   . intro h1 h2; exact absurd (h.hf _ _ h2) (hex _ h1)
   . intro h1 h2; exact absurd (h.hf _ _ h1) (hex _ h2)
   . exact h.hd q q' g
 . rw [f1,setL_length (ds:=flat es) (xs:=[.sl1 ys]) (by simp; omega)] at hq
   rw [f1,setL_getD (ds:=flat es) (xs:=[.sl1 ys]) (by simp; omega),setL_getD (ds:=xs) (xs:=[u]) (by simp; omega)]
   by_cases e1 : q=c.1 * k + c.2
   . subst e1
     simp only [List.length_singleton,Nat.le_refl,Nat.lt_add_one,and_self,if_true,Nat.sub_self,List.getD_cons_zero]
     refine hg.move fun g hg hlt => hblk g hlt ?_
     rintro rfl
     exact hex _ hg hFb
   . rw [if_neg (by simp; omega),if_neg (by simp; omega)]
     simp only [e1,if_false]
     refine (h.hr q hq (fun c' d' e2 => by cases e2; exact fun e3 => e1 e3.symm)).move fun g hg hlt => hblk g hlt ?_
     rintro rfl
     exact (h.hb g hv).2 q hg
theorem storeH_done (h : SimB Z β φ N B M w0 st a w) {o : Oper} {c st' t ad x j} (hd : o.dst=none) (hop : o.op=.store t ad x) (hq : storeH P st t ad x j=some (c,st')) (hc : c) : Done P Z N B M w0 o a w st':=by
 unfold storeH at hq
 split at hq
 . rename_i τ es c0 j' k i fo d hj had hx
   split at hq
   . rename_i ys hdo
     cases hq
     obtain ⟨rfl,hdj,rfl,rfl,hi,hk,hfo,hct⟩:=hc
     have hadr:=ev_spec h had
     have hxv:=ev_sl h hx
     have hOd:=h.objs d _ hdo
     have hOj:=h.objs j' _ hj
     generalize had' : a.eval ad=adv at *
     cases hadr with
     | pe hβ =>
       rename_i b n cp
       have hslv : (β j').ownBlock=some b:=by rw [hβ]; rfl
       have hltj : ∀ g,φ j' g->g < w.heap.size:=fun g hg => hOj.block_lt hg
       obtain ⟨e,k2,xs,fs,ht,hR⟩ : ∃ e k2 xs fs,(τ=none∨τ=some (e,k2))∧DpR β w e k2 es (some (c0,none)) (β j') (φ j') xs fs:=by
        cases hOj with
        | dp _ hD => exact hD.at (by rintro rfl; simp at hi)
       have hkk : k2=k:=by rw [← hk]; exact (hR.hk _ (el_mem hi)).symm
       subst hkk
       have hxl:=hR.hw.1
       have hle : c0.1 * k2 + k2<=es.length * k2:=by
        have : (c0.1 + 1) * k2<=es.length * k2:=Nat.mul_le_mul_right k2 (by omega)
        rwa [Nat.add_mul,Nat.one_mul] at this
       obtain ⟨a0,n0,cp0,hsd⟩:=hOd.is_slice
       have hcu : (a.eval x).cells.toList=[β d]:=by rw [hxv,hsd]; rfl
       have hex : ∀ g,φ d g->¬ φ j' g:=fun g hg hg' => hdj (h.disj d j' _ _ g hdo hj hg hg')
       obtain ⟨w',r1,r2,r3⟩:=store_row (P:=P) hR.hw hslv (off:=c0.1 * k2 + c0.2) (us:=[β d]) (by simp; omega) (by intro u hu; rw [List.mem_singleton] at hu; subst hu; rw [hsd]; rfl)
       have hDd : Dp w (.sl1 ys) (β d) (φ d):=by cases hOd with | d1 _ hD => exact hD
       have hR':=hR.fill hi hfo hslv r2 (fun g hlt hne => r3.block g hlt (by simp; exact hne)) hDd hex
       refine ⟨.skip,w',?_,.inr ⟨rfl,β,updF φ j' (fun g => φ j' g∨φ d g),?_⟩⟩
       . have hsz : (a.eval x).cells.size=P.cellsOf t:=by rw [← Array.length_toList,hcu,hct]; rfl
         simp [execOp,hop,had',run_storeAt' hsz (by omega) (by rw [hcu]; exact r1)]
       . rw [hd]
         refine h.regroup (fun q => q=j'∨q=d) (fun q => q=j') r3.os r3.tape r3.output r3.size r3.drawn (fun g hlt hn => r3.block g hlt fun eg => hn j' _ (.inl rfl) hj rfl ((hR.hb g (hslv.trans eg.symm)).1)) (fun q av hq => ?_) (fun q ob' hq => ?_) (fun q q' g hq hq' _ _ => hq.trans hq'.symm)
         . obtain ⟨_,h2⟩:=lk_wipeS hq
           exact h2.imp id fun h2 => ⟨h2,fun _ hr => hr⟩
         . rw [lk_ins] at hq
           split at hq
           . rename_i eq
             subst eq; cases hq
             refine .inr ⟨rfl,fun g hg => .inr ?_,fun S' _ => ?_⟩
             . rw [updF_eq] at hg
               exact hg.elim (fun hg => ⟨q,_,.inl rfl,hj,rfl,hg⟩) fun hg => ⟨d,_,.inr rfl,hdo,rfl,hg⟩
             . rw [updF_eq]
               refine .dp (fun g hg => Nat.lt_of_lt_of_le ?_ r3.size) (.inr ⟨_,_,_,_,ht,hR'⟩)
               exact hg.elim (fun hg => hltj g hg) fun hg => hOd.block_lt hg
           . rename_i hne
             obtain ⟨h1,y,h2,rfl⟩:=lk_wipeO hq
             exact .inl ⟨by rintro (h3 | h3); exact hne h3; exact h1 h3,updF_ne q hne,rfl,y,h2,wipe_res.symm,fun S w v F hO => hO.wipe fun _ _ => rfl⟩
   . cases hq
 . cases hq
theorem storeD_done (h : SimB Z β φ N B M w0 st a w) {o : Oper} {c st' t ad x j} (hd : o.dst=none) (hop : o.op=.store t ad x) (hq : storeD P st t ad x j=some (c,st')) (hc : c) : Done P Z N B M w0 o a w st':=by
 unfold storeD at hq
 split at hq
 . rename_i τ es st1 hdeep
   obtain ⟨φ1,h1,hj⟩:=deepAt_spec h hdeep
   split at hq
   . rename_i j' k i fo av had hx
     split at hq
     . rename_i cs hcs
       split at hq
       . rename_i c0 ds ks he
         cases hq
         obtain ⟨rfl,hi,hk,hds,h0,hfo,hlive,hc0⟩:=hc
         have hadr:=ev_spec h1 had
         have hxr:=ev_spec h1 hx
         obtain ⟨e1,e2⟩:=cellsAV_spec hxr hcs (fun q hq => by
          obtain ⟨oi,hoi⟩:=live_sl hlive (.inl hq)
          exact sl_slice h1 hoi)
         obtain ⟨d1,d2,d3,d4,gs,g1,g2,g3⟩:=eat_spec h1 he hc0 e1 e2
         generalize had' : a.eval ad=adv at *
         cases hadr with
         | pe hβ =>
           rename_i b n cp
           have hslv : (β j').ownBlock=some b:=by rw [hβ]; rfl
           have hOj:=h1.objs j' _ hj
           have hltj : ∀ g,φ1 j' g->g < w.heap.size:=fun g hg => hOj.block_lt hg
           obtain ⟨e,k2,xs,fs,ht,hR⟩ : ∃ e k2 xs fs,(τ=none∨τ=some (e,k2))∧DpR β w e k2 es none (β j') (φ1 j') xs fs:=by
            cases hOj with
            | dp _ hD => exact hD.at (by rintro rfl; simp at hi)
           have hkk : k2=k:=by rw [← hk]; exact (hR.hk _ (el_mem hi)).symm
           subst hkk
           have hxl:=hR.hw.1
           have hle : i * k2 + k2<=es.length * k2:=by
            have : (i + 1) * k2<=es.length * k2:=Nat.mul_le_mul_right k2 (by omega)
            rwa [Nat.add_mul,Nat.one_mul] at this
           obtain ⟨w',r1,r2,r3⟩:=store_row (P:=P) hR.hw hslv (off:=i * k2 + fo) (us:=(a.eval x).cells.toList) (by omega) d3
           have hex : ∀ c g,gs c g->¬ φ1 j' g:=fun c g hg hg' => by
            obtain ⟨k',hk',y,hy,_,hgy⟩:=g2 c g hg
            exact d4 ((h1.disj j' k' _ y g hj hy hg' hgy) ▸ hk')
           have hR':=hR.put (F':=fun g => φ1 j' g∨∃ c,gs c g) (ds:=ds) hi (by omega) (by omega) (by omega) d2 hslv r2 (fun g hlt hne => r3.block g hlt (by simp; exact hne)) g1 g3 hex (fun g hg => .inl hg) (fun c g hg => .inr ⟨c,hg⟩)
           refine ⟨.skip,w',?_,.inr ⟨rfl,β,updF φ1 j' (fun g => φ1 j' g∨∃ c,gs c g),?_⟩⟩
           . have hsz : (a.eval x).cells.size=P.cellsOf t:=by have:=e1; rw [Array.length_toList] at this; omega
             simp [execOp,hop,had',run_storeAt' hsz h0 r1]
           . rw [hd]
             refine h1.regroup (fun q => q=j'∨q ∈ ks) (fun q => q=j') r3.os r3.tape r3.output r3.size r3.drawn (fun g hlt hn => r3.block g hlt fun eg => hn j' _ (.inl rfl) hj rfl ((hR.hb g (hslv.trans eg.symm)).1)) (fun q av hq => ?_) (fun q ob' hq => ?_) (fun q q' g hq hq' _ _ => hq.trans hq'.symm)
             . exact (killL_s hq).imp id fun h2 => ⟨h2.1,fun _ hr => hr⟩
             . rw [lk_ins] at hq
               split at hq
               . rename_i eq
                 subst eq; cases hq
                 refine .inr ⟨rfl,fun g hg => .inr ?_,fun S' _ => ?_⟩
                 . rw [updF_eq] at hg
                   rcases hg with hg | ⟨c,hg⟩
                   . exact ⟨q,_,.inl rfl,hj,rfl,hg⟩
                   . obtain ⟨k',hk',y,hy,hyr,hgy⟩:=g2 c g hg
                     exact ⟨k',y,.inr hk',hy,hyr,hgy⟩
                 . rw [updF_eq]
                   refine .dp (fun g hg => ?_) (.inr ⟨_,_,_,_,ht,hR'⟩)
                   refine Nat.lt_of_lt_of_le ?_ r3.size
                   rcases hg with hg | ⟨c,hg⟩
                   . exact hltj g hg
                   . obtain ⟨k',hk',y,hy,_,hgy⟩:=g2 c g hg
                     exact (h1.objs k' y hy).block_lt hgy
               . rename_i hne
                 obtain ⟨h2,y,h3,h4⟩:=killL_o hq
                 exact .inl ⟨by rintro (h6 | h6); exact hne h6; exact h2 h6,updF_ne q hne,rfl,y,h3,killL_res hq h3,fun S w v F hO => h4 β β S w v F (fun _ _ => rfl) hO⟩
       . cases hq
     . cases hq
   . cases hq
 . exact storeH_done h hd hop hq hc

theorem lend_sim {τ : Option (TypeId × Nat)} {es ys : List D} {φ1 : Nat->Nat->Prop} {st1 : St} {j' d i fo : Nat} {e : TypeId} {k2 : Nat} {xs : List Value} {fs : Nat->Nat->Prop} (h1 : SimB Z β φ1 N B M w0 st1 a w) (hj : lk j' st1.o=some (.dp τ es none)) (hjd : j' ≠ d)
 (ht : τ=none∨τ=some (e,k2)) (hR : DpR β w e k2 es none (β j') (φ1 j') xs fs) (hi : i < es.length) (hfo : fo < k2) (hltj : ∀ g,φ1 j' g->g < w.heap.size)
 (hdp : Dp w (.slice ys) (xs.getD (i * k2 + fo) Go.undef) (fs (i * k2 + fo))) :
 SimB Z (upd β d (xs.getD (i * k2 + fo) Go.undef)) (updF (updF φ1 j' (fun g => φ1 j' g∧¬ fs (i * k2 + fo) g)) d (fs (i * k2 + fo))) N B M w0
  ⟨wipeS d st1.s,ins d (.dp none ys none) (ins j' (.dp τ es (some ((i,fo),some d))) (wipeO d st1.o))⟩ a w:=by
 have hjd' : j' ≠ d:=hjd
 have f1 : updF (updF φ1 j' (fun g => φ1 j' g∧¬ fs (i * k2 + fo) g)) d (fs (i * k2 + fo)) j'=fun g => φ1 j' g∧¬ fs (i * k2 + fo) g:=by rw [updF_ne _ hjd',updF_eq]
 refine h1.regroup (fun q => q=j'∨q=d) (fun q => q=j'∨q=d) rfl rfl rfl (Nat.le_refl _) (Nat.le_refl _) (fun _ _ _ => rfl) (fun q av hq => ?_) (fun q ob' hq => ?_) (fun q q' g hq hq' hg hg' => ?_)
 . obtain ⟨h2,h3⟩:=lk_wipeS hq
   exact h3.imp id fun h3 => ⟨h3,fun _ hr => hr.other upd_ne h2⟩
 . rw [lk_ins] at hq
   split at hq
   . rename_i eq
     subst eq; cases hq
     refine .inr ⟨.inr rfl,fun g hg => .inr ?_,fun S' _ => ?_⟩
     . rw [updF_eq] at hg; exact ⟨j',_,.inl rfl,hj,rfl,hR.hf _ _ hg⟩
     . rw [upd_eq,updF_eq]; exact .dp (fun g hg => hltj g (hR.hf _ _ hg)) (.of hdp)
   . rename_i hne
     rw [lk_ins] at hq
     split at hq
     . rename_i eq
       subst eq; cases hq
       refine .inr ⟨.inl rfl,fun g hg => .inr ?_,fun S' _ => ?_⟩
       . rw [f1] at hg; exact ⟨q,_,.inl rfl,hj,rfl,hg.1⟩
       . rw [f1,upd_ne _ hne]
         refine .dp (fun g hg => hltj g hg.1) (.inr ⟨e,k2,xs,fun c g => if c=i * k2 + fo then False else fs c g,ht,hR.hk0,hR.hk,hR.hw,fun b hb => ⟨⟨(hR.hb b hb).1,(hR.hb b hb).2 _⟩,fun c => ?_⟩,fun c g => ?_,fun c c' g => ?_,fun c hc hn => ?_,fun c d' he' => ?_⟩)
         . split
           . exact fun h => h
           . exact (hR.hb b hb).2 c
         . split
           . exact fun h => h.elim
           . rename_i hcc; exact fun hg => ⟨hR.hf c g hg,fun hg' => hcc (hR.hd _ _ g hg hg')⟩
         . split<;>split
           . exact fun h => h.elim
           . exact fun h => h.elim
           . exact fun _ h => h.elim
           . exact hR.hd c c' g
         . have hcc : c ≠ i * k2 + fo:=fun e => hn (i,fo) (some d) rfl e.symm
           simp only [hcc,if_false]
           exact hR.hr c hc (by simp)
         . cases he'
           exact ⟨hi,hfo,upd_eq,fun g => by simp⟩
     . rename_i hne2
       obtain ⟨h2,y,h3,rfl⟩:=lk_wipeO hq
       exact .inl ⟨by rintro (h6 | h6); exact hne2 h6; exact hne h6,by rw [updF_ne q hne,updF_ne q hne2],upd_ne q hne,y,h3,wipe_res.symm,fun S w v F hO => hO.wipe upd_ne⟩
 . rcases hq with rfl | rfl<;>rcases hq' with rfl | rfl
   . rfl
   . rw [f1] at hg; rw [updF_eq] at hg'; exact absurd hg' hg.2
   . rw [f1] at hg'; rw [updF_eq] at hg; exact absurd hg hg'.2
   . rfl
theorem borrow_done (h : SimB Z β φ N B M w0 st a w) {o : Oper} {d c st' t x} (hd : o.dst=some d) (hN : d < N) (hop : o.op=.load t x) (hq : borrowA P st d t x=some (c,st')) (hc : c) : Done P Z N B M w0 o a w st':=by
 unfold borrowA at hq
 split at hq
 . rename_i j _ _ _ hx0
   split at hq
   . rename_i τ es st1 hdeep
     obtain ⟨φ1,h1,hj⟩:=deepAt_spec h hdeep
     split at hq
     . rename_i j' k i fo hx
       split at hq
       . cases hq
       . rename_i hjd
         split at hq
         . rename_i hty
           split at hq
           . rename_i ys hys
             cases hq
             obtain ⟨rfl,hi,hk,hfo⟩:=hc
             simp only [Bool.and_eq_true,Bool.not_eq_true'] at hty
             obtain ⟨e0,he0⟩:=Option.isSome_iff_exists.1 hty.1
             have hu:=elemSl_spec he0
             have hxr:=ev_spec h1 hx
             generalize hxv : a.eval x=xv at *
             cases hxr with
             | pe hβ =>
               rename_i b n cp
               have hOj:=h1.objs j' _ hj
               have hltj : ∀ g,φ1 j' g->g < w.heap.size:=fun g hg => hOj.block_lt hg
               obtain ⟨e,k2,xs,fs,ht,hR⟩ : ∃ e k2 xs fs,(τ=none∨τ=some (e,k2))∧DpR β w e k2 es none (β j') (φ1 j') xs fs:=by
                cases hOj with
                | dp _ hD => exact hD.at (by rintro rfl; simp at hi)
               have hkk : k2=k:=by rw [← hk]; exact (hR.hk _ (el_mem hi)).symm
               subst hkk
               have hxl:=hR.hw.1
               have hle : i * k2 + k2<=es.length * k2:=by
                have : (i + 1) * k2<=es.length * k2:=Nat.mul_le_mul_right k2 (by omega)
                rwa [Nat.add_mul,Nat.one_mul] at this
               have fl:=flat_length hR.hk
               have hw':=hR.hw
               rw [hβ] at hw'
               have hcell:=ownsRow_cell hw' rfl (i:=i * k2 + fo) (by omega)
               have hdp:=hR.hr (i * k2 + fo) (by omega) (by simp)
               rw [flat_getD hR.hk hi hfo,hys] at hdp
               have hag : aggT P t=false:=by simpa using hty.2
               refine Done.value (v:=xs.getD (i * k2 + fo) Go.undef) (w':=w) ?_ ?_
               . simp only [execOp,hop,hxv,Sem.run_bind,run_loadAt_ptr]
                 simp [loadVar,run_isAgg hu,hag,run_load,hcell]
               . have hsim:=lend_sim h1 hj hjd ht hR hi hfo hltj hdp
                 rw [hd]
                 refine ⟨_,_,hsim.put (dst:=some d) (fun _ e => by cases e; exact hN) ?_⟩
                 have:=Rel.sl (β:=upd β d (xs.getD (i * k2 + fo) Go.undef)) (S:=free Z (updF (updF φ1 j' (fun g => φ1 j' g∧¬ fs (i * k2 + fo) g)) d (fs (i * k2 + fo))) (ins d (.dp none ys none) (ins j' (.dp τ es (some ((i,fo),some d))) (wipeO d st1.o)))) (w:=w) d
                 rwa [upd_eq] at this
           . cases hq
         . cases hq
     . cases hq
   . cases hq
 . rename_i j q k i fo hx
   split at hq
   . rename_i e k' es vs hj
     split at hq
     . cases hq
     . rename_i ha
       split at hq
       . rename_i p hp
         cases hq
         obtain ⟨rfl,hi,hfo,hu⟩:=hc
         have hr:=ev_spec h hx
         have hO:=h.objs j _ hj
         generalize hvx : a.eval x=vx at *
         cases hr with
         | @pv _ _ _ _ _ b n cc hβ =>
           cases hO with
           | arw hlt xs hk0 hk hw hbb hrr hvv =>
             have hmem:=List.mem_of_find?_eq_some hp
             have hpq : p.1=q:=by simpa using List.find?_some hp
             obtain ⟨h1,b',c',h2,h3,h4⟩:=hvv p.1 p.2 hmem
             rw [hpq,hβ] at h2
             cases h2
             have hle : i * k + fo < p.2 * k:=by
              have : (i + 1) * k<=p.2 * k:=Nat.mul_le_mul_right k (by omega)
              rw [Nat.add_mul,Nat.one_mul] at this; omega
             have hle2 : p.2 * k<=es.length * k:=Nat.mul_le_mul_right k h1
             obtain ⟨d0,hd0⟩:=Option.isSome_iff_exists.1 hu
             have hcell:=h4 (i * k + fo) hle
             refine Done.value (v:=xs.getD (i * k + fo) Go.undef) (w':=w) ?_ ?_
             . have hl : (Instr.loadAt t (.pointer (some ⟨b,i * k + fo,none⟩))).run P w=.ok (xs.getD (i * k + fo) Go.undef) w:=by
                rw [run_loadAt_ptr]; simp [loadVar,run_isAgg hd0,ha,run_load,hcell]
               simp [execOp,hop,hvx,hl,Result.andThen]
             . rw [hd]
               refine ⟨_,_,h.put (dst:=some d) (fun _ e => by cases e; exact hN) (.d ?_)⟩
               have h5:=hrr (i * k + fo) (by rw [flat_length hk]; omega)
               rwa [flat_getD hk (by omega) hfo] at h5
       . cases hq
   . cases hq
 . cases hq

theorem fill_one {k : Nat} {zs : Array Value} {v : Value} (hz : zs.size=k) (hv : v.cells.size=k) : ∃ rs : Array Value,Instr.fill (fun i => some (i * k,k)) zs [(0,v)]=some rs∧rs.toList=v.cells.toList:=by
 refine ⟨(v.cells.zipIdx.foldl (fun cs (c : Value × Nat) => cs.setIfInBounds (0 * k + c.2) c.1) zs),?_,?_⟩
 . simp [Instr.fill,hv,hz]
 . rw [← Array.foldl_toList,Array.toList_zipIdx]
   have key:=fun i => foldl_set_getD (0 * k) v.cells.toList 0 zs i (by simp; omega)
   apply List.ext_getElem
   . rw [Array.length_toList,(key 0).2]; simp; omega
   . intro i h1 h2
     have e1 : ∀ (l : List Value) (h : i < l.length),l[i]=l.getD i Go.undef:=fun l h => by simp [List.getD_eq_getElem?_getD,h]
     rw [e1 _ h1,e1 _ h2,(key i).1,if_pos (by simp at h2 ⊢; omega)]
     simp

theorem buildD_done (h : SimB Z β φ N B M w0 st a w) {o : Oper} {d c st' t len} {ps : Array (Nat × Operand)} (hd : o.dst=some d) (hN : d < N) (hop : o.op=.buildSlice t len ps) (hq : buildD P st d t len ps.toList=some (c,st')) (hc : c) : Done P Z N B M w0 o a w st':=by
 unfold buildD at hq
 split at hq
 . rename_i x hps
   split at hq
   . rename_i e av he hx
     split at hq
     . rename_i cs hcs
       split at hq
       . rename_i c0 ds ks heat
         cases hq
         obtain ⟨hds,hk0,hk24,hz,hzk,hag,hlive,hc0⟩:=hc
         have hu:=elemSl_spec he
         obtain ⟨z,hz⟩:=Option.isSome_iff_exists.1 hz
         obtain ⟨i,zv,hi,hiz,hzr⟩:=zeroD_spec hz
         have hzk:=hzk z hz
         have hzsz : zv.cells.size=P.cellsOf e:=by
          have:=(rd_cells (hzr (fun _ => True) w)).1
          simpa [hzk] using this
         have hxr:=ev_spec h hx
         obtain ⟨e1,e2⟩:=cellsAV_spec hxr hcs (fun q hq => by
          obtain ⟨oi,hoi⟩:=live_sl hlive (.inl hq)
          exact sl_slice h hoi)
         obtain ⟨d1,d2,d3,d4,gs,g1,g2,g3⟩:=eat_spec h heat hc0 e1 e2
         have hvsz : (a.eval x).cells.size=P.cellsOf e:=by have:=e1; rw [Array.length_toList] at this; omega
         obtain ⟨rs,f1,f2⟩:=fill_one (k:=P.cellsOf e) (zs:=(Array.range (1 * P.cellsOf e)).map fun j => zv.cells[j % zv.cells.size]!) (v:=a.eval x) (by simp) hvsz
         have hrsz : rs.size=P.cellsOf e:=by have:=congrArg List.length f2; simp at this; omega
         have hpa : ps=#[(0,x)]:=by cases ps; simp at hps; rw [hps]
         have hlt2 : ∀ c g,gs c g->g < w.heap.size:=fun c g hg => by
          obtain ⟨k',hk',y,hy,_,hgy⟩:=g2 c g hg
          exact (h.objs k' y hy).block_lt hgy
         -- the element
         have hy : (bif aggT P e then D.agg ds else ds.getD 0 .nilptr).cells=ds:=by
          cases ha : aggT P e with
          | true => rfl
          | false =>
            have hk1 : P.cellsOf e=1:=hag.resolve_left (by simp [ha])
            obtain ⟨q,rfl⟩ : ∃ q,ds=[q]:=List.length_eq_one_iff.1 (by omega)
            rw [cond_false,List.getD_cons_zero]
            exact cells_one (d2 q (by simp))
         refine Done.value (v:=.slice (some ⟨w.heap.size,0,none⟩) 1 1) (w':=w.alloc (.cells rs e)) ?_ ?_
         . have hns : ¬ (1 * P.cellsOf e > 2 ^ 24):=by omega
           have hn0 : ¬ (1 * P.cellsOf e=0):=by omega
           simp only [execOp,hop,hpa,Instr.buildSlice,Sem.run_bind,run_underlying hu,Result.andThen_ok,run_sizeOf_pos hk0,hns,if_false,hn0,Sem.run_pure,zeroValue,typeInfo]
           have f1' : Instr.fill (fun i => some (i * P.cellsOf e,P.cellsOf e)) ((Array.range (1 * P.cellsOf e)).map fun j => zv.cells[j % zv.cells.size]!) [(0,a.eval x)]=some rs:=f1
           simp only [Nat.one_mul] at f1'
           simp [hi,hiz,f1',newRow]
         . have hgrow:=grownBy_alloc w (.cells rs e)
           have hown : (w.alloc (.cells rs e)).ownsRow 0 e (P.cellsOf e) (.slice (some ⟨w.heap.size,0,none⟩) 1 1) 1 rs.toList:=World.ownsRow_lit (base:=0) (e:=e) (size:=P.cellsOf e) w rs 1 (Nat.zero_le _) (by decide) (by omega)
           have hsim : SimB Z (upd β d (.slice (some ⟨w.heap.size,0,none⟩) 1 1)) (updF φ d (fun g => g=w.heap.size∨∃ c,gs c g)) N B M w0
            ⟨(killL (d :: ks) st).s,ins d (.dp (some (e,P.cellsOf e)) [bif aggT P e then .agg ds else ds.getD 0 .nilptr] none) (killL (d :: ks) st).o⟩ a (w.alloc (.cells rs e)):=by
            refine h.regroup (fun q => q=d∨q ∈ ks) (fun q => q=d) hgrow.os hgrow.tape hgrow.output hgrow.size hgrow.drawn (fun g hlt _ => hgrow.block g hlt (by simp)) (fun q av hq => ?_) (fun q ob' hq => ?_) (fun q q' g hq hq' _ _ => hq.trans hq'.symm)
            . exact (killL_s hq).imp id fun h2 => ⟨h2.1,fun _ hr => hr.other upd_ne (h2.2 d (by simp))⟩
            . rw [lk_ins] at hq
              split at hq
              . rename_i eq
                subst eq; cases hq
                refine .inr ⟨rfl,fun g hg => ?_,fun S' _ => ?_⟩
                . rw [updF_eq] at hg
                  rcases hg with hg | ⟨c,hg⟩
                  . exact .inl (by omega)
                  . obtain ⟨k',hk',y,hy,hyr,hgy⟩:=g2 c g hg
                    exact .inr ⟨k',y,.inr hk',hy,hyr,hgy⟩
                . rw [upd_eq,updF_eq]
                  refine .dp (fun g hg => ?_) (.inr ⟨e,P.cellsOf e,rs.toList,gs,.inr rfl,hk0,fun y hy' => ?_,by simpa using hown,fun b hb => ?_,fun c g hg => .inr ⟨c,hg⟩,g3,fun c hc _ => ?_,fun _ _ h => by cases h⟩)
                  . have : (w.alloc (.cells rs e)).heap.size=w.heap.size + 1:=by simp
                    rcases hg with hg | ⟨c,hg⟩
                    . omega
                    . have:=hlt2 c g hg; omega
                  . simp only [List.mem_singleton] at hy'
                    subst hy'
                    rw [hy]; exact hds
                  . simp only [Value.ownBlock,Option.some.injEq] at hb
                    subst hb
                    exact ⟨.inl rfl,fun c hg => by have:=hlt2 c _ hg; omega⟩
                  . have hfl : flat [bif aggT P e then D.agg ds else ds.getD 0 .nilptr]=ds:=by simp only [flat,List.flatMap_cons,List.flatMap_nil,List.append_nil,hy]
                    rw [hfl] at hc ⊢
                    rw [f2]
                    exact (g1 c hc).move fun g hg hlt => hgrow.block g hlt (by simp)
              . rename_i hne
                obtain ⟨h2,y,h3,h4⟩:=killL_o hq
                simp only [List.mem_cons,not_or] at h2
                exact .inl ⟨by rintro (h6 | h6); exact hne h6; exact h2.2 h6,updF_ne q hne,upd_ne q hne,y,h3,killL_res hq h3,fun S w v F hO => h4 β _ S w v F (fun i hi => upd_ne i fun e => hi (by simp [e])) hO⟩
           rw [hd]
           refine ⟨_,_,hsim.put (dst:=some d) (fun _ e => by cases e; exact hN) ?_⟩
           have:=Rel.sl (β:=upd β d (.slice (some ⟨w.heap.size,0,none⟩) 1 1)) (S:=free Z (updF φ d (fun g => g=w.heap.size∨∃ c,gs c g)) (ins d (.dp (some (e,P.cellsOf e)) [bif aggT P e then .agg ds else ds.getD 0 .nilptr] none) (killL (d :: ks) st).o)) (w:=w.alloc (.cells rs e)) d
           rwa [upd_eq] at this
       . cases hq
     . cases hq
   . cases hq
 . cases hq

theorem atom_cells {c : D} (h : c.atom=true) : c.cells=[c]:=by
 cases c<;>first | rfl | cases h
theorem flat_atoms : ∀ {cs : List D},(∀ c ∈ cs,c.atom=true)->flat cs=cs
 | [],_ => rfl
 | c :: r, h => by
   have:=flat_atoms (cs:=r) fun d hd => h d (by simp [hd])
   simp only [flat,List.flatMap_cons] at this ⊢
   rw [this,atom_cells (h c (by simp))]; rfl
theorem store_done (h : SimB Z β φ N B M w0 st a w) {o : Oper} {c st' t ad x} (hd : o.dst=none) (hop : o.op=.store t ad x) (hq : storeA P st t ad x=some (c,st')) (hc : c) : Done P Z N B M w0 o a w st':=by
 have fin : ∀ {st2 w' β' φ'},(Instr.storeAt t (a.eval ad) (a.eval x)).run P w=.ok () w'->SimB Z β' φ' N B M w0 st2 a w'->Done P Z N B M w0 o a w st2:=by
  intro st2 w' β' φ' h1 h2
  refine ⟨.skip,w',?_,.inr ⟨rfl,β',φ',?_⟩⟩
  . simp [execOp,hop,h1]
  . rw [hd]; exact h2
 unfold storeA at hq
 split at hq
 . rename_i j off had
   split at hq
   . rename_i e cells av hj hx
     split at hq
     . rename_i cs hb
       cases hq
       obtain ⟨hcl,h0,hle,hat,hlive⟩:=hc
       have hrel:=ev_spec h hx
       have hadr:=ev_spec h had
       have hO:=h.objs j _ hj
       obtain ⟨e1,e2,e3⟩:=boxCells_spec (cs:=cs) hrel hb (by
        intro i hi
        obtain ⟨oi,hoi⟩:=live_sl hlive hi
        exact sl_slice h hoi)
       generalize had' : a.eval ad=adv at *
       cases hadr with
       | p hβ =>
         rename_i b n cp
         have hslv : (β j).ownBlock=some b:=by rw [hβ]; rfl
         generalize hvj : β j=vj at *
         cases hO with
         | box hF xs hne hw hr =>
           have hxl : xs.length=cells.length:=by simpa using hw.1
           obtain ⟨w',h1,h2,h3⟩:=store_row (P:=P) hw hslv (off:=off) (us:=(a.eval x).cells.toList) (by omega) (e3 hat)
           refine fin (run_storeAt' (by simpa [hcl] using e1) h0 h1) (h.mod hj h3 (fun g hg => by rw [hF]; cases hg; exact hslv) fun S' m1 m2 => ?_)
           rw [hvj]
           refine .box hF (setL xs off (a.eval x).cells.toList) hne (by rw [setL_length hle]; exact h2) fun i hi => ?_
           rw [setL_length hle] at hi
           rw [setL_getD hle,setL_getD (by omega),e1]
           split
           . exact m1 _ _ (e2 _ (by omega))
           . exact m1 _ _ (hr i hi)
     . cases hq
   . rename_i e k es cs hj hx
     cases hq
     obtain ⟨rfl,rfl,hl,hct,h0,hat⟩:=hc
     have hrel:=ev_spec h hx
     have hadr:=ev_spec h had
     have hO:=h.objs j _ hj
     have hyr : Rd (free Z φ st.o) w (.agg cs) (a.eval x):=by cases hrel with | d h => exact h
     generalize had' : a.eval ad=adv at *
     cases hadr with
     | p hβ =>
       rename_i b n cp
       have hslv : (β j).ownBlock=some b:=by rw [hβ]; rfl
       generalize hvj : β j=vj at *
       cases hO with
       | arv hF xs hne hk0 hk hw hr =>
         obtain ⟨c1,c2⟩:=rd_cells hyr
         have fl:=flat_length hk
         have hcl : (D.agg cs).cells.length=cs.length:=rfl
         have hxl : xs.length=es.length:=by have:=hw.1; omega
         have hfc : flat cs=cs:=flat_atoms hat
         obtain ⟨w',r1,r2,r3⟩:=store_row (P:=P) hw hslv (off:=0) (us:=(a.eval x).cells.toList) (by omega) (ok_ones hyr ⟨rfl,hat⟩)
         refine fin (run_storeAt' (by simpa [hcl,hct] using c1) h0 r1) (h.mod hj r3 (fun g hg => by rw [hF]; cases hg; exact hslv) fun S' m1 m2 => ?_)
         rw [hvj]
         refine .arv hF (setL xs 0 (a.eval x).cells.toList) hne (by omega) (fun z hz => by rw [atom_cells (hat z hz)]; rfl) (by rw [hfc,hl]; rw [fl,Nat.mul_one] at r2; exact r2) fun ii hii => ?_
         rw [hfc] at hii ⊢
         rw [setL_getD (by omega),if_pos ⟨by omega,by omega⟩]
         exact m2 _ _ (c2 ii hii)
   . cases hq
 . rename_i j k i fo had
   split at hq
   . exact storeD_done h hd hop hq hc
   split at hq
   . rename_i y st1 hy
     obtain ⟨h1,hyr⟩:=dOf_spec h hy
     have place : ∀ {es : List D} {xs : List Value} {k' : Nat} {S : Nat->Prop},(∀ x ∈ es,x.cells.length=k')->i < es.length->xs.length=es.length * k'->k=k' ->
      (∀ ii,ii < (flat es).length->Rd S w ((flat es).getD ii .nilptr) (xs.getD ii Go.undef)) ->
      y.ok k->∀ (S' : Nat->Prop) (w' : World),(∀ x u,Rd S w x u->Rd S' w' x u)->Rd S w y (a.eval x) ->
      (∀ ii,ii < (flat (es.set i y)).length->Rd S' w' ((flat (es.set i y)).getD ii .nilptr) ((setL xs (i * k + 0) (a.eval x).cells.toList).getD ii Go.undef)):=by
      intro es xs k' S hk hi hxl hkk hr hok S' w' m1 hyr2 ii hii
      subst hkk
      obtain ⟨c1,c2⟩:=rd_cells hyr2
      have hle : i * k + k<=es.length * k:=by
       have : (i + 1) * k<=es.length * k:=Nat.mul_le_mul_right k (by omega)
       rwa [Nat.add_mul,Nat.one_mul] at this
      have hyk:=hok.1
      have fl:=flat_length hk
      rw [flat_set hk hi hyk,setL_length (by omega)] at hii
      rw [flat_set hk hi hyk,setL_getD (by omega),setL_getD (by omega),Nat.add_zero,c1]
      split
      . exact m1 _ _ (c2 _ (by omega))
      . exact m1 _ _ (hr ii hii)
     split at hq
     . rename_i e k' es j' k2 i' fo' hj had2
       have hO:=h1.objs j _ hj
       have hadr:=ev_spec h1 had2
       split at hq
       . rename_i hagg
         cases hq
         obtain ⟨rfl,rfl,rfl,rfl,rfl,rfl,hkt,hi,hok⟩:=hc
         generalize had' : a.eval ad=adv at *
         cases hadr with
         | pe hβ =>
           rename_i b n cp
           have hslv : (β j').ownBlock=some b:=by rw [hβ]; rfl
           generalize hvj : β j'=vj at *
           cases hO with
           | arr hF xs hk0 hk hw hr =>
             have hle : i' * k2 + k2<=es.length * k2:=by
              have : (i' + 1) * k2<=es.length * k2:=Nat.mul_le_mul_right k2 (by omega)
              rwa [Nat.add_mul,Nat.one_mul] at this
             have hxl:=hw.1
             have hc1:=(rd_cells hyr).1
             have hyk:=hok.1
             obtain ⟨w',r1,r2,r3⟩:=store_row (P:=P) hw hslv (off:=i' * k2 + 0) (us:=(a.eval x).cells.toList) (by omega) (ok_ones hyr hok)
             refine fin (run_storeAt' (by simpa [hyk,hkt] using hc1) (by omega) r1) (h1.mod hj r3 (fun g hg => by rw [hF]; cases hg; exact hslv) fun S' m1 m2 => ?_)
             rw [hvj]
             refine .arr hF (setL xs (i' * k2 + 0) (a.eval x).cells.toList) hk0 (fun z hz => ?_) (by simpa using r2) (place hk hi hxl rfl hr hok S' w' m2 hyr)
             rcases List.mem_or_eq_of_mem_set hz with hz | rfl
             . exact hk z hz
             . exact hyk
       . rename_i hagg
         cases hq
         obtain ⟨rfl,rfl,rfl,rfl,rfl,hyt,ht0,hfo,hi,hat⟩:=hc
         generalize had' : a.eval ad=adv at *
         cases hadr with
         | pe hβ =>
           rename_i b n cp
           have hslv : (β j').ownBlock=some b:=by rw [hβ]; rfl
           generalize hvj : β j'=vj at *
           cases hO with
           | arr hF xs hk0 hk hw hr =>
             have hle : i' * k2 + k2<=es.length * k2:=by
              have : (i' + 1) * k2<=es.length * k2:=Nat.mul_le_mul_right k2 (by omega)
              rwa [Nat.add_mul,Nat.one_mul] at this
             have hxl:=hw.1
             obtain ⟨c1,c2⟩:=rd_cells hyr
             have hcl : (el es i').cells.length=k2:=hk _ (el_mem hi)
             have hnew : (setL (el es i').cells fo' y.cells).length=k2:=by rw [setL_length (by omega)]; exact hcl
             obtain ⟨w',r1,r2,r3⟩:=store_row (P:=P) hw hslv (off:=i' * k2 + fo') (us:=(a.eval x).cells.toList) (by omega) (ok_ones hyr ⟨rfl,hat⟩)
             refine fin (run_storeAt' (by simpa [hyt] using c1) ht0 r1) (h1.mod hj r3 (fun g hg => by rw [hF]; cases hg; exact hslv) fun S' m1 m2 => ?_)
             rw [hvj]
             have hks : ∀ z ∈ es.set i' (.agg (setL (el es i').cells fo' y.cells)),z.cells.length=k2:=fun z hz => by
              rcases List.mem_or_eq_of_mem_set hz with hz | rfl
              . exact hk z hz
              . exact hnew
             have fl:=flat_length hk
             refine .arr hF (setL xs (i' * k2 + fo') (a.eval x).cells.toList) hk0 hks (by simpa using r2) fun ii hii => ?_
             have hfs : flat (es.set i' (.agg (setL (el es i').cells fo' y.cells)))=setL (flat es) (i' * k2) (setL (el es i').cells fo' y.cells) :=
              flat_set (y:=.agg (setL (el es i').cells fo' y.cells)) hk hi hnew
             rw [hfs,setL_length (by omega)] at hii
             rw [hfs,setL_getD (ds:=flat es) (by omega),setL_getD (ds:=xs) (by omega),c1,hnew]
             have eo:=flat_getD hk (i:=i') (j:=ii - i' * k2) hi
             by_cases g1 : i' * k2<=ii∧ii < i' * k2 + k2
             . rw [if_pos g1,setL_getD (by omega)]
               by_cases g2 : i' * k2 + fo'<=ii∧ii < i' * k2 + fo' + y.cells.length
               . rw [if_pos g2,if_pos (by omega)]
                 have : ii - i' * k2 - fo'=ii - (i' * k2 + fo'):=by omega
                 rw [this]
                 exact m2 _ _ (c2 _ (by omega))
               . rw [if_neg g2,if_neg (by omega),← eo (by omega)]
                 have : i' * k2 + (ii - i' * k2)=ii:=by omega
                 rw [this]
                 exact m2 _ _ (hr ii hii)
             . rw [if_neg g1,if_neg (by omega)]
               exact m2 _ _ (hr ii hii)
     . rename_i e k' es j' k2 i' fo' hj had2
       have hO:=h1.objs j _ hj
       have hadr:=ev_spec h1 had2
       split at hq
       . rename_i hagg
         cases hq
         obtain ⟨rfl,rfl,rfl,rfl,rfl,rfl,hkt,hi,hok⟩:=hc
         generalize had' : a.eval ad=adv at *
         cases hadr with
         | pe hβ =>
           rename_i b n cp
           have hslv : (β j').ownBlock=some b:=by rw [hβ]; rfl
           generalize hvj : β j'=vj at *
           cases hO with
           | arv hF xs hne hk0 hk hw hr =>
             have hle : i' * k2 + k2<=es.length * k2:=by
              have : (i' + 1) * k2<=es.length * k2:=Nat.mul_le_mul_right k2 (by omega)
              rwa [Nat.add_mul,Nat.one_mul] at this
             have fl:=flat_length hk
             have hxl : xs.length=es.length * k2:=by have:=hw.1; omega
             have hc1:=(rd_cells hyr).1
             have hyk:=hok.1
             obtain ⟨w',r1,r2,r3⟩:=store_row (P:=P) hw hslv (off:=i' * k2 + 0) (us:=(a.eval x).cells.toList) (by omega) (ok_ones hyr hok)
             refine fin (run_storeAt' (by simpa [hyk,hkt] using hc1) (by omega) r1) (h1.mod hj r3 (fun g hg => by rw [hF]; cases hg; exact hslv) fun S' m1 m2 => ?_)
             rw [hvj]
             have hks : ∀ z ∈ es.set i' y,z.cells.length=k2:=fun z hz => by
              rcases List.mem_or_eq_of_mem_set hz with hz | rfl
              . exact hk z hz
              . exact hyk
             refine .arv hF (setL xs (i' * k2 + 0) (a.eval x).cells.toList) hne hk0 hks (by rw [flat_length hks]; simpa [fl] using r2) (place hk hi hxl rfl hr hok S' w' m2 hyr)
       . cases hq
     . cases hq
   . cases hq
 . cases hq

theorem run_cutHi {t e : TypeId} {a0 : Option Addr} {len cap : Nat} {k : IntKind} {h : Int} (hu : P.underlying t=some (.slice e)) (hk0 : 0 < P.cellsOf e) (h0 : 0<=h) (h1 : h<=len) (hcap : len<=cap) :
 (Instr.sliceAt t (.slice a0 len cap) none (some (.int k h)) none).run P w=.ok (.slice (if cap=0 then a0 else a0.map (·.add 0)) h.toNat cap) w:=by
 have b1 : (Instr.sliceBound (.int k h) cap .sliceAcap).run P w=.ok h.toNat w:=by
  simp [Instr.sliceBound,asIntOf,h0,show h<=(cap : Int) by omega]
 have b3 : (Instr.sliceBounds true len cap none (some (.int k h)) none).run P w=.ok (0,h.toNat,cap) w:=by
  simp only [Instr.sliceBounds,Sem.run_bind,Sem.run_pure,Result.andThen_ok]
  simp_all
 simp only [Instr.sliceAt,Sem.run_bind,run_underlying hu,Result.andThen_ok,Instr.slice,b3,run_sizeOf_pos hk0,Sem.run_pure]
 simp
theorem add_zero_addr {b off : Nat} : (⟨b,off,none⟩ : Addr).add 0=⟨b,off,none⟩:=by rw [add_eq]; simp
theorem flat_take {es : List D} {k h : Nat} (hk : ∀ x ∈ es,x.cells.length=k) : flat (es.take h)=(flat es).take (h * k):=by
 induction es generalizing h with
 | nil => simp [flat]
 | cons x r ih =>
   have hx:=hk x (by simp)
   cases h with
   | zero => simp [flat]
   | succ h =>
     have:=ih (h:=h) (fun e he => hk e (by simp [he]))
     simp only [flat,List.take_succ_cons,List.flatMap_cons] at this ⊢
     rw [this,Nat.add_mul,Nat.one_mul,List.take_append,List.take_of_length_le (l:=x.cells) (by omega)]
     congr 2; omega
theorem DpR.cut {β β' : Nat->Value} {w : World} {e k es a0 cap F xs fs} (h : DpR β w e k es none (.slice a0 es.length cap) F xs fs) {n : Nat} (hn : n<=es.length) :
 DpR β' w e k (es.take n) none (.slice a0 n cap) F (xs.take (n * k)) fs:=by
 have hl : (es.take n).length=n:=by simp; omega
 have hle : n * k<=es.length * k:=Nat.mul_le_mul_right k hn
 have hxl:=h.hw.1
 have fl:=flat_length h.hk
 have hb' : ∀ b,(Value.slice a0 n cap).ownBlock=some b->(Value.slice a0 es.length cap).ownBlock=some b:=fun b hb => by
  cases a0 with
  | none => cases hb
  | some ad => exact hb
 refine ⟨h.hk0,fun x hx => h.hk x (List.mem_of_mem_take hx),?_,fun b hb => h.hb b (hb' b hb),h.hf,h.hd,fun i hi _ => ?_,fun _ _ h => by cases h⟩
 . rw [hl]
   refine ⟨by simp; omega,?_⟩
   rcases h.hw.2 with ⟨h1,h2⟩ | ⟨g,c,cur,h1,h2,h3,h4,h5,h6,h7⟩
   . simp only [Value.slice.injEq] at h1
     obtain ⟨rfl,_,rfl⟩:=h1
     exact .inl ⟨by congr 1; omega,by omega⟩
   . simp only [Value.slice.injEq] at h1
     obtain ⟨rfl,_,rfl⟩:=h1
     refine .inr ⟨g,cap,cur,rfl,h2,h3,by omega,h5,h6,?_⟩
     rw [← h7,List.take_take]; congr 1; omega
 . rw [flat_take h.hk] at hi ⊢
   simp only [List.length_take] at hi
   have:=h.hr i (by omega) (by simp)
   simp only [List.getD_eq_getElem?_getD,List.getElem?_take] at this ⊢
   rw [if_pos (by omega),if_pos (by omega)]; exact this
theorem cutD_done (h : SimB Z β φ N B M w0 st a w) {o : Oper} {d c st' t x lo hi} (hd : o.dst=some d) (hN : d < N) (hop : o.op=.slice t x lo hi none) (hq : cutD P st d t x lo hi=some (c,st')) (hc : c) : Done P Z N B M w0 o a w st':=by
 unfold cutD at hq
 split at hq
 . rename_i j hx
   split at hq
   . rename_i τ es st1 e hdeep he
     obtain ⟨φ1,h1,hj⟩:=deepAt_spec h hdeep
     split at hq
     . rename_i hh hhi
       cases hq
       obtain ⟨g0,g1,g2,g3⟩:=hc
       have hu:=elemSl_spec he
       obtain ⟨k2,hb2⟩:=bound_spec h1 hhi
       have hxv:=ev_sl h hx
       have hOj:=h1.objs j _ hj
       have hltj : ∀ g,φ1 j g->g < w.heap.size:=fun g hg => hOj.block_lt hg
       have hn : hh.toNat<=es.length:=by omega
       -- what comes out
       have key : ∃ v',(Instr.sliceAt t (β j) none (some (.int k2 hh)) none).run P w=.ok v' w∧∀ β',DpO β' w τ (es.take hh.toNat) none v' (φ1 j):=by
        generalize β j=v at *
        cases hOj with
        | dp _ hD =>
          rcases hD with ⟨rfl,_,rfl,hE⟩ | ⟨e2,k,xs,fs,ht,hR⟩
          . have hz : hh=0:=by simp at g1; omega
            subst hz
            cases hE with
            | nil a0 => exact ⟨_,run_cutHi hu g3 g0 (by simp) (Nat.le_refl 0),fun β' => .inl ⟨rfl,rfl,by simp,.nil _⟩⟩
            | some b off cp =>
              refine ⟨_,run_cutHi hu g3 g0 (by simp) (Nat.zero_le _),fun β' => .inl ⟨rfl,rfl,by simp,?_⟩⟩
              split
              . exact .some _ _ _
              . simp only [Option.map_some,add_zero_addr]; exact .some _ _ _
          . rcases hR.hw.2 with ⟨rfl,h3⟩ | ⟨g,cap,cur,rfl,_,_,h4,_⟩
            . have hz : hh=0:=by omega
              have hes : es=[]:=List.eq_nil_of_length_eq_zero h3
              subst hz; subst hes
              refine ⟨_,run_cutHi hu g3 g0 (by simp) (Nat.le_refl 0),fun β' => .inr ⟨e2,k,xs,fs,ht,?_⟩⟩
              simpa using { hR with hh:=fun _ _ h => by cases h }
            . refine ⟨_,run_cutHi hu g3 g0 g1 h4,fun β' => .inr ⟨e2,k,xs.take (hh.toNat * k),fs,ht,?_⟩⟩
              have:=hR.cut (β':=β') hn
              split
              . exact this
              . simp only [Option.map_some,add_zero_addr]; exact this
       obtain ⟨v',hrun,hD'⟩:=key
       refine Done.value (v:=v') (w':=w) ?_ ?_
       . simp only [execOp,hop,Option.map_none,Sem.run_bind]
         rw [hb2,hxv,Option.map_some]
         rw [hrun]; rfl
       . have hsim : SimB Z (upd β j v') φ1 N B M w0 ⟨wipeS j st1.s,ins j (.dp τ (es.take hh.toNat) none) (wipeO j st1.o)⟩ a w:=by
          refine h1.regroup (fun q => q=j) (fun q => q=j) rfl rfl rfl (Nat.le_refl _) (Nat.le_refl _) (fun _ _ _ => rfl) (fun q av hq => ?_) (fun q ob' hq => ?_) (fun q q' g hq hq' _ _ => hq.trans hq'.symm)
          . obtain ⟨h2,h3⟩:=lk_wipeS hq
            exact h3.imp id fun h3 => ⟨h3,fun _ hr => hr.other upd_ne h2⟩
          . rw [lk_ins] at hq
            split at hq
            . rename_i eq
              subst eq; cases hq
              refine .inr ⟨rfl,fun g hg => .inr ⟨q,_,rfl,hj,rfl,hg⟩,fun S' _ => ?_⟩
              rw [upd_eq]
              exact .dp hltj (hD' _)
            . rename_i hne
              obtain ⟨h2,y,h3,rfl⟩:=lk_wipeO hq
              exact .inl ⟨hne,rfl,upd_ne q hne,y,h3,wipe_res.symm,fun S w v F hO => hO.wipe upd_ne⟩
         rw [hd]
         refine ⟨_,_,hsim.put (dst:=some d) (fun _ e => by cases e; exact hN) ?_⟩
         have:=Rel.sl (β:=upd β j v') (S:=free Z φ1 (ins j (.dp τ (es.take hh.toNat) none) (wipeO j st1.o))) (w:=w) j
         rwa [upd_eq] at this
     . cases hq
   . cases hq
 . cases hq
theorem cD_nil {v : Value} (h : cD v=some (.slice [])) : v=.slice none 0 0:=by
 unfold cD at h
 split at h<;>simp_all
theorem cDs_nil {β : Nat->Value} {S : Nat->Prop} {w : World} : ∀ {vs xs},cDs vs=some xs->vs.length=(xs.map nilZ).length∧∀ i,i < (xs.map nilZ).length->Rel β S w ((xs.map nilZ).getD i .undef) (vs.getD i Go.undef)
 | [],_,h => by simp [cDs] at h; subst h; simp
 | v :: r, xs, h => by
   simp only [cDs] at h
   split at h
   . rename_i x ys h1 h2
     cases h
     obtain ⟨h3,h4⟩:=cDs_nil (β:=β) (S:=S) (w:=w) h2
     refine ⟨by simpa using h3,fun i hi => ?_⟩
     cases i with
     | zero =>
       simp only [List.map_cons,List.getD_cons_zero]
       by_cases hx : x=.slice []
       . subst hx; rw [cD_nil h1]; exact .nilS
       . have : nilZ x=.d x:=by
          unfold nilZ; split
          . exact absurd rfl hx
          . rfl
         rw [this]; exact .d (cD_spec h1)
     | succ i => simpa using h4 i (by simpa using hi)
   . cases h
theorem zeroD_nil {t cs} (h : zeroD P t=some (.agg cs)) : ∃ i vs,P.info? t=some i∧i.zero=some (.agg vs)∧∀ (β : Nat->Value) (S : Nat->Prop) (w : World),vs.toList.length=(cs.map nilZ).length∧∀ k,k < (cs.map nilZ).length->Rel β S w ((cs.map nilZ).getD k .undef) (vs.toList.getD k Go.undef):=by
 unfold zeroD at h
 split at h
 . rename_i y hy
   cases h
   obtain ⟨z,hz,hc⟩:=Option.bind_eq_some_iff.1 hy
   obtain ⟨i,hi,hz'⟩:=Option.bind_eq_some_iff.1 hz
   unfold cv at hc
   split at hc
   . rename_i vs
     obtain ⟨xs,hx,he⟩:=Option.map_eq_some_iff.1 hc
     cases he
     exact ⟨i,vs,hi,hz',fun β S w => cDs_nil hx⟩
   . obtain ⟨x,hx,he⟩:=Option.map_eq_some_iff.1 hc
     cases he
     unfold cD at hx
     split at hx<;>cases hx
 . cases h
theorem run_buildV {t : TypeId} {i : TypeInfo} {vs rs : Array Value} {us : List (Nat × Value)} (hi : P.info? t=some i) (hz' : i.zero=some (.agg vs)) (hp : partsU P t=true) (h1 : Instr.fill (places P t) vs us=some rs) : (Instr.build t us.toArray).run P w=.ok (.agg rs) w:=by
 cases hu : P.underlying t with
 | none => simp [partsU,hu] at hp
 | some d =>
   cases d<;>simp only [partsU,hu,reduceCtorEq] at hp
   case struct fs =>
    have hm:=partsU_struct (P:=P) (t:=t) (by simpa [partsU,hu] using hp) hu w
    have hpl : places P t=fun i => ((fs.map fun f => (f.offset,P.cellsOf f.type))[i]?):=by
     funext i; simp [places,hu]
    rw [hpl] at h1
    have hzv : (zeroValue t).run P w=.ok (.agg vs) w:=by simp [zeroValue,typeInfo,hi,hz']
    simp only [Instr.build,Sem.run_bind,hzv,Result.andThen_ok,run_underlying hu,hm,Value.cells,h1,Sem.run_pure]
   case array n e =>
    obtain ⟨ie,hie⟩:=Option.isSome_iff_exists.1 hp
    have hpl : places P t=fun i => some (i * P.cellsOf e,P.cellsOf e):=by
     funext i; simp [places,hu]
    rw [hpl] at h1
    have hce : P.cellsOf e=ie.size:=by simp [Program.cellsOf,hie]
    rw [hce] at h1
    simp [Instr.build,zeroValue,typeInfo,hi,hz',run_underlying hu,Go.sizeOf,hie,Value.cells,h1]
theorem fillA_spec {S : Nat->Prop} {place : Nat->Option (Nat × Nat)} : ∀ {ys : List (Nat × AV)} {us : List (Nat × Value)} {cells r : List AV} {cs : Array Value},fillA place cells ys=some r ->
 ys.map (·.1)=us.map (·.1)->(∀ i,i < ys.length->Rel β S w (ys.getD i (0,.undef)).2 (us.getD i (0,Go.undef)).2)->(∀ p ∈ ys,∀ j,p.2=.sl j->∃ a n c,β j=.slice a n c) ->
 cs.toList.length=cells.length->(∀ i,i < cells.length->Rel β S w (cells.getD i .undef) (cs.toList.getD i Go.undef)) ->
 ∃ rs : Array Value,Instr.fill place cs us=some rs∧rs.toList.length=r.length∧∀ i,i < r.length->Rel β S w (r.getD i .undef) (rs.toList.getD i Go.undef)
 | [], us, cells, r, cs, hq, he, _, _, hl1, hl2 => by
   simp [fillA] at hq; subst hq
   have : us=[]:=by simpa using he.symm
   subst this
   exact ⟨cs,rfl,hl1,hl2⟩
 | (i, x) :: ys, us, cells, r, cs, hq, he, hr, hsl, hl1, hl2 => by
   cases us with
   | nil => simp at he
   | cons u us =>
     obtain ⟨i',v⟩:=u
     simp only [List.map_cons,List.cons.injEq] at he
     obtain ⟨rfl,he⟩:=he
     simp only [fillA] at hq
     split at hq
     . rename_i off size xs hp hx
       split at hq
       . rename_i hb
         have h0 : Rel β S w x v:=by simpa using hr 0 (by simp)
         obtain ⟨h1,h2⟩:=cellsAV_spec h0 hx (hsl (i,x) (by simp))
         have hsz : v.cells.size=xs.length:=by simpa using h1
         have hcs : cs.size=cells.length:=by simpa using hl1
         obtain ⟨_,e2⟩:=foldl_set_getD off v.cells.toList 0 cs 0 (by simp; omega)
         obtain ⟨rs,h3,h4⟩:=fillA_spec (S:=S) (us:=us) (cs:=(v.cells.zipIdx.foldl (fun cs (c : Value × Nat) => cs.setIfInBounds (off + c.2) c.1) cs)) hq he
          (fun j hj => by simpa using hr (j + 1) (by simpa using hj)) (fun p hp' => hsl p (by simp [hp'])) (by
           rw [← Array.foldl_toList,Array.toList_zipIdx,Array.length_toList,e2,setL_length hb.2,hcs]) (fun j hj => by
           rw [← Array.foldl_toList,Array.toList_zipIdx]
           rw [setL_length hb.2] at hj
           rw [(foldl_set_getD off v.cells.toList 0 cs j (by simp; omega)).1,setL_getD hb.2]
           simp only [Nat.add_zero,Nat.sub_zero,Array.length_toList,hsz]
           split
           . exact h2 _ (by omega)
           . exact hl2 j hj)
         refine ⟨rs,?_,h4⟩
         have e1 : ¬ (v.cells.size ≠ size):=by rw [hsz]; exact fun h => h hb.1
         have e2 : ¬ (off + v.cells.size > cs.size):=by omega
         simp only [Instr.fill,hp]
         rw [if_neg (by simp only [Bool.or_eq_true,decide_eq_true_eq]; rintro (h | h); exact e1 h; exact e2 h)]
         exact h3
       . cases hq
     . cases hq
theorem avParts_spec (h : SimB Z β φ N B M w0 st a w) : ∀ {ps : List (Nat × Operand)} {ys},avParts st ps=some ys->ys.map (·.1)=ps.map (·.1)∧∀ i,i < ys.length->Rel β (free Z φ st.o) w (ys.getD i (0,.undef)).2 (a.eval (ps.getD i (0,.global 0)).2)
 | [],ys,hq => by simp [avParts] at hq; subst hq; simp
 | (i, x) :: r, ys, hq => by
   simp only [avParts] at hq
   split at hq
   . rename_i av zs hx hz
     cases hq
     obtain ⟨h1,h2⟩:=avParts_spec h hz
     refine ⟨by simp [h1],fun j hj => ?_⟩
     cases j with
     | zero => simpa using ev_spec h hx
     | succ j => simpa using h2 j (by simpa using hj)
   . cases hq
theorem liveP_mem {o : List (Nat × AO)} : ∀ {ys : List (Nat × AV)},liveP o ys->∀ p ∈ ys,p.2.live o
 | (i, av) :: r, h, p, hp => by
   rcases List.mem_cons.1 hp with rfl | hp
   . exact h.1
   . exact liveP_mem h.2 p hp
theorem buildS_done (h : SimB Z β φ N B M w0 st a w) {o : Oper} {d c av t} {ps : Array (Nat × Operand)} (hd : o.dst=some d) (hN : d < N) (hop : o.op=.build t ps) (hq : buildS P st t ps.toList=some (c,av)) (hc : c) : Done P Z N B M w0 o a w (st.put (some d) av):=by
 unfold buildS at hq
 split at hq
 . rename_i ys cs hys hz
   split at hq
   . rename_i r hf
     split at hq
     . cases hq
       obtain ⟨hp,hlive⟩:=hc
       obtain ⟨h1,h2⟩:=avParts_spec h hys
       obtain ⟨i,vs,hi,hz',hzr⟩:=zeroD_nil hz
       obtain ⟨z1,z2⟩:=hzr β (free Z φ st.o) w
       have hlen : ys.length=ps.toList.length:=by have:=congrArg List.length h1; simpa using this
       obtain ⟨rs,f1,f2,f3⟩:=fillA_spec (β:=β) (S:=free Z φ st.o) (w:=w) (us:=ps.toList.map fun p => (p.1,a.eval p.2)) hf (by rw [h1,List.map_map]; rfl) (fun k hk => by
        rw [getD_map_pair _ _ _ (by omega)]; exact h2 k hk) (fun p hp' j hj => by
        obtain ⟨ob,hob⟩:=live_sl (liveP_mem hlive p hp') (.inl hj)
        exact sl_slice h hob) z1 z2
       have hps : (ps.map fun (i,x) => (i,a.eval x))=(ps.toList.map fun p => (p.1,a.eval p.2)).toArray:=by cases ps; simp
       refine Done.value (v:=.agg rs) (w':=w) ?_ ?_
       . simp only [execOp,hop,hps,Sem.run_bind,run_buildV hi hz' hp f1,Result.andThen_ok,Sem.run_pure]
       . rw [hd]
         refine ⟨_,_,h.put (dst:=some d) (fun _ e => by cases e; exact hN) ?_⟩
         have:=Rel.st (β:=β) (S:=free Z φ st.o) (w:=w) (vs:=rs.toList) f2 f3
         simpa using this
     . cases hq
   . cases hq
 . cases hq
theorem flat_ones {es : List D} (h : ∀ x ∈ es,x.cells.length=1) {q : Nat} (hq : q < es.length) : (flat es).getD q .nilptr=(es.getD q .nilptr).cells.getD 0 .nilptr:=by
 have:=flat_getD h hq (show 0 < 1 by decide)
 rw [Nat.mul_one,Nat.add_zero] at this
 exact this
theorem run_cutLo {t e : TypeId} {a0 : Option Addr} {len cap : Nat} {k : IntKind} {l : Int} (hu : P.underlying t=some (.slice e)) (hk0 : 0 < P.cellsOf e) (h0 : 0<=l) (h1 : l<=len) (hcap : len<=cap) :
 (Instr.sliceAt t (.slice a0 len cap) (some (.int k l)) none none).run P w=.ok (.slice (if cap=l.toNat then a0 else a0.map (·.add (l.toNat * P.cellsOf e))) (len - l.toNat) (cap - l.toNat)) w:=by
 have b1 : (Instr.sliceBound (.int k l) len .sliceB).run P w=.ok l.toNat w:=by
  simp [Instr.sliceBound,asIntOf,h0,h1]
 have b3 : (Instr.sliceBounds true len cap (some (.int k l)) none none).run P w=.ok (l.toNat,len,cap) w:=by
  simp only [Instr.sliceBounds,Sem.run_bind,Sem.run_pure,Result.andThen_ok]
  simp_all
 simp only [Instr.sliceAt,Sem.run_bind,run_underlying hu,Result.andThen_ok,Instr.slice,b3,run_sizeOf_pos hk0,Sem.run_pure]
theorem ownsRow_cut {e : TypeId} {k : Nat} {a0 : Option Addr} {n cap : Nat} {xs : List Value} {m : Nat} (h : w.ownsRow 0 e k (.slice a0 n cap) m xs) {i : Nat} (hi : i<=m) :
 w.ownsRow 0 e k (.slice (if cap=0 then a0 else a0.map (·.add 0)) i cap) i (xs.take (i * k)):=by
 have hle : i * k<=m * k:=Nat.mul_le_mul_right k hi
 have hxl:=h.1
 have ha : ∀ b off,(a0=some ⟨b,off,none⟩∨a0=none)->(if cap=0 then a0 else a0.map (·.add 0))=a0:=fun b off h => by
  rcases h with rfl | rfl
  . split
    . rfl
    . simp only [Option.map_some,add_zero_addr]
  . split<;>rfl
 refine ⟨by simp; omega,?_⟩
 rcases h.2 with ⟨h1,h2⟩ | ⟨g,c,cur,h1,h2,h3,h4,h5,h6,h7⟩
 . simp only [Value.slice.injEq] at h1
   obtain ⟨rfl,_,rfl⟩:=h1
   refine .inl ⟨?_,by omega⟩
   rw [ha 0 0 (.inr rfl)]; congr 1; omega
 . simp only [Value.slice.injEq] at h1
   obtain ⟨rfl,_,rfl⟩:=h1
   rw [ha g _ (.inl rfl)]
   refine .inr ⟨g,cap,cur,rfl,h2,h3,by omega,h5,h6,?_⟩
   rw [← h7,List.take_take]; congr 1; omega
theorem cutC_done (h : SimB Z β φ N B M w0 st a w) {o : Oper} {d c st' t x lo hi} (hd : o.dst=some d) (hN : d < N) (hop : o.op=.slice t x lo hi none) (hq : cutC P st d t x lo hi=some (c,st')) (hc : c) : Done P Z N B M w0 o a w st':=by
 unfold cutC at hq
 split at hq
 . rename_i j e2 hx he
   have hu:=elemSl_spec he
   have hxv:=ev_sl h hx
   split at hq
   . rename_i e k es hj
     have hO:=h.objs j _ hj
     split at hq
     . rename_i hh
       split at hq
       . rename_i kk n hn
         cases hq
         obtain ⟨g0,g1,g2⟩:=hc
         have hev:=ev_int h hn
         obtain ⟨v',hrun,hown,hsame⟩ : ∃ v',(Instr.sliceAt t (β j) none (some (.int kk n)) none).run P w=.ok v' w∧OK β (free Z φ st.o) w (.arr e k (es.take n.toNat)) v' (ownS v')∧∀ g,ownS v' g->φ j g:=by
          generalize hβ : β j=bv at *
          generalize hφ : φ j=F at *
          cases hO with
          | arr hF xs hk0 hk hw hr =>
            have hnl : n.toNat<=es.length:=by omega
            have hw1:=hw
            obtain ⟨a0,len,cap,hs,hlen,hcap⟩ : ∃ a0 len cap,bv=.slice a0 len cap∧len=es.length∧len<=cap:=by
             rcases hw.2 with ⟨h1,h2⟩ | ⟨g,cp,cur,h1,_,_,h3,_⟩
             . exact ⟨_,_,_,h1,h2.symm,Nat.le_refl _⟩
             . exact ⟨_,_,_,h1,rfl,h3⟩
            subst hs
            have hwc:=ownsRow_cut hw hnl
            refine ⟨_,run_cutHi hu (by rw [g2]; exact hk0) g0 (by omega) hcap,?_,fun g hg => ?_⟩
            . refine .arr rfl (xs.take (n.toNat * k)) hk0 (fun y hy => hk y (List.mem_of_mem_take hy)) (by rw [List.length_take,Nat.min_eq_left hnl]; exact hwc) fun i hi => ?_
              rw [flat_take hk] at hi ⊢
              simp only [List.length_take] at hi
              have:=hr i (by omega)
              simp only [List.getD_eq_getElem?_getD,List.getElem?_take] at this ⊢
              rw [if_pos (by omega),if_pos (by omega)]; exact this
            . subst hF
              rcases hw.2 with ⟨h1,h2⟩ | ⟨g1,cp,cur,h1,_⟩
              . simp only [Value.slice.injEq] at h1
                obtain ⟨rfl,_,rfl⟩:=h1
                simp [ownS,Value.ownBlock] at hg
              . simp only [Value.slice.injEq] at h1
                obtain ⟨rfl,_,rfl⟩:=h1
                have e0 : (if cap=0 then (some ⟨g1,0,none⟩ : Option Addr) else (some ⟨g1,0,none⟩ : Option Addr).map (·.add 0))=some ⟨g1,0,none⟩:=by
                 split
                 . rfl
                 . simp only [Option.map_some,add_zero_addr]
                rw [e0] at hg
                exact hg
         have hsim:=h.redo (o:=.arr e k (es.take n.toNat)) hj (w':=w) (row:=none) (Gb.refl _ _) (by simp) v' (F':=ownS v') (fun g hg => .inr (hsame g hg)) fun S' m1 => by
          cases hown with
          | arr hF xs hk0 hk hw hr => exact .arr rfl xs hk0 hk hw fun i hi => m1 _ _ (hr i hi)
         refine Done.value (v:=v') (w':=w) ?_ ?_
         . simp only [execOp,hop,Option.map_none,Option.map_some,Sem.run_bind,hxv,hev,hrun]
           rfl
         . rw [hd]
           refine ⟨_,_,hsim.put (dst:=some d) (fun _ e => by cases e; exact hN) ?_⟩
           have:=Rel.sl (β:=upd β j v') (S:=free Z (updF φ j (ownS v')) (ins j (.arr e k (es.take n.toNat)) (wipeO j st.o))) (w:=w) j
           rwa [upd_eq] at this
       . cases hq
     . rename_i ll
       split at hq
       . rename_i kk n hn
         cases hq
         obtain ⟨g0,g1,g3,g2⟩:=hc
         have hev:=ev_int h hn
         generalize hβ : β j=bv at *
         cases hO with
         | arr hF xs hk0 hk hw hr =>
           rcases hw.2 with ⟨h1,h2⟩ | ⟨g,cap,cur,h1,_,_,hcap,_⟩
           . omega
           . subst h1
             refine Done.value (v:=.slice (if cap=n.toNat then some ⟨g,0,none⟩ else some ⟨g,n.toNat * k,none⟩) (es.length - n.toNat) (cap - n.toNat)) (w':=w) ?_ ?_
             . simp only [execOp,hop,Option.map_none,Option.map_some,Sem.run_bind,hxv,hev]
               rw [run_cutLo hu (by rw [g2]; exact hk0) g0 (by omega) hcap,g2]
               simp [add_eq]
             . rw [hd]
               exact ⟨_,_,h.put (dst:=some d) (fun _ e => by cases e; exact hN) (.sf hβ (by omega))⟩
       . cases hq
     . cases hq
   . cases hq
 . cases hq
theorem cutW_done (h : SimB Z β φ N B M w0 st a w) {o : Oper} {d c st' t x lo hi} (hd : o.dst=some d) (hN : d < N) (hop : o.op=.slice t x lo hi none) (hq : cutW P st d t x lo hi=some (c,st')) (hc : c) : Done P Z N B M w0 o a w st':=by
 unfold cutW at hq
 split at hq
 . rename_i hh
   split at hq
   . rename_i j e2 hx he
     have hu:=elemSl_spec he
     have hxv:=ev_sl h hx
     split at hq
     . rename_i e k es vs kk n hj hn
       split at hq
       . cases hq
       . rename_i hjd
         cases hq
         obtain ⟨g0,g1,g3,g2⟩:=hc
         have hev:=ev_int h hn
         have hO:=h.objs j _ hj
         generalize hβ : β j=bv at *
         cases hO with
         | arw hlt xs hk0 hk hw hbb hr hvv =>
           rcases hw.2 with ⟨h1,h2⟩ | ⟨g,cap,cur,h1,_,_,hcap,_⟩
           . omega
           . subst h1
             have hxl:=hw.1
             have hnl : n.toNat<=es.length:=by omega
             have hrun:=run_cutHi (P:=P) (w:=w) (a0:=some ⟨g,0,none⟩) (cap:=cap) (k:=kk) hu (by rw [g2]; exact hk0) g0 (show n<=(es.length : Nat) by omega) hcap
             have e0 : (if cap=0 then (some ⟨g,0,none⟩ : Option Addr) else (some ⟨g,0,none⟩ : Option Addr).map (·.add 0))=some ⟨g,0,none⟩:=by
              split
              . rfl
              . simp only [Option.map_some,add_zero_addr]
             rw [e0] at hrun
             refine Done.value (v:=.slice (some ⟨g,0,none⟩) n.toNat cap) (w':=w) (by simp only [execOp,hop,Option.map_none,Option.map_some,Sem.run_bind,hxv,hev,hrun]; rfl) ?_
             have hjd' : j ≠ d:=hjd
             have hsim : SimB Z (upd β d (.slice (some ⟨g,0,none⟩) n.toNat cap)) (updF φ d fun _ => False) N B M w0
              ⟨wipeS d st.s,ins d (.view n.toNat) (ins j (.arw e k es ((d,n.toNat) :: vs.filter fun p => p.1 != d)) (wipeO d st.o))⟩ a w:=by
              refine h.regroup (fun q => q=j∨q=d) (fun q => q=j∨q=d) rfl rfl rfl (Nat.le_refl _) (Nat.le_refl _) (fun _ _ _ => rfl) (fun q av hq => ?_) (fun q ob hq => ?_) (fun q q' gg hq hq' hg hg' => ?_)
              . obtain ⟨h2,h3⟩:=lk_wipeS hq
                exact h3.imp id fun h3 => ⟨h3,fun _ hr => hr.other upd_ne h2⟩
              . rw [lk_ins] at hq
                split at hq
                . rename_i eq
                  subst eq; cases hq
                  refine .inr ⟨.inr rfl,fun gg hg => ?_,fun S' _ => ?_⟩
                  . rw [updF_eq] at hg; exact hg.elim
                  . rw [upd_eq,updF_eq]; exact .view rfl g cap rfl
                . rename_i hne
                  rw [lk_ins] at hq
                  split at hq
                  . rename_i eq
                    subst eq; cases hq
                    refine .inr ⟨.inl rfl,fun gg hg => .inr ⟨q,_,.inl rfl,hj,rfl,by rwa [updF_ne q hjd'] at hg⟩,fun S' hS => ?_⟩
                    rw [upd_ne q hjd',updF_ne q hjd',hβ]
                    refine .arw hlt xs hk0 hk hw hbb (fun i hi => hS _ _ (hr i hi)) fun q' n' hq' => ?_
                    rcases List.mem_cons.1 hq' with e3 | h3
                    . cases e3
                      refine ⟨hnl,g,cap,upd_eq,fun _ => hbb g rfl,fun i hi => ?_⟩
                      have hle : n.toNat * k<=es.length * k:=Nat.mul_le_mul_right k hnl
                      exact ownsRow_cell hw rfl (by omega)
                    . obtain ⟨h4,h5⟩:=List.mem_filter.1 h3
                      rw [upd_ne q' (by simpa using h5)]
                      exact hvv q' n' h4
                  . rename_i hne2
                    obtain ⟨_,y,h3,rfl⟩:=lk_wipeO hq
                    exact .inl ⟨by rintro (h6 | h6); exact hne2 h6; exact hne h6,updF_ne q hne,upd_ne q hne,y,h3,wipe_res.symm,fun S w v F hO => hO.wipe upd_ne⟩
              . rcases hq with rfl | rfl<;>rcases hq' with rfl | rfl
                . rfl
                . rw [updF_eq] at hg'; exact hg'.elim
                . rw [updF_eq] at hg; exact hg.elim
                . rfl
             rw [hd]
             exact ⟨_,_,hsim.put (dst:=some d) (fun _ e => by cases e; exact hN) (.vw upd_eq)⟩
     . cases hq
   . cases hq
 . cases hq
theorem clear_done (h : SimB Z β φ N B M w0 st a w) {o : Oper} {c st1 args ts} (hop : o.op=.call { callee:=.builtin .clear,args:=args,argTypes:=ts }) (hN : ∀ d,o.dst=some d->d < N)
 (hq : clearA P st args.toList ts.toList=some (c,st1)) (hc : c) : Done P Z N B M w0 o a w (st1.put o.dst (.tup [])):=by
 obtain ⟨args⟩:=args
 obtain ⟨ts⟩:=ts
 unfold clearA at hq
 simp only at hq
 split at hq
 . rename_i x t
   split at hq
   . rename_i j k l e hx he
     split at hq
     . rename_i e' k' es z hj hz
       cases hq
       obtain ⟨rfl,rfl,hce,hzc,hza⟩:=hc
       have hu:=elemSl_spec he
       obtain ⟨i,zv,hi,hiz,hzr⟩:=zeroD_spec hz
       have hO:=h.objs j _ hj
       have hrel:=ev_spec h hx
       have fin : ∀ {w' : World},(Builtin.clear_ #[t] o.type #[a.eval x]).run P w=.ok (.tuple #[]) w'->SimB Z β φ N B M w0 { st with o:=ins j (.arr e' 1 (es.take l++List.replicate (es.length - l) z)) st.o } a w' ->
        Done P Z N B M w0 o a w (St.put { st with o:=ins j (.arr e' 1 (es.take l++List.replicate (es.length - l) z)) st.o } o.dst (.tup [])):=fun {w'} h1 h2 => by
        refine Done.value (v:=.tuple #[]) (w':=w') (by simp [execOp,hop,resolve,invoke,builtin,h1]) ⟨_,_,h2.put hN ?_⟩
        exact .tup (xs:=[]) (vs:=[]) rfl (by simp)
       generalize a.eval x=vx at *
       cases hrel with
       | @sf _ _ _ b n cp hβ hl =>
         generalize hβj : β j=bv at *
         subst hβ
         have hmodel:=h
         cases hO with
         | arr hF xs hk0 hk hw hr =>
           obtain ⟨g,cap,cur,hs,hg,hcap,_⟩:=ownsRow_some hw (by simp)
           cases hs
           have hfl:=flat_length hk
           have hxl : xs.length=es.length:=by have:=hw.1; omega
           have hks : ∀ y ∈ es.take l++List.replicate (es.length - l) z,y.cells.length=1:=fun y hy => by
            rcases List.mem_append.1 hy with h1 | h1
            . exact hk y (List.mem_of_mem_take h1)
            . rw [List.eq_of_mem_replicate h1,hzc]; rfl
           have hlen : (es.take l++List.replicate (es.length - l) z).length=es.length:=by simp; omega
           by_cases hn : es.length - l=0
           . have hel : es.take l++List.replicate (es.length - l) z=es:=by rw [hn,List.take_of_length_le (by omega)]; simp
             refine fin (w':=w) (by rw [hn]; split<;>simp [Builtin.clear_,run_underlying hu,Result.andThen]) ?_
             rw [hel]
             exact h.mod hj (row:=none) (Gb.refl _ _) (by simp) fun S' m1 m2 => by rw [hβj]; exact .arr hF xs hk0 hk hw fun i hi => m2 _ _ (hr i hi)
           . obtain ⟨m,hm⟩ : ∃ m,es.length - l=m + 1:=⟨es.length - l - 1,by omega⟩
             have hzsz : zv.cells.size=1:=by
              have:=(rd_cells (hzr (fun _ => True) w)).1
              simpa [hzc] using this
             have hzl : (Builtin.zeroCells zv.cells (es.length - l)).toList.length=es.length - l:=by simp [Builtin.zeroCells,hzsz]
             have hzat : ∀ q,q < es.length - l->(Builtin.zeroCells zv.cells (es.length - l)).toList.getD q Go.undef=zv.cells.toList.getD 0 Go.undef:=fun q hq => by
              simp [Builtin.zeroCells,List.getD_eq_getElem?_getD,hzsz,hq,Nat.mod_one]
             have hzrd : ∀ S w,Rd S w z (zv.cells.toList.getD 0 Go.undef):=fun S w => by
              have:=(rd_cells (hzr S w)).2 0 (by rw [hzc]; exact Nat.zero_lt_one)
              rwa [hzc] at this
             have hz1 : ∀ u ∈ (Builtin.zeroCells zv.cells (es.length - l)).toList,u.oneCell'=true:=fun u hu' => by
              obtain ⟨q,hq,rfl⟩:=List.getElem_of_mem hu'
              have:=hzat q (by omega)
              rw [List.getD_eq_getElem?_getD,List.getElem?_eq_getElem hq,Option.getD_some] at this
              rw [this]
              exact atom_one (hzrd (fun _ => True) w) hza
             obtain ⟨w',r1,r2,r3⟩:=store_row (P:=P) hw (g:=b) (off:=l) (us:=(Builtin.zeroCells zv.cells (es.length - l)).toList) rfl (by omega) hz1
             refine fin (w':=w') ?_ ?_
             . rw [if_neg (by omega)]
               have hn2 : es.length - l ≠ 0:=hn
               rw [hm] at r1 ⊢
               rw [Nat.mul_one]
               have h9 : (zeroValue e).run P w=.ok zv w:=by simp [zeroValue,typeInfo,hi,hiz]
               have h10 : (underlying t).run P w=.ok (.slice e) w:=run_underlying hu w
               simp only [Builtin.clear_,Sem.run_bind,List.getElem?_toArray,List.getElem?_cons_zero,h10,Result.andThen_ok,h9,r1,Sem.run_pure]
             . refine h.mod hj r3 (fun g hg => by rw [hF]; cases hg; rfl) fun S' m1 m2 => ?_
               rw [hβj]
               refine .arr hF (setL xs l (Builtin.zeroCells zv.cells (es.length - l)).toList) hk0 hks (by rw [hlen]; exact r2) fun q hq => ?_
               rw [flat_length hks,hlen,Nat.mul_one] at hq
               rw [flat_ones hks (by omega)]
               rw [setL_getD (by omega),hzl]
               by_cases hql : q < l
               . rw [if_neg (by omega)]
                 have:=hr q (by omega)
                 rw [flat_ones hk (by omega)] at this
                 rw [List.getD_eq_getElem?_getD (l:=es.take l++_),List.getElem?_append_left (by simp; omega),List.getElem?_take,if_pos hql,← List.getD_eq_getElem?_getD]
                 exact m2 _ _ this
               . rw [if_pos ⟨by omega,by omega⟩,hzat _ (by omega),List.getD_eq_getElem?_getD (l:=es.take l++_),List.getElem?_append_right (by simp; omega),List.getElem?_replicate,if_pos (by simp; omega),Option.getD_some,hzc]
                 exact hzrd _ _
     . cases hq
   . cases hq
 . cases hq
theorem lv_spec (h : SimB Z β φ N B M w0 st a w) {o : Oper} {c st'} (hN : ∀ d,o.dst=some d->d < N) (hq : lv P st o.dst o.op o.type=some (c,st')) (hc : c) : Done P Z N B M w0 o a w st':=by
 obtain ⟨dst,op,type,pos,after,guard⟩:=o
 simp only at hq hN
 unfold lv at hq
 split at hq
 . -- box
   rename_i t x d
   split at hq
   . rename_i av hx
     split at hq
     . cases hq
     . rename_i hh
       obtain ⟨⟨c',ob⟩,hb,he⟩:=Option.map_eq_some_iff.1 hq
       cases he
       refine box_done h rfl (hN d rfl) (ev_spec h hx) ?_ (by simpa using hh) hb hc.1 ?_
       . intro j hj
         obtain ⟨oi,hoi⟩:=live_sl hc.2 hj
         exact sl_slice h hoi
       . simp [execOp,Instr.box,run_newVar']
   . cases hq
 . -- alloc
   rename_i t d
   split at hq
   . rename_i z hz
     obtain ⟨⟨c',ob⟩,hb,he⟩:=Option.map_eq_some_iff.1 hq
     cases he
     obtain ⟨i,zv,hi,hiz,hzr⟩:=zeroD_nz hz
     refine box_done h rfl (hN d rfl) (hzr _ _ w) (fun j h => absurd h (nz_sl z)) (nz_has z d) hb hc ?_
     simp [execOp,Instr.alloc,zeroValue,typeInfo,hi,hiz,run_newVar']
   . cases hq
 . -- makeMap
   rename_i t d
   split at hq
   . rename_i q r ht
     cases hq
     refine Done.value (v:=.map (some w.heap.size)) (w':=w.alloc (.map #[] 0)) (by simp [execOp,Instr.makeMap]) ?_
     refine h.newPut (hd:=.slice (some ⟨w.heap.size,0,none⟩) 0 0) (hN d rfl) (grownBy_alloc _ _) (by simp [Value.ownBlock]) (fun β' S' _ _ => ?_) (fun β' S' e => .mq e)
     exact .mp w.heap.size #[] 0 rfl rfl (MapKept.heap_alloc w _).1 rfl
   . cases hq
 . -- mapUpdate
   rename_i t m x v
   split at hq
   . rename_i j k n k' z q r hm hx hv ht
     split at hq
     . rename_i q' r' es hj
       cases hq
       obtain ⟨rfl,rfl,rfl,rfl⟩:=hc
       have hO:=obj_of h hj
       have hr:=ev_spec h hm
       generalize hu : a.eval m=u at hr
       generalize hβj : β j=bj at hO
       cases hr with
       | @mq _ b1 n1 c1 hβ =>
         rw [hβj] at hβ
         cases hO with
         | mp b' ms cl hF hv' hbb hes =>
           subst hβ
           cases hv'
           obtain ⟨ms',cl',h1,h2⟩:=run_update_mp ht hbb hes n z
           obtain ⟨hs1,hs2⟩:=MapKept.heap_set (o':=.map ms' cl') hbb
           refine ⟨.skip,{ w with heap:=w.heap.setIfInBounds b1 (.map ms' cl') },by simp [execOp,hu,ev_int h hx,ev_int h hv,h1,Result.andThen],.inr ⟨rfl,β,φ,?_⟩⟩
           refine h.mod hj (row:=some b1) ⟨⟨rfl,rfl,rfl,by simp,fun g _ hg => hs2 g (fun e => hg (by rw [e]))⟩,Nat.le_refl _⟩ (fun g hg => by cases hg; rw [hF]; rfl) fun S' m1 m2 => ?_
           rw [hβj]
           exact .mp b1 ms' cl' hF rfl hs1 h2
     . cases hq
   . cases hq
 . -- build
   rename_i t ps d
   split at hq
   . rename_i hb
     cases hq
     exact buildS_done h rfl (hN d rfl) rfl hb hc
   split at hq
   . rename_i ys st1 hys
     split at hq
     . rename_i cs hz
       split at hq
       . rename_i r hf
         cases hq
         obtain ⟨h1,h2,h3,h4⟩:=dsOf_spec h hys
         have hlen : ys.length=ps.toList.length:=by have:=congrArg List.length h3; simpa using this
         obtain ⟨v,h5,h6⟩:=run_build' (P:=P) (w:=w) (t:=t) (us:=ps.toList.map fun p => (p.1,a.eval p.2)) hz hf hc (by rw [h3,List.map_map]; rfl) (fun i hi => by
          rw [getD_map_pair _ _ _ (by omega)]; exact h4 i hi)
         have hps : (ps.map fun (i,x) => (i,a.eval x))=(ps.toList.map fun p => (p.1,a.eval p.2)).toArray:=by cases ps; simp
         refine Done.value (v:=v) (w':=w) ?_ ⟨_,_,h1.put (dst:=some d) (fun _ e => by cases e; exact hN d rfl) (.d h6)⟩
         simp only [execOp,hps,Sem.run_bind,h5,Result.andThen_ok,Sem.run_pure]
       . cases hq
     . cases hq
   . cases hq
 . -- buildSlice
   rename_i t len ps d
   split at hq
   . exact buildD_done h rfl (hN d rfl) rfl hq hc
   split at hq
   . rename_i ys st1 hys
     split at hq
     . rename_i e he
       split at hq
       . rename_i z hz
         cases hq
         obtain ⟨hk0,hzk,hsz,hyk⟩:=hc
         obtain ⟨h1,h2,h3,h4⟩:=dsOf_spec h hys
         have hlen : ys.length=ps.toList.length:=by have:=congrArg List.length h3; simpa using this
         obtain ⟨i,zv,hi,hiz,hzr⟩:=zeroD_spec hz
         have hu:=elemSl_spec he
         obtain ⟨f1,f2,f3⟩:=setEs_fill (k:=P.cellsOf e) (n:=len) (ys:=ys) (es:=List.replicate len z) (by simp) (fun x hx => by rw [List.eq_of_mem_replicate hx]; exact hzk) hyk
         have hzsz : zv.cells.size=P.cellsOf e:=by
          have:=(rd_cells (hzr (fun _ => True) w)).1
          simpa [hzk] using this
         have hzcells : RdL (free Z φ st1.o) w (flat (List.replicate len z)) ((Array.range (len * P.cellsOf e)).map fun j => zv.cells[j % zv.cells.size]!).toList:=by
          have fl:=flat_length (es:=List.replicate len z) (k:=P.cellsOf e) (fun x hx => by rw [List.eq_of_mem_replicate hx]; exact hzk)
          rw [List.length_replicate] at fl
          refine ⟨by simp [fl],fun ii hii => ?_⟩
          rw [fl] at hii
          have hm:=Nat.mod_lt ii hk0
          have hdiv : ii / P.cellsOf e < len:=Nat.div_lt_of_lt_mul (by rw [Nat.mul_comm]; exact hii)
          have e1 : ii=(ii / P.cellsOf e) * P.cellsOf e + ii % P.cellsOf e:=by have:=Nat.div_add_mod ii (P.cellsOf e); rw [Nat.mul_comm] at this; omega
          have hl : (flat (List.replicate len z)).getD ii .nilptr=z.cells.getD (ii % P.cellsOf e) .nilptr:=by
           conv => lhs; rw [e1]
           rw [flat_getD (k:=P.cellsOf e) (fun x hx => by rw [List.eq_of_mem_replicate hx]; exact hzk) (by simpa using hdiv) hm]
           congr 2
           simp [el,List.getD_eq_getElem?_getD,hdiv]
          rw [hl]
          have:=(rd_cells (hzr (free Z φ st1.o) w)).2 (ii % P.cellsOf e) (by omega)
          have hms : ii % P.cellsOf e < zv.cells.size:=by omega
          have e2 : zv.cells[ii % P.cellsOf e]! = zv.cells.toList.getD (ii % P.cellsOf e) Go.undef:=by
           rw [getElem!_pos zv.cells _ hms]; simp [List.getD_eq_getElem?_getD,hms]
          have e3 : (((Array.range (len * P.cellsOf e)).map fun j => zv.cells[j % zv.cells.size]!).toList).getD ii Go.undef=zv.cells[ii % P.cellsOf e]! := by
           simp [List.getD_eq_getElem?_getD,hii,hzsz]
          rw [e3,e2]; exact this
         obtain ⟨rs,h5,h6⟩:=fill_spec (S:=free Z φ st1.o) (w:=w) (us:=ps.toList.map fun p => (p.1,a.eval p.2)) f3 (by rw [h3,List.map_map]; rfl) (fun i hi => by
          rw [getD_map_pair _ _ _ (by omega)]; exact h4 i hi) hzcells
         have fls:=flat_length f2
         have hrsz : rs.size=len * P.cellsOf e:=by have:=h6.1; rw [fls,f1] at this; simpa using this
         have hps : (ps.map fun (i,x) => (i,a.eval x))=(ps.toList.map fun p => (p.1,a.eval p.2)).toArray:=by cases ps; simp
         have hml : len<=maxLen:=by
          have : len * 1<=len * P.cellsOf e:=Nat.mul_le_mul_left _ hk0
          unfold maxLen; omega
         refine Done.value (v:=.slice (some ⟨w.heap.size,0,none⟩) len len) (w':=w.alloc (.cells rs e)) ?_ ?_
         . have hns : ¬ (len * P.cellsOf e > 2 ^ 24):=by omega
           by_cases h0 : len * P.cellsOf e=0
           . have hfill : Instr.fill (fun i => some (i * P.cellsOf e,P.cellsOf e)) ((Array.range (len * P.cellsOf e)).map fun j => (#[] : Array Value)[j % 0]!) (ps.toList.map fun p => (p.1,a.eval p.2))=some rs:=by
              rw [← h5]; congr 1; rw [h0]; simp
             simp only [execOp,hps,Instr.buildSlice,Sem.run_bind,run_underlying hu,Result.andThen_ok,run_sizeOf_pos hk0,hns,if_false,h0,if_true,Sem.run_pure]
             rw [h0] at hfill
             simp at hfill
             simp [hfill,newRow]
           . simp only [execOp,hps,Instr.buildSlice,Sem.run_bind,run_underlying hu,Result.andThen_ok,run_sizeOf_pos hk0,hns,if_false,h0,Sem.run_pure,zeroValue,typeInfo]
             simp [hi,hiz,h5,newRow]
         . have hnl : (setEs (List.replicate len z) ys).length=len:=f1
           refine h1.newPut (hd:=.slice (some ⟨w.heap.size,0,none⟩) len len) (hN d rfl) (grownBy_alloc _ _) (by simp [Value.ownBlock]) (fun β' S' m1 m2 => ?_) (fun β' S' e => by rw [← e]; exact .sl _)
           refine .arr rfl rs.toList hk0 f2 (by rw [hnl]; exact World.ownsRow_lit w rs len (Nat.zero_le _) hml hrsz) fun ii hii => m2 _ _ (h6.2 ii hii)
       . cases hq
     . cases hq
   . cases hq
 . -- makeSlice
   rename_i t l c d
   split at hq
   . rename_i kn n km m hl hm
     split at hq
     . rename_i e he
       split at hq
       . rename_i z hz
         cases hq
         obtain ⟨hk0,hzk,h0,h1,h2,h3⟩:=hc
         obtain ⟨i,zv,hi,hiz,hzr⟩:=zeroD_spec hz
         have hu:=elemSl_spec he
         have hisz : i.size=P.cellsOf e:=by simp [Program.cellsOf,hi]
         have hiby : i.bytes=P.bytesOf e:=by simp [Program.bytesOf,hi]
         have hzsz : zv.cells.size=P.cellsOf e:=by
          have:=(rd_cells (hzr (fun _ => True) w)).1
          simpa [hzk] using this
         have hbm : (i.bytes : Int) * m<=281474976710656:=by
          have e1 : (i.bytes : Int)<=65536:=by omega
          have e2 : (i.bytes : Int) * m<=65536 * m:=Int.mul_le_mul_of_nonneg_right e1 (by omega)
          omega
         have hr:=run_make (P:=P) w t e i zv hu hi hiz kn km n m h0 h1 hbm (by omega)
         refine Done.value (v:=.slice (some ⟨w.heap.size,0,none⟩) n.toNat m.toNat) (w':=w.alloc (.cells (madeCells zv.cells (m.toNat * i.size)) e)) ?_ ?_
         . simp [execOp,ev_int h hl,ev_int h hm,hr]
         . refine h.newPut (hd:=.slice (some ⟨w.heap.size,0,none⟩) n.toNat m.toNat) (hN d rfl) (grownBy_alloc _ _) (by simp [Value.ownBlock]) (fun β' S' m1 m2 => ?_) (fun β' S' e => by rw [← e]; exact .sl _)
           have hes : ∀ x ∈ List.replicate n.toNat z,x.cells.length=P.cellsOf e:=fun x hx => by rw [List.eq_of_mem_replicate hx]; exact hzk
           have fl:=flat_length hes
           rw [List.length_replicate] at fl
           have hle : n.toNat * P.cellsOf e<=m.toNat * P.cellsOf e:=Nat.mul_le_mul_right _ (by omega)
           refine .arr rfl ((madeCells zv.cells (m.toNat * i.size)).toList.take (n.toNat * P.cellsOf e)) hk0 hes ?_ fun ii hii => ?_
           . refine ⟨by rw [List.length_take,Array.length_toList,size_madeCells,hisz,List.length_replicate,Nat.min_eq_left hle],.inr ⟨w.heap.size,m.toNat,_,by simp,Nat.zero_le _,heap_alloc_new w _,by simp; omega,by unfold maxLen; omega,by simp [size_madeCells,hisz],by simp⟩⟩
           . rw [fl] at hii
             have hm':=Nat.mod_lt ii hk0
             have hdiv : ii / P.cellsOf e < n.toNat:=Nat.div_lt_of_lt_mul (by rw [Nat.mul_comm]; exact hii)
             have e1 : ii=(ii / P.cellsOf e) * P.cellsOf e + ii % P.cellsOf e:=by have:=Nat.div_add_mod ii (P.cellsOf e); rw [Nat.mul_comm] at this; omega
             have hl : (flat (List.replicate n.toNat z)).getD ii .nilptr=z.cells.getD (ii % P.cellsOf e) .nilptr:=by
              conv => lhs; rw [e1]
              rw [flat_getD (k:=P.cellsOf e) hes (by simpa using hdiv) hm']
              congr 2
              simp [el,List.getD_eq_getElem?_getD,hdiv]
             rw [hl]
             have:=(rd_cells (hzr S' (w.alloc (.cells (madeCells zv.cells (m.toNat * i.size)) e)))).2 (ii % P.cellsOf e) (by omega)
             have hms : ii % P.cellsOf e < zv.cells.size:=by omega
             have e2 : zv.cells[ii % P.cellsOf e]! = zv.cells.toList.getD (ii % P.cellsOf e) Go.undef:=by
              rw [getElem!_pos zv.cells _ hms]; simp [List.getD_eq_getElem?_getD,hms]
             have e3 : ((madeCells zv.cells (m.toNat * i.size)).toList.take (n.toNat * P.cellsOf e)).getD ii Go.undef=zv.cells[ii % P.cellsOf e]! := by
              have : ii < m.toNat * P.cellsOf e:=by omega
              simp [List.getD_eq_getElem?_getD,hii,madeCells,hisz,this,hzsz]
             rw [e3,e2]; exact this
       . cases hq
     . cases hq
   . cases hq
 . -- slice
   rename_i t x lo hi d
   split at hq
   . exact cutC_done h rfl (hN _ rfl) rfl hq hc
   split at hq
   . rename_i y st1 hy
     split at hq
     . rename_i l hh hl hhi
       obtain ⟨⟨c',r⟩,hr,he⟩:=Option.map_eq_some_iff.1 hq
       cases he
       obtain ⟨h1,h2⟩:=dOf_spec h hy
       obtain ⟨k1,hb1⟩:=bound_spec h1 hl
       obtain ⟨k2,hb2⟩:=bound_spec h1 hhi
       obtain ⟨u,h3,h4⟩:=cut_spec (P:=P) k1 k2 h2 hr hc
       refine Done.value (v:=u) (w':=w) ?_ ⟨_,_,h1.put (dst:=some d) (fun _ e => by cases e; exact hN d rfl) (.d h4)⟩
       simp only [execOp,Option.map_none,Sem.run_bind]
       rw [hb1,hb2,h3]
       rfl
     . cases hq
   . split at hq
     . rename_i r hr
       cases hq
       exact cutW_done h rfl (hN _ rfl) rfl hr hc
     . exact cutD_done h rfl (hN _ rfl) rfl hq hc
 . exact borrow_done h rfl (hN _ rfl) rfl hq hc
 . exact store_done h rfl rfl hq hc
 . -- append
   rename_i cl d
   split at hq
   . rename_i hcal
     obtain ⟨callee,args,ts⟩:=cl
     simp only at hcal hq
     subst hcal
     exact append_done h rfl (hN d rfl) (by simp) hq hc
   . rename_i hcal
     obtain ⟨⟨c1,s1⟩,hr,he⟩:=Option.map_eq_some_iff.1 hq
     cases he
     obtain ⟨callee,args,ts⟩:=cl
     simp only at hcal hr
     subst hcal
     exact clear_done h rfl hN hr hc
   . cases hq
 . rename_i cl
   split at hq
   . rename_i hcal
     obtain ⟨callee,args,ts⟩:=cl
     simp only at hcal hq
     subst hcal
     exact clear_done h rfl hN hq hc
   . cases hq
 . cases hq
end
end Abs
