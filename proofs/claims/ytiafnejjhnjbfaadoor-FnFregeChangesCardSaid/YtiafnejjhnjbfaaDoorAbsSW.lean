/- What functions of this program compute, over plain data. No condition. -/
import Derived.Test.YtiafnejjhnjbfaaDoorAbsStep
import Derived.Orders
import Derived.RangeFuncCalls
import Derived.RangeFuncLeaves
import Derived.OrdersIn
set_option linter.all false
namespace Abs
open Go Go.RowKit

inductive Dep (l : List Oper) : Nat->Nat->Prop
 | direct {j m o e} (h : l[j]? = some o) (he : e ∈ o.after) (hb : Region.binds .any e=true) (hm : e.on=m) : Dep l j m
 | trans {j k m} (h1 : Dep l j k) (h2 : Dep l k m) : Dep l j m

def maskOf (acc : List Nat) : List Edge->Nat
 | [] => 0
 | e :: r => if Region.binds .any e then 2 ^ e.on ||| acc.getD e.on 0 ||| maskOf acc r else maskOf acc r
def masksFrom (acc : List Nat) : List Oper->List Nat
 | [] => acc
 | o :: r => masksFrom (acc++[maskOf acc o.after.toList]) r
def masks (l : List Oper) : List Nat:=masksFrom [] l

theorem maskOf_spec {l : List Oper} {acc : List Nat} {j : Nat} {o : Oper} (hj : l[j]? = some o) (hacc : ∀ k m,(acc.getD k 0).testBit m=true->Dep l k m) :
 ∀ {es : List Edge},(∀ e ∈ es,e ∈ o.after)->∀ m,(maskOf acc es).testBit m=true->Dep l j m
 | [],_,m,h => by simp [maskOf] at h
 | e :: r, hes, m, h => by
   simp only [maskOf] at h
   have ih:=maskOf_spec hj hacc (es:=r) (fun x hx => hes x (by simp [hx])) m
   split at h
   . rename_i hb
     rw [Nat.testBit_or,Nat.testBit_or,Bool.or_eq_true,Bool.or_eq_true] at h
     rcases h with (h | h) | h
     . have : e.on=m:=by
        rw [Nat.testBit_two_pow] at h; simpa using h
       exact .direct hj (hes e (by simp)) hb this
     . exact .trans (.direct hj (hes e (by simp)) hb rfl) (hacc _ _ h)
     . exact ih h
   . exact ih h
theorem masksFrom_spec {l : List Oper} : ∀ {r : List Oper} {acc : List Nat},(∀ i,r[i]? = l[acc.length + i]?)->(∀ k m,(acc.getD k 0).testBit m=true->Dep l k m) ->
 ∀ k m,((masksFrom acc r).getD k 0).testBit m=true->Dep l k m
 | [],acc,_,hacc,k,m,h => hacc k m h
 | o :: r, acc, hr, hacc, k, m, h => by
   have ho : l[acc.length]? = some o:=by simpa using (hr 0).symm
   refine masksFrom_spec (r:=r) (acc:=acc++[maskOf acc o.after.toList]) (fun i => ?_) (fun k m hk => ?_) k m h
   . have:=hr (i + 1)
     simp only [List.getElem?_cons_succ] at this
     rw [this]; simp; congr 1; omega
   . by_cases h1 : k < acc.length
     . refine hacc k m ?_
       simpa [List.getD_eq_getElem?_getD,List.getElem?_append_left h1] using hk
     . by_cases h2 : k=acc.length
       . subst h2
         have : (maskOf acc o.after.toList).testBit m=true:=by simpa [List.getD_eq_getElem?_getD] using hk
         exact maskOf_spec ho hacc (fun e he => by simpa using he) m this
       . have : (acc++[maskOf acc o.after.toList]).getD k 0=0:=by
          simp [List.getD_eq_getElem?_getD,List.getElem?_append_right (show acc.length<=k by omega)]
          have : k - acc.length=(k - acc.length - 1) + 1:=by omega
          rw [this]; simp
         rw [this] at hk; simp at hk
theorem masks_spec {l : List Oper} {k m} (h : ((masks l).getD k 0).testBit m=true) : Dep l k m :=
 masksFrom_spec (l:=l) (acc:=[]) (by simp) (by simp) k m h

def looks (l : List Oper) (o : Oper) : List Tmp:=o.looksAt l.toArray

def clash (l : List Oper) (b : List Nat) (k m : Nat) (ok om : Oper) : Bool :=
 match om.dst with
 | none => true
 | some s => ok.dst != some s && (!(looks l ok).contains s || (if m < k then (b.getD k 0).testBit m else (b.getD m 0).testBit k))

def regionOK (l : List Oper) (n : Nat) : Bool :=
 let b:=masks l
 n<=l.length &&
 (l.all fun o => match o.op with | .select .. => false | _ => true) &&
 (l.zipIdx.all fun (o,i) => o.after.all fun e => !Region.binds .any e || e.on < i) &&
 ((l.take n).zipIdx.all fun (ok,k) => (l.take n).zipIdx.all fun (om,m) => k == m || clash l b k m ok om) &&
 ((List.range l.length).all fun t => if t < n then true else if t=n then (List.range n).all fun i => (b.getD n 0).testBit i else (b.getD t 0).testBit (t - 1))

def partsD (st : St) : List (Nat × Operand)->Option (List (Nat × D))
 | [] => some []
 | (i, x) :: r => match ev st x with
   | some (.d y) => match partsD st r with
     | some ys => some ((i,y) :: ys)
     | none => none
   | _ => none
def rowV (len : Nat) (x : D) : AV:=if len=0 then .e0 else .d x
def hv (P : Program) (st : St) (op : Op) : Option (Prop × AV) :=
 match op with
 | .build t ps => match partsD st ps.toList with
   | some ys => match zeroD P t with
     | some (.agg cs) => match fillD (places P t) cs ys with
       | some r => some (partsU P t=true,.d (.agg r))
       | none => none
     | _ => none
   | none => buildS P st t ps.toList
 | .buildSlice t len ps => match partsD st ps.toList with
   | some ys => match elemSl P t with
     | some e => match zeroD P e with
       | some z => some (0 < P.cellsOf e∧z.cells.length=P.cellsOf e∧len * P.cellsOf e<=16777216∧∀ y ∈ ys,y.1 < len∧y.2.cells.length=P.cellsOf e,
        rowV len (.slice (setEs (List.replicate len z) ys)))
       | none => none
     | none => none
   | none => none
 | .slice t x lo hi none => match ev st x with
   | some (.d y) => match bound lo st, bound hi st with
     | some l, some h => match cutV P t y l h with
       | some (c,z) => some (c,.d z)
       | none => none
     | _,_ => none
   | _ => none
 | _ => none

def callV (P : Program) (f : FuncId) (o : List (Nat × AO)) (avs : List AV) (res : D) : Prop :=
 ∃ (J : Nat) (avs' : List AV) (ob : AO),CtrM P f avs' [(0,ob)] [0] true (.d res) [(0,ob)]∧passM P (delL [J] o) (nth [J]) true avs avs'∧lkn J o=some (ob.ren (nth [J]))∧ob.mv (nth [J]) [(0,ob)]=ob.ren (nth [J])
def hopA (P : Program) (st : St) (o : Oper) (K : AV->Prop) : Prop :=
 match qv P st o.op with
 | some (c,av) => c∧K av
 | none => match hv P st o.op with
   | some (c,x) => c∧K x
   | none => match o.op with
     | .call c => match c.callee with
       | .value x => match (ev st x).map fnOf, evs st c.args.toList with
         | some (.fn (.func f) caps), some avs =>
           ∃ sh res,((match (if sh then datas (avs++caps) else views P st.o (avs++caps)) with | some xs => Ctr P f xs sh (.d res) [] | none => False)∨callV P f st.o (avs++caps) res)∧o.dst.isSome=true∧K (.d res)
         | _,_ => False
       | _ => False
     | _ => False

def headA (P : Program) (N : Nat) (l : List Oper) : List Oper->St->(St->Prop)->Prop
 | [],st,K => K st
 | o :: r,st,K => dstB N o.dst∧guardA l st o (hopA P st o fun av => headA P N l r (st.put o.dst av) K) (headA P N l r (st.put o.dst skipV) K)

section
variable {P : Program} {Z : Nat->Prop} {β : Nat->Value} {φ : Nat->Nat->Prop} {N B : Nat} {M : Nat->Prop} {w0 : World} {st : St} {a : Act} {w : World}

def Yl (P : Program) (N : Nat) (l : List Oper) (st : St) (o : Oper) (av : AV) : Prop :=
 dstB N o.dst∧guardA l st o (hopA P st o fun av' => av'=av) (av=skipV)

def Alike (l : List Oper) (o : Oper) (st st' : St) : Prop:=st'.o=st.o∧∀ s ∈ looks l o,lk s st'.s=lk s st.s

theorem ev_alike {st st' : St} {x : Operand} (h : ∀ s,x=.tmp s->lk s st'.s=lk s st.s) : ev st' x=ev st x:=by
 cases x with
 | tmp t => exact h t rfl
 | _ => rfl

theorem evA_alike {st st' : St} {x : Operand} (h : ev st' x=ev st x) : evA st' x=evA st x:=by
 unfold evA; split
 . rfl
 . exact h
theorem evs_alike {st st' : St} : ∀ {xs : List Operand},(∀ x ∈ xs,ev st' x=ev st x)->evs st' xs=evs st xs
 | [],_ => rfl
 | x :: r,h => by simp only [evs,evA_alike (h x (by simp)),evs_alike (xs:=r) fun y hy => h y (by simp [hy])]
theorem partsD_alike {st st' : St} : ∀ {ps : List (Nat × Operand)},(∀ p ∈ ps,ev st' p.2=ev st p.2)->partsD st' ps=partsD st ps
 | [],_ => rfl
 | (i,x) :: r,h => by simp only [partsD,h (i,x) (by simp),partsD_alike (ps:=r) fun y hy => h y (by simp [hy])]

theorem avParts_alike {st st' : St} : ∀ {ps : List (Nat × Operand)},(∀ p ∈ ps,ev st' p.2=ev st p.2)->avParts st' ps=avParts st ps
 | [],_ => rfl
 | (i,x) :: r,h => by simp only [avParts,h (i,x) (by simp),avParts_alike (ps:=r) fun y hy => h y (by simp [hy])]
theorem buildS_alike {st st' : St} {t : TypeId} {ps : List (Nat × Operand)} (ho : st'.o=st.o) (h : ∀ p ∈ ps,ev st' p.2=ev st p.2) : buildS P st' t ps=buildS P st t ps:=by
 simp only [buildS,avParts_alike h,ho]

theorem bound_alike {st st' : St} {x : Option Operand} (h : ∀ y ∈ x.toList,ev st' y=ev st y) : bound x st'=bound x st:=by
 cases x with
 | none => rfl
 | some y => simp only [bound,h y (by simp)]

theorem qv_alike {st st' : St} {op : Op} (ho : st'.o=st.o) (h : ∀ x ∈ op.operands,ev st' x=ev st x) : qv P st' op=qv P st op:=by
 cases op<;>simp only [qv]<;>simp only [Op.operands] at h
 case call c =>
  cases hc : c.callee with
  | builtin b =>
    have h' : ∀ x ∈ c.args.toList,ev st' x=ev st x:=fun x hx => h x (by simp only [Call.operands,Array.mem_append]; exact .inr (by simpa using hx))
    simp only
    unfold builtinV
    split
    . rename_i x t hargs _ 
      simp only [h' x (by rw [hargs]; simp),ho]
    . rename_i x y hargs
      simp only [h' x (by rw [hargs]; simp),h' y (by rw [hargs]; simp)]
    . rename_i x y hargs
      simp only [h' x (by rw [hargs]; simp),h' y (by rw [hargs]; simp)]
    . rfl
  | _ => rfl
 case slice t x lo hi mx =>
  simp at h
  cases mx<;>cases hi<;>cases lo<;>simp only [e0V]
  simp only [h.1,h.2 _ (.inr (.inl rfl)),h.2 _ (.inr (.inr rfl))]
 case makeFunc f first caps =>
  rw [evs_alike fun x hx => h x (by simp; exact .inr (by simpa using hx))]
  rcases first with ⟨_ | ⟨x,_ | ⟨y,r⟩⟩⟩<;>rcases caps with ⟨_ | ⟨c,cs⟩⟩<;>first | rfl | (have e:=h x (by simp); simp only [e])
 all_goals (try simp at h)
 all_goals (try simp only [h,ho])

theorem hv_alike {st st' : St} {op : Op} (ho : st'.o=st.o) (h : ∀ x ∈ op.operands,ev st' x=ev st x) : hv P st' op=hv P st op:=by
 cases op<;>simp only [hv]<;>simp only [Op.operands] at h
 case build t ps => rw [partsD_alike fun p hp => h p.2 (by simp; exact ⟨p.1,by simpa using hp⟩),buildS_alike ho fun p hp => h p.2 (by simp; exact ⟨p.1,by simpa using hp⟩)]
 case buildSlice t n ps => rw [partsD_alike fun p hp => h p.2 (by simp; exact ⟨p.1,by simpa using hp⟩)]
 case slice t x lo hi mx =>
  cases mx with
  | some m => rfl
  | none => 
    simp only [h x (by simp)]
    rw [bound_alike (x:=lo) fun y hy => h y (by simp at hy; subst hy; simp),bound_alike (x:=hi) fun y hy => h y (by simp at hy; subst hy; simp)]
theorem buildSlice_run (h1 : SimB Z β φ N B M w0 st a w) {dst : Option Tmp} {t e : TypeId} {len : Nat} {ps : Array (Nat × Operand)} {type : TypeId} {pos : String} {after : Array Edge} {guard : Option (Nat × Bool)} {ys : List (Nat × D)} {z : D}
 (he : elemSl P t=some e) (hz : zeroD P e=some z) (hk0 : 0 < P.cellsOf e) (hzk : z.cells.length=P.cellsOf e) (hsz : len * P.cellsOf e<=16777216) (hyk : ∀ y ∈ ys,y.1 < len∧y.2.cells.length=P.cellsOf e)
 (h3 : ys.map (·.1)=ps.toList.map (·.1)) (h4 : ∀ i,i < ys.length->Rd (free Z φ st.o) w (ys.getD i (0,.nilptr)).2 (a.eval (ps.toList.getD i (0,.global 0)).2)) :
 ∃ rs : Array Value,(execOp a.eval ⟨dst,.buildSlice t len ps,type,pos,after,guard⟩).run P w=.ok (.value (.slice (some ⟨w.heap.size,0,none⟩) len len)) (w.alloc (.cells rs e)) ∧
  RdL (free Z φ st.o) w (flat (setEs (List.replicate len z) ys)) rs.toList∧rs.size=len * P.cellsOf e∧(setEs (List.replicate len z) ys).length=len ∧
  (∀ x ∈ setEs (List.replicate len z) ys,x.cells.length=P.cellsOf e)∧len<=maxLen:=by
 have hlen : ys.length=ps.toList.length:=by have:=congrArg List.length h3; simpa using this
 obtain ⟨i,zv,hi,hiz,hzr⟩:=zeroD_spec hz
 have hu:=elemSl_spec he
 obtain ⟨f1,f2,f3⟩:=setEs_fill (k:=P.cellsOf e) (n:=len) (ys:=ys) (es:=List.replicate len z) (by simp) (fun x hx => by rw [List.eq_of_mem_replicate hx]; exact hzk) hyk
 have hzsz : zv.cells.size=P.cellsOf e:=by
  have:=(rd_cells (hzr (fun _ => True) w)).1
  simpa [hzk] using this
 have hzcells : RdL (free Z φ st.o) w (flat (List.replicate len z)) ((Array.range (len * P.cellsOf e)).map fun j => zv.cells[j % zv.cells.size]!).toList:=by
  have fl:=flat_length (es:=List.replicate len z) (k:=P.cellsOf e) (fun x hx => by rw [List.eq_of_mem_replicate hx]; exact hzk)
  rw [List.length_replicate] at fl
  refine ⟨by simp [fl],fun ii hii => ?_⟩
  rw [fl] at hii
  have hm:=Nat.mod_lt ii hk0
  have hdiv : ii / P.cellsOf e < len:=Nat.div_lt_of_lt_mul (by rw [Nat.mul_comm]; exact hii)
  have e1 : ii=(ii / P.cellsOf e) * P.cellsOf e + ii % P.cellsOf e:=by have:=Nat.div_add_mod ii (P.cellsOf e); rw [Nat.mul_comm] at this; omega
  have hl : (flat (List.replicate len z)).getD ii .nilptr=z.cells.getD (ii % P.cellsOf e) .nilptr:=by
   conv => lhs; rw [e1]
   rw [flat_getD (k:=P.cellsOf e) (fun x hx => by rw [List.eq_of_mem_replicate hx]; exact hzk) (by simpa using hdiv) hm]
   congr 2
   simp [el,List.getD_eq_getElem?_getD,hdiv]
  rw [hl]
  have:=(rd_cells (hzr (free Z φ st.o) w)).2 (ii % P.cellsOf e) (by omega)
  have hms : ii % P.cellsOf e < zv.cells.size:=by omega
  have e2 : zv.cells[ii % P.cellsOf e]! = zv.cells.toList.getD (ii % P.cellsOf e) Go.undef:=by
   rw [getElem!_pos zv.cells _ hms]; simp [List.getD_eq_getElem?_getD,hms]
  have e3 : (((Array.range (len * P.cellsOf e)).map fun j => zv.cells[j % zv.cells.size]!).toList).getD ii Go.undef=zv.cells[ii % P.cellsOf e]! := by
   simp [List.getD_eq_getElem?_getD,hii,hzsz]
  rw [e3,e2]; exact this
 obtain ⟨rs,h5,h6⟩:=fill_spec (S:=free Z φ st.o) (w:=w) (us:=ps.toList.map fun p => (p.1,a.eval p.2)) f3 (by rw [h3,List.map_map]; rfl) (fun i hi => by
  rw [getD_map_pair _ _ _ (by omega)]; exact h4 i hi) hzcells
 have fls:=flat_length f2
 have hrsz : rs.size=len * P.cellsOf e:=by have:=h6.1; rw [fls,f1] at this; simpa using this
 have hps : (ps.map fun (i,x) => (i,a.eval x))=(ps.toList.map fun p => (p.1,a.eval p.2)).toArray:=by cases ps; simp
 have hml : len<=maxLen:=by
  have : len * 1<=len * P.cellsOf e:=Nat.mul_le_mul_left _ hk0
  unfold maxLen; omega
 refine ⟨rs,?_,h6,hrsz,f1,f2,hml⟩
 have hns : ¬ (len * P.cellsOf e > 2 ^ 24):=by omega
 by_cases h0 : len * P.cellsOf e=0
 . have hfill : Instr.fill (fun i => some (i * P.cellsOf e,P.cellsOf e)) ((Array.range (len * P.cellsOf e)).map fun j => (#[] : Array Value)[j % 0]!) (ps.toList.map fun p => (p.1,a.eval p.2))=some rs:=by
    rw [← h5]; congr 1; rw [h0]; simp
   simp only [execOp,hps,Instr.buildSlice,Sem.run_bind,run_underlying hu,Result.andThen_ok,run_sizeOf_pos hk0,hns,if_false,h0,if_true,Sem.run_pure]
   rw [h0] at hfill
   simp at hfill
   simp [hfill,newRow]
 . simp only [execOp,hps,Instr.buildSlice,Sem.run_bind,run_underlying hu,Result.andThen_ok,run_sizeOf_pos hk0,hns,if_false,h0,Sem.run_pure,zeroValue,typeInfo]
   simp [hi,hiz,h5,newRow]

theorem partsD_dsOf : ∀ {ps ys},partsD st ps=some ys->dsOf st ps=some (ys,st)
 | [],ys,h => by simp [partsD] at h; subst h; rfl
 | (i, x) :: r, ys, h => by
   simp only [partsD] at h
   split at h
   . rename_i y hy
     split at h
     . rename_i zs hz
       cases h
       have h1 : dOf st x=some (y,st):=by simp [dOf,hy]
       simp only [dsOf,h1,partsD_dsOf hz]
     . cases h
   . cases h

theorem hv_spec (h : SimB Z β φ N B M w0 st a w) {o : Oper} {c x} (hq : hv P st o.op=some (c,x)) (hc : c) :
 ∃ v w',(execOp a.eval o).run P w=.ok (.value v) w'∧Gb w w' none∧Rel β (free Z φ st.o) w' x v:=by
 obtain ⟨dst,op,type,pos,after,guard⟩:=o
 simp only at hq
 have refl : Gb w w none:=Gb.refl w none
 unfold hv at hq
 split at hq
 . rename_i t ps
   split at hq
   . rename_i ys hys
     split at hq
     . rename_i cs hz
       split at hq
       . rename_i r hf
         cases hq
         obtain ⟨h1,h2,h3,h4⟩:=dsOf_spec h (partsD_dsOf hys)
         have hlen : ys.length=ps.toList.length:=by have:=congrArg List.length h3; simpa using this
         obtain ⟨v,h5,h6⟩:=run_build' (P:=P) (w:=w) (t:=t) (us:=ps.toList.map fun p => (p.1,a.eval p.2)) hz hf hc (by rw [h3,List.map_map]; rfl) (fun i hi => by
          rw [getD_map_pair _ _ _ (by omega)]; exact h4 i hi)
         have hps : (ps.map fun (i,x) => (i,a.eval x))=(ps.toList.map fun p => (p.1,a.eval p.2)).toArray:=by cases ps; simp
         refine ⟨v,w,?_,refl,.d h6⟩
         simp only [execOp,hps,Sem.run_bind,h5,Result.andThen_ok,Sem.run_pure]
       . cases hq
     . cases hq
   . unfold buildS at hq
     split at hq
     . rename_i ys cs hys hz
       split at hq
       . rename_i r hf
         split at hq
         . cases hq
           obtain ⟨hp,hlive⟩:=hc
           obtain ⟨h1,h2⟩:=avParts_spec h hys
           obtain ⟨i,vs,hi,hz',hzr⟩:=zeroD_nil hz
           obtain ⟨z1,z2⟩:=hzr β (free Z φ st.o) w
           have hlen : ys.length=ps.toList.length:=by have:=congrArg List.length h1; simpa using this
           obtain ⟨rs,f1,f2,f3⟩:=fillA_spec (β:=β) (S:=free Z φ st.o) (w:=w) (us:=ps.toList.map fun p => (p.1,a.eval p.2)) hf (by rw [h1,List.map_map]; rfl) (fun k hk => by
            rw [getD_map_pair _ _ _ (by omega)]; exact h2 k hk) (fun p hp' j hj => by
            obtain ⟨ob,hob⟩:=live_sl (liveP_mem hlive p hp') (.inl hj)
            exact sl_slice h hob) z1 z2
           have hps : (ps.map fun (i,x) => (i,a.eval x))=(ps.toList.map fun p => (p.1,a.eval p.2)).toArray:=by cases ps; simp
           refine ⟨.agg rs,w,?_,refl,?_⟩
           . simp only [execOp,hps,Sem.run_bind,run_buildV hi hz' hp f1,Result.andThen_ok,Sem.run_pure]
           . have:=Rel.st (β:=β) (S:=free Z φ st.o) (w:=w) (vs:=rs.toList) f2 f3
             simpa using this
         . cases hq
       . cases hq
     . cases hq
 . rename_i t len ps
   split at hq
   . rename_i ys hys
     split at hq
     . rename_i e he
       split at hq
       . rename_i z hz
         cases hq
         obtain ⟨hk0,hzk,hsz,hyk⟩:=hc
         obtain ⟨h1,h2,h3,h4⟩:=dsOf_spec h (partsD_dsOf hys)
         obtain ⟨rs,r1,r2,r3,r4,r5,r6⟩:=buildSlice_run (P:=P) (dst:=dst) (type:=type) (pos:=pos) (after:=after) (guard:=guard) h he hz hk0 hzk hsz hyk h3 h4
         refine ⟨_,_,r1,grownBy_alloc _ _,?_⟩
         have hfree : free Z φ st.o w.heap.size:=⟨h.z _ (.inl h.fr.le),fun j x hj _ hgo => by have:=(h.objs j x hj).block_lt hgo; omega⟩
         have hcell : ∀ i,i < rs.size->(w.alloc (.cells rs e)).cell? ⟨w.heap.size,i,none⟩=some (rs.toList.getD i Go.undef):=fun i hi => by
          rw [cell_of_row _ _ _ _ _ _ (heap_alloc_new w _)]; simp [List.getD_eq_getElem?_getD,hi]
         have:=Rd.slice (S:=free Z φ st.o) (w:=w.alloc (.cells rs e)) (es:=setEs (List.replicate len z) ys) (b:=w.heap.size) (off:=0) (cap:=len) (k:=P.cellsOf e) (fun i => rs.toList.getD i Go.undef)
          r5 (by omega) (fun i hi => ⟨hfree,by rw [Nat.zero_add]; exact hcell i (by rw [flat_length r5,r4] at hi; omega)⟩)
          (fun i hi => (r2.2 i hi).move fun g hg hlt => ⟨hg,(grownBy_alloc w _).block g hlt (by simp)⟩)
         rw [r4] at this
         unfold rowV
         split
         . rename_i e0; rw [e0]; exact .e0s _
         . exact .d this
       . cases hq
     . cases hq
   . cases hq
 . rename_i t x lo hi
   split at hq
   . rename_i y hy
     split at hq
     . rename_i l hh hl hhi
       obtain ⟨k1,hb1⟩:=bound_spec h hl
       obtain ⟨k2,hb2⟩:=bound_spec h hhi
       split at hq<;>cases hq
       rename_i hp
       obtain ⟨u,h3,h4⟩:=cut_spec (P:=P) k1 k2 (ev_d h hy) hp hc
       refine ⟨u,w,?_,refl,.d h4⟩
       simp only [execOp,Option.map_none,Sem.run_bind]
       rw [hb1,hb2,h3]
       rfl
     . cases hq
   . cases hq
 . cases hq

theorem hopA_pick {o : Oper} {K : AV->Prop} (hq : hopA P st o K) : ∃ av,hopA P st o (fun av' => av'=av)∧K av:=by
 unfold hopA at *
 split at hq
 . rename_i h1; exact ⟨_,⟨hq.1,rfl⟩,hq.2⟩
 . rename_i h1
   split at hq
   . rename_i h2; exact ⟨_,⟨hq.1,rfl⟩,hq.2⟩
   . rename_i h2
     split at hq
     . split at hq
       . split at hq
         . obtain ⟨sh,res,h3,h4,h5⟩:=hq; exact ⟨_,⟨sh,res,h3,h4,rfl⟩,h5⟩
         . exact hq.elim
       . exact hq.elim
     . exact hq.elim

theorem headA_Yl {l : List Oper} {o : Oper} {r : List Oper} {K} (hq : headA P N l (o :: r) st K) : ∃ av,Yl P N l st o av∧headA P N l r (st.put o.dst av) K:=by
 obtain ⟨hd,hq⟩:=hq
 unfold guardA at hq
 unfold Yl guardA
 split at hq
 . obtain ⟨av,h1,h2⟩:=hopA_pick hq; exact ⟨av,⟨hd,h1⟩,h2⟩
 . rename_i j want hg
   split at hq
   . rename_i d hd'
     split at hq
     . rename_i b hb
       by_cases hbw : b=want
       . obtain ⟨av,h1,h2⟩:=hopA_pick (hq.1 hbw)
         exact ⟨av,⟨hd,fun _ => h1,fun h => absurd hbw h⟩,h2⟩
       . exact ⟨skipV,⟨hd,fun h => absurd h hbw,fun _ => rfl⟩,hq.2 hbw⟩
     . exact ⟨skipV,⟨hd,rfl⟩,hq⟩
     . exact hq.elim
   . exact hq.elim

theorem Yl_alike {l : List Oper} {o : Oper} {st' : St} {av} (ha : Alike l o st st') (hq : Yl P N l st o av) : Yl P N l st' o av:=by
 obtain ⟨ho,hs⟩:=ha
 obtain ⟨hd,hq⟩:=hq
 refine ⟨hd,?_⟩
 have hev : ∀ x ∈ o.op.operands,ev st' x=ev st x:=fun x hx => ev_alike fun s e => by
  subst e
  exact hs s (List.mem_append_left _ (List.mem_filterMap.2 ⟨.tmp s,by simpa using hx,rfl⟩))
 have hhop : ∀ {K : AV->Prop},hopA P st o K->hopA P st' o K:=fun {K} hh => by
  unfold hopA at *
  rw [qv_alike ho hev,hv_alike ho hev]
  split at hh
  . exact hh
  . split at hh
    . exact hh
    . split at hh
      . rename_i c hc
        have hev' : ∀ x ∈ c.operands,ev st' x=ev st x:=fun x hx => hev x (by rw [hc]; exact hx)
        split at hh
        . rename_i x hx
          rw [hev' x (by simp [Call.operands,hx]),evs_alike fun y hy => hev' y (by simp only [Call.operands,Array.mem_append]; exact .inr (by simpa using hy)),ho]
          exact hh
        . exact hh
      . exact hh
 unfold guardA at *
 split at hq
 . exact hhop hq
 . rename_i j want hg
   split at hq
   . rename_i d hd'
     have : lk d st'.s=lk d st.s:=hs d (by
      refine List.mem_append_right _ ?_
      have : ((l.toArray)[j]?).bind (·.dst)=some d:=by simpa using hd'
      rw [hg]; simp only [this]; simp)
     rw [this]
     split at hq
     . exact ⟨fun h => hhop (hq.1 h),hq.2⟩
     . exact hq
     . exact hq
   . exact hq

theorem Sim.congr {st st' : St} (h : Sim Z N B M w0 st a w) (hs : st'.s=st.s) (ho : ∀ i,lk i st'.o=lk i st.o) : Sim Z N B M w0 st' a w:=by
 obtain ⟨β,φ,h⟩:=h
 have hf : free Z φ st'.o=free Z φ st.o:=funext fun g => by unfold free; simp only [ho]
 refine ⟨β,φ,by rw [hf]; exact h.nd,h.size,fun i av hi => ?_,fun i o hi => ?_,fun i o g hi hg => ?_,fun i i' o o' g hi hi' hg hg' => ?_,h.fr,h.z,h.gw⟩
 . rw [hf]; exact h.slots i av (by rw [← hs]; exact hi)
 . rw [hf]; exact h.objs i o (by rw [← ho]; exact hi)
 . exact h.own i o g (by rw [← ho]; exact hi) hg
 . exact h.disj i i' o o' g (by rw [← ho]; exact hi) (by rw [← ho]; exact hi') hg hg'
theorem hopA_spec (h : SimB Z β φ N B M w0 st a w) {o : Oper} {K : AV->Prop} (hd : dstB N o.dst) (hq : hopA P st o K) {K' : Act->World->Prop} {Q : Exit->Act->World->Prop}
 (hK : ∀ av a' w',K av->Sim Z N B M w0 (st.put o.dst av) a' w'->K' a' w') : o.wp P a w K' Q:=by
 unfold hopA at hq
 split at hq
 . rename_i c av h1
   obtain ⟨u,h2,h3⟩:=qv_spec h h1 hq.1
   unfold Oper.wp
   rw [h2]
   exact hK _ _ _ hq.2 ⟨β,φ,h.put (dstB_spec hd) h3⟩
 . split at hq
   . rename_i c x h2
     obtain ⟨v,w',h3,h4,h5⟩:=hv_spec h h2 hq.1
     unfold Oper.wp
     rw [h3]
     exact hK _ _ _ hq.2 ⟨β,φ,(h.grown h4).put (dstB_spec hd) h5⟩
   . split at hq
     . rename_i c hop
       refine callA_spec (K:=fun st' => ∃ res,(∀ a w,Sim Z N B M w0 st' a w->Sim Z N B M w0 (st.put o.dst (.d res)) a w)∧K (.d res)) h hop ?_ (fun st' a' w' hs ⟨res,e,hk⟩ => hK _ _ _ hk (e _ _ hs))
       unfold callA
       split at hq
       . rename_i x hx
         split at hq
         . rename_i f caps avs e1 e2
           obtain ⟨sh,res,h3,h4,h5⟩:=hq
           obtain ⟨d,hd'⟩:=Option.isSome_iff_exists.1 h4
           rw [hd'] at hd ⊢
           simp only [hx,e1,e2]
           rcases h3 with h3 | ⟨J,avs',ob,c1,c2,c3,c4⟩
           . exact .inl ⟨d,sh,.d res,[],rfl,h3,hd,res,fun _ _ h => h,h5⟩
           . refine .inr ⟨[J],[J],[],avs',[(0,ob)],[0],true,_,c1.rel,c2,⟨c3,trivial⟩,by simp [namesI,keysO,nth],hd,fun r1 o1 ⟨er,eo⟩ => ?_⟩
             subst er; subst eo
             refine ⟨by simp [namesOK,keysO,nth],res,fun a w hs => ?_,h5⟩
             refine hs.congr rfl fun i => ?_
             show lk i st.o=lk i (insAll (mvO (nth [J]) [(0,ob)] [(0,ob)]) st.o)
             have e9 : insAll (mvO (nth [J]) [(0,ob)] [(0,ob)]) st.o=ins J (ob.mv (nth [J]) [(0,ob)]) st.o:=rfl
             rw [e9,lk_ins]
             split
             . rename_i e; subst e; rw [c4]; exact (lkn_spec c3).1
             . rfl
         . exact hq.elim
       . exact hq.elim
     . exact hq.elim

theorem guardA_spec (h : Sim Z N B M w0 st a w) {l : List Oper} {o : Oper} {R S : Prop} (hq : guardA l st o R S) :
 if Region.wanted o (yielded l.toArray a.tmps) then R else S:=by
 unfold guardA at hq
 split at hq
 . rename_i hg
   have : Region.wanted o (yielded l.toArray a.tmps)=true:=by simp [Region.wanted,hg]
   rw [if_pos this]
   exact hq
 . rename_i j want hg
   split at hq
   . rename_i d hd
     have hd' : ((l.toArray)[j]?).bind (·.dst)=some d:=by simpa using hd
     obtain ⟨β,φ,hB⟩:=h
     split at hq
     . rename_i b hb
       have hv:=hB.slots d _ hb
       have hdl : d < a.tmps.size:=by
        rcases Nat.lt_or_ge d a.tmps.size with h' | h'
        . exact h'
        . have e : a.tmps.getD d Go.undef=Go.undef:=by simp [Array.getElem?_eq_none h']
          rw [e] at hv
          cases hv with | d hr => cases hr
       have hval : a.tmps[d]? = some (.bool b):=by
        have e : a.tmps.getD d Go.undef=.bool b:=by
         generalize a.tmps.getD d Go.undef=v at *
         cases hv with | d hr => cases hr; rfl
        simp [hdl] at e ⊢; exact e
       have hy : yielded l.toArray a.tmps j=some b:=by simp [yielded,hd,hval]
       by_cases hbw : b=want
       . have : Region.wanted o (yielded l.toArray a.tmps)=true:=by simp [Region.wanted,hg,hy,hbw]
         rw [if_pos this]
         exact hq.1 hbw
       . have : ¬ Region.wanted o (yielded l.toArray a.tmps)=true:=by simp [Region.wanted,hg,hy,hbw]
         rw [if_neg this]
         exact hq.2 hbw
     . rename_i xs hb
       have hv:=hB.slots d _ hb
       have hy : yielded l.toArray a.tmps j=none:=by
        simp only [yielded,hd',Option.bind_some]
        cases hh : a.tmps[d]? with
        | none => rfl
        | some v =>
          have e : a.tmps.getD d Go.undef=v:=by simp [hh]
          rw [e] at hv
          cases hv; rfl
       have : ¬ Region.wanted o (yielded l.toArray a.tmps)=true:=by simp [Region.wanted,hg,hy]
       rw [if_neg this]
       exact hq
     . exact hq.elim
   . exact hq.elim

theorem Yl_spec (h : Sim Z N B M w0 st a w) {l : List Oper} {o : Oper} {av} (hq : Yl P N l st o av) {K' : Act->World->Prop} {Q : Exit->Act->World->Prop}
 (hK : ∀ a' w',Sim Z N B M w0 (st.put o.dst av) a' w'->K' a' w') :
 if Region.wanted o (yielded l.toArray a.tmps) then o.wp P a w K' Q else K' (a.put o.dst Go.undef) w:=by
 obtain ⟨hd,hq⟩:=hq
 have:=guardA_spec h hq
 split
 . rename_i hw
   rw [if_pos hw] at this
   obtain ⟨β,φ,hB⟩:=h
   exact hopA_spec hB hd this fun av' a' w' e hs => hK _ _ (e ▸ hs)
 . rename_i hw
   rw [if_neg hw] at this
   subst this
   obtain ⟨β,φ,hB⟩:=h
   exact hK _ _ ⟨β,φ,hB.put (dstB_spec hd) skip_rel⟩

def upto (l : List Oper) (V : Nat->AV) (s0 : List (Nat × AV)) (n : Nat) (L : Nat->Bool) (s : Nat) : Option AV :=
 match (List.range n).find? fun k => L k && (((l[k]?).bind (·.dst)) == some s) with
 | some k => some (V k)
 | none => lk s s0

theorem headA_values {l : List Oper} {K : St->Prop} : ∀ {r : List Oper} {st : St},headA P N l r st K->∃ (V : Nat->AV) (S : Nat->St),S 0=st ∧
 (∀ k o,r[k]? = some o->Yl P N l (S k) o (V k)∧S (k + 1)=(S k).put o.dst (V k))∧K (S r.length)
 | [],st,h => ⟨fun _ => .undef,fun _ => st,rfl,by simp,h⟩
 | o :: r, st, h => by
   obtain ⟨av,h1,h2⟩:=headA_Yl h
   obtain ⟨V,S,h3,h4,h5⟩:=headA_values h2
   refine ⟨fun k => match k with | 0 => av | k + 1 => V k,fun k => match k with | 0 => st | k + 1 => S k,rfl,fun k o' hk => ?_,h5⟩
   cases k with
   | zero =>
     simp only [List.getElem?_cons_zero,Option.some.injEq] at hk
     subst hk
     exact ⟨h1,h3⟩
   | succ k => exact h4 k o' (by simpa using hk)
end
end Abs

namespace Abs
open Go Go.RowKit

theorem wp_loop_n {P : Program} {c : Code} {Q : Exit->Act->World->Prop} (I : Nat->Act->World->Prop)
 (round : ∀ n a w,I n a w->c.wp P (Exit.then (fun a' w' => ∃ m,m < n∧I m a' w') Q) a w) : ∀ n a w,I n a w->(Code.loop c).wp P Q a w:=by
 intro n a w h0 b k cs
 have key : ∀ n a w,I n a w->∃ e a' w',Q e a' w'∧Arrives P (lone (b.at a (.code c :: .inLoop c :: k)) cs w) b k cs e a' w':=by
  intro n
  induction n using Nat.strongRecOn with
  | _ n ih =>
    intro a w hI
    obtain ⟨e,a1,w1,hq,harr⟩:=round n a w hI b (.inLoop c :: k) cs
    cases e with
    | normal =>
      obtain ⟨m,hlt,hI1⟩:=hq
      obtain ⟨e2,a2,w2,hq2,harr2⟩:=ih m hlt a1 w1 hI1
      exact ⟨e2,a2,w2,hq2,.of_steps (Steps.trans harr (.one step_inLoop)) harr2⟩
    | exit id => exact ⟨_,a1,w1,hq,.pass (x:=.inLoop c) rfl (fun _ _ => .inl (by simp)) harr⟩
    | goto l => exact ⟨_,a1,w1,hq,.pass (x:=.inLoop c) rfl (fun _ _ => .inl (by simp)) harr⟩
    | ret => exact ⟨_,a1,w1,hq,.pass (x:=.inLoop c) rfl (fun _ _ => .inl (by simp)) harr⟩
    | panic ch => exact ⟨_,a1,w1,hq,.pass (x:=.inLoop c) rfl (fun _ _ => .inl (by simp)) harr⟩
    | outgrown => exact ⟨_,a1,w1,hq,.pass (x:=.inLoop c) rfl (fun _ _ => .inl (by simp)) harr⟩
 obtain ⟨e,a',w',hq,harr⟩:=key n a w h0
 exact ⟨e,a',w',hq,.of_steps (.one step_loop) harr⟩
def SW (P : Program) : Code->(Exit->Act->World->Prop)->Act->World->Prop
 | .skip,Q,a,w => Q .normal a w
 | .exit id,Q,a,w => Q (.exit id) a w
 | .ret,Q,a,w => Q .ret a w
 | .seq x y,Q,a,w => SW P x (Exit.then (SW P y Q) Q) a w
 | .cond c x y,Q,a,w => ∃ t,a.eval c=.bool t∧(t=true->SW P x Q a w)∧(t=false->SW P y Q a w)
 | .block id c,Q,a,w => SW P c (Exit.inBlock id Q) a w
 | .loop c,Q,a,w => ∃ (I : Nat->Act->World->Prop) (n : Nat),I n a w∧∀ n a w,I n a w->SW P c (Exit.then (fun a' w' => ∃ m,m < n∧I m a' w') Q) a w
 | .region _ ops false,Q,a,w => wpOps P ops Q (List.range ops.size) a w
 | .region _ ops true,Q,a,w => wpAny P .any ops Q ops.size (Array.replicate ops.size false) a { w with drawn:=w.drawn + 1 }
 | .rangeFunc g ps asg body,Q,a,w => (Code.rangeFunc g ps asg body).wp P Q a w
 | _,_,_,_ => False

section
variable {P : Program}
theorem Oper.upon_mono {o : Oper} {a : Act} {K K' : Act->World->Prop} {Q Q' : Exit->Act->World->Prop} (hk : ∀ a w,K a w->K' a w) (hq : ∀ e a w,Q e a w->Q' e a w) {r : Result Next} (h : o.upon P a K Q r) : o.upon P a K' Q' r:=by
 cases r with
 | ok n w' =>
   cases n<;>simp only [Oper.upon] at h ⊢ <;>
    first
     | exact hk _ _ h
     | exact Calls.mono h (fun e w'' he => by
      cases e
      . exact hk _ _ he
      . exact hq _ _ _ he
      . obtain ⟨a,w,h⟩:=he; exact ⟨a,w,hq _ _ _ h⟩)
     | exact Rows.mono h (fun _ _ he => hk _ _ he)
 | halt x w' => cases x<;>simp only [Oper.upon] at h ⊢<;>exact hq _ _ _ h
theorem wpOp_mono2 {ops : Array Oper} {i : Nat} {a : Act} {w : World} {K K' : Act->World->Prop} {Q Q' : Exit->Act->World->Prop} (hk : ∀ a w,K a w->K' a w) (hq : ∀ e a w,Q e a w->Q' e a w) (h : wpOp P ops Q i K a w) : wpOp P ops Q' i K' a w:=by
 unfold wpOp at *
 split
 . exact hk _ _ (by simpa [*] using h)
 . rename_i o ho
   simp only [ho] at h
   split
   . rename_i hw; simp only [hw,if_true] at h
     exact h.imp (Oper.upon_mono hk hq) fun ⟨h1,a,w,h2⟩ => ⟨h1,a,w,hq _ _ _ h2⟩
   . rename_i hw; simp only [hw] at h; exact hk _ _ h
theorem wpOps_mono2 {ops : Array Oper} {Q Q' : Exit->Act->World->Prop} (hq : ∀ e a w,Q e a w->Q' e a w) : ∀ (l : List Nat) {a w},wpOps P ops Q l a w->wpOps P ops Q' l a w
 | [],a,w,h => hq _ _ _ h
 | i :: r, a, w, h => by
   rw [wpOps_cons] at h ⊢
   exact wpOp_mono2 (fun a w h => wpOps_mono2 hq r h) hq h
theorem wpAny_mono2 {ops : Array Oper} {Q Q' : Exit->Act->World->Prop} (hq : ∀ e a w,Q e a w->Q' e a w) : ∀ (fuel : Nat) {l a w},wpAny P .any ops Q fuel l a w->wpAny P .any ops Q' fuel l a w
 | 0,l,a,w,h => ⟨h.1,hq _ _ _ h.2⟩
 | fuel + 1,l,a,w,h => ⟨fun e => hq _ _ _ (h.1 e),fun i hi => wpOp_mono2 (fun a w h => wpAny_mono2 hq fuel h) hq (h.2 i hi)⟩
theorem sw_mono : ∀ (c : Code) {Q Q' : Exit->Act->World->Prop} {a w},SW P c Q a w->(∀ e a w,Q e a w->Q' e a w)->SW P c Q' a w
 | .skip,_,_,_,_,h,hq => hq _ _ _ h
 | .exit id,_,_,_,_,h,hq => hq _ _ _ h
 | .ret,_,_,_,_,h,hq => hq _ _ _ h
 | .seq x y,_,_,_,_,h,hq => sw_mono x (show SW P x _ _ _ from h) fun e a w h => by
  cases e with
  | normal => exact sw_mono y (show SW P y _ _ _ from h) hq
  | _ => exact hq _ _ _ h
 | .cond c x y,_,_,_,_,⟨t,h1,h2,h3⟩,hq => ⟨t,h1,fun e => sw_mono x (h2 e) hq,fun e => sw_mono y (h3 e) hq⟩
 | .block id c,_,_,_,_,h,hq => sw_mono c (show SW P c _ _ _ from h) fun e a w h => by
  cases e with
  | exit id' =>
    simp only [Exit.inBlock] at h ⊢
    split
    . rename_i e; rw [if_pos e] at h; exact hq _ _ _ h
    . rename_i e; rw [if_neg e] at h; exact hq _ _ _ h
  | _ => exact hq _ _ _ h
 | .loop c,_,_,_,_,⟨I,n,h1,h2⟩,hq => ⟨I,n,h1,fun n a w hI => sw_mono c (h2 n a w hI) fun e a w h => by
  cases e with
  | normal => exact h
  | _ => exact hq _ _ _ h⟩
 | .region _ ops false,_,_,_,_,h,hq => wpOps_mono2 hq _ h
 | .region _ ops true,_,_,_,_,h,hq => wpAny_mono2 hq _ h
 | .rangeFunc g ps asg body,_,_,_,_,h,hq => wp_mono h hq
 | .label _,_,_,_,_,h,_ => h.elim
 | .goto _,_,_,_,_,h,_ => h.elim
 | .scope _,_,_,_,_,h,_ => h.elim
 | .refuse _,_,_,_,_,h,_ => h.elim

theorem wp_of_sw (hm : P.follows .mixedOrders=true) : ∀ (c : Code) {Q : Exit->Act->World->Prop} {a w},SW P c Q a w->c.wp P Q a w
 | .skip,_,_,_,h => wp_skip h
 | .exit id,_,_,_,h => wp_exit h
 | .ret,_,_,_,h => wp_ret h
 | .seq x y,_,_,_,h => wp_seq (wp_mono (wp_of_sw hm x h) fun e a w h => by
  cases e with
  | normal => exact wp_of_sw hm y h
  | _ => exact h)
 | .cond c x y,_,_,_,⟨t,h1,h2,h3⟩ => wp_cond_split h1 (fun e => wp_of_sw hm x (h2 e)) fun e => wp_of_sw hm y (h3 e)
 | .block id c,_,_,_,h => wp_block (wp_of_sw hm c h)
 | .loop c,_,_,_,⟨I,n,h1,h2⟩ => wp_loop_n I (fun n a w hI => wp_of_sw hm c (h2 n a w hI)) n _ _ h1
 | .region _ ops false,_,_,_,h => wp_region h
 | .region _ ops true,_,_,_,h => wp_region_any hm h
 | .rangeFunc g ps asg body,_,_,_,h => h
 | .label _,_,_,_,h => h.elim
 | .goto _,_,_,_,h => h.elim
 | .scope _,_,_,_,h => h.elim
 | .refuse _,_,_,_,h => h.elim

def noDefer (o : Oper) : Bool :=
 match o.op with
 | .defer _ => false
 | _ => true
def calmC : Code->Bool
 | .region _ ops _ => ops.toList.all noDefer
 | .seq x y => calmC x && calmC y
 | .cond _ x y => calmC x && calmC y
 | .block _ c => calmC c
 | .loop c => calmC c
 | .skip => true
 | .exit _ => true
 | .ret => true
 | _ => false
theorem takeDeferred_run {D : Nat} {w : World} (h : w.heap[D]? = some (.deferred (some []))) : (Instr.takeDeferred D).run P w=.ok [] (w.putObj D (.deferred none)):=run_takeDeferred h
theorem leaves_marks {fn : Func} {tmps : Array Value} {R : Ending->World->Prop} {S B : Nat->Prop} : ∀ (ds : List Deferred) {w : World},MarksOK S B w ds ->
 (∀ w',w'.os=w.os->w'.tape=w.tape->w'.output=w.output->w'.drawn=w.drawn->w'.heap.size=w.heap.size->(∀ g,(∀ D,markD D ∈ ds->g ≠ D)->w'.heap[g]? = w.heap[g]?) ->
  ∃ v,(results fn tmps).run P w'=.ok v w'∧R (.returned v) w')->LeavesInM Fence.wide 0 P fn tmps R ds .returning w
 | [], w, _, h => by
   obtain ⟨v,h1,h2⟩:=h w rfl rfl rfl rfl rfl fun _ _ => rfl
   exact ⟨v,h1,h2⟩
 | c :: ds, w, hM, h => by
   obtain ⟨D,rfl,_,_,hD⟩:=hM.each c (by simp)
   have hap:=List.pairwise_cons.1 hM.apart
   refine ⟨by simp,.inl ⟨D,_,rfl,takeDeferred_run hD,?_⟩⟩
   have hlt : D < w.heap.size:=(Array.getElem?_eq_some_iff.1 hD).1
   refine leaves_marks (S:=fun _ => True) (B:=fun _ => True) ds ⟨fun c hc => ?_,hap.2⟩ fun w' h1 h2 h3 h4 h5 h6 => h w' h1 h2 h3 h4 (by simpa using h5) fun g hg => ?_
   . obtain ⟨D',rfl,_,_,hD'⟩:=hM.each c (by simp [hc])
     exact ⟨D',rfl,trivial,trivial,(World.putObj_heap_other (fun e => hap.1 _ hc (by rw [e]))).trans hD'⟩
   . rw [h6 g fun D' hD' => hg D' (by simp [hD'])]
     exact World.putObj_heap_other (hg D (by simp))
end
end Abs
