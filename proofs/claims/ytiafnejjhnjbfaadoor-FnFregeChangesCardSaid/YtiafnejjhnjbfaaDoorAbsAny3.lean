/- A region that draws its order, at whose end a new variable is laid and written: the variable may be laid at any time. No condition but the region's own check. -/
import Derived.Test.YtiafnejjhnjbfaaDoorAbsAny2
set_option linter.all false
namespace Abs
open Go Go.RowKit

def isQ (o : Oper) : Bool :=
 match o.op with
 | .move _ => true
 | .assign _ => true
 | .pick _ _ _ => true
 | .load _ _ => true
 | .fieldAddr _ _ _ => true
 | .indexAddr _ _ _ => true
 | .binOp _ _ _ _ _ => true
 | .unOp _ _ _ => true
 | .convert _ _ _ => true
 | .field _ _ _ => true
 | .extract _ _ => true
 | .build _ _ => true
 | _ => false
section
variable {P : Program}
theorem loadV_extra {o o' : List (Nat × AO)} {d : Nat} (ho : ∀ j,j ≠ d->lk j o'=lk j o) {t : TypeId} {v : AV} (hv : v.has d=false) : loadV P o' t v=loadV P o t v:=by
 cases v with
 | p j off =>
   have : j ≠ d:=by simpa [AV.has] using hv
   simp only [loadV,ho j this]
 | pe j k i fo =>
   have : j ≠ d:=by simpa [AV.has] using hv
   simp only [loadV,ho j this]
 | d x => cases x<;>rfl
 | _ => rfl
theorem indexV_extra {o o' : List (Nat × AO)} {d : Nat} (ho : ∀ j,j ≠ d->lk j o'=lk j o) {t : TypeId} {v : AV} {n : Int} (hv : v.has d=false) : indexV P o' t v n=indexV P o t v n:=by
 unfold indexV
 cases v with
 | sl j =>
   have : j ≠ d:=by simpa [AV.has] using hv
   simp only [ho j this]
 | p j off =>
   have : j ≠ d:=by simpa [AV.has] using hv
   cases off<;>simp only [ho j this]
 | sf j k l =>
   have : j ≠ d:=by simpa [AV.has] using hv
   simp only [ho j this]
 | d x => cases elemSl P t<;>cases elemAr P t<;>cases x<;>first | rfl | (rename_i y; cases y<;>rfl)
 | _ => cases elemSl P t<;>cases elemAr P t<;>rfl
theorem liveL_extra {o o' : List (Nat × AO)} {d : Nat} (ho : ∀ j,j ≠ d->lk j o'=lk j o) : ∀ {cs : List AV},AV.hasL d cs=false->liveL o' cs=liveL o cs
 | [],_ => rfl
 | c :: r, h => by
   simp only [AV.hasL,Bool.or_eq_false_iff] at h
   have ih:=liveL_extra ho h.2
   cases c with
   | sl j =>
     have : j ≠ d:=by simpa [AV.has] using h.1
     simp only [liveL,ih,ho j this]
   | _ => simp only [liveL,ih]
theorem live_extra {o o' : List (Nat × AO)} {d : Nat} (ho : ∀ j,j ≠ d->lk j o'=lk j o) {v : AV} (h : v.has d=false) : v.live o'=v.live o:=by
 cases v with
 | sl j =>
   have : j ≠ d:=by simpa [AV.has] using h
   simp only [AV.live,ho j this]
 | st cs =>
   simp only [AV.has] at h
   simp only [AV.live,liveL_extra ho h]
 | _ => rfl
theorem liveP_extra {o o' : List (Nat × AO)} {d : Nat} (ho : ∀ j,j ≠ d->lk j o'=lk j o) : ∀ {ys : List (Nat × AV)},(∀ p ∈ ys,p.2.has d=false)->liveP o' ys=liveP o ys
 | [],_ => rfl
 | (i, v) :: r, h => by
   simp only [liveP,live_extra ho (h (i,v) (by simp)),liveP_extra ho (ys:=r) fun p hp => h p (by simp [hp])]
theorem avParts_mem {st : St} : ∀ {ps : List (Nat × Operand)} {ys},avParts st ps=some ys->∀ p ∈ ys,∃ x ∈ ps,ev st x.2=some p.2
 | [],ys,hq => by simp [avParts] at hq; subst hq; intro p hp; cases hp
 | (i, x) :: r, ys, hq => by
   simp only [avParts] at hq
   split at hq
   . rename_i av zs hx hz
     cases hq
     intro p hp
     rcases List.mem_cons.1 hp with rfl | hp
     . exact ⟨(i,x),by simp,hx⟩
     . obtain ⟨y,h1,h2⟩:=avParts_mem hz p hp
       exact ⟨y,by simp [h1],h2⟩
   . cases hq
theorem buildS_extra {st st' : St} {d : Nat} {t : TypeId} {ps : List (Nat × Operand)} (ho : ∀ j,j ≠ d->lk j st'.o=lk j st.o) (h : ∀ p ∈ ps,ev st' p.2=ev st p.2) (hd : ∀ p ∈ ps,∀ v,ev st p.2=some v->v.has d=false) : buildS P st' t ps=buildS P st t ps:=by
 unfold buildS
 rw [avParts_alike h]
 cases hy : avParts st ps with
 | none => rfl
 | some ys =>
   have e : liveP st'.o ys=liveP st.o ys:=liveP_extra ho fun p hp => by
    obtain ⟨x,h1,h2⟩:=avParts_mem hy p hp
    exact hd x h1 _ h2
   cases hz : zeroD P t with
   | none => rfl
   | some z =>
     cases z<;>simp only [e]
theorem qv_extra {st st' : St} {op : Op} {d : Nat} (hq : isQ ⟨none, op, 0, "", #[], none⟩ = true) (ho : ∀ j, j ≠ d -> lk j st'.o = lk j st.o) (h : ∀ x ∈ op.operands, ev st' x = ev st x)
 (hd : ∀ x ∈ op.operands,∀ v,ev st x=some v->v.has d=false) : qv P st' op=qv P st op∧hv P st' op=hv P st op:=by
 cases op<;>simp only [isQ,Bool.false_eq_true] at hq<;>simp only [Op.operands] at h hd
 case move x => exact ⟨by simp only [qv,h x (by simp)],rfl⟩
 case assign x => exact ⟨by simp only [qv,h x (by simp)],rfl⟩
 case pick c x y => exact ⟨by simp only [qv,h c (by simp),h x (by simp),h y (by simp)],rfl⟩
 case load t x =>
  refine ⟨?_,rfl⟩
  simp only [qv,h x (by simp)]
  cases hx : ev st x with
  | none => rfl
  | some v => simp only [Option.bind_some,loadV_extra ho (hd x (by simp) v hx)]
 case fieldAddr t x f => exact ⟨by simp only [qv,h x (by simp)],rfl⟩
 case indexAddr t x i =>
  refine ⟨?_,rfl⟩
  simp only [qv,h x (by simp),h i (by simp)]
  cases hx : ev st x with
  | none => rfl
  | some v =>
    cases hi : ev st i with
    | none => rfl
    | some u =>
      cases u with
      | d y => cases y<;>first | rfl | simp only [indexV_extra ho (hd x (by simp) v hx)]
      | _ => rfl
 case binOp f t x y u => exact ⟨by simp only [qv,h x (by simp),h y (by simp)],rfl⟩
 case unOp f t x => exact ⟨by simp only [qv,h x (by simp)],rfl⟩
 case convert s t x => exact ⟨by simp only [qv,h x (by simp)],rfl⟩
 case field t x f => exact ⟨by simp only [qv,h x (by simp)],rfl⟩
 case extract x i => exact ⟨by simp only [qv,h x (by simp)],rfl⟩
 case build t ps =>
  refine ⟨rfl,?_⟩
  simp only [hv]
  rw [partsD_alike fun p hp => h p.2 (by simp; exact ⟨p.1,by simpa using hp⟩),buildS_extra ho (fun p hp => h p.2 (by simp; exact ⟨p.1,by simpa using hp⟩)) (fun p hp => hd p.2 (by simp; exact ⟨p.1,by simpa using hp⟩))]
theorem hop_extra {st st' : St} {o : Oper} {d : Nat} {K : AV->Prop} (hq : isQ o=true) (ho : ∀ j,j ≠ d->lk j st'.o=lk j st.o) (h : ∀ x ∈ o.op.operands,ev st' x=ev st x)
 (hd : ∀ x ∈ o.op.operands,∀ v,ev st x=some v->v.has d=false) (hh : hopA P st o K) : hopA P st' o K:=by
 obtain ⟨dst,op,ty,pos,after,guard⟩:=o
 obtain ⟨e1,e2⟩:=qv_extra (P:=P) (op:=op) hq ho h hd
 unfold hopA at hh ⊢
 simp only at hh ⊢
 rw [e1,e2]
 cases op<;>simp only [isQ,Bool.false_eq_true] at hq<;>exact hh
end

def isC (o : Oper) : Bool :=
 match o.op with
 | .call c => match c.callee with
   | .value _ => true
   | _ => false
 | _ => false
theorem viewC_extra {o o' : List (Nat × AO)} {d : Nat} (ho : ∀ j,j ≠ d->lk j o'=lk j o) : ∀ {cs : List AV},AV.hasL d cs=false->viewC o' cs=viewC o cs
 | [],_ => rfl
 | c :: r, h => by
   simp only [AV.hasL,Bool.or_eq_false_iff] at h
   have ih:=viewC_extra ho h.2
   cases c with
   | sl j =>
     have : j ≠ d:=by simpa [AV.has] using h.1
     simp only [viewC,ih,ho j this]
   | _ => simp only [viewC,ih]
theorem viewN_extra {P : Program} {o o' : List (Nat × AO)} {d : Nat} (ho : ∀ j,j ≠ d->lk j o'=lk j o) (hm : ∀ j e cells,lk j o=some (.box e cells)->AV.hasL d cells=false) :
 ∀ (n : Nat) {v : AV},v.has d=false->viewN P o' n v=viewN P o n v
 | 0,_,_ => rfl
 | n + 1, v, h => by
   have ih:=fun {v} => viewN_extra (P:=P) ho hm n (v:=v)
   cases v with
   | sl j =>
     have : j ≠ d:=by simpa [AV.has] using h
     simp only [viewN,ho j this]
   | st cs =>
     simp only [AV.has] at h
     simp only [viewN,viewC_extra ho h]
   | p j off =>
     have hj : j ≠ d:=by simpa [AV.has] using h
     cases off with
     | succ k => rfl
     | zero =>
       simp only [viewN,ho j hj]
       cases hl : lk j o with
       | none => rfl
       | some ob =>
         cases ob with
         | box e cells =>
           have hc:=hm j e cells hl
           simp only
           split
           . rename_i c
             simp only [AV.hasL,Bool.or_false] at hc
             rw [ih hc]
           . rw [viewC_extra ho hc]
         | _ => rfl
   | fn f cs =>
     simp only [AV.has] at h
     match cs,h with
     | [],_ => rfl
     | [c], h =>
       simp only [AV.hasL,Bool.or_false] at h
       simp only [viewN,ih h]
     | [c, c'], h =>
       simp only [AV.hasL,Bool.or_false,Bool.or_eq_false_iff] at h
       simp only [viewN,ih h.1,ih h.2]
     | [c, c', c''], h =>
       simp only [AV.hasL,Bool.or_false,Bool.or_eq_false_iff] at h
       simp only [viewN,ih h.1,ih h.2.1,ih h.2.2]
     | c :: c' :: c'' :: e :: r,_ => rfl
   | _ => rfl
theorem views_extra {P : Program} {o o' : List (Nat × AO)} {d : Nat} (ho : ∀ j,j ≠ d->lk j o'=lk j o) (hm : ∀ j e cells,lk j o=some (.box e cells)->AV.hasL d cells=false) :
 ∀ {avs : List AV},AV.hasL d avs=false->views P o' avs=views P o avs
 | [],_ => rfl
 | x :: r, h => by
   simp only [AV.hasL,Bool.or_eq_false_iff] at h
   simp only [views,view,viewN_extra ho hm 4 h.1,views_extra ho hm h.2]
theorem hasL_app {d : Nat} : ∀ {xs ys : List AV},AV.hasL d xs=false->AV.hasL d ys=false->AV.hasL d (xs++ys)=false
 | [],_,_,h => h
 | x :: r, ys, h, h' => by
   simp only [AV.hasL,Bool.or_eq_false_iff,List.cons_append] at h ⊢
   exact ⟨h.1,hasL_app h.2 h'⟩
theorem evs_has {st : St} {d : Nat} : ∀ {xs : List Operand} {avs},(∀ x ∈ xs,∀ v,ev st x=some v->v.has d=false)->evs st xs=some avs->AV.hasL d avs=false
 | [],avs,_,h => by simp only [evs,Option.some.injEq] at h; subst h; rfl
 | x :: r, avs, hd, h => by
   simp only [evs] at h
   split at h
   . rename_i y ys h1 h2
     cases h
     simp only [AV.hasL,Bool.or_eq_false_iff]
     refine ⟨?_,evs_has (fun z hz => hd z (by simp [hz])) h2⟩
     unfold evA at h1
     split at h1
     . cases h1; rfl
     . exact hd x (by simp) y h1
   . cases h
theorem fnOf_has {d : Nat} {v : AV} (h : v.has d=false) : (fnOf v).has d=false:=by
 unfold fnOf
 split
 . unfold argV
   split<;>rfl
 . exact h
theorem hop_call {P : Program} {st st' : St} {o : Oper} {d : Nat} {K : AV->Prop} (hq : isC o=true) (ho : ∀ j,j ≠ d->lk j st'.o=lk j st.o) (hn : ∀ j ob,lk j st.o=some ob->j ≠ d∧ob=ob.wipe d)
 (h : ∀ x ∈ o.op.operands,ev st' x=ev st x) (hd : ∀ x ∈ o.op.operands,∀ v,ev st x=some v->v.has d=false) (hh : hopA P st o K) : hopA P st' o K:=by
 obtain ⟨dst,op,ty,pos,after,guard⟩:=o
 cases op<;>simp only [isC,Bool.false_eq_true] at hq
 rename_i c
 obtain ⟨callee,args,ats⟩:=c
 cases callee<;>simp only [Bool.false_eq_true] at hq
 rename_i x
 simp only [Op.operands,Call.operands] at h hd
 have e1 : ev st' x=ev st x:=h x (by simp)
 have e2 : evs st' args.toList=evs st args.toList:=evs_alike fun y hy => h y (by simp; exact .inr (by simpa using hy))
 have hm : ∀ j e cells,lk j st.o=some (.box e cells)->AV.hasL d cells=false:=fun j e cells hj => by
  have:=(hn j _ hj).2
  simp only [AO.wipe,AO.box.injEq,true_and] at this
  have h2 : ∀ xs : List AV,xs=xs.map (fun c => if c.has d then AV.undef else c)->AV.hasL d xs=false:=by
   intro xs
   induction xs with
   | nil => intro _; rfl
   | cons y r ih =>
     intro e
     simp only [List.map_cons,List.cons.injEq] at e
     simp only [AV.hasL,Bool.or_eq_false_iff]
     refine ⟨?_,ih e.2⟩
     cases hy : y.has d with
     | false => rfl
     | true =>
       rw [hy,if_pos rfl] at e
       rw [e.1] at hy; cases hy
  exact h2 cells this
 unfold hopA at hh ⊢
 simp only [qv,hv] at hh ⊢
 rw [e1,e2]
 split at hh
 . rename_i f caps avs hx ha
   obtain ⟨sh,res,hc,hdst,hK⟩:=hh
   have hcaps : AV.hasL d caps=false:=by
    cases hxv : ev st x with
    | none => rw [hxv] at hx; cases hx
    | some v =>
      rw [hxv] at hx
      simp only [Option.map_some,Option.some.injEq] at hx
      have:=fnOf_has (hd x (by simp) v hxv)
      rw [hx] at this
      exact this
   have hav : AV.hasL d (avs++caps)=false:=hasL_app (evs_has (fun y hy => hd y (by simp; exact .inr (by simpa using hy))) ha) hcaps
   refine ⟨sh,res,?_,hdst,hK⟩
   rcases hc with hc | ⟨J,avs',ob,h1,h2,h3,h4⟩
   . left
     rw [views_extra ho hm hav]
     exact hc
   . right
     refine ⟨J,avs',ob,h1,?_,?_,h4⟩
     . have hp : ∀ (κ : Nat->Nat) (o1 o2 : List (Nat × AO)) (cs vs : List AV),passM P o1 κ true cs vs->passM P o2 κ true cs vs:=by
        intro κ o1 o2 cs
        induction cs with
        | nil => intro vs h; cases vs<;>exact h
        | cons c cs ih =>
          intro vs h
          cases vs with
          | nil => exact h
          | cons v vs =>
            simp only [passM,Bool.true_eq_false,false_and,or_false] at h ⊢
            exact ⟨h.1,ih vs h.2⟩
       exact hp _ _ _ _ _ h2
     . have h3':=(lkn_spec h3).1
       unfold lkn at h3 ⊢
       rw [ho J (hn J _ h3').1]; exact h3
 . exact hh.elim
theorem const_noD {d : Nat} {v : Value} {av : AV} (h : cv v=some av) : av.has d=false:=by
 unfold cv at h
 split at h<;>first | (cases h; rfl) | cases h | skip
 all_goals (obtain ⟨y,_,rfl⟩:=Option.map_eq_some_iff.1 h; rfl)
def noD (d : Nat) (st : St) : Prop:=wipeS d st.s=st.s∧wipeO d st.o=st.o
theorem noD_s {d : Nat} {st : St} (h : noD d st) {i v} (hi : lk i st.s=some v) : v.has d=false:=by
 have h1:=lk_wipeS_eq (i:=i) (j:=d) st.s
 rw [h.1,hi] at h1
 simp only [Option.map_some,Option.some.injEq] at h1
 cases hv : v.has d with
 | false => rfl
 | true => rw [hv,if_pos rfl] at h1; subst h1; exact hv.symm ▸ rfl
theorem noD_o {d : Nat} {st : St} (h : noD d st) {j ob} (hj : lk j st.o=some ob) : j ≠ d:=by
 have:=h.2
 rw [← this] at hj
 exact (lk_wipeO hj).1

section
variable {P : Program} {Z : Nat->Prop} {N B : Nat} {M : Nat->Prop} {w0 : World}
theorem Sim.congr2 {st st' : St} {a : Act} {w : World} (h : Sim Z N B M w0 st a w) (hs : ∀ i,lk i st'.s=lk i st.s) (ho : ∀ i,lk i st'.o=lk i st.o) : Sim Z N B M w0 st' a w:=by
 obtain ⟨β,φ,h⟩:=h
 have hf : free Z φ st'.o=free Z φ st.o:=funext fun g => by unfold free; simp only [ho]
 refine ⟨β,φ,by rw [hf]; exact h.nd,h.size,fun i av hi => ?_,fun i o hi => ?_,fun i o g hi hg => ?_,fun i i' o o' g hi hi' hg hg' => ?_,h.fr,h.z,h.gw⟩
 . rw [hf]; exact h.slots i av (by rw [← hs]; exact hi)
 . rw [hf]; exact h.objs i o (by rw [← ho]; exact hi)
 . exact h.own i o g (by rw [← ho]; exact hi) hg
 . exact h.disj i i' o o' g (by rw [← ho]; exact hi) (by rw [← ho]; exact hi') hg hg'

def onS3 (x : Option D) (f : D->Option (Prop × AO)) (g : Prop->AO->Prop) : Prop :=
 match x with
 | some z => match f z with
   | some (c,ob) => g c ob
   | none => False
 | none => False
theorem onS3_spec {x f g} (h : onS3 x f g) : ∃ z c ob,x=some z∧f z=some (c,ob)∧g c ob:=by
 unfold onS3 at h
 split at h
 . split at h
   . rename_i z _ c ob hf; exact ⟨z,c,ob,rfl,hf,h⟩
   . exact h.elim
 . exact h.elim
theorem onS3_intro {x : Option D} {f g z c ob} (hx : x=some z) (hf : f z=some (c,ob)) (hg : g c ob) : onS3 x f g:=by
 unfold onS3; rw [hx]; simp only; rw [hf]; exact hg
def regionOK3 (l : List Oper) : Bool :=
 let n:=l.length - 2
 regionOK l (n + 1) && Nat.ble 2 l.length &&
 (match l[n]? with
  | some ⟨some d,.alloc _,_,_,_,none⟩ => (l.take n).all fun o => (isQ o || isC o) && (o.dst != some d) && o.dst.isSome && !(looks l o).contains d
  | _ => false)
structure Checked3 (l : List Oper) (n d : Nat) (t : TypeId) (oa : Oper) : Prop where
 hC : Checked' l (n + 1)
 len : l.length=n + 2
 ha : l[n]? = some oa
 op : oa.op=.alloc t
 dst : oa.dst=some d
 guard : oa.guard=none
 quiet : ∀ k o,k < n->l[k]? = some o->(isQ o || isC o)=true∧o.dst ≠ some d∧d ∉ looks l o
def endsAlloc (l : List Oper) : Bool :=
 match l[l.length - 2]? with
 | some ⟨some _,.alloc _,_,_,_,none⟩ => true
 | _ => false
def allocD (l : List Oper) : Nat :=
 match l[l.length - 2]? with
 | some ⟨some d,_,_,_,_,_⟩ => d
 | _ => 0
end
end Abs
