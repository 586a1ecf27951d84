/-
  Laws of walks, and walks.
-/
import Derived.Test.YtalggmbdpmdcbaaGreatPf1
import Derived.Test.YtalggmbdpmdcbaaGreatPf2
import Derived.MapKept
import Derived.Test.YtalggmbdpmdcbaaGreatPf5
set_option linter.unusedVariables false
set_option linter.unusedSimpArgs false
set_option maxRecDepth 100000
set_option maxHeartbeats 16000000
namespace Go.Proofs.YtalggmbdpmdcbaaGreat
section
open Go.RowKit
structure QCtx (l:List Oper) (Ss:Nat->Value->World->Prop) (R:World->World->Prop) (a0:Act) (w0:World) (i:Nat) (a:Act) (w:World):Prop where
 rel:R w0 w
 frame:∀ t,l.any (fun o=>o.dst == some t)=false->a.eval (.tmp t)=a0.eval (.tmp t)
 dep:∀ j d,decide (j<i)=true->(l[j]?).bind (·.dst)=some d->Ss j (a.eval (.tmp d)) w
def zB3 (P:Program) (ops:Array Oper) (R:World->World->Prop) (o:Oper) (a:Act) (w:World) (s:Value->World->Prop):Prop :=
 if Region.wanted o (yielded ops a.tmps) then o.wp P a w (fun a' w'=>∃ v,a'=a.put o.dst v/\R w w'/\s v w') (fun _ _ _=>False) else s undef w
def zFC (R:World->World->Prop) (s:Value->World->Prop):Prop:=∀ v w w',s v w->R w w'->s v w'
theorem zAy {R:World->World->Prop} (x:Value):zFC R (fun v _=>v=x):=fun _ _ _ h _=>h
def zEG (R:World->World->Prop):List (Value->World->Prop)->Prop
 | []=>True
 | s::r=>zFC R s/\zEG R r
theorem zDb {R:World->World->Prop}:∀ (L:List (Value->World->Prop)) (i:Nat),zEG R L->zFC R (zAe L i)
 | [],_,_=>fun _ _ _ h _=>h
 | _::_,0,h=>h.1
 | _::r,i+1,h=>zDb r i h.2
def OblQ (P:Program) (l hd:List Oper) (R:World->World->Prop) (L:List (Value->World->Prop)) (a0:Act) (w0:World):List Oper->Nat->Prop
 | [],_=>True
 | o::r,i=>(∀ a w,QCtx hd (zAe L) R a0 w0 i a w->zB3 P l.toArray R o a w (zAe L i))/\OblQ P l hd R L a0 w0 r (i+1)
theorem OblQ.get {P:Program} {l hd:List Oper} {R:World->World->Prop} {L:List (Value->World->Prop)} {a0:Act} {w0:World}:∀ (r:List Oper) (k:Nat),OblQ P l hd R L a0 w0 r k->∀ i o,r[i]?=some o ->
  ∀ a w,QCtx hd (zAe L) R a0 w0 (k+i) a w->zB3 P l.toArray R o a w (zAe L (k+i))
 | [],_,_,_,_,h=>by simp at h
 | o::r,k,h,0,o',h'=>by simp at h';subst h';exact h.1
 | o::r,k,h,i+1,o',h'=>by
  have:=OblQ.get r (k+1) h.2 i o' (by simpa using h')
  rwa [show k+1+i=k+(i+1) from by omega]at this
section
variable {P:Program} {ops:Array Oper} {o:Oper} {a:Act} {w:World} {R:World->World->Prop}
theorem zQL {v:Value} (hrefl:∀ w,R w w) (h:zBZ P ops o a w (fun v' w'=>v'=v/\w'=w)):zB3 P ops R o a w (fun v' _=>v'=v):=by
 unfold zBZ zIO at h;unfold zB3;split
 ·rename_i hw;rw[if_pos hw]at h;exact Oper.wp_mono (fun a' w' ⟨u,e,_,h1,h2⟩=>⟨u,e,h2 ▸ hrefl w,h1⟩) h
 ·rename_i hw;rw[if_neg hw]at h;exact h.1
theorem zAS {v:Value} (hrefl:∀ w,R w w) (hg:Region.wanted o (yielded ops a.tmps)=true) (hr:(execOp a.eval o).run P w=.ok (.value v) w):zB3 P ops R o a w (fun v' _=>v'=v) :=
 zQL hrefl (zDn hg hr (Below.refl _ w) ⟨rfl,rfl⟩)
theorem zBa {x:Operand} {v:Value} (hrefl:∀ w,R w w) (hg:Region.wanted o (yielded ops a.tmps)=true) (hop:o.op=Op.move x) (hx:a.eval x=v):zB3 P ops R o a w (fun v' _=>v'=v):=by
 refine zAS hrefl hg ?_
 simp only[execOp,hop,hx];rfl
theorem zM1 {x:Operand} {v:Value} (hrefl:∀ w,R w w) (hg:Region.wanted o (yielded ops a.tmps)=true) (hop:o.op=Op.assign x) (hx:a.eval x=v):zB3 P ops R o a w (fun v' _=>v'=v):=by
 refine zAS hrefl hg ?_
 simp only[execOp,hop,hx];rfl
theorem zNg {f:FuncId} {xs:Array Operand} {ts:Array TypeId} {vs:Array Value} {v:Value} (hg:Region.wanted o (yielded ops a.tmps)=true)
  (hop:o.op=Op.call {callee:=Callee.value (Operand.func f),args:=xs,argTypes:=ts}) (hf:∀ args w,(callFunc f args).run P w=.ok (.enter f args) w) (hx:xs.map a.eval=vs)
  (hc:Calls P f vs w fun e w'=>e=.returned v/\R w w'):zB3 P ops R o a w (fun v' _=>v'=v):=by
 unfold zB3;rw[if_pos hg];unfold Oper.wp;have hr:(execOp a.eval o).run P w=.ok (.enter f vs) w:=by
  simp only[execOp,hop];simp[resolve,hx];rw[show a.eval (Operand.func f)=.func (.func f) #[] #[] from rfl]
  simp[Deferred.ofValue,invoke,hf]
 rw[hr];exact hc.mono fun e w' ⟨he,hb⟩=>by subst he;exact⟨v,rfl,hb,rfl⟩
theorem zNQ {s:Value->World->Prop} (hR:∀ w',Below w.heap.size w w'->R w w') (h:zBZ P ops o a w s):zB3 P ops R o a w s:=by
 unfold zBZ zIO at h;unfold zB3;split
 ·rename_i hw;rw[if_pos hw]at h;exact Oper.wp_mono (fun a' w' ⟨u,e,hb,h2⟩=>⟨u,e,hR w' hb,h2⟩) h
 ·rename_i hw
  rwa [if_neg hw]at h
end
theorem QCtx.d {l:List Oper} {Ss:Nat->Value->World->Prop} {R:World->World->Prop} {a0:Act} {w0:World} {i:Nat} {a:Act} {w:World} (h:QCtx l Ss R a0 w0 i a w) (j d:Nat) (h1:decide (j<i)=true:=by exact rfl) (h2:(l[j]?).bind (·.dst)=some d:=by exact rfl):Ss j (a.eval (.tmp d)) w:=h.dep j d h1 h2
theorem QCtx.f {l:List Oper} {Ss:Nat->Value->World->Prop} {R:World->World->Prop} {a0:Act} {w0:World} {i:Nat} {a:Act} {w:World} (h:QCtx l Ss R a0 w0 i a w) (t:Nat) (h1:l.any (fun o=>o.dst == some t)=false:=by exact rfl):a.eval (.tmp t)=a0.eval (.tmp t):=h.frame t h1
structure RCtxR (l:List Oper) (Ss:Nat->Value->World->Prop) (R:World->World->Prop) (a0:Act) (w0:World) (o:Oper) (a:Act) (w:World):Prop where
 rel:R w0 w
 frame:∀ t,l.any (fun o=>o.dst == some t)=false->a.eval (.tmp t)=a0.eval (.tmp t)
 dep:∀ j d,o.after.toList.any (fun e=>Region.binds .any e&&e.on == j)=true->(l[j]?).bind (·.dst)=some d->Ss j (a.eval (.tmp d)) w
def OblR (P:Program) (l hd:List Oper) (R:World->World->Prop) (L:List (Value->World->Prop)) (a0:Act) (w0:World):List Oper->Nat->Prop
 | [],_=>True
 | o::r,i=>(∀ a w,RCtxR hd (zAe L) R a0 w0 o a w->zB3 P l.toArray R o a w (zAe L i))/\OblR P l hd R L a0 w0 r (i+1)
theorem OblR.get {P:Program} {l hd:List Oper} {R:World->World->Prop} {L:List (Value->World->Prop)} {a0:Act} {w0:World}:∀ (r:List Oper) (k:Nat),OblR P l hd R L a0 w0 r k->∀ i o,r[i]?=some o ->
  ∀ a w,RCtxR hd (zAe L) R a0 w0 o a w->zB3 P l.toArray R o a w (zAe L (k+i))
 | [],_,_,_,_,h=>by simp at h
 | o::r,k,h,0,o',h'=>by simp at h';subst h';exact h.1
 | o::r,k,h,i+1,o',h'=>by
  have:=OblR.get r (k+1) h.2 i o' (by simpa using h')
  rwa [show k+1+i=k+(i+1) from by omega]at this
theorem RCtxR.d {l:List Oper} {Ss:Nat->Value->World->Prop} {R:World->World->Prop} {a0:Act} {w0:World} {o:Oper} {a:Act} {w:World} (h:RCtxR l Ss R a0 w0 o a w) (j d:Nat) (h1:o.after.toList.any (fun e=>Region.binds .any e&&e.on == j)=true:=by exact rfl) (h2:(l[j]?).bind (·.dst)=some d:=by exact rfl):Ss j (a.eval (.tmp d)) w:=h.dep j d h1 h2
theorem RCtxR.f {l:List Oper} {Ss:Nat->Value->World->Prop} {R:World->World->Prop} {a0:Act} {w0:World} {o:Oper} {a:Act} {w:World} (h:RCtxR l Ss R a0 w0 o a w) (t:Nat) (h1:l.any (fun o=>o.dst == some t)=false:=by exact rfl):a.eval (.tmp t)=a0.eval (.tmp t):=h.frame t h1
def zHU:List Oper->Bool
 | []=>true
 | o::r=>(o.dst.isNone || r.all (fun o'=>o'.dst != o.dst))&&zHU r
def zOq (ops:Array Oper) (n:Nat):Bool :=
 decide (n<=ops.size)&&zHU (ops.toList.take n) &&
 ((ops.toList.take n).zipIdx.all fun (o,i)=>o.after.all fun e=>!Region.binds .any e || decide (e.on<i)) &&
 (decide (n=ops.size) || (Region.sinkB .any ops n&&Region.chainB .any ops n)) &&
 Region.seqB .any ops (ops.size - n) n (zAs n (ops.size - n))
def ownT (o:Oper):Option Tmp:=match o.op with|.insert _ (.tmp d) _ _=>some d|.store _ (.tmp d) _=>some d|_=>none
def zFx (o:Oper) (a:Act):Value:=match ownT o with|some d=>a.eval (.tmp d)|none=>undef
def zL4 (l:List Oper) (listed:Nat->Bool) (vals:Nat->Value):Prop :=
 ∀ i o d j oj,l[i]?=some o->o.dst=none->ownT o=some d->l[j]?=some oj->oj.dst=some d->o.after.toList.any (fun e=>Region.binds .any e&&e.on == j)=true->listed i=true->vals i=vals j
theorem zIX:∀ (l:List Oper) (k i:Nat) (listed:Array Bool) (vals:Nat->Value) (a:Act) (o:Oper) (d:Tmp) (v:Value),zHU l=true->l[i]?=some o->o.dst=some d ->
  listed.getD (k+i) true=false ->
  fill l k (listed.setIfInBounds (k+i) true) (fun j=>if j=k+i then v else vals j) a=(fill l k listed vals a).put (some d) v
 | [],_,_,_,_,_,_,_,_,_,h,_,_=>by simp at h
 | o::r,k,0,listed,vals,a,o',d,v,hd,h,hod,hl=>by
  simp at h;subst h;simp only[zHU,Bool.and_eq_true,Bool.or_eq_true]at hd;obtain⟨hall,hr⟩:=hd;have hne:∀ o' ∈ r,o'.dst≠some d:=by
   intro o' ho' e;rcases hall with h0|hall
   ·rw[hod]at h0;simp at h0
   ·have:=List.all_eq_true.1 hall o' ho';rw[e,hod]at this;simp at this
  have h1:(listed.setIfInBounds k true).getD k false=true:=by
   have hk:k<listed.size:=by
    rcases Nat.lt_or_ge k listed.size with h'|h'
    ·exact h'
    ·simp[Array.getElem?_eq_none h']at hl
   simp[hk]
  have h2:listed.getD k false=false:=getD_both (by simpa using hl)
  simp only[Nat.add_zero,fill,h1,h2,if_true,Bool.false_eq_true,if_false,hod];rw[zHZ r (k+1) _ _ a d v hne]
  congr 1
  refine zDK r (k+1) _ _ _ _ a (fun i hi=>⟨?_,by rw[if_neg (by omega)]⟩)
  exact getD_set_ne false (by omega)
 | o::r,k,i+1,listed,vals,a,o',d,v,hd,h,hod,hl=>by
  simp only[zHU,Bool.and_eq_true]at hd;simp only[List.getElem?_cons_succ]at h;have ih:=zIX r (k+1) i listed vals (if listed.getD k false then a.put o.dst (vals k) else a) o' d v hd.2 h hod (by rwa [show k+1+i=k+(i+1) from by omega])
  simp only[fill];rw[show k+(i+1)=k+1+i from by omega,getD_set_ne false (by omega),if_neg (by omega:¬ k=k+1+i)]
  exact ih
theorem zHG:∀ (l:List Oper) (k i:Nat) (listed:Array Bool) (vals:Nat->Value) (a:Act) (o:Oper) (v:Value),l[i]?=some o->o.dst=none ->
  listed.getD (k+i) true=false ->
  fill l k (listed.setIfInBounds (k+i) true) (fun j=>if j=k+i then v else vals j) a=fill l k listed vals a
 | [],_,_,_,_,_,_,_,h,_,_=>by simp at h
 | o::r,k,0,listed,vals,a,o',v,h,hod,hl=>by
  simp at h;subst h;have h2:listed.getD k false=false:=getD_both (by simpa using hl)
  simp only[Nat.add_zero,fill,h2,hod,Bool.false_eq_true,if_false];have hp:∀ (b:Bool) (u:Value),(if b=true then a.put none u else a)=a:=by intro b u;cases b<;>rfl
  rw[hp];refine zDK r (k+1) _ _ _ _ a (fun i hi=>⟨?_,by rw[if_neg (by omega)]⟩)
  exact getD_set_ne false (by omega)
 | o::r,k,i+1,listed,vals,a,o',v,h,hod,hl=>by
  simp only[List.getElem?_cons_succ]at h;have ih:=zHG r (k+1) i listed vals (if listed.getD k false then a.put o.dst (vals k) else a) o' v h hod (by rwa [show k+1+i=k+(i+1) from by omega])
  simp only[fill];rw[show k+(i+1)=k+1+i from by omega,getD_set_ne false (by omega),if_neg (by omega:¬ k=k+1+i)]
  exact ih
theorem zHN:∀ (l:List Oper) (k:Nat) (listed:Array Bool) (vals:Nat->Value) (a:Act) (j:Nat) (o:Oper) (d:Tmp),zHU l=true->l[j]?=some o->o.dst=some d->d<a.tmps.size ->
  listed.getD (k+j) false=true->(fill l k listed vals a).eval (.tmp d)=vals (k+j)
 | [],_,_,_,_,_,_,_,_,h,_,_,_=>by simp at h
 | o::r,k,listed,vals,a,0,o',d,hd,h,hod,hsz,hl=>by
  simp at h;subst h;simp only[zHU,Bool.and_eq_true,Bool.or_eq_true]at hd;obtain⟨hall,hr⟩:=hd;simp only[Nat.add_zero]at hl ⊢;simp only[fill,hl,if_true,hod]
  rw[zBo r (k+1) listed vals _ d (by
   rw[Bool.eq_false_iff];intro hc;obtain⟨o',ho',e⟩:=List.any_eq_true.1 hc;rcases hall with h0|hall
   ·rw[hod]at h0;simp at h0
   ·have:=List.all_eq_true.1 hall o' ho';rw[hod]at this
    simp at e this;exact this e),zEt a d _ hsz]
 | o::r,k,listed,vals,a,j+1,o',d,hd,h,hod,hsz,hl=>by
  simp only[zHU,Bool.and_eq_true]at hd;simp only[fill];rw[show k+(j+1)=k+1+j from by omega]at hl ⊢
  exact zHN r (k+1) listed vals _ j o' d hd.2 (by simpa using h) hod (by split<;>simp[zHs,hsz]) hl
theorem zFc {P:Program} {id:Nat} {Q:Exit->Act->World->Prop} {a0:Act} {w0:World} {l:List Oper} (R:World->World->Prop) (htrans:∀ u v w,R u v->R v w->R u w) (hrefl:∀ w,R w w) (hdrew:∀ w:World,R w {w with drawn:=w.drawn+1}) (n:Nat) (Ss:Nat->Value->World->Prop)
  (hm:P.follows .mixedOrders=true) (hB:zOq l.toArray n=true) (hsz:(l.take n).all (fun o=>match o.dst with|some d=>decide (d<a0.tmps.size)|none=>true)=true)
  (hst:∀ i,i<n->∀ v w w',Ss i v w->R w w'->Ss i v w')
  (hstep:∀ i o,i<n->l[i]?=some o->∀ a w,RCtxR (l.take n) Ss R a0 w0 o a w->zB3 P l.toArray R o a w (fun v w'=>Ss i v w'/\(o.dst=none->v=zFx o a)))
  (hend:∀ vals w,R w0 w->(∀ i,i<n->Ss i (vals i) w)->zL4 (l.take n) (fun _=>true) vals->wpList P l.toArray Q (l.drop n) (zBT (l.take n) 0 vals a0) w) :
  (Code.region id l.toArray true).wp P Q a0 w0:=by
 simp only[zOq,Bool.and_eq_true,decide_eq_true_eq]at hB;obtain⟨⟨⟨⟨hn,hd⟩,haf⟩,hsink⟩,hseq⟩:=hB;have hn':n<=l.length:=by simpa using hn
 have hd':zHU (l.take n)=true:=hd;have htl:(l.take n).length=n:=by simp;omega
 have key:∀ (rem:List Nat) (f:Nat),rem.length=f->rem.Nodup->∀ (listed:Array Bool) (a:Act) (w:World),HeadInv .any l.toArray n listed ->
   (∀ i,i ∈ rem↔(i<n/\listed.getD i true=false))->(∃ vals,a=fill (l.take n) 0 listed vals a0/\(∀ i,i<n->listed.getD i false=true->Ss i (vals i) w)/\zL4 (l.take n) (fun i=>listed.getD i false) vals)->R w0 w ->
   wpAny P .any l.toArray Q (f+(l.toArray.size - n)) listed a w:=by
  intro rem f
  induction f generalizing rem with
  | zero =>
   intro hl _ listed a w inv hrem ⟨vals,ha,hv,hlk⟩ hb;have hr:rem=[]:=List.length_eq_zero_iff.1 hl;subst hr;have hall:∀ i,i<n->listed.getD i false=true:=by
    intro i hi;have h1:¬ listed.getD i true=false:=fun h=>by have:=(hrem i).2 ⟨hi,h⟩;simp at this
    have h2:i<listed.size:=by rw[inv.size];omega
    rw[Array.getD_eq_getD_getElem?,Array.getElem?_eq_getElem h2]at h1 ⊢
    simpa using h1
   have hlist:=zCQ hn inv hall;have hw:=hend vals w hb (fun i hi=>hv i hi (hall i hi)) (fun i oi d j oj h1 h2 h3 h4 h5 h6 _=>hlk i oi d j oj h1 h2 h3 h4 h5 h6 (hall i (by have:=(List.getElem?_eq_some_iff.1 h1).1;omega)))
   rw[← zCz (l.take n) 0 listed vals a0 (fun i hi=>by rw[Nat.zero_add];exact hall i (by omega)),← ha]at hw
   rw[Nat.zero_add];have hdl:(l.drop n).length=l.toArray.size - n:=by simp
   rw[← hdl];refine wpAny_of_seq (l.drop n) n listed a w (fun j=>by simp) ?_ hw
   rw[hdl,hlist];exact hseq
  | succ f ih =>
   intro hl hnd listed a w inv hrem ⟨vals,ha,hv,hlk⟩ hb;have hex:∃ i,i ∈ rem/\∀ j,j ∈ rem->i<=j:=by
    have:∀ (r:List Nat),r≠[]->∃ i,i ∈ r/\∀ j,j ∈ r->i<=j:=by
     intro r
     induction r with
     | nil=>intro h;exact(h rfl).elim
     | cons x r ihr =>
      intro _
      by_cases hr:r=[]
      ·subst hr;exact⟨x,by simp,by simp⟩
      ·obtain⟨i,hi,hmin⟩:=ihr hr
       by_cases hx:x<=i
       ·exact⟨x,by simp,fun j hj=>by rcases List.mem_cons.1 hj with rfl|hj;exact Nat.le_refl _;exact Nat.le_trans hx (hmin j hj)⟩
       ·exact⟨i,by simp[hi],fun j hj=>by rcases List.mem_cons.1 hj with rfl|hj;omega;exact hmin j hj⟩
    exact this rem (by intro h;subst h;simp at hl)
   have hready:Region.ready .any l.toArray listed≠[]:=by
    obtain⟨i,hi,hmin⟩:=hex;obtain⟨hin,hil⟩:=(hrem i).1 hi;have hlt:i<l.length:=by omega
    have hmem:i ∈ Region.ready .any l.toArray listed:=by
     refine mem_ready.2 ⟨hil,l[i],by simp[hlt],fun e he hbd=>?_⟩
     have h1:=List.all_eq_true.1 haf (l[i],i) (by
      rw[List.mem_zipIdx_iff_getElem?];simp[hin,hlt])
     have h2:=Array.all_eq_true'.1 h1 e he;simp[hbd]at h2;have hj:¬ e.on ∈ rem:=fun h=>by have:=hmin _ h;omega
     have h3:¬ listed.getD e.on true=false:=fun h=>hj ((hrem _).2 ⟨by omega,h⟩)
     have h4:e.on<listed.size:=by rw[inv.size];simp;omega
     rw[Array.getD_eq_getD_getElem?,Array.getElem?_eq_getElem h4]at h3 ⊢
     simpa using h3
    intro h;rw[h]at hmem;simp at hmem
   rw[show f+1+(l.toArray.size - n)=(f+(l.toArray.size - n))+1 from by omega]
   refine⟨fun h=>(hready h).elim,fun i hi=>?_⟩
   obtain⟨hil,o,ho,haft⟩:=mem_ready.1 hi;have hin:i<n:=by
    rcases Nat.lt_or_ge i n with h|h
    ·exact h
    ·exfalso
     obtain⟨i',hi',_⟩:=hex;obtain⟨hin',hil'⟩:=(hrem i').1 hi';have hisz:i<l.toArray.size:=(Array.getElem?_eq_some_iff.1 ho).1;simp only[Bool.or_eq_true,decide_eq_true_eq,Bool.and_eq_true]at hsink;rcases hsink with h0|⟨hs,hc⟩
     ·omega
     ·exact tail_waits hs hc (by omega) inv (n - i') i' rfl hin' hil' i h hi
   have ho':l[i]?=some o:=by simpa using ho
   have hot:(l.take n)[i]?=some o:=by rw[List.getElem?_take_of_lt hin];exact ho'
   have hbd:∀ (j:Nat) (oj:Oper) (dj:Tmp),(l.take n)[j]?=some oj->oj.dst=some dj->dj<a0.tmps.size:=by
    intro j oj dj hj hdj;have:=List.all_eq_true.1 hsz oj (List.mem_of_getElem? hj)
    simpa [hdj] using this
   have hctx:RCtxR (l.take n) Ss R a0 w0 o a w:=by
    refine⟨hb,fun t ht=>by rw[ha];exact zBo _ _ _ _ _ t ht,fun j dj hj hdj=>?_⟩
    obtain⟨e,he,hbe⟩:=List.any_eq_true.1 hj;simp only[Bool.and_eq_true,beq_iff_eq]at hbe;have hlj:=haft e (Array.mem_toList_iff.1 he) hbe.1;rw[hbe.2]at hlj;obtain⟨oj,hoj,hdj'⟩:=Option.bind_eq_some_iff.1 hdj;have hjn:j<n:=by have:=(List.getElem?_eq_some_iff.1 hoj).1;omega
    rw[ha,zHN _ 0 listed vals a0 j oj dj hd' hoj hdj' (hbd j oj dj hoj hdj') (by rw[Nat.zero_add];exact hlj),Nat.zero_add]
    exact hv j hjn hlj
   have hstep':=hstep i o hin ho' a w hctx;have hclosed:∀ k ok,l[k]?=some ok->listed.getD k false=true->∀ j,ok.after.toList.any (fun e=>Region.binds .any e&&e.on == j)=true->listed.getD j false=true:=by
    intro k ok hk hlk' j hj;obtain⟨e,he,hbe⟩:=List.any_eq_true.1 hj;simp only[Bool.and_eq_true,beq_iff_eq]at hbe;have:=inv.closed k ok (by simpa using hk) hlk' e (Array.mem_toList_iff.1 he) hbe.1
    rwa [hbe.2]at this
   have hownd:∀ j,o.after.toList.any (fun e=>Region.binds .any e&&e.on == j)=true->listed.getD j false=true:=by
    intro j hj;obtain⟨e,he,hbe⟩:=List.any_eq_true.1 hj;simp only[Bool.and_eq_true,beq_iff_eq]at hbe;have:=haft e (Array.mem_toList_iff.1 he) hbe.1
    rwa [hbe.2]at this
   have hnl:∀ j,listed.getD j false=true->j≠i:=by
    intro j hj e;subst e;rw[getD_both hil]at hj;cases hj
   have hnext:∀ v w',R w w'->Ss i v w'->(o.dst=none->v=zFx o a)->wpAny P .any l.toArray Q (f+(l.toArray.size - n)) (listed.setIfInBounds i true) (a.put o.dst v) w':=by
    intro v w' hbw hsv hgh;have hmemi:i ∈ rem:=(hrem i).2 ⟨hin,hil⟩;refine ih (rem.erase i) (by rw[List.length_erase_of_mem hmemi,hl];rfl) (hnd.erase i) _ _ w' (inv.set hi hin) (fun j=>?_) ⟨fun j=>if j=i then v else vals j,?_,fun j hj hlj=>?_,?_⟩ (htrans _ _ _ hb hbw)
    ·rw[hnd.mem_erase_iff,hrem j]
     by_cases hji:j=i
     ·subst hji;have hjs:j<listed.size:=by rw[inv.size];simp;omega
      simp[hjs]
     ·rw[getD_set_ne true (fun e=>hji e.symm)]
      simp[hji]
    ·cases hod:o.dst with
     | some d =>
      have:=zIX (l.take n) 0 i listed vals a0 o d v hd' hot hod (by rw[Nat.zero_add];exact hil)
      rw[Nat.zero_add]at this;rw[this,← ha]
     | none =>
      have:=zHG (l.take n) 0 i listed vals a0 o v hot hod (by rw[Nat.zero_add];exact hil)
      rw[Nat.zero_add]at this;rw[this,← ha];rfl
    ·by_cases hji:j=i
     ·subst hji;simpa using hsv
     ·show Ss j (if j=i then v else vals j) w'
      rw[if_neg hji];rw[getD_set_ne false (fun e=>hji e.symm)]at hlj
      exact hst j hj _ _ _ (hv j hj hlj) hbw
    ·intro k ok d j oj h1 h2 h3 h4 h5 h6 h7
     show (if k=i then v else vals k)=(if j=i then v else vals j)
     by_cases hki:k=i
     ·subst hki;rw[hot]at h1;cases h1
      have hjl:=hownd j h6;rw[if_pos rfl,if_neg (hnl j hjl),hgh h2];unfold zFx;rw[h3]
      show a.eval (.tmp d)=vals j
      rw[ha,zHN _ 0 listed vals a0 j oj d hd' h4 h5 (hbd j oj d h4 h5) (by rw[Nat.zero_add];exact hjl),Nat.zero_add]
     ·replace h7:(listed.setIfInBounds i true).getD k false=true:=h7;rw[getD_set_ne false (fun e=>hki e.symm)]at h7
      have hkn:k<n:=by have:=(List.getElem?_eq_some_iff.1 h1).1;omega
      have hjl:=hclosed k ok (by rw[← h1,List.getElem?_take_of_lt hkn]) h7 j h6
      rw[if_neg hki,if_neg (hnl j hjl)];exact hlk k ok d j oj h1 h2 h3 h4 h5 h6 h7
   unfold wpOp;simp only[ho];unfold zB3 at hstep';split
   ·rename_i hw;rw[if_pos hw]at hstep';refine .inl (zDW (Oper.wp_mono (fun a' w' ⟨v,e,hbw,hsv,hgh⟩=>?_) hstep'))
    subst e;exact hnext v w' hbw hsv hgh
   ·rename_i hw;rw[if_neg hw]at hstep';exact hnext undef w (hrefl w) hstep'.1 hstep'.2
 refine wp_region_any hm ?_
 have h0:=key (List.range n) n (by simp) List.nodup_range (Array.replicate l.toArray.size false) a0 {w0 with drawn:=w0.drawn+1}
  ⟨by simp,fun j oj _ hl=>(by rw[getD_replicate_false]at hl;cases hl),fun t _ ht=>getD_in (by simpa using ht) (getD_replicate_false _ _)⟩
  (fun i=>by
   rw[List.mem_range];constructor
   ·intro h;exact⟨h,getD_in (by simp;omega) (getD_replicate_false _ _)⟩
   ·intro h;exact h.1)
  ⟨fun _=>undef,(zCa _ _ _ _ _ (fun i=>getD_replicate_false _ _)).symm,fun i _ h=>(by rw[getD_replicate_false]at h;cases h),fun _ _ _ _ _ _ _ _ _ _ _ _=>rfl⟩
  (hdrew w0)
 rw[show n+(l.toArray.size - n)=l.toArray.size from by omega]at h0
 exact h0
def OblM (P:Program) (l hd:List Oper) (R:World->World->Prop) (L:List (Value->World->Prop)) (a0:Act) (w0:World):List Oper->Nat->Prop
 | [],_=>True
 | o::r,i=>(∀ a w,RCtxR hd (zAe L) R a0 w0 o a w->zB3 P l.toArray R o a w (fun v w'=>zAe L i v w'/\(o.dst=none->v=zFx o a)))/\OblM P l hd R L a0 w0 r (i+1)
theorem OblM.get {P:Program} {l hd:List Oper} {R:World->World->Prop} {L:List (Value->World->Prop)} {a0:Act} {w0:World}:∀ (r:List Oper) (k:Nat),OblM P l hd R L a0 w0 r k->∀ i o,r[i]?=some o ->
  ∀ a w,RCtxR hd (zAe L) R a0 w0 o a w->zB3 P l.toArray R o a w (fun v w'=>zAe L (k+i) v w'/\(o.dst=none->v=zFx o a))
 | [],_,_,_,_,h=>by simp at h
 | o::r,k,h,0,o',h'=>by simp at h';subst h';exact h.1
 | o::r,k,h,i+1,o',h'=>by
  have:=OblM.get r (k+1) h.2 i o' (by simpa using h')
  rwa [show k+1+i=k+(i+1) from by omega]at this
theorem zCp {P:Program} {id:Nat} {Q:Exit->Act->World->Prop} {a0:Act} {w0:World} {l:List Oper} (R:World->World->Prop) (hrefl:∀ w,R w w) (htrans:∀ u v w,R u v->R v w->R u w) (hdrew:∀ w:World,R w {w with drawn:=w.drawn+1}) (n:Nat) (L:List (Value->World->Prop)) (hst:zEG R L)
  (hm:P.follows .mixedOrders=true) (hB:zOq l.toArray n=true) (hsz:(l.take n).all (fun o=>match o.dst with|some d=>decide (d<a0.tmps.size)|none=>true)=true)
  (hstep:OblM P l (l.take n) R L a0 w0 (l.take n) 0)
  (hend:∀ vals w,R w0 w->(∀ i,i<n->zAe L i (vals i) w)->zL4 (l.take n) (fun _=>true) vals->wpList P l.toArray Q (l.drop n) (zBT (l.take n) 0 vals a0) w) :
  (Code.region id l.toArray true).wp P Q a0 w0 :=
 zFc R htrans hrefl hdrew n (zAe L) hm hB hsz (fun i _ v w w' h hb=>zDb L i hst v w w' h hb) (fun i o hi ho a w hc=>by
   have:=OblM.get (l.take n) 0 hstep i o (by rw[List.getElem?_take_of_lt hi];exact ho) a w hc
   rwa [Nat.zero_add]at this) hend
end
section
open Go.RowKit Go.MapKept
def Sub (d:TypeDesc) (F:Value->Option Value) (es:Array MapEntry):Prop:=∀ e ∈ es.toList,IsKey d e.key/\F e.key=some e.val
def HasK (es:Array MapEntry) (k:Value):Prop:=∃ e ∈ es.toList,e.key=k
def zHu (d:TypeDesc) (F:Value->Option Value) (es:Array MapEntry):Prop:=Sub d F es/\∀ k v,F k=some v->HasK es k
theorem Sub.keys {d F es} (h:Sub d F es):∀ x ∈ es.toList,IsKey d x.key:=fun x hx=>(h x hx).1
theorem Sub.nil (d:TypeDesc) (F:Value->Option Value):Sub d F #[]:=fun e he=>by simp at he
section
variable {P:Program} {w:World} {T kt et:TypeId} {d:TypeDesc} {F:Value->Option Value} {es:Array MapEntry} {c mb:Nat}
theorem zK8 (h:zHu d F es) {k v:Value} (hk:IsKey d k) (hF:F k=some v):∃ j,Instr.findNow d k es.toList 0=some (some (j,v)):=by
 rcases findNow_spec hk es.toList 0 h.1.keys with ⟨_,h2⟩|⟨j,e,h1,h2,h3⟩
 ·obtain⟨e,he,hek⟩:=h.2 k v hF;exact absurd hek (h2 e he)
 ·have:=h.1 e (List.mem_of_getElem? h2);rw[h3,hF]at this;refine⟨0+j,?_⟩
  rw[h1]
  cases this.2;rfl
theorem zL7 (h:Sub d F es) {k:Value} (hk:IsKey d k) (hF:F k=none):Instr.findNow d k es.toList 0=some none:=by
 rcases findNow_spec hk es.toList 0 h.keys with ⟨h1,_⟩|⟨j,e,h1,h2,h3⟩
 ·exact h1
 ·have:=h e (List.mem_of_getElem? h2);rw[h3,hF]at this
  cases this.2
theorem zGO (hT:P.underlying T=some (.map kt et)) (hd:P.underlying kt=some d) (hm:w.heap[mb]?=some (.map es c)) (h:zHu d F es) {k v:Value} (hk:IsKey d k) (hF:F k=some v) :
  (Instr.lookup T (.map (some mb)) k true).run P w=.ok (.tuple #[v,.bool true]) w:=by
 obtain⟨j,hj⟩:=zK8 h hk hF;simp[Instr.lookup,Sem.run_bind,run_underlying hT,Result.andThen,Go.MapKept.run_getObj_map hm,run_checkKey hd hk,run_findKey hd hj]
theorem zDk (hT:P.underlying T=some (.map kt et)) (hd:P.underlying kt=some d) (hm:w.heap[mb]?=some (.map es c)) (h:zHu d F es) {k z:Value} (hk:IsKey d k) (hF:F k=none)
  (hz:∀ W,(zeroValue et).run P W=.ok z W):(Instr.lookup T (.map (some mb)) k true).run P w=.ok (.tuple #[z,.bool false]) w:=by
 simp[Instr.lookup,Sem.run_bind,run_underlying hT,Result.andThen,Go.MapKept.run_getObj_map hm,run_checkKey hd hk,run_findKey hd (zL7 h.1 hk hF),hz]
theorem Sub.push (h:Sub d F es) {k v:Value} (hk:IsKey d k) (hF:F k=some v) (b:Nat):Sub d F (es.push {key:=k,val:=v,born:=b}):=by
 intro e he;simp at he;rcases he with he|rfl
 ·exact h e (by simpa using he)
 ·exact⟨hk,hF⟩
theorem Sub.modify (h:Sub d F es) {k v:Value} (hk:IsKey d k) (hF:F k=some v) (j:Nat):Sub d F (es.modify j fun e=>{e with key:=k,val:=v}):=by
 intro e he;rw[Array.mem_toList_iff,Array.mem_iff_getElem?]at he;obtain⟨i,hi⟩:=he;rw[Array.getElem?_modify]at hi;split at hi
 ·cases hh:es[i]? with
  | none=>rw[hh]at hi;cases hi
  | some x=>rw[hh]at hi;cases hi;exact⟨hk,hF⟩
 ·exact h e (by rw[Array.mem_toList_iff];exact Array.mem_of_getElem? hi)
theorem HasK.push {k k' v:Value} {b:Nat} (h:HasK es k'):HasK (es.push {key:=k,val:=v,born:=b}) k':=by
 obtain⟨e,he,hk⟩:=h;exact⟨e,(by simp;exact .inl (by simpa using he)),hk⟩
theorem HasK.modify {k k' v:Value} {j:Nat} {e0:MapEntry} (hj:es[j]?=some e0) (hk0:e0.key=k) (h:HasK es k'):HasK (es.modify j fun e=>{e with key:=k,val:=v}) k':=by
 obtain⟨e,he,hk⟩:=h;rw[Array.mem_toList_iff,Array.mem_iff_getElem?]at he;obtain⟨i,hi⟩:=he
 by_cases hij:j=i
 ·subst hij;have he0:e=e0:=by rw[hi]at hj;injection hj
  refine⟨{e with key:=k,val:=v},?_,?_⟩
  ·rw[Array.mem_toList_iff];exact Array.mem_of_getElem? (i:=j) (by rw[Array.getElem?_modify,if_pos rfl,hi];rfl)
  ·show k=k'
   rw[← hk0,← he0,hk]
 ·refine⟨e,?_,hk⟩;rw[Array.mem_toList_iff];exact Array.mem_of_getElem? (i:=i) (by rw[Array.getElem?_modify,if_neg hij];exact hi)
theorem zKf (hT:P.underlying T=some (.map kt et)) (hd:P.underlying kt=some d) (hm:w.heap[mb]?=some (.map es c)) (h:Sub d F es) {k v:Value} (hk:IsKey d k) (hF:F k=some v) :
  ∃ es' c',(Instr.mapUpdate T (.map (some mb)) k v).run P w=.ok () {w with heap:=w.heap.setIfInBounds mb (.map es' c')}/\Sub d F es'/\HasK es' k/\∀ k',HasK es k'->HasK es' k':=by
 rcases findNow_spec hk es.toList 0 h.keys with ⟨h1,_⟩|⟨j,e,h1,h2,h3⟩
 ·refine⟨es.push {key:=k,val:=v,born:=c},c+1,?_,h.push hk hF c,⟨{key:=k,val:=v,born:=c},(by simp),rfl⟩,fun k' hk'=>hk'.push⟩
  simp[Instr.mapUpdate,Sem.run_bind,run_underlying hT,Result.andThen,Go.MapKept.run_getObj_map hm,run_checkKey hd hk,run_findKey hd h1,run_setObj_map _ hm]
 ·have h2':es[j]?=some e:=by simpa using h2
  have hlt:=(Array.getElem?_eq_some_iff.1 h2').1;refine⟨es.modify j fun e=>{e with key:=k,val:=v},c,?_,h.modify hk hF j,⟨{e with key:=k,val:=v},?_,rfl⟩,fun k' hk'=>hk'.modify h2' h3⟩
  ·have hst:(Instr.keyThatStays ((Option.map (fun x=>x.key) es[j]?).getD k) k).run P w=.ok k w:=by
    rw[h2'];show (Instr.keyThatStays e.key k).run P w=_
    rw[h3];exact run_keyThatStays hk
   simp[Instr.mapUpdate,Sem.run_bind,run_underlying hT,Result.andThen,Go.MapKept.run_getObj_map hm,run_checkKey hd hk,run_findKey hd h1,run_setObj_map _ hm,hst]
  ·rw[Array.mem_toList_iff];exact Array.mem_of_getElem? (i:=j) (by rw[Array.getElem?_modify,if_pos rfl,h2'];rfl)
end
structure RelM (d:TypeDesc) (F:Value->Option Value) (n0:Nat) (w w':World):Prop where
 os:w'.os=w.os
 tape:w'.tape=w.tape
 output:w'.output=w.output
 size:w.heap.size<=w'.heap.size
 block:∀ k,k<w.heap.size->w'.heap[k]?=w.heap[k]?\/(n0<=k/\∃ es c es' c',w.heap[k]?=some (.map es c)/\w'.heap[k]?=some (.map es' c')/\(Sub d F es->Sub d F es'/\∀ x,HasK es x->HasK es' x))
section
variable {d:TypeDesc} {F:Value->Option Value} {n0:Nat}
theorem RelM.refl (w:World):RelM d F n0 w w:=⟨rfl,rfl,rfl,Nat.le_refl _,fun _ _=>.inl rfl⟩
theorem RelM.trans (u v w:World) (h:RelM d F n0 u v) (k:RelM d F n0 v w):RelM d F n0 u w:=by
 refine⟨k.os.trans h.os,k.tape.trans h.tape,k.output.trans h.output,Nat.le_trans h.size k.size,fun i hi=>?_⟩
 rcases h.block i hi with e1|⟨hn,es,c,es',c',e1,e2,e3⟩
 ·rcases k.block i (Nat.lt_of_lt_of_le hi h.size) with e2|⟨hn,es,c,es',c',f1,f2,f3⟩
  ·exact .inl (e2.trans e1)
  ·exact .inr ⟨hn,es,c,es',c',e1 ▸ f1,f2,f3⟩
 ·rcases k.block i (Nat.lt_of_lt_of_le hi h.size) with f1|⟨_,fs,x,fs',x',f1,f2,f3⟩
  ·exact .inr ⟨hn,es,c,es',c',e1,f1.trans e2,e3⟩
  ·rw[e2]at f1;cases f1
   exact .inr ⟨hn,es,c,fs',x',e1,f2,fun hs=>⟨(f3 (e3 hs).1).1,fun y hy=>(f3 (e3 hs).1).2 y ((e3 hs).2 y hy)⟩⟩
theorem RelM.of_below {w w':World} (h:Below w.heap.size w w'):RelM d F n0 w w':=⟨h.os,h.tape,h.output,h.size,fun k hk=>.inl (h.block k hk)⟩
theorem RelM.below {w w':World} (h:RelM d F w.heap.size w w'):Below w.heap.size w w' :=
 ⟨h.os,h.tape,h.output,h.size,fun k hk=>by rcases h.block k hk with e|⟨hn,_⟩;exact e;omega⟩
theorem RelM.cells {w w':World} (h:RelM d F n0 w w') {b:Nat} {cs:Array Value} {T:TypeId} {f:Nat × Nat} (hb:w.heap[b]?=some (.cells cs T f)):w'.heap[b]?=some (.cells cs T f):=by
 rcases h.block b (Array.getElem?_eq_some_iff.1 hb).1 with e|⟨_,es,c,es',c',e,_⟩
 ·exact e.trans hb
 ·rw[hb]at e;cases e
theorem RelM.cell {w w':World} (h:RelM d F n0 w w') {a:Addr} {v:Value} (hb:w.cell? a=some v):w'.cell? a=some v:=by
 rcases h.block a.block (by
  rcases Nat.lt_or_ge a.block w.heap.size with h1|h1
  ·exact h1
  ·unfold World.cell? at hb;simp[Array.getElem?_eq_none h1]at hb) with e|⟨_,es,c,es',c',e,_⟩
 ·unfold World.cell? at hb ⊢;rw[e];exact hb
 ·unfold World.cell? at hb;simp[e]at hb
section
variable {P:Program} {ops:Array Oper} {o:Oper} {a:Act} {w:World} {R:World->World->Prop} {S:Value->World->Prop}
theorem zCt {t:Tmp} (hd:o.dst=some t) (h:zB3 P ops R o a w S):zB3 P ops R o a w (fun v w'=>S v w'/\(o.dst=none->v=zFx o a)):=by
 have hn:∀ v:Value,o.dst=none->v=zFx o a:=fun v e=>by rw[hd]at e;cases e
 unfold zB3 at h ⊢;split at h
 ·rename_i hw;rw[if_pos hw];exact Oper.wp_mono (fun a' w' ⟨v,e,h1,h2⟩=>⟨v,e,h1,h2,hn v⟩) h
 ·rename_i hw;rw[if_neg hw];exact⟨h,hn _⟩
end
end
end
section
open Go.RowKit
structure RelS (b0:Nat) (C:Array Value) (T:TypeId) (w w':World):Prop where
 os:w'.os=w.os
 tape:w'.tape=w.tape
 output:w'.output=w.output
 size:w.heap.size<=w'.heap.size
 old:∀ k,k<w.heap.size->k≠b0->w'.heap[k]?=w.heap[k]?
 at0:w'.heap[b0]?=w.heap[b0]?\/w'.heap[b0]?=some (.cells C T (0,0))\/w.heap.size<=b0
section
variable {b0:Nat} {C:Array Value} {T:TypeId}
theorem RelS.refl (w:World):RelS b0 C T w w:=⟨rfl,rfl,rfl,Nat.le_refl _,fun _ _ _=>rfl,.inl rfl⟩
theorem RelS.trans (u v w:World) (h:RelS b0 C T u v) (k:RelS b0 C T v w):RelS b0 C T u w:=by
 refine⟨k.os.trans h.os,k.tape.trans h.tape,k.output.trans h.output,Nat.le_trans h.size k.size,fun i h1 h2=>(k.old i (Nat.lt_of_lt_of_le h1 h.size) h2).trans (h.old i h1 h2),?_⟩
 have:=h.size;rcases k.at0 with e|e|e
 ·rcases h.at0 with f|f|f
  ·exact .inl (e.trans f)
  ·exact .inr (.inl (e.trans f))
  ·exact .inr (.inr f)
 ·exact .inr (.inl e)
 ·exact .inr (.inr (by omega))
theorem RelS.drew (w:World):RelS b0 C T w {w with drawn:=w.drawn+1}:=⟨rfl,rfl,rfl,Nat.le_refl _,fun _ _ _=>rfl,.inl rfl⟩
theorem RelS.of_below {w w':World} (h:Below w.heap.size w w'):RelS b0 C T w w':=⟨h.os,h.tape,h.output,h.size,fun k hk _=>h.block k hk,by
 by_cases hb:b0<w.heap.size
 ·exact .inl (h.block b0 hb)
 ·exact .inr (.inr (by omega))⟩
def zLy (b0:Nat) (C:Array Value) (T:TypeId) (v:Value) (w:World):Prop:=v=pt b0 0/\w.heap[b0]?=some (.cells C T (0,0))
theorem zFR:zFC (RelS b0 C T) (zLy b0 C T):=fun v w w' ⟨e,h⟩ hr=>⟨e,by
 have hlt:=(Array.getElem?_eq_some_iff.1 h).1;rcases hr.at0 with f|f|f
 ·exact f.trans h
 ·exact f
 ·omega⟩
theorem HoldG.relS {M:Nat->Prop} {w0 w W:World} {l:List Res} (H:HoldG M w0 w l) {i:Nat} {cs:Array Value} (hi:At l i (.blk b0 cs T)) (hr:RelS b0 C T w W):∃ ds,(ds=cs\/ds=C)/\HoldG M w0 W (l.set i (.blk b0 ds T)):=by
 have hb:=H.blk hi;have hlt:=(Array.getElem?_eq_some_iff.1 hb.2).1;have hg:w.grownBy W (some b0):=⟨hr.os,hr.tape,hr.output,hr.size,fun k h1 h2=>hr.old k h1 (fun e=>h2 (by rw[e]))⟩
 rcases hr.at0 with f|f|f
 ·exact⟨cs,.inl rfl,H.upd hi.get hg ⟨hb.1,f.trans hb.2⟩ (fun _ e=>.inl e)⟩
 ·exact⟨C,.inr rfl,H.upd hi.get hg ⟨hb.1,f⟩ (fun _ e=>.inl e)⟩
 ·omega
theorem HoldG.laidS {M:Nat->Prop} {w0 w W:World} {l:List Res} (H:HoldG M w0 w l) {i:Nat} {cs:Array Value} (hi:At l i (.blk b0 cs T)) (hr:RelS b0 C T w W) {v:Value} (h:zLy b0 C T v W):HoldG M w0 W (l.set i (.blk b0 C T)) :=
 H.upd hi.get ⟨hr.os,hr.tape,hr.output,hr.size,fun k h1 h2=>hr.old k h1 (fun e=>h2 (by rw[e];rfl))⟩ ⟨(H.blk hi).1,h.2⟩ (fun _ e=>.inl e)
theorem zLN {P:Program} {ops:Array Oper} {o:Oper} {a:Act} {w:World} {S:TypeId} {m:Tmp} {y:Operand} (hg:Region.wanted o (yielded ops a.tmps)=true) (hop:o.op=.store S (.tmp m) y) (hdst:o.dst=none) (hm:a.eval (.tmp m)=.pointer (some ⟨b0,0,none⟩)) {cs:Array Value} (hb:w.heap[b0]?=some (.cells cs T (0,0))) (hs:cs.size=C.size) (hy:a.eval y=.agg C) (hT:zCe P S C.size=true) (h1:C.toList.all (·.oneCell')=true) :
  zB3 P ops (RelS b0 C T) o a w (fun v w'=>zLy b0 C T v w'/\(o.dst=none->v=zFx o a)):=by
 have hth:w.there b0 0 C.size:=fun j hj=>by
  rw[cell_of_row w b0 (0+j) cs T (0,0) hb];simp[World.frozen?,hb];omega
 unfold zB3;rw[if_pos hg];unfold Oper.wp;have hr':(execOp a.eval o).run P w=.ok .skip (w.setCells b0 0 C.toList):=by
  unfold execOp;simp only[hop,hm,hy,Instr.storeAt,Instr.sureAddr,Sem.run_bind,Sem.run_pure,Result.andThen_ok,run_storeVar_mid (P:=P) w b0 0 S C hth (by simpa [zCe] using hT) (by rw[Array.all_toList]at h1;exact h1)]
 rw[hr'];simp only[Oper.upon];have hg2:=zCV C.toList 0 w b0;have hh:=zCm C.toList 0 w b0 cs T _ hb;rw[zFX (by omega)]at hh
 refine⟨.pointer (some ⟨b0,0,none⟩),(by rw[hdst];rfl),⟨hg2.os,hg2.tape,hg2.output,hg2.size,fun j hj hne=>hg2.block j hj (fun e=>by cases e;exact hne rfl),.inr (.inl hh)⟩,⟨rfl,hh⟩,fun _=>?_⟩
 unfold zFx ownT;rw[hop];exact hm.symm
end
end
section
open Go.RowKit Go.Shelf
attribute [local go_sem] Oper.semAt_some
theorem zKo (u s:Nat->Nat) (W:World):(Op.equalIn 9999 25 (.agg #[.int .u64 (u 0),.int .u64 (u 1),.int .u64 (u 2),.int .u64 (u 3)]) (.agg #[.int .u64 (s 0),.int .u64 (s 1),.int .u64 (s 2),.int .u64 (s 3)])).run Tryz.prog W=.ok (eqS u s) W:=by
 have hi:(Tryz.prog.info? 23).isSome=true:=by kernel_rfl
 obtain⟨i,hi⟩:=Option.isSome_iff_exists.1 hi;have hu:Tryz.prog.underlying 23=some (.int .u64):=by kernel_rfl
 have hc:Tryz.prog.cellsOf 23=1:=by kernel_rfl
 have hst:∀ (x:Nat->Nat) (k:Nat),k<4->∀ W,(part 23 #[.int .u64 (x 0),.int .u64 (x 1),.int .u64 (x 2),.int .u64 (x 3)] (k * 1)).run Tryz.prog W=.ok (.int .u64 (x k)) W:=by
  intro x k hk W;rw[Nat.mul_one]
  match k,hk with
  | 0,_=>simp[go_sem]
  | 1,_=>simp[go_sem]
  | 2,_=>simp[go_sem]
  | 3,_=>simp[go_sem]
 rw[run_equalIn_array W 9998 (n:=4) _ _ (by kernel_rfl) hi,hc]
 have hl:List.range 4=[0,1,2,3]:=by decide
 have he:∀ (a b:Nat),((a:Int) == (b:Int))=(a == b):=by intro a b;rw[Bool.eq_iff_iff];simp;omega
 rw[hl];unfold eqS;simp only[Op.eqItems,Sem.run_bind];simp only[hst u 0 (by decide),hst s 0 (by decide),Result.andThen_ok,run_equalIn_int _ _ _ _ _ _ _ hu,he]
 cases u 0 == s 0
 ·simp
 simp only[Bool.not_true,Bool.false_eq_true,if_false,Bool.true_and,Sem.run_bind];simp only[hst u 1 (by decide),hst s 1 (by decide),Result.andThen_ok,run_equalIn_int _ _ _ _ _ _ _ hu,he]
 cases u 1 == s 1
 ·simp
 simp only[Bool.not_true,Bool.false_eq_true,if_false,Bool.true_and,Sem.run_bind];simp only[hst u 2 (by decide),hst s 2 (by decide),Result.andThen_ok,run_equalIn_int _ _ _ _ _ _ _ hu,he]
 cases u 2 == s 2
 ·simp
 simp only[Bool.not_true,Bool.false_eq_true,if_false,Bool.true_and,Sem.run_bind];simp only[hst u 3 (by decide),hst s 3 (by decide),Result.andThen_ok,run_equalIn_int _ _ _ _ _ _ _ hu,he]
 cases u 3 == s 3<;>simp
theorem zLs {o:Oper} {a:Act} {w:World} {x y:Operand} {U:TypeId} {d e:InstD} (hop:o.op=.binOp .neq 47 x y U) (hx:a.eval x=zA2 d) (hy:a.eval y=zA2 e):(execOp a.eval o).run Tryz.prog w=.ok (.value (.bool (!(eqI d e)))) w:=by
 have he:=zKo d.set e.set w;simp only[execOp,hop,hx,hy];unfold zA2 zAJ eqI;simp[go_sem,he]
 by_cases h0:d.kind=e.kind
 ·cases h1:eqS d.set e.set
  ·simp[h0]
  ·by_cases h2:d.next=e.next
   ·by_cases h3:d.other=e.other
    ·by_cases h4:d.slot=e.slot
     ·by_cases h5:d.spot=e.spot<;>simp[h0,h2,h3,h4,h5]
     ·simp[h0,h2,h3,h4]
    ·simp[h0,h2,h3]
   ·simp[h0,h2]
 ·simp[h0]
theorem zO5 {z z':Int} (h:z=z'):Ending.returned (.int .i64 z)=Ending.returned (.int .i64 z'):=by rw[h]
theorem zP5 (a b:Int):Builtin.max2 (.int .i64 a) (.int .i64 b)=pure (.int .i64 (max a b)):=by
 show (pure (.int .i64 (if b > a then b else a)):Sem Value)=_
 rw[show (if b > a then b else a)=max a b by omega]
theorem zDw (v:Int) (n b:Nat) (w0:World) (hn:0<n) (hn2:n<=1000000) (hb:w0.cell? ⟨b,0,none⟩=some (.int .i64 n)):Calls Tryz.prog 114 #[.int .i64 v,.pointer (some ⟨b,0,none⟩)] w0 (Rt (.int .i64 (zA0 n v)) w0):=by
 have hlt:b<w0.heap.size:=by
  unfold World.cell? at hb
  cases h:w0.heap[b]? with
  | none=>simp[h]at hb
  | some x=>exact(Array.getElem?_eq_some_iff.1 h).1
 have H:=(Hold.start w0).know (·=b) (fun V=>V.cell? ⟨b,0,none⟩=some (.int .i64 n)) (fun _ h=>by omega) (fun i r h=>by simp at h) (fun V hV=>by rw[← hb];simp[World.cell?,hV b rfl])
 simp only[List.nil_append]at H
 go_enter Tryz.func114,Tryz.ntmps114
 go_wp2_with (first|((with_reducible refine gL ?_);refine zAM wtd_ _ _ rfl rfl zAC (H.kn (i:=0) .zero) ?_)|fail)
 all_goals (go_ret;exact⟨zO5 (by unfold zA0;omega),H.below⟩)
theorem zP2 (a b:Int):Builtin.min2 (.int .i64 a) (.int .i64 b)=pure (.int .i64 (min a b)):=by
 show (pure (.int .i64 (if b<a then b else a)):Sem Value)=_
 rw[show (if b<a then b else a)=min a b by omega]
theorem zEk {P:Program} {ev:Operand->Value} {w:World} {o:Oper} {x y:Operand} {ts:Array TypeId} {i j:Int} (hop:o.op=Op.call {callee:=.builtin .max,args:=#[x,y],argTypes:=ts}) (hx:ev x=.int .i64 i) (hy:ev y=.int .i64 j) :
  (execOp ev o).run P w=.ok (.value (.int .i64 (max i j))) w:=by
 simp[execOp,hop,hx,hy,go_sem,Builtin.max_,zP5]
theorem zEh {P:Program} {ev:Operand->Value} {w:World} {o:Oper} {x y:Operand} {ts:Array TypeId} {i j:Int} (hop:o.op=Op.call {callee:=.builtin .min,args:=#[x,y],argTypes:=ts}) (hx:ev x=.int .i64 i) (hy:ev y=.int .i64 j) :
  (execOp ev o).run P w=.ok (.value (.int .i64 (min i j))) w:=by
 simp[execOp,hop,hx,hy,go_sem,Builtin.min_,zP2]
theorem zEg {P:Program} {ops:Array Oper} {o:Oper} {a:Act} {w:World} {D:Prop} {f:FuncId} {x y:Operand} {ts:Array TypeId} {v c r:Value} (hg:Region.wanted o (yielded ops a.tmps)=true) (hop:o.op=Op.call {callee:=Callee.value x,args:=#[y],argTypes:=ts}) (hf:∀ args w,(callFunc f args).run P w=.ok (.enter f args) w)
  (hx:a.eval x=.func (.func f) #[] #[c]) (hy:a.eval y=v) (hc:Calls P f #[v,c] w fun e w'=>e=.returned r/\Below w.heap.size w w') (hD:¬ D):zBZ P ops o a w (fun v' w'=>v'=r/\(D->w.heap.size<=blk v')):=by
 refine zMW hg (f:=f) (args:=#[v,c]) ?_ (hc.mono fun _ _ ⟨he,hb⟩=>⟨r,he,hb,rfl,fun h=>(hD h).elim⟩)
 simp only[execOp,hop];simp[resolve,hx,hy,Deferred.ofValue,invoke,hf]
theorem zCS (x:InstD) (v:Int):(zAJ x).setIfInBounds 0 (.int .i64 v)=zAJ {x with kind:=v}:=rfl
theorem zEC (x:InstD) (v:Int):(zAJ x).setIfInBounds 5 (.int .i64 v)=zAJ {x with next:=v}:=rfl
theorem zKM (x:InstD) (v:Int):(zAJ x).setIfInBounds 6 (.int .i64 v)=zAJ {x with other:=v}:=rfl
theorem zKv (x:InstD) (v:Int):(zAJ x).setIfInBounds 7 (.int .i64 v)=zAJ {x with slot:=v}:=rfl
theorem zKL (x:InstD) (v:Int):(zAJ x).setIfInBounds 8 (.int .i64 v)=zAJ {x with spot:=v}:=rfl
theorem zKV (x:InstD) (s:Nat->Nat):zBS (zAJ x) 1 (setC s).toList=zAJ {x with set:=s}:=rfl
theorem zOx (x:InstD) (n:Nat) (w0:World) (hn:0<n) (hn2:n<=1000000):Calls Tryz.prog 53 #[zA2 x,.int .i64 n] w0 (Rt (.tuple #[zA2 (zDF n x).1,.bool (zDF n x).2]) w0):=by
 have H:=Hold.start w0
 by_cases k1:x.kind=1
 ·have d1:(x.kind == 1)=true:=by rw[beq_iff_eq];exact k1
  have E:=Lib.hid (show zDF n x=({kind:=x.kind,set:=x.set,next:=zA0 n x.next},!eqS x.set zAN) by unfold zDF;rw[if_pos k1])
  clear k1
  go_enter Tryz.func53,Tryz.ntmps53
  go_upto_region 1 with (first|((with_reducible refine kg 2 ?_);(first|refine kA 2 H ?_|refine kS 2 H ?_|refine kB 2 H ?_);clear H;intro b2 w H;try simp only[nr]at H)|((with_reducible refine kg 3 ?_);(first|refine kA 3 H ?_|refine kS 3 H ?_|refine kB 3 H ?_);clear H;intro b3 w H;try simp only[nr]at H)|((with_reducible refine kg 4 ?_);(first|refine kA 4 H ?_|refine kS 4 H ?_|refine kB 4 H ?_);clear H;intro b4 w H;try simp only[nr]at H)|fail)
  rw[zJJ]at H
  try simp only[Value.cells]at H
  go_upto_region 6 with (first|((with_reducible refine gT ?_);refine zAi wtd_ _ _ _ rfl rfl evd_ H (i:=2) i_2 rfl (by show 0<9;omega) (by first|(with_reducible exact zAE zAC)|(with_reducible exact zAE zAh)|(with_reducible exact zAE zAd)) ?_;clear H;intro w H;(rw[zCS]at H);simp only[sc]at H)|((with_reducible refine gL ?_);refine aGi H ?_))
  refine zAg 7 [fun u _=>u=pt b2 1,fun u _=>u=setV x.set,fun u _=>u=.func (.func 114) #[] #[.pointer (some ⟨b3,0,none⟩)],fun u _=>u=pt b2 5,fun u _=>u=.int .i64 (x.next),fun u _=>u=.int .i64 (zA0 n (x.next)),fun u _=>u=pt b4 1] (fun _=>false) (by kernel_rfl) (by kernel_rfl) (by kernel_rfl) ⟨zAL _,zAL _,zAL _,zAL _,zAL _,zAL _,zAL _,trivial⟩ (fun _ _ h=>by cases h) ?ob ?en
  case ob =>
   refine⟨?_,?_,?_,?_,?_,?_,?_,trivial⟩<;>intro A W h
   ·(have e:A.eval (.tmp 2)=.pointer (some ⟨b2,0,none⟩):=h.f 2;refine zAA rfl ?_ (by decide);simp only[execOp,e];simp[go_sem])
   ·exact zAA rfl (zAb rfl (h.d 0 16) zBY rfl (fun j hj=>by have h1:=(H.call h.below).cell (i:=0) .zero (1+j);rcases j with _|_|_|_|j<;>first|exact h1|omega)) (by decide)
   ·exact zAH rfl rfl (h.f 6) (by decide)
   ·(have e:A.eval (.tmp 2)=.pointer (some ⟨b2,0,none⟩):=h.f 2;refine zAA rfl ?_ (by decide);simp only[execOp,e];simp[go_sem])
   ·exact zAA rfl (zAD rfl (h.d 3 19) zAC ((H.call h.below).cell (i:=0) .zero 5)) (by decide)
   ·exact zEg rfl rfl (enters_of Tryz.func114 (by kernel_rfl) rfl) (h.d 2 18) (h.d 4 20) (zDw _ n b3 W hn hn2 ((H.call h.below).cell (i:=1) i_1 0)) (by decide)
   ·(have e:A.eval (.tmp 4)=.pointer (some ⟨b4,0,none⟩):=h.f 4;refine zAA rfl ?_ (by decide);simp only[execOp,e];simp[go_sem])
  case en =>
   intro vals W hbw hv _;have v0:vals 0=.pointer (some ⟨b2,1,none⟩):=hv 0 (by omega)
   have v1:vals 1=setV x.set:=hv 1 (by omega)
   have v2:vals 2=.func (.func 114) #[] #[.pointer (some ⟨b3,0,none⟩)]:=hv 2 (by omega)
   have v3:vals 3=.pointer (some ⟨b2,5,none⟩):=hv 3 (by omega)
   have v4:vals 4=.int .i64 (x.next):=hv 4 (by omega)
   have v5:vals 5=.int .i64 (zA0 n (x.next)):=hv 5 (by omega)
   have v6:vals 6=.pointer (some ⟨b4,1,none⟩):=hv 6 (by omega)
   simp only[fa,Nat.reduceAdd];rw[v0,v1,v2,v3,v4,v5,v6];clear hv v0 v1 v2 v3 v4 v5 v6;simp only[pl];replace H:=H.call hbw
   go_upto_region 7 with (first|((with_reducible refine gT ?_);refine zFK wtd_ _ _ _ rfl rfl (vs:=setC x.set) evd_ H (i:=2) i_2 (zAr zBY) rfl rfl (by show 1+4<=9;omega) ?_;clear H;intro w H;(rw[zKV]at H);simp only[sc]at H)|((with_reducible refine gT ?_);refine zAi wtd_ _ _ _ rfl rfl evd_ H (i:=2) i_2 rfl (by show 5<9;omega) (by first|(with_reducible exact zAE zAC)|(with_reducible exact zAE zAh)|(with_reducible exact zAE zAd)) ?_;clear H;intro w H;(rw[zEC]at H);simp only[sc]at H)|fail)
   have hS:∀ W,RelS b4 (zAJ {kind:=x.kind,set:=x.set,next:=zA0 n x.next}) 47 w W->∃ ds,ds.size=9/\Hold w0 W [.blk b2 (zAJ x) 47,.blk b3 #[.int .i64 n] 3,.blk b4 ds 47]/\ds=zAJ {kind:=x.kind,set:=x.set,next:=zA0 n x.next}:=fun W hr=>by
    obtain⟨ds,hds,H2⟩:=H.relS (i:=2) i_2 hr;exact⟨ds,by rcases hds with rfl|rfl<;>rfl,H2,by rcases hds with rfl|rfl<;>rfl⟩
   refine zCp (RelS b4 (zAJ {kind:=x.kind,set:=x.set,next:=zA0 n x.next}) 47) RelS.refl RelS.trans RelS.drew 6 [fun u _=>u=zA2 {kind:=x.kind,set:=x.set,next:=zA0 n x.next},fun u _=>u=pt b2 1,fun u _=>u=setV x.set,fun u _=>u=setV zAN,fun u _=>u=.bool (!(eqS x.set zAN)),zLy b4 (zAJ {kind:=x.kind,set:=x.set,next:=zA0 n x.next}) 47]
    ⟨zAy _,zAy _,zAy _,zAy _,zAy _,zFR,trivial⟩ (by kernel_rfl) (by kernel_rfl) (by kernel_rfl) ?ob ?en
   case ob =>
    refine⟨?_,?_,?_,?_,?_,?_,trivial⟩<;>intro A W h
    ·obtain⟨ds,_,H2,rfl⟩:=hS W h.rel;exact zCt rfl (zAS RelS.refl rfl (zAb rfl (h.f 4) zAj rfl (fun k _=>by rw[Nat.zero_add];exact H2.cell (i:=2) i_2 k)))
    ·(have e:A.eval (.tmp 2)=.pointer (some ⟨b2,0,none⟩):=h.f 2;refine zCt rfl (zAS RelS.refl rfl ?_);simp only[execOp,e];simp[go_sem])
    ·obtain⟨ds,_,H2,rfl⟩:=hS W h.rel;exact zCt rfl (zAS RelS.refl rfl (zAb rfl (h.d 1 25) zBY rfl (fun j hj=>by have h1:=H2.cell (i:=0) .zero (1+j);rcases j with _|_|_|_|j<;>first|exact h1|omega)))
    ·exact zCt rfl (zAS RelS.refl rfl (zJz rfl))
    ·exact zCt rfl (zAS RelS.refl rfl (zLr rfl (h.d 2 26) (h.d 3 27)))
    ·obtain⟨ds,hsz,H2,_⟩:=hS W h.rel;exact zLN rfl rfl rfl (h.f 4) (H2.blk (i:=2) i_2).2 hsz (h.d 0 24) (zAr (n:=9) zAj) rfl
   case en =>
    intro vals W1 hrel hv hlk;have v0:vals 0=zA2 {kind:=x.kind,set:=x.set,next:=zA0 n x.next}:=hv 0 (by omega)
    have v1:vals 1=.pointer (some ⟨b2,1,none⟩):=hv 1 (by omega)
    have v2:vals 2=setV x.set:=hv 2 (by omega)
    have v3:vals 3=setV zAN:=hv 3 (by omega)
    have v4:vals 4=.bool (!(eqS x.set zAN)):=hv 4 (by omega)
    have H2:=H.laidS (i:=2) i_2 hrel (hv 5 (by omega))
    simp only[fa,Nat.reduceAdd];rw[v0,v1,v2,v3,v4];clear hv v0 v1 v2 v3 v4 hlk hrel H hS;have H:=H2;clear H2;simp only[sc]at H;simp only[pl]
    go_wp2_with (first|fail)
    (refine zEz Tryz.results53 rfl (by first|rfl|(simp only[pl];rfl)) H (i:=2) i_2 zAj rfl rfl ?_)
    exact⟨by rw[E.out];rfl,H.below⟩
 have d1:(x.kind == 1)=false:=by rw[beq_eq_false_iff_ne];exact k1
 by_cases k2:x.kind=2
 ·have d2:(x.kind == 2)=true:=by rw[beq_iff_eq];exact k2
  have E:=Lib.hid (show zDF n x=({kind:=x.kind,next:=zA0 n x.next,other:=zA0 n x.other},true) by unfold zDF;rw[if_neg k1,if_pos k2])
  clear k1 k2
  go_enter Tryz.func53,Tryz.ntmps53
  go_upto_region 1 with (first|((with_reducible refine kg 2 ?_);(first|refine kA 2 H ?_|refine kS 2 H ?_|refine kB 2 H ?_);clear H;intro b2 w H;try simp only[nr]at H)|((with_reducible refine kg 3 ?_);(first|refine kA 3 H ?_|refine kS 3 H ?_|refine kB 3 H ?_);clear H;intro b3 w H;try simp only[nr]at H)|((with_reducible refine kg 4 ?_);(first|refine kA 4 H ?_|refine kS 4 H ?_|refine kB 4 H ?_);clear H;intro b4 w H;try simp only[nr]at H)|fail)
  rw[zJJ]at H
  try simp only[Value.cells]at H
  go_upto_region 9 with (first|((with_reducible refine gT ?_);refine zAi wtd_ _ _ _ rfl rfl evd_ H (i:=2) i_2 rfl (by show 0<9;omega) (by first|(with_reducible exact zAE zAC)|(with_reducible exact zAE zAh)|(with_reducible exact zAE zAd)) ?_;clear H;intro w H;(rw[zCS]at H);simp only[sc]at H)|((with_reducible refine gL ?_);refine aGi H ?_))
  refine zAg 9 [fun u _=>u=.func (.func 114) #[] #[.pointer (some ⟨b3,0,none⟩)],fun u _=>u=pt b2 5,fun u _=>u=.int .i64 (x.next),fun u _=>u=.int .i64 (zA0 n (x.next)),fun u _=>u=.func (.func 114) #[] #[.pointer (some ⟨b3,0,none⟩)],fun u _=>u=pt b2 6,fun u _=>u=.int .i64 (x.other),fun u _=>u=.int .i64 (zA0 n (x.other)),fun u _=>u=pt b4 5] (fun _=>false) (by kernel_rfl) (by kernel_rfl) (by kernel_rfl) ⟨zAL _,zAL _,zAL _,zAL _,zAL _,zAL _,zAL _,zAL _,zAL _,trivial⟩ (fun _ _ h=>by cases h) ?ob ?en
  case ob =>
   refine⟨?_,?_,?_,?_,?_,?_,?_,?_,?_,trivial⟩<;>intro A W h
   ·exact zAH rfl rfl (h.f 6) (by decide)
   ·(have e:A.eval (.tmp 2)=.pointer (some ⟨b2,0,none⟩):=h.f 2;refine zAA rfl ?_ (by decide);simp only[execOp,e];simp[go_sem])
   ·exact zAA rfl (zAD rfl (h.d 1 32) zAC ((H.call h.below).cell (i:=0) .zero 5)) (by decide)
   ·exact zEg rfl rfl (enters_of Tryz.func114 (by kernel_rfl) rfl) (h.d 0 31) (h.d 2 33) (zDw _ n b3 W hn hn2 ((H.call h.below).cell (i:=1) i_1 0)) (by decide)
   ·exact zAH rfl rfl (h.f 6) (by decide)
   ·(have e:A.eval (.tmp 2)=.pointer (some ⟨b2,0,none⟩):=h.f 2;refine zAA rfl ?_ (by decide);simp only[execOp,e];simp[go_sem])
   ·exact zAA rfl (zAD rfl (h.d 5 36) zAC ((H.call h.below).cell (i:=0) .zero 6)) (by decide)
   ·exact zEg rfl rfl (enters_of Tryz.func114 (by kernel_rfl) rfl) (h.d 4 35) (h.d 6 37) (zDw _ n b3 W hn hn2 ((H.call h.below).cell (i:=1) i_1 0)) (by decide)
   ·(have e:A.eval (.tmp 4)=.pointer (some ⟨b4,0,none⟩):=h.f 4;refine zAA rfl ?_ (by decide);simp only[execOp,e];simp[go_sem])
  case en =>
   intro vals W hbw hv _;have v0:vals 0=.func (.func 114) #[] #[.pointer (some ⟨b3,0,none⟩)]:=hv 0 (by omega)
   have v1:vals 1=.pointer (some ⟨b2,5,none⟩):=hv 1 (by omega)
   have v2:vals 2=.int .i64 (x.next):=hv 2 (by omega)
   have v3:vals 3=.int .i64 (zA0 n (x.next)):=hv 3 (by omega)
   have v4:vals 4=.func (.func 114) #[] #[.pointer (some ⟨b3,0,none⟩)]:=hv 4 (by omega)
   have v5:vals 5=.pointer (some ⟨b2,6,none⟩):=hv 5 (by omega)
   have v6:vals 6=.int .i64 (x.other):=hv 6 (by omega)
   have v7:vals 7=.int .i64 (zA0 n (x.other)):=hv 7 (by omega)
   have v8:vals 8=.pointer (some ⟨b4,5,none⟩):=hv 8 (by omega)
   simp only[fa,Nat.reduceAdd];rw[v0,v1,v2,v3,v4,v5,v6,v7,v8];clear hv v0 v1 v2 v3 v4 v5 v6 v7 v8;simp only[pl];replace H:=H.call hbw
   go_wp2_with (first|((with_reducible refine gT ?_);refine zAi wtd_ _ _ _ rfl rfl evd_ H (i:=2) i_2 rfl (by show 5<9;omega) (by first|(with_reducible exact zAE zAC)|(with_reducible exact zAE zAh)|(with_reducible exact zAE zAd)) ?_;clear H;intro w H;(rw[zEC]at H);simp only[sc]at H)|((with_reducible refine gT ?_);refine zAi wtd_ _ _ _ rfl rfl evd_ H (i:=2) i_2 rfl (by show 6<9;omega) (by first|(with_reducible exact zAE zAC)|(with_reducible exact zAE zAh)|(with_reducible exact zAE zAd)) ?_;clear H;intro w H;(rw[zKM]at H);simp only[sc]at H)|(first|((with_reducible refine gTi ?_);refine aTi H ?_;clear H;intro w H;try simp only[nr]at H)|((with_reducible refine gLi ?_);refine aLi H ?_)))
   (refine zEz Tryz.results53 rfl (by first|rfl|(simp only[pl];rfl)) H (i:=2) i_2 zAj rfl rfl ?_)
   exact⟨by rw[E.out];rfl,H.below⟩
 have d2:(x.kind == 2)=false:=by rw[beq_eq_false_iff_ne];exact k2
 by_cases k3:x.kind=3
 ·have d3:(x.kind == 3)=true:=by rw[beq_iff_eq];exact k3
  have E:=Lib.hid (show zDF n x=({kind:=x.kind,slot:=min (max x.slot 0) 41,next:=zA0 n x.next},true) by unfold zDF;rw[if_neg k1,if_neg k2,if_pos k3])
  clear k1 k2 k3
  go_enter Tryz.func53,Tryz.ntmps53
  go_upto_region 1 with (first|((with_reducible refine kg 2 ?_);(first|refine kA 2 H ?_|refine kS 2 H ?_|refine kB 2 H ?_);clear H;intro b2 w H;try simp only[nr]at H)|((with_reducible refine kg 3 ?_);(first|refine kA 3 H ?_|refine kS 3 H ?_|refine kB 3 H ?_);clear H;intro b3 w H;try simp only[nr]at H)|((with_reducible refine kg 4 ?_);(first|refine kA 4 H ?_|refine kS 4 H ?_|refine kB 4 H ?_);clear H;intro b4 w H;try simp only[nr]at H)|fail)
  rw[zJJ]at H
  try simp only[Value.cells]at H
  go_upto_region 11 with (first|((with_reducible refine gT ?_);refine zAi wtd_ _ _ _ rfl rfl evd_ H (i:=2) i_2 rfl (by show 0<9;omega) (by first|(with_reducible exact zAE zAC)|(with_reducible exact zAE zAh)|(with_reducible exact zAE zAd)) ?_;clear H;intro w H;(rw[zCS]at H);simp only[sc]at H)|((with_reducible refine gL ?_);refine aGi H ?_))
  refine zAg 9 [fun u _=>u=pt b2 7,fun u _=>u=.int .i64 (x.slot),fun u _=>u=.int .i64 (max (x.slot) 0),fun u _=>u=.int .i64 (min (max x.slot 0) 41),fun u _=>u=.func (.func 114) #[] #[.pointer (some ⟨b3,0,none⟩)],fun u _=>u=pt b2 5,fun u _=>u=.int .i64 (x.next),fun u _=>u=.int .i64 (zA0 n (x.next)),fun u _=>u=pt b4 7] (fun _=>false) (by kernel_rfl) (by kernel_rfl) (by kernel_rfl) ⟨zAL _,zAL _,zAL _,zAL _,zAL _,zAL _,zAL _,zAL _,zAL _,trivial⟩ (fun _ _ h=>by cases h) ?ob ?en
  case ob =>
   refine⟨?_,?_,?_,?_,?_,?_,?_,?_,?_,trivial⟩<;>intro A W h
   ·(have e:A.eval (.tmp 2)=.pointer (some ⟨b2,0,none⟩):=h.f 2;refine zAA rfl ?_ (by decide);simp only[execOp,e];simp[go_sem])
   ·exact zAA rfl (zAD rfl (h.d 0 43) zAC ((H.call h.below).cell (i:=0) .zero 7)) (by decide)
   ·exact zAA rfl (zEk rfl (h.d 1 44) rfl) (by decide)
   ·exact zAA rfl (zEh rfl (h.d 2 45) rfl) (by decide)
   ·exact zAH rfl rfl (h.f 6) (by decide)
   ·(have e:A.eval (.tmp 2)=.pointer (some ⟨b2,0,none⟩):=h.f 2;refine zAA rfl ?_ (by decide);simp only[execOp,e];simp[go_sem])
   ·exact zAA rfl (zAD rfl (h.d 5 48) zAC ((H.call h.below).cell (i:=0) .zero 5)) (by decide)
   ·exact zEg rfl rfl (enters_of Tryz.func114 (by kernel_rfl) rfl) (h.d 4 47) (h.d 6 49) (zDw _ n b3 W hn hn2 ((H.call h.below).cell (i:=1) i_1 0)) (by decide)
   ·(have e:A.eval (.tmp 4)=.pointer (some ⟨b4,0,none⟩):=h.f 4;refine zAA rfl ?_ (by decide);simp only[execOp,e];simp[go_sem])
  case en =>
   intro vals W hbw hv _;have v0:vals 0=.pointer (some ⟨b2,7,none⟩):=hv 0 (by omega)
   have v1:vals 1=.int .i64 (x.slot):=hv 1 (by omega)
   have v2:vals 2=.int .i64 (max (x.slot) 0):=hv 2 (by omega)
   have v3:vals 3=.int .i64 (min (max x.slot 0) 41):=hv 3 (by omega)
   have v4:vals 4=.func (.func 114) #[] #[.pointer (some ⟨b3,0,none⟩)]:=hv 4 (by omega)
   have v5:vals 5=.pointer (some ⟨b2,5,none⟩):=hv 5 (by omega)
   have v6:vals 6=.int .i64 (x.next):=hv 6 (by omega)
   have v7:vals 7=.int .i64 (zA0 n (x.next)):=hv 7 (by omega)
   have v8:vals 8=.pointer (some ⟨b4,7,none⟩):=hv 8 (by omega)
   simp only[fa,Nat.reduceAdd];rw[v0,v1,v2,v3,v4,v5,v6,v7,v8];clear hv v0 v1 v2 v3 v4 v5 v6 v7 v8;simp only[pl];replace H:=H.call hbw
   go_wp2_with (first|((with_reducible refine gT ?_);refine zAi wtd_ _ _ _ rfl rfl evd_ H (i:=2) i_2 rfl (by show 7<9;omega) (by first|(with_reducible exact zAE zAC)|(with_reducible exact zAE zAh)|(with_reducible exact zAE zAd)) ?_;clear H;intro w H;(rw[zKv]at H);simp only[sc]at H)|((with_reducible refine gT ?_);refine zAi wtd_ _ _ _ rfl rfl evd_ H (i:=2) i_2 rfl (by show 5<9;omega) (by first|(with_reducible exact zAE zAC)|(with_reducible exact zAE zAh)|(with_reducible exact zAE zAd)) ?_;clear H;intro w H;(rw[zEC]at H);simp only[sc]at H)|(first|((with_reducible refine gTi ?_);refine aTi H ?_;clear H;intro w H;try simp only[nr]at H)|((with_reducible refine gLi ?_);refine aLi H ?_)))
   (refine zEz Tryz.results53 rfl (by first|rfl|(simp only[pl];rfl)) H (i:=2) i_2 zAj rfl rfl ?_)
   exact⟨by rw[E.out];rfl,H.below⟩
 have d3:(x.kind == 3)=false:=by rw[beq_eq_false_iff_ne];exact k3
 by_cases k4:x.kind=4
 ·have d4:(x.kind == 4)=true:=by rw[beq_iff_eq];exact k4
  have E:=Lib.hid (show zDF n x=({kind:=x.kind,spot:=min (max x.spot 8) 13,next:=zA0 n x.next},true) by unfold zDF;rw[if_neg k1,if_neg k2,if_neg k3,if_pos k4])
  clear k1 k2 k3 k4
  go_enter Tryz.func53,Tryz.ntmps53
  go_upto_region 1 with (first|((with_reducible refine kg 2 ?_);(first|refine kA 2 H ?_|refine kS 2 H ?_|refine kB 2 H ?_);clear H;intro b2 w H;try simp only[nr]at H)|((with_reducible refine kg 3 ?_);(first|refine kA 3 H ?_|refine kS 3 H ?_|refine kB 3 H ?_);clear H;intro b3 w H;try simp only[nr]at H)|((with_reducible refine kg 4 ?_);(first|refine kA 4 H ?_|refine kS 4 H ?_|refine kB 4 H ?_);clear H;intro b4 w H;try simp only[nr]at H)|fail)
  rw[zJJ]at H
  try simp only[Value.cells]at H
  go_upto_region 13 with (first|((with_reducible refine gT ?_);refine zAi wtd_ _ _ _ rfl rfl evd_ H (i:=2) i_2 rfl (by show 0<9;omega) (by first|(with_reducible exact zAE zAC)|(with_reducible exact zAE zAh)|(with_reducible exact zAE zAd)) ?_;clear H;intro w H;(rw[zCS]at H);simp only[sc]at H)|((with_reducible refine gL ?_);refine aGi H ?_))
  refine zAg 9 [fun u _=>u=pt b2 8,fun u _=>u=.int .i64 (x.spot),fun u _=>u=.int .i64 (max (x.spot) 8),fun u _=>u=.int .i64 (min (max x.spot 8) 13),fun u _=>u=.func (.func 114) #[] #[.pointer (some ⟨b3,0,none⟩)],fun u _=>u=pt b2 5,fun u _=>u=.int .i64 (x.next),fun u _=>u=.int .i64 (zA0 n (x.next)),fun u _=>u=pt b4 8] (fun _=>false) (by kernel_rfl) (by kernel_rfl) (by kernel_rfl) ⟨zAL _,zAL _,zAL _,zAL _,zAL _,zAL _,zAL _,zAL _,zAL _,trivial⟩ (fun _ _ h=>by cases h) ?ob ?en
  case ob =>
   refine⟨?_,?_,?_,?_,?_,?_,?_,?_,?_,trivial⟩<;>intro A W h
   ·(have e:A.eval (.tmp 2)=.pointer (some ⟨b2,0,none⟩):=h.f 2;refine zAA rfl ?_ (by decide);simp only[execOp,e];simp[go_sem])
   ·exact zAA rfl (zAD rfl (h.d 0 55) zAh ((H.call h.below).cell (i:=0) .zero 8)) (by decide)
   ·exact zAA rfl (zEk rfl (h.d 1 56) rfl) (by decide)
   ·exact zAA rfl (zEh rfl (h.d 2 57) rfl) (by decide)
   ·exact zAH rfl rfl (h.f 6) (by decide)
   ·(have e:A.eval (.tmp 2)=.pointer (some ⟨b2,0,none⟩):=h.f 2;refine zAA rfl ?_ (by decide);simp only[execOp,e];simp[go_sem])
   ·exact zAA rfl (zAD rfl (h.d 5 60) zAC ((H.call h.below).cell (i:=0) .zero 5)) (by decide)
   ·exact zEg rfl rfl (enters_of Tryz.func114 (by kernel_rfl) rfl) (h.d 4 59) (h.d 6 61) (zDw _ n b3 W hn hn2 ((H.call h.below).cell (i:=1) i_1 0)) (by decide)
   ·(have e:A.eval (.tmp 4)=.pointer (some ⟨b4,0,none⟩):=h.f 4;refine zAA rfl ?_ (by decide);simp only[execOp,e];simp[go_sem])
  case en =>
   intro vals W hbw hv _;have v0:vals 0=.pointer (some ⟨b2,8,none⟩):=hv 0 (by omega)
   have v1:vals 1=.int .i64 (x.spot):=hv 1 (by omega)
   have v2:vals 2=.int .i64 (max (x.spot) 8):=hv 2 (by omega)
   have v3:vals 3=.int .i64 (min (max x.spot 8) 13):=hv 3 (by omega)
   have v4:vals 4=.func (.func 114) #[] #[.pointer (some ⟨b3,0,none⟩)]:=hv 4 (by omega)
   have v5:vals 5=.pointer (some ⟨b2,5,none⟩):=hv 5 (by omega)
   have v6:vals 6=.int .i64 (x.next):=hv 6 (by omega)
   have v7:vals 7=.int .i64 (zA0 n (x.next)):=hv 7 (by omega)
   have v8:vals 8=.pointer (some ⟨b4,8,none⟩):=hv 8 (by omega)
   simp only[fa,Nat.reduceAdd];rw[v0,v1,v2,v3,v4,v5,v6,v7,v8];clear hv v0 v1 v2 v3 v4 v5 v6 v7 v8;simp only[pl];replace H:=H.call hbw
   go_wp2_with (first|((with_reducible refine gT ?_);refine zAi wtd_ _ _ _ rfl rfl evd_ H (i:=2) i_2 rfl (by show 8<9;omega) (by first|(with_reducible exact zAE zAC)|(with_reducible exact zAE zAh)|(with_reducible exact zAE zAd)) ?_;clear H;intro w H;(rw[zKL]at H);simp only[sc]at H)|((with_reducible refine gT ?_);refine zAi wtd_ _ _ _ rfl rfl evd_ H (i:=2) i_2 rfl (by show 5<9;omega) (by first|(with_reducible exact zAE zAC)|(with_reducible exact zAE zAh)|(with_reducible exact zAE zAd)) ?_;clear H;intro w H;(rw[zEC]at H);simp only[sc]at H)|(first|((with_reducible refine gTi ?_);refine aTi H ?_;clear H;intro w H;try simp only[nr]at H)|((with_reducible refine gLi ?_);refine aLi H ?_)))
   (refine zEz Tryz.results53 rfl (by first|rfl|(simp only[pl];rfl)) H (i:=2) i_2 zAj rfl rfl ?_)
   exact⟨by rw[E.out];rfl,H.below⟩
 have d4:(x.kind == 4)=false:=by rw[beq_eq_false_iff_ne];exact k4
 by_cases k5:x.kind=5
 ·have d5:(x.kind == 5)=true:=by rw[beq_iff_eq];exact k5
  have E:=Lib.hid (show zDF n x=({kind:=x.kind},true) by unfold zDF;rw[if_neg k1,if_neg k2,if_neg k3,if_neg k4,if_pos (.inl k5)])
  clear k1 k2 k3 k4 k5
  go_enter Tryz.func53,Tryz.ntmps53
  go_upto_region 1 with (first|((with_reducible refine kg 2 ?_);(first|refine kA 2 H ?_|refine kS 2 H ?_|refine kB 2 H ?_);clear H;intro b2 w H;try simp only[nr]at H)|((with_reducible refine kg 3 ?_);(first|refine kA 3 H ?_|refine kS 3 H ?_|refine kB 3 H ?_);clear H;intro b3 w H;try simp only[nr]at H)|((with_reducible refine kg 4 ?_);(first|refine kA 4 H ?_|refine kS 4 H ?_|refine kB 4 H ?_);clear H;intro b4 w H;try simp only[nr]at H)|fail)
  rw[zJJ]at H
  try simp only[Value.cells]at H
  go_wp2_with (first|((with_reducible refine gT ?_);refine zAi wtd_ _ _ _ rfl rfl evd_ H (i:=2) i_2 rfl (by show 0<9;omega) (by first|(with_reducible exact zAE zAC)|(with_reducible exact zAE zAh)|(with_reducible exact zAE zAd)) ?_;clear H;intro w H;(rw[zCS]at H);simp only[sc]at H)|(first|((with_reducible refine gTi ?_);refine aTi H ?_;clear H;intro w H;try simp only[nr]at H)|((with_reducible refine gLi ?_);refine aLi H ?_)|((with_reducible refine gL ?_);refine aGi H ?_)))
  (refine zEz Tryz.results53 rfl (by first|rfl|(simp only[pl];rfl)) H (i:=2) i_2 zAj rfl rfl ?_)
  exact⟨by rw[E.out];rfl,H.below⟩
 have d5:(x.kind == 5)=false:=by rw[beq_eq_false_iff_ne];exact k5
 by_cases k6:x.kind=6
 ·have d6:(x.kind == 6)=true:=by rw[beq_iff_eq];exact k6
  have E:=Lib.hid (show zDF n x=({kind:=x.kind},true) by unfold zDF;rw[if_neg k1,if_neg k2,if_neg k3,if_neg k4,if_pos (.inr k6)])
  clear k1 k2 k3 k4 k5 k6
  go_enter Tryz.func53,Tryz.ntmps53
  go_upto_region 1 with (first|((with_reducible refine kg 2 ?_);(first|refine kA 2 H ?_|refine kS 2 H ?_|refine kB 2 H ?_);clear H;intro b2 w H;try simp only[nr]at H)|((with_reducible refine kg 3 ?_);(first|refine kA 3 H ?_|refine kS 3 H ?_|refine kB 3 H ?_);clear H;intro b3 w H;try simp only[nr]at H)|((with_reducible refine kg 4 ?_);(first|refine kA 4 H ?_|refine kS 4 H ?_|refine kB 4 H ?_);clear H;intro b4 w H;try simp only[nr]at H)|fail)
  rw[zJJ]at H
  try simp only[Value.cells]at H
  go_wp2_with (first|((with_reducible refine gT ?_);refine zAi wtd_ _ _ _ rfl rfl evd_ H (i:=2) i_2 rfl (by show 0<9;omega) (by first|(with_reducible exact zAE zAC)|(with_reducible exact zAE zAh)|(with_reducible exact zAE zAd)) ?_;clear H;intro w H;(rw[zCS]at H);simp only[sc]at H)|(first|((with_reducible refine gTi ?_);refine aTi H ?_;clear H;intro w H;try simp only[nr]at H)|((with_reducible refine gLi ?_);refine aLi H ?_)|((with_reducible refine gL ?_);refine aGi H ?_)))
  (refine zEz Tryz.results53 rfl (by first|rfl|(simp only[pl];rfl)) H (i:=2) i_2 zAj rfl rfl ?_)
  exact⟨by rw[E.out];rfl,H.below⟩
 ·have d6:(x.kind == 6)=false:=by rw[beq_eq_false_iff_ne];exact k6
  have E:=Lib.hid (show zDF n x=({kind:=x.kind},false) by unfold zDF;rw[if_neg k1,if_neg k2,if_neg k3,if_neg k4,if_neg (fun h=>h.elim k5 k6)])
  clear k1 k2 k3 k4 k5 k6
  go_enter Tryz.func53,Tryz.ntmps53
  go_upto_region 1 with (first|((with_reducible refine kg 2 ?_);(first|refine kA 2 H ?_|refine kS 2 H ?_|refine kB 2 H ?_);clear H;intro b2 w H;try simp only[nr]at H)|((with_reducible refine kg 3 ?_);(first|refine kA 3 H ?_|refine kS 3 H ?_|refine kB 3 H ?_);clear H;intro b3 w H;try simp only[nr]at H)|((with_reducible refine kg 4 ?_);(first|refine kA 4 H ?_|refine kS 4 H ?_|refine kB 4 H ?_);clear H;intro b4 w H;try simp only[nr]at H)|fail)
  rw[zJJ]at H
  try simp only[Value.cells]at H
  go_wp2_with (first|((with_reducible refine gT ?_);refine zAi wtd_ _ _ _ rfl rfl evd_ H (i:=2) i_2 rfl (by show 0<9;omega) (by first|(with_reducible exact zAE zAC)|(with_reducible exact zAE zAh)|(with_reducible exact zAE zAd)) ?_;clear H;intro w H;(rw[zCS]at H);simp only[sc]at H)|(first|((with_reducible refine gTi ?_);refine aTi H ?_;clear H;intro w H;try simp only[nr]at H)|((with_reducible refine gLi ?_);refine aLi H ?_)|((with_reducible refine gL ?_);refine aGi H ?_)))
  (refine zEz Tryz.results53 rfl (by first|rfl|(simp only[pl];rfl)) H (i:=2) i_2 zAj rfl rfl ?_)
  exact⟨by rw[E.out];rfl,H.below⟩
end
end Go.Proofs.YtalggmbdpmdcbaaGreat
