/-
  Laws of walks, and walks.
-/
import Derived.Test.YtdpcemijdmbpiaaGreatPr2
import Derived.Test.YtdpcemijdmbpiaaGreatPr1
import Derived.MapKept
import Derived.Below
import Derived.Deep.CutRange
set_option linter.unusedVariables false
set_option linter.unusedSimpArgs false
set_option maxRecDepth 100000
set_option maxHeartbeats 16000000
namespace Go.Proofs.YtdpcemijdmbpiaaGreat
section
open Go.RowKit
def withinI (n:Nat) (v:Int):Int:=min (max v 0) (n - 1)
def bareP (n:Nat) (x:InstD):InstD × Bool :=
 if x.kind=1 then ({kind:=x.kind,set:=x.set,next:=withinI n x.next},!eqS x.set emptyS)
 else if x.kind=2 then ({kind:=x.kind,next:=withinI n x.next,other:=withinI n x.other},true)
 else if x.kind=3 then ({kind:=x.kind,slot:=min (max x.slot 0) 41,next:=withinI n x.next},true)
 else if x.kind=4 then ({kind:=x.kind,spot:=min (max x.spot 8) 13,next:=withinI n x.next},true)
 else if x.kind=5∨x.kind=6 then ({kind:=x.kind},true)
 else ({kind:=x.kind},false)
def eqI (x y:InstD):Bool:=(x.kind == y.kind)&&(eqS x.set y.set&&((x.next == y.next)&&((x.other == y.other)&&((x.slot == y.slot)&&(x.spot == y.spot)))))
theorem bare_right (n:Nat) (hn:0<n) (x:InstD):((bareP n x).2&&eqI x (bareP n x).1)=rightI n x:=by
 obtain⟨k,s,a,b,c,d⟩:=x;unfold bareP rightI inN withinI eqI;have hs:eqS s s=true:=eqS_refl s;simp only
 by_cases h1:k=1
 ·subst h1;simp only[if_true,hs]
  generalize eqS s emptyS=q
  rw[Bool.eq_iff_iff];cases q<;>simp<;>omega
 by_cases h2:k=2
 ·subst h2;simp only[if_true];simp only[show ¬ (2:Int)=1 by decide,if_false]
  generalize eqS s emptyS=q
  rw[Bool.eq_iff_iff];cases q<;>simp<;>omega
 by_cases h3:k=3
 ·subst h3;simp only[show ¬ (3:Int)=1 by decide,show ¬ (3:Int)=2 by decide,if_false,if_true]
  generalize eqS s emptyS=q
  rw[Bool.eq_iff_iff];cases q<;>simp<;>omega
 by_cases h4:k=4
 ·subst h4;simp only[show ¬ (4:Int)=1 by decide,show ¬ (4:Int)=2 by decide,show ¬ (4:Int)=3 by decide,if_false,if_true]
  generalize eqS s emptyS=q
  rw[Bool.eq_iff_iff];cases q<;>simp<;>omega
 by_cases h5:k=5∨k=6
 ·simp only[if_neg h1,if_neg h2,if_neg h3,if_neg h4,if_pos h5]
  generalize eqS s emptyS=q
  rw[Bool.eq_iff_iff];cases q<;>simp
  intros;constructor<;>(intros;omega)
 ·simp only[if_neg h1,if_neg h2,if_neg h3,if_neg h4,if_neg h5];rfl
structure QCtx (l:List Oper) (Ss:Nat→Value→World→Prop) (R:World→World→Prop) (a0:Act) (w0:World) (i:Nat) (a:Act) (w:World):Prop where
 rel:R w0 w
 frame:∀ t,l.any (fun o=>o.dst == some t)=false→a.eval (.tmp t)=a0.eval (.tmp t)
 dep:∀ j d,decide (j<i)=true→(l[j]?).bind (·.dst)=some d→Ss j (a.eval (.tmp d)) w
def QStep (P:Program) (ops:Array Oper) (R:World→World→Prop) (o:Oper) (a:Act) (w:World) (s:Value→World→Prop):Prop :=
 if Region.wanted o (yielded ops a.tmps) then o.wp P a w (fun a' w'=>∃ v,a'=a.put o.dst v∧R w w'∧s v w') (fun _ _ _=>False) else s undef w
def StableR (R:World→World→Prop) (s:Value→World→Prop):Prop:=∀ v w w',s v w→R w w'→s v w'
theorem stableR_eq {R:World→World→Prop} (x:Value):StableR R (fun v _=>v=x):=fun _ _ _ h _=>h
def AllStableR (R:World→World→Prop):List (Value→World→Prop)→Prop
 | []=>True
 | s::r=>StableR R s∧AllStableR R r
theorem lookS_stableR {R:World→World→Prop}:∀ (L:List (Value→World→Prop)) (i:Nat),AllStableR R L→StableR R (lookS L i)
 | [],_,_=>fun _ _ _ h _=>h
 | _::_,0,h=>h.1
 | _::r,i+1,h=>lookS_stableR r i h.2
def OblQ (P:Program) (l hd:List Oper) (R:World→World→Prop) (L:List (Value→World→Prop)) (a0:Act) (w0:World):List Oper→Nat→Prop
 | [],_=>True
 | o::r,i=>(∀ a w,QCtx hd (lookS L) R a0 w0 i a w→QStep P l.toArray R o a w (lookS L i))∧OblQ P l hd R L a0 w0 r (i+1)
theorem OblQ.get {P:Program} {l hd:List Oper} {R:World→World→Prop} {L:List (Value→World→Prop)} {a0:Act} {w0:World}:∀ (r:List Oper) (k:Nat),OblQ P l hd R L a0 w0 r k→∀ i o,r[i]?=some o →
  ∀ a w,QCtx hd (lookS L) R a0 w0 (k+i) a w→QStep P l.toArray R o a w (lookS L (k+i))
 | [],_,_,_,_,h=>by simp at h
 | o::r,k,h,0,o',h'=>by simp at h';subst h';exact h.1
 | o::r,k,h,i+1,o',h'=>by
  have:=OblQ.get r (k+1) h.2 i o' (by simpa using h')
  rwa [show k+1+i=k+(i+1) from by omega]at this
section
variable {P:Program} {ops:Array Oper} {o:Oper} {a:Act} {w:World} {R:World→World→Prop}
theorem rq_of {v:Value} (hrefl:∀ w,R w w) (h:RStep P ops o a w (fun v' w'=>v'=v∧w'=w)):QStep P ops R o a w (fun v' _=>v'=v):=by
 unfold RStep StepOk at h;unfold QStep;split
 ·rename_i hw;rw[if_pos hw]at h;exact Oper.wp_mono (fun a' w' ⟨u,e,_,h1,h2⟩=>⟨u,e,h2 ▸ hrefl w,h1⟩) h
 ·rename_i hw;rw[if_neg hw]at h;exact h.1
theorem rq_pure {v:Value} (hrefl:∀ w,R w w) (hg:Region.wanted o (yielded ops a.tmps)=true) (hr:(execOp a.eval o).run P w=.ok (.value v) w):QStep P ops R o a w (fun v' _=>v'=v) :=
 rq_of hrefl (rs_val hg hr (Below.refl _ w) ⟨rfl,rfl⟩)
end
theorem QCtx.d {l:List Oper} {Ss:Nat→Value→World→Prop} {R:World→World→Prop} {a0:Act} {w0:World} {i:Nat} {a:Act} {w:World} (h:QCtx l Ss R a0 w0 i a w) (j d:Nat) (h1:decide (j<i)=true:=by exact rfl) (h2:(l[j]?).bind (·.dst)=some d:=by exact rfl):Ss j (a.eval (.tmp d)) w:=h.dep j d h1 h2
theorem QCtx.f {l:List Oper} {Ss:Nat→Value→World→Prop} {R:World→World→Prop} {a0:Act} {w0:World} {i:Nat} {a:Act} {w:World} (h:QCtx l Ss R a0 w0 i a w) (t:Nat) (h1:l.any (fun o=>o.dst == some t)=false:=by exact rfl):a.eval (.tmp t)=a0.eval (.tmp t):=h.frame t h1
structure RCtxR (l:List Oper) (Ss:Nat→Value→World→Prop) (R:World→World→Prop) (a0:Act) (w0:World) (o:Oper) (a:Act) (w:World):Prop where
 rel:R w0 w
 frame:∀ t,l.any (fun o=>o.dst == some t)=false→a.eval (.tmp t)=a0.eval (.tmp t)
 dep:∀ j d,o.after.toList.any (fun e=>Region.binds .any e&&e.on == j)=true→(l[j]?).bind (·.dst)=some d→Ss j (a.eval (.tmp d)) w
def OblR (P:Program) (l hd:List Oper) (R:World→World→Prop) (L:List (Value→World→Prop)) (a0:Act) (w0:World):List Oper→Nat→Prop
 | [],_=>True
 | o::r,i=>(∀ a w,RCtxR hd (lookS L) R a0 w0 o a w→QStep P l.toArray R o a w (lookS L i))∧OblR P l hd R L a0 w0 r (i+1)
theorem OblR.get {P:Program} {l hd:List Oper} {R:World→World→Prop} {L:List (Value→World→Prop)} {a0:Act} {w0:World}:∀ (r:List Oper) (k:Nat),OblR P l hd R L a0 w0 r k→∀ i o,r[i]?=some o →
  ∀ a w,RCtxR hd (lookS L) R a0 w0 o a w→QStep P l.toArray R o a w (lookS L (k+i))
 | [],_,_,_,_,h=>by simp at h
 | o::r,k,h,0,o',h'=>by simp at h';subst h';exact h.1
 | o::r,k,h,i+1,o',h'=>by
  have:=OblR.get r (k+1) h.2 i o' (by simpa using h')
  rwa [show k+1+i=k+(i+1) from by omega]at this
theorem RCtxR.d {l:List Oper} {Ss:Nat→Value→World→Prop} {R:World→World→Prop} {a0:Act} {w0:World} {o:Oper} {a:Act} {w:World} (h:RCtxR l Ss R a0 w0 o a w) (j d:Nat) (h1:o.after.toList.any (fun e=>Region.binds .any e&&e.on == j)=true:=by exact rfl) (h2:(l[j]?).bind (·.dst)=some d:=by exact rfl):Ss j (a.eval (.tmp d)) w:=h.dep j d h1 h2
theorem RCtxR.f {l:List Oper} {Ss:Nat→Value→World→Prop} {R:World→World→Prop} {a0:Act} {w0:World} {o:Oper} {a:Act} {w:World} (h:RCtxR l Ss R a0 w0 o a w) (t:Nat) (h1:l.any (fun o=>o.dst == some t)=false:=by exact rfl):a.eval (.tmp t)=a0.eval (.tmp t):=h.frame t h1
def dstsN:List Oper→Bool
 | []=>true
 | o::r=>(o.dst.isNone || r.all (fun o'=>o'.dst != o.dst))&&dstsN r
def specN (ops:Array Oper) (n:Nat):Bool :=
 decide (n≤ops.size)&&dstsN (ops.toList.take n) &&
 ((ops.toList.take n).zipIdx.all fun (o,i)=>o.after.all fun e=>!Region.binds .any e || decide (e.on<i)) &&
 (decide (n=ops.size) || (Region.sinkB .any ops n&&Region.chainB .any ops n)) &&
 Region.seqB .any ops (ops.size - n) n (headListed n (ops.size - n))
def ownT (o:Oper):Option Tmp:=match o.op with|.insert _ (.tmp d) _ _=>some d|.store _ (.tmp d) _=>some d|_=>none
def ghost (o:Oper) (a:Act):Value:=match ownT o with|some d=>a.eval (.tmp d)|none=>undef
def Linked (l:List Oper) (listed:Nat→Bool) (vals:Nat→Value):Prop :=
 ∀ i o d j oj,l[i]?=some o→o.dst=none→ownT o=some d→l[j]?=some oj→oj.dst=some d→o.after.toList.any (fun e=>Region.binds .any e&&e.on == j)=true→listed i=true→vals i=vals j
theorem fillN_set:∀ (l:List Oper) (k i:Nat) (listed:Array Bool) (vals:Nat→Value) (a:Act) (o:Oper) (d:Tmp) (v:Value),dstsN l=true→l[i]?=some o→o.dst=some d →
  listed.getD (k+i) true=false →
  fill l k (listed.setIfInBounds (k+i) true) (fun j=>if j=k+i then v else vals j) a=(fill l k listed vals a).put (some d) v
 | [],_,_,_,_,_,_,_,_,_,h,_,_=>by simp at h
 | o::r,k,0,listed,vals,a,o',d,v,hd,h,hod,hl=>by
  simp at h;subst h;simp only[dstsN,Bool.and_eq_true,Bool.or_eq_true]at hd;obtain⟨hall,hr⟩:=hd;have hne:∀ o' ∈ r,o'.dst≠some d:=by
   intro o' ho' e;rcases hall with h0|hall
   ·rw[hod]at h0;simp at h0
   ·have:=List.all_eq_true.1 hall o' ho';rw[e,hod]at this;simp at this
  have h1:(listed.setIfInBounds k true).getD k false=true:=by
   have hk:k<listed.size:=by
    rcases Nat.lt_or_ge k listed.size with h'|h'
    ·exact h'
    ·simp[Array.getElem?_eq_none h']at hl
   simp[hk]
  have h2:listed.getD k false=false:=getD_both (by simpa using hl)
  simp only[Nat.add_zero,fill,h1,h2,if_true,Bool.false_eq_true,if_false,hod];rw[fill_put r (k+1) _ _ a d v hne]
  congr 1
  refine fill_congr r (k+1) _ _ _ _ a (fun i hi=>⟨?_,by rw[if_neg (by omega)]⟩)
  exact getD_set_ne false (by omega)
 | o::r,k,i+1,listed,vals,a,o',d,v,hd,h,hod,hl=>by
  simp only[dstsN,Bool.and_eq_true]at hd;simp only[List.getElem?_cons_succ]at h;have ih:=fillN_set r (k+1) i listed vals (if listed.getD k false then a.put o.dst (vals k) else a) o' d v hd.2 h hod (by rwa [show k+1+i=k+(i+1) from by omega])
  simp only[fill];rw[show k+(i+1)=k+1+i from by omega,getD_set_ne false (by omega),if_neg (by omega:¬ k=k+1+i)]
  exact ih
theorem fillN_none:∀ (l:List Oper) (k i:Nat) (listed:Array Bool) (vals:Nat→Value) (a:Act) (o:Oper) (v:Value),l[i]?=some o→o.dst=none →
  listed.getD (k+i) true=false →
  fill l k (listed.setIfInBounds (k+i) true) (fun j=>if j=k+i then v else vals j) a=fill l k listed vals a
 | [],_,_,_,_,_,_,_,h,_,_=>by simp at h
 | o::r,k,0,listed,vals,a,o',v,h,hod,hl=>by
  simp at h;subst h;have h2:listed.getD k false=false:=getD_both (by simpa using hl)
  simp only[Nat.add_zero,fill,h2,hod,Bool.false_eq_true,if_false];have hp:∀ (b:Bool) (u:Value),(if b=true then a.put none u else a)=a:=by intro b u;cases b<;>rfl
  rw[hp];refine fill_congr r (k+1) _ _ _ _ a (fun i hi=>⟨?_,by rw[if_neg (by omega)]⟩)
  exact getD_set_ne false (by omega)
 | o::r,k,i+1,listed,vals,a,o',v,h,hod,hl=>by
  simp only[List.getElem?_cons_succ]at h;have ih:=fillN_none r (k+1) i listed vals (if listed.getD k false then a.put o.dst (vals k) else a) o' v h hod (by rwa [show k+1+i=k+(i+1) from by omega])
  simp only[fill];rw[show k+(i+1)=k+1+i from by omega,getD_set_ne false (by omega),if_neg (by omega:¬ k=k+1+i)]
  exact ih
theorem fillN_at:∀ (l:List Oper) (k:Nat) (listed:Array Bool) (vals:Nat→Value) (a:Act) (j:Nat) (o:Oper) (d:Tmp),dstsN l=true→l[j]?=some o→o.dst=some d→d<a.tmps.size →
  listed.getD (k+j) false=true→(fill l k listed vals a).eval (.tmp d)=vals (k+j)
 | [],_,_,_,_,_,_,_,_,h,_,_,_=>by simp at h
 | o::r,k,listed,vals,a,0,o',d,hd,h,hod,hsz,hl=>by
  simp at h;subst h;simp only[dstsN,Bool.and_eq_true,Bool.or_eq_true]at hd;obtain⟨hall,hr⟩:=hd;simp only[Nat.add_zero]at hl ⊢;simp only[fill,hl,if_true,hod]
  rw[fill_frame r (k+1) listed vals _ d (by
   rw[Bool.eq_false_iff];intro hc;obtain⟨o',ho',e⟩:=List.any_eq_true.1 hc;rcases hall with h0|hall
   ·rw[hod]at h0;simp at h0
   ·have:=List.all_eq_true.1 hall o' ho';rw[hod]at this
    simp at e this;exact this e),put_tmps_same a d _ hsz]
 | o::r,k,listed,vals,a,j+1,o',d,hd,h,hod,hsz,hl=>by
  simp only[dstsN,Bool.and_eq_true]at hd;simp only[fill];rw[show k+(j+1)=k+1+j from by omega]at hl ⊢
  exact fillN_at r (k+1) listed vals _ j o' d hd.2 (by simpa using h) hod (by split<;>simp[put_size,hsz]) hl
theorem wp_region_specMD {P:Program} {id:Nat} {Q:Exit→Act→World→Prop} {a0:Act} {w0:World} {l:List Oper} (R:World→World→Prop) (htrans:∀ u v w,R u v→R v w→R u w) (hrefl:∀ w,R w w) (hdrew:∀ w:World,R w {w with drawn:=w.drawn+1}) (n:Nat) (Ss:Nat→Value→World→Prop)
  (hm:P.follows .mixedOrders=true) (hB:specN l.toArray n=true) (hsz:(l.take n).all (fun o=>match o.dst with|some d=>decide (d<a0.tmps.size)|none=>true)=true)
  (hst:∀ i,i<n→∀ v w w',Ss i v w→R w w'→Ss i v w')
  (hstep:∀ i o,i<n→l[i]?=some o→∀ a w,RCtxR (l.take n) Ss R a0 w0 o a w→QStep P l.toArray R o a w (fun v w'=>Ss i v w'∧(o.dst=none→v=ghost o a)))
  (hend:∀ vals w,R w0 w→(∀ i,i<n→Ss i (vals i) w)→Linked (l.take n) (fun _=>true) vals→wpList P l.toArray Q (l.drop n) (fillAll (l.take n) 0 vals a0) w) :
  (Code.region id l.toArray true).wp P Q a0 w0:=by
 simp only[specN,Bool.and_eq_true,decide_eq_true_eq]at hB;obtain⟨⟨⟨⟨hn,hd⟩,haf⟩,hsink⟩,hseq⟩:=hB;have hn':n≤l.length:=by simpa using hn
 have hd':dstsN (l.take n)=true:=hd;have htl:(l.take n).length=n:=by simp;omega
 have key:∀ (rem:List Nat) (f:Nat),rem.length=f→rem.Nodup→∀ (listed:Array Bool) (a:Act) (w:World),HeadInv .any l.toArray n listed →
   (∀ i,i ∈ rem↔(i<n∧listed.getD i true=false))→(∃ vals,a=fill (l.take n) 0 listed vals a0∧(∀ i,i<n→listed.getD i false=true→Ss i (vals i) w)∧Linked (l.take n) (fun i=>listed.getD i false) vals)→R w0 w →
   wpAny P .any l.toArray Q (f+(l.toArray.size - n)) listed a w:=by
  intro rem f
  induction f generalizing rem with
  | zero =>
   intro hl _ listed a w inv hrem ⟨vals,ha,hv,hlk⟩ hb;have hr:rem=[]:=List.length_eq_zero_iff.1 hl;subst hr;have hall:∀ i,i<n→listed.getD i false=true:=by
    intro i hi;have h1:¬ listed.getD i true=false:=fun h=>by have:=(hrem i).2 ⟨hi,h⟩;simp at this
    have h2:i<listed.size:=by rw[inv.size];omega
    rw[Array.getD_eq_getD_getElem?,Array.getElem?_eq_getElem h2]at h1 ⊢
    simpa using h1
   have hlist:=listed_head hn inv hall;have hw:=hend vals w hb (fun i hi=>hv i hi (hall i hi)) (fun i oi d j oj h1 h2 h3 h4 h5 h6 _=>hlk i oi d j oj h1 h2 h3 h4 h5 h6 (hall i (by have:=(List.getElem?_eq_some_iff.1 h1).1;omega)))
   rw[← fill_all (l.take n) 0 listed vals a0 (fun i hi=>by rw[Nat.zero_add];exact hall i (by omega)),← ha]at hw
   rw[Nat.zero_add];have hdl:(l.drop n).length=l.toArray.size - n:=by simp
   rw[← hdl];refine wpAny_of_seq (l.drop n) n listed a w (fun j=>by simp) ?_ hw
   rw[hdl,hlist];exact hseq
  | succ f ih =>
   intro hl hnd listed a w inv hrem ⟨vals,ha,hv,hlk⟩ hb;have hex:∃ i,i ∈ rem∧∀ j,j ∈ rem→i≤j:=by
    have:∀ (r:List Nat),r≠[]→∃ i,i ∈ r∧∀ j,j ∈ r→i≤j:=by
     intro r
     induction r with
     | nil=>intro h;exact(h rfl).elim
     | cons x r ihr =>
      intro _
      by_cases hr:r=[]
      ·subst hr;exact⟨x,by simp,by simp⟩
      ·obtain⟨i,hi,hmin⟩:=ihr hr
       by_cases hx:x≤i
       ·exact⟨x,by simp,fun j hj=>by rcases List.mem_cons.1 hj with rfl|hj;exact Nat.le_refl _;exact Nat.le_trans hx (hmin j hj)⟩
       ·exact⟨i,by simp[hi],fun j hj=>by rcases List.mem_cons.1 hj with rfl|hj;omega;exact hmin j hj⟩
    exact this rem (by intro h;subst h;simp at hl)
   have hready:Region.ready .any l.toArray listed≠[]:=by
    obtain⟨i,hi,hmin⟩:=hex;obtain⟨hin,hil⟩:=(hrem i).1 hi;have hlt:i<l.length:=by omega
    have hmem:i ∈ Region.ready .any l.toArray listed:=by
     refine mem_ready.2 ⟨hil,l[i],by simp[hlt],fun e he hbd=>?_⟩
     have h1:=List.all_eq_true.1 haf (l[i],i) (by
      rw[List.mem_zipIdx_iff_getElem?];simp[hin,hlt])
     have h2:=Array.all_eq_true'.1 h1 e he;simp[hbd]at h2;have hj:¬ e.on ∈ rem:=fun h=>by have:=hmin _ h;omega
     have h3:¬ listed.getD e.on true=false:=fun h=>hj ((hrem _).2 ⟨by omega,h⟩)
     have h4:e.on<listed.size:=by rw[inv.size];simp;omega
     rw[Array.getD_eq_getD_getElem?,Array.getElem?_eq_getElem h4]at h3 ⊢
     simpa using h3
    intro h;rw[h]at hmem;simp at hmem
   rw[show f+1+(l.toArray.size - n)=(f+(l.toArray.size - n))+1 from by omega]
   refine⟨fun h=>(hready h).elim,fun i hi=>?_⟩
   obtain⟨hil,o,ho,haft⟩:=mem_ready.1 hi;have hin:i<n:=by
    rcases Nat.lt_or_ge i n with h|h
    ·exact h
    ·exfalso
     obtain⟨i',hi',_⟩:=hex;obtain⟨hin',hil'⟩:=(hrem i').1 hi';have hisz:i<l.toArray.size:=(Array.getElem?_eq_some_iff.1 ho).1;simp only[Bool.or_eq_true,decide_eq_true_eq,Bool.and_eq_true]at hsink;rcases hsink with h0|⟨hs,hc⟩
     ·omega
     ·exact tail_waits hs hc (by omega) inv (n - i') i' rfl hin' hil' i h hi
   have ho':l[i]?=some o:=by simpa using ho
   have hot:(l.take n)[i]?=some o:=by rw[List.getElem?_take_of_lt hin];exact ho'
   have hbd:∀ (j:Nat) (oj:Oper) (dj:Tmp),(l.take n)[j]?=some oj→oj.dst=some dj→dj<a0.tmps.size:=by
    intro j oj dj hj hdj;have:=List.all_eq_true.1 hsz oj (List.mem_of_getElem? hj)
    simpa [hdj] using this
   have hctx:RCtxR (l.take n) Ss R a0 w0 o a w:=by
    refine⟨hb,fun t ht=>by rw[ha];exact fill_frame _ _ _ _ _ t ht,fun j dj hj hdj=>?_⟩
    obtain⟨e,he,hbe⟩:=List.any_eq_true.1 hj;simp only[Bool.and_eq_true,beq_iff_eq]at hbe;have hlj:=haft e (Array.mem_toList_iff.1 he) hbe.1;rw[hbe.2]at hlj;obtain⟨oj,hoj,hdj'⟩:=Option.bind_eq_some_iff.1 hdj;have hjn:j<n:=by have:=(List.getElem?_eq_some_iff.1 hoj).1;omega
    rw[ha,fillN_at _ 0 listed vals a0 j oj dj hd' hoj hdj' (hbd j oj dj hoj hdj') (by rw[Nat.zero_add];exact hlj),Nat.zero_add]
    exact hv j hjn hlj
   have hstep':=hstep i o hin ho' a w hctx;have hclosed:∀ k ok,l[k]?=some ok→listed.getD k false=true→∀ j,ok.after.toList.any (fun e=>Region.binds .any e&&e.on == j)=true→listed.getD j false=true:=by
    intro k ok hk hlk' j hj;obtain⟨e,he,hbe⟩:=List.any_eq_true.1 hj;simp only[Bool.and_eq_true,beq_iff_eq]at hbe;have:=inv.closed k ok (by simpa using hk) hlk' e (Array.mem_toList_iff.1 he) hbe.1
    rwa [hbe.2]at this
   have hownd:∀ j,o.after.toList.any (fun e=>Region.binds .any e&&e.on == j)=true→listed.getD j false=true:=by
    intro j hj;obtain⟨e,he,hbe⟩:=List.any_eq_true.1 hj;simp only[Bool.and_eq_true,beq_iff_eq]at hbe;have:=haft e (Array.mem_toList_iff.1 he) hbe.1
    rwa [hbe.2]at this
   have hnl:∀ j,listed.getD j false=true→j≠i:=by
    intro j hj e;subst e;rw[getD_both hil]at hj;cases hj
   have hnext:∀ v w',R w w'→Ss i v w'→(o.dst=none→v=ghost o a)→wpAny P .any l.toArray Q (f+(l.toArray.size - n)) (listed.setIfInBounds i true) (a.put o.dst v) w':=by
    intro v w' hbw hsv hgh;have hmemi:i ∈ rem:=(hrem i).2 ⟨hin,hil⟩;refine ih (rem.erase i) (by rw[List.length_erase_of_mem hmemi,hl];rfl) (hnd.erase i) _ _ w' (inv.set hi hin) (fun j=>?_) ⟨fun j=>if j=i then v else vals j,?_,fun j hj hlj=>?_,?_⟩ (htrans _ _ _ hb hbw)
    ·rw[hnd.mem_erase_iff,hrem j]
     by_cases hji:j=i
     ·subst hji;have hjs:j<listed.size:=by rw[inv.size];simp;omega
      simp[hjs]
     ·rw[getD_set_ne true (fun e=>hji e.symm)]
      simp[hji]
    ·cases hod:o.dst with
     | some d =>
      have:=fillN_set (l.take n) 0 i listed vals a0 o d v hd' hot hod (by rw[Nat.zero_add];exact hil)
      rw[Nat.zero_add]at this;rw[this,← ha]
     | none =>
      have:=fillN_none (l.take n) 0 i listed vals a0 o v hot hod (by rw[Nat.zero_add];exact hil)
      rw[Nat.zero_add]at this;rw[this,← ha];rfl
    ·by_cases hji:j=i
     ·subst hji;simpa using hsv
     ·show Ss j (if j=i then v else vals j) w'
      rw[if_neg hji];rw[getD_set_ne false (fun e=>hji e.symm)]at hlj
      exact hst j hj _ _ _ (hv j hj hlj) hbw
    ·intro k ok d j oj h1 h2 h3 h4 h5 h6 h7
     show (if k=i then v else vals k)=(if j=i then v else vals j)
     by_cases hki:k=i
     ·subst hki;rw[hot]at h1;cases h1
      have hjl:=hownd j h6;rw[if_pos rfl,if_neg (hnl j hjl),hgh h2];unfold ghost;rw[h3]
      show a.eval (.tmp d)=vals j
      rw[ha,fillN_at _ 0 listed vals a0 j oj d hd' h4 h5 (hbd j oj d h4 h5) (by rw[Nat.zero_add];exact hjl),Nat.zero_add]
     ·replace h7:(listed.setIfInBounds i true).getD k false=true:=h7;rw[getD_set_ne false (fun e=>hki e.symm)]at h7
      have hkn:k<n:=by have:=(List.getElem?_eq_some_iff.1 h1).1;omega
      have hjl:=hclosed k ok (by rw[← h1,List.getElem?_take_of_lt hkn]) h7 j h6
      rw[if_neg hki,if_neg (hnl j hjl)];exact hlk k ok d j oj h1 h2 h3 h4 h5 h6 h7
   unfold wpOp;simp only[ho];unfold QStep at hstep';split
   ·rename_i hw;rw[if_pos hw]at hstep';refine .inl (wpQ_mono (Oper.wp_mono (fun a' w' ⟨v,e,hbw,hsv,hgh⟩=>?_) hstep'))
    subst e;exact hnext v w' hbw hsv hgh
   ·rename_i hw;rw[if_neg hw]at hstep';exact hnext undef w (hrefl w) hstep'.1 hstep'.2
 refine wp_region_any hm ?_
 have h0:=key (List.range n) n (by simp) List.nodup_range (Array.replicate l.toArray.size false) a0 {w0 with drawn:=w0.drawn+1}
  ⟨by simp,fun j oj _ hl=>(by rw[getD_replicate_false]at hl;cases hl),fun t _ ht=>getD_in (by simpa using ht) (getD_replicate_false _ _)⟩
  (fun i=>by
   rw[List.mem_range];constructor
   ·intro h;exact⟨h,getD_in (by simp;omega) (getD_replicate_false _ _)⟩
   ·intro h;exact h.1)
  ⟨fun _=>undef,(fill_none _ _ _ _ _ (fun i=>getD_replicate_false _ _)).symm,fun i _ h=>(by rw[getD_replicate_false]at h;cases h),fun _ _ _ _ _ _ _ _ _ _ _ _=>rfl⟩
  (hdrew w0)
 rw[show n+(l.toArray.size - n)=l.toArray.size from by omega]at h0
 exact h0
def OblM (P:Program) (l hd:List Oper) (R:World→World→Prop) (L:List (Value→World→Prop)) (a0:Act) (w0:World):List Oper→Nat→Prop
 | [],_=>True
 | o::r,i=>(∀ a w,RCtxR hd (lookS L) R a0 w0 o a w→QStep P l.toArray R o a w (fun v w'=>lookS L i v w'∧(o.dst=none→v=ghost o a)))∧OblM P l hd R L a0 w0 r (i+1)
theorem OblM.get {P:Program} {l hd:List Oper} {R:World→World→Prop} {L:List (Value→World→Prop)} {a0:Act} {w0:World}:∀ (r:List Oper) (k:Nat),OblM P l hd R L a0 w0 r k→∀ i o,r[i]?=some o →
  ∀ a w,RCtxR hd (lookS L) R a0 w0 o a w→QStep P l.toArray R o a w (fun v w'=>lookS L (k+i) v w'∧(o.dst=none→v=ghost o a))
 | [],_,_,_,_,h=>by simp at h
 | o::r,k,h,0,o',h'=>by simp at h';subst h';exact h.1
 | o::r,k,h,i+1,o',h'=>by
  have:=OblM.get r (k+1) h.2 i o' (by simpa using h')
  rwa [show k+1+i=k+(i+1) from by omega]at this
theorem wp_region_specM {P:Program} {id:Nat} {Q:Exit→Act→World→Prop} {a0:Act} {w0:World} {l:List Oper} (R:World→World→Prop) (hrefl:∀ w,R w w) (htrans:∀ u v w,R u v→R v w→R u w) (hdrew:∀ w:World,R w {w with drawn:=w.drawn+1}) (n:Nat) (L:List (Value→World→Prop)) (hst:AllStableR R L)
  (hm:P.follows .mixedOrders=true) (hB:specN l.toArray n=true) (hsz:(l.take n).all (fun o=>match o.dst with|some d=>decide (d<a0.tmps.size)|none=>true)=true)
  (hstep:OblM P l (l.take n) R L a0 w0 (l.take n) 0)
  (hend:∀ vals w,R w0 w→(∀ i,i<n→lookS L i (vals i) w)→Linked (l.take n) (fun _=>true) vals→wpList P l.toArray Q (l.drop n) (fillAll (l.take n) 0 vals a0) w) :
  (Code.region id l.toArray true).wp P Q a0 w0 :=
 wp_region_specMD R htrans hrefl hdrew n (lookS L) hm hB hsz (fun i _ v w w' h hb=>lookS_stableR L i hst v w w' h hb) (fun i o hi ho a w hc=>by
   have:=OblM.get (l.take n) 0 hstep i o (by rw[List.getElem?_take_of_lt hi];exact ho) a w hc
   rwa [Nat.zero_add]at this) hend
end
section
open Go.RowKit Go.MapKept
def Sub (d:TypeDesc) (F:Value→Option Value) (es:Array MapEntry):Prop:=∀ e ∈ es.toList,IsKey d e.key∧F e.key=some e.val
def HasK (es:Array MapEntry) (k:Value):Prop:=∃ e ∈ es.toList,e.key=k
theorem Sub.nil (d:TypeDesc) (F:Value→Option Value):Sub d F #[]:=fun e he=>by simp at he
section
variable {P:Program} {w:World} {T kt et:TypeId} {d:TypeDesc} {F:Value→Option Value} {es:Array MapEntry} {c mb:Nat}
theorem Sub.push (h:Sub d F es) {k v:Value} (hk:IsKey d k) (hF:F k=some v) (b:Nat):Sub d F (es.push {key:=k,val:=v,born:=b}):=by
 intro e he;simp at he;rcases he with he|rfl
 ·exact h e (by simpa using he)
 ·exact⟨hk,hF⟩
theorem Sub.modify (h:Sub d F es) {k v:Value} (hk:IsKey d k) (hF:F k=some v) (j:Nat):Sub d F (es.modify j fun e=>{e with key:=k,val:=v}):=by
 intro e he;rw[Array.mem_toList_iff,Array.mem_iff_getElem?]at he;obtain⟨i,hi⟩:=he;rw[Array.getElem?_modify]at hi;split at hi
 ·cases hh:es[i]? with
  | none=>rw[hh]at hi;cases hi
  | some x=>rw[hh]at hi;cases hi;exact⟨hk,hF⟩
 ·exact h e (by rw[Array.mem_toList_iff];exact Array.mem_of_getElem? hi)
theorem HasK.push {k k' v:Value} {b:Nat} (h:HasK es k'):HasK (es.push {key:=k,val:=v,born:=b}) k':=by
 obtain⟨e,he,hk⟩:=h;exact⟨e,(by simp;exact .inl (by simpa using he)),hk⟩
theorem HasK.modify {k k' v:Value} {j:Nat} {e0:MapEntry} (hj:es[j]?=some e0) (hk0:e0.key=k) (h:HasK es k'):HasK (es.modify j fun e=>{e with key:=k,val:=v}) k':=by
 obtain⟨e,he,hk⟩:=h;rw[Array.mem_toList_iff,Array.mem_iff_getElem?]at he;obtain⟨i,hi⟩:=he
 by_cases hij:j=i
 ·subst hij;have he0:e=e0:=by rw[hi]at hj;injection hj
  refine⟨{e with key:=k,val:=v},?_,?_⟩
  ·rw[Array.mem_toList_iff];exact Array.mem_of_getElem? (i:=j) (by rw[Array.getElem?_modify,if_pos rfl,hi];rfl)
  ·show k=k'
   rw[← hk0,← he0,hk]
 ·refine⟨e,?_,hk⟩;rw[Array.mem_toList_iff];exact Array.mem_of_getElem? (i:=i) (by rw[Array.getElem?_modify,if_neg hij];exact hi)
end
structure RelM (d:TypeDesc) (F:Value→Option Value) (n0:Nat) (w w':World):Prop where
 os:w'.os=w.os
 tape:w'.tape=w.tape
 output:w'.output=w.output
 size:w.heap.size≤w'.heap.size
 block:∀ k,k<w.heap.size→w'.heap[k]?=w.heap[k]?∨(n0≤k∧∃ es c es' c',w.heap[k]?=some (.map es c)∧w'.heap[k]?=some (.map es' c')∧(Sub d F es→Sub d F es'∧∀ x,HasK es x→HasK es' x))
section
variable {d:TypeDesc} {F:Value→Option Value} {n0:Nat}
theorem RelM.trans (u v w:World) (h:RelM d F n0 u v) (k:RelM d F n0 v w):RelM d F n0 u w:=by
 refine⟨k.os.trans h.os,k.tape.trans h.tape,k.output.trans h.output,Nat.le_trans h.size k.size,fun i hi=>?_⟩
 rcases h.block i hi with e1|⟨hn,es,c,es',c',e1,e2,e3⟩
 ·rcases k.block i (Nat.lt_of_lt_of_le hi h.size) with e2|⟨hn,es,c,es',c',f1,f2,f3⟩
  ·exact .inl (e2.trans e1)
  ·exact .inr ⟨hn,es,c,es',c',e1 ▸ f1,f2,f3⟩
 ·rcases k.block i (Nat.lt_of_lt_of_le hi h.size) with f1|⟨_,fs,x,fs',x',f1,f2,f3⟩
  ·exact .inr ⟨hn,es,c,es',c',e1,f1.trans e2,e3⟩
  ·rw[e2]at f1;cases f1
   exact .inr ⟨hn,es,c,fs',x',e1,f2,fun hs=>⟨(f3 (e3 hs).1).1,fun y hy=>(f3 (e3 hs).1).2 y ((e3 hs).2 y hy)⟩⟩
theorem RelM.of_below {w w':World} (h:Below w.heap.size w w'):RelM d F n0 w w':=⟨h.os,h.tape,h.output,h.size,fun k hk=>.inl (h.block k hk)⟩
theorem RelM.cells {w w':World} (h:RelM d F n0 w w') {b:Nat} {cs:Array Value} {T:TypeId} {f:Nat × Nat} (hb:w.heap[b]?=some (.cells cs T f)):w'.heap[b]?=some (.cells cs T f):=by
 rcases h.block b (Array.getElem?_eq_some_iff.1 hb).1 with e|⟨_,es,c,es',c',e,_⟩
 ·exact e.trans hb
 ·rw[hb]at e;cases e
theorem RelM.cell {w w':World} (h:RelM d F n0 w w') {a:Addr} {v:Value} (hb:w.cell? a=some v):w'.cell? a=some v:=by
 rcases h.block a.block (by
  rcases Nat.lt_or_ge a.block w.heap.size with h1|h1
  ·exact h1
  ·unfold World.cell? at hb;simp[Array.getElem?_eq_none h1]at hb) with e|⟨_,es,c,es',c',e,_⟩
 ·unfold World.cell? at hb ⊢;rw[e];exact hb
 ·unfold World.cell? at hb;simp[e]at hb
section
variable {P:Program} {ops:Array Oper} {o:Oper} {a:Act} {w:World} {R:World→World→Prop} {S:Value→World→Prop}
theorem rm_of {t:Tmp} (hd:o.dst=some t) (h:QStep P ops R o a w S):QStep P ops R o a w (fun v w'=>S v w'∧(o.dst=none→v=ghost o a)):=by
 have hn:∀ v:Value,o.dst=none→v=ghost o a:=fun v e=>by rw[hd]at e;cases e
 unfold QStep at h ⊢;split at h
 ·rename_i hw;rw[if_pos hw];exact Oper.wp_mono (fun a' w' ⟨v,e,h1,h2⟩=>⟨v,e,h1,h2,hn v⟩) h
 ·rename_i hw;rw[if_neg hw];exact⟨h,hn _⟩
end
end
end
section
open Go.RowKit
structure RelS (b0:Nat) (C:Array Value) (T:TypeId) (w w':World):Prop where
 os:w'.os=w.os
 tape:w'.tape=w.tape
 output:w'.output=w.output
 size:w.heap.size≤w'.heap.size
 old:∀ k,k<w.heap.size→k≠b0→w'.heap[k]?=w.heap[k]?
 at0:w'.heap[b0]?=w.heap[b0]?∨w'.heap[b0]?=some (.cells C T (0,0))∨w.heap.size≤b0
section
variable {b0:Nat} {C:Array Value} {T:TypeId}
theorem RelS.refl (w:World):RelS b0 C T w w:=⟨rfl,rfl,rfl,Nat.le_refl _,fun _ _ _=>rfl,.inl rfl⟩
theorem RelS.trans (u v w:World) (h:RelS b0 C T u v) (k:RelS b0 C T v w):RelS b0 C T u w:=by
 refine⟨k.os.trans h.os,k.tape.trans h.tape,k.output.trans h.output,Nat.le_trans h.size k.size,fun i h1 h2=>(k.old i (Nat.lt_of_lt_of_le h1 h.size) h2).trans (h.old i h1 h2),?_⟩
 have:=h.size;rcases k.at0 with e|e|e
 ·rcases h.at0 with f|f|f
  ·exact .inl (e.trans f)
  ·exact .inr (.inl (e.trans f))
  ·exact .inr (.inr f)
 ·exact .inr (.inl e)
 ·exact .inr (.inr (by omega))
theorem RelS.drew (w:World):RelS b0 C T w {w with drawn:=w.drawn+1}:=⟨rfl,rfl,rfl,Nat.le_refl _,fun _ _ _=>rfl,.inl rfl⟩
theorem RelS.of_below {w w':World} (h:Below w.heap.size w w'):RelS b0 C T w w':=⟨h.os,h.tape,h.output,h.size,fun k hk _=>h.block k hk,by
 by_cases hb:b0<w.heap.size
 ·exact .inl (h.block b0 hb)
 ·exact .inr (.inr (by omega))⟩
def LaidS (b0:Nat) (C:Array Value) (T:TypeId) (v:Value) (w:World):Prop:=v=.pointer (some ⟨b0,0,none⟩)∧w.heap[b0]?=some (.cells C T (0,0))
theorem stable_laidS:StableR (RelS b0 C T) (LaidS b0 C T):=fun v w w' ⟨e,h⟩ hr=>⟨e,by
 have hlt:=(Array.getElem?_eq_some_iff.1 h).1;rcases hr.at0 with f|f|f
 ·exact f.trans h
 ·exact f
 ·omega⟩
theorem HoldG.relS {M:Nat→Prop} {w0 w W:World} {l:List Res} (H:HoldG M w0 w l) {i:Nat} {cs:Array Value} (hi:At l i (.blk b0 cs T)) (hr:RelS b0 C T w W):∃ ds,(ds=cs∨ds=C)∧HoldG M w0 W (l.set i (.blk b0 ds T)):=by
 have hb:=H.blk hi;have hlt:=(Array.getElem?_eq_some_iff.1 hb.2).1;have hg:w.grownBy W (some b0):=⟨hr.os,hr.tape,hr.output,hr.size,fun k h1 h2=>hr.old k h1 (fun e=>h2 (by rw[e]))⟩
 rcases hr.at0 with f|f|f
 ·exact⟨cs,.inl rfl,H.upd hi.get hg ⟨hb.1,f.trans hb.2⟩ (fun _ e=>.inl e)⟩
 ·exact⟨C,.inr rfl,H.upd hi.get hg ⟨hb.1,f⟩ (fun _ e=>.inl e)⟩
 ·omega
theorem HoldG.laidS {M:Nat→Prop} {w0 w W:World} {l:List Res} (H:HoldG M w0 w l) {i:Nat} {cs:Array Value} (hi:At l i (.blk b0 cs T)) (hr:RelS b0 C T w W) {v:Value} (h:LaidS b0 C T v W):HoldG M w0 W (l.set i (.blk b0 C T)) :=
 H.upd hi.get ⟨hr.os,hr.tape,hr.output,hr.size,fun k h1 h2=>hr.old k h1 (fun e=>h2 (by rw[e];rfl))⟩ ⟨(H.blk hi).1,h.2⟩ (fun _ e=>.inl e)
theorem rs_laid {P:Program} {ops:Array Oper} {o:Oper} {a:Act} {w:World} {S:TypeId} {m:Tmp} {y:Operand} (hg:Region.wanted o (yielded ops a.tmps)=true) (hop:o.op=.store S (.tmp m) y) (hdst:o.dst=none) (hm:a.eval (.tmp m)=.pointer (some ⟨b0,0,none⟩)) {cs:Array Value} (hb:w.heap[b0]?=some (.cells cs T (0,0))) (hs:cs.size=C.size) (hy:a.eval y=.agg C) (hT:sizeB P S C.size=true) (h1:C.toList.all (·.oneCell')=true) :
  QStep P ops (RelS b0 C T) o a w (fun v w'=>LaidS b0 C T v w'∧(o.dst=none→v=ghost o a)):=by
 have hth:w.there b0 0 C.size:=fun j hj=>by
  rw[cell_of_row w b0 (0+j) cs T (0,0) hb];simp[World.frozen?,hb];omega
 unfold QStep;rw[if_pos hg];unfold Oper.wp;have hr':(execOp a.eval o).run P w=.ok .skip (w.setCells b0 0 C.toList):=by
  unfold execOp;simp only[hop,hm,hy,Instr.storeAt,Instr.sureAddr,Sem.run_bind,Sem.run_pure,Result.andThen_ok,run_storeVar_mid (P:=P) w b0 0 S C hth (by simpa [sizeB] using hT) (by rw[Array.all_toList]at h1;exact h1)]
 rw[hr'];simp only[Oper.upon];have hg2:=setCells_grown C.toList 0 w b0;have hh:=heap_setCells C.toList 0 w b0 cs T _ hb;rw[setSeg_whole (by omega)]at hh
 refine⟨.pointer (some ⟨b0,0,none⟩),(by rw[hdst];rfl),⟨hg2.os,hg2.tape,hg2.output,hg2.size,fun j hj hne=>hg2.block j hj (fun e=>by cases e;exact hne rfl),.inr (.inl hh)⟩,⟨rfl,hh⟩,fun _=>?_⟩
 unfold ghost ownT;rw[hop];exact hm.symm
end
end
section
open Go.RowKit Go.Shelf
attribute [local go_sem] Oper.semAt_some
theorem run_eqSetD (u s:Nat→Nat) (W:World):(Op.equalIn 9999 25 (.agg #[.int .u64 (u 0),.int .u64 (u 1),.int .u64 (u 2),.int .u64 (u 3)]) (.agg #[.int .u64 (s 0),.int .u64 (s 1),.int .u64 (s 2),.int .u64 (s 3)])).run Tryz.prog W=.ok (eqS u s) W:=by
 have hi:(Tryz.prog.info? 23).isSome=true:=by kernel_rfl
 obtain⟨i,hi⟩:=Option.isSome_iff_exists.1 hi;have hu:Tryz.prog.underlying 23=some (.int .u64):=by kernel_rfl
 have hc:Tryz.prog.cellsOf 23=1:=by kernel_rfl
 have hst:∀ (x:Nat→Nat) (k:Nat),k<4→∀ W,(part 23 #[.int .u64 (x 0),.int .u64 (x 1),.int .u64 (x 2),.int .u64 (x 3)] (k * 1)).run Tryz.prog W=.ok (.int .u64 (x k)) W:=by
  intro x k hk W;rw[Nat.mul_one]
  match k,hk with
  | 0,_=>simp[go_sem]
  | 1,_=>simp[go_sem]
  | 2,_=>simp[go_sem]
  | 3,_=>simp[go_sem]
 rw[run_equalIn_array W 9998 (n:=4) _ _ (by kernel_rfl) hi,hc]
 have hl:List.range 4=[0,1,2,3]:=by decide
 have he:∀ (a b:Nat),((a:Int) == (b:Int))=(a == b):=by intro a b;rw[Bool.eq_iff_iff];simp;omega
 rw[hl];unfold eqS;simp only[Op.eqItems,Sem.run_bind];simp only[hst u 0 (by decide),hst s 0 (by decide),Result.andThen_ok,run_equalIn_int _ _ _ _ _ _ _ hu,he]
 cases u 0 == s 0
 ·simp
 simp only[Bool.not_true,Bool.false_eq_true,if_false,Bool.true_and,Sem.run_bind];simp only[hst u 1 (by decide),hst s 1 (by decide),Result.andThen_ok,run_equalIn_int _ _ _ _ _ _ _ hu,he]
 cases u 1 == s 1
 ·simp
 simp only[Bool.not_true,Bool.false_eq_true,if_false,Bool.true_and,Sem.run_bind];simp only[hst u 2 (by decide),hst s 2 (by decide),Result.andThen_ok,run_equalIn_int _ _ _ _ _ _ _ hu,he]
 cases u 2 == s 2
 ·simp
 simp only[Bool.not_true,Bool.false_eq_true,if_false,Bool.true_and,Sem.run_bind];simp only[hst u 3 (by decide),hst s 3 (by decide),Result.andThen_ok,run_equalIn_int _ _ _ _ _ _ _ hu,he]
 cases u 3 == s 3<;>simp
theorem run_neI {o:Oper} {a:Act} {w:World} {x y:Operand} {U:TypeId} {d e:InstD} (hop:o.op=.binOp .neq 50 x y U) (hx:a.eval x=instV d) (hy:a.eval y=instV e):(execOp a.eval o).run Tryz.prog w=.ok (.value (.bool (!(eqI d e)))) w:=by
 have he:=run_eqSetD d.set e.set w;simp only[execOp,hop,hx,hy];unfold instV instC eqI;simp[go_sem,he]
 by_cases h0:d.kind=e.kind
 ·cases h1:eqS d.set e.set
  ·simp[h0]
  ·by_cases h2:d.next=e.next
   ·by_cases h3:d.other=e.other
    ·by_cases h4:d.slot=e.slot
     ·by_cases h5:d.spot=e.spot<;>simp[h0,h2,h3,h4,h5]
     ·simp[h0,h2,h3,h4]
    ·simp[h0,h2,h3]
   ·simp[h0,h2]
 ·simp[h0]
theorem ret_int {z z':Int} (h:z=z'):Ending.returned (.int .i64 z)=Ending.returned (.int .i64 z'):=by rw[h]
theorem max2_i (a b:Int):Builtin.max2 (.int .i64 a) (.int .i64 b)=pure (.int .i64 (max a b)):=by
 show (pure (.int .i64 (if b > a then b else a)):Sem Value)=_
 rw[show (if b > a then b else a)=max a b by omega]
theorem pg_within (v:Int) (n b:Nat) (w0:World) (hn:0<n) (hn2:n≤1000000) (hb:w0.cell? ⟨b,0,none⟩=some (.int .i64 n)):Calls Tryz.prog 94 #[.int .i64 v,.pointer (some ⟨b,0,none⟩)] w0 fun e w'=>e=.returned (.int .i64 (withinI n v))∧Below w0.heap.size w0 w':=by
 have hlt:b<w0.heap.size:=by
  unfold World.cell? at hb
  cases h:w0.heap[b]? with
  | none=>simp[h]at hb
  | some x=>exact(Array.getElem?_eq_some_iff.1 h).1
 have H:=(Hold.start w0).know (·=b) (fun V=>V.cell? ⟨b,0,none⟩=some (.int .i64 n)) (fun _ h=>by omega) (fun i r h=>by simp at h) (fun V hV=>by rw[← hb];simp[World.cell?,hV b rfl])
 simp only[List.nil_append]at H
 go_enter Tryz.func94,Tryz.ntmps94
 go_wp2_with (first|((with_reducible refine gL ?_);refine own_load1K wtd_ _ _ rfl rfl one_int (H.kn (i:=0) .zero) ?_)|fail)
 all_goals (go_ret;exact⟨ret_int (by unfold withinI;omega),H.below⟩)
theorem min2_i (a b:Int):Builtin.min2 (.int .i64 a) (.int .i64 b)=pure (.int .i64 (min a b)):=by
 show (pure (.int .i64 (if b<a then b else a)):Sem Value)=_
 rw[show (if b<a then b else a)=min a b by omega]
theorem run_max2 {P:Program} {ev:Operand→Value} {w:World} {o:Oper} {x y:Operand} {ts:Array TypeId} {i j:Int} (hop:o.op=Op.call {callee:=.builtin .max,args:=#[x,y],argTypes:=ts}) (hx:ev x=.int .i64 i) (hy:ev y=.int .i64 j) :
  (execOp ev o).run P w=.ok (.value (.int .i64 (max i j))) w:=by
 simp[execOp,hop,hx,hy,go_sem,Builtin.max_,max2_i]
theorem run_min2 {P:Program} {ev:Operand→Value} {w:World} {o:Oper} {x y:Operand} {ts:Array TypeId} {i j:Int} (hop:o.op=Op.call {callee:=.builtin .min,args:=#[x,y],argTypes:=ts}) (hx:ev x=.int .i64 i) (hy:ev y=.int .i64 j) :
  (execOp ev o).run P w=.ok (.value (.int .i64 (min i j))) w:=by
 simp[execOp,hop,hx,hy,go_sem,Builtin.min_,min2_i]
theorem rs_callv {P:Program} {ops:Array Oper} {o:Oper} {a:Act} {w:World} {D:Prop} {f:FuncId} {x y:Operand} {ts:Array TypeId} {v c r:Value} (hg:Region.wanted o (yielded ops a.tmps)=true) (hop:o.op=Op.call {callee:=Callee.value x,args:=#[y],argTypes:=ts}) (hf:∀ args w,(callFunc f args).run P w=.ok (.enter f args) w)
  (hx:a.eval x=.func (.func f) #[] #[c]) (hy:a.eval y=v) (hc:Calls P f #[v,c] w fun e w'=>e=.returned r∧Below w.heap.size w w') (hD:¬ D):RStep P ops o a w (fun v' w'=>v'=r∧(D→w.heap.size≤blk v')):=by
 refine rs_call hg (f:=f) (args:=#[v,c]) ?_ (hc.mono fun _ _ ⟨he,hb⟩=>⟨r,he,hb,rfl,fun h=>(hD h).elim⟩)
 simp only[execOp,hop];simp[resolve,hx,hy,Deferred.ofValue,invoke,hf]
theorem instC_set0 (x:InstD) (v:Int):(instC x).setIfInBounds 0 (.int .i64 v)=instC {x with kind:=v}:=rfl
theorem instC_set5 (x:InstD) (v:Int):(instC x).setIfInBounds 5 (.int .i64 v)=instC {x with next:=v}:=rfl
theorem instC_set6 (x:InstD) (v:Int):(instC x).setIfInBounds 6 (.int .i64 v)=instC {x with other:=v}:=rfl
theorem instC_set7 (x:InstD) (v:Int):(instC x).setIfInBounds 7 (.int .i64 v)=instC {x with slot:=v}:=rfl
theorem instC_set8 (x:InstD) (v:Int):(instC x).setIfInBounds 8 (.int .i64 v)=instC {x with spot:=v}:=rfl
theorem instC_setS (x:InstD) (s:Nat→Nat):setSeg (instC x) 1 (setC s).toList=instC {x with set:=s}:=rfl
theorem pg_bare (x:InstD) (n:Nat) (w0:World) (hn:0<n) (hn2:n≤1000000):Calls Tryz.prog 42 #[instV x,.int .i64 n] w0 fun e w'=>e=.returned (.tuple #[instV (bareP n x).1,.bool (bareP n x).2])∧Below w0.heap.size w0 w':=by
 have H:=Hold.start w0
 by_cases k1:x.kind=1
 ·have d1:(x.kind == 1)=true:=by rw[beq_iff_eq];exact k1
  have E:=Lib.hid (show bareP n x=({kind:=x.kind,set:=x.set,next:=withinI n x.next},!eqS x.set emptyS) by unfold bareP;rw[if_pos k1])
  clear k1
  go_enter Tryz.func42,Tryz.ntmps42
  go_upto_region 1 with (first|((first|((with_reducible refine kgA 2 ?_);refine kA 2 H ?_)|((with_reducible refine kgX 2 ?_);(first|refine kS 2 H ?_|refine kB 2 H ?_)));clear H;intro b2 w H;try simp only[nr]at H)|((first|((with_reducible refine kgA 3 ?_);refine kA 3 H ?_)|((with_reducible refine kgX 3 ?_);(first|refine kS 3 H ?_|refine kB 3 H ?_)));clear H;intro b3 w H;try simp only[nr]at H)|((first|((with_reducible refine kgA 4 ?_);refine kA 4 H ?_)|((with_reducible refine kgX 4 ?_);(first|refine kS 4 H ?_|refine kB 4 H ?_)));clear H;intro b4 w H;try simp only[nr]at H)|fail)
  rw[zInst]at H
  try simp only[Value.cells]at H
  go_upto_region 6 with (first|((with_reducible refine gT ?_);refine own_store1 wtd_ _ _ _ rfl rfl evd_ H (i:=2) i_2 rfl (by show 0<9;omega) (by first|(with_reducible exact one_size one_int)|(with_reducible exact one_size one_spot)|(with_reducible exact one_size one_ikind)) ?_;clear H;intro w H;(rw[instC_set0]at H);simp only[List.set_cons_succ,List.set_cons_zero]at H)|((with_reducible refine gL ?_);refine aGi H ?_))
  refine wp_region_spec 7 [fun u _=>u=.pointer (some ⟨b2,1,none⟩),fun u _=>u=setV x.set,fun u _=>u=.func (.func 94) #[] #[.pointer (some ⟨b3,0,none⟩)],fun u _=>u=.pointer (some ⟨b2,5,none⟩),fun u _=>u=.int .i64 (x.next),fun u _=>u=.int .i64 (withinI n (x.next)),fun u _=>u=.pointer (some ⟨b4,1,none⟩)] (fun _=>false) (by kernel_rfl) (by kernel_rfl) (by kernel_rfl) ⟨stable_eq _,stable_eq _,stable_eq _,stable_eq _,stable_eq _,stable_eq _,stable_eq _,trivial⟩ (fun _ _ h=>by cases h) ?ob ?en
  case ob =>
   refine⟨?_,?_,?_,?_,?_,?_,?_,trivial⟩<;>intro A W h
   ·(have e:A.eval (.tmp 2)=.pointer (some ⟨b2,0,none⟩):=h.frame 2 rfl;refine rs_pure rfl ?_ (by decide);simp only[execOp,e];simp[go_sem])
   ·exact rs_pure rfl (run_loadK rfl (h.dep 0 16 rfl rfl) row_Set rfl (fun j hj=>by have h1:=(H.call h.below).cell (i:=0) .zero (1+j);rcases j with _|_|_|_|j<;>first|exact h1|omega)) (by decide)
   ·exact rs_move rfl rfl (h.frame 6 rfl) (by decide)
   ·(have e:A.eval (.tmp 2)=.pointer (some ⟨b2,0,none⟩):=h.frame 2 rfl;refine rs_pure rfl ?_ (by decide);simp only[execOp,e];simp[go_sem])
   ·exact rs_pure rfl (run_load1K rfl (h.dep 3 19 rfl rfl) one_int ((H.call h.below).cell (i:=0) .zero 5)) (by decide)
   ·exact rs_callv rfl rfl (enters_of Tryz.func94 (by kernel_rfl) rfl) (h.dep 2 18 rfl rfl) (h.dep 4 20 rfl rfl) (pg_within _ n b3 W hn hn2 ((H.call h.below).cell (i:=1) i_1 0)) (by decide)
   ·(have e:A.eval (.tmp 4)=.pointer (some ⟨b4,0,none⟩):=h.frame 4 rfl;refine rs_pure rfl ?_ (by decide);simp only[execOp,e];simp[go_sem])
  case en =>
   intro vals W hbw hv _;have v0:vals 0=.pointer (some ⟨b2,1,none⟩):=hv 0 (by omega)
   have v1:vals 1=setV x.set:=hv 1 (by omega)
   have v2:vals 2=.func (.func 94) #[] #[.pointer (some ⟨b3,0,none⟩)]:=hv 2 (by omega)
   have v3:vals 3=.pointer (some ⟨b2,5,none⟩):=hv 3 (by omega)
   have v4:vals 4=.int .i64 (x.next):=hv 4 (by omega)
   have v5:vals 5=.int .i64 (withinI n (x.next)):=hv 5 (by omega)
   have v6:vals 6=.pointer (some ⟨b4,1,none⟩):=hv 6 (by omega)
   simp only[fa,Nat.reduceAdd];rw[v0,v1,v2,v3,v4,v5,v6];clear hv v0 v1 v2 v3 v4 v5 v6;simp only[pl];replace H:=H.call hbw
   go_upto_region 7 with (first|((with_reducible refine gT ?_);refine own_storeN wtd_ _ _ _ rfl rfl (vs:=setC x.set) evd_ H (i:=2) i_2 (row_size row_Set) rfl rfl (by show 1+4≤9;omega) ?_;clear H;intro w H;(rw[instC_setS]at H);simp only[List.set_cons_succ,List.set_cons_zero]at H)|((with_reducible refine gT ?_);refine own_store1 wtd_ _ _ _ rfl rfl evd_ H (i:=2) i_2 rfl (by show 5<9;omega) (by first|(with_reducible exact one_size one_int)|(with_reducible exact one_size one_spot)|(with_reducible exact one_size one_ikind)) ?_;clear H;intro w H;(rw[instC_set5]at H);simp only[List.set_cons_succ,List.set_cons_zero]at H)|fail)
   have hS:∀ W,RelS b4 (instC {kind:=x.kind,set:=x.set,next:=withinI n x.next}) 50 w W→∃ ds,ds.size=9∧Hold w0 W [.blk b2 (instC x) 50,.blk b3 #[.int .i64 n] 3,.blk b4 ds 50]∧ds=instC {kind:=x.kind,set:=x.set,next:=withinI n x.next}:=fun W hr=>by
    obtain⟨ds,hds,H2⟩:=H.relS (i:=2) i_2 hr;exact⟨ds,by rcases hds with rfl|rfl<;>rfl,H2,by rcases hds with rfl|rfl<;>rfl⟩
   refine wp_region_specM (RelS b4 (instC {kind:=x.kind,set:=x.set,next:=withinI n x.next}) 50) RelS.refl RelS.trans RelS.drew 6 [fun u _=>u=instV {kind:=x.kind,set:=x.set,next:=withinI n x.next},fun u _=>u=.pointer (some ⟨b2,1,none⟩),fun u _=>u=setV x.set,fun u _=>u=setV emptyS,fun u _=>u=.bool (!(eqS x.set emptyS)),LaidS b4 (instC {kind:=x.kind,set:=x.set,next:=withinI n x.next}) 50]
    ⟨stableR_eq _,stableR_eq _,stableR_eq _,stableR_eq _,stableR_eq _,stable_laidS,trivial⟩ (by kernel_rfl) (by kernel_rfl) (by kernel_rfl) ?ob ?en
   case ob =>
    refine⟨?_,?_,?_,?_,?_,?_,trivial⟩<;>intro A W h
    ·obtain⟨ds,_,H2,rfl⟩:=hS W h.rel;exact rm_of rfl (rq_pure RelS.refl rfl (run_loadK rfl (h.frame 4 rfl) row_Inst rfl (fun k _=>by rw[Nat.zero_add];exact H2.cell (i:=2) i_2 k)))
    ·(have e:A.eval (.tmp 2)=.pointer (some ⟨b2,0,none⟩):=h.frame 2 rfl;refine rm_of rfl (rq_pure RelS.refl rfl ?_);simp only[execOp,e];simp[go_sem])
    ·obtain⟨ds,_,H2,rfl⟩:=hS W h.rel;exact rm_of rfl (rq_pure RelS.refl rfl (run_loadK rfl (h.dep 1 25 rfl rfl) row_Set rfl (fun j hj=>by have h1:=H2.cell (i:=0) .zero (1+j);rcases j with _|_|_|_|j<;>first|exact h1|omega)))
    ·exact rm_of rfl (rq_pure RelS.refl rfl (run_setE rfl))
    ·exact rm_of rfl (rq_pure RelS.refl rfl (run_sne rfl (h.dep 2 26 rfl rfl) (h.dep 3 27 rfl rfl)))
    ·obtain⟨ds,hsz,H2,_⟩:=hS W h.rel;exact rs_laid rfl rfl rfl (h.frame 4 rfl) (H2.blk (i:=2) i_2).2 hsz (h.dep 0 24 rfl rfl) (row_size (n:=9) row_Inst) rfl
   case en =>
    intro vals W1 hrel hv hlk;have v0:vals 0=instV {kind:=x.kind,set:=x.set,next:=withinI n x.next}:=hv 0 (by omega)
    have v1:vals 1=.pointer (some ⟨b2,1,none⟩):=hv 1 (by omega)
    have v2:vals 2=setV x.set:=hv 2 (by omega)
    have v3:vals 3=setV emptyS:=hv 3 (by omega)
    have v4:vals 4=.bool (!(eqS x.set emptyS)):=hv 4 (by omega)
    have H2:=H.laidS (i:=2) i_2 hrel (hv 5 (by omega))
    simp only[fa,Nat.reduceAdd];rw[v0,v1,v2,v3,v4];clear hv v0 v1 v2 v3 v4 hlk hrel H hS;have H:=H2;clear H2;simp only[List.set_cons_succ,List.set_cons_zero]at H;simp only[pl]
    go_wp2_with (first|fail)
    (refine ret_ct Tryz.results42 rfl (by first|rfl|(simp only[pl];rfl)) H (i:=2) i_2 row_Inst rfl rfl ?_)
    exact⟨by rw[E.out];rfl,H.below⟩
 have d1:(x.kind == 1)=false:=by rw[beq_eq_false_iff_ne];exact k1
 by_cases k2:x.kind=2
 ·have d2:(x.kind == 2)=true:=by rw[beq_iff_eq];exact k2
  have E:=Lib.hid (show bareP n x=({kind:=x.kind,next:=withinI n x.next,other:=withinI n x.other},true) by unfold bareP;rw[if_neg k1,if_pos k2])
  clear k1 k2
  go_enter Tryz.func42,Tryz.ntmps42
  go_upto_region 1 with (first|((first|((with_reducible refine kgA 2 ?_);refine kA 2 H ?_)|((with_reducible refine kgX 2 ?_);(first|refine kS 2 H ?_|refine kB 2 H ?_)));clear H;intro b2 w H;try simp only[nr]at H)|((first|((with_reducible refine kgA 3 ?_);refine kA 3 H ?_)|((with_reducible refine kgX 3 ?_);(first|refine kS 3 H ?_|refine kB 3 H ?_)));clear H;intro b3 w H;try simp only[nr]at H)|((first|((with_reducible refine kgA 4 ?_);refine kA 4 H ?_)|((with_reducible refine kgX 4 ?_);(first|refine kS 4 H ?_|refine kB 4 H ?_)));clear H;intro b4 w H;try simp only[nr]at H)|fail)
  rw[zInst]at H
  try simp only[Value.cells]at H
  go_upto_region 9 with (first|((with_reducible refine gT ?_);refine own_store1 wtd_ _ _ _ rfl rfl evd_ H (i:=2) i_2 rfl (by show 0<9;omega) (by first|(with_reducible exact one_size one_int)|(with_reducible exact one_size one_spot)|(with_reducible exact one_size one_ikind)) ?_;clear H;intro w H;(rw[instC_set0]at H);simp only[List.set_cons_succ,List.set_cons_zero]at H)|((with_reducible refine gL ?_);refine aGi H ?_))
  refine wp_region_spec 9 [fun u _=>u=.func (.func 94) #[] #[.pointer (some ⟨b3,0,none⟩)],fun u _=>u=.pointer (some ⟨b2,5,none⟩),fun u _=>u=.int .i64 (x.next),fun u _=>u=.int .i64 (withinI n (x.next)),fun u _=>u=.func (.func 94) #[] #[.pointer (some ⟨b3,0,none⟩)],fun u _=>u=.pointer (some ⟨b2,6,none⟩),fun u _=>u=.int .i64 (x.other),fun u _=>u=.int .i64 (withinI n (x.other)),fun u _=>u=.pointer (some ⟨b4,5,none⟩)] (fun _=>false) (by kernel_rfl) (by kernel_rfl) (by kernel_rfl) ⟨stable_eq _,stable_eq _,stable_eq _,stable_eq _,stable_eq _,stable_eq _,stable_eq _,stable_eq _,stable_eq _,trivial⟩ (fun _ _ h=>by cases h) ?ob ?en
  case ob =>
   refine⟨?_,?_,?_,?_,?_,?_,?_,?_,?_,trivial⟩<;>intro A W h
   ·exact rs_move rfl rfl (h.frame 6 rfl) (by decide)
   ·(have e:A.eval (.tmp 2)=.pointer (some ⟨b2,0,none⟩):=h.frame 2 rfl;refine rs_pure rfl ?_ (by decide);simp only[execOp,e];simp[go_sem])
   ·exact rs_pure rfl (run_load1K rfl (h.dep 1 32 rfl rfl) one_int ((H.call h.below).cell (i:=0) .zero 5)) (by decide)
   ·exact rs_callv rfl rfl (enters_of Tryz.func94 (by kernel_rfl) rfl) (h.dep 0 31 rfl rfl) (h.dep 2 33 rfl rfl) (pg_within _ n b3 W hn hn2 ((H.call h.below).cell (i:=1) i_1 0)) (by decide)
   ·exact rs_move rfl rfl (h.frame 6 rfl) (by decide)
   ·(have e:A.eval (.tmp 2)=.pointer (some ⟨b2,0,none⟩):=h.frame 2 rfl;refine rs_pure rfl ?_ (by decide);simp only[execOp,e];simp[go_sem])
   ·exact rs_pure rfl (run_load1K rfl (h.dep 5 36 rfl rfl) one_int ((H.call h.below).cell (i:=0) .zero 6)) (by decide)
   ·exact rs_callv rfl rfl (enters_of Tryz.func94 (by kernel_rfl) rfl) (h.dep 4 35 rfl rfl) (h.dep 6 37 rfl rfl) (pg_within _ n b3 W hn hn2 ((H.call h.below).cell (i:=1) i_1 0)) (by decide)
   ·(have e:A.eval (.tmp 4)=.pointer (some ⟨b4,0,none⟩):=h.frame 4 rfl;refine rs_pure rfl ?_ (by decide);simp only[execOp,e];simp[go_sem])
  case en =>
   intro vals W hbw hv _;have v0:vals 0=.func (.func 94) #[] #[.pointer (some ⟨b3,0,none⟩)]:=hv 0 (by omega)
   have v1:vals 1=.pointer (some ⟨b2,5,none⟩):=hv 1 (by omega)
   have v2:vals 2=.int .i64 (x.next):=hv 2 (by omega)
   have v3:vals 3=.int .i64 (withinI n (x.next)):=hv 3 (by omega)
   have v4:vals 4=.func (.func 94) #[] #[.pointer (some ⟨b3,0,none⟩)]:=hv 4 (by omega)
   have v5:vals 5=.pointer (some ⟨b2,6,none⟩):=hv 5 (by omega)
   have v6:vals 6=.int .i64 (x.other):=hv 6 (by omega)
   have v7:vals 7=.int .i64 (withinI n (x.other)):=hv 7 (by omega)
   have v8:vals 8=.pointer (some ⟨b4,5,none⟩):=hv 8 (by omega)
   simp only[fa,Nat.reduceAdd];rw[v0,v1,v2,v3,v4,v5,v6,v7,v8];clear hv v0 v1 v2 v3 v4 v5 v6 v7 v8;simp only[pl];replace H:=H.call hbw
   go_wp2_with (first|((with_reducible refine gT ?_);refine own_store1 wtd_ _ _ _ rfl rfl evd_ H (i:=2) i_2 rfl (by show 5<9;omega) (by first|(with_reducible exact one_size one_int)|(with_reducible exact one_size one_spot)|(with_reducible exact one_size one_ikind)) ?_;clear H;intro w H;(rw[instC_set5]at H);simp only[List.set_cons_succ,List.set_cons_zero]at H)|((with_reducible refine gT ?_);refine own_store1 wtd_ _ _ _ rfl rfl evd_ H (i:=2) i_2 rfl (by show 6<9;omega) (by first|(with_reducible exact one_size one_int)|(with_reducible exact one_size one_spot)|(with_reducible exact one_size one_ikind)) ?_;clear H;intro w H;(rw[instC_set6]at H);simp only[List.set_cons_succ,List.set_cons_zero]at H)|(first|((with_reducible refine gTi ?_);refine aTi H ?_;clear H;intro w H;try simp only[nr]at H)|((with_reducible refine gLi ?_);refine aLi H ?_)))
   (refine ret_ct Tryz.results42 rfl (by first|rfl|(simp only[pl];rfl)) H (i:=2) i_2 row_Inst rfl rfl ?_)
   exact⟨by rw[E.out];rfl,H.below⟩
 have d2:(x.kind == 2)=false:=by rw[beq_eq_false_iff_ne];exact k2
 by_cases k3:x.kind=3
 ·have d3:(x.kind == 3)=true:=by rw[beq_iff_eq];exact k3
  have E:=Lib.hid (show bareP n x=({kind:=x.kind,slot:=min (max x.slot 0) 41,next:=withinI n x.next},true) by unfold bareP;rw[if_neg k1,if_neg k2,if_pos k3])
  clear k1 k2 k3
  go_enter Tryz.func42,Tryz.ntmps42
  go_upto_region 1 with (first|((first|((with_reducible refine kgA 2 ?_);refine kA 2 H ?_)|((with_reducible refine kgX 2 ?_);(first|refine kS 2 H ?_|refine kB 2 H ?_)));clear H;intro b2 w H;try simp only[nr]at H)|((first|((with_reducible refine kgA 3 ?_);refine kA 3 H ?_)|((with_reducible refine kgX 3 ?_);(first|refine kS 3 H ?_|refine kB 3 H ?_)));clear H;intro b3 w H;try simp only[nr]at H)|((first|((with_reducible refine kgA 4 ?_);refine kA 4 H ?_)|((with_reducible refine kgX 4 ?_);(first|refine kS 4 H ?_|refine kB 4 H ?_)));clear H;intro b4 w H;try simp only[nr]at H)|fail)
  rw[zInst]at H
  try simp only[Value.cells]at H
  go_upto_region 11 with (first|((with_reducible refine gT ?_);refine own_store1 wtd_ _ _ _ rfl rfl evd_ H (i:=2) i_2 rfl (by show 0<9;omega) (by first|(with_reducible exact one_size one_int)|(with_reducible exact one_size one_spot)|(with_reducible exact one_size one_ikind)) ?_;clear H;intro w H;(rw[instC_set0]at H);simp only[List.set_cons_succ,List.set_cons_zero]at H)|((with_reducible refine gL ?_);refine aGi H ?_))
  refine wp_region_spec 9 [fun u _=>u=.pointer (some ⟨b2,7,none⟩),fun u _=>u=.int .i64 (x.slot),fun u _=>u=.int .i64 (max (x.slot) 0),fun u _=>u=.int .i64 (min (max x.slot 0) 41),fun u _=>u=.func (.func 94) #[] #[.pointer (some ⟨b3,0,none⟩)],fun u _=>u=.pointer (some ⟨b2,5,none⟩),fun u _=>u=.int .i64 (x.next),fun u _=>u=.int .i64 (withinI n (x.next)),fun u _=>u=.pointer (some ⟨b4,7,none⟩)] (fun _=>false) (by kernel_rfl) (by kernel_rfl) (by kernel_rfl) ⟨stable_eq _,stable_eq _,stable_eq _,stable_eq _,stable_eq _,stable_eq _,stable_eq _,stable_eq _,stable_eq _,trivial⟩ (fun _ _ h=>by cases h) ?ob ?en
  case ob =>
   refine⟨?_,?_,?_,?_,?_,?_,?_,?_,?_,trivial⟩<;>intro A W h
   ·(have e:A.eval (.tmp 2)=.pointer (some ⟨b2,0,none⟩):=h.frame 2 rfl;refine rs_pure rfl ?_ (by decide);simp only[execOp,e];simp[go_sem])
   ·exact rs_pure rfl (run_load1K rfl (h.dep 0 43 rfl rfl) one_int ((H.call h.below).cell (i:=0) .zero 7)) (by decide)
   ·exact rs_pure rfl (run_max2 rfl (h.dep 1 44 rfl rfl) rfl) (by decide)
   ·exact rs_pure rfl (run_min2 rfl (h.dep 2 45 rfl rfl) rfl) (by decide)
   ·exact rs_move rfl rfl (h.frame 6 rfl) (by decide)
   ·(have e:A.eval (.tmp 2)=.pointer (some ⟨b2,0,none⟩):=h.frame 2 rfl;refine rs_pure rfl ?_ (by decide);simp only[execOp,e];simp[go_sem])
   ·exact rs_pure rfl (run_load1K rfl (h.dep 5 48 rfl rfl) one_int ((H.call h.below).cell (i:=0) .zero 5)) (by decide)
   ·exact rs_callv rfl rfl (enters_of Tryz.func94 (by kernel_rfl) rfl) (h.dep 4 47 rfl rfl) (h.dep 6 49 rfl rfl) (pg_within _ n b3 W hn hn2 ((H.call h.below).cell (i:=1) i_1 0)) (by decide)
   ·(have e:A.eval (.tmp 4)=.pointer (some ⟨b4,0,none⟩):=h.frame 4 rfl;refine rs_pure rfl ?_ (by decide);simp only[execOp,e];simp[go_sem])
  case en =>
   intro vals W hbw hv _;have v0:vals 0=.pointer (some ⟨b2,7,none⟩):=hv 0 (by omega)
   have v1:vals 1=.int .i64 (x.slot):=hv 1 (by omega)
   have v2:vals 2=.int .i64 (max (x.slot) 0):=hv 2 (by omega)
   have v3:vals 3=.int .i64 (min (max x.slot 0) 41):=hv 3 (by omega)
   have v4:vals 4=.func (.func 94) #[] #[.pointer (some ⟨b3,0,none⟩)]:=hv 4 (by omega)
   have v5:vals 5=.pointer (some ⟨b2,5,none⟩):=hv 5 (by omega)
   have v6:vals 6=.int .i64 (x.next):=hv 6 (by omega)
   have v7:vals 7=.int .i64 (withinI n (x.next)):=hv 7 (by omega)
   have v8:vals 8=.pointer (some ⟨b4,7,none⟩):=hv 8 (by omega)
   simp only[fa,Nat.reduceAdd];rw[v0,v1,v2,v3,v4,v5,v6,v7,v8];clear hv v0 v1 v2 v3 v4 v5 v6 v7 v8;simp only[pl];replace H:=H.call hbw
   go_wp2_with (first|((with_reducible refine gT ?_);refine own_store1 wtd_ _ _ _ rfl rfl evd_ H (i:=2) i_2 rfl (by show 7<9;omega) (by first|(with_reducible exact one_size one_int)|(with_reducible exact one_size one_spot)|(with_reducible exact one_size one_ikind)) ?_;clear H;intro w H;(rw[instC_set7]at H);simp only[List.set_cons_succ,List.set_cons_zero]at H)|((with_reducible refine gT ?_);refine own_store1 wtd_ _ _ _ rfl rfl evd_ H (i:=2) i_2 rfl (by show 5<9;omega) (by first|(with_reducible exact one_size one_int)|(with_reducible exact one_size one_spot)|(with_reducible exact one_size one_ikind)) ?_;clear H;intro w H;(rw[instC_set5]at H);simp only[List.set_cons_succ,List.set_cons_zero]at H)|(first|((with_reducible refine gTi ?_);refine aTi H ?_;clear H;intro w H;try simp only[nr]at H)|((with_reducible refine gLi ?_);refine aLi H ?_)))
   (refine ret_ct Tryz.results42 rfl (by first|rfl|(simp only[pl];rfl)) H (i:=2) i_2 row_Inst rfl rfl ?_)
   exact⟨by rw[E.out];rfl,H.below⟩
 have d3:(x.kind == 3)=false:=by rw[beq_eq_false_iff_ne];exact k3
 by_cases k4:x.kind=4
 ·have d4:(x.kind == 4)=true:=by rw[beq_iff_eq];exact k4
  have E:=Lib.hid (show bareP n x=({kind:=x.kind,spot:=min (max x.spot 8) 13,next:=withinI n x.next},true) by unfold bareP;rw[if_neg k1,if_neg k2,if_neg k3,if_pos k4])
  clear k1 k2 k3 k4
  go_enter Tryz.func42,Tryz.ntmps42
  go_upto_region 1 with (first|((first|((with_reducible refine kgA 2 ?_);refine kA 2 H ?_)|((with_reducible refine kgX 2 ?_);(first|refine kS 2 H ?_|refine kB 2 H ?_)));clear H;intro b2 w H;try simp only[nr]at H)|((first|((with_reducible refine kgA 3 ?_);refine kA 3 H ?_)|((with_reducible refine kgX 3 ?_);(first|refine kS 3 H ?_|refine kB 3 H ?_)));clear H;intro b3 w H;try simp only[nr]at H)|((first|((with_reducible refine kgA 4 ?_);refine kA 4 H ?_)|((with_reducible refine kgX 4 ?_);(first|refine kS 4 H ?_|refine kB 4 H ?_)));clear H;intro b4 w H;try simp only[nr]at H)|fail)
  rw[zInst]at H
  try simp only[Value.cells]at H
  go_upto_region 13 with (first|((with_reducible refine gT ?_);refine own_store1 wtd_ _ _ _ rfl rfl evd_ H (i:=2) i_2 rfl (by show 0<9;omega) (by first|(with_reducible exact one_size one_int)|(with_reducible exact one_size one_spot)|(with_reducible exact one_size one_ikind)) ?_;clear H;intro w H;(rw[instC_set0]at H);simp only[List.set_cons_succ,List.set_cons_zero]at H)|((with_reducible refine gL ?_);refine aGi H ?_))
  refine wp_region_spec 9 [fun u _=>u=.pointer (some ⟨b2,8,none⟩),fun u _=>u=.int .i64 (x.spot),fun u _=>u=.int .i64 (max (x.spot) 8),fun u _=>u=.int .i64 (min (max x.spot 8) 13),fun u _=>u=.func (.func 94) #[] #[.pointer (some ⟨b3,0,none⟩)],fun u _=>u=.pointer (some ⟨b2,5,none⟩),fun u _=>u=.int .i64 (x.next),fun u _=>u=.int .i64 (withinI n (x.next)),fun u _=>u=.pointer (some ⟨b4,8,none⟩)] (fun _=>false) (by kernel_rfl) (by kernel_rfl) (by kernel_rfl) ⟨stable_eq _,stable_eq _,stable_eq _,stable_eq _,stable_eq _,stable_eq _,stable_eq _,stable_eq _,stable_eq _,trivial⟩ (fun _ _ h=>by cases h) ?ob ?en
  case ob =>
   refine⟨?_,?_,?_,?_,?_,?_,?_,?_,?_,trivial⟩<;>intro A W h
   ·(have e:A.eval (.tmp 2)=.pointer (some ⟨b2,0,none⟩):=h.frame 2 rfl;refine rs_pure rfl ?_ (by decide);simp only[execOp,e];simp[go_sem])
   ·exact rs_pure rfl (run_load1K rfl (h.dep 0 55 rfl rfl) one_spot ((H.call h.below).cell (i:=0) .zero 8)) (by decide)
   ·exact rs_pure rfl (run_max2 rfl (h.dep 1 56 rfl rfl) rfl) (by decide)
   ·exact rs_pure rfl (run_min2 rfl (h.dep 2 57 rfl rfl) rfl) (by decide)
   ·exact rs_move rfl rfl (h.frame 6 rfl) (by decide)
   ·(have e:A.eval (.tmp 2)=.pointer (some ⟨b2,0,none⟩):=h.frame 2 rfl;refine rs_pure rfl ?_ (by decide);simp only[execOp,e];simp[go_sem])
   ·exact rs_pure rfl (run_load1K rfl (h.dep 5 60 rfl rfl) one_int ((H.call h.below).cell (i:=0) .zero 5)) (by decide)
   ·exact rs_callv rfl rfl (enters_of Tryz.func94 (by kernel_rfl) rfl) (h.dep 4 59 rfl rfl) (h.dep 6 61 rfl rfl) (pg_within _ n b3 W hn hn2 ((H.call h.below).cell (i:=1) i_1 0)) (by decide)
   ·(have e:A.eval (.tmp 4)=.pointer (some ⟨b4,0,none⟩):=h.frame 4 rfl;refine rs_pure rfl ?_ (by decide);simp only[execOp,e];simp[go_sem])
  case en =>
   intro vals W hbw hv _;have v0:vals 0=.pointer (some ⟨b2,8,none⟩):=hv 0 (by omega)
   have v1:vals 1=.int .i64 (x.spot):=hv 1 (by omega)
   have v2:vals 2=.int .i64 (max (x.spot) 8):=hv 2 (by omega)
   have v3:vals 3=.int .i64 (min (max x.spot 8) 13):=hv 3 (by omega)
   have v4:vals 4=.func (.func 94) #[] #[.pointer (some ⟨b3,0,none⟩)]:=hv 4 (by omega)
   have v5:vals 5=.pointer (some ⟨b2,5,none⟩):=hv 5 (by omega)
   have v6:vals 6=.int .i64 (x.next):=hv 6 (by omega)
   have v7:vals 7=.int .i64 (withinI n (x.next)):=hv 7 (by omega)
   have v8:vals 8=.pointer (some ⟨b4,8,none⟩):=hv 8 (by omega)
   simp only[fa,Nat.reduceAdd];rw[v0,v1,v2,v3,v4,v5,v6,v7,v8];clear hv v0 v1 v2 v3 v4 v5 v6 v7 v8;simp only[pl];replace H:=H.call hbw
   go_wp2_with (first|((with_reducible refine gT ?_);refine own_store1 wtd_ _ _ _ rfl rfl evd_ H (i:=2) i_2 rfl (by show 8<9;omega) (by first|(with_reducible exact one_size one_int)|(with_reducible exact one_size one_spot)|(with_reducible exact one_size one_ikind)) ?_;clear H;intro w H;(rw[instC_set8]at H);simp only[List.set_cons_succ,List.set_cons_zero]at H)|((with_reducible refine gT ?_);refine own_store1 wtd_ _ _ _ rfl rfl evd_ H (i:=2) i_2 rfl (by show 5<9;omega) (by first|(with_reducible exact one_size one_int)|(with_reducible exact one_size one_spot)|(with_reducible exact one_size one_ikind)) ?_;clear H;intro w H;(rw[instC_set5]at H);simp only[List.set_cons_succ,List.set_cons_zero]at H)|(first|((with_reducible refine gTi ?_);refine aTi H ?_;clear H;intro w H;try simp only[nr]at H)|((with_reducible refine gLi ?_);refine aLi H ?_)))
   (refine ret_ct Tryz.results42 rfl (by first|rfl|(simp only[pl];rfl)) H (i:=2) i_2 row_Inst rfl rfl ?_)
   exact⟨by rw[E.out];rfl,H.below⟩
 have d4:(x.kind == 4)=false:=by rw[beq_eq_false_iff_ne];exact k4
 by_cases k5:x.kind=5
 ·have d5:(x.kind == 5)=true:=by rw[beq_iff_eq];exact k5
  have E:=Lib.hid (show bareP n x=({kind:=x.kind},true) by unfold bareP;rw[if_neg k1,if_neg k2,if_neg k3,if_neg k4,if_pos (.inl k5)])
  clear k1 k2 k3 k4 k5
  go_enter Tryz.func42,Tryz.ntmps42
  go_upto_region 1 with (first|((first|((with_reducible refine kgA 2 ?_);refine kA 2 H ?_)|((with_reducible refine kgX 2 ?_);(first|refine kS 2 H ?_|refine kB 2 H ?_)));clear H;intro b2 w H;try simp only[nr]at H)|((first|((with_reducible refine kgA 3 ?_);refine kA 3 H ?_)|((with_reducible refine kgX 3 ?_);(first|refine kS 3 H ?_|refine kB 3 H ?_)));clear H;intro b3 w H;try simp only[nr]at H)|((first|((with_reducible refine kgA 4 ?_);refine kA 4 H ?_)|((with_reducible refine kgX 4 ?_);(first|refine kS 4 H ?_|refine kB 4 H ?_)));clear H;intro b4 w H;try simp only[nr]at H)|fail)
  rw[zInst]at H
  try simp only[Value.cells]at H
  go_wp2_with (first|((with_reducible refine gT ?_);refine own_store1 wtd_ _ _ _ rfl rfl evd_ H (i:=2) i_2 rfl (by show 0<9;omega) (by first|(with_reducible exact one_size one_int)|(with_reducible exact one_size one_spot)|(with_reducible exact one_size one_ikind)) ?_;clear H;intro w H;(rw[instC_set0]at H);simp only[List.set_cons_succ,List.set_cons_zero]at H)|(first|((with_reducible refine gTi ?_);refine aTi H ?_;clear H;intro w H;try simp only[nr]at H)|((with_reducible refine gLi ?_);refine aLi H ?_)|((with_reducible refine gL ?_);refine aGi H ?_)))
  (refine ret_ct Tryz.results42 rfl (by first|rfl|(simp only[pl];rfl)) H (i:=2) i_2 row_Inst rfl rfl ?_)
  exact⟨by rw[E.out];rfl,H.below⟩
 have d5:(x.kind == 5)=false:=by rw[beq_eq_false_iff_ne];exact k5
 by_cases k6:x.kind=6
 ·have d6:(x.kind == 6)=true:=by rw[beq_iff_eq];exact k6
  have E:=Lib.hid (show bareP n x=({kind:=x.kind},true) by unfold bareP;rw[if_neg k1,if_neg k2,if_neg k3,if_neg k4,if_pos (.inr k6)])
  clear k1 k2 k3 k4 k5 k6
  go_enter Tryz.func42,Tryz.ntmps42
  go_upto_region 1 with (first|((first|((with_reducible refine kgA 2 ?_);refine kA 2 H ?_)|((with_reducible refine kgX 2 ?_);(first|refine kS 2 H ?_|refine kB 2 H ?_)));clear H;intro b2 w H;try simp only[nr]at H)|((first|((with_reducible refine kgA 3 ?_);refine kA 3 H ?_)|((with_reducible refine kgX 3 ?_);(first|refine kS 3 H ?_|refine kB 3 H ?_)));clear H;intro b3 w H;try simp only[nr]at H)|((first|((with_reducible refine kgA 4 ?_);refine kA 4 H ?_)|((with_reducible refine kgX 4 ?_);(first|refine kS 4 H ?_|refine kB 4 H ?_)));clear H;intro b4 w H;try simp only[nr]at H)|fail)
  rw[zInst]at H
  try simp only[Value.cells]at H
  go_wp2_with (first|((with_reducible refine gT ?_);refine own_store1 wtd_ _ _ _ rfl rfl evd_ H (i:=2) i_2 rfl (by show 0<9;omega) (by first|(with_reducible exact one_size one_int)|(with_reducible exact one_size one_spot)|(with_reducible exact one_size one_ikind)) ?_;clear H;intro w H;(rw[instC_set0]at H);simp only[List.set_cons_succ,List.set_cons_zero]at H)|(first|((with_reducible refine gTi ?_);refine aTi H ?_;clear H;intro w H;try simp only[nr]at H)|((with_reducible refine gLi ?_);refine aLi H ?_)|((with_reducible refine gL ?_);refine aGi H ?_)))
  (refine ret_ct Tryz.results42 rfl (by first|rfl|(simp only[pl];rfl)) H (i:=2) i_2 row_Inst rfl rfl ?_)
  exact⟨by rw[E.out];rfl,H.below⟩
 ·have d6:(x.kind == 6)=false:=by rw[beq_eq_false_iff_ne];exact k6
  have E:=Lib.hid (show bareP n x=({kind:=x.kind},false) by unfold bareP;rw[if_neg k1,if_neg k2,if_neg k3,if_neg k4,if_neg (fun h=>h.elim k5 k6)])
  clear k1 k2 k3 k4 k5 k6
  go_enter Tryz.func42,Tryz.ntmps42
  go_upto_region 1 with (first|((first|((with_reducible refine kgA 2 ?_);refine kA 2 H ?_)|((with_reducible refine kgX 2 ?_);(first|refine kS 2 H ?_|refine kB 2 H ?_)));clear H;intro b2 w H;try simp only[nr]at H)|((first|((with_reducible refine kgA 3 ?_);refine kA 3 H ?_)|((with_reducible refine kgX 3 ?_);(first|refine kS 3 H ?_|refine kB 3 H ?_)));clear H;intro b3 w H;try simp only[nr]at H)|((first|((with_reducible refine kgA 4 ?_);refine kA 4 H ?_)|((with_reducible refine kgX 4 ?_);(first|refine kS 4 H ?_|refine kB 4 H ?_)));clear H;intro b4 w H;try simp only[nr]at H)|fail)
  rw[zInst]at H
  try simp only[Value.cells]at H
  go_wp2_with (first|((with_reducible refine gT ?_);refine own_store1 wtd_ _ _ _ rfl rfl evd_ H (i:=2) i_2 rfl (by show 0<9;omega) (by first|(with_reducible exact one_size one_int)|(with_reducible exact one_size one_spot)|(with_reducible exact one_size one_ikind)) ?_;clear H;intro w H;(rw[instC_set0]at H);simp only[List.set_cons_succ,List.set_cons_zero]at H)|(first|((with_reducible refine gTi ?_);refine aTi H ?_;clear H;intro w H;try simp only[nr]at H)|((with_reducible refine gLi ?_);refine aLi H ?_)|((with_reducible refine gL ?_);refine aGi H ?_)))
  (refine ret_ct Tryz.results42 rfl (by first|rfl|(simp only[pl];rfl)) H (i:=2) i_2 row_Inst rfl rfl ?_)
  exact⟨by rw[E.out];rfl,H.below⟩
section
variable {M:Nat→Prop} {ops:Array Oper} {dst:Option Tmp} {ty:TypeId} {pos:String} {aft:Array Edge} {grd:Option (Nat × Bool)} {rest:List Oper} {a:Act} {w w0:World} {l:List Res} {Q:Exit→Act→World→Prop}
theorem gNI {U:TypeId} {x y:Operand} (h:wpList Tryz.prog ops Q ((⟨dst,.binOp .neq 50 x y U,ty,pos,aft,grd⟩:Oper)::rest) a w):wpList Tryz.prog ops Q ((⟨dst,.binOp .neq 50 x y U,ty,pos,aft,grd⟩:Oper)::rest) a w:=h
theorem nI {U:TypeId} {x y:Operand} {d e:InstD} (h:wpList Tryz.prog ops Q rest (a.put dst (.bool (!(eqI d e)))) w) (hg:Region.wanted (⟨dst,.binOp .neq 50 x y U,ty,pos,aft,grd⟩:Oper) (yielded ops a.tmps)=true:=by first|rfl|exact wanted_g rfl (yielded_of rfl (by first|rfl|(simp only[pe];rfl)))) (hx:a.eval x=instV d:=by first|(simp only[pe];done)|(simp only[pe];rfl)) (hy:a.eval y=instV e:=by first|(simp only[pe];done)|(simp only[pe];rfl)):wpList Tryz.prog ops Q ((⟨dst,.binOp .neq 50 x y U,ty,pos,aft,grd⟩:Oper)::rest) a w :=
 own_pure hg (run_neI rfl hx hy) h
end
theorem pg_right1 (x:InstD) (q:Option Addr) (n c b:Nat) (w0:World) (hn:0<n) (hn2:n≤1000000) (hlt:b<w0.heap.size) (hb:w0.cell? ⟨b,0,none⟩=some (.slice q n c)):Calls Tryz.prog 41 #[instV x,.pointer (some ⟨b,0,none⟩)] w0 fun e w'=>e=.returned (.bool (!(rightI n x)))∧Below w0.heap.size w0 w':=by
 have H:=(Hold.start w0).know (·=b) (fun V=>V.cell? ⟨b,0,none⟩=some (.slice q n c)) (fun _ h=>by omega) (fun i r h=>by simp at h) (fun V hV=>by rw[← hb];simp[World.cell?,hV b rfl])
 simp only[List.nil_append]at H;have hba:=fun w=>pg_bare x n w hn hn2
 have E:=Lib.hid (bare_right n hn x)
 cases hz:(bareP n x).2 with
 | true =>
  rw[hz]at hba
  go_enter Tryz.func41,Tryz.ntmps41
  go_wp2_with (first|((with_reducible refine gNI ?_);refine nI ?_)|((with_reducible refine gL ?_);refine own_load1K wtd_ _ _ rfl rfl one_insts (H.kn (i:=0) .zero) ?_)|(first|((with_reducible refine gTi ?_);refine aTi H ?_;clear H;intro w H;try simp only[nr]at H)|((with_reducible refine gLi ?_);refine aLi H ?_)|((with_reducible refine gX ?_);(refine bB H ?_;clear H;intro b w H;try simp only[nr]at H))|((with_reducible refine gA ?_);(refine bA H ?_;clear H;intro b w H;try simp only[nr]at H)))|(go_at_call 42;(with_reducible refine ch (hba _) H ?_);clear H;intro w H))
  go_ret;refine⟨?_,H.below⟩;rw[← E.out,hz];rfl
 | false =>
  rw[hz]at hba
  go_enter Tryz.func41,Tryz.ntmps41
  go_wp2_with (first|((with_reducible refine gL ?_);refine own_load1K wtd_ _ _ rfl rfl one_insts (H.kn (i:=0) .zero) ?_)|(first|((with_reducible refine gTi ?_);refine aTi H ?_;clear H;intro w H;try simp only[nr]at H)|((with_reducible refine gLi ?_);refine aLi H ?_)|((with_reducible refine gX ?_);(refine bB H ?_;clear H;intro b w H;try simp only[nr]at H))|((with_reducible refine gA ?_);(refine bA H ?_;clear H;intro b w H;try simp only[nr]at H)))|(go_at_call 42;(with_reducible refine ch (hba _) H ?_);clear H;intro w H))
  go_ret;refine⟨?_,H.below⟩;rw[← E.out,hz];rfl
theorem sl_indexI (p q:Option Addr) (c cq b:Nat) (xs:List InstD) (F:Nat→Prop) (w0:World) (hn:0<xs.length) (hn2:xs.length≤1000000) (hF:∀ b,F b→b<w0.heap.size) (h:InstsR F p c xs w0) (hlt:b<w0.heap.size) (hb:w0.cell? ⟨b,0,none⟩=some (.slice q xs.length cq)) :
  Calls Tryz.prog 93 #[.slice p xs.length c,.func (.func 41) #[] #[.pointer (some ⟨b,0,none⟩)]] w0 fun e w'=>∃ r:Int,e=.returned (.int .i64 r)∧decide (0≤r)=!(xs.all (rightI xs.length))∧Below w0.heap.size w0 w':=by
 have hc:=h.bound;have hp:=h.at;have H:=Hold.insts hF h
 replace H:=H.know (·=b) (fun V=>V.cell? ⟨b,0,none⟩=some (.slice q xs.length cq)) (fun _ h=>by omega) (fun i r h=>by
  rcases i with _|i
  ·simp at h;subst h;intro b hb;cases hb
  ·simp at h) (fun V hV=>by rw[← hb];simp[World.cell?,hV b rfl])
 simp only[List.cons_append,List.nil_append]at H;clear h hb;obtain⟨n,hnn⟩:∃ n,xs.length=n:=⟨_,rfl⟩;rw[hnn]at hc hp hn hn2 H ⊢;have HN:=Lib.hid hnn;clear hnn;have hr1:=fun w x (hl:b<w.heap.size) (hb:w.cell? ⟨b,0,none⟩=some (.slice q n cq))=>pg_right1 x q n cq b w hn hn2 hl hb
 go_enter Tryz.func93,Tryz.ntmps93
 go_wp2_with (first|fail)
 go_loopw [8] (fun ix wr=>∃ (j:Nat),j≤n∧ix=.int .i64 j∧Hid ((xs.take j).all (rightI n)=true)∧Hold w0 wr [.kn F (InstsR F p c xs),.kn (·=b) (fun V=>V.cell? ⟨b,0,none⟩=some (.slice q n cq))]) (fun ix _=>n+1 - (intOf ix).toNat)
 case atStart=>exact⟨0,by omega,rfl,Lib.hid rfl,H⟩
 case round =>
  clear H;obtain⟨j,hj,rfl,EA,H⟩:=hrel
  by_cases hlt:j<n
  ·have dj:decide ((j:Int)<(n:Int))=true:=by simp;omega
   obtain⟨x,hx⟩:∃ x,xs[j]?=some x:=⟨_,List.getElem?_eq_getElem (by rw[HN.out];exact hlt)⟩
   obtain⟨b1,off,rfl⟩:=hp (by omega)
   have hcell:∀ V,InstsR F (some ⟨b1,off,none⟩) c xs V→∀ k,k<9→V.cell? ⟨b1,off+j * 9+k,none⟩=(instC x)[k]?:=fun V h=>h.cells hx rfl
   cases hr:rightI n x with
   | true =>
    have E:=Lib.hid (all_takeI hx EA.out hr);have hr2:=fun w (hl:b<w.heap.size) (hb:w.cell? ⟨b,0,none⟩=some (.slice q n cq))=>hr1 w x hl hb
    rw[hr]at hr2;clear hx hr EA hr1 hp
    go_wp2_with (first|((with_reducible refine gL ?_);refine own_loadK wtd_ _ _ rfl rfl row_Inst rfl (hcell _ (H.kn (i:=0) .zero)) ?_)|fail|(go_at_call 41;refine ch (hr2 _ (H.knlt (i:=1) i_1 b rfl) (H.kn (i:=1) i_1)) H ?_;clear H;intro w H))
    go_roundw
    case rel=>exact⟨j+1,by omega,by go_num,E,H⟩
    case measure=>simp[intOf];omega
   | false =>
    have E:=Lib.hid (show xs.all (rightI n)=false by rw[List.all_eq_false];exact⟨x,List.mem_of_getElem? hx,by rw[hr];decide⟩)
    have hr2:=fun w (hl:b<w.heap.size) (hb:w.cell? ⟨b,0,none⟩=some (.slice q n cq))=>hr1 w x hl hb
    rw[hr]at hr2;clear hx hr EA hr1 hp
    go_wp2_with (first|((with_reducible refine gL ?_);refine own_loadK wtd_ _ _ rfl rfl row_Inst rfl (hcell _ (H.kn (i:=0) .zero)) ?_)|fail|(go_at_call 41;refine ch (hr2 _ (H.knlt (i:=1) i_1 b rfl) (H.kn (i:=1) i_1)) H ?_;clear H;intro w H))
    go_ret;exact⟨j,rfl,by rw[E.out];simp,H.below⟩
  ·have hjn:j=n:=by omega
   have dj:decide ((j:Int)<(n:Int))=false:=by simp;omega
   have E:=Lib.hid (show xs.all (rightI n)=true by
    have h:=EA.out
    rwa [List.take_of_length_le (by rw[HN.out];omega)]at h)
   clear hp EA hjn hr1
   go_wp2_with (first|fail)
   go_ret;exact⟨-1,rfl,by rw[E.out];simp,H.below⟩
theorem chR {M:Nat→Prop} {P:Program} {f:FuncId} {args:Array Value} {w w0:World} {l:List Res} {D:Int→Prop} {R:Ending→World→Prop} (c:Calls P f args w fun e w'=>∃ r:Int,e=.returned (.int .i64 r)∧D r∧Below w.heap.size w w') (H:HoldG M w0 w l)
  (k:∀ r w',D r→HoldG M w0 w' l→R (.returned (.int .i64 r)) w'):Calls P f args w R:=c.mono fun _ w' ⟨r,e,hd,hb⟩=>by subst e;exact k r w' hd (H.call hb)
theorem sl_containsI (p q:Option Addr) (c cq b:Nat) (xs:List InstD) (F:Nat→Prop) (w0:World) (hn:0<xs.length) (hn2:xs.length≤1000000) (hF:∀ b,F b→b<w0.heap.size) (h:InstsR F p c xs w0) (hlt:b<w0.heap.size) (hb:w0.cell? ⟨b,0,none⟩=some (.slice q xs.length cq)) :
  Calls Tryz.prog 40 #[.slice p xs.length c,.func (.func 41) #[] #[.pointer (some ⟨b,0,none⟩)]] w0 fun e w'=>e=.returned (.bool (!(xs.all (rightI xs.length))))∧Below w0.heap.size w0 w':=by
 have hix:=sl_indexI p q c cq b xs F w0 hn hn2 hF h hlt hb;have H:=Hold.start w0;obtain⟨bb,hbb⟩:∃ bb,xs.all (rightI xs.length)=bb:=⟨_,rfl⟩;rw[hbb]at hix ⊢;obtain⟨n,hnn⟩:∃ n,xs.length=n:=⟨_,rfl⟩;rw[hnn]at hix ⊢;clear hn hn2 hb h hF hlt hnn hbb
 go_enter Tryz.func40,Tryz.ntmps40
 go_wp2_with (first|fail|(go_at_call 93;refine chR hix H ?_;clear H hix;intro r w hd H))
 go_ret;exact⟨by rw[← hd];rfl,H.below⟩
theorem pg_Right (p:Option Addr) (c:Nat) (xs:List InstD) (F:Nat→Prop) (w0:World) (hF:∀ b,F b→b<w0.heap.size) (h:InstsR F p c xs w0) :
  Calls Tryz.prog 15 #[.slice p xs.length c] w0 fun e w'=>e=.returned (.bool (rightP xs))∧Below w0.heap.size w0 w':=by
 have H:=Hold.insts hF h;clear h
 by_cases h1:xs.length<1
 ·have d1:decide ((xs.length:Int)<1)=true:=by simp;omega
  have E:=Lib.hid (show rightP xs=false by unfold rightP;rw[decide_eq_false (by omega),Bool.false_and,Bool.false_and])
  go_enter Tryz.func15,Tryz.ntmps15
  go_wp2_with (first|(first|((with_reducible refine gL ?_);refine aG H ?_)|((with_reducible refine gX ?_);(refine bB H ?_;clear H;intro b w H;try simp only[nr]at H))))
  go_ret;exact⟨by rw[E.out];rfl,H.below⟩
 have d1:decide ((xs.length:Int)<1)=false:=by simp;omega
 by_cases h2:4000<xs.length
 ·have d2:decide ((4000:Int)<(xs.length:Int))=true:=by simp;omega
  have E:=Lib.hid (show rightP xs=false by unfold rightP;rw[decide_eq_false (p:=xs.length≤4000) (by omega),Bool.and_false,Bool.false_and])
  go_enter Tryz.func15,Tryz.ntmps15
  go_wp2_with (first|(first|((with_reducible refine gL ?_);refine aG H ?_)|((with_reducible refine gX ?_);(refine bB H ?_;clear H;intro b w H;try simp only[nr]at H))))
  go_ret;exact⟨by rw[E.out];rfl,H.below⟩
 have d2:decide ((4000:Int)<(xs.length:Int))=false:=by simp;omega
 have E:=Lib.hid (show rightP xs=xs.all (rightI xs.length) by unfold rightP;rw[decide_eq_true (by omega),decide_eq_true (by omega)];rfl)
 have hco:=fun w b (h1:∀ b,F b→b<w.heap.size) (h2:InstsR F p c xs w) (h3:b<w.heap.size) (h4:w.cell? ⟨b,0,none⟩=some (.slice p xs.length c))=>sl_containsI p p c c b xs F w (by omega) (by omega) h1 h2 h3 h4
 clear h1 h2
 go_enter Tryz.func15,Tryz.ntmps15
 go_wp2_with (first|((first|((with_reducible refine kgA 1 ?_);refine kA 1 H ?_)|((with_reducible refine kgX 1 ?_);(first|refine kS 1 H ?_|refine kB 1 H ?_)));clear H;intro b1 w H;try simp only[nr]at H)|((with_reducible refine gL ?_);refine aG H ?_)|(go_at_call 40;refine ch (hco _ b1 (H.knlt (i:=0) .zero) (H.kn (i:=0) .zero) ((Array.getElem?_eq_some_iff.1 (H.blk (i:=1) i_1).2).1) (H.cell (i:=1) i_1 0)) H ?_;clear H;intro w H))
 go_ret;exact⟨by rw[E.out];simp,H.below⟩
theorem pg_Slots (p:Option Addr) (c:Nat) (xs:List InstD) (F:Nat→Prop) (w0:World) (hF:∀ b,F b→b<w0.heap.size) (h:InstsR F p c xs w0) :
  Calls Tryz.prog 17 #[.slice p xs.length c] w0 fun e w'=>e=.returned (.int .i64 (slotsI xs))∧Below w0.heap.size w0 w':=by
 have hc:=h.bound;have hp:=h.at;have H:=Hold.insts hF h;clear h;obtain⟨n,hn⟩:∃ n,xs.length=n:=⟨_,rfl⟩;rw[hn]at hc hp ⊢;have HN:=Lib.hid hn;clear hn
 go_enter Tryz.func17,Tryz.ntmps17
 go_wp2_with (first|fail)
 go_loopw [3,8] (fun vs ix wr=>∃ (j:Nat),j≤n∧vs=.int .i64 (mostI (xs.take j))∧ix=.int .i64 j∧Hold w0 wr [.kn F (InstsR F p c xs)]) (fun _ ix _=>n+1 - (intOf ix).toNat)
 case atStart=>exact⟨0,by omega,rfl,rfl,H⟩
 case round =>
  clear H;obtain⟨j,hj,rfl,rfl,H⟩:=hrel
  by_cases hlt:j<n
  ·have dj:decide ((j:Int)<(n:Int))=true:=by simp;omega
   obtain⟨x,hx⟩:∃ x,xs[j]?=some x:=⟨_,List.getElem?_eq_getElem (by rw[HN.out];exact hlt)⟩
   obtain⟨b,off,rfl⟩:=hp (by omega)
   have hcell:∀ V,InstsR F (some ⟨b,off,none⟩) c xs V→∀ k,k<9→V.cell? ⟨b,off+j * 9+k,none⟩=(instC x)[k]?:=fun V h=>h.cells hx rfl
   have E:=Lib.hid (mostI_take hx);clear hx hp
   go_wp2_with (first|((with_reducible refine gL ?_);refine own_loadK wtd_ _ _ rfl rfl row_Inst rfl (hcell _ (H.kn (i:=0) .zero)) ?_)|(first|((with_reducible refine gTi ?_);refine aTi H ?_;clear H;intro w H;try simp only[nr]at H)|((with_reducible refine gL ?_);refine aGi H ?_)|((with_reducible refine gA ?_);(refine bA H ?_;clear H;intro b w H;try simp only[nr]at H))))
   all_goals (go_roundw)
   case rel=>exact⟨j+1,by omega,by rw[E.out,show (if mostI (List.take j xs)<x.slot then x.slot else mostI (List.take j xs))=max (mostI (List.take j xs)) x.slot by omega],by go_num,H.pick [0] _ (by decide) rfl⟩
   case measure=>simp[intOf];omega
  ·have hjn:j=n:=by omega
   subst hjn;have dj:decide ((j:Int)<(j:Int))=false:=by simp
   have E:=Lib.hid (show mostI (xs.take j)=mostI xs by rw[List.take_of_length_le (by rw[HN.out];omega)])
   clear hp
   go_wp2_with (first|fail)
   go_ret;exact⟨by unfold slotsI;rw[← E.out];rfl,H.below⟩
section
variable {P:Program} {ops:Array Oper} {rest:List Oper} {o:Oper} {a:Act} {w w0:World} {Q:Exit→Act→World→Prop} {l:List Res} {M:Nat→Prop}
theorem own_appendK (hg:o.guard=none) (s x:Operand) (T:TypeId) (ho:o.op=.call {callee:=.builtin .append,args:=#[s,x],argTypes:=#[T,T]}) (H:HoldG M w0 w l) {i:Nat} {v:Value} {e:TypeId} {sz n m c:Nat} {q:Option Addr} {xs:List Value} {F:Nat→Prop} {rows:List (Array Value)}
  (hs:a.eval s=v) (hx:a.eval x=.slice q m c) (hi:At l i (.row v e sz n xs)) (hR:RdN sz w F (.slice q m c) rows) (hrs:∀ r ∈ rows,r.size=sz) {it:TypeInfo} {z:Value} {bytes:Nat}
  (h1:P.underlying T=some (.slice e)) (h2:P.info? e=some it) (h3:it.zero=some z) (h4:it.size=sz) (h5:it.bytes=bytes) (h6:z.cells.size=sz) (h7:0<sz) (h1c:∀ u ∈ flatR rows,u.oneCell'=true)
  (b1:n+m≤maxLen) (b2:(n+m) * bytes≤140737488355328)
  (h:∀ v' w',HoldG M w0 w' (l.set i (.row v' e sz (n+m) (xs++flatR rows)))→wpList P ops Q rest (a.put o.dst v') w'):wpList P ops Q (o::rest) a w:=by
 obtain⟨p,cap,e1,r1,r2,r0,r3⟩:=hR
 cases e1
 have key:∀ ad:Addr,q=some ad→(∀ j u,(flatR rows)[j]?=some u→w.cell? (ad.add j)=some u)→wpList P ops Q (o::rest) a w:=fun ad hq hc=>by
  subst hq;refine wpList_append_own_at w hg s x T ho w0.heap.size e it z sz bytes h1 h2 h3 h4 h5 h6 h7 v n xs hs (H.all i _ hi.get) ad rows.length c (flatR rows) hx (flatR_len hrs) hc h1c b1 b2 H.keep.size (fun v' w' r1 r2 _ r4=>h v' w' ?_)
  refine H.upd hi.get (by exact r2) r1 (fun b' hb'=>?_)
  rcases r4 with r4|r4
  ·left;show v.ownBlock=some b';rw[← r4];exact hb'
  ·right;have:v'.ownBlock=some b':=hb';rw[r4]at this
   cases this;exact Nat.le_refl _
 cases rows with
 | nil =>
  cases q with
  | none =>
   have hc0:=r0 rfl;subst hc0;refine wpList_append_own_none hg s x T ho w0.heap.size e it sz h1 h2 v n xs hs (H.all i _ hi.get) hx ?_
   have hset:l.set i (.row v e sz (n+0) (xs++flatR []))=l:=by
    apply List.ext_getElem?;intro j;rw[List.getElem?_set];split
    ·rename_i e;subst e;have:=hi.get;rw[if_pos (List.getElem?_eq_some_iff.1 this).1,this];simp[flatR]
    ·rfl
   have:=h v w (by rw[show (List.length ([]:List (Array Value)))=0 from rfl,hset];exact H)
   exact this
  | some ad=>exact key ad rfl (fun j u hj=>by simp[flatR]at hj)
 | cons r rows =>
  obtain⟨b,off,hq,hF,_,_⟩:=r3 0 r rfl;refine key _ hq (fun j u hj=>?_)
  have hlen:(flatR (r::rows)).length=(r::rows).length * sz:=flatR_len hrs;have hjl:=(List.getElem?_eq_some_iff.1 hj).1;have hd:j=j / sz * sz+j % sz:=by rw[Nat.mul_comm];exact(Nat.div_add_mod j sz).symm
  have hm:j % sz<sz:=Nat.mod_lt _ h7;have hqq:j / sz<(r::rows).length:=Nat.div_lt_of_lt_mul (by rw[Nat.mul_comm];omega)
  have hget:(r::rows)[j / sz]?=some (r::rows)[j / sz]:=List.getElem?_eq_getElem hqq;obtain⟨b',off',hq',_,_,hk⟩:=r3 (j / sz) _ hget;rw[hq]at hq';cases hq'
  have h8:=flatR_get hrs hget hm;rw[← hd,hj]at h8;have h9:=hk (j % sz) hm;rw[← h8]at h9;rw[Addr.add_mid,← h9]
  congr 2;omega
end
end
section

end
section
open Go.RowKit Go.Shelf
attribute [local go_sem] Oper.semAt_some
def i64s (xs:List Int):List Value:=xs.map (.int .i64)
theorem Rd.i64 {w:World} {b0:Nat} {v:Value} {xs:List Int} (h:Rd w b0 v (i64s xs)) :
  ((∃ q,v=.slice q 0 0)∧xs=[])∨∃ b off cap,v=.slice (some ⟨b,off,none⟩) xs.length cap∧b<b0∧xs.length≤cap∧cap≤maxLen ∧
  ∀ j,(h:j<xs.length)→w.cell? ⟨b,off+j,none⟩=some (.int .i64 xs[j]):=by
 rcases h with ⟨h1,h2⟩|⟨b,off,cap,e,h1,h2,h3,h4⟩
 ·exact .inl ⟨h1,by simpa [i64s] using h2⟩
 ·refine .inr ⟨b,off,cap,by simpa [i64s] using e,h1,by simpa [i64s] using h2,h3,fun j hj=>?_⟩
  rw[h4 j (by simpa [i64s] using hj)];simp[i64s]

def markF (k i:Int):Int:=1000003 * (k+7)+i
theorem kit_mark (k i:Int) (w:World) (hk:0≤k∧k≤1000000) (hi:0≤i∧i≤1000000000000):Calls Tryz.prog 92 #[.int .i64 k,.int .i64 i] w fun e w'=>e=.returned (.int .i64 (markF k i))∧w=w':=by
 obtain⟨hk1,hk2⟩:=hk;obtain⟨hi1,hi2⟩:=hi
 go_enter Tryz.func92,Tryz.ntmps92
 go_wp2
 go_ret;refine⟨?_,rfl⟩;unfold markF;rfl
end
end Go.Proofs.YtdpcemijdmbpiaaGreat
