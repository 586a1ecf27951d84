/-
  Laws of walks, and walks.
-/
import Derived.Test.YtphjgfjbiimkjaaGreatEc6
import Derived.Test.YtphjgfjbiimkjaaGreatEc1
set_option linter.unusedVariables false
set_option linter.unusedSimpArgs false
set_option maxRecDepth 100000
set_option maxHeartbeats 16000000
namespace Go.Proofs.YtphjgfjbiimkjaaGreat
section
open Go.RowKit
structure RCtxU (C:List Nat) (hd l:List Oper) (e i:Nat) (Ss:Nat->Value->World->Prop) (S1:Value->World->Prop) (a0:Act) (w0:World) (o:Oper) (a:Act) (w:World):Prop where
 st:Below w0.heap.size w0 w\/∃ v,S1 v w
 frame:∀ t,hd.any (fun o=>o.dst == some t)=false->a.eval (.tmp t)=a0.eval (.tmp t)
 dep:∀ j d,(i=e\/j ∉ C)->o.after.toList.any (fun e=>Region.binds .any e&&e.on == j)=true->(hd[j]?).bind (·.dst)=some d->Ss j (a.eval (.tmp d)) w
 ahead:∀ oe,l[e]?=some oe->oe.after.toList.any (fun x=>Region.binds .any x&&x.on == i)=true->Below w0.heap.size w0 w
def OblU (P:Program) (C:List Nat) (l hd:List Oper) (e:Nat) (L:List (Value->World->Prop)) (T:World->World->Prop) (S1:Value->World->Prop) (a0:Act) (w0:World):List Oper->Nat->Prop
 | [],_=>True
 | o::r,i=>(if i=e then ∀ a w,RCtxU C hd l e i (zAO L) S1 a0 w0 o a w->Below w0.heap.size w0 w->o.wp P a w (fun a' w'=>∃ v,a'=a.put o.dst v/\T w w'/\S1 v w') (fun _ _ _=>False)
   else ∀ a w,RCtxU C hd l e i (zAO L) S1 a0 w0 o a w->zA4 P l.toArray o a w (fun v w'=>zAO L i v w'/\(false=true->w.heap.size<=blk v)))/\OblU P C l hd e L T S1 a0 w0 r (i+1)
theorem OblU.get {P:Program} {C:List Nat} {l hd:List Oper} {e:Nat} {L:List (Value->World->Prop)} {T:World->World->Prop} {S1:Value->World->Prop} {a0:Act} {w0:World}:∀ (r:List Oper) (k:Nat),OblU P C l hd e L T S1 a0 w0 r k->∀ i o,r[i]?=some o ->
  if k+i=e then ∀ a w,RCtxU C hd l e (k+i) (zAO L) S1 a0 w0 o a w->Below w0.heap.size w0 w->o.wp P a w (fun a' w'=>∃ v,a'=a.put o.dst v/\T w w'/\S1 v w') (fun _ _ _=>False)
   else ∀ a w,RCtxU C hd l e (k+i) (zAO L) S1 a0 w0 o a w->zA4 P l.toArray o a w (fun v w'=>zAO L (k+i) v w'/\(false=true->w.heap.size<=blk v))
 | [],_,_,_,_,h=>by simp at h
 | o::r,k,h,0,o',h'=>by simp at h';subst h';exact h.1
 | o::r,k,h,i+1,o',h'=>by
  have:=OblU.get r (k+1) h.2 i o' (by simpa using h')
  rwa [show k+1+i=k+(i+1) from by omega]at this
end
section
open Go.RowKit Go.Shelf
attribute [local go_sem] Oper.semAt_some
abbrev WV:=Nat × zAP × Option Addr × Nat
def wayC (x:WV):Array Value:=#[.int .i64 x.1,.slice x.2.2.1 x.2.1.length x.2.2.2]
theorem yg0 (x:WV):(wayC x)[0]?=some (.int .i64 x.1):=rfl
theorem yg1 (x:WV):(wayC x)[1]?=some (.slice x.2.2.1 x.2.1.length x.2.2.2):=rfl
def plW (x:WV):Way:=(x.1,x.2.1)
def zN0 (F:Nat->Prop) (xs:List WV) (W:World):Prop:=∀ x ∈ xs,IntsR F x.2.2.1 x.2.2.2 x.2.1 W
theorem zC2 (x:WV):(wayC x).size=2:=rfl
theorem zDm (xs:List WV):∀ r ∈ xs.map wayC,r.size=2:=by
 intro r hr;obtain⟨x,_,rfl⟩:=List.mem_map.1 hr;rfl
theorem zAz:oneB Tryz.prog 190=true:=by kernel_rfl
theorem zEC:rowB Tryz.prog 197 2=true:=by kernel_rfl
theorem zWay:zBa Tryz.prog 197=#[.int .i64 0,.slice none 0 0]:=by kernel_rfl
section
variable {M:Nat->Prop} {w0 w:World}
theorem zNa (mb:Nat) (q:Option Addr) (n c:Nat) (mk v2 v3 nv:Value) (xs:List Value) (H0:HoldG M w0 w [.blk mb #[.slice q n c,mk,v2,v3,nv] 194,.row (.slice q n c) 197 2 n xs]) :
  Calls Tryz.prog 153 #[.pointer (some ⟨mb,0,none⟩)] w fun e w'=>e=.returned (.tuple #[])/\Turned M w0 w [.blk mb #[.slice q n c,mk,v2,v3,nv] 194,.row (.slice q n c) 197 2 n xs] [.blk mb #[.slice q 0 c,mk,v2,v3,nv] 194,.row (.slice q 0 c) 197 2 0 []] w':=by
 have H:=H0.framed;clear H0;obtain⟨rF,hrF⟩:∃ rF,zB3 w [.blk mb #[.slice q n c,mk,v2,v3,nv] 194,.row (.slice q n c) 197 2 n xs]=rF:=⟨_,rfl⟩;obtain⟨rS,hrS⟩:∃ rS,zCO w [.blk mb #[.slice q n c,mk,v2,v3,nv] 194,.row (.slice q n c) 197 2 n xs]=rS:=⟨_,rfl⟩;rw[hrF,hrS]at H;simp only[ca]at H;obtain⟨q2,c2,e2,h1,h2,hq2⟩:=H.rowShape (i:=1) i_1;simp only[Value.slice.injEq]at e2;obtain⟨rfl,_,rfl⟩:=e2
 go_enter Tryz.func153,Tryz.ntmps153
 go_wp2_with (first|((with_reducible refine gL ?_);refine zAE wtd_ _ _ rfl rfl H (i:=0) .zero zAz rfl ?_)|((with_reducible refine gT ?_);refine zAN wtd_ _ _ _ rfl rfl evd_ H (i:=0) .zero rfl (by show 0<5;omega) (zAD zAz) ?_;clear H;intro w H)|fail)
 go_end0
 refine⟨rfl,?_⟩
 rw[← hrF,← hrS]at H;have H:HoldG M w0 _ [.blk mb #[.slice q 0 c,mk,v2,v3,nv] 194,.row (.slice q n c) 197 2 n xs,.kn (zB3 _ [.blk mb #[.slice q n c,mk,v2,v3,nv] 194,.row (.slice q n c) 197 2 n xs]) (zCO _ [.blk mb #[.slice q n c,mk,v2,v3,nv] 194,.row (.slice q n c) 197 2 n xs])]:=H;obtain⟨hlen,⟨hv,hn0⟩|⟨g,cap,cur,hv,hb,hg,hn,hc,hsz,ht⟩⟩:=H.all 1 _ rfl
 ·simp only[Value.slice.injEq]at hv;obtain⟨rfl,rfl,rfl⟩:=hv;have hx:xs=[]:=List.length_eq_zero_iff.1 (by simpa using hlen)
  subst hx;exact Turned.of H (i:=2) i_2 [0,1] (by decide) (by decide) rfl (fun F S h=>by simp at h)
 ·simp only[Value.slice.injEq]at hv;obtain⟨rfl,_,rfl⟩:=hv;have H2:=H.cutRow (i:=1) (m:=0) i_1 (Nat.zero_le _);rw[Nat.zero_mul,List.take_zero]at H2;simp only[sc]at H2;exact Turned.of H2 (i:=2) i_2 [0,1] (by decide) (by decide) rfl (fun F S h=>by simp at h)
end
end
section
open Go.RowKit
structure QCtx (l:List Oper) (Ss:Nat->Value->World->Prop) (R:World->World->Prop) (a0:Act) (w0:World) (i:Nat) (a:Act) (w:World):Prop where
 rel:R w0 w
 frame:∀ t,l.any (fun o=>o.dst == some t)=false->a.eval (.tmp t)=a0.eval (.tmp t)
 dep:∀ j d,decide (j<i)=true->(l[j]?).bind (·.dst)=some d->Ss j (a.eval (.tmp d)) w
def zB5 (P:Program) (ops:Array Oper) (R:World->World->Prop) (o:Oper) (a:Act) (w:World) (s:Value->World->Prop):Prop :=
 if Region.wanted o (yielded ops a.tmps) then o.wp P a w (fun a' w'=>∃ v,a'=a.put o.dst v/\R w w'/\s v w') (fun _ _ _=>False) else s undef w
theorem zGN {P:Program} {id:Nat} {Q:Exit->Act->World->Prop} {a0:Act} {w0:World} {l:List Oper} (R:World->World->Prop) (hrefl:∀ w,R w w) (htrans:∀ u v w,R u v->R v w->R u w) (n:Nat) (Ss:Nat->Value->World->Prop)
  (hst:∀ i,i<n->∀ v w w',Ss i v w->R w w'->Ss i v w')
  (hB:seqB l n=true) (hsz:(l.take n).all (fun o=>match o.dst with|some d=>decide (d<a0.tmps.size)|none=>true)=true)
  (hstep:∀ i o,i<n->l[i]?=some o->∀ a w,QCtx (l.take n) Ss R a0 w0 i a w->zB5 P l.toArray R o a w (Ss i))
  (hend:∀ vals w,R w0 w->(∀ i,i<n->Ss i (vals i) w)->wpList P l.toArray Q (l.drop n) (zBI (l.take n) 0 vals a0) w) :
  (Code.region id l.toArray false).wp P Q a0 w0:=by
 simp only[seqB,Bool.and_eq_true,decide_eq_true_eq]at hB;obtain⟨⟨hn,hd'⟩,_⟩:=hB;have hdst:∀ (i:Nat) (o:Oper),(l.take n)[i]?=some o->∃ d,o.dst=some d:=by
  intro i o h;have:∀ (r:List Oper) (j:Nat),zCe r=true->r[j]?=some o->∃ d,o.dst=some d:=by
   intro r
   induction r with
   | nil=>intro j _ h;simp at h
   | cons x r ihr =>
    intro j hdd h;simp only[zCe,Bool.and_eq_true]at hdd
    cases j with
    | zero=>simp at h;subst h;exact Option.isSome_iff_exists.1 hdd.1.1
    | succ j=>exact ihr j hdd.2 (by simpa using h)
  exact this _ i hd' h
 have hbd:∀ (j:Nat) (oj:Oper) (dj:Tmp),(l.take n)[j]?=some oj->oj.dst=some dj->dj<a0.tmps.size:=by
  intro j oj dj hj hdj;have:=List.all_eq_true.1 hsz oj (List.mem_of_getElem? hj)
  simpa [hdj] using this
 have key:∀ (f i:Nat),i+f=n->∀ (vals:Nat->Value) (a:Act) (w:World),a=fill (l.take n) 0 (zAe i (n - i)) vals a0->(∀ j,j<i->Ss j (vals j) w)->R w0 w->wpList P l.toArray Q (l.drop i) a w:=by
  intro f
  induction f with
  | zero =>
   intro i hi vals a w ha hv hb;have hi':i=n:=by omega
   subst hi';rw[ha,zDG (l.take i) 0 _ vals a0 (fun j hj=>by rw[Nat.zero_add,zAi _ _ _ _ (by simp at hj;omega)];simp at hj ⊢;omega)]
   exact hend vals w hb hv
  | succ f ih =>
   intro i hi vals a w ha hv hb;have hin:i<n:=by omega
   have hil:i<l.length:=by omega
   have hot:(l.take n)[i]?=some l[i]:=by rw[List.getElem?_take_of_lt hin];simp[hil]
   obtain⟨d,hod⟩:=hdst i _ hot;rw[List.drop_eq_getElem_cons hil];have hctx:QCtx (l.take n) Ss R a0 w0 i a w:=by
    refine⟨hb,fun t ht=>by rw[ha];exact zBX _ _ _ _ _ t ht,fun j dj hj hdj=>?_⟩
    have h2:j<i:=by simpa using hj
    obtain⟨oj,hoj,hdj'⟩:=Option.bind_eq_some_iff.1 hdj;rw[ha,zFA _ 0 _ vals a0 j oj dj hd' hoj hdj' (hbd j oj dj hoj hdj') (by rw[Nat.zero_add,zAi _ _ _ _ (by omega)];simpa using h2),Nat.zero_add]
    exact hv j h2
   have hstep':=hstep i l[i] hin (by simp[hil]) a w hctx
   have hnext:∀ v w',R w w'->Ss i v w'->wpList P l.toArray Q (l.drop (i+1)) (a.put l[i].dst v) w':=by
    intro v w' hbw hsv;refine ih (i+1) (by omega) (fun j=>if j=i then v else vals j) _ w' ?_ (fun j hj=>?_) (htrans _ _ _ hb hbw)
    ·have h1:=zDi (l.take n) 0 i (zAe i (n - i)) vals a0 l[i] d v hd' hot hod (by rw[Nat.zero_add,zAi _ _ _ _ (by omega)];simp)
     rw[Nat.zero_add]at h1;rw[ha,hod,← h1];refine zCR _ _ _ _ _ _ _ (fun j hj=>⟨?_,rfl⟩)
     simp at hj;rw[Nat.zero_add,zAi _ _ _ _ (by omega)]
     by_cases hji:j=i
     ·subst hji;have:j<(zAe j (n - j)).size:=by simp[zAe];omega
      simp[Array.getD_eq_getD_getElem?,this]
     ·rw[getD_set_ne false (fun e=>hji e.symm),zAi _ _ _ _ (by omega)]
      simp;omega
    ·by_cases hji:j=i
     ·subst hji;simpa using hsv
     ·show Ss j (if j=i then v else vals j) w'
      rw[if_neg hji];exact hst j (by omega) _ _ _ (hv j (by omega)) hbw
   unfold zB5 at hstep'
   show wpList P l.toArray Q (l[i]::l.drop (i+1)) a w
   unfold wpList;split
   ·rename_i hw;rw[if_pos hw]at hstep';refine .inl (zDj (Oper.wp_mono (fun a' w' ⟨v,e,hbw,hsv⟩=>?_) hstep'))
    subst e;exact hnext v w' hbw hsv
   ·rename_i hw;rw[if_neg hw]at hstep';exact hnext undef w (hrefl w) hstep'
 refine wp_region_lit ?_
 have:=key n 0 (by omega) (fun _=>undef) a0 w0 (zCh _ _ _ _ _ (fun j=>by
  rcases Nat.lt_or_ge j n with h|h
  ·rw[zAi _ _ _ _ (by omega)];simp
  ·rw[zDy _ _ _ _ (by omega)])).symm (fun j h=>by omega) (hrefl _)
 simpa using this
def zF0 (R:World->World->Prop) (s:Value->World->Prop):Prop:=∀ v w w',s v w->R w w'->s v w'
theorem zBr {R:World->World->Prop} (x:Value):zF0 R (fun v _=>v=x):=fun _ _ _ h _=>h
def zDo (R:World->World->Prop):List (Value->World->Prop)->Prop
 | []=>True
 | s::r=>zF0 R s/\zDo R r
theorem zDA {R:World->World->Prop}:∀ (L:List (Value->World->Prop)) (i:Nat),zDo R L->zF0 R (zAO L i)
 | [],_,_=>fun _ _ _ h _=>h
 | _::_,0,h=>h.1
 | _::r,i+1,h=>zDA r i h.2
def OblQ (P:Program) (l hd:List Oper) (R:World->World->Prop) (L:List (Value->World->Prop)) (a0:Act) (w0:World):List Oper->Nat->Prop
 | [],_=>True
 | o::r,i=>(∀ a w,QCtx hd (zAO L) R a0 w0 i a w->zB5 P l.toArray R o a w (zAO L i))/\OblQ P l hd R L a0 w0 r (i+1)
theorem OblQ.get {P:Program} {l hd:List Oper} {R:World->World->Prop} {L:List (Value->World->Prop)} {a0:Act} {w0:World}:∀ (r:List Oper) (k:Nat),OblQ P l hd R L a0 w0 r k->∀ i o,r[i]?=some o ->
  ∀ a w,QCtx hd (zAO L) R a0 w0 (k+i) a w->zB5 P l.toArray R o a w (zAO L (k+i))
 | [],_,_,_,_,h=>by simp at h
 | o::r,k,h,0,o',h'=>by simp at h';subst h';exact h.1
 | o::r,k,h,i+1,o',h'=>by
  have:=OblQ.get r (k+1) h.2 i o' (by simpa using h')
  rwa [show k+1+i=k+(i+1) from by omega]at this
theorem zGX {P:Program} {id:Nat} {Q:Exit->Act->World->Prop} {a0:Act} {w0:World} {l:List Oper} (R:World->World->Prop) (hrefl:∀ w,R w w) (htrans:∀ u v w,R u v->R v w->R u w) (n:Nat) (L:List (Value->World->Prop)) (hst:zDo R L)
  (hB:seqB l n=true) (hsz:(l.take n).all (fun o=>match o.dst with|some d=>decide (d<a0.tmps.size)|none=>true)=true)
  (hstep:OblQ P l (l.take n) R L a0 w0 (l.take n) 0)
  (hend:∀ vals w,R w0 w->(∀ i,i<n->zAO L i (vals i) w)->wpList P l.toArray Q (l.drop n) (zBI (l.take n) 0 vals a0) w) :
  (Code.region id l.toArray false).wp P Q a0 w0 :=
 zGN R hrefl htrans n (zAO L) (fun i _ v w w' h hb=>zDA L i hst v w w' h hb) hB hsz (fun i o hi ho a w hc=>by
   have:=OblQ.get (l.take n) 0 hstep i o (by rw[List.getElem?_take_of_lt hi];exact ho) a w (by rwa [Nat.zero_add])
   rwa [Nat.zero_add]at this) hend
section
variable {P:Program} {ops:Array Oper} {o:Oper} {a:Act} {w:World} {R:World->World->Prop}
theorem zQb {v:Value} (hrefl:∀ w,R w w) (h:zA4 P ops o a w (fun v' w'=>v'=v/\w'=w)):zB5 P ops R o a w (fun v' _=>v'=v):=by
 unfold zA4 zKG at h;unfold zB5;split
 ·rename_i hw;rw[if_pos hw]at h;exact Oper.wp_mono (fun a' w' ⟨u,e,_,h1,h2⟩=>⟨u,e,h2 ▸ hrefl w,h1⟩) h
 ·rename_i hw;rw[if_neg hw]at h;exact h.1
theorem zAH {v:Value} (hrefl:∀ w,R w w) (hg:Region.wanted o (yielded ops a.tmps)=true) (hr:(execOp a.eval o).run P w=.ok (.value v) w):zB5 P ops R o a w (fun v' _=>v'=v) :=
 zQb hrefl (zBo hg hr (Below.refl _ w) ⟨rfl,rfl⟩)
theorem zAR {x:Operand} {v:Value} (hrefl:∀ w,R w w) (hg:Region.wanted o (yielded ops a.tmps)=true) (hop:o.op=Op.move x) (hx:a.eval x=v):zB5 P ops R o a w (fun v' _=>v'=v):=by
 refine zAH hrefl hg ?_
 simp only[execOp,hop,hx];rfl
theorem zBJ {x y z:Operand} {b:Bool} {v:Value} (hrefl:∀ w,R w w) (hg:Region.wanted o (yielded ops a.tmps)=true) (hop:o.op=Op.pick x y z) (hx:a.eval x=.bool b) (hv:(if b then a.eval y else a.eval z)=v):zB5 P ops R o a w (fun v' _=>v'=v):=by
 refine zAH hrefl hg ?_
 simp only[execOp,hop,hx];subst hv
 cases b<;>rfl
theorem zAw {f:FuncId} {xs:Array Operand} {ts:Array TypeId} {vs:Array Value} {v:Value} (hg:Region.wanted o (yielded ops a.tmps)=true)
  (hop:o.op=Op.call {callee:=Callee.value (Operand.func f),args:=xs,argTypes:=ts}) (hf:∀ args w,(callFunc f args).run P w=.ok (.enter f args) w) (hx:xs.map a.eval=vs)
  (hc:Calls P f vs w fun e w'=>e=.returned v/\R w w'):zB5 P ops R o a w (fun v' _=>v'=v):=by
 unfold zB5;rw[if_pos hg];unfold Oper.wp;have hr:(execOp a.eval o).run P w=.ok (.enter f vs) w:=by
  simp only[execOp,hop];simp[resolve,hx];rw[show a.eval (Operand.func f)=.func (.func f) #[] #[] from rfl]
  simp[Deferred.ofValue,invoke,hf]
 rw[hr];exact hc.mono fun e w' ⟨he,hb⟩=>by subst he;exact⟨v,rfl,hb,rfl⟩
end
theorem QCtx.d {l:List Oper} {Ss:Nat->Value->World->Prop} {R:World->World->Prop} {a0:Act} {w0:World} {i:Nat} {a:Act} {w:World} (h:QCtx l Ss R a0 w0 i a w) (j d:Nat) (h1:decide (j<i)=true:=by exact rfl) (h2:(l[j]?).bind (·.dst)=some d:=by exact rfl):Ss j (a.eval (.tmp d)) w:=h.dep j d h1 h2
theorem QCtx.f {l:List Oper} {Ss:Nat->Value->World->Prop} {R:World->World->Prop} {a0:Act} {w0:World} {i:Nat} {a:Act} {w:World} (h:QCtx l Ss R a0 w0 i a w) (t:Nat) (h1:l.any (fun o=>o.dst == some t)=false:=by exact rfl):a.eval (.tmp t)=a0.eval (.tmp t):=h.frame t h1
structure RCtxR (l:List Oper) (Ss:Nat->Value->World->Prop) (R:World->World->Prop) (a0:Act) (w0:World) (o:Oper) (a:Act) (w:World):Prop where
 rel:R w0 w
 frame:∀ t,l.any (fun o=>o.dst == some t)=false->a.eval (.tmp t)=a0.eval (.tmp t)
 dep:∀ j d,o.after.toList.any (fun e=>Region.binds .any e&&e.on == j)=true->(l[j]?).bind (·.dst)=some d->Ss j (a.eval (.tmp d)) w
def OblR (P:Program) (l hd:List Oper) (R:World->World->Prop) (L:List (Value->World->Prop)) (a0:Act) (w0:World):List Oper->Nat->Prop
 | [],_=>True
 | o::r,i=>(∀ a w,RCtxR hd (zAO L) R a0 w0 o a w->zB5 P l.toArray R o a w (zAO L i))/\OblR P l hd R L a0 w0 r (i+1)
theorem OblR.get {P:Program} {l hd:List Oper} {R:World->World->Prop} {L:List (Value->World->Prop)} {a0:Act} {w0:World}:∀ (r:List Oper) (k:Nat),OblR P l hd R L a0 w0 r k->∀ i o,r[i]?=some o ->
  ∀ a w,RCtxR hd (zAO L) R a0 w0 o a w->zB5 P l.toArray R o a w (zAO L (k+i))
 | [],_,_,_,_,h=>by simp at h
 | o::r,k,h,0,o',h'=>by simp at h';subst h';exact h.1
 | o::r,k,h,i+1,o',h'=>by
  have:=OblR.get r (k+1) h.2 i o' (by simpa using h')
  rwa [show k+1+i=k+(i+1) from by omega]at this
theorem RCtxR.d {l:List Oper} {Ss:Nat->Value->World->Prop} {R:World->World->Prop} {a0:Act} {w0:World} {o:Oper} {a:Act} {w:World} (h:RCtxR l Ss R a0 w0 o a w) (j d:Nat) (h1:o.after.toList.any (fun e=>Region.binds .any e&&e.on == j)=true:=by exact rfl) (h2:(l[j]?).bind (·.dst)=some d:=by exact rfl):Ss j (a.eval (.tmp d)) w:=h.dep j d h1 h2
theorem RCtxR.f {l:List Oper} {Ss:Nat->Value->World->Prop} {R:World->World->Prop} {a0:Act} {w0:World} {o:Oper} {a:Act} {w:World} (h:RCtxR l Ss R a0 w0 o a w) (t:Nat) (h1:l.any (fun o=>o.dst == some t)=false:=by exact rfl):a.eval (.tmp t)=a0.eval (.tmp t):=h.frame t h1
def zHa:List Oper->Bool
 | []=>true
 | o::r=>(o.dst.isNone || r.all (fun o'=>o'.dst != o.dst))&&zHa r
def zO7 (ops:Array Oper) (n:Nat):Bool :=
 decide (n<=ops.size)&&zHa (ops.toList.take n) &&
 ((ops.toList.take n).zipIdx.all fun (o,i)=>o.after.all fun e=>!Region.binds .any e || decide (e.on<i)) &&
 (decide (n=ops.size) || (Region.sinkB .any ops n&&Region.chainB .any ops n)) &&
 Region.seqB .any ops (ops.size - n) n (zAe n (ops.size - n))
def ownT (o:Oper):Option Tmp:=match o.op with|.insert _ (.tmp d) _ _=>some d|.store _ (.tmp d) _=>some d|_=>none
def zGF (o:Oper) (a:Act):Value:=match ownT o with|some d=>a.eval (.tmp d)|none=>undef
def zNE (l:List Oper) (listed:Nat->Bool) (vals:Nat->Value):Prop :=
 ∀ i o d j oj,l[i]?=some o->o.dst=none->ownT o=some d->l[j]?=some oj->oj.dst=some d->o.after.toList.any (fun e=>Region.binds .any e&&e.on == j)=true->listed i=true->vals i=vals j
theorem zId:∀ (l:List Oper) (k i:Nat) (listed:Array Bool) (vals:Nat->Value) (a:Act) (o:Oper) (d:Tmp) (v:Value),zHa l=true->l[i]?=some o->o.dst=some d ->
  listed.getD (k+i) true=false ->
  fill l k (listed.setIfInBounds (k+i) true) (fun j=>if j=k+i then v else vals j) a=(fill l k listed vals a).put (some d) v
 | [],_,_,_,_,_,_,_,_,_,h,_,_=>by simp at h
 | o::r,k,0,listed,vals,a,o',d,v,hd,h,hod,hl=>by
  simp at h;subst h;simp only[zHa,Bool.and_eq_true,Bool.or_eq_true]at hd;obtain⟨hall,hr⟩:=hd;have hne:∀ o' ∈ r,o'.dst≠some d:=by
   intro o' ho' e;rcases hall with h0|hall
   ·rw[hod]at h0;simp at h0
   ·have:=List.all_eq_true.1 hall o' ho';rw[e,hod]at this;simp at this
  have h1:(listed.setIfInBounds k true).getD k false=true:=by
   have hk:k<listed.size:=by
    rcases Nat.lt_or_ge k listed.size with h'|h'
    ·exact h'
    ·simp[Array.getElem?_eq_none h']at hl
   simp[hk]
  have h2:listed.getD k false=false:=getD_both (by simpa using hl)
  simp only[Nat.add_zero,fill,h1,h2,if_true,Bool.false_eq_true,if_false,hod];rw[zHr r (k+1) _ _ a d v hne]
  congr 1
  refine zCR r (k+1) _ _ _ _ a (fun i hi=>⟨?_,by rw[if_neg (by omega)]⟩)
  exact getD_set_ne false (by omega)
 | o::r,k,i+1,listed,vals,a,o',d,v,hd,h,hod,hl=>by
  simp only[zHa,Bool.and_eq_true]at hd;simp only[List.getElem?_cons_succ]at h;have ih:=zId r (k+1) i listed vals (if listed.getD k false then a.put o.dst (vals k) else a) o' d v hd.2 h hod (by rwa [show k+1+i=k+(i+1) from by omega])
  simp only[fill];rw[show k+(i+1)=k+1+i from by omega,getD_set_ne false (by omega),if_neg (by omega:¬ k=k+1+i)]
  exact ih
theorem zGu:∀ (l:List Oper) (k i:Nat) (listed:Array Bool) (vals:Nat->Value) (a:Act) (o:Oper) (v:Value),l[i]?=some o->o.dst=none ->
  listed.getD (k+i) true=false ->
  fill l k (listed.setIfInBounds (k+i) true) (fun j=>if j=k+i then v else vals j) a=fill l k listed vals a
 | [],_,_,_,_,_,_,_,h,_,_=>by simp at h
 | o::r,k,0,listed,vals,a,o',v,h,hod,hl=>by
  simp at h;subst h;have h2:listed.getD k false=false:=getD_both (by simpa using hl)
  simp only[Nat.add_zero,fill,h2,hod,Bool.false_eq_true,if_false];have hp:∀ (b:Bool) (u:Value),(if b=true then a.put none u else a)=a:=by intro b u;cases b<;>rfl
  rw[hp];refine zCR r (k+1) _ _ _ _ a (fun i hi=>⟨?_,by rw[if_neg (by omega)]⟩)
  exact getD_set_ne false (by omega)
 | o::r,k,i+1,listed,vals,a,o',v,h,hod,hl=>by
  simp only[List.getElem?_cons_succ]at h;have ih:=zGu r (k+1) i listed vals (if listed.getD k false then a.put o.dst (vals k) else a) o' v h hod (by rwa [show k+1+i=k+(i+1) from by omega])
  simp only[fill];rw[show k+(i+1)=k+1+i from by omega,getD_set_ne false (by omega),if_neg (by omega:¬ k=k+1+i)]
  exact ih
theorem zHP:∀ (l:List Oper) (k:Nat) (listed:Array Bool) (vals:Nat->Value) (a:Act) (j:Nat) (o:Oper) (d:Tmp),zHa l=true->l[j]?=some o->o.dst=some d->d<a.tmps.size ->
  listed.getD (k+j) false=true->(fill l k listed vals a).eval (.tmp d)=vals (k+j)
 | [],_,_,_,_,_,_,_,_,h,_,_,_=>by simp at h
 | o::r,k,listed,vals,a,0,o',d,hd,h,hod,hsz,hl=>by
  simp at h;subst h;simp only[zHa,Bool.and_eq_true,Bool.or_eq_true]at hd;obtain⟨hall,hr⟩:=hd;simp only[Nat.add_zero]at hl ⊢;simp only[fill,hl,if_true,hod]
  rw[zBX r (k+1) listed vals _ d (by
   rw[Bool.eq_false_iff];intro hc;obtain⟨o',ho',e⟩:=List.any_eq_true.1 hc;rcases hall with h0|hall
   ·rw[hod]at h0;simp at h0
   ·have:=List.all_eq_true.1 hall o' ho';rw[hod]at this
    simp at e this;exact this e),zEf a d _ hsz]
 | o::r,k,listed,vals,a,j+1,o',d,hd,h,hod,hsz,hl=>by
  simp only[zHa,Bool.and_eq_true]at hd;simp only[fill];rw[show k+(j+1)=k+1+j from by omega]at hl ⊢
  exact zHP r (k+1) listed vals _ j o' d hd.2 (by simpa using h) hod (by split<;>simp[zHo,hsz]) hl
theorem zFS {P:Program} {id:Nat} {Q:Exit->Act->World->Prop} {a0:Act} {w0:World} {l:List Oper} (R:World->World->Prop) (htrans:∀ u v w,R u v->R v w->R u w) (hrefl:∀ w,R w w) (hdrew:∀ w:World,R w {w with drawn:=w.drawn+1}) (n:Nat) (Ss:Nat->Value->World->Prop)
  (hm:P.follows .mixedOrders=true) (hB:zO7 l.toArray n=true) (hsz:(l.take n).all (fun o=>match o.dst with|some d=>decide (d<a0.tmps.size)|none=>true)=true)
  (hst:∀ i,i<n->∀ v w w',Ss i v w->R w w'->Ss i v w')
  (hstep:∀ i o,i<n->l[i]?=some o->∀ a w,RCtxR (l.take n) Ss R a0 w0 o a w->zB5 P l.toArray R o a w (fun v w'=>Ss i v w'/\(o.dst=none->v=zGF o a)))
  (hend:∀ vals w,R w0 w->(∀ i,i<n->Ss i (vals i) w)->zNE (l.take n) (fun _=>true) vals->wpList P l.toArray Q (l.drop n) (zBI (l.take n) 0 vals a0) w) :
  (Code.region id l.toArray true).wp P Q a0 w0:=by
 simp only[zO7,Bool.and_eq_true,decide_eq_true_eq]at hB;obtain⟨⟨⟨⟨hn,hd⟩,haf⟩,hsink⟩,hseq⟩:=hB;have hn':n<=l.length:=by simpa using hn
 have hd':zHa (l.take n)=true:=hd;have htl:(l.take n).length=n:=by simp;omega
 have key:∀ (rem:List Nat) (f:Nat),rem.length=f->rem.Nodup->∀ (listed:Array Bool) (a:Act) (w:World),HeadInv .any l.toArray n listed ->
   (∀ i,i ∈ rem↔(i<n/\listed.getD i true=false))->(∃ vals,a=fill (l.take n) 0 listed vals a0/\(∀ i,i<n->listed.getD i false=true->Ss i (vals i) w)/\zNE (l.take n) (fun i=>listed.getD i false) vals)->R w0 w ->
   wpAny P .any l.toArray Q (f+(l.toArray.size - n)) listed a w:=by
  intro rem f
  induction f generalizing rem with
  | zero =>
   intro hl _ listed a w inv hrem ⟨vals,ha,hv,hlk⟩ hb;have hr:rem=[]:=List.length_eq_zero_iff.1 hl;subst hr;have hall:∀ i,i<n->listed.getD i false=true:=by
    intro i hi;have h1:¬ listed.getD i true=false:=fun h=>by have:=(hrem i).2 ⟨hi,h⟩;simp at this
    have h2:i<listed.size:=by rw[inv.size];omega
    rw[Array.getD_eq_getD_getElem?,Array.getElem?_eq_getElem h2]at h1 ⊢
    simpa using h1
   have hlist:=zDJ hn inv hall;have hw:=hend vals w hb (fun i hi=>hv i hi (hall i hi)) (fun i oi d j oj h1 h2 h3 h4 h5 h6 _=>hlk i oi d j oj h1 h2 h3 h4 h5 h6 (hall i (by have:=(List.getElem?_eq_some_iff.1 h1).1;omega)))
   rw[← zDG (l.take n) 0 listed vals a0 (fun i hi=>by rw[Nat.zero_add];exact hall i (by omega)),← ha]at hw
   rw[Nat.zero_add];have hdl:(l.drop n).length=l.toArray.size - n:=by simp
   rw[← hdl];refine wpAny_of_seq (l.drop n) n listed a w (fun j=>by simp) ?_ hw
   rw[hdl,hlist];exact hseq
  | succ f ih =>
   intro hl hnd listed a w inv hrem ⟨vals,ha,hv,hlk⟩ hb;have hex:∃ i,i ∈ rem/\∀ j,j ∈ rem->i<=j:=by
    have:∀ (r:List Nat),r≠[]->∃ i,i ∈ r/\∀ j,j ∈ r->i<=j:=by
     intro r
     induction r with
     | nil=>intro h;exact(h rfl).elim
     | cons x r ihr =>
      intro _
      by_cases hr:r=[]
      ·subst hr;exact⟨x,by simp,by simp⟩
      ·obtain⟨i,hi,hmin⟩:=ihr hr
       by_cases hx:x<=i
       ·exact⟨x,by simp,fun j hj=>by rcases List.mem_cons.1 hj with rfl|hj;exact Nat.le_refl _;exact Nat.le_trans hx (hmin j hj)⟩
       ·exact⟨i,by simp[hi],fun j hj=>by rcases List.mem_cons.1 hj with rfl|hj;omega;exact hmin j hj⟩
    exact this rem (by intro h;subst h;simp at hl)
   have hready:Region.ready .any l.toArray listed≠[]:=by
    obtain⟨i,hi,hmin⟩:=hex;obtain⟨hin,hil⟩:=(hrem i).1 hi;have hlt:i<l.length:=by omega
    have hmem:i ∈ Region.ready .any l.toArray listed:=by
     refine mem_ready.2 ⟨hil,l[i],by simp[hlt],fun e he hbd=>?_⟩
     have h1:=List.all_eq_true.1 haf (l[i],i) (by
      rw[List.mem_zipIdx_iff_getElem?];simp[hin,hlt])
     have h2:=Array.all_eq_true'.1 h1 e he;simp[hbd]at h2;have hj:¬ e.on ∈ rem:=fun h=>by have:=hmin _ h;omega
     have h3:¬ listed.getD e.on true=false:=fun h=>hj ((hrem _).2 ⟨by omega,h⟩)
     have h4:e.on<listed.size:=by rw[inv.size];simp;omega
     rw[Array.getD_eq_getD_getElem?,Array.getElem?_eq_getElem h4]at h3 ⊢
     simpa using h3
    intro h;rw[h]at hmem;simp at hmem
   rw[show f+1+(l.toArray.size - n)=(f+(l.toArray.size - n))+1 from by omega]
   refine⟨fun h=>(hready h).elim,fun i hi=>?_⟩
   obtain⟨hil,o,ho,haft⟩:=mem_ready.1 hi;have hin:i<n:=by
    rcases Nat.lt_or_ge i n with h|h
    ·exact h
    ·exfalso
     obtain⟨i',hi',_⟩:=hex;obtain⟨hin',hil'⟩:=(hrem i').1 hi';have hisz:i<l.toArray.size:=(Array.getElem?_eq_some_iff.1 ho).1;simp only[Bool.or_eq_true,decide_eq_true_eq,Bool.and_eq_true]at hsink;rcases hsink with h0|⟨hs,hc⟩
     ·omega
     ·exact tail_waits hs hc (by omega) inv (n - i') i' rfl hin' hil' i h hi
   have ho':l[i]?=some o:=by simpa using ho
   have hot:(l.take n)[i]?=some o:=by rw[List.getElem?_take_of_lt hin];exact ho'
   have hbd:∀ (j:Nat) (oj:Oper) (dj:Tmp),(l.take n)[j]?=some oj->oj.dst=some dj->dj<a0.tmps.size:=by
    intro j oj dj hj hdj;have:=List.all_eq_true.1 hsz oj (List.mem_of_getElem? hj)
    simpa [hdj] using this
   have hctx:RCtxR (l.take n) Ss R a0 w0 o a w:=by
    refine⟨hb,fun t ht=>by rw[ha];exact zBX _ _ _ _ _ t ht,fun j dj hj hdj=>?_⟩
    obtain⟨e,he,hbe⟩:=List.any_eq_true.1 hj;simp only[Bool.and_eq_true,beq_iff_eq]at hbe;have hlj:=haft e (Array.mem_toList_iff.1 he) hbe.1;rw[hbe.2]at hlj;obtain⟨oj,hoj,hdj'⟩:=Option.bind_eq_some_iff.1 hdj;have hjn:j<n:=by have:=(List.getElem?_eq_some_iff.1 hoj).1;omega
    rw[ha,zHP _ 0 listed vals a0 j oj dj hd' hoj hdj' (hbd j oj dj hoj hdj') (by rw[Nat.zero_add];exact hlj),Nat.zero_add]
    exact hv j hjn hlj
   have hstep':=hstep i o hin ho' a w hctx;have hclosed:∀ k ok,l[k]?=some ok->listed.getD k false=true->∀ j,ok.after.toList.any (fun e=>Region.binds .any e&&e.on == j)=true->listed.getD j false=true:=by
    intro k ok hk hlk' j hj;obtain⟨e,he,hbe⟩:=List.any_eq_true.1 hj;simp only[Bool.and_eq_true,beq_iff_eq]at hbe;have:=inv.closed k ok (by simpa using hk) hlk' e (Array.mem_toList_iff.1 he) hbe.1
    rwa [hbe.2]at this
   have hownd:∀ j,o.after.toList.any (fun e=>Region.binds .any e&&e.on == j)=true->listed.getD j false=true:=by
    intro j hj;obtain⟨e,he,hbe⟩:=List.any_eq_true.1 hj;simp only[Bool.and_eq_true,beq_iff_eq]at hbe;have:=haft e (Array.mem_toList_iff.1 he) hbe.1
    rwa [hbe.2]at this
   have hnl:∀ j,listed.getD j false=true->j≠i:=by
    intro j hj e;subst e;rw[getD_both hil]at hj;cases hj
   have hnext:∀ v w',R w w'->Ss i v w'->(o.dst=none->v=zGF o a)->wpAny P .any l.toArray Q (f+(l.toArray.size - n)) (listed.setIfInBounds i true) (a.put o.dst v) w':=by
    intro v w' hbw hsv hgh;have hmemi:i ∈ rem:=(hrem i).2 ⟨hin,hil⟩;refine ih (rem.erase i) (by rw[List.length_erase_of_mem hmemi,hl];rfl) (hnd.erase i) _ _ w' (inv.set hi hin) (fun j=>?_) ⟨fun j=>if j=i then v else vals j,?_,fun j hj hlj=>?_,?_⟩ (htrans _ _ _ hb hbw)
    ·rw[hnd.mem_erase_iff,hrem j]
     by_cases hji:j=i
     ·subst hji;have hjs:j<listed.size:=by rw[inv.size];simp;omega
      simp[hjs]
     ·rw[getD_set_ne true (fun e=>hji e.symm)]
      simp[hji]
    ·cases hod:o.dst with
     | some d =>
      have:=zId (l.take n) 0 i listed vals a0 o d v hd' hot hod (by rw[Nat.zero_add];exact hil)
      rw[Nat.zero_add]at this;rw[this,← ha]
     | none =>
      have:=zGu (l.take n) 0 i listed vals a0 o v hot hod (by rw[Nat.zero_add];exact hil)
      rw[Nat.zero_add]at this;rw[this,← ha];rfl
    ·by_cases hji:j=i
     ·subst hji;simpa using hsv
     ·show Ss j (if j=i then v else vals j) w'
      rw[if_neg hji];rw[getD_set_ne false (fun e=>hji e.symm)]at hlj
      exact hst j hj _ _ _ (hv j hj hlj) hbw
    ·intro k ok d j oj h1 h2 h3 h4 h5 h6 h7
     show (if k=i then v else vals k)=(if j=i then v else vals j)
     by_cases hki:k=i
     ·subst hki;rw[hot]at h1;cases h1
      have hjl:=hownd j h6;rw[if_pos rfl,if_neg (hnl j hjl),hgh h2];unfold zGF;rw[h3]
      show a.eval (.tmp d)=vals j
      rw[ha,zHP _ 0 listed vals a0 j oj d hd' h4 h5 (hbd j oj d h4 h5) (by rw[Nat.zero_add];exact hjl),Nat.zero_add]
     ·replace h7:(listed.setIfInBounds i true).getD k false=true:=h7;rw[getD_set_ne false (fun e=>hki e.symm)]at h7
      have hkn:k<n:=by have:=(List.getElem?_eq_some_iff.1 h1).1;omega
      have hjl:=hclosed k ok (by rw[← h1,List.getElem?_take_of_lt hkn]) h7 j h6
      rw[if_neg hki,if_neg (hnl j hjl)];exact hlk k ok d j oj h1 h2 h3 h4 h5 h6 h7
   unfold wpOp;simp only[ho];unfold zB5 at hstep';split
   ·rename_i hw;rw[if_pos hw]at hstep';refine .inl (zDj (Oper.wp_mono (fun a' w' ⟨v,e,hbw,hsv,hgh⟩=>?_) hstep'))
    subst e;exact hnext v w' hbw hsv hgh
   ·rename_i hw;rw[if_neg hw]at hstep';exact hnext undef w (hrefl w) hstep'.1 hstep'.2
 refine wp_region_any hm ?_
 have h0:=key (List.range n) n (by simp) List.nodup_range (Array.replicate l.toArray.size false) a0 {w0 with drawn:=w0.drawn+1}
  ⟨by simp,fun j oj _ hl=>(by rw[getD_replicate_false]at hl;cases hl),fun t _ ht=>getD_in (by simpa using ht) (getD_replicate_false _ _)⟩
  (fun i=>by
   rw[List.mem_range];constructor
   ·intro h;exact⟨h,getD_in (by simp;omega) (getD_replicate_false _ _)⟩
   ·intro h;exact h.1)
  ⟨fun _=>undef,(zCh _ _ _ _ _ (fun i=>getD_replicate_false _ _)).symm,fun i _ h=>(by rw[getD_replicate_false]at h;cases h),fun _ _ _ _ _ _ _ _ _ _ _ _=>rfl⟩
  (hdrew w0)
 rw[show n+(l.toArray.size - n)=l.toArray.size from by omega]at h0
 exact h0
def OblM (P:Program) (l hd:List Oper) (R:World->World->Prop) (L:List (Value->World->Prop)) (a0:Act) (w0:World):List Oper->Nat->Prop
 | [],_=>True
 | o::r,i=>(∀ a w,RCtxR hd (zAO L) R a0 w0 o a w->zB5 P l.toArray R o a w (fun v w'=>zAO L i v w'/\(o.dst=none->v=zGF o a)))/\OblM P l hd R L a0 w0 r (i+1)
theorem OblM.get {P:Program} {l hd:List Oper} {R:World->World->Prop} {L:List (Value->World->Prop)} {a0:Act} {w0:World}:∀ (r:List Oper) (k:Nat),OblM P l hd R L a0 w0 r k->∀ i o,r[i]?=some o ->
  ∀ a w,RCtxR hd (zAO L) R a0 w0 o a w->zB5 P l.toArray R o a w (fun v w'=>zAO L (k+i) v w'/\(o.dst=none->v=zGF o a))
 | [],_,_,_,_,h=>by simp at h
 | o::r,k,h,0,o',h'=>by simp at h';subst h';exact h.1
 | o::r,k,h,i+1,o',h'=>by
  have:=OblM.get r (k+1) h.2 i o' (by simpa using h')
  rwa [show k+1+i=k+(i+1) from by omega]at this
theorem zCb {P:Program} {id:Nat} {Q:Exit->Act->World->Prop} {a0:Act} {w0:World} {l:List Oper} (R:World->World->Prop) (hrefl:∀ w,R w w) (htrans:∀ u v w,R u v->R v w->R u w) (hdrew:∀ w:World,R w {w with drawn:=w.drawn+1}) (n:Nat) (L:List (Value->World->Prop)) (hst:zDo R L)
  (hm:P.follows .mixedOrders=true) (hB:zO7 l.toArray n=true) (hsz:(l.take n).all (fun o=>match o.dst with|some d=>decide (d<a0.tmps.size)|none=>true)=true)
  (hstep:OblM P l (l.take n) R L a0 w0 (l.take n) 0)
  (hend:∀ vals w,R w0 w->(∀ i,i<n->zAO L i (vals i) w)->zNE (l.take n) (fun _=>true) vals->wpList P l.toArray Q (l.drop n) (zBI (l.take n) 0 vals a0) w) :
  (Code.region id l.toArray true).wp P Q a0 w0 :=
 zFS R htrans hrefl hdrew n (zAO L) hm hB hsz (fun i _ v w w' h hb=>zDA L i hst v w w' h hb) (fun i o hi ho a w hc=>by
   have:=OblM.get (l.take n) 0 hstep i o (by rw[List.getElem?_take_of_lt hi];exact ho) a w hc
   rwa [Nat.zero_add]at this) hend
def zIo (md:Region.Mode) (ops:Array Oper):List Nat->Array Bool->Bool
 | [],listed=>(Region.ready md ops listed).isEmpty
 | i::r,listed=>decide (Region.ready md ops listed=[i])&&zIo md ops r (listed.setIfInBounds i true)
theorem zCq {P:Program} {md:Region.Mode} {ops:Array Oper} {Q:Exit->Act->World->Prop}:∀ (is:List Nat) (os:List Oper) (listed:Array Bool) (a:Act) (w:World),os.length=is.length->(∀ (j i:Nat),is[j]?=some i->ops[i]?=os[j]?) ->
  zIo md ops is listed=true->wpList P ops Q os a w->wpAny P md ops Q is.length listed a w
 | [],os,_,_,_,hl,_,hB,h=>by
  have:os=[]:=List.length_eq_zero_iff.1 hl;subst this;exact⟨by simpa [zIo] using hB,h⟩
 | i::r,[],_,_,_,hl,_,_,_=>by simp at hl
 | i::r,o::os,listed,a,w,hl,hg,hB,h=>by
  have h0:ops[i]?=some o:=by simpa using hg 0 i rfl
  simp only[zIo,Bool.and_eq_true,decide_eq_true_eq]at hB;refine⟨fun h1=>(by rw[hB.1]at h1;cases h1),fun k hk=>?_⟩
  rw[hB.1]at hk;have hik:k=i:=by simpa using hk
  subst hik;have hw:wpOp P ops Q k (wpList P ops Q os) a w:=by unfold wpOp;simp only[h0];exact h
  exact wpOp_mono (fun a' w' h'=>zCq r os _ a' w' (by simpa using hl) (fun j i hj=>by simpa using hg (j+1) i (by simpa using hj)) hB.2 h') hw
def zCw (n e g:Nat):Array Bool:=((List.range n).map (fun i=>i != e)++List.replicate g false).toArray
def zQB (ops:Array Oper) (n e:Nat):Bool :=
 (List.range n).all fun i=>i == e || (List.range (n+1)).any fun j=>decide (i<j)&&(j != e)&&(match ops[j]? with|some o=>o.after.toList.any (fun ed=>Region.binds .any ed&&ed.on == i)|none=>false)
def zKk (ops:Array Oper) (n e:Nat):Bool :=
 decide (n<=ops.size)&&zCe (ops.toList.take n) &&
 ((ops.toList.take n).zipIdx.all fun (o,i)=>o.after.all fun e=>!Region.binds .any e || decide (e.on<i)) &&
 zQB ops n e&&(ops.toList.zipIdx.all fun (o,t)=>decide (t<=n) || o.after.toList.any (fun ed=>Region.binds .any ed&&decide (n<=ed.on)&&decide (ed.on<t))) &&
 Region.seqB .any ops (ops.size - n) n (zAe n (ops.size - n)) &&
 zIo .any ops (e::List.range' (n+1) (ops.size - n - 1)) ((zCw n e (ops.size - n)).setIfInBounds n true)&&decide (e<n)
def zHg (l:List Oper) (n e:Nat):List Oper:=(l.drop n).take 1++((l.drop e).take 1++l.drop (n+1))
def zCr (e:Nat):List Oper->Nat->(Nat->Value)->Act->Act
 | [],_,_,a=>a
 | o::r,k,vals,a=>zCr e r (k+1) vals (if k=e then a else a.put o.dst (vals k))
theorem zHx (e:Nat):∀ (l:List Oper) (k:Nat) (listed:Array Bool) (vals:Nat->Value) (a:Act),(∀ i,i<l.length->k+i≠e->listed.getD (k+i) false=true)->(k<=e->listed.getD e false=false)->fill l k listed vals a=zCr e l k vals a
 | [],_,_,_,_,_,_=>rfl
 | o::r,k,listed,vals,a,h,h2=>by
  simp only[fill,zCr];have ih:=zHx e r (k+1) listed vals (if k=e then a else a.put o.dst (vals k)) (fun i hi he=>by have:=h (i+1) (by simp;omega) (by omega);rwa [show k+(i+1)=k+1+i from by omega]at this) (fun hk=>h2 (by omega))
  rw[← ih]
  congr 1
  by_cases hke:k=e
  ·subst hke;rw[h2 (Nat.le_refl _),if_pos rfl];rfl
  ·have:=h 0 (by simp) (by simpa using hke)
   rw[Nat.add_zero]at this;rw[this,if_neg hke];rfl
theorem zIC {ops:Array Oper} {n e:Nat} {listed:Array Bool} (hc:zQB ops n e=true) (hn:n<=ops.size) (inv:HeadInv .any ops n listed) (o:Oper) (ho:ops[n]?=some o)
  (ha:∀ e ∈ o.after,Region.binds .any e=true->listed.getD e.on false=true):∀ k,k<n->k≠e->listed.getD k false=true:=by
 have key:∀ d k,n - k=d->k<n->k≠e->listed.getD k false=true:=by
  intro d
  induction d using Nat.strongRecOn with
  | _ d ih =>
   intro k hd hk hke;have h1:=List.all_eq_true.1 hc k (List.mem_range.2 hk);simp only[Bool.or_eq_true,beq_iff_eq]at h1;rcases h1 with h1|h1
   ·exact absurd h1 hke
   ·obtain⟨j,hj,h2⟩:=List.any_eq_true.1 h1;simp only[Bool.and_eq_true,decide_eq_true_eq,bne_iff_ne,ne_eq]at h2;obtain⟨⟨hkj,hje⟩,h3⟩:=h2;have hjn:=List.mem_range.1 hj
    cases hoj:ops[j]? with
    | none=>rw[hoj]at h3;cases h3
    | some oj =>
     rw[hoj]at h3;obtain⟨ed,hed,hb⟩:=List.any_eq_true.1 h3;simp only[Bool.and_eq_true,beq_iff_eq]at hb
     by_cases hjn':j=n
     ·subst hjn';rw[ho]at hoj;cases hoj
      have:=ha ed (Array.mem_toList_iff.1 hed) hb.1
      rwa [hb.2]at this
     ·have hlj:=ih (n - j) (by omega) j rfl (by omega) hje
      have:=inv.closed j oj hoj hlj ed (Array.mem_toList_iff.1 hed) hb.1
      rwa [hb.2]at this
 exact fun k hk hke=>key _ k rfl hk hke
theorem zGf {ops:Array Oper} {n e:Nat} {listed:Array Bool} (hn:n<=ops.size) (he:e<n) (inv:HeadInv .any ops n listed) (h:∀ i,i<n->i≠e->listed.getD i false=true) (h2:listed.getD e true=false):listed=zCw n e (ops.size - n):=by
 have hs:=inv.size;apply Array.ext
 ·simp[zCw,hs];omega
 ·intro i h1 h3
  by_cases hi:i<n
  ·by_cases hie:i=e
   ·subst hie;rw[Array.getD_eq_getD_getElem?,Array.getElem?_eq_getElem h1]at h2;simp at h2;rw[h2];simp[zCw,hi,List.getElem_append]
   ·have:=h i hi hie;rw[Array.getD_eq_getD_getElem?,Array.getElem?_eq_getElem h1]at this;simp at this;rw[this];simp[zCw,hi,List.getElem_append,hie]
  ·have:=inv.tail i (by omega) (by omega)
   rw[Array.getD_eq_getD_getElem?,Array.getElem?_eq_getElem h1]at this;simp at this;rw[this];simp[zCw,List.getElem_append,hi]
theorem zFs {P:Program} {id:Nat} {Q:Exit->Act->World->Prop} {a0:Act} {w0:World} {l:List Oper} (n e:Nat) (Ss:Nat->Value->World->Prop) (D:Nat->Bool)
  (hm:P.follows .mixedOrders=true) (hB:zKk l.toArray n e=true) (hsz:(l.take n).all (fun o=>match o.dst with|some d=>decide (d<a0.tmps.size)|none=>true)=true)
  (hst:∀ i,i<n->∀ v w w',Ss i v w->Below w.heap.size w w'->Ss i v w')
  (hlt:∀ i,i<n->D i=true->∀ v w,Ss i v w->blk v<w.heap.size)
  (hstep:∀ i o,i<n->l[i]?=some o->∀ a w,RCtx (l.take n) Ss a0 w0 o a w->zA4 P l.toArray o a w (fun v w'=>Ss i v w'/\(D i=true->w.heap.size<=blk v)))
  (hend:∀ vals w,Below w0.heap.size w0 w->(∀ i,i<n->Ss i (vals i) w)->(∀ i j,i<n->j<n->i≠j->D i=true->D j=true->blk (vals i)≠blk (vals j))->wpList P l.toArray Q (l.drop n) (zBI (l.take n) 0 vals a0) w)
  (hend2:∀ vals w,Below w0.heap.size w0 w->(∀ i,i<n->i≠e->Ss i (vals i) w)->(∀ i j,i<n->j<n->i≠e->j≠e->i≠j->D i=true->D j=true->blk (vals i)≠blk (vals j)) ->
   wpList P l.toArray Q (zHg l n e) (zCr e (l.take n) 0 vals a0) w) :
  (Code.region id l.toArray true).wp P Q a0 w0:=by
 simp only[zKk,Bool.and_eq_true,decide_eq_true_eq]at hB;obtain⟨⟨⟨⟨⟨⟨⟨hn,hd⟩,haf⟩,hclo⟩,htw⟩,hseq⟩,hord⟩,hen⟩:=hB;have hn':n<=l.length:=by simpa using hn
 have hd':zCe (l.take n)=true:=hd;have htl:(l.take n).length=n:=by simp;omega
 have key:∀ (rem:List Nat) (f:Nat),rem.length=f->rem.Nodup->∀ (listed:Array Bool) (a:Act) (w:World),HeadInv .any l.toArray n listed ->
   (∀ i,i ∈ rem↔(i<n/\listed.getD i true=false))->(∃ vals,a=fill (l.take n) 0 listed vals a0/\(∀ i,i<n->listed.getD i false=true->Ss i (vals i) w)/\∀ i j,i<n->j<n->i≠j->listed.getD i false=true->listed.getD j false=true->D i=true->D j=true->blk (vals i)≠blk (vals j))->Below w0.heap.size w0 w ->
   wpAny P .any l.toArray Q (f+(l.toArray.size - n)) listed a w:=by
  intro rem f
  induction f generalizing rem with
  | zero =>
   intro hl _ listed a w inv hrem ⟨vals,ha,hv,hp⟩ hb;have hr:rem=[]:=List.length_eq_zero_iff.1 hl;subst hr;have hall:∀ i,i<n->listed.getD i false=true:=by
    intro i hi;have h1:¬ listed.getD i true=false:=fun h=>by have:=(hrem i).2 ⟨hi,h⟩;simp at this
    have h2:i<listed.size:=by rw[inv.size];omega
    rw[Array.getD_eq_getD_getElem?,Array.getElem?_eq_getElem h2]at h1 ⊢
    simpa using h1
   have hlist:=zDJ hn inv hall;have hw:=hend vals w hb (fun i hi=>hv i hi (hall i hi)) (fun i j hi hj hij=>hp i j hi hj hij (hall i hi) (hall j hj))
   rw[← zDG (l.take n) 0 listed vals a0 (fun i hi=>by rw[Nat.zero_add];exact hall i (by omega)),← ha]at hw
   rw[Nat.zero_add];have hdl:(l.drop n).length=l.toArray.size - n:=by simp
   rw[← hdl];refine wpAny_of_seq (l.drop n) n listed a w (fun j=>by simp) ?_ hw
   rw[hdl,hlist];exact hseq
  | succ f ih =>
   intro hl hnd listed a w inv hrem ⟨vals,ha,hv,hp⟩ hb;have hex:∃ i,i ∈ rem/\∀ j,j ∈ rem->i<=j:=by
    have:∀ (r:List Nat),r≠[]->∃ i,i ∈ r/\∀ j,j ∈ r->i<=j:=by
     intro r
     induction r with
     | nil=>intro h;exact(h rfl).elim
     | cons x r ihr =>
      intro _
      by_cases hr:r=[]
      ·subst hr;exact⟨x,by simp,by simp⟩
      ·obtain⟨i,hi,hmin⟩:=ihr hr
       by_cases hx:x<=i
       ·exact⟨x,by simp,fun j hj=>by rcases List.mem_cons.1 hj with rfl|hj;exact Nat.le_refl _;exact Nat.le_trans hx (hmin j hj)⟩
       ·exact⟨i,by simp[hi],fun j hj=>by rcases List.mem_cons.1 hj with rfl|hj;omega;exact hmin j hj⟩
    exact this rem (by intro h;subst h;simp at hl)
   have hready:Region.ready .any l.toArray listed≠[]:=by
    obtain⟨i,hi,hmin⟩:=hex;obtain⟨hin,hil⟩:=(hrem i).1 hi;have hlt:i<l.length:=by omega
    have hmem:i ∈ Region.ready .any l.toArray listed:=by
     refine mem_ready.2 ⟨hil,l[i],by simp[hlt],fun e he hbd=>?_⟩
     have h1:=List.all_eq_true.1 haf (l[i],i) (by
      rw[List.mem_zipIdx_iff_getElem?];simp[hin,hlt])
     have h2:=Array.all_eq_true'.1 h1 e he;simp[hbd]at h2;have hj:¬ e.on ∈ rem:=fun h=>by have:=hmin _ h;omega
     have h3:¬ listed.getD e.on true=false:=fun h=>hj ((hrem _).2 ⟨by omega,h⟩)
     have h4:e.on<listed.size:=by rw[inv.size];simp;omega
     rw[Array.getD_eq_getD_getElem?,Array.getElem?_eq_getElem h4]at h3 ⊢
     simpa using h3
    intro h;rw[h]at hmem;simp at hmem
   rw[show f+1+(l.toArray.size - n)=(f+(l.toArray.size - n))+1 from by omega]
   refine⟨fun h=>(hready h).elim,fun i hi=>?_⟩
   obtain⟨hil,o,ho,haft⟩:=mem_ready.1 hi
   by_cases hin:i<n
   case neg =>
    have hisz:i<l.toArray.size:=(Array.getElem?_eq_some_iff.1 ho).1;have hmost:=zIC hclo hn inv;have hin':i=n:=by
     rcases Nat.lt_or_ge n i with h|h
     ·exfalso
      have h1:=List.all_eq_true.1 htw (l[i]'(by simpa using hisz),i) (by
       rw[List.mem_zipIdx_iff_getElem?];simp at hisz;simp[hisz])
      simp only[Bool.or_eq_true,decide_eq_true_eq]at h1;rcases h1 with h1|h1
      ·omega
      ·obtain⟨ed,hed,hb⟩:=List.any_eq_true.1 h1;simp only[Bool.and_eq_true,decide_eq_true_eq]at hb;have ho2:o=l[i]'(by simpa using hisz):=by
        have:=(Array.getElem?_eq_some_iff.1 ho).2;simpa using this.symm
       have h3:=haft ed (by rw[ho2];exact Array.mem_toList_iff.1 hed) hb.1.1
       have h4:=getD_both (inv.tail ed.on hb.1.2 (by omega))
       rw[h3]at h4;cases h4
     ·omega
    subst hin';have hall:∀ k,k<i->k≠e->listed.getD k false=true:=fun k hk hke=>hmost o ho haft k hk hke
    have hone:rem=[e]:=by
     have h1:∀ k ∈ rem,k=e:=by
      intro k hk;obtain⟨hk1,hk2⟩:=(hrem k).1 hk
      by_cases hke:k=e
      ·exact hke
      ·have:=hall k hk1 hke;rw[getD_both hk2]at this;cases this
     cases rem with
     | nil=>simp at hl
     | cons x r =>
      cases r with
      | nil=>rw[h1 x (by simp)]
      | cons y r =>
       have hx:=h1 x (by simp);have hy:=h1 y (by simp)
       rw[hx,hy]at hnd;simp at hnd
    subst hone;have hf:f=0:=by simp at hl;omega
    subst hf;have hel:listed.getD e true=false:=((hrem e).1 (by simp)).2
    have hlist:=zGf hn hen inv hall hel;have hw:=hend2 vals w hb (fun k hk hke=>hv k hk (hall k hk hke)) (fun k m hk hm hke hme hkm=>hp k m hk hm hkm (hall k hk hke) (hall m hm hme))
    rw[← zHx e (l.take i) 0 listed vals a0 (fun k hk hke=>by rw[Nat.zero_add]at hke ⊢;exact hall k (by omega) hke) (fun _=>getD_both hel),← ha]at hw
    have hli:l[i]?=some o:=by simpa using ho
    have hl1:(l.drop i).take 1=[o]:=by
     rw[List.drop_eq_getElem_cons (by simpa using hisz)]
     have:l[i]'(by simpa using hisz)=o:=(List.getElem?_eq_some_iff.1 hli).2
     simp[this]
    have hlt':i<l.length:=by simpa using hisz
    have heL:e<l.length:=by omega
    have hl2:(l.drop e).take 1=[l[e]]:=by rw[List.drop_eq_getElem_cons heL,List.take_succ_cons,List.take_zero]
    unfold zHg at hw;rw[hl1,hl2]at hw;have hw2:wpOp P l.toArray Q i (wpList P l.toArray Q ([l[e]]++l.drop (i+1))) a w:=by unfold wpOp;simp only[ho];exact hw
    have hlen:(e::List.range' (i+1) (l.toArray.size - i - 1)).length=0+(l.toArray.size - i):=by simp;omega
    refine wpOp_mono (fun a' w' h'=>?_) hw2
    rw[← hlen];refine zCq (e::List.range' (i+1) (l.toArray.size - i - 1)) ([l[e]]++l.drop (i+1)) _ a' w' (by simp;omega) (fun j k hk=>?_) ?_ h'
    ·cases j with
     | zero=>simp at hk;subst hk;simp[heL]
     | succ j =>
      simp only[List.getElem?_cons_succ]at hk;obtain⟨hk1,hk2⟩:=List.getElem?_eq_some_iff.1 hk;simp at hk2;subst hk2;simp
    ·rw[hlist];exact hord
   have ho':l[i]?=some o:=by simpa using ho
   have hot:(l.take n)[i]?=some o:=by rw[List.getElem?_take_of_lt hin];exact ho'
   obtain⟨d,hod⟩:∃ d,o.dst=some d:=by
    have:∀ (r:List Oper) (j:Nat),zCe r=true->r[j]?=some o->∃ d,o.dst=some d:=by
     intro r
     induction r with
     | nil=>intro j _ h;simp at h
     | cons x r ihr =>
      intro j hdd h;simp only[zCe,Bool.and_eq_true]at hdd
      cases j with
      | zero=>simp at h;subst h;exact Option.isSome_iff_exists.1 hdd.1.1
      | succ j=>exact ihr j hdd.2 (by simpa using h)
    exact this _ i hd' hot
   have hbd:∀ (j:Nat) (oj:Oper) (dj:Tmp),(l.take n)[j]?=some oj->oj.dst=some dj->dj<a0.tmps.size:=by
    intro j oj dj hj hdj;have:=List.all_eq_true.1 hsz oj (List.mem_of_getElem? hj)
    simpa [hdj] using this
   have hctx:RCtx (l.take n) Ss a0 w0 o a w:=by
    refine⟨hb,fun t ht=>by rw[ha];exact zBX _ _ _ _ _ t ht,fun j dj hj hdj=>?_,by rw[ha,zDW]⟩
    obtain⟨e,he,hbe⟩:=List.any_eq_true.1 hj;simp only[Bool.and_eq_true,beq_iff_eq]at hbe;have hlj:=haft e (Array.mem_toList_iff.1 he) hbe.1;rw[hbe.2]at hlj;obtain⟨oj,hoj,hdj'⟩:=Option.bind_eq_some_iff.1 hdj;have hjn:j<n:=by have:=(List.getElem?_eq_some_iff.1 hoj).1;omega
    rw[ha,zFA _ 0 listed vals a0 j oj dj hd' hoj hdj' (hbd j oj dj hoj hdj') (by rw[Nat.zero_add];exact hlj),Nat.zero_add]
    exact hv j hjn hlj
   have hstep':=hstep i o hin ho' a w hctx;have hnext:∀ v w',Below w.heap.size w w'->(Ss i v w'/\(D i=true->w.heap.size<=blk v))->wpAny P .any l.toArray Q (f+(l.toArray.size - n)) (listed.setIfInBounds i true) (a.put o.dst v) w':=by
    intro v w' hbw ⟨hsv,hfr⟩;have hmemi:i ∈ rem:=(hrem i).2 ⟨hin,hil⟩;refine ih (rem.erase i) (by rw[List.length_erase_of_mem hmemi,hl];rfl) (hnd.erase i) _ _ w' (inv.set hi hin) (fun j=>?_) ⟨fun j=>if j=i then v else vals j,?_,fun j hj hlj=>?_,fun j k hj hk hjk hlj hlk hDj hDk=>?_⟩ (hb.trans (hbw.mono hb.size))
    ·rw[hnd.mem_erase_iff,hrem j]
     by_cases hji:j=i
     ·subst hji;have hjs:j<listed.size:=by rw[inv.size];simp;omega
      simp[hjs]
     ·rw[getD_set_ne true (fun e=>hji e.symm)]
      simp[hji]
    ·have:=zDi (l.take n) 0 i listed vals a0 o d v hd' hot hod (by rw[Nat.zero_add];exact hil)
     rw[Nat.zero_add]at this;rw[this,← ha,hod]
    ·by_cases hji:j=i
     ·subst hji;simpa using hsv
     ·show Ss j (if j=i then v else vals j) w'
      rw[if_neg hji];rw[getD_set_ne false (fun e=>hji e.symm)]at hlj
      exact hst j hj _ _ _ (hv j hj hlj) hbw
    ·show blk (if j=i then v else vals j)≠blk (if k=i then v else vals k)
     by_cases hji:j=i
     ·subst hji;rw[if_pos rfl,if_neg (fun e=>hjk e.symm)]
      rw[getD_set_ne false hjk]at hlk;have h1:=hlt k hk hDk _ _ (hv k hk hlk);have h2:=hfr hDj;omega
     ·rw[if_neg hji];rw[getD_set_ne false (fun e=>hji e.symm)]at hlj
      by_cases hki:k=i
      ·subst hki;rw[if_pos rfl];have h1:=hlt j hj hDj _ _ (hv j hj hlj);have h2:=hfr hDk;omega
      ·rw[if_neg hki];rw[getD_set_ne false (fun e=>hki e.symm)]at hlk
       exact hp j k hj hk hjk hlj hlk hDj hDk
   unfold wpOp;simp only[ho];unfold zA4 at hstep';split
   ·rename_i hw;rw[if_pos hw]at hstep';refine .inl (zDj (Oper.wp_mono (fun a' w' ⟨v,e,hbw,hsv⟩=>?_) hstep'))
    subst e;exact hnext v w' hbw hsv
   ·rename_i hw;rw[if_neg hw]at hstep';exact hnext undef w (Below.refl _ w) hstep'
 refine wp_region_any hm ?_
 have h0:=key (List.range n) n (by simp) List.nodup_range (Array.replicate l.toArray.size false) a0 {w0 with drawn:=w0.drawn+1}
  ⟨by simp,fun j oj _ hl=>(by rw[getD_replicate_false]at hl;cases hl),fun t _ ht=>getD_in (by simpa using ht) (getD_replicate_false _ _)⟩
  (fun i=>by
   rw[List.mem_range];constructor
   ·intro h;exact⟨h,getD_in (by simp;omega) (getD_replicate_false _ _)⟩
   ·intro h;exact h.1)
  ⟨fun _=>undef,(zCh _ _ _ _ _ (fun i=>getD_replicate_false _ _)).symm,fun i _ h=>(by rw[getD_replicate_false]at h;cases h),fun i j _ _ _ h=>(by rw[getD_replicate_false]at h;cases h)⟩
  ((Below.refl _ w0).drew)
 rw[show n+(l.toArray.size - n)=l.toArray.size from by omega]at h0
 exact h0
theorem zDx {P:Program} {id:Nat} {Q:Exit->Act->World->Prop} {a0:Act} {w0:World} {l:List Oper} (n e:Nat) (L:List (Value->World->Prop)) (D:Nat->Bool)
  (hm:P.follows .mixedOrders=true) (hB:zKk l.toArray n e=true) (hsz:(l.take n).all (fun o=>match o.dst with|some d=>decide (d<a0.tmps.size)|none=>true)=true)
  (hst:zCG L) (hlt:∀ i,i<n->D i=true->∀ v w,zAO L i v w->blk v<w.heap.size)
  (hstep:Obl P l (l.take n) L D a0 w0 (l.take n) 0)
  (hend:∀ vals w,Below w0.heap.size w0 w->(∀ i,i<n->zAO L i (vals i) w)->(∀ i j,i<n->j<n->i≠j->D i=true->D j=true->blk (vals i)≠blk (vals j)) ->
   wpList P l.toArray Q (l.drop n) (zBI (l.take n) 0 vals a0) w)
  (hend2:∀ vals w,Below w0.heap.size w0 w->(∀ i,i<n->i≠e->zAO L i (vals i) w)->(∀ i j,i<n->j<n->i≠e->j≠e->i≠j->D i=true->D j=true->blk (vals i)≠blk (vals j)) ->
   wpList P l.toArray Q (zHg l n e) (zCr e (l.take n) 0 vals a0) w) :
  (Code.region id l.toArray true).wp P Q a0 w0 :=
 zFs n e (zAO L) D hm hB hsz (fun i _ v w w' h hb=>zCF L i hst v w w' h hb) hlt
  (fun i o hi ho a w hc=>by
   have:=Obl.get (l.take n) 0 hstep i o (by rw[List.getElem?_take_of_lt hi];exact ho) a w hc
   rwa [Nat.zero_add]at this) hend hend2
end
end Go.Proofs.YtphjgfjbiimkjaaGreat
