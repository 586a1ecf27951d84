/-
  Laws of walks, and walks.
-/
import Derived.Test.YtdoflhjhaciepaaGreatVd9
import Derived.Laws.Bits64b
import Derived.Laws.CopyOwn
import Derived.OrdersIn
set_option linter.unusedVariables false
set_option linter.unusedSimpArgs false
set_option maxRecDepth 100000
set_option maxHeartbeats 16000000
namespace Go.Proofs.YtdoflhjhaciepaaGreat
section
open Go.RowKit
def zIa:List Oper→Bool
 | []=>true
 | o::r=>(o.dst.isNone || r.all (fun o'=>o'.dst != o.dst))&&zIa r
def zQM (ops:Array Oper) (n:Nat):Bool :=
 decide (n≤ops.size)&&zIa (ops.toList.take n) &&
 ((ops.toList.take n).zipIdx.all fun (o,i)=>o.after.all fun e=>!Region.binds .any e || decide (e.on<i)) &&
 (decide (n=ops.size) || (Region.sinkB .any ops n&&Region.chainB .any ops n)) &&
 Region.seqB .any ops (ops.size - n) n (zAq n (ops.size - n))
def ownT (o:Oper):Option Tmp:=match o.op with|.insert _ (.tmp d) _ _=>some d|.store _ (.tmp d) _=>some d|_=>none
def zIN (o:Oper) (a:Act):Value:=match ownT o with|some d=>a.eval (.tmp d)|none=>undef
def zNP (l:List Oper) (listed:Nat→Bool) (vals:Nat→Value):Prop :=
 ∀ i o d j oj,l[i]?=some o→o.dst=none→ownT o=some d→l[j]?=some oj→oj.dst=some d→o.after.toList.any (fun e=>Region.binds .any e&&e.on == j)=true→listed i=true→vals i=vals j
theorem zJ5:∀ (l:List Oper) (k i:Nat) (listed:Array Bool) (vals:Nat→Value) (a:Act) (o:Oper) (d:Tmp) (v:Value),zIa l=true→l[i]?=some o→o.dst=some d →
  listed.getD (k+i) true=false →
  fill l k (listed.setIfInBounds (k+i) true) (fun j=>if j=k+i then v else vals j) a=(fill l k listed vals a).put (some d) v
 | [],_,_,_,_,_,_,_,_,_,h,_,_=>by simp at h
 | o::r,k,0,listed,vals,a,o',d,v,hd,h,hod,hl=>by
  simp at h;subst h;simp only[zIa,Bool.and_eq_true,Bool.or_eq_true]at hd;obtain⟨hall,hr⟩:=hd;have hne:∀ o' ∈ r,o'.dst≠some d:=by
   intro o' ho' e;rcases hall with h0|hall
   ·rw[hod]at h0;simp at h0
   ·have:=List.all_eq_true.1 hall o' ho';rw[e,hod]at this;simp at this
  have h1:(listed.setIfInBounds k true).getD k false=true:=by
   have hk:k<listed.size:=by
    rcases Nat.lt_or_ge k listed.size with h'|h'
    ·exact h'
    ·simp[Array.getElem?_eq_none h']at hl
   simp[hk]
  have h2:listed.getD k false=false:=getD_both (by simpa using hl)
  simp only[Nat.add_zero,fill,h1,h2,if_true,Bool.false_eq_true,if_false,hod];rw[zIS r (k+1) _ _ a d v hne]
  congr 1
  refine zDH r (k+1) _ _ _ _ a (fun i hi=>⟨?_,by rw[if_neg (by omega)]⟩)
  exact getD_set_ne false (by omega)
 | o::r,k,i+1,listed,vals,a,o',d,v,hd,h,hod,hl=>by
  simp only[zIa,Bool.and_eq_true]at hd;simp only[List.getElem?_cons_succ]at h;have ih:=zJ5 r (k+1) i listed vals (if listed.getD k false then a.put o.dst (vals k) else a) o' d v hd.2 h hod (by rwa [show k+1+i=k+(i+1) from by omega])
  simp only[fill];rw[show k+(i+1)=k+1+i from by omega,getD_set_ne false (by omega),if_neg (by omega:¬ k=k+1+i)]
  exact ih
theorem zHv:∀ (l:List Oper) (k i:Nat) (listed:Array Bool) (vals:Nat→Value) (a:Act) (o:Oper) (v:Value),l[i]?=some o→o.dst=none →
  listed.getD (k+i) true=false →
  fill l k (listed.setIfInBounds (k+i) true) (fun j=>if j=k+i then v else vals j) a=fill l k listed vals a
 | [],_,_,_,_,_,_,_,h,_,_=>by simp at h
 | o::r,k,0,listed,vals,a,o',v,h,hod,hl=>by
  simp at h;subst h;have h2:listed.getD k false=false:=getD_both (by simpa using hl)
  simp only[Nat.add_zero,fill,h2,hod,Bool.false_eq_true,if_false];have hp:∀ (b:Bool) (u:Value),(if b=true then a.put none u else a)=a:=by intro b u;cases b<;>rfl
  rw[hp];refine zDH r (k+1) _ _ _ _ a (fun i hi=>⟨?_,by rw[if_neg (by omega)]⟩)
  exact getD_set_ne false (by omega)
 | o::r,k,i+1,listed,vals,a,o',v,h,hod,hl=>by
  simp only[List.getElem?_cons_succ]at h;have ih:=zHv r (k+1) i listed vals (if listed.getD k false then a.put o.dst (vals k) else a) o' v h hod (by rwa [show k+1+i=k+(i+1) from by omega])
  simp only[fill];rw[show k+(i+1)=k+1+i from by omega,getD_set_ne false (by omega),if_neg (by omega:¬ k=k+1+i)]
  exact ih
theorem zIU:∀ (l:List Oper) (k:Nat) (listed:Array Bool) (vals:Nat→Value) (a:Act) (j:Nat) (o:Oper) (d:Tmp),zIa l=true→l[j]?=some o→o.dst=some d→d<a.tmps.size →
  listed.getD (k+j) false=true→(fill l k listed vals a).eval (.tmp d)=vals (k+j)
 | [],_,_,_,_,_,_,_,_,h,_,_,_=>by simp at h
 | o::r,k,listed,vals,a,0,o',d,hd,h,hod,hsz,hl=>by
  simp at h;subst h;simp only[zIa,Bool.and_eq_true,Bool.or_eq_true]at hd;obtain⟨hall,hr⟩:=hd;simp only[Nat.add_zero]at hl ⊢;simp only[fill,hl,if_true,hod]
  rw[zBp r (k+1) listed vals _ d (by
   rw[Bool.eq_false_iff];intro hc;obtain⟨o',ho',e⟩:=List.any_eq_true.1 hc;rcases hall with h0|hall
   ·rw[hod]at h0;simp at h0
   ·have:=List.all_eq_true.1 hall o' ho';rw[hod]at this
    simp at e this;exact this e),zFn a d _ hsz]
 | o::r,k,listed,vals,a,j+1,o',d,hd,h,hod,hsz,hl=>by
  simp only[zIa,Bool.and_eq_true]at hd;simp only[fill];rw[show k+(j+1)=k+1+j from by omega]at hl ⊢
  exact zIU r (k+1) listed vals _ j o' d hd.2 (by simpa using h) hod (by split<;>simp[zIt,hsz]) hl
theorem zGs {P:Program} {id:Nat} {Q:Exit→Act→World→Prop} {a0:Act} {w0:World} {l:List Oper} (R:World→World→Prop) (htrans:∀ u v w,R u v→R v w→R u w) (hrefl:∀ w,R w w) (hdrew:∀ w:World,R w {w with drawn:=w.drawn+1}) (n:Nat) (Ss:Nat→Value→World→Prop)
  (hm:P.follows .mixedOrders=true) (hB:zQM l.toArray n=true) (hsz:(l.take n).all (fun o=>match o.dst with|some d=>decide (d<a0.tmps.size)|none=>true)=true)
  (hst:∀ i,i<n→∀ v w w',Ss i v w→R w w'→Ss i v w')
  (hstep:∀ i o,i<n→l[i]?=some o→∀ a w,RCtxR (l.take n) Ss R a0 w0 o a w→zDT P l.toArray R o a w (fun v w'=>Ss i v w'∧(o.dst=none→v=zIN o a)))
  (hend:∀ vals w,R w0 w→(∀ i,i<n→Ss i (vals i) w)→zNP (l.take n) (fun _=>true) vals→wpList P l.toArray Q (l.drop n) (zBS (l.take n) 0 vals a0) w) :
  (Code.region id l.toArray true).wp P Q a0 w0:=by
 simp only[zQM,Bool.and_eq_true,decide_eq_true_eq]at hB;obtain⟨⟨⟨⟨hn,hd⟩,haf⟩,hsink⟩,hseq⟩:=hB;have hn':n≤l.length:=by simpa using hn
 have hd':zIa (l.take n)=true:=hd;have htl:(l.take n).length=n:=by simp;omega
 have key:∀ (rem:List Nat) (f:Nat),rem.length=f→rem.Nodup→∀ (listed:Array Bool) (a:Act) (w:World),HeadInv .any l.toArray n listed →
   (∀ i,i ∈ rem↔(i<n∧listed.getD i true=false))→(∃ vals,a=fill (l.take n) 0 listed vals a0∧(∀ i,i<n→listed.getD i false=true→Ss i (vals i) w)∧zNP (l.take n) (fun i=>listed.getD i false) vals)→R w0 w →
   wpAny P .any l.toArray Q (f+(l.toArray.size - n)) listed a w:=by
  intro rem f
  induction f generalizing rem with
  | zero =>
   intro hl _ listed a w inv hrem ⟨vals,ha,hv,hlk⟩ hb;have hr:rem=[]:=List.length_eq_zero_iff.1 hl;subst hr;have hall:∀ i,i<n→listed.getD i false=true:=by
    intro i hi;have h1:¬ listed.getD i true=false:=fun h=>by have:=(hrem i).2 ⟨hi,h⟩;simp at this
    have h2:i<listed.size:=by rw[inv.size];omega
    rw[Array.getD_eq_getD_getElem?,Array.getElem?_eq_getElem h2]at h1 ⊢
    simpa using h1
   have hlist:=zDS hn inv hall;have hw:=hend vals w hb (fun i hi=>hv i hi (hall i hi)) (fun i oi d j oj h1 h2 h3 h4 h5 h6 _=>hlk i oi d j oj h1 h2 h3 h4 h5 h6 (hall i (by have:=(List.getElem?_eq_some_iff.1 h1).1;omega)))
   rw[← zDd (l.take n) 0 listed vals a0 (fun i hi=>by rw[Nat.zero_add];exact hall i (by omega)),← ha]at hw
   rw[Nat.zero_add];have hdl:(l.drop n).length=l.toArray.size - n:=by simp
   rw[← hdl];refine wpAny_of_seq (l.drop n) n listed a w (fun j=>by simp) ?_ hw
   rw[hdl,hlist];exact hseq
  | succ f ih =>
   intro hl hnd listed a w inv hrem ⟨vals,ha,hv,hlk⟩ hb;have hex:∃ i,i ∈ rem∧∀ j,j ∈ rem→i≤j:=by
    have:∀ (r:List Nat),r≠[]→∃ i,i ∈ r∧∀ j,j ∈ r→i≤j:=by
     intro r
     induction r with
     | nil=>intro h;exact(h rfl).elim
     | cons x r ihr =>
      intro _
      by_cases hr:r=[]
      ·subst hr;exact⟨x,by simp,by simp⟩
      ·obtain⟨i,hi,hmin⟩:=ihr hr
       by_cases hx:x≤i
       ·exact⟨x,by simp,fun j hj=>by rcases List.mem_cons.1 hj with rfl|hj;exact Nat.le_refl _;exact Nat.le_trans hx (hmin j hj)⟩
       ·exact⟨i,by simp[hi],fun j hj=>by rcases List.mem_cons.1 hj with rfl|hj;omega;exact hmin j hj⟩
    exact this rem (by intro h;subst h;simp at hl)
   have hready:Region.ready .any l.toArray listed≠[]:=by
    obtain⟨i,hi,hmin⟩:=hex;obtain⟨hin,hil⟩:=(hrem i).1 hi;have hlt:i<l.length:=by omega
    have hmem:i ∈ Region.ready .any l.toArray listed:=by
     refine mem_ready.2 ⟨hil,l[i],by simp[hlt],fun e he hbd=>?_⟩
     have h1:=List.all_eq_true.1 haf (l[i],i) (by
      rw[List.mem_zipIdx_iff_getElem?];simp[hin,hlt])
     have h2:=Array.all_eq_true'.1 h1 e he;simp[hbd]at h2;have hj:¬ e.on ∈ rem:=fun h=>by have:=hmin _ h;omega
     have h3:¬ listed.getD e.on true=false:=fun h=>hj ((hrem _).2 ⟨by omega,h⟩)
     have h4:e.on<listed.size:=by rw[inv.size];simp;omega
     rw[Array.getD_eq_getD_getElem?,Array.getElem?_eq_getElem h4]at h3 ⊢
     simpa using h3
    intro h;rw[h]at hmem;simp at hmem
   rw[show f+1+(l.toArray.size - n)=(f+(l.toArray.size - n))+1 from by omega]
   refine⟨fun h=>(hready h).elim,fun i hi=>?_⟩
   obtain⟨hil,o,ho,haft⟩:=mem_ready.1 hi;have hin:i<n:=by
    rcases Nat.lt_or_ge i n with h|h
    ·exact h
    ·exfalso
     obtain⟨i',hi',_⟩:=hex;obtain⟨hin',hil'⟩:=(hrem i').1 hi';have hisz:i<l.toArray.size:=(Array.getElem?_eq_some_iff.1 ho).1;simp only[Bool.or_eq_true,decide_eq_true_eq,Bool.and_eq_true]at hsink;rcases hsink with h0|⟨hs,hc⟩
     ·omega
     ·exact tail_waits hs hc (by omega) inv (n - i') i' rfl hin' hil' i h hi
   have ho':l[i]?=some o:=by simpa using ho
   have hot:(l.take n)[i]?=some o:=by rw[List.getElem?_take_of_lt hin];exact ho'
   have hbd:∀ (j:Nat) (oj:Oper) (dj:Tmp),(l.take n)[j]?=some oj→oj.dst=some dj→dj<a0.tmps.size:=by
    intro j oj dj hj hdj;have:=List.all_eq_true.1 hsz oj (List.mem_of_getElem? hj)
    simpa [hdj] using this
   have hctx:RCtxR (l.take n) Ss R a0 w0 o a w:=by
    refine⟨hb,fun t ht=>by rw[ha];exact zBp _ _ _ _ _ t ht,fun j dj hj hdj=>?_⟩
    obtain⟨e,he,hbe⟩:=List.any_eq_true.1 hj;simp only[Bool.and_eq_true,beq_iff_eq]at hbe;have hlj:=haft e (Array.mem_toList_iff.1 he) hbe.1;rw[hbe.2]at hlj;obtain⟨oj,hoj,hdj'⟩:=Option.bind_eq_some_iff.1 hdj;have hjn:j<n:=by have:=(List.getElem?_eq_some_iff.1 hoj).1;omega
    rw[ha,zIU _ 0 listed vals a0 j oj dj hd' hoj hdj' (hbd j oj dj hoj hdj') (by rw[Nat.zero_add];exact hlj),Nat.zero_add]
    exact hv j hjn hlj
   have hstep':=hstep i o hin ho' a w hctx;have hclosed:∀ k ok,l[k]?=some ok→listed.getD k false=true→∀ j,ok.after.toList.any (fun e=>Region.binds .any e&&e.on == j)=true→listed.getD j false=true:=by
    intro k ok hk hlk' j hj;obtain⟨e,he,hbe⟩:=List.any_eq_true.1 hj;simp only[Bool.and_eq_true,beq_iff_eq]at hbe;have:=inv.closed k ok (by simpa using hk) hlk' e (Array.mem_toList_iff.1 he) hbe.1
    rwa [hbe.2]at this
   have hownd:∀ j,o.after.toList.any (fun e=>Region.binds .any e&&e.on == j)=true→listed.getD j false=true:=by
    intro j hj;obtain⟨e,he,hbe⟩:=List.any_eq_true.1 hj;simp only[Bool.and_eq_true,beq_iff_eq]at hbe;have:=haft e (Array.mem_toList_iff.1 he) hbe.1
    rwa [hbe.2]at this
   have hnl:∀ j,listed.getD j false=true→j≠i:=by
    intro j hj e;subst e;rw[getD_both hil]at hj;cases hj
   have hnext:∀ v w',R w w'→Ss i v w'→(o.dst=none→v=zIN o a)→wpAny P .any l.toArray Q (f+(l.toArray.size - n)) (listed.setIfInBounds i true) (a.put o.dst v) w':=by
    intro v w' hbw hsv hgh;have hmemi:i ∈ rem:=(hrem i).2 ⟨hin,hil⟩;refine ih (rem.erase i) (by rw[List.length_erase_of_mem hmemi,hl];rfl) (hnd.erase i) _ _ w' (inv.set hi hin) (fun j=>?_) ⟨fun j=>if j=i then v else vals j,?_,fun j hj hlj=>?_,?_⟩ (htrans _ _ _ hb hbw)
    ·rw[hnd.mem_erase_iff,hrem j]
     by_cases hji:j=i
     ·subst hji;have hjs:j<listed.size:=by rw[inv.size];simp;omega
      simp[hjs]
     ·rw[getD_set_ne true (fun e=>hji e.symm)]
      simp[hji]
    ·cases hod:o.dst with
     | some d =>
      have:=zJ5 (l.take n) 0 i listed vals a0 o d v hd' hot hod (by rw[Nat.zero_add];exact hil)
      rw[Nat.zero_add]at this;rw[this,← ha]
     | none =>
      have:=zHv (l.take n) 0 i listed vals a0 o v hot hod (by rw[Nat.zero_add];exact hil)
      rw[Nat.zero_add]at this;rw[this,← ha];rfl
    ·by_cases hji:j=i
     ·subst hji;simpa using hsv
     ·show Ss j (if j=i then v else vals j) w'
      rw[if_neg hji];rw[getD_set_ne false (fun e=>hji e.symm)]at hlj
      exact hst j hj _ _ _ (hv j hj hlj) hbw
    ·intro k ok d j oj h1 h2 h3 h4 h5 h6 h7
     show (if k=i then v else vals k)=(if j=i then v else vals j)
     by_cases hki:k=i
     ·subst hki;rw[hot]at h1;cases h1
      have hjl:=hownd j h6;rw[if_pos rfl,if_neg (hnl j hjl),hgh h2];unfold zIN;rw[h3]
      show a.eval (.tmp d)=vals j
      rw[ha,zIU _ 0 listed vals a0 j oj d hd' h4 h5 (hbd j oj d h4 h5) (by rw[Nat.zero_add];exact hjl),Nat.zero_add]
     ·replace h7:(listed.setIfInBounds i true).getD k false=true:=h7;rw[getD_set_ne false (fun e=>hki e.symm)]at h7
      have hkn:k<n:=by have:=(List.getElem?_eq_some_iff.1 h1).1;omega
      have hjl:=hclosed k ok (by rw[← h1,List.getElem?_take_of_lt hkn]) h7 j h6
      rw[if_neg hki,if_neg (hnl j hjl)];exact hlk k ok d j oj h1 h2 h3 h4 h5 h6 h7
   unfold wpOp;simp only[ho];unfold zDT at hstep';split
   ·rename_i hw;rw[if_pos hw]at hstep';refine .inl (zEH (Oper.wp_mono (fun a' w' ⟨v,e,hbw,hsv,hgh⟩=>?_) hstep'))
    subst e;exact hnext v w' hbw hsv hgh
   ·rename_i hw;rw[if_neg hw]at hstep';exact hnext undef w (hrefl w) hstep'.1 hstep'.2
 refine wp_region_any hm ?_
 have h0:=key (List.range n) n (by simp) List.nodup_range (Array.replicate l.toArray.size false) a0 {w0 with drawn:=w0.drawn+1}
  ⟨by simp,fun j oj _ hl=>(by rw[getD_replicate_false]at hl;cases hl),fun t _ ht=>getD_in (by simpa using ht) (getD_replicate_false _ _)⟩
  (fun i=>by
   rw[List.mem_range];constructor
   ·intro h;exact⟨h,getD_in (by simp;omega) (getD_replicate_false _ _)⟩
   ·intro h;exact h.1)
  ⟨fun _=>undef,(zCq _ _ _ _ _ (fun i=>getD_replicate_false _ _)).symm,fun i _ h=>(by rw[getD_replicate_false]at h;cases h),fun _ _ _ _ _ _ _ _ _ _ _ _=>rfl⟩
  (hdrew w0)
 rw[show n+(l.toArray.size - n)=l.toArray.size from by omega]at h0
 exact h0
def OblM (P:Program) (l hd:List Oper) (R:World→World→Prop) (L:List (Value→World→Prop)) (a0:Act) (w0:World):List Oper→Nat→Prop
 | [],_=>True
 | o::r,i=>(∀ a w,RCtxR hd (zAh L) R a0 w0 o a w→zDT P l.toArray R o a w (fun v w'=>zAh L i v w'∧(o.dst=none→v=zIN o a)))∧OblM P l hd R L a0 w0 r (i+1)
theorem OblM.get {P:Program} {l hd:List Oper} {R:World→World→Prop} {L:List (Value→World→Prop)} {a0:Act} {w0:World}:∀ (r:List Oper) (k:Nat),OblM P l hd R L a0 w0 r k→∀ i o,r[i]?=some o →
  ∀ a w,RCtxR hd (zAh L) R a0 w0 o a w→zDT P l.toArray R o a w (fun v w'=>zAh L (k+i) v w'∧(o.dst=none→v=zIN o a))
 | [],_,_,_,_,h=>by simp at h
 | o::r,k,h,0,o',h'=>by simp at h';subst h';exact h.1
 | o::r,k,h,i+1,o',h'=>by
  have:=OblM.get r (k+1) h.2 i o' (by simpa using h')
  rwa [show k+1+i=k+(i+1) from by omega]at this
theorem zCb {P:Program} {id:Nat} {Q:Exit→Act→World→Prop} {a0:Act} {w0:World} {l:List Oper} (R:World→World→Prop) (hrefl:∀ w,R w w) (htrans:∀ u v w,R u v→R v w→R u w) (hdrew:∀ w:World,R w {w with drawn:=w.drawn+1}) (n:Nat) (L:List (Value→World→Prop)) (hst:zEu R L)
  (hm:P.follows .mixedOrders=true) (hB:zQM l.toArray n=true) (hsz:(l.take n).all (fun o=>match o.dst with|some d=>decide (d<a0.tmps.size)|none=>true)=true)
  (hstep:OblM P l (l.take n) R L a0 w0 (l.take n) 0)
  (hend:∀ vals w,R w0 w→(∀ i,i<n→zAh L i (vals i) w)→zNP (l.take n) (fun _=>true) vals→wpList P l.toArray Q (l.drop n) (zBS (l.take n) 0 vals a0) w) :
  (Code.region id l.toArray true).wp P Q a0 w0 :=
 zGs R htrans hrefl hdrew n (zAh L) hm hB hsz (fun i _ v w w' h hb=>zEI L i hst v w w' h hb) (fun i o hi ho a w hc=>by
   have:=OblM.get (l.take n) 0 hstep i o (by rw[List.getElem?_take_of_lt hi];exact ho) a w hc
   rwa [Nat.zero_add]at this) hend
def zJz (md:Region.Mode) (ops:Array Oper):List Nat→Array Bool→Bool
 | [],listed=>(Region.ready md ops listed).isEmpty
 | i::r,listed=>decide (Region.ready md ops listed=[i])&&zJz md ops r (listed.setIfInBounds i true)
theorem zDh {P:Program} {md:Region.Mode} {ops:Array Oper} {Q:Exit→Act→World→Prop}:∀ (is:List Nat) (os:List Oper) (listed:Array Bool) (a:Act) (w:World),os.length=is.length→(∀ (j i:Nat),is[j]?=some i→ops[i]?=os[j]?) →
  zJz md ops is listed=true→wpList P ops Q os a w→wpAny P md ops Q is.length listed a w
 | [],os,_,_,_,hl,_,hB,h=>by
  have:os=[]:=List.length_eq_zero_iff.1 hl;subst this;exact⟨by simpa [zJz] using hB,h⟩
 | i::r,[],_,_,_,hl,_,_,_=>by simp at hl
 | i::r,o::os,listed,a,w,hl,hg,hB,h=>by
  have h0:ops[i]?=some o:=by simpa using hg 0 i rfl
  simp only[zJz,Bool.and_eq_true,decide_eq_true_eq]at hB;refine⟨fun h1=>(by rw[hB.1]at h1;cases h1),fun k hk=>?_⟩
  rw[hB.1]at hk;have hik:k=i:=by simpa using hk
  subst hik;have hw:wpOp P ops Q k (wpList P ops Q os) a w:=by unfold wpOp;simp only[h0];exact h
  exact wpOp_mono (fun a' w' h'=>zDh r os _ a' w' (by simpa using hl) (fun j i hj=>by simpa using hg (j+1) i (by simpa using hj)) hB.2 h') hw
def zD4 (n e g:Nat):Array Bool:=((List.range n).map (fun i=>i != e)++List.replicate g false).toArray
def zR0 (ops:Array Oper) (n e:Nat):Bool :=
 (List.range n).all fun i=>i == e || (List.range (n+1)).any fun j=>decide (i<j)&&(j != e)&&(match ops[j]? with|some o=>o.after.toList.any (fun ed=>Region.binds .any ed&&ed.on == i)|none=>false)
def zMZ (ops:Array Oper) (n e:Nat):Bool :=
 decide (n≤ops.size)&&zCz (ops.toList.take n) &&
 ((ops.toList.take n).zipIdx.all fun (o,i)=>o.after.all fun e=>!Region.binds .any e || decide (e.on<i)) &&
 zR0 ops n e&&(ops.toList.zipIdx.all fun (o,t)=>decide (t≤n) || o.after.toList.any (fun ed=>Region.binds .any ed&&decide (n≤ed.on)&&decide (ed.on<t))) &&
 Region.seqB .any ops (ops.size - n) n (zAq n (ops.size - n)) &&
 zJz .any ops (e::List.range' (n+1) (ops.size - n - 1)) ((zD4 n e (ops.size - n)).setIfInBounds n true)&&decide (e<n)
def zHd (l:List Oper) (n e:Nat):List Oper:=(l.drop n).take 1++((l.drop e).take 1++l.drop (n+1))
def zC1 (e:Nat):List Oper→Nat→(Nat→Value)→Act→Act
 | [],_,_,a=>a
 | o::r,k,vals,a=>zC1 e r (k+1) vals (if k=e then a else a.put o.dst (vals k))
theorem zIq (e:Nat):∀ (l:List Oper) (k:Nat) (listed:Array Bool) (vals:Nat→Value) (a:Act),(∀ i,i<l.length→k+i≠e→listed.getD (k+i) false=true)→(k≤e→listed.getD e false=false)→fill l k listed vals a=zC1 e l k vals a
 | [],_,_,_,_,_,_=>rfl
 | o::r,k,listed,vals,a,h,h2=>by
  simp only[fill,zC1];have ih:=zIq e r (k+1) listed vals (if k=e then a else a.put o.dst (vals k)) (fun i hi he=>by have:=h (i+1) (by simp;omega) (by omega);rwa [show k+(i+1)=k+1+i from by omega]at this) (fun hk=>h2 (by omega))
  rw[← ih]
  congr 1
  by_cases hke:k=e
  ·subst hke;rw[h2 (Nat.le_refl _),if_pos rfl];rfl
  ·have:=h 0 (by simp) (by simpa using hke)
   rw[Nat.add_zero]at this;rw[this,if_neg hke];rfl
theorem zJn {ops:Array Oper} {n e:Nat} {listed:Array Bool} (hc:zR0 ops n e=true) (hn:n≤ops.size) (inv:HeadInv .any ops n listed) (o:Oper) (ho:ops[n]?=some o)
  (ha:∀ e ∈ o.after,Region.binds .any e=true→listed.getD e.on false=true):∀ k,k<n→k≠e→listed.getD k false=true:=by
 have key:∀ d k,n - k=d→k<n→k≠e→listed.getD k false=true:=by
  intro d
  induction d using Nat.strongRecOn with
  | _ d ih =>
   intro k hd hk hke;have h1:=List.all_eq_true.1 hc k (List.mem_range.2 hk);simp only[Bool.or_eq_true,beq_iff_eq]at h1;rcases h1 with h1|h1
   ·exact absurd h1 hke
   ·obtain⟨j,hj,h2⟩:=List.any_eq_true.1 h1;simp only[Bool.and_eq_true,decide_eq_true_eq,bne_iff_ne,ne_eq]at h2;obtain⟨⟨hkj,hje⟩,h3⟩:=h2;have hjn:=List.mem_range.1 hj
    cases hoj:ops[j]? with
    | none=>rw[hoj]at h3;cases h3
    | some oj =>
     rw[hoj]at h3;obtain⟨ed,hed,hb⟩:=List.any_eq_true.1 h3;simp only[Bool.and_eq_true,beq_iff_eq]at hb
     by_cases hjn':j=n
     ·subst hjn';rw[ho]at hoj;cases hoj
      have:=ha ed (Array.mem_toList_iff.1 hed) hb.1
      rwa [hb.2]at this
     ·have hlj:=ih (n - j) (by omega) j rfl (by omega) hje
      have:=inv.closed j oj hoj hlj ed (Array.mem_toList_iff.1 hed) hb.1
      rwa [hb.2]at this
 exact fun k hk hke=>key _ k rfl hk hke
theorem zIB {ops:Array Oper} {n e:Nat} {listed:Array Bool} (hn:n≤ops.size) (he:e<n) (inv:HeadInv .any ops n listed) (h:∀ i,i<n→i≠e→listed.getD i false=true) (h2:listed.getD e true=false):listed=zD4 n e (ops.size - n):=by
 have hs:=inv.size;apply Array.ext
 ·simp[zD4,hs];omega
 ·intro i h1 h3
  by_cases hi:i<n
  ·by_cases hie:i=e
   ·subst hie;rw[Array.getD_eq_getD_getElem?,Array.getElem?_eq_getElem h1]at h2;simp at h2;rw[h2];simp[zD4,hi,List.getElem_append]
   ·have:=h i hi hie;rw[Array.getD_eq_getD_getElem?,Array.getElem?_eq_getElem h1]at this;simp at this;rw[this];simp[zD4,hi,List.getElem_append,hie]
  ·have:=inv.tail i (by omega) (by omega)
   rw[Array.getD_eq_getD_getElem?,Array.getElem?_eq_getElem h1]at this;simp at this;rw[this];simp[zD4,List.getElem_append,hi]
theorem zHf {P:Program} {id:Nat} {Q:Exit→Act→World→Prop} {a0:Act} {w0:World} {l:List Oper} (n e:Nat) (Ss:Nat→Value→World→Prop) (D:Nat→Bool)
  (hm:P.follows .mixedOrders=true) (hB:zMZ l.toArray n e=true) (hsz:(l.take n).all (fun o=>match o.dst with|some d=>decide (d<a0.tmps.size)|none=>true)=true)
  (hst:∀ i,i<n→∀ v w w',Ss i v w→Below w.heap.size w w'→Ss i v w')
  (hlt:∀ i,i<n→D i=true→∀ v w,Ss i v w→blk v<w.heap.size)
  (hstep:∀ i o,i<n→l[i]?=some o→∀ a w,RCtx (l.take n) Ss a0 w0 o a w→zA7 P l.toArray o a w (fun v w'=>Ss i v w'∧(D i=true→w.heap.size≤blk v)))
  (hend:∀ vals w,Below w0.heap.size w0 w→(∀ i,i<n→Ss i (vals i) w)→(∀ i j,i<n→j<n→i≠j→D i=true→D j=true→blk (vals i)≠blk (vals j))→wpList P l.toArray Q (l.drop n) (zBS (l.take n) 0 vals a0) w)
  (hend2:∀ vals w,Below w0.heap.size w0 w→(∀ i,i<n→i≠e→Ss i (vals i) w)→(∀ i j,i<n→j<n→i≠e→j≠e→i≠j→D i=true→D j=true→blk (vals i)≠blk (vals j)) →
   wpList P l.toArray Q (zHd l n e) (zC1 e (l.take n) 0 vals a0) w) :
  (Code.region id l.toArray true).wp P Q a0 w0:=by
 simp only[zMZ,Bool.and_eq_true,decide_eq_true_eq]at hB;obtain⟨⟨⟨⟨⟨⟨⟨hn,hd⟩,haf⟩,hclo⟩,htw⟩,hseq⟩,hord⟩,hen⟩:=hB;have hn':n≤l.length:=by simpa using hn
 have hd':zCz (l.take n)=true:=hd;have htl:(l.take n).length=n:=by simp;omega
 have key:∀ (rem:List Nat) (f:Nat),rem.length=f→rem.Nodup→∀ (listed:Array Bool) (a:Act) (w:World),HeadInv .any l.toArray n listed →
   (∀ i,i ∈ rem↔(i<n∧listed.getD i true=false))→(∃ vals,a=fill (l.take n) 0 listed vals a0∧(∀ i,i<n→listed.getD i false=true→Ss i (vals i) w)∧∀ i j,i<n→j<n→i≠j→listed.getD i false=true→listed.getD j false=true→D i=true→D j=true→blk (vals i)≠blk (vals j))→Below w0.heap.size w0 w →
   wpAny P .any l.toArray Q (f+(l.toArray.size - n)) listed a w:=by
  intro rem f
  induction f generalizing rem with
  | zero =>
   intro hl _ listed a w inv hrem ⟨vals,ha,hv,hp⟩ hb;have hr:rem=[]:=List.length_eq_zero_iff.1 hl;subst hr;have hall:∀ i,i<n→listed.getD i false=true:=by
    intro i hi;have h1:¬ listed.getD i true=false:=fun h=>by have:=(hrem i).2 ⟨hi,h⟩;simp at this
    have h2:i<listed.size:=by rw[inv.size];omega
    rw[Array.getD_eq_getD_getElem?,Array.getElem?_eq_getElem h2]at h1 ⊢
    simpa using h1
   have hlist:=zDS hn inv hall;have hw:=hend vals w hb (fun i hi=>hv i hi (hall i hi)) (fun i j hi hj hij=>hp i j hi hj hij (hall i hi) (hall j hj))
   rw[← zDd (l.take n) 0 listed vals a0 (fun i hi=>by rw[Nat.zero_add];exact hall i (by omega)),← ha]at hw
   rw[Nat.zero_add];have hdl:(l.drop n).length=l.toArray.size - n:=by simp
   rw[← hdl];refine wpAny_of_seq (l.drop n) n listed a w (fun j=>by simp) ?_ hw
   rw[hdl,hlist];exact hseq
  | succ f ih =>
   intro hl hnd listed a w inv hrem ⟨vals,ha,hv,hp⟩ hb;have hex:∃ i,i ∈ rem∧∀ j,j ∈ rem→i≤j:=by
    have:∀ (r:List Nat),r≠[]→∃ i,i ∈ r∧∀ j,j ∈ r→i≤j:=by
     intro r
     induction r with
     | nil=>intro h;exact(h rfl).elim
     | cons x r ihr =>
      intro _
      by_cases hr:r=[]
      ·subst hr;exact⟨x,by simp,by simp⟩
      ·obtain⟨i,hi,hmin⟩:=ihr hr
       by_cases hx:x≤i
       ·exact⟨x,by simp,fun j hj=>by rcases List.mem_cons.1 hj with rfl|hj;exact Nat.le_refl _;exact Nat.le_trans hx (hmin j hj)⟩
       ·exact⟨i,by simp[hi],fun j hj=>by rcases List.mem_cons.1 hj with rfl|hj;omega;exact hmin j hj⟩
    exact this rem (by intro h;subst h;simp at hl)
   have hready:Region.ready .any l.toArray listed≠[]:=by
    obtain⟨i,hi,hmin⟩:=hex;obtain⟨hin,hil⟩:=(hrem i).1 hi;have hlt:i<l.length:=by omega
    have hmem:i ∈ Region.ready .any l.toArray listed:=by
     refine mem_ready.2 ⟨hil,l[i],by simp[hlt],fun e he hbd=>?_⟩
     have h1:=List.all_eq_true.1 haf (l[i],i) (by
      rw[List.mem_zipIdx_iff_getElem?];simp[hin,hlt])
     have h2:=Array.all_eq_true'.1 h1 e he;simp[hbd]at h2;have hj:¬ e.on ∈ rem:=fun h=>by have:=hmin _ h;omega
     have h3:¬ listed.getD e.on true=false:=fun h=>hj ((hrem _).2 ⟨by omega,h⟩)
     have h4:e.on<listed.size:=by rw[inv.size];simp;omega
     rw[Array.getD_eq_getD_getElem?,Array.getElem?_eq_getElem h4]at h3 ⊢
     simpa using h3
    intro h;rw[h]at hmem;simp at hmem
   rw[show f+1+(l.toArray.size - n)=(f+(l.toArray.size - n))+1 from by omega]
   refine⟨fun h=>(hready h).elim,fun i hi=>?_⟩
   obtain⟨hil,o,ho,haft⟩:=mem_ready.1 hi
   by_cases hin:i<n
   case neg =>
    have hisz:i<l.toArray.size:=(Array.getElem?_eq_some_iff.1 ho).1;have hmost:=zJn hclo hn inv;have hin':i=n:=by
     rcases Nat.lt_or_ge n i with h|h
     ·exfalso
      have h1:=List.all_eq_true.1 htw (l[i]'(by simpa using hisz),i) (by
       rw[List.mem_zipIdx_iff_getElem?];simp at hisz;simp[hisz])
      simp only[Bool.or_eq_true,decide_eq_true_eq]at h1;rcases h1 with h1|h1
      ·omega
      ·obtain⟨ed,hed,hb⟩:=List.any_eq_true.1 h1;simp only[Bool.and_eq_true,decide_eq_true_eq]at hb;have ho2:o=l[i]'(by simpa using hisz):=by
        have:=(Array.getElem?_eq_some_iff.1 ho).2;simpa using this.symm
       have h3:=haft ed (by rw[ho2];exact Array.mem_toList_iff.1 hed) hb.1.1
       have h4:=getD_both (inv.tail ed.on hb.1.2 (by omega))
       rw[h3]at h4;cases h4
     ·omega
    subst hin';have hall:∀ k,k<i→k≠e→listed.getD k false=true:=fun k hk hke=>hmost o ho haft k hk hke
    have hone:rem=[e]:=by
     have h1:∀ k ∈ rem,k=e:=by
      intro k hk;obtain⟨hk1,hk2⟩:=(hrem k).1 hk
      by_cases hke:k=e
      ·exact hke
      ·have:=hall k hk1 hke;rw[getD_both hk2]at this;cases this
     cases rem with
     | nil=>simp at hl
     | cons x r =>
      cases r with
      | nil=>rw[h1 x (by simp)]
      | cons y r =>
       have hx:=h1 x (by simp);have hy:=h1 y (by simp)
       rw[hx,hy]at hnd;simp at hnd
    subst hone;have hf:f=0:=by simp at hl;omega
    subst hf;have hel:listed.getD e true=false:=((hrem e).1 (by simp)).2
    have hlist:=zIB hn hen inv hall hel;have hw:=hend2 vals w hb (fun k hk hke=>hv k hk (hall k hk hke)) (fun k m hk hm hke hme hkm=>hp k m hk hm hkm (hall k hk hke) (hall m hm hme))
    rw[← zIq e (l.take i) 0 listed vals a0 (fun k hk hke=>by rw[Nat.zero_add]at hke ⊢;exact hall k (by omega) hke) (fun _=>getD_both hel),← ha]at hw
    have hli:l[i]?=some o:=by simpa using ho
    have hl1:(l.drop i).take 1=[o]:=by
     rw[List.drop_eq_getElem_cons (by simpa using hisz)]
     have:l[i]'(by simpa using hisz)=o:=(List.getElem?_eq_some_iff.1 hli).2
     simp[this]
    have hlt':i<l.length:=by simpa using hisz
    have heL:e<l.length:=by omega
    have hl2:(l.drop e).take 1=[l[e]]:=by rw[List.drop_eq_getElem_cons heL,List.take_succ_cons,List.take_zero]
    unfold zHd at hw;rw[hl1,hl2]at hw;have hw2:wpOp P l.toArray Q i (wpList P l.toArray Q ([l[e]]++l.drop (i+1))) a w:=by unfold wpOp;simp only[ho];exact hw
    have hlen:(e::List.range' (i+1) (l.toArray.size - i - 1)).length=0+(l.toArray.size - i):=by simp;omega
    refine wpOp_mono (fun a' w' h'=>?_) hw2
    rw[← hlen];refine zDh (e::List.range' (i+1) (l.toArray.size - i - 1)) ([l[e]]++l.drop (i+1)) _ a' w' (by simp;omega) (fun j k hk=>?_) ?_ h'
    ·cases j with
     | zero=>simp at hk;subst hk;simp[heL]
     | succ j =>
      simp only[List.getElem?_cons_succ]at hk;obtain⟨hk1,hk2⟩:=List.getElem?_eq_some_iff.1 hk;simp at hk2;subst hk2;simp
    ·rw[hlist];exact hord
   have ho':l[i]?=some o:=by simpa using ho
   have hot:(l.take n)[i]?=some o:=by rw[List.getElem?_take_of_lt hin];exact ho'
   obtain⟨d,hod⟩:∃ d,o.dst=some d:=by
    have:∀ (r:List Oper) (j:Nat),zCz r=true→r[j]?=some o→∃ d,o.dst=some d:=by
     intro r
     induction r with
     | nil=>intro j _ h;simp at h
     | cons x r ihr =>
      intro j hdd h;simp only[zCz,Bool.and_eq_true]at hdd
      cases j with
      | zero=>simp at h;subst h;exact Option.isSome_iff_exists.1 hdd.1.1
      | succ j=>exact ihr j hdd.2 (by simpa using h)
    exact this _ i hd' hot
   have hbd:∀ (j:Nat) (oj:Oper) (dj:Tmp),(l.take n)[j]?=some oj→oj.dst=some dj→dj<a0.tmps.size:=by
    intro j oj dj hj hdj;have:=List.all_eq_true.1 hsz oj (List.mem_of_getElem? hj)
    simpa [hdj] using this
   have hctx:RCtx (l.take n) Ss a0 w0 o a w:=by
    refine⟨hb,fun t ht=>by rw[ha];exact zBp _ _ _ _ _ t ht,fun j dj hj hdj=>?_,by rw[ha,zDt]⟩
    obtain⟨e,he,hbe⟩:=List.any_eq_true.1 hj;simp only[Bool.and_eq_true,beq_iff_eq]at hbe;have hlj:=haft e (Array.mem_toList_iff.1 he) hbe.1;rw[hbe.2]at hlj;obtain⟨oj,hoj,hdj'⟩:=Option.bind_eq_some_iff.1 hdj;have hjn:j<n:=by have:=(List.getElem?_eq_some_iff.1 hoj).1;omega
    rw[ha,zFR _ 0 listed vals a0 j oj dj hd' hoj hdj' (hbd j oj dj hoj hdj') (by rw[Nat.zero_add];exact hlj),Nat.zero_add]
    exact hv j hjn hlj
   have hstep':=hstep i o hin ho' a w hctx;have hnext:∀ v w',Below w.heap.size w w'→(Ss i v w'∧(D i=true→w.heap.size≤blk v))→wpAny P .any l.toArray Q (f+(l.toArray.size - n)) (listed.setIfInBounds i true) (a.put o.dst v) w':=by
    intro v w' hbw ⟨hsv,hfr⟩;have hmemi:i ∈ rem:=(hrem i).2 ⟨hin,hil⟩;refine ih (rem.erase i) (by rw[List.length_erase_of_mem hmemi,hl];rfl) (hnd.erase i) _ _ w' (inv.set hi hin) (fun j=>?_) ⟨fun j=>if j=i then v else vals j,?_,fun j hj hlj=>?_,fun j k hj hk hjk hlj hlk hDj hDk=>?_⟩ (hb.trans (hbw.mono hb.size))
    ·rw[hnd.mem_erase_iff,hrem j]
     by_cases hji:j=i
     ·subst hji;have hjs:j<listed.size:=by rw[inv.size];simp;omega
      simp[hjs]
     ·rw[getD_set_ne true (fun e=>hji e.symm)]
      simp[hji]
    ·have:=zD5 (l.take n) 0 i listed vals a0 o d v hd' hot hod (by rw[Nat.zero_add];exact hil)
     rw[Nat.zero_add]at this;rw[this,← ha,hod]
    ·by_cases hji:j=i
     ·subst hji;simpa using hsv
     ·show Ss j (if j=i then v else vals j) w'
      rw[if_neg hji];rw[getD_set_ne false (fun e=>hji e.symm)]at hlj
      exact hst j hj _ _ _ (hv j hj hlj) hbw
    ·show blk (if j=i then v else vals j)≠blk (if k=i then v else vals k)
     by_cases hji:j=i
     ·subst hji;rw[if_pos rfl,if_neg (fun e=>hjk e.symm)]
      rw[getD_set_ne false hjk]at hlk;have h1:=hlt k hk hDk _ _ (hv k hk hlk);have h2:=hfr hDj;omega
     ·rw[if_neg hji];rw[getD_set_ne false (fun e=>hji e.symm)]at hlj
      by_cases hki:k=i
      ·subst hki;rw[if_pos rfl];have h1:=hlt j hj hDj _ _ (hv j hj hlj);have h2:=hfr hDk;omega
      ·rw[if_neg hki];rw[getD_set_ne false (fun e=>hki e.symm)]at hlk
       exact hp j k hj hk hjk hlj hlk hDj hDk
   unfold wpOp;simp only[ho];unfold zA7 at hstep';split
   ·rename_i hw;rw[if_pos hw]at hstep';refine .inl (zEH (Oper.wp_mono (fun a' w' ⟨v,e,hbw,hsv⟩=>?_) hstep'))
    subst e;exact hnext v w' hbw hsv
   ·rename_i hw;rw[if_neg hw]at hstep';exact hnext undef w (Below.refl _ w) hstep'
 refine wp_region_any hm ?_
 have h0:=key (List.range n) n (by simp) List.nodup_range (Array.replicate l.toArray.size false) a0 {w0 with drawn:=w0.drawn+1}
  ⟨by simp,fun j oj _ hl=>(by rw[getD_replicate_false]at hl;cases hl),fun t _ ht=>getD_in (by simpa using ht) (getD_replicate_false _ _)⟩
  (fun i=>by
   rw[List.mem_range];constructor
   ·intro h;exact⟨h,getD_in (by simp;omega) (getD_replicate_false _ _)⟩
   ·intro h;exact h.1)
  ⟨fun _=>undef,(zCq _ _ _ _ _ (fun i=>getD_replicate_false _ _)).symm,fun i _ h=>(by rw[getD_replicate_false]at h;cases h),fun i j _ _ _ h=>(by rw[getD_replicate_false]at h;cases h)⟩
  ((Below.refl _ w0).drew)
 rw[show n+(l.toArray.size - n)=l.toArray.size from by omega]at h0
 exact h0
theorem zCl {P:Program} {id:Nat} {Q:Exit→Act→World→Prop} {a0:Act} {w0:World} {l:List Oper} (n e:Nat) (L:List (Value→World→Prop)) (D:Nat→Bool)
  (hm:P.follows .mixedOrders=true) (hB:zMZ l.toArray n e=true) (hsz:(l.take n).all (fun o=>match o.dst with|some d=>decide (d<a0.tmps.size)|none=>true)=true)
  (hst:zCy L) (hlt:∀ i,i<n→D i=true→∀ v w,zAh L i v w→blk v<w.heap.size)
  (hstep:Obl P l (l.take n) L D a0 w0 (l.take n) 0)
  (hend:∀ vals w,Below w0.heap.size w0 w→(∀ i,i<n→zAh L i (vals i) w)→(∀ i j,i<n→j<n→i≠j→D i=true→D j=true→blk (vals i)≠blk (vals j)) →
   wpList P l.toArray Q (l.drop n) (zBS (l.take n) 0 vals a0) w)
  (hend2:∀ vals w,Below w0.heap.size w0 w→(∀ i,i<n→i≠e→zAh L i (vals i) w)→(∀ i j,i<n→j<n→i≠e→j≠e→i≠j→D i=true→D j=true→blk (vals i)≠blk (vals j)) →
   wpList P l.toArray Q (zHd l n e) (zC1 e (l.take n) 0 vals a0) w) :
  (Code.region id l.toArray true).wp P Q a0 w0 :=
 zHf n e (zAh L) D hm hB hsz (fun i _ v w w' h hb=>zCw L i hst v w w' h hb) hlt
  (fun i o hi ho a w hc=>by
   have:=Obl.get (l.take n) 0 hstep i o (by rw[List.getElem?_take_of_lt hi];exact ho) a w hc
   rwa [Nat.zero_add]at this) hend hend2
end
section
open Go.RowKit Go.Shelf
attribute [local go_sem] Oper.semAt_some
abbrev zGx (mb:Nat) (lv mk nv:Value) (pp:Option Addr) (cp:Nat) (ps:List InstD) (psl:Option Addr) (csl:Nat) (L:Str) (Fp Fs Fk:Nat→Prop) (zs ys:List WV):List Res :=
 [.blk mb #[lv,mk,.slice pp ps.length cp,.slice psl L.length csl,nv] 54,.row lv 58 2 zs.length (zAP (zs.map wayC)),.kn Fp (InstsR Fp pp cp ps),.kn Fs (BytesR Fs psl csl L),.kn Fk (zO4 Fk ys)]
def zSa (mb:Nat) (lv mk nv:Value) (pp:Option Addr) (cp:Nat) (ps:List InstD) (psl:Option Addr) (csl:Nat) (L:Str) (Fp Fs Fk:Nat→Prop) (ys:List WV) (i:Nat) (M:Nat→Prop) (w0 w:World) (e:Ending) (w':World):Prop :=
 ∃ (lv':Value) (zs:List WV) (fd:Option WV),zBN ps L i (ys.map plW)=(fd.map (·.2.1),zs.map plW)∧(∀ z ∈ zs,z.1<ps.length∧∃ y ∈ ys,z.2=y.2)∧(∀ y,fd=some y→y ∈ ys) ∧
  e=.returned (match fd with|some y=>.slice y.2.2.1 y.2.1.length y.2.2.2|none=>.slice none 0 0) ∧
  Turned M w0 w (zGx mb lv mk nv pp cp ps psl csl L Fp Fs Fk [] ys++[.row nv 58 2 ys.length (zAP (ys.map wayC))]) (zGx mb lv' mk (.slice none 0 0) pp cp ps psl csl L Fp Fs Fk zs ys) w'
theorem zPB {ps:List InstD} {L:Str} {i:Nat} {ys:List Way} {zs:List Way} {j:Nat} {k:Nat} {sl:zA2} (h:zBN ps L i (ys.take j)=(none,zs)) (hy:ys[j]?=some (k,sl)) (h5:(atI ps k).kind≠5) (b:Bool) (hb:(i<L.length∧hasB (atI ps k).set (byt L i)=true)↔b=true) :
  zBN ps L i (ys.take (j+1))=(none,if b then zs++[((atI ps k).next.toNat,sl)] else zs):=by
 rw[zCn hy,zEK,h];simp only[zBN,if_neg h5]
 cases b with
 | true=>rw[if_pos (hb.2 rfl)];rfl
 | false=>rw[if_neg (fun h=>by have:=hb.1 h;cases this)];simp
theorem zOT {ps:List InstD} {L:Str} {i:Nat} {ys:List Way} {zs:List Way} {j:Nat} {k:Nat} {sl:zA2} (h:zBN ps L i (ys.take j)=(none,zs)) (hy:ys[j]?=some (k,sl)) (h5:(atI ps k).kind=5):zBN ps L i ys=(some sl,zs):=by
 have e:ys=ys.take j++((k,sl)::ys.drop (j+1)):=by
  conv=>lhs;rw[← List.take_append_drop j ys]
  congr 1
  obtain⟨hlt,e⟩:=List.getElem?_eq_some_iff.1 hy;rw[← e];exact List.drop_eq_getElem_cons hlt
 rw[e,zEK,h];simp[zBN,h5]
theorem zGz:(Tryz.prog.info? 58).map (fun i=>(i.zero,i.size,i.bytes))=some (some (.agg #[.int .i64 0,.slice none 0 0]),2,32):=by kernel_rfl
theorem zCr (xs:List WV) (y:WV):zAP (xs.map wayC)++(wayC y).toList=zAP ((xs++[y]).map wayC):=by
 rw[List.map_append,zBH];simp[zAP]
theorem zLE (k:Int) (q:Option Addr) (n c:Nat) (W:World):(Instr.build 58 #[(0,.int .i64 k),(1,.slice q n c)]).run Tryz.prog W=.ok (.agg #[.int .i64 k,.slice q n c]) W:=by simp[go_sem]
theorem zFy (x:WV) (W:World):(Instr.buildSlice 50 1 #[(0,.agg (wayC x))]).run Tryz.prog W=.ok (.slice (some ⟨W.heap.size,0,none⟩) 1 1) (W.alloc (.cells (wayC x) 58)):=by kernel_rfl
theorem zN8 {ops:Array Oper} {o:Oper} {a:Act} {w:World} {x:Operand} {d:WV} {n0:Nat} {D:Prop} (hg:Region.wanted o (yielded ops a.tmps)=true) (hop:o.op=Op.buildSlice 50 1 #[(0,x)]) (hx:a.eval x=.agg (wayC d)) (hn:n0≤w.heap.size) (hD:¬ D) :
  zA7 Tryz.prog ops o a w (fun v w'=>FreshS n0 (wayC d) 58 v w'∧(D→w.heap.size≤blk v)):=by
 refine zBr hg (v:=.slice (some ⟨w.heap.size,0,none⟩) 1 1) (w':=w.alloc (.cells (wayC d) 58)) ?_ ((Below.refl _ w).alloc (Nat.le_refl _) _) ⟨⟨w.heap.size,rfl,hn,World.alloc_heap_new w _⟩,fun h=>(hD h).elim⟩
 simp only[execOp,hop,List.map_toArray,List.map_cons,List.map_nil,hx,Sem.run_bind,zFy];rfl
theorem HoldG.gainS2 {M:Nat→Prop} {w0 w w':World} {l:List Res} (H:HoldG M w0 w l) (hb:Below w.heap.size w w') {cs:Array Value} {T:TypeId} {v:Value} (h:FreshS w.heap.size cs T v w'):∃ b,v=.slice (some ⟨b,0,none⟩) 1 1∧HoldG M w0 w' (l++[.blk b cs T]):=by
 obtain⟨b,e,h1,h2⟩:=h;obtain⟨b',e',H2⟩:=H.gainB hb (v:=.pointer (some ⟨b,0,none⟩)) ⟨b,rfl,h1,h2⟩
 cases e'
 exact⟨b,e,H2⟩
theorem zFb {o:Oper} {a:Act} {w:World} {x y:Operand} {k:Int} {d:zA2 × Option Addr × Nat} (hop:o.op=.build 58 #[(0,x),(1,y)]) (hx:a.eval x=.int .i64 k) (hy:a.eval y=.slice d.2.1 d.1.length d.2.2) (hk:0≤k):(execOp a.eval o).run Tryz.prog w=.ok (.value (.agg (wayC (k.toNat,d)))) w:=by
 have e:wayC (k.toNat,d)=#[.int .i64 k,.slice d.2.1 d.1.length d.2.2]:=by
  unfold wayC;simp only[Int.toNat_of_nonneg hk]
 rw[e];simp only[execOp,hop,List.map_toArray,List.map_cons,List.map_nil,hx,hy,Sem.run_bind,zLE];rfl
section
variable {M:Nat→Prop} {ops:Array Oper} {dst:Option Tmp} {ty:TypeId} {pos:String} {aft:Array Edge} {grd:Option (Nat × Bool)} {rest:List Oper} {a:Act} {w w0:World} {l:List Res} {Q:Exit→Act→World→Prop}
theorem zMw:(zCG Tryz.prog 58).size=2:=by kernel_rfl
theorem gTw {x y:Operand} (h:wpList Tryz.prog ops Q ((⟨dst,.store 58 x y,ty,pos,aft,grd⟩:Oper)::rest) a w):wpList Tryz.prog ops Q ((⟨dst,.store 58 x y,ty,pos,aft,grd⟩:Oper)::rest) a w:=h
theorem aTw (H:HoldG M w0 w l) {x y:Operand} {i b:Nat} {cs:Array Value} {U:TypeId} {d:WV} (h:∀ w',HoldG M w0 w' (l.set i (.blk b (wayC d) U))→wpList Tryz.prog ops Q rest (a.put dst undef) w') (hg:Region.wanted (⟨dst,.store 58 x y,ty,pos,aft,grd⟩:Oper) (yielded ops a.tmps)=true:=by first|rfl|exact zAO rfl (zAG rfl (by first|rfl|(simp only[pe];rfl)))) (hx:a.eval x=.pointer (some ⟨b,0,none⟩):=by exact rfl) (hy:a.eval y=.agg (wayC d):=by first|(simp only[pe];done)|(simp only[pe];rfl)) (hi:At l i (.blk b cs U):=by repeat (first|(with_reducible exact At.zero)|apply At.succ)) (hn:cs.size=2:=by first|(with_reducible exact zMw)|rfl):wpList Tryz.prog ops Q ((⟨dst,.store 58 x y,ty,pos,aft,grd⟩:Oper)::rest) a w :=
 zFj hg 58 x y rfl hx hy H hi (zBG zFL) rfl hn rfl h
theorem aGw1 (H:HoldG M w0 w l) {T:TypeId} {x:Operand} {i b:Nat} {d:WV} {U:TypeId} (h:wpList Tryz.prog ops Q rest (a.put dst (.slice d.2.2.1 d.2.1.length d.2.2.2)) w) (hg:Region.wanted (⟨dst,.load T x,ty,pos,aft,grd⟩:Oper) (yielded ops a.tmps)=true:=by first|rfl|exact zAO rfl (zAG rfl (by first|rfl|(simp only[pe];rfl)))) (hx:a.eval x=.pointer (some ⟨b,1,none⟩):=by exact rfl) (hi:At l i (.blk b (wayC d) U):=by repeat (first|(with_reducible exact At.zero)|apply At.succ)) (hT:oneB Tryz.prog T=true:=by with_reducible exact zBc):wpList Tryz.prog ops Q ((⟨dst,.load T x,ty,pos,aft,grd⟩:Oper)::rest) a w :=
 zAp hg T x rfl hx H hi hT (yg1 d) h
theorem bWay {x y:Operand} {k:Int} {q:Option Addr} {n c:Nat} (h:wpList Tryz.prog ops Q rest (a.put dst (.agg #[.int .i64 k,.slice q n c])) w) (hg:Region.wanted (⟨dst,.build 58 #[(0,x),(1,y)],ty,pos,aft,grd⟩:Oper) (yielded ops a.tmps)=true:=by first|rfl|exact zAO rfl (zAG rfl (by first|rfl|(simp only[pe];rfl)))) (h0:a.eval x=.int .i64 k:=by first|(simp only[pe];done)|(simp only[pe];rfl)) (h1:a.eval y=.slice q n c:=by first|(simp only[pe];done)|(simp only[pe];rfl)):wpList Tryz.prog ops Q ((⟨dst,.build 58 #[(0,x),(1,y)],ty,pos,aft,grd⟩:Oper)::rest) a w :=
 zAZ hg (by simp only[execOp,List.map_toArray,List.map_cons,List.map_nil,h0,h1,Sem.run_bind,zLE];rfl) h
end
theorem zLM {M:Nat→Prop} {w0 w W:World} {l:List Res} {mb:Nat} {lv mk nv lv':Value} {pp:Option Addr} {cp:Nat} {ps:List InstD} {psl:Option Addr} {csl:Nat} {L:Str} {Fp Fs Fk:Nat→Prop} {zs ys:List WV} (H:HoldG M w0 W l) {q:Nat}
  (hi:At l q (.kn (zDp w (zGx mb lv mk nv pp cp ps psl csl L Fp Fs Fk [] ys++[.row nv 58 2 ys.length (zAP (ys.map wayC))])) (zEf w (zGx mb lv mk nv pp cp ps psl csl L Fp Fs Fk [] ys++[.row nv 58 2 ys.length (zAP (ys.map wayC))])))) (hq:4<q)
  (h:[0,1,2,3,4].map (fun j=>l[j]?)=(zGx mb lv' mk (.slice none 0 0) pp cp ps psl csl L Fp Fs Fk zs ys).map some) :
  Turned M w0 w (zGx mb lv mk nv pp cp ps psl csl L Fp Fs Fk [] ys++[.row nv 58 2 ys.length (zAP (ys.map wayC))]) (zGx mb lv' mk (.slice none 0 0) pp cp ps psl csl L Fp Fs Fk zs ys) W :=
 Turned.of H hi [0,1,2,3,4] (by decide) (by simp;omega) h (fun F S hm b hb=>by
  simp at hm;rcases hm with ⟨rfl,rfl⟩|⟨rfl,rfl⟩|⟨rfl,rfl⟩
  ·exact .inl ⟨.kn F (InstsR F pp cp ps),by simp,hb⟩
  ·exact .inl ⟨.kn F (BytesR F psl csl L),by simp,hb⟩
  ·exact .inl ⟨.kn F (zO4 F ys),by simp,hb⟩)
theorem zQG (mb:Nat) (mk nv:Value) (lq:Option Addr) (lc:Nat) (pp:Option Addr) (cp:Nat) (ps:List InstD) (psl:Option Addr) (csl:Nat) (L:Str) (Fp Fs Fk:Nat→Prop) (ys:List WV) (i:Nat) (M:Nat→Prop) (w0 w:World) (hR:zA3 ps=true) (hset:∀ x ∈ ps,zAW x.set) (hin:∀ y ∈ ys,y.1<ps.length∧((atI ps y.1).kind=1∨(atI ps y.1).kind=5)) (hyn:ys.length≤1000000)
  (H0:HoldG M w0 w (zGx mb (.slice lq 0 lc) mk nv pp cp ps psl csl L Fp Fs Fk [] ys++[.row nv 58 2 ys.length (zAP (ys.map wayC))])) :
  Calls Tryz.prog 23 #[.pointer (some ⟨mb,0,none⟩),.int .i64 i] w (zSa mb (.slice lq 0 lc) mk nv pp cp ps psl csl L Fp Fs Fk ys i M w0 w):=by
 have H:=H0.framed;clear H0;obtain⟨rF,hrF⟩:∃ rF,zDp w (zGx mb (.slice lq 0 lc) mk nv pp cp ps psl csl L Fp Fs Fk [] ys++[.row nv 58 2 ys.length (zAP (ys.map wayC))])=rF:=⟨_,rfl⟩;obtain⟨rS,hrS⟩:∃ rS,zEf w (zGx mb (.slice lq 0 lc) mk nv pp cp ps psl csl L Fp Fs Fk [] ys++[.row nv 58 2 ys.length (zAP (ys.map wayC))])=rS:=⟨_,rfl⟩;rw[hrF,hrS]at H;simp only[zGx,List.cons_append,List.nil_append]at H
 obtain⟨q0,c0,rfl,_,_,hq0⟩:=H.rowShape (i:=5) i_5;obtain⟨n,hn⟩:∃ n,ys.length=n:=⟨_,rfl⟩;have HYL:=Lib.hid (show (ys.map wayC).length=n by rw[List.length_map];exact hn)
 have HN:=Lib.hid hn;rw[hn]at H hq0 hyn;clear hn;obtain⟨iw,hiw,hw0,hw1,hw2⟩:=info_parts zGz
 go_enter Tryz.func23,Tryz.ntmps23
 go_wp2_with (first|((with_reducible refine gL ?_);refine zAp wtd_ _ _ rfl rfl H (i:=0) .zero zBA rfl ?_)|((with_reducible refine gT ?_);refine zAQ wtd_ _ _ _ rfl rfl evd_ H (i:=0) .zero rfl (by show 4<5;omega) (zAI zBA) ?_;clear H;intro w H;simp only[sc]at H)|fail)
 go_loopw [18] (fun ix wr=>∃ (j:Nat) (vq:Option Addr) (vc:Nat) (zs:List WV),j≤n∧ix=.int .i64 j∧Hid (zBN ps L i ((ys.map plW).take j)=(none,zs.map plW))∧Hid (∀ z ∈ zs,z.1<ps.length∧∃ y ∈ ys,z.2=y.2)∧zs.length≤j∧HoldG M w0 wr [.blk mb #[.slice vq zs.length vc,mk,.slice pp ps.length cp,.slice psl L.length csl,.slice none 0 0] 54,.row (.slice vq zs.length vc) 58 2 zs.length (zAP (zs.map wayC)),.kn Fp (InstsR Fp pp cp ps),.kn Fs (BytesR Fs psl csl L),.kn Fk (zO4 Fk ys),.row (.slice q0 n c0) 58 2 n (zAP (ys.map wayC)),.kn rF rS]) (fun ix _=>n+1 - (intOf ix).toNat)
 case atStart=>exact⟨0,lq,lc,[],by omega,rfl,Lib.hid rfl,Lib.hid (fun _ h=>by cases h),by simp,H⟩
 case round =>
  clear H;obtain⟨j,vq,vc,zs,hj,rfl,ES,EZ,hzl,H⟩:=hrel
  by_cases hlt:j<n
  ·have dj:decide (j<n)=true:=decide_eq_true hlt;have dj2:decide ((j:Int)<(n:Int))=true:=decide_eq_true (by omega)
   obtain⟨y,hy⟩:∃ y,ys[j]?=some y:=⟨_,List.getElem?_eq_getElem (by rw[HN.out];exact hlt)⟩
   have HYX:=Lib.hid (show (ys.map wayC)[j]?=some (wayC y) by rw[List.getElem?_map,hy];rfl)
   have hyp:(ys.map plW)[j]?=some (y.1,y.2.1):=by rw[List.getElem?_map,hy];rfl
   have hmem:=List.mem_of_getElem? hy;obtain⟨hk,hkind⟩:=hin y hmem;obtain⟨g0,rfl⟩:=hq0 (by omega)
   obtain⟨x,hx⟩:∃ x,ps[y.1]?=some x:=⟨_,List.getElem?_eq_getElem hk⟩;have hat:=zB5 hx;have hri:=zHB hR hx;have hsx:=hset x (List.mem_of_getElem? hx);obtain⟨bp,op,hpp⟩:=(H.kn (i:=2) i_2).at (by omega)
   subst hpp;have hcell:∀ V,InstsR Fp (some ⟨bp,op,none⟩) cp ps V→∀ q,q<9→V.cell? ⟨bp,op+y.1 * 9+q,none⟩=(zAY x)[q]?:=fun V h=>h.cells hx rfl
   go_upto_region 6 with (first|((with_reducible refine gL ?_);refine zAS wtd_ _ _ rfl rfl zFL (zDr y) (H.rowCell (i:=5) i_5 (zE1 _) HYL.out HYX.out rfl) ?_)|((with_reducible refine gTw ?_);refine aTw H ?_;clear H;intro w H;simp only[sc]at H)|((first|((with_reducible refine kgA 7 ?_);refine kA 7 H ?_)|((with_reducible refine kgX 7 ?_);(first|refine kS 7 H ?_|refine kB 7 H ?_)));clear H;intro b7 w H;try simp only[nr]at H)|fail)
   refine zAr 9 [fun v _=>v=pt mb 0,fun v _=>v=pt mb 0,fun v _=>v=pt mb 2,fun v _=>v=.slice (some ⟨bp,op,none⟩) ps.length cp,fun v _=>v=pt b7 0,fun v _=>v=.int .i64 (y.1:Nat),fun v _=>v=.pointer (some ⟨bp,op+y.1 * 9,none⟩),fun v _=>v=zAu x,zGc w.heap.size (zAY {kind:=0}) 43] (fun _=>false) (by kernel_rfl) (by kernel_rfl) (by kernel_rfl) (by repeat (first|exact trivial|refine⟨zAF _,?_⟩|refine⟨zCv _ _ _,?_⟩)) (fun _ _ h=>by cases h) ?ob ?en
   case ob =>
    refine⟨?_,?_,?_,?_,?_,?_,?_,?_,?_,trivial⟩<;>intro A W h
    ·exact zAB rfl rfl (h.f 0)
    ·(have e22:A.eval (.tmp 22)=.pointer (some ⟨mb,0,none⟩):=h.d 0 22;refine zAA rfl ?_;simp only[execOp,e22];simp[go_sem])
    ·(have e23:A.eval (.tmp 23)=.pointer (some ⟨mb,0,none⟩):=h.d 1 23;refine zAA rfl ?_;simp only[execOp,e23];simp[go_sem])
    ·exact zAA rfl (zAC rfl (h.d 2 24) zB7 ((H.call h.below).cell (i:=0) .zero 2)) (by decide)
    ·(have e7:A.eval (.tmp 7)=.pointer (some ⟨b7,0,none⟩):=h.f 7;refine zAA rfl ?_;simp only[execOp,e7];simp[go_sem])
    ·exact zAA rfl (zAC rfl (h.d 4 26) zAH (((H.call h.below).cell (i:=7) i_7 0).trans (yg0 y))) (by decide)
    ·exact zAo (sz:=9) Tryz.underlying22 (fun w=>by kernel_rfl) rfl rfl (h.d 3 25) (h.d 5 27) hk rfl (by decide)
    ·exact zAA rfl (zAb rfl (h.d 6 28) zAk rfl (hcell _ ((H.call h.below).kn (i:=2) i_2))) (by decide)
    ·exact zFx rfl rfl (by kernel_rfl) zIr h.below.size (by decide)
   case en =>
    intro vals W hbw hv _;have x8:=hv 8 (by omega);simp only[zAh]at x8
    simp only[fa,Nat.reduceAdd];rw[e_ hv 0,e_ hv 1,e_ hv 2,e_ hv 3,e_ hv 4,e_ hv 5,e_ hv 6,e_ hv 7];clear hv
    try simp only[pl]
    try simp only[pl]
    obtain⟨b8,e8,H8⟩:=H.gainB hbw x8;rw[e8];clear x8 e8 H hbw;have H:=H8;clear H8;simp only[ca]at H
    go_upto_region 7 with (first|((with_reducible refine gTi ?_);refine aTi H ?_;clear H;intro w H;try simp only[nr]at H))
    by_cases k5:x.kind=5
    ·have d5:(x.kind == 5)=true:=by rw[beq_iff_eq];exact k5
     have E:=Lib.hid (zOT ES.out hyp (by rw[hat];exact k5))
     clear hcell hyp hri hsx k5 hkind hx hat
     go_wp2_with (first|((with_reducible refine gL ?_);refine aGw1 H ?_)|((with_reducible refine gL ?_);refine aGi H ?_))
     go_ret;rw[← hrF,← hrS]at H;exact⟨.slice vq zs.length vc,zs,some y,E.out,EZ.out,fun y' h=>(by cases h;exact hmem),rfl,zLM H (q:=6) i_6 (by decide) rfl⟩
    ·have d5:(x.kind == 5)=false:=by rw[beq_eq_false_iff_ne];exact k5
     have h1:x.kind=1:=by rw[hat]at hkind;exact hkind.resolve_right k5
     have hnx:=zDG hri (.inl h1);have hon:=fun b hb=>zPB ES.out hyp (by rw[hat];exact k5) b hb
     rw[hat]at hon
     by_cases hiL:i<L.length
     ·obtain⟨bs,os,hbs⟩:=(H.kn (i:=3) i_3).at (by omega)
      subst hbs;have hha:=fun w=>zQo x.set hsx (byt L i) (zCf L i) w
      cases hs:hasB x.set (byt L i) with
      | true =>
       rw[hs]at hha;have E:=Lib.hid (hon true ⟨fun _=>rfl,fun _=>⟨hiL,hs⟩⟩)
       clear hon hcell hyp hri hsx k5 hkind hx hat hs h1
       go_upto_region 9 with (first|((with_reducible refine gL ?_);refine aGi H ?_))
       refine wr_ 20 [fun v _=>v=.int .i64 (i:Nat),fun v _=>v=pt mb 0,fun v _=>v=pt mb 0,fun v _=>v=pt mb 3,fun v _=>v=.slice (some ⟨bs,os,none⟩) L.length csl,fun v _=>v=.int .i64 ((L.length:Nat):Int),fun v _=>v=.bool true,fun v _=>v=.bool true,fun v _=>v=pt b8 1,fun v _=>v=setV x.set,fun v _=>v=pt mb 0,fun v _=>v=pt mb 0,fun v _=>v=pt mb 3,fun v _=>v=.slice (some ⟨bs,os,none⟩) L.length csl,fun v _=>v=.int .i64 (i:Nat),fun v _=>v=.pointer (some ⟨bs,os+i,none⟩),fun v _=>v=.int .u8 (byt L i),fun v _=>v=.bool true,fun v _=>v=.bool true,fun v _=>v=.bool true] ?ob ?en
       case ob =>
        refine⟨?_,?_,?_,?_,?_,?_,?_,?_,?_,?_,?_,?_,?_,?_,?_,?_,?_,?_,?_,?_,trivial⟩<;>intro A W h
        ·exact zAB rfl rfl (h.f 1)
        ·exact zAB rfl rfl (h.f 0)
        ·(have e38:A.eval (.tmp 38)=.pointer (some ⟨mb,0,none⟩):=h.d 1 38;refine zAA rfl ?_;simp only[execOp,e38];simp[go_sem])
        ·(have e39:A.eval (.tmp 39)=.pointer (some ⟨mb,0,none⟩):=h.d 2 39;refine zAA rfl ?_;simp only[execOp,e39];simp[go_sem])
        ·exact zAA rfl (zAC rfl (h.d 3 40) zBI ((H.call h.below).cell (i:=0) .zero 3)) (by decide)
        ·exact zBb Tryz.underlying23 rfl rfl (h.d 4 41)
        ·(have e37:A.eval (.tmp 37)=.int .i64 (i:Nat):=h.d 0 37;have e42:A.eval (.tmp 42)=.int .i64 ((L.length:Nat):Int):=h.d 5 42;refine zAA rfl ?_;simp only[execOp,e37,e42];(simp[go_sem]<;>omega))
        ·exact zAB rfl rfl (h.d 6 43)
        ·(have e8:A.eval (.tmp 8)=.pointer (some ⟨b8,0,none⟩):=h.f 8;refine zAA (wg (h.d 7 44)) ?_;simp only[execOp,e8];simp[go_sem])
        ·exact zAA (wg (h.d 7 44)) (zAb rfl (h.d 8 45) zBY rfl (fun j hj=>by have h1:=(H.call h.below).cell (i:=8) i_8 (1+j);rcases j with _|_|_|_|j<;>first|exact h1|omega)) (by decide)
        ·exact zAB (wg (h.d 7 44)) rfl (h.f 0)
        ·(have e47:A.eval (.tmp 47)=.pointer (some ⟨mb,0,none⟩):=h.d 10 47;refine zAA (wg (h.d 7 44)) ?_;simp only[execOp,e47];simp[go_sem])
        ·(have e48:A.eval (.tmp 48)=.pointer (some ⟨mb,0,none⟩):=h.d 11 48;refine zAA (wg (h.d 7 44)) ?_;simp only[execOp,e48];simp[go_sem])
        ·exact zAA (wg (h.d 7 44)) (zAC rfl (h.d 12 49) zBI ((H.call h.below).cell (i:=0) .zero 3)) (by decide)
        ·exact zAB (wg (h.d 7 44)) rfl (h.f 1)
        ·exact zAo (sz:=1) Tryz.underlying23 (fun w=>by kernel_rfl) (wg (h.d 7 44)) rfl (h.d 13 50) (h.d 14 51) (by omega) (by omega)
        ·exact zAA (wg (h.d 7 44)) (zAC rfl (h.d 15 52) zB0 (((H.call h.below).kn (i:=3) i_3).cell hiL)) (by decide)
        ·exact zAm (wg (h.d 7 44)) rfl (enters_of Tryz.func37 (by kernel_rfl) rfl) (zBz ⟨(h.d 9 46),(h.d 16 53)⟩) (hha W)
        ·exact zA8 rfl rfl (h.d 7 44) (h.d 17 54)
        ·exact zCB rfl rfl (h.d 18 55)
       case en =>
        intro vals W9 hbw hv _;simp only[fa,Nat.reduceAdd];rw[e_ hv 0,e_ hv 1,e_ hv 2,e_ hv 3,e_ hv 4,e_ hv 5,e_ hv 6,e_ hv 7,e_ hv 8,e_ hv 9,e_ hv 10,e_ hv 11,e_ hv 12,e_ hv 13,e_ hv 14,e_ hv 15,e_ hv 16,e_ hv 17,e_ hv 18,e_ hv 19];clear hv
        try simp only[pl]
        try simp only[pl]
        have H:=H.call hbw
        go_upto_region 10 with fail
        refine zCl 12 0 [fun v _=>v=pt mb 0,fun v _=>v=pt mb 0,fun v _=>v=pt mb 0,fun v _=>v=pt mb 0,fun v _=>v=pt mb 0,fun v _=>v=.slice vq zs.length vc,fun v _=>v=pt b8 5,fun v _=>v=.int .i64 x.next,fun v _=>v=pt b7 1,fun v _=>v=.slice y.2.2.1 y.2.1.length y.2.2.2,fun v _=>v=.agg (wayC (x.next.toNat,y.2)),FreshS W9.heap.size (wayC (x.next.toNat,y.2)) 58] (fun _=>false) (by kernel_rfl) (by kernel_rfl) (by kernel_rfl) (by repeat (first|exact trivial|refine⟨zAF _,?_⟩|refine⟨zC8 _ _ _,?_⟩)) (fun _ _ h=>by cases h) ?ob ?en ?en2
        case ob =>
         refine⟨?_,?_,?_,?_,?_,?_,?_,?_,?_,?_,?_,?_,trivial⟩<;>intro A W h
         ·exact zAB rfl rfl (h.f 0)
         ·exact zAB rfl rfl (h.f 0)
         ·(have e57:A.eval (.tmp 57)=.pointer (some ⟨mb,0,none⟩):=h.d 1 57;refine zAA rfl ?_;simp only[execOp,e57];simp[go_sem])
         ·(have e58:A.eval (.tmp 58)=.pointer (some ⟨mb,0,none⟩):=h.d 2 58;refine zAA rfl ?_;simp only[execOp,e58];simp[go_sem])
         ·(have e59:A.eval (.tmp 59)=.pointer (some ⟨mb,0,none⟩):=h.d 3 59;refine zAA rfl ?_;simp only[execOp,e59];simp[go_sem])
         ·exact zAA rfl (zAC rfl (h.d 4 60) zBA ((H.call h.below).cell (i:=0) .zero 0)) (by decide)
         ·(have e8:A.eval (.tmp 8)=.pointer (some ⟨b8,0,none⟩):=h.f 8;refine zAA rfl ?_;simp only[execOp,e8];simp[go_sem])
         ·exact zAA rfl (zAC rfl (h.d 6 62) zAH (((H.call h.below).cell (i:=8) i_8 5).trans (ig5 x))) (by decide)
         ·(have e7:A.eval (.tmp 7)=.pointer (some ⟨b7,0,none⟩):=h.f 7;refine zAA rfl ?_;simp only[execOp,e7];simp[go_sem])
         ·exact zAA rfl (zAC rfl (h.d 8 64) zBc (((H.call h.below).cell (i:=7) i_7 1).trans (yg1 y))) (by decide)
         ·exact zAA rfl (zFb rfl (h.d 7 63) (h.d 9 65) hnx.1) (by decide)
         ·exact zN8 rfl rfl (h.d 10 66) h.below.size (by decide)
        case en =>
         intro vals W hbw hv _;have x11:=hv 11 (by omega);simp only[zAh]at x11
         simp only[fa,Nat.reduceAdd];rw[e_ hv 0,e_ hv 1,e_ hv 2,e_ hv 3,e_ hv 4,e_ hv 5,e_ hv 6,e_ hv 7,e_ hv 8,e_ hv 9,e_ hv 10];clear hv
         try simp only[pl]
         try simp only[pl]
         obtain⟨bk,e11,H8⟩:=H.gainS2 hbw x11;rw[e11];clear x11 e11 H hbw;have H:=H8;clear H8;simp only[ca]at H
         go_wp2_with (first|(at_builtin;refine zAX rfl _ _ 50 rfl H (i:=1) (j:=9) evd_ rfl i_1 i_9 Tryz.underlying50 hiw hw0 hw1 hw2 rfl (by decide) rfl rfl (by unfold maxLen;omega) (by omega) ?_;clear H;intro v2 w H;(try simp only[nr]at H);(obtain⟨q2,c2,rfl,_,_,_⟩:=H.rowShape (i:=1) i_1))|((with_reducible refine gT ?_);refine zAQ wtd_ _ _ _ rfl rfl evd_ H (i:=0) .zero rfl (by show 0<5;omega) (zAI zBA) ?_;clear H;intro w H;simp only[sc]at H)|fail)
         rw[zCr,show zs.length+1=(zs++[((x.next.toNat,y.2):WV)]).length by simp]at H
         go_roundw
         case rel=>exact⟨j+1,q2,c2,zs++[((x.next.toNat,y.2):WV)],by omega,by go_num,Lib.hid (by rw[E.out,List.map_append];rfl),Lib.hid (fun z hz=>(List.mem_append.1 hz).elim (EZ.out z) (fun h=>by rw[List.mem_singleton]at h;subst h;exact⟨by show x.next.toNat<_;omega,y,hmem,rfl⟩)),by simp;omega,H.pick [0,1,2,3,4,5,6] _ (by decide) rfl⟩
         case measure=>simp[intOf];omega
        case en2 =>
         intro vals W hbw hv _;have v1:vals 1=_:=hv 1 (by omega) (by omega)
         have v2:vals 2=_:=hv 2 (by omega) (by omega)
         have v3:vals 3=_:=hv 3 (by omega) (by omega)
         have v4:vals 4=_:=hv 4 (by omega) (by omega)
         have v5:vals 5=_:=hv 5 (by omega) (by omega)
         have v6:vals 6=_:=hv 6 (by omega) (by omega)
         have v7:vals 7=_:=hv 7 (by omega) (by omega)
         have v8:vals 8=_:=hv 8 (by omega) (by omega)
         have v9:vals 9=_:=hv 9 (by omega) (by omega)
         have v10:vals 10=_:=hv 10 (by omega) (by omega)
         have x11:=hv 11 (by omega) (by omega);simp only[zAh]at x11
         simp only[List.take_succ_cons,List.take_zero,List.drop_succ_cons,List.drop_zero,List.drop_nil,List.take_nil,zC1,zHd,List.cons_append,List.nil_append,Nat.reduceEqDiff,if_true,if_false,reduceCtorEq,Nat.zero_add,Nat.reduceAdd];rw[v1,v2,v3,v4,v5,v6,v7,v8,v9,v10];clear hv v1 v2 v3 v4 v5 v6 v7 v8 v9 v10
         try simp only[pl]
         try simp only[pl]
         obtain⟨bk,e11,H8⟩:=H.gainS2 hbw x11;rw[e11];clear x11 e11 H hbw;have H:=H8;clear H8;simp only[ca]at H
         go_wp2_with (first|(at_builtin;refine zAX rfl _ _ 50 rfl H (i:=1) (j:=9) evd_ rfl i_1 i_9 Tryz.underlying50 hiw hw0 hw1 hw2 rfl (by decide) rfl rfl (by unfold maxLen;omega) (by omega) ?_;clear H;intro v2 w H;(try simp only[nr]at H);(obtain⟨q2,c2,rfl,_,_,_⟩:=H.rowShape (i:=1) i_1))|((with_reducible refine gT ?_);refine zAQ wtd_ _ _ _ rfl rfl evd_ H (i:=0) .zero rfl (by show 0<5;omega) (zAI zBA) ?_;clear H;intro w H;simp only[sc]at H)|fail)
         rw[zCr,show zs.length+1=(zs++[((x.next.toNat,y.2):WV)]).length by simp]at H
         go_roundw
         case rel=>exact⟨j+1,q2,c2,zs++[((x.next.toNat,y.2):WV)],by omega,by go_num,Lib.hid (by rw[E.out,List.map_append];rfl),Lib.hid (fun z hz=>(List.mem_append.1 hz).elim (EZ.out z) (fun h=>by rw[List.mem_singleton]at h;subst h;exact⟨by show x.next.toNat<_;omega,y,hmem,rfl⟩)),by simp;omega,H.pick [0,1,2,3,4,5,6] _ (by decide) rfl⟩
         case measure=>simp[intOf];omega
      | false =>
       rw[hs]at hha;have E:=Lib.hid (hon false ⟨fun h=>(by rw[hs]at h;exact absurd h.2 (by decide)),fun h=>by cases h⟩)
       clear hon hcell hyp hri hsx k5 hkind hx hat hs h1
       go_upto_region 9 with (first|((with_reducible refine gL ?_);refine aGi H ?_))
       refine wr_ 20 [fun v _=>v=.int .i64 (i:Nat),fun v _=>v=pt mb 0,fun v _=>v=pt mb 0,fun v _=>v=pt mb 3,fun v _=>v=.slice (some ⟨bs,os,none⟩) L.length csl,fun v _=>v=.int .i64 ((L.length:Nat):Int),fun v _=>v=.bool true,fun v _=>v=.bool true,fun v _=>v=pt b8 1,fun v _=>v=setV x.set,fun v _=>v=pt mb 0,fun v _=>v=pt mb 0,fun v _=>v=pt mb 3,fun v _=>v=.slice (some ⟨bs,os,none⟩) L.length csl,fun v _=>v=.int .i64 (i:Nat),fun v _=>v=.pointer (some ⟨bs,os+i,none⟩),fun v _=>v=.int .u8 (byt L i),fun v _=>v=.bool false,fun v _=>v=.bool false,fun v _=>v=.bool false] ?ob ?en
       case ob =>
        refine⟨?_,?_,?_,?_,?_,?_,?_,?_,?_,?_,?_,?_,?_,?_,?_,?_,?_,?_,?_,?_,trivial⟩<;>intro A W h
        ·exact zAB rfl rfl (h.f 1)
        ·exact zAB rfl rfl (h.f 0)
        ·(have e38:A.eval (.tmp 38)=.pointer (some ⟨mb,0,none⟩):=h.d 1 38;refine zAA rfl ?_;simp only[execOp,e38];simp[go_sem])
        ·(have e39:A.eval (.tmp 39)=.pointer (some ⟨mb,0,none⟩):=h.d 2 39;refine zAA rfl ?_;simp only[execOp,e39];simp[go_sem])
        ·exact zAA rfl (zAC rfl (h.d 3 40) zBI ((H.call h.below).cell (i:=0) .zero 3)) (by decide)
        ·exact zBb Tryz.underlying23 rfl rfl (h.d 4 41)
        ·(have e37:A.eval (.tmp 37)=.int .i64 (i:Nat):=h.d 0 37;have e42:A.eval (.tmp 42)=.int .i64 ((L.length:Nat):Int):=h.d 5 42;refine zAA rfl ?_;simp only[execOp,e37,e42];(simp[go_sem]<;>omega))
        ·exact zAB rfl rfl (h.d 6 43)
        ·(have e8:A.eval (.tmp 8)=.pointer (some ⟨b8,0,none⟩):=h.f 8;refine zAA (wg (h.d 7 44)) ?_;simp only[execOp,e8];simp[go_sem])
        ·exact zAA (wg (h.d 7 44)) (zAb rfl (h.d 8 45) zBY rfl (fun j hj=>by have h1:=(H.call h.below).cell (i:=8) i_8 (1+j);rcases j with _|_|_|_|j<;>first|exact h1|omega)) (by decide)
        ·exact zAB (wg (h.d 7 44)) rfl (h.f 0)
        ·(have e47:A.eval (.tmp 47)=.pointer (some ⟨mb,0,none⟩):=h.d 10 47;refine zAA (wg (h.d 7 44)) ?_;simp only[execOp,e47];simp[go_sem])
        ·(have e48:A.eval (.tmp 48)=.pointer (some ⟨mb,0,none⟩):=h.d 11 48;refine zAA (wg (h.d 7 44)) ?_;simp only[execOp,e48];simp[go_sem])
        ·exact zAA (wg (h.d 7 44)) (zAC rfl (h.d 12 49) zBI ((H.call h.below).cell (i:=0) .zero 3)) (by decide)
        ·exact zAB (wg (h.d 7 44)) rfl (h.f 1)
        ·exact zAo (sz:=1) Tryz.underlying23 (fun w=>by kernel_rfl) (wg (h.d 7 44)) rfl (h.d 13 50) (h.d 14 51) (by omega) (by omega)
        ·exact zAA (wg (h.d 7 44)) (zAC rfl (h.d 15 52) zB0 (((H.call h.below).kn (i:=3) i_3).cell hiL)) (by decide)
        ·exact zAm (wg (h.d 7 44)) rfl (enters_of Tryz.func37 (by kernel_rfl) rfl) (zBz ⟨(h.d 9 46),(h.d 16 53)⟩) (hha W)
        ·exact zA8 rfl rfl (h.d 7 44) (h.d 17 54)
        ·exact zCB rfl rfl (h.d 18 55)
       case en =>
        intro vals W hbw hv _;simp only[fa,Nat.reduceAdd];rw[e_ hv 0,e_ hv 1,e_ hv 2,e_ hv 3,e_ hv 4,e_ hv 5,e_ hv 6,e_ hv 7,e_ hv 8,e_ hv 9,e_ hv 10,e_ hv 11,e_ hv 12,e_ hv 13,e_ hv 14,e_ hv 15,e_ hv 16,e_ hv 17,e_ hv 18,e_ hv 19];clear hv
        try simp only[pl]
        try simp only[pl]
        have H:=H.call hbw
        go_wp2_with (first|fail)
        go_roundw
        case rel=>exact⟨j+1,vq,vc,zs,by omega,by go_num,Lib.hid E.out,EZ,by omega,H.pick [0,1,2,3,4,5,6] _ (by decide) rfl⟩
        case measure=>simp[intOf];omega
     ·have E:=Lib.hid (hon false ⟨fun h=>absurd h.1 hiL,fun h=>by cases h⟩)
      have hiE2:L.length≤i:=by omega
      have di:=decide_eq_false hiL;clear hon hcell hyp hri hsx k5 hkind hx hat h1 hiL
      go_upto_region 9 with (first|((with_reducible refine gL ?_);refine aGi H ?_))
      refine wr_ 20 [fun v _=>v=.int .i64 (i:Nat),fun v _=>v=pt mb 0,fun v _=>v=pt mb 0,fun v _=>v=pt mb 3,fun v _=>v=.slice psl L.length csl,fun v _=>v=.int .i64 ((L.length:Nat):Int),fun v _=>v=.bool false,fun v _=>v=.bool false,fun v _=>v=undef,fun v _=>v=undef,fun v _=>v=undef,fun v _=>v=undef,fun v _=>v=undef,fun v _=>v=undef,fun v _=>v=undef,fun v _=>v=undef,fun v _=>v=undef,fun v _=>v=undef,fun v _=>v=Value.bool false,fun v _=>v=Value.bool false] ?ob ?en
      case ob =>
       refine⟨?_,?_,?_,?_,?_,?_,?_,?_,?_,?_,?_,?_,?_,?_,?_,?_,?_,?_,?_,?_,trivial⟩<;>intro A W h
       ·exact zAB rfl rfl (h.f 1)
       ·exact zAB rfl rfl (h.f 0)
       ·(have e38:A.eval (.tmp 38)=.pointer (some ⟨mb,0,none⟩):=h.d 1 38;refine zAA rfl ?_;simp only[execOp,e38];simp[go_sem])
       ·(have e39:A.eval (.tmp 39)=.pointer (some ⟨mb,0,none⟩):=h.d 2 39;refine zAA rfl ?_;simp only[execOp,e39];simp[go_sem])
       ·exact zAA rfl (zAC rfl (h.d 3 40) zBI ((H.call h.below).cell (i:=0) .zero 3)) (by decide)
       ·exact zBb Tryz.underlying23 rfl rfl (h.d 4 41)
       ·(have e37:A.eval (.tmp 37)=.int .i64 (i:Nat):=h.d 0 37;have e42:A.eval (.tmp 42)=.int .i64 ((L.length:Nat):Int):=h.d 5 42;refine zAA rfl ?_;simp only[execOp,e37,e42];(simp[go_sem]<;>omega))
       ·exact zAB rfl rfl (h.d 6 43)
       ·exact rsk (h.d 7 44)
       ·exact rsk (h.d 7 44)
       ·exact rsk (h.d 7 44)
       ·exact rsk (h.d 7 44)
       ·exact rsk (h.d 7 44)
       ·exact rsk (h.d 7 44)
       ·exact rsk (h.d 7 44)
       ·exact rsk (h.d 7 44)
       ·exact rsk (h.d 7 44)
       ·exact rsk (h.d 7 44)
       ·exact zA8 rfl rfl (h.d 7 44) (rfl)
       ·exact zCB rfl rfl (h.d 18 55)
      case en =>
       intro vals W hbw hv _;simp only[fa,Nat.reduceAdd];rw[e_ hv 0,e_ hv 1,e_ hv 2,e_ hv 3,e_ hv 4,e_ hv 5,e_ hv 6,e_ hv 7,e_ hv 8,e_ hv 9,e_ hv 10,e_ hv 11,e_ hv 12,e_ hv 13,e_ hv 14,e_ hv 15,e_ hv 16,e_ hv 17,e_ hv 18,e_ hv 19];clear hv
       try simp only[pl]
       try simp only[pl]
       have H:=H.call hbw
       go_wp2_with (first|fail)
       go_roundw
       case rel=>exact⟨j+1,vq,vc,zs,by omega,by go_num,Lib.hid E.out,EZ,by omega,H.pick [0,1,2,3,4,5,6] _ (by decide) rfl⟩
       case measure=>simp[intOf];omega
  ·have hjn:j=n:=by omega
   have dj:decide (j<n)=false:=decide_eq_false hlt;have dj2:decide ((j:Int)<(n:Int))=false:=decide_eq_false (by omega)
   have E:=ES.out;rw[List.take_of_length_le (by rw[List.length_map,HN.out];omega)]at E
   have E:=Lib.hid E;clear hjn
   go_wp2_with (first|fail)
   go_ret;rw[← hrF,← hrS]at H;exact⟨.slice vq zs.length vc,zs,none,E.out,EZ.out,fun y' h=>(by cases h),rfl,zLM H (q:=6) i_6 (by decide) rfl⟩
theorem zRI (a:Nat) (ha:a<1000):bits .and .u64 (a:Int) 4294967295=(a:Int):=by
 have h:=bits_and_u64_nat a 4294967295 (by omega) (by omega)
 have e:a &&& 4294967295=a % 4294967296:=Nat.and_two_pow_sub_one_eq_mod a 32;rw[e,Nat.mod_eq_of_lt (by omega)]at h
 exact h
theorem zSR:bits .and .u64 (1:Int) 4294967295=1:=zRI 1 (by omega)
theorem zSf:bits .and .u64 (0:Int) 4294967295=0:=zRI 0 (by omega)
theorem divN (a:Nat) (ha:a<1000):(a:Int) / 4294967296=0:=by omega
theorem zR4 (a:Nat) (ha:a<1000):IntKind.u64.wrap (a:Int)=(a:Int):=by rw[IntKind.wrap_u64];omega
theorem zSd:IntKind.u64.wrap 0=0:=rfl
theorem zML (n:Nat) (hn:n<1000) (w:World):Calls Tryz.prog 74 #[.int .u64 1,.int .u64 n] w fun e w'=>e=.returned (.tuple #[.int .u64 0,.int .u64 n])∧w'=w:=by
 go_enter Tryz.func74,Tryz.ntmps74
 go_wp2
 simp only[zRI n hn,zSR,zSf,divN n hn,zR4 n hn,zSd,Int.one_mul,Int.zero_mul,Int.mul_zero,Int.add_zero,Int.zero_add,Int.reduceDiv,Int.reduceMul,Int.reduceAdd]
 go_ret2
 exact⟨rfl,rfl⟩
theorem zOp (n:Nat) (hn:n<1000) (w:World):Calls Tryz.prog 34 #[.int .u64 1,.int .u64 n] w fun e w'=>e=.returned (.tuple #[.int .u64 0,.int .u64 n])∧w'=w:=by
 have c64:=zML n hn w
 go_enter Tryz.func34,Tryz.ntmps34
 go_wp2_with (go_at_call 74;refine c64.mono ?_;rintro e w' ⟨rfl,hw⟩;rw[hw])
 go_ret2
 exact⟨rfl,rfl⟩
theorem zJd (W:World) (b:Nat) (cs:Array Value):W.grownBy (W.setRow b cs) (some b):=by
 refine⟨rfl,rfl,rfl,by simp[World.setRow],fun j hj hne=>setRow_other W b j cs (fun e=>hne (by rw[e]))⟩
theorem zHa {P:Program} {ops:Array Oper} {rest:List Oper} {o:Oper} {a:Act} {w w0:World} {Q:Exit→Act→World→Prop} {l:List Res} {M:Nat→Prop} (hgd:o.guard=none) (d s:Operand) (dT sT:TypeId)
  (ho:o.op=.call {callee:=.builtin .copy,args:=#[d,s],argTypes:=#[dT,sT]}) {e:TypeId} (hu:P.underlying dT=some (.slice e)) (hsz:(P.info? e).map (·.size)=some 1)
  {g off dLen dCap sLen sCap:Nat} {ad:Addr} (hd:a.eval d=.slice (some ⟨g,off,none⟩) dLen dCap) (hs:a.eval s=.slice (some ad) sLen sCap) (H:HoldG M w0 w l) {j n cap:Nat} {xs:List Value}
  (hi:At l j (.row (.slice (some ⟨g,0,none⟩) n cap) e 1 n xs)) (hl:xs.length=n) (cs:List Value) (hn:cs.length=Nat.min sLen dLen) (hsrc:∀ k v,cs[k]?=some v→w.cell? (ad.add k)=some v) (hfit:off+cs.length≤n) (h1:∀ v ∈ cs,v.oneCell'=true)
  (h:∀ w',HoldG M w0 w' (l.set j (.row (.slice (some ⟨g,0,none⟩) n cap) e 1 n (xs.take off++(cs++xs.drop (off+cs.length)))))→wpList P ops Q rest (a.put o.dst (goInt cs.length)) w'):wpList P ops Q (o::rest) a w:=by
 obtain⟨hlen,⟨hv',_⟩|⟨g',cap',cur,hv',hb,hg',hn',hc,hsz',ht⟩⟩:=H.all j _ hi.get
 ·cases hv'
 ·cases hv'
  refine wpList_copy_own hgd d s dT sT ho e hu hsz g off dLen dCap ad sLen sCap hd hs cur e hg' cs hn hsrc (by omega) h1 ?_
  refine h _ (H.upd hi.get (zJd w g _) ⟨?_,.inr ⟨g,cap,_,rfl,hb,setRow_heap w g _ _ e _ hg',hn',hc,?_,?_⟩⟩ (fun _ e=>.inl e))
  ·simp;omega
  ·simp;omega
  ·simp only[Nat.mul_one]at ht ⊢;rw[← ht];apply List.ext_getElem?;intro k;simp only[List.getElem?_append,List.getElem?_take,List.getElem?_drop,List.length_take,List.length_drop,Array.length_toList];split<;>split<;>(try split)<;>(try split)<;>(try split)<;>(try split)<;>first|rfl|omega|(congr 1;omega)|(symm;apply List.getElem?_eq_none;simp;omega)|skip
def rpt (v:Int) (j n:Nat):List Value:=List.replicate j (.int .i64 v)++List.replicate (n - j) (.int .i64 0)
theorem zGX {v:Int} {j n:Nat} (h:j≤n):(rpt v j n).length=n:=by simp[rpt];omega
theorem zPX {v:Int} {j n k:Nat} (h:k≤j):(rpt v j n).take k=List.replicate k (.int .i64 v):=by
 unfold rpt;rw[List.take_append_of_le_length (by simpa using h),List.take_replicate,Nat.min_eq_left h]
theorem zP1 {v:Int} {j n k:Nat} (h:j≤k):(rpt v j n).drop k=List.replicate (n - k) (.int .i64 0):=by
 unfold rpt;rw[List.drop_append,List.drop_of_length_le (by simpa using h),List.drop_replicate,List.nil_append]
 congr 1;simp;omega
theorem zLJ {v:Int} {j n:Nat} (h:j≤n) (m:Nat) (hm:j+m≤n):(rpt v j n).take j++(List.replicate m (.int .i64 v)++(rpt v j n).drop (j+m))=rpt v (j+m) n:=by
 rw[zPX (Nat.le_refl _),zP1 (by omega),← List.append_assoc,List.replicate_append_replicate]
 rfl
theorem IntsR.cell {F:Nat→Prop} {b off c:Nat} {xs:List Int} {W:World} (h:IntsR F (some ⟨b,off,none⟩) c xs W) {j:Nat} (hj:j<xs.length):W.cell? ⟨b,off+j,none⟩=some (.int .i64 xs[j]):=by
 obtain⟨p',c',e,_,_,_,h3⟩:=h;obtain⟨b',off',e2,_,_,h4⟩:=h3 j #[.int .i64 xs[j]] (by rw[List.getElem?_map,List.getElem?_eq_getElem hj];rfl)
 simp only[Value.slice.injEq]at e;obtain⟨rfl,_,rfl⟩:=e;simp only[Option.some.injEq,Addr.mk.injEq]at e2;obtain⟨rfl,rfl,_⟩:=e2;have:=h4 0 (by omega)
 simpa using this
theorem zLb {M:Nat→Prop} {w0 W:World} {l:List Res} (H:HoldG M w0 W l) {i gs n j:Nat} {v:Int} {e:TypeId} (hi:At l i (.row (.slice (some ⟨gs,0,none⟩) n n) e 1 n (rpt v j n))) (hj:j≤n) {k:Nat} (hk:k<j):W.cell? ⟨gs,k,none⟩=some (.int .i64 v):=by
 obtain⟨hlen,⟨hv',_⟩|⟨g',cap',cur,hv',hb,hg',hn',hc,hsz',ht⟩⟩:=H.all i _ hi.get
 ·cases hv'
 ·cases hv'
  have:cur.toList.take n=rpt v j n:=by simpa using ht
  have h2:(cur.toList.take n)[k]?=some (.int .i64 v):=by
   rw[this,rpt,List.getElem?_append_left (by simp;omega),List.getElem?_replicate,if_pos (by omega)]
  rw[List.getElem?_take,if_pos (by omega)]at h2
  have h3:W.cell? ⟨gs,k,none⟩=cur[k]?:=by simp[World.cell?,hg']
  rw[h3]
  simpa using h2
theorem zO8 (g n j:Nat) (hj:j<n) (W:World):(Instr.slice 27 (.slice (some ⟨g,0,none⟩) n n) (some (.int .i64 (j:Int))) none none).run Tryz.prog W=.ok (.slice (some ⟨g,j,none⟩) (n - j) (n - j)) W:=by
 have he:Tryz.prog.elem 27=3:=by simp[Program.elem,Tryz.underlying27]
 have hz:∀ w,(sizeOf 3).run Tryz.prog w=.ok 1 w:=fun w=>by kernel_rfl
 rw[run_slice_l W 27 _ n n (by rw[he];exact Tryz.underlying27) .i64 j (by omega) (by omega),he,hz]
 simp[Result.andThen,sliced,Addr.add];rw[if_neg (by omega)]
 split
 ·rename_i h;subst h;rfl
 ·rfl
theorem zSJ (g n j:Nat) (hj:j≤n) (W:World):(Instr.slice 27 (.slice (some ⟨g,0,none⟩) n n) none (some (.int .i64 (j:Int))) none).run Tryz.prog W=.ok (.slice (some ⟨g,0,none⟩) j n) W:=by
 have he:Tryz.prog.elem 27=3:=by simp[Program.elem,Tryz.underlying27]
 have hz:∀ w,(sizeOf 3).run Tryz.prog w=.ok 1 w:=fun w=>by kernel_rfl
 rw[run_slice_h W 27 _ n n (by rw[he];exact Tryz.underlying27) .i64 j (by omega) (by omega),he,hz]
 simp[Result.andThen,sliced,Addr.add]
theorem zNu (q:Option Addr) (c:Nat) (v:Int) (n:Nat) (F:Nat→Prop) (w0:World) (hn2:2≤n) (hn:n≤50) (hF:∀ b,F b→b<w0.heap.size) (h:IntsR F q c [v] w0) :
  Calls Tryz.prog 20 #[.slice q 1 c,.int .i64 n] w0 fun e w'=>OwnI w0 (List.replicate n v) e w':=by
 have H:=(Hold.start w0).know F (IntsR F q c [v]) hF (fun i r h=>by simp at h) (fun V hV=>h.kept hV)
 simp only[List.nil_append]at H;obtain⟨bq,oq,hq⟩:=h.at (by simp)
 subst hq;clear h;obtain⟨ii,hii,hi0,hi1,hi2⟩:=info_parts zFu;have hmul:=fun w=>zOp n (by omega) w
 have d1:decide ((n:Int)<0)=false:=decide_eq_false (by omega)
 have d2:decide ((9223372036854775807:Int)<(n:Int))=false:=decide_eq_false (by omega)
 have w1:IntKind.u64.wrap (n:Int)=(n:Int):=zR4 n (by omega)
 have w2:wrap64 (n:Int)=(n:Int):=by unfold wrap64;omega
 have w3:IntKind.u64.wrap 1=1:=rfl
 go_enter Tryz.func20,Tryz.ntmps20
 go_upto_region 4 with (first|fail|(go_at_call 34;refine(hmul _).mono ?_;rintro e w' ⟨rfl,hw⟩;rw[hw]))
 go_upto_region 6 with (first|fail)
 go_upto_region 7 with (first|((with_reducible refine gMS ?_);refine zIe rfl _ _ 27 rfl H Tryz.underlying27 hii hi0 hi1 hi2 rfl (n:=n) (by first|rfl|(rw[← w2];rfl)) (by first|rfl|(rw[← w2];rfl)) (by omega) (by unfold maxLen;omega) ?_;clear H;intro gs w H;simp only[ca]at H)|fail)
 rw[show List.replicate n (Value.int .i64 0)=rpt v 0 n by simp[rpt]]at H
 have hk:w.cell? ⟨bq,oq,none⟩=some (.int .i64 v):=IntsR.cell (j:=0) (H.kn (i:=0) .zero) (by simp)
 go_upto_region 8 with (first|((with_reducible show @wpList _ _ _ ({dst:=_,op:=Op.call {callee:=.builtin .copy,args:=_,argTypes:=_},type:=_,pos:=_,after:=_,guard:=_}::_) _ _);(go_loud (refine zHa rfl _ _ _ _ rfl Tryz.underlying27 (by kernel_rfl) evd_ evd_ H (j:=1) i_1 (zGX (Nat.zero_le _)) [.int .i64 v] (by show 1=min _ _;omega) (fun k u hu=>by rcases k with _|k;(· cases hu;exact hk);(· simp at hu)) (by simp;omega) (by intro u hu;simp at hu;subst hu;rfl) ?_));clear H;intro w H;try simp only[sc]at H)|fail)
 have hcp:(rpt v 0 n).take 0++([Value.int .i64 v]++(rpt v 0 n).drop (0+[Value.int .i64 v].length))=rpt v 1 n:=by
  have:=zLJ (v:=v) (j:=0) (n:=n) (by omega) 1 (by omega)
  simpa using this
 rw[hcp]at H;clear hcp hk hmul w1 w3 d1 d2
 go_loopw [8] (fun ix wr=>∃ (j:Nat),1≤j∧j≤n∧ix=.int .i64 j∧Hold w0 wr [.kn F (IntsR F (some ⟨bq,oq,none⟩) c [v]),.row (.slice (some ⟨gs,0,none⟩) n n) 3 1 n (rpt v j n)]) (fun v _=>n - (intOf v).toNat)
 case atStart=>exact⟨1,by omega,by omega,rfl,H⟩
 case round =>
  clear H;obtain⟨j,hj1,hj,rfl,H⟩:=hrel
  by_cases hlt:j<n
  ·have dj:decide (j<n)=true:=decide_eq_true hlt;have dj2:decide ((j:Int)<(n:Int))=true:=decide_eq_true (by omega)
   obtain⟨m,hm⟩:∃ m,Nat.min j (n - j)=m:=⟨_,rfl⟩;have hm1:1≤m:=by rw[← hm];show 1≤min j (n - j);omega
   have hm2:m≤n - j:=by rw[← hm];show min j (n - j)≤_;omega
   have hm3:m≤j:=by rw[← hm];show min j (n - j)≤_;omega
   have hel:Tryz.prog.underlying 27=some (.slice (Tryz.prog.elem 27)):=by kernel_rfl
   have hrun1:=zO8 gs n j hlt;have hrun2:=zSJ gs n j hj;have hcp:=zLJ (v:=v) hj m (by omega)
   have HEL:=Lib.hid hel;clear hel;have HM:=Lib.hid hm;clear hm;have HP:=Lib.hid hcp;clear hcp
   go_upto_region 9 with (first|fail)
   refine zCl 7 0 [fun v _=>v=.int .i64 (j:Nat),fun v _=>v=.slice (some ⟨gs,0,none⟩) n n,fun v _=>v=.int .i64 (j:Nat),fun v _=>v=.slice (some ⟨gs,j,none⟩) (n - j) (n - j),fun v _=>v=.slice (some ⟨gs,0,none⟩) n n,fun v _=>v=.int .i64 (j:Nat),fun v _=>v=.slice (some ⟨gs,0,none⟩) j n] (fun _=>false) (by kernel_rfl) (by kernel_rfl) (by kernel_rfl) (by repeat (first|exact trivial|refine⟨zAF _,?_⟩)) (fun _ _ h=>by cases h) ?ob ?en ?en2
   case ob =>
    refine⟨?_,?_,?_,?_,?_,?_,?_,trivial⟩<;>intro A W h
    ·exact zAB rfl rfl (h.f 8)
    ·exact zAB rfl rfl (h.f 7)
    ·exact zAB rfl rfl (h.f 8)
    ·(have e39:A.eval (.tmp 39)=.slice (some ⟨gs,0,none⟩) n n:=h.d 1 39;have e40:A.eval (.tmp 40)=.int .i64 (j:Nat):=h.d 2 40;refine zAA rfl ?_;simp only[execOp,e39,e40];(simp only[Option.map,e40,Sem.run_bind,run_sliceAt_slice (h:=HEL.out),hrun1,Result.andThen_ok,Sem.run_pure]))
    ·exact zAB rfl rfl (h.f 7)
    ·exact zAB rfl rfl (h.f 8)
    ·(have e42:A.eval (.tmp 42)=.slice (some ⟨gs,0,none⟩) n n:=h.d 4 42;have e43:A.eval (.tmp 43)=.int .i64 (j:Nat):=h.d 5 43;refine zAA rfl ?_;simp only[execOp,e42,e43];(simp only[Option.map,e43,Sem.run_bind,run_sliceAt_slice (h:=HEL.out),hrun2,Result.andThen_ok,Sem.run_pure]))
   case en =>
    intro vals W hbw hv _;simp only[fa,Nat.reduceAdd];rw[e_ hv 0,e_ hv 1,e_ hv 2,e_ hv 3,e_ hv 4,e_ hv 5,e_ hv 6];clear hv
    try simp only[pl]
    try simp only[pl]
    have H:=H.call hbw;refine zHa rfl _ _ _ _ rfl Tryz.underlying27 (by kernel_rfl) evd_ evd_ H (j:=1) i_1 (zGX hj) (List.replicate m (.int .i64 v)) (by rw[List.length_replicate];exact HM.out.symm) (fun k u hu=>by rw[List.getElem?_replicate]at hu;(split at hu<;>cases hu);rename_i hk;have:=zLb H (i:=1) i_1 hj (k:=k) (by omega);rw[Addr.add_mid,Nat.zero_add];exact this) (by simp;omega) (by intro u hu;rw[List.mem_replicate]at hu;rw[hu.2];rfl) ?_
    clear H;intro w H;(try simp only[sc]at H);simp only[List.length_replicate]at H;rw[HP.out]at H
    go_wp2_with (first|fail)
    go_roundw
    case rel=>exact⟨j+m,by omega,by omega,by go_num,H⟩
    case measure=>simp[intOf];omega
   case en2 =>
    intro vals W hbw hv _;have v1:vals 1=_:=hv 1 (by omega) (by omega)
    have v2:vals 2=_:=hv 2 (by omega) (by omega)
    have v3:vals 3=_:=hv 3 (by omega) (by omega)
    have v4:vals 4=_:=hv 4 (by omega) (by omega)
    have v5:vals 5=_:=hv 5 (by omega) (by omega)
    have v6:vals 6=_:=hv 6 (by omega) (by omega)
    simp only[List.take_succ_cons,List.take_zero,List.drop_succ_cons,List.drop_zero,List.drop_nil,List.take_nil,zC1,zHd,List.cons_append,List.nil_append,Nat.reduceEqDiff,if_true,if_false,reduceCtorEq,Nat.zero_add,Nat.reduceAdd];rw[v1,v2,v3,v4,v5,v6];clear hv v1 v2 v3 v4 v5 v6
    try simp only[pl]
    try simp only[pl]
    have H:=H.call hbw;refine zHa rfl _ _ _ _ rfl Tryz.underlying27 (by kernel_rfl) evd_ evd_ H (j:=1) i_1 (zGX hj) (List.replicate m (.int .i64 v)) (by rw[List.length_replicate];exact HM.out.symm) (fun k u hu=>by rw[List.getElem?_replicate]at hu;(split at hu<;>cases hu);rename_i hk;have:=zLb H (i:=1) i_1 hj (k:=k) (by omega);rw[Addr.add_mid,Nat.zero_add];exact this) (by simp;omega) (by intro u hu;rw[List.mem_replicate]at hu;rw[hu.2];rfl) ?_
    clear H;intro w H;(try simp only[sc]at H);simp only[List.length_replicate]at H;rw[HP.out]at H
    go_wp2_with (first|fail)
    go_roundw
    case rel=>exact⟨j+m,by omega,by omega,by go_num,H⟩
    case measure=>simp[intOf];omega
  ·have hjn:j=n:=by omega
   subst hjn;have dj:decide (j<j)=false:=by simp
   have dj2:decide ((j:Int)<(j:Int))=false:=by simp
   go_wp2_with (first|fail)
   go_ret;rw[show rpt v j j=(List.replicate j v).map (.int .i64) by simp[rpt]]at H
   refine⟨some ⟨gs,0,none⟩,j,by simp,?_,H.below⟩
   have:=H.all 1 _ rfl;rw[List.length_replicate];exact this
end
section
open Go.RowKit
structure RCtxS (l:List Oper) (Ss:Nat→Value→World→Prop) (R:World→World→Prop) (a0:Act) (w0:World) (o:Oper) (a:Act) (w:World):Prop where
 rel:R w0 w
 frame:∀ t,l.any (fun o=>o.dst == some t)=false→a.eval (.tmp t)=a0.eval (.tmp t)
 dep:∀ j d,o.after.toList.any (fun e=>Region.binds .any e&&e.on == j)=true→(l[j]?).bind (·.dst)=some d→Ss j (a.eval (.tmp d)) w
 defers:a.defers=a0.defers
theorem RCtxS.d {l:List Oper} {Ss:Nat→Value→World→Prop} {R:World→World→Prop} {a0:Act} {w0:World} {o:Oper} {a:Act} {w:World} (h:RCtxS l Ss R a0 w0 o a w) (j d:Nat) (h1:o.after.toList.any (fun e=>Region.binds .any e&&e.on == j)=true:=by exact rfl) (h2:(l[j]?).bind (·.dst)=some d:=by exact rfl):Ss j (a.eval (.tmp d)) w:=h.dep j d h1 h2
theorem RCtxS.f {l:List Oper} {Ss:Nat→Value→World→Prop} {R:World→World→Prop} {a0:Act} {w0:World} {o:Oper} {a:Act} {w:World} (h:RCtxS l Ss R a0 w0 o a w) (t:Nat) (h1:l.any (fun o=>o.dst == some t)=false:=by exact rfl):a.eval (.tmp t)=a0.eval (.tmp t):=h.frame t h1
theorem zHm {m:Nat} {P:Program} {row:String} {args:Array Value} {w:World} {R:Value→World→Prop} (h:Rows P row args w R):RowsIn Fence.wide m P row args w R :=
 fun c cs _=>let ⟨v,w',r,s⟩:=h c cs;⟨v,w',r,stepsIn_wide.2 s⟩
def Stay (B:Nat) (I:World→Prop):Prop:=∀ W W' row,I W→W.grownBy W' row→(∀ r,row=some r→B≤r∧∃ o:Obj,W.heap[r]?=some o∧o.isCells=false)→I W'
theorem Stay.putObj {B:Nat} {I:World→Prop} (h:Stay B I) {W:World} {l:Nat} {o:Obj} (o':Obj) (hs:I W) (hB:B≤l) (hl:W.heap[l]?=some o) (ho:o.isCells=false):I (W.putObj l o') :=
 h W _ (some l) hs (grownBy_putObj' W l o') (fun r e=>by cases e;exact⟨hB,o,hl,ho⟩)
theorem Stay.alloc {B:Nat} {I:World→Prop} (h:Stay B I) {W:World} (o:Obj) (hs:I W):I (W.alloc o) :=
 h W _ none hs (World.grownBy_alloc W o none) (fun r e=>by cases e)
variable {F:Fence} {n:Nat} {P:Program}
end
end Go.Proofs.YtdoflhjhaciepaaGreat
