/-
  Laws of walks, and walks.
-/
import Derived.Test.YtalggmbdpmdcbaaGreatPt10
import Derived.OrdersIn
import Derived.Test.YtalggmbdpmdcbaaGreatPt2
import Derived.RangeFuncLeaves
set_option linter.unusedVariables false
set_option linter.unusedSimpArgs false
set_option maxRecDepth 100000
set_option maxHeartbeats 16000000
namespace Go.Proofs.YtalggmbdpmdcbaaGreat
section
open Go.RowKit
structure RCtxS (l:List Oper) (Ss:Nat->Value->World->Prop) (R:World->World->Prop) (a0:Act) (w0:World) (o:Oper) (a:Act) (w:World):Prop where
 rel:R w0 w
 frame:∀ t,l.any (fun o=>o.dst == some t)=false->a.eval (.tmp t)=a0.eval (.tmp t)
 dep:∀ j d,o.after.toList.any (fun e=>Region.binds .any e&&e.on == j)=true->(l[j]?).bind (·.dst)=some d->Ss j (a.eval (.tmp d)) w
 defers:a.defers=a0.defers
theorem zHX:∀ (l:List Oper) (k:Nat) (listed:Array Bool) (vals:Nat->Value) (a:Act),(fill l k listed vals a).defers=a.defers
 | [],_,_,_,_=>rfl
 | o::r,k,listed,vals,a=>by
  simp only[fill];rw[zHX];split
  ·cases o.dst<;>rfl
  ·rfl
def zGR (P:Program) (ops:Array Oper) (R:World->World->Prop) (Q:Exit->Act->World->Prop) (o:Oper) (a:Act) (w:World) (s:Value->World->Prop):Prop :=
 if Region.wanted o (yielded ops a.tmps) then o.wp P a w (fun a' w'=>∃ v,a'=a.put o.dst v/\R w w'/\s v w') Q else s undef w
def zDi (l:List Oper) (n:Nat) (Sp:List Nat):Bool :=
 Sp.all (fun i=>decide (i<n))&&(List.range (Sp.length - 1)).all (fun k=>match Sp[k]?,Sp[k+1]? with
  | some i,some j=>decide (i<j)&&(match l[j]? with|some o=>o.after.toList.any (fun e=>Region.binds .any e&&e.on == i)|none=>false)
  | _,_=>true)
theorem zFb {l:List Oper} {n:Nat} {Sp:List Nat} (h:zDi l n Sp=true) :
  (∀ (k i:Nat),Sp[k]?=some i->i<n)/\∀ (k i j:Nat) (o:Oper),Sp[k]?=some i->Sp[k+1]?=some j->l[j]?=some o->∃ e,e ∈ o.after/\Region.binds .any e=true/\e.on=i:=by
 simp only[zDi,Bool.and_eq_true]at h;refine⟨fun k i hk=>by have:=List.all_eq_true.1 h.1 i (List.mem_of_getElem? hk);simpa using this,fun k i j o h1 h2 h3=>?_⟩
 have hk:k<Sp.length - 1:=by have:=(List.getElem?_eq_some_iff.1 h2).1;omega
 have:=List.all_eq_true.1 h.2 k (List.mem_range.2 hk);rw[h1,h2]at this;simp only[h3,Bool.and_eq_true]at this;obtain⟨e,he,hb⟩:=List.any_eq_true.1 this.2;simp only[Bool.and_eq_true,beq_iff_eq]at hb;exact⟨e,Array.mem_toList_iff.1 he,hb⟩
theorem zFU {l:List Oper} {n:Nat} {Sp:List Nat} (h:zDi l n Sp=true) {k i j:Nat} (h1:Sp[k]?=some i) (h2:Sp[k+1]?=some j):i<j:=by
 simp only[zDi,Bool.and_eq_true]at h;have hk:k<Sp.length - 1:=by have:=(List.getElem?_eq_some_iff.1 h2).1;omega
 have:=List.all_eq_true.1 h.2 k (List.mem_range.2 hk);rw[h1,h2]at this;simp only[Bool.and_eq_true,decide_eq_true_eq]at this;exact this.1
theorem zHJ {l:List Oper} {n:Nat} {Sp:List Nat} (h:zDi l n Sp=true):∀ (d k i j:Nat),Sp[k]?=some i->Sp[k+d+1]?=some j->i<j:=by
 intro d
 induction d with
 | zero=>intro k i j h1 h2;exact zFU h h1 h2
 | succ d ih =>
  intro k i j h1 h2;have hl:=(List.getElem?_eq_some_iff.1 h2).1;have hm:Sp[k+d+1]?=some (Sp[k+d+1]'(by omega)):=List.getElem?_eq_getElem (by omega)
  exact Nat.lt_trans (ih k i _ h1 hm) (zFU h hm h2)
theorem zEu {l:List Oper} {n:Nat} {Sp:List Nat} (h:zDi l n Sp=true) (k m i:Nat) (h1:Sp[k]?=some i) (h2:Sp[m]?=some i):k=m:=by
 rcases Nat.lt_trichotomy k m with hlt|he|hlt
 ·have:=zHJ h (m - k - 1) k i i h1 (by rw[show k+(m - k - 1)+1=m from by omega];exact h2);omega
 ·exact he
 ·have:=zHJ h (k - m - 1) m i i h2 (by rw[show m+(k - m - 1)+1=k from by omega];exact h1);omega
theorem zGb {P:Program} {id:Nat} {Q:Exit->Act->World->Prop} {a0:Act} {w0:World} {l:List Oper} (R0 R:World->World->Prop) (Sp:List Nat) (St:Nat->World->Prop) (h0R:∀ u v,R0 u v->R u v) (h0S:∀ r u v,St r u->R0 u v->St r v) (hdrew0:∀ w:World,R0 w {w with drawn:=w.drawn+1}) (hrefl0:∀ w,R0 w w) (htrans:∀ u v w,R u v->R v w->R u w) (hrefl:∀ w,R w w) (hdrew:∀ w:World,R w {w with drawn:=w.drawn+1}) (n:Nat) (Ss:Nat->Value->World->Prop)
  (hsp:zDi l n Sp=true) (hst0:St 0 w0) (hm:P.follows .mixedOrders=true) (hB:zF2 l.toArray n=true) (hsz:(l.take n).all (fun o=>match o.dst with|some d=>decide (d<a0.tmps.size)|none=>true)=true)
  (hst:∀ i,i<n->∀ v w w',Ss i v w->R w w'->Ss i v w')
  (hstep:∀ i o,i<n->l[i]?=some o->∀ a w,RCtxS (l.take n) Ss R a0 w0 o a w ->
   (Sp.contains i=false->zBu P l.toArray R0 o a w (Ss i))/\∀ r,Sp[r]?=some i->St r w->zGR P l.toArray R Q o a w (fun v w'=>Ss i v w'/\St (r+1) w'))
  (hend:∀ vals w,R w0 w->(∀ i,i<n->Ss i (vals i) w)->St Sp.length w->wpList P l.toArray Q (l.drop n) (zBO (l.take n) 0 vals a0) w) :
  (Code.region id l.toArray true).wp P Q a0 w0:=by
 simp only[zF2,Bool.and_eq_true,decide_eq_true_eq]at hB;obtain⟨⟨⟨⟨hn,hd⟩,haf⟩,hsink⟩,hseq⟩:=hB;have hn':n<=l.length:=by simpa using hn
 have hspn:∀ (k i:Nat),Sp[k]?=some i->i<n:=fun k i hk=>(zFb hsp).1 k i hk
 have hd':zCP (l.take n)=true:=hd;have htl:(l.take n).length=n:=by simp;omega
 have key:∀ (rem:List Nat) (f:Nat),rem.length=f->rem.Nodup->∀ (listed:Array Bool) (a:Act) (w:World),HeadInv .any l.toArray n listed ->
   (∀ i,i ∈ rem↔(i<n/\listed.getD i true=false))->(∃ vals,a=fill (l.take n) 0 listed vals a0/\(∀ i,i<n->listed.getD i false=true->Ss i (vals i) w))->R w0 w->(∃ r,r<=Sp.length/\St r w/\∀ (k i:Nat),Sp[k]?=some i->(listed.getD i false=true↔k<r)) ->
   wpAny P .any l.toArray Q (f+(l.toArray.size - n)) listed a w:=by
  intro rem f
  induction f generalizing rem with
  | zero =>
   intro hl _ listed a w inv hrem ⟨vals,ha,hv⟩ hb ⟨r,hr1,hr2,hr3⟩;have hr:rem=[]:=List.length_eq_zero_iff.1 hl;subst hr;have hall:∀ i,i<n->listed.getD i false=true:=by
    intro i hi;have h1:¬ listed.getD i true=false:=fun h=>by have:=(hrem i).2 ⟨hi,h⟩;simp at this
    have h2:i<listed.size:=by rw[inv.size];omega
    rw[Array.getD_eq_getD_getElem?,Array.getElem?_eq_getElem h2]at h1 ⊢
    simpa using h1
   have hlist:=zCc hn inv hall;have hrl:r=Sp.length:=by
    rcases Nat.lt_or_ge r Sp.length with h|h
    ·have:=(hr3 r Sp[r] (by simp[h])).1 (hall _ (hspn r Sp[r] (by simp[h])))
     omega
    ·omega
   subst hrl;have hw:=hend vals w hb (fun i hi=>hv i hi (hall i hi)) hr2
   rw[← zC3 (l.take n) 0 listed vals a0 (fun i hi=>by rw[Nat.zero_add];exact hall i (by omega)),← ha]at hw
   rw[Nat.zero_add];have hdl:(l.drop n).length=l.toArray.size - n:=by simp
   rw[← hdl];refine wpAny_of_seq (l.drop n) n listed a w (fun j=>by simp) ?_ hw
   rw[hdl,hlist];exact hseq
  | succ f ih =>
   intro hl hnd listed a w inv hrem ⟨vals,ha,hv⟩ hb ⟨r,hr1,hr2,hr3⟩;have hex:∃ i,i ∈ rem/\∀ j,j ∈ rem->i<=j:=by
    have:∀ (r:List Nat),r≠[]->∃ i,i ∈ r/\∀ j,j ∈ r->i<=j:=by
     intro r
     induction r with
     | nil=>intro h;exact(h rfl).elim
     | cons x r ihr =>
      intro _
      by_cases hr:r=[]
      ·subst hr;exact⟨x,by simp,by simp⟩
      ·obtain⟨i,hi,hmin⟩:=ihr hr
       by_cases hx:x<=i
       ·exact⟨x,by simp,fun j hj=>by rcases List.mem_cons.1 hj with rfl|hj;exact Nat.le_refl _;exact Nat.le_trans hx (hmin j hj)⟩
       ·exact⟨i,by simp[hi],fun j hj=>by rcases List.mem_cons.1 hj with rfl|hj;omega;exact hmin j hj⟩
    exact this rem (by intro h;subst h;simp at hl)
   have hready:Region.ready .any l.toArray listed≠[]:=by
    obtain⟨i,hi,hmin⟩:=hex;obtain⟨hin,hil⟩:=(hrem i).1 hi;have hlt:i<l.length:=by omega
    have hmem:i ∈ Region.ready .any l.toArray listed:=by
     refine mem_ready.2 ⟨hil,l[i],by simp[hlt],fun e he hbd=>?_⟩
     have h1:=List.all_eq_true.1 haf (l[i],i) (by
      rw[List.mem_zipIdx_iff_getElem?];simp[hin,hlt])
     have h2:=Array.all_eq_true'.1 h1 e he;simp[hbd]at h2;have hj:¬ e.on ∈ rem:=fun h=>by have:=hmin _ h;omega
     have h3:¬ listed.getD e.on true=false:=fun h=>hj ((hrem _).2 ⟨by omega,h⟩)
     have h4:e.on<listed.size:=by rw[inv.size];simp;omega
     rw[Array.getD_eq_getD_getElem?,Array.getElem?_eq_getElem h4]at h3 ⊢
     simpa using h3
    intro h;rw[h]at hmem;simp at hmem
   rw[show f+1+(l.toArray.size - n)=(f+(l.toArray.size - n))+1 from by omega]
   refine⟨fun h=>(hready h).elim,fun i hi=>?_⟩
   obtain⟨hil,o,ho,haft⟩:=mem_ready.1 hi;have hin:i<n:=by
    rcases Nat.lt_or_ge i n with h|h
    ·exact h
    ·exfalso
     obtain⟨i',hi',_⟩:=hex;obtain⟨hin',hil'⟩:=(hrem i').1 hi';have hisz:i<l.toArray.size:=(Array.getElem?_eq_some_iff.1 ho).1;simp only[Bool.or_eq_true,decide_eq_true_eq,Bool.and_eq_true]at hsink;rcases hsink with h0|⟨hs,hc⟩
     ·omega
     ·exact tail_waits hs hc (by omega) inv (n - i') i' rfl hin' hil' i h hi
   have ho':l[i]?=some o:=by simpa using ho
   have hot:(l.take n)[i]?=some o:=by rw[List.getElem?_take_of_lt hin];exact ho'
   obtain⟨d,hod⟩:∃ d,o.dst=some d:=by
    have:∀ (r:List Oper) (j:Nat),zCP r=true->r[j]?=some o->∃ d,o.dst=some d:=by
     intro r
     induction r with
     | nil=>intro j _ h;simp at h
     | cons x r ihr =>
      intro j hdd h;simp only[zCP,Bool.and_eq_true]at hdd
      cases j with
      | zero=>simp at h;subst h;exact Option.isSome_iff_exists.1 hdd.1.1
      | succ j=>exact ihr j hdd.2 (by simpa using h)
    exact this _ i hd' hot
   have hbd:∀ (j:Nat) (oj:Oper) (dj:Tmp),(l.take n)[j]?=some oj->oj.dst=some dj->dj<a0.tmps.size:=by
    intro j oj dj hj hdj;have:=List.all_eq_true.1 hsz oj (List.mem_of_getElem? hj)
    simpa [hdj] using this
   have hctx:RCtxS (l.take n) Ss R a0 w0 o a w:=by
    refine⟨hb,fun t ht=>by rw[ha];exact zBh _ _ _ _ _ t ht,fun j dj hj hdj=>?_,by rw[ha,zHX]⟩
    obtain⟨e,he,hbe⟩:=List.any_eq_true.1 hj;simp only[Bool.and_eq_true,beq_iff_eq]at hbe;have hlj:=haft e (Array.mem_toList_iff.1 he) hbe.1;rw[hbe.2]at hlj;obtain⟨oj,hoj,hdj'⟩:=Option.bind_eq_some_iff.1 hdj;have hjn:j<n:=by have:=(List.getElem?_eq_some_iff.1 hoj).1;omega
    rw[ha,zEA _ 0 listed vals a0 j oj dj hd' hoj hdj' (hbd j oj dj hoj hdj') (by rw[Nat.zero_add];exact hlj),Nat.zero_add]
    exact hv j hjn hlj
   have hstep':=hstep i o hin ho' a w hctx;have hnext:∀ v w',R w w'->Ss i v w'->(∃ r,r<=Sp.length/\St r w'/\∀ (k j:Nat),Sp[k]?=some j->((listed.setIfInBounds i true).getD j false=true↔k<r))->wpAny P .any l.toArray Q (f+(l.toArray.size - n)) (listed.setIfInBounds i true) (a.put o.dst v) w':=by
    intro v w' hbw hsv hstt;have hmemi:i ∈ rem:=(hrem i).2 ⟨hin,hil⟩;refine ih (rem.erase i) (by rw[List.length_erase_of_mem hmemi,hl];rfl) (hnd.erase i) _ _ w' (inv.set hi hin) (fun j=>?_) ⟨fun j=>if j=i then v else vals j,?_,fun j hj hlj=>?_⟩ (htrans _ _ _ hb hbw) hstt
    ·rw[hnd.mem_erase_iff,hrem j]
     by_cases hji:j=i
     ·subst hji;have hjs:j<listed.size:=by rw[inv.size];simp;omega
      simp[hjs]
     ·rw[getD_set_ne true (fun e=>hji e.symm)]
      simp[hji]
    ·have:=zDK (l.take n) 0 i listed vals a0 o d v hd' hot hod (by rw[Nat.zero_add];exact hil)
     rw[Nat.zero_add]at this;rw[this,← ha,hod]
    ·by_cases hji:j=i
     ·subst hji;simpa using hsv
     ·show Ss j (if j=i then v else vals j) w'
      rw[if_neg hji];rw[getD_set_ne false (fun e=>hji e.symm)]at hlj
      exact hst j hj _ _ _ (hv j hj hlj) hbw
   have hun:listed.getD i false=false:=getD_both hil;have hisz:i<listed.size:=by rw[inv.size];simp;omega
   by_cases hsi:Sp.contains i=true
   case neg =>
    have hsi':Sp.contains i=false:=by simpa using hsi
    have hq:=hstep'.1 hsi';have hne:∀ (k j:Nat),Sp[k]?=some j->j≠i:=fun k j hk e=>by
     subst e;have:Sp.contains j=true:=by simpa using List.mem_of_getElem? hk
     rw[hsi']at this;cases this
    have hstt:∀ w',R0 w w'->(∃ r,r<=Sp.length/\St r w'/\∀ (k j:Nat),Sp[k]?=some j->((listed.setIfInBounds i true).getD j false=true↔k<r)):=fun w' hw' =>
     ⟨r,hr1,h0S _ _ _ hr2 hw',fun k j hk=>by rw[getD_set_ne false (fun e=>hne k j hk e.symm)];exact hr3 k j hk⟩
    unfold wpOp;simp only[ho];unfold zBu at hq;split
    ·rename_i hw;rw[if_pos hw]at hq;refine .inl (zDN (Oper.wp_mono (fun a' w' ⟨v,e,hbw,hsv⟩=>?_) hq))
     subst e;exact hnext v w' (h0R _ _ hbw) hsv (hstt w' hbw)
    ·rename_i hw;rw[if_neg hw]at hq;exact hnext undef w (hrefl w) hq (hstt w (hrefl0 w))
   obtain⟨ri,hri⟩:=List.mem_iff_getElem?.1 (show i ∈ Sp by simpa using hsi)
   have hrr:r=ri:=by
    have h1:¬ ri<r:=fun h=>by have:=(hr3 ri i hri).2 h;rw[hun]at this;cases this
    rcases Nat.lt_or_ge r ri with h|h
    ·exfalso
     have hril:=(List.getElem?_eq_some_iff.1 hri).1;obtain⟨e,he,hbe⟩:=(zFb hsp).2 (ri - 1) (Sp[ri - 1]'(by omega)) i o (List.getElem?_eq_getElem (by omega)) (by rw[show ri - 1+1=ri from by omega];exact hri) ho'
     have:=haft e he hbe.1;rw[hbe.2]at this;have:=(hr3 (ri - 1) (Sp[ri - 1]'(by omega)) (List.getElem?_eq_getElem (by omega))).1 this
     omega
    ·omega
   subst hrr;have hril:=(List.getElem?_eq_some_iff.1 hri).1;have hq:=hstep'.2 r hri hr2;have hinj:∀ k,Sp[k]?=some i->k=r:=fun k hk=>by
    rcases Nat.lt_trichotomy k r with h|h|h
    ·have:=(hr3 k i hk).2 h;rw[hun]at this;cases this
    ·exact h
    ·exact(zEu hsp k r i hk hri)
   have hstt:∀ w',St (r+1) w'->(∃ r,r<=Sp.length/\St r w'/\∀ (k j:Nat),Sp[k]?=some j->((listed.setIfInBounds i true).getD j false=true↔k<r)):=fun w' hw'=>by
    refine⟨r+1,hril,hw',fun k j hk=>?_⟩
    by_cases hji:j=i
    ·subst hji;have:=hinj k hk;subst this;simp[hisz]
    ·rw[getD_set_ne false (fun e=>hji e.symm),hr3 k j hk]
     have hkr:k≠r:=fun e=>by subst e;rw[hri]at hk;cases hk;exact hji rfl
     omega
   unfold wpOp;simp only[ho];unfold zGR at hq;split
   ·rename_i hw;rw[if_pos hw]at hq;refine .inl (Oper.wp_mono (fun a' w' ⟨v,e,hbw,hsv,hss⟩=>?_) hq)
    subst e;exact hnext v w' hbw hsv (hstt w' hss)
   ·rename_i hw;rw[if_neg hw]at hq;exact hnext undef w (hrefl w) hq.1 (hstt w hq.2)
 refine wp_region_any hm ?_
 have h0:=key (List.range n) n (by simp) List.nodup_range (Array.replicate l.toArray.size false) a0 {w0 with drawn:=w0.drawn+1}
  ⟨by simp,fun j oj _ hl=>(by rw[getD_replicate_false]at hl;cases hl),fun t _ ht=>getD_in (by simpa using ht) (getD_replicate_false _ _)⟩
  (fun i=>by
   rw[List.mem_range];constructor
   ·intro h;exact⟨h,getD_in (by simp;omega) (getD_replicate_false _ _)⟩
   ·intro h;exact h.1)
  ⟨fun _=>undef,(zCS _ _ _ _ _ (fun i=>getD_replicate_false _ _)).symm,fun i _ h=>(by rw[getD_replicate_false]at h;cases h)⟩
  (hdrew w0) ⟨0,Nat.zero_le _,h0S _ _ _ hst0 (hdrew0 w0),fun k i _=>by rw[getD_replicate_false];simp⟩
 rw[show n+(l.toArray.size - n)=l.toArray.size from by omega]at h0
 exact h0
def OblS (P:Program) (Q:Exit->Act->World->Prop) (l hd:List Oper) (R0 R:World->World->Prop) (Sp:List Nat) (St:Nat->World->Prop) (L:List (Value->World->Prop)) (a0:Act) (w0:World):List Oper->Nat->Prop
 | [],_=>True
 | o::r,i=>(match Sp.idxOf? i with
   | none=>∀ a w,RCtxS hd (zAn L) R a0 w0 o a w->zBu P l.toArray R0 o a w (zAn L i)
   | some r=>∀ a w,RCtxS hd (zAn L) R a0 w0 o a w->St r w->zGR P l.toArray R Q o a w (fun v w'=>zAn L i v w'/\St (r+1) w'))/\OblS P Q l hd R0 R Sp St L a0 w0 r (i+1)
theorem OblS.get {P:Program} {Q:Exit->Act->World->Prop} {l hd:List Oper} {R0 R:World->World->Prop} {Sp:List Nat} {St:Nat->World->Prop} {L:List (Value->World->Prop)} {a0:Act} {w0:World}:∀ (r:List Oper) (k:Nat),OblS P Q l hd R0 R Sp St L a0 w0 r k->∀ i o,r[i]?=some o ->
  (match Sp.idxOf? (k+i) with
   | none=>∀ a w,RCtxS hd (zAn L) R a0 w0 o a w->zBu P l.toArray R0 o a w (zAn L (k+i))
   | some r=>∀ a w,RCtxS hd (zAn L) R a0 w0 o a w->St r w->zGR P l.toArray R Q o a w (fun v w'=>zAn L (k+i) v w'/\St (r+1) w'))
 | [],_,_,_,_,h=>by simp at h
 | o::r,k,h,0,o',h'=>by simp at h';subst h';exact h.1
 | o::r,k,h,i+1,o',h'=>by
  have:=OblS.get r (k+1) h.2 i o' (by simpa using h')
  rwa [show k+1+i=k+(i+1) from by omega]at this
theorem zBo {P:Program} {id:Nat} {Q:Exit->Act->World->Prop} {a0:Act} {w0:World} {l:List Oper} (R0 R:World->World->Prop) (Sp:List Nat) (St:Nat->World->Prop) (h0R:∀ u v,R0 u v->R u v) (h0S:∀ r u v,St r u->R0 u v->St r v) (hdrew0:∀ w:World,R0 w {w with drawn:=w.drawn+1}) (hrefl0:∀ w,R0 w w)
  (htrans:∀ u v w,R u v->R v w->R u w) (n:Nat) (L:List (Value->World->Prop)) (hst:zD3 R L) (hsp:zDi l n Sp=true) (hst0:St 0 w0)
  (hm:P.follows .mixedOrders=true) (hB:zF2 l.toArray n=true) (hsz:(l.take n).all (fun o=>match o.dst with|some d=>decide (d<a0.tmps.size)|none=>true)=true)
  (hstep:OblS P Q l (l.take n) R0 R Sp St L a0 w0 (l.take n) 0)
  (hend:∀ vals w,R w0 w->(∀ i,i<n->zAn L i (vals i) w)->St Sp.length w->wpList P l.toArray Q (l.drop n) (zBO (l.take n) 0 vals a0) w) :
  (Code.region id l.toArray true).wp P Q a0 w0 :=
 zGb R0 R Sp St h0R h0S hdrew0 hrefl0 htrans (fun w=>h0R _ _ (hrefl0 w)) (fun w=>h0R _ _ (hdrew0 w)) n (zAn L) hsp hst0 hm hB hsz (fun i _ v w w' h hb=>zDL L i hst v w w' h hb) (fun i o hi ho a w hc=>by
   have:=OblS.get (l.take n) 0 hstep i o (by rw[List.getElem?_take_of_lt hi];exact ho)
   rw[Nat.zero_add]at this;constructor
   ·intro hs;have hno:Sp.idxOf? i=none:=by
     rw[List.idxOf?_eq_none_iff];intro hm;have:Sp.contains i=true:=by simpa using hm
     rw[hs]at this;cases this
    rw[hno]at this;exact this a w hc
   ·intro r hr hSt;have hso:Sp.idxOf? i=some r:=by
     cases hx:Sp.idxOf? i with
     | none=>rw[List.idxOf?_eq_none_iff]at hx;exact absurd (List.mem_of_getElem? hr) hx
     | some r' =>
      have h1:Sp[r']?=some i:=by
       have:=List.idxOf?_eq_some_iff.1 hx;obtain⟨h1,h2,_⟩:=this;simp[h1,h2]
      rw[zEu hsp r' r i h1 hr]
    rw[hso]at this
    exact this a w hc hSt) hend
theorem RCtxS.d {l:List Oper} {Ss:Nat->Value->World->Prop} {R:World->World->Prop} {a0:Act} {w0:World} {o:Oper} {a:Act} {w:World} (h:RCtxS l Ss R a0 w0 o a w) (j d:Nat) (h1:o.after.toList.any (fun e=>Region.binds .any e&&e.on == j)=true:=by exact rfl) (h2:(l[j]?).bind (·.dst)=some d:=by exact rfl):Ss j (a.eval (.tmp d)) w:=h.dep j d h1 h2
theorem RCtxS.f {l:List Oper} {Ss:Nat->Value->World->Prop} {R:World->World->Prop} {a0:Act} {w0:World} {o:Oper} {a:Act} {w:World} (h:RCtxS l Ss R a0 w0 o a w) (t:Nat) (h1:l.any (fun o=>o.dst == some t)=false:=by exact rfl):a.eval (.tmp t)=a0.eval (.tmp t):=h.frame t h1
theorem zE0 {m:Nat} {P:Program} {row:String} {args:Array Value} {w:World} {R:Value->World->Prop} (h:Rows P row args w R):RowsIn Fence.wide m P row args w R :=
 fun c cs _=>let ⟨v,w',r,s⟩:=h c cs;⟨v,w',r,stepsIn_wide.2 s⟩
theorem zLr {m:Nat} {P:Program} {o:Oper} {a:Act} {w:World} {K:Act->World->Prop} {Q:Exit->Act->World->Prop} (h:o.wp P a w K Q):o.wpIn Fence.wide m P a w K Q:=by
 unfold Oper.wp at h;refine⟨fun _ _=>trivial,?_⟩
 rw[show o.semAt Fence.wide.round a.eval=execOp a.eval o from rfl]
 generalize (execOp a.eval o).run P w=r at *
 cases r with
 | ok x w' =>
  cases x<;>simp only[Oper.upon,Oper.uponIn]at h ⊢ <;>
   first
    | exact h
    | exact⟨fun h=>by simp[Fence.wide]at h,callsIn_wide.2 h⟩
    | exact⟨fun h=>by simp[Fence.wide]at h,zE0 h⟩
    | exact h.elim
 | halt x w'=>cases x<;>simp only[Oper.upon,Oper.uponIn]at h ⊢<;>first|exact h|exact h.elim
def zPw (m:Nat) (P:Program) (ops:Array Oper) (R:World->World->Prop) (Q:Exit->Act->World->Prop) (o:Oper) (a:Act) (w:World) (s:Value->World->Prop):Prop :=
 if Region.wanted o (yielded ops a.tmps) then o.wpIn Fence.wide m P a w (fun a' w'=>∃ v,a'=a.put o.dst v/\R w w'/\s v w') Q else s undef w
def depB (l:List Oper):Nat->Nat->Nat->Bool
 | 0,_,_=>false
 | f+1,i,j=>match l[j]? with
  | some o=>o.after.toList.any (fun e=>Region.binds .any e&&(e.on == i || depB l f i e.on))
  | none=>false
def OblI (m:Nat) (P:Program) (Q:Exit->Act->World->Prop) (l hd:List Oper) (R0 R:World->World->Prop) (Sp:List Nat) (St:Nat->World->Prop) (L:List (Value->World->Prop)) (a0:Act) (w0:World):List Oper->Nat->Prop
 | [],_=>True
 | o::r,i=>(match Sp.idxOf? i with
   | none=>∀ a w,RCtxS hd (zAn L) R a0 w0 o a w->∀ r,St r w->(∀ (k j:Nat),Sp[k]?=some j->depB l l.length i j=true->r<=k)->zBu P l.toArray R0 o a w (zAn L i)
   | some r=>∀ a w,RCtxS hd (zAn L) R a0 w0 o a w->St r w->zPw m P l.toArray R Q o a w (fun v w'=>zAn L i v w'/\St (r+1) w'))/\OblI m P Q l hd R0 R Sp St L a0 w0 r (i+1)
theorem OblI.get {m:Nat} {P:Program} {Q:Exit->Act->World->Prop} {l hd:List Oper} {R0 R:World->World->Prop} {Sp:List Nat} {St:Nat->World->Prop} {L:List (Value->World->Prop)} {a0:Act} {w0:World}:∀ (r:List Oper) (k:Nat),OblI m P Q l hd R0 R Sp St L a0 w0 r k->∀ i o,r[i]?=some o ->
  (match Sp.idxOf? (k+i) with
   | none=>∀ a w,RCtxS hd (zAn L) R a0 w0 o a w->∀ r,St r w->(∀ (q j:Nat),Sp[q]?=some j->depB l l.length (k+i) j=true->r<=q)->zBu P l.toArray R0 o a w (zAn L (k+i))
   | some r=>∀ a w,RCtxS hd (zAn L) R a0 w0 o a w->St r w->zPw m P l.toArray R Q o a w (fun v w'=>zAn L (k+i) v w'/\St (r+1) w'))
 | [],_,_,_,_,h=>by simp at h
 | o::r,k,h,0,o',h'=>by simp at h';subst h';exact h.1
 | o::r,k,h,i+1,o',h'=>by
  have:=OblI.get r (k+1) h.2 i o' (by simpa using h')
  rwa [show k+1+i=k+(i+1) from by omega]at this
def Stay (B:Nat) (I:World->Prop):Prop:=∀ W W' row,I W->W.grownBy W' row->(∀ r,row=some r->B<=r/\∃ o:Obj,W.heap[r]?=some o/\o.isCells=false)->I W'
theorem Stay.putObj {B:Nat} {I:World->Prop} (h:Stay B I) {W:World} {l:Nat} {o:Obj} (o':Obj) (hs:I W) (hB:B<=l) (hl:W.heap[l]?=some o) (ho:o.isCells=false):I (W.putObj l o') :=
 h W _ (some l) hs (grownBy_putObj' W l o') (fun r e=>by cases e;exact⟨hB,o,hl,ho⟩)
theorem Stay.alloc {B:Nat} {I:World->Prop} (h:Stay B I) {W:World} (o:Obj) (hs:I W):I (W.alloc o) :=
 h W _ none hs (World.grownBy_alloc W o none) (fun r e=>by cases e)
variable {F:Fence} {n:Nat} {P:Program}
def zCz (w:World) (l:List Res) (b:Nat):Prop:=b<w.heap.size/\∀ r ∈ l,r.place≠some b
def zDG (w:World) (l:List Res) (V:World):Prop:=∀ b,zCz w l b->V.heap[b]?=w.heap[b]?
structure Turned (M:Nat->Prop) (w0 w:World) (l1 l2:List Res) (w':World):Prop where
 hold:HoldG M w0 w' l2
 rest:zDG w l1 w'
 lt:∀ b,zCz w l1 b->b<w'.heap.size
 place:∀ r ∈ l2,∀ b,r.place=some b->(∃ s ∈ l1,s.place=some b)\/w.heap.size<=b
 foot:∀ r ∈ l2,∀ b,r.foot b->(∃ s ∈ l1,s.foot b)\/w.heap.size<=b
theorem Res.Holds.keptF {M:Nat->Prop} {base:Nat} {W W':World} {r:Res} (h:r.Holds M base W) (hk:∀ b,r.foot b->W'.heap[b]?=W.heap[b]?) (hs:∀ b,r.foot b->b<W'.heap.size):r.Holds M base W':=by
 cases r with
 | blk b' cs T=>exact⟨h.1,(hk b' rfl).trans h.2⟩
 | row v e sz n xs =>
  obtain⟨hl,h'|⟨g,cap,cur,rfl,hb,hg,r⟩⟩:=h
  ·exact⟨hl,.inl h'⟩
  ·exact⟨hl,.inr ⟨g,cap,cur,rfl,hb,(hk g rfl).trans hg,r⟩⟩
 | mp b' es c=>exact⟨h.1,(hk b' rfl).trans h.2⟩
 | kn F S=>exact⟨hs,fun W2 h2=>h.2 W2 (fun b hb=>(h2 b hb).trans (hk b hb))⟩
section
variable {M:Nat->Prop} {w0 w w':World} {l l1 l2 l3:List Res}
theorem HoldG.framed (H:HoldG M w0 w l):HoldG M w0 w (l++[.kn (zCz w l) (zDG w l)]) :=
 H.know (zCz w l) (zDG w l) (fun b h=>h.1) (fun i r hi b hp hF=>hF.2 r (List.mem_of_getElem? hi) hp) (fun V hV b hb=>hV b hb)
theorem zEr {js:List Nat} (h:js.map (fun j=>l[j]?)=l1.map some) {k:Nat} {r:Res} (hk:l1[k]?=some r):∃ j,js[k]?=some j/\l[j]?=some r:=by
 have h1:(l1.map some)[k]?=some (some r):=by rw[List.getElem?_map,hk];rfl
 rw[← h,List.getElem?_map]at h1;exact Option.map_eq_some_iff.1 h1
theorem Turned.of {W:World} (H:HoldG M w0 W l) {i:Nat} (hi:At l i (.kn (zCz w l1) (zDG w l1))) (js:List Nat) (hn:js.Nodup) (hij:i ∉ js) (h:js.map (fun j=>l[j]?)=l2.map some)
  (hk:∀ F S,Res.kn F S ∈ l2->∀ b,F b->(∃ s ∈ l1,s.foot b)\/w.heap.size<=b):Turned M w0 w l1 l2 W:=by
 have hp:∀ r ∈ l2,∀ b,r.place=some b->(∃ s ∈ l1,s.place=some b)\/w.heap.size<=b:=by
  intro r hr b hb;obtain⟨k,hk⟩:=List.getElem?_of_mem hr;obtain⟨j,hj,e⟩:=zEr h hk;have hne:j≠i:=fun e=>hij (e ▸ List.mem_of_getElem? hj)
  have ha:=H.apart j i r _ hne e hi.get b hb
  by_cases hlt:b<w.heap.size
  ·refine .inl (Classical.byContradiction fun hno=>ha ⟨hlt,fun s hs hsb=>hno ⟨s,hs,hsb⟩⟩)
  ·exact .inr (by omega)
 refine⟨H.pick js l2 hn h,H.kn hi,H.knlt hi,hp,fun r hr b hb=>?_⟩
 cases r with
 | kn F S=>exact hk F S hr b hb
 | blk b' cs T=>exact(hp _ hr b hb).imp (fun ⟨s,h1,h2⟩=>⟨s,h1,Res.place_foot h2⟩) id
 | row v e sz n xs=>exact(hp _ hr b hb).imp (fun ⟨s,h1,h2⟩=>⟨s,h1,Res.place_foot h2⟩) id
 | mp b' es c=>exact(hp _ hr b hb).imp (fun ⟨s,h1,h2⟩=>⟨s,h1,Res.place_foot h2⟩) id
theorem HoldG.callIn (H:HoldG M w0 w l) (T:Turned M w0 w l1 l2 w') (js ks:List Nat) (h1:js.map (fun j=>l[j]?)=l1.map some) (h3:ks.map (fun j=>l[j]?)=l3.map some) (hn:ks.Nodup) (hd:∀ j ∈ js,j ∉ ks):HoldG M w0 w' (l2++l3):=by
 have A:∀ (k:Nat) (r s:Res),l3[k]?=some r->s ∈ l1->zOT s r/\zOT r s:=by
  intro k r s hk hs;obtain⟨m,hm⟩:=List.getElem?_of_mem hs;obtain⟨j,hj,e⟩:=zEr h1 hm;obtain⟨q,hq,e'⟩:=zEr h3 hk;have hne:j≠q:=fun e=>hd j (List.mem_of_getElem? hj) (e ▸ List.mem_of_getElem? hq)
  exact⟨H.apart j q s r hne e e',H.apart q j r s (Ne.symm hne) e' e⟩
 have B:∀ (k:Nat) (r:Res),l3[k]?=some r->r.Holds M w0.heap.size w:=by
  intro k r hk;obtain⟨q,_,e'⟩:=zEr h3 hk;exact H.all q r e'
 refine⟨T.hold.keep,fun i r hi=>?_,fun i j r s hij hr hs=>?_⟩
 ·rw[List.getElem?_append]at hi;split at hi
  ·exact T.hold.all i r hi
  ·have hr:∀ b,r.foot b->zCz w l1 b:=fun b hb=>⟨(B _ r hi).ltf b hb,fun s hs hsb=>(A _ r s hi hs).1 b hsb hb⟩
   exact(B _ r hi).keptF (fun b hb=>T.rest b (hr b hb)) (fun b hb=>T.lt b (hr b hb))
 ·rw[List.getElem?_append]at hr hs;split at hr
  ·split at hs
   ·exact T.hold.apart i j r s hij hr hs
   ·intro b hb hf;rcases T.place r (List.mem_of_getElem? hr) b hb with ⟨q,hq,hqb⟩|h
    ·exact(A _ s q hs hq).1 b hqb hf
    ·have:=(B _ s hs).ltf b hf;omega
  ·split at hs
   ·intro b hb hf;rcases T.foot s (List.mem_of_getElem? hs) b hf with ⟨q,hq,hqb⟩|h
    ·exact(A _ r q hr hq).2 b hb hqb
    ·have:=((B _ r hr).lt b hb).2;omega
   ·obtain⟨p,hp,e⟩:=zEr h3 hr;obtain⟨q,hq,e'⟩:=zEr h3 hs;refine H.apart p q r s (fun epq=>hij ?_) e e'
    subst epq;obtain⟨a1,a2⟩:=List.getElem?_eq_some_iff.1 hp;obtain⟨b1,b2⟩:=List.getElem?_eq_some_iff.1 hq;have:=(List.getElem_inj hn).1 (a2.trans b2.symm);omega
theorem Turned.below (H:HoldG M w0 w l1) (hb:Below w.heap.size w w'):Turned M w0 w l1 l1 w' :=
 ⟨H.call hb,fun b hb'=>hb.block b hb'.1,fun b hb'=>Nat.lt_of_lt_of_le hb'.1 hb.size,fun r hr b h=>.inl ⟨r,hr,h⟩,fun r hr b h=>.inl ⟨r,hr,h⟩⟩
end
def zMr (B:Nat):Res->Prop
 | .mp _ _ _=>False
 | .kn F S=>∀ V,S V->∀ b,F b->b<B\/∃ o:Obj,V.heap[b]?=some o/\o.isCells=true
 | _=>True
theorem HoldG.stayK {M:Nat->Prop} {w0:World} {l:List Res} {B:Nat} (hl:∀ r ∈ l,zMr B r) (hB:w0.heap.size<=B):Stay B (fun W=>HoldG M w0 W l):=by
 intro W W' row H hg hr;refine⟨H.keep.trans ⟨hg.os,hg.tape,hg.output,hg.size,fun k h1 h2=>hg.block k (Nat.lt_of_lt_of_le h1 H.keep.size) (fun e=>by have:=(hr k e.symm).1;omega)⟩,fun i s hs=>?_,H.apart⟩
 have hA:=H.all i s hs;have hc:=hl s (List.mem_of_getElem? hs)
 cases s with
 | blk b' cs T =>
  refine hA.keptF (fun b hb=>hg.block b ((Array.getElem?_eq_some_iff.1 (by cases hb;exact hA.2)).1) (fun e=>?_)) (fun b hb=>Nat.lt_of_lt_of_le ((Array.getElem?_eq_some_iff.1 (by cases hb;exact hA.2)).1) hg.size)
  obtain⟨_,o,ho,hcell⟩:=hr b e.symm
  cases hb
  rw[hA.2]at ho;cases ho;cases hcell
 | row v e sz n xs =>
  have hlt:∀ b,(Res.row v e sz n xs).foot b->b<W.heap.size:=fun b hb=>(hA.lt b hb).2
  refine hA.keptF (fun b hb=>hg.block b (hlt b hb) (fun e=>?_)) (fun b hb=>Nat.lt_of_lt_of_le (hlt b hb) hg.size)
  obtain⟨_,o,ho,hcell⟩:=hr b e.symm;obtain⟨_,⟨hv,_⟩|⟨g,cap,cur,rfl,_,hg',_⟩⟩:=hA
  ·have h2:v.ownBlock=some b:=hb;rw[hv]at h2;cases h2
  ·have:g=b:=by simpa [Res.foot,Value.ownBlock] using hb
   subst this;rw[hg']at ho;cases ho;cases hcell
 | mp b' es c=>exact hc.elim
 | kn F S =>
  have hS:S W:=hA.2 W (fun _ _=>rfl)
  refine hA.keptF (fun b hb=>hg.block b (hA.1 b hb) (fun e=>?_)) (fun b hb=>Nat.lt_of_lt_of_le (hA.1 b hb) hg.size)
  obtain⟨hBb,o,ho,hcell⟩:=hr b e.symm;rcases hc W hS b hb with h|⟨o',ho',hc'⟩
  ·omega
  ·rw[ho']at ho;cases ho;rw[hc']at hcell;cases hcell
def KeepsNC (B:Nat) (W W':World):Prop:=∀ k o,B<=k->W.heap[k]?=some o->o.isCells=false->W'.heap[k]?=some o
theorem KeepsNC.same {B:Nat} {W W':World} (h:KeepsNC B W W') (k:Nat) (o:Obj) (hk:B<=k) (h1:W.heap[k]?=some o) (h2:o.isCells=false):W'.heap[k]?=some o:=h k o hk h1 h2
theorem KeepsNC.refl (B:Nat) (W:World):KeepsNC B W W:=fun _ _ _ h _=>h
theorem KeepsNC.of_below {B:Nat} {W W':World} (h:Below W.heap.size W W'):KeepsNC B W W':=fun k o _ hk _=>(h.block k (Array.getElem?_eq_some_iff.1 hk).1).trans hk
def ncF (B:Nat) (W:World) (b:Nat):Prop:=B<=b/\∃ o:Obj,W.heap[b]?=some o/\o.isCells=false
def ncS (B:Nat) (W V:World):Prop:=∀ b,ncF B W b->V.heap[b]?=W.heap[b]?
theorem ncS.keeps {B:Nat} {W V:World} (h:ncS B W V):KeepsNC B W V:=fun k o hk h1 h2=>(h k ⟨hk,o,h1,h2⟩).trans h1
theorem HoldG.knowNC {M:Nat->Prop} {w0 W:World} {l:List Res} (H:HoldG M w0 W l) (hl:∀ r ∈ l,∀ b es c,r≠.mp b es c) (B:Nat):HoldG M w0 W (l++[.kn (ncF B W) (ncS B W)]):=by
 refine H.know _ _ (fun b hb=>by obtain⟨_,o,h,_⟩:=hb;exact(Array.getElem?_eq_some_iff.1 h).1) (fun i r hi b hp hF=>?_) (fun V hV b hb=>hV b hb)
 obtain⟨_,o,hk,ho⟩:=hF;have hA:=H.all i r hi
 cases r with
 | blk b' cs U=>cases hp;rw[hA.2]at hk;cases hk;cases ho
 | row v e' sz n xs =>
  obtain⟨_,⟨hv,_⟩|⟨g,cap,cur,rfl,_,hg',_⟩⟩:=hA
  ·have h2:v.ownBlock=some b:=hp;rw[hv]at h2;cases h2
  ·have:g=b:=by simpa [Res.place,Value.ownBlock] using hp
   subst this;rw[hg']at hk;cases hk;cases ho
 | mp b' es c=>exact hl _ (List.mem_of_getElem? hi) _ _ _ rfl
 | kn F S=>cases hp
variable {F:Fence} {n:Nat} {P:Program}
def wpR (P:Program) (c:Code) (Q:Exit->Act->World->Prop) (a:Act) (w:World):Prop :=
 ∀ (b:Frame) (k:List Item) (cs:List Frame),b.roundOf=none->(∃ fn,P.funcs[b.fn]?=some fn) ->
  ∃ e a' w',Q e a' w'/\ArrivesIn (Machine.fenced P Fence.wide) P (lone (b.atR a (.code c::k)) cs w) b k cs e a' w'
section
variable {n:Nat} {P:Program} {Q:Exit->Act->World->Prop} {a:Act} {w:World}
theorem zRY {c:Code} (h:c.wpIn Fence.wide n P Q a w):wpR P c Q a w:=fun b k cs hro _=>h b k cs hro trivial (room_wide _)
theorem zCO {c:Code} (h:c.wp P Q a w):wpR P c Q a w:=zRY (n:=0) (wpIn_wide.2 h)
theorem zBv {x y:Code} (h:wpR P x (Exit.then (wpR P y Q) Q) a w):wpR P (.seq x y) Q a w:=by
 intro b k cs hro hb;have h0:(lone (b.atR a (.code (.seq x y)::k)) cs w).fenced P Fence.wide:=fenced_wide _ _;obtain⟨e,a₁,w₁,hq,harr⟩:=h b (.code y::k) cs hro hb
 cases e with
 | normal =>
  obtain⟨e₂,a₂,w₂,hq₂,harr₂⟩:=hq b k cs hro hb;exact⟨e₂,a₂,w₂,hq₂,.of_steps (.head h0 stepR_seq harr) harr₂⟩
 | exit id=>exact⟨_,a₁,w₁,hq,.of_steps (.one h0 stepR_seq) (.pass (x:=.code y) rfl (fun _ _=>.inl (by simp)) harr)⟩
 | goto l=>exact⟨_,a₁,w₁,hq,.of_steps (.one h0 stepR_seq) (.pass (x:=.code y) rfl (fun _ _=>.inl (by simp)) harr)⟩
 | ret=>exact⟨_,a₁,w₁,hq,.of_steps (.one h0 stepR_seq) (.pass (x:=.code y) rfl (fun _ _=>.inl (by simp)) harr)⟩
 | panic ch=>exact⟨_,a₁,w₁,hq,.of_steps (.one h0 stepR_seq) (.pass (x:=.code y) rfl (fun _ _=>.inl (by simp)) harr)⟩
 | outgrown=>exact⟨_,a₁,w₁,hq,.of_steps (.one h0 stepR_seq) (.pass (x:=.code y) rfl (fun _ _=>.inl (by simp)) harr)⟩
theorem zFk {id:Nat} {c:Code} (h:wpR P c (Exit.inBlock id Q) a w):wpR P (.block id c) Q a w:=by
 intro b k cs hro hb;have h0:(lone (b.atR a (.code (.block id c)::k)) cs w).fenced P Fence.wide:=fenced_wide _ _;obtain⟨e,a₁,w₁,hq,harr⟩:=h b (.inBlock id::k) cs hro hb
 cases e with
 | normal=>exact⟨.normal,a₁,w₁,hq,.head h0 stepR_block (StepsIn.trans harr (.one (fenced_wide _ _) stepR_inBlock))⟩
 | exit id' =>
  by_cases hid:id'=id
  ·simp only[Exit.inBlock,hid,if_true]at hq;exact⟨.normal,a₁,w₁,hq,.head h0 stepR_block (harr.1 k (by simp[exitTo,hid]))⟩
  ·simp only[Exit.inBlock,hid,if_false]at hq;have this:(id == id')=false:=by simp;exact fun h=>hid h.symm
   have hx:exitTo id' (.inBlock id::k)=exitTo id' k:=by simp[exitTo,this]
   exact⟨.exit id',a₁,w₁,hq,fun k' hk=>.head h0 stepR_block (harr.1 k' (by rw[hx];exact hk)),
    fun hr' hk=>let ⟨k₁,h1,h2⟩:=harr.2 hr' (by rw[hx];exact hk);⟨k₁,h1,.head h0 stepR_block h2⟩⟩
 | goto l =>
  have hx:gotoIn l (.inBlock id::k)=gotoIn l k:=by simp[gotoIn]
  exact⟨_,a₁,w₁,hq,fun k' hk=>.head h0 stepR_block (harr.1 k' (by rw[hx];exact hk)),
   fun hr' hk=>let ⟨k₁,h1,h2⟩:=harr.2 hr' (by rw[hx];exact hk);⟨k₁,h1,.head h0 stepR_block h2⟩⟩
 | ret=>exact⟨_,a₁,w₁,hq,.of_steps (.one h0 stepR_block) harr⟩
 | panic ch=>exact⟨_,a₁,w₁,hq,.of_steps (.one h0 stepR_block) harr⟩
 | outgrown=>exact⟨_,a₁,w₁,hq,.of_steps (.one h0 stepR_block) harr⟩
theorem zCe {f:FuncId} {fn:Func} {c:Code} {args:Array Value} {R:Ending->World->Prop} (hf:P.funcs[f]?=some fn) (hb:fn.body=some c)
  (h:wpR P c (bodyPostM Fence.wide n P fn R) {tmps:=args++Array.replicate (fn.ntmps - args.size) undef,defers:=[]} w):CallsIn Fence.wide n P f args w R:=by
 have hF:Fence.wide.fn f:=trivial;refine⟨hF,fun cs hr=>?_⟩
 let b:Frame:={(default:Frame) with fn:=f,kind:=.normal,roundOf:=none}
 have henter:Frame.enter P f args .normal =
   b.atR {tmps:=args++Array.replicate (fn.ntmps - args.size) undef,defers:=[]} [.code c]:=by
  simp[Frame.enter,Frame.atR,hf,hb,b]
 obtain⟨e,a',w',hq,harr⟩:=h b [] cs rfl ⟨fn,hf⟩;rw[← henter]at harr
 cases e with
 | normal =>
  obtain⟨e',w'',fr',hR,hs,hfn,hl⟩:=leaves_stepsInM a'.defers .returning w' {b.atR a' [] with mode:=.returning} cs rfl rfl rfl hf rfl hF hr hq
  exact⟨e',w'',fr',hR,ComesIn.of_steps (StepsIn.trans harr (.one (fenced_calm (fr:=b.atR a' []) hF hr rfl) (stepR_end rfl))) hs,hfn,hl⟩
 | ret =>
  obtain⟨todo,hs₀⟩:=harr.1 rfl;obtain⟨e',w'',fr',hR,hs,hfn,hl⟩:=leaves_stepsInM a'.defers .returning w' {b.atR a' todo with mode:=.returning} cs rfl rfl rfl hf rfl hF hr hq
  exact⟨e',w'',fr',hR,ComesIn.of_steps hs₀ hs,hfn,hl⟩
 | panic chain =>
  obtain⟨todo,hs₀⟩:=harr;obtain⟨e',w'',fr',hR,hs,hfn,hl⟩:=leaves_stepsInM a'.defers (.panicking chain) w' {b.atR a' todo with mode:=.panicking chain} cs rfl rfl rfl hf rfl hF hr hq
  exact⟨e',w'',fr',hR,ComesIn.of_steps hs₀ hs,hfn,hl⟩
 | exit id=>exact hq.elim
 | goto l=>exact hq.elim
 | outgrown=>exact⟨.outgrown,w',b,hq,harr.resolve_left (by simp[b]),rfl,trivial⟩
def zL6 (P:Program) (l:Nat) (R:Ending->World->Prop):Exit->Act->World->Prop
 | .panic ch,a,w=>a.defers=[]/\R (.panicked ch) w
 | e,a,w=>roundPost P l R e a w
theorem zGW {l:Nat} {f:FuncId} {fn0:Func} {tmps:Array Value} {assign body:Code} {R:Ending->World->Prop} (hf:P.funcs[f]?=some fn0)
  (h:assign.wpIn (Fence.wide.inRound l) n P (Exit.then (fun a₁ w₁=>∃ w₂,(Instr.beginRound l).run P w₁=.ok () w₂/\body.wpIn (Fence.wide.inRound l) n P (zL6 P l R) a₁ w₂) (fun _ _ _=>False))
   {tmps:=tmps,defers:=[]} w) :
  RoundIn Fence.wide n P l f tmps assign body w R:=by
 have hF:Fence.wide.fn f:=trivial;refine⟨hF,fun c cs hr=>?_⟩
 let b:Frame:={(default:Frame) with fn:=f,kind:=.normal,roundOf:=some l}
 have hb0:Frame.round l f tmps assign body .normal=b.atR {tmps:=tmps,defers:=[]} [.code assign,.beginRound,.code body]:=by
  simp[Frame.round,Frame.atR,b]
 have hr':(Fence.wide.inRound l).room ((c::cs).length+1+n):=hr;have hF':(Fence.wide.inRound l).fn b.fn:=hF;obtain⟨e,a₁,w₁,hq,harr⟩:=h b [.beginRound,.code body] (c::cs) rfl hF' hr';rw[← hb0]at harr
 cases e with
 | normal =>
  obtain⟨w₂,hbr,hbody⟩:=hq;have s1:StepsIn (Machine.fenced P (Fence.wide.inRound l)) P (lone (b.atR a₁ [.beginRound,.code body]) (c::cs) w₁) (lone (b.atR a₁ [.code body]) (c::cs) w₂) :=
   .one (fenced_calm (fr:=b.atR a₁ [.beginRound,.code body]) hF' hr' rfl) (stepR_beginRound rfl hbr)
  obtain⟨e₂,a₂,w₃,hq₂,harr₂⟩:=hbody b [] (c::cs) rfl hF' hr'
  cases e₂ with
  | normal =>
   obtain⟨v,w₄,hend,hR⟩:=hq₂;exact⟨.returned v,w₄,hR,(StepsIn.trans harr s1).trans (StepsIn.trans harr₂ (.one (fenced_calm (fr:=b.atR a₂ []) hF' hr' rfl) (stepR_round_end rfl rfl hend)))⟩
  | ret =>
   obtain⟨v,w₄,hend,hR⟩:=hq₂;obtain⟨k₁,hs⟩:=harr₂.2 rfl;exact⟨.returned v,w₄,hR,(StepsIn.trans harr s1).trans (StepsIn.trans hs (.one (fenced_calm (fr:=b.atR a₂ (.code .ret::k₁)) hF' hr' rfl) (stepR_round_ret rfl rfl hend)))⟩
  | exit id =>
   obtain⟨v,w₄,hend,hR⟩:=hq₂;obtain⟨k₁,hk,hs⟩:=harr₂.2 rfl rfl;exact⟨.returned v,w₄,hR,(StepsIn.trans harr s1).trans (StepsIn.trans hs (.one (fenced_calm (fr:=b.atR a₂ (.code (.exit id)::k₁)) hF' hr' rfl) (stepR_round_exit rfl rfl hk hend)))⟩
  | goto t =>
   obtain⟨v,w₄,hend,hR⟩:=hq₂;obtain⟨k₁,hk,hs⟩:=harr₂.2 rfl rfl;exact⟨.returned v,w₄,hR,(StepsIn.trans harr s1).trans (StepsIn.trans hs (.one (fenced_calm (fr:=b.atR a₂ (.code (.goto t)::k₁)) hF' hr' rfl) (stepR_round_goto rfl rfl hk hend)))⟩
  | panic chain =>
   obtain⟨hd,hR⟩:=hq₂;obtain⟨todo,hs⟩:=harr₂;refine⟨.panicked chain,w₃,hR,(StepsIn.trans harr s1).trans (StepsIn.trans hs (.one (fenced_wide _ _) (step_leave_panicked ?_)))⟩;exact⟨rfl,hd,fn0,hf⟩
  | outgrown=>exact hq₂.elim
 | exit id=>exact hq.elim
 | goto t=>exact hq.elim
 | ret=>exact hq.elim
 | panic chain=>exact hq.elim
 | outgrown=>exact hq.elim
theorem zIm {g:Operand} {ps:Array Tmp} {assign body:Code}
  (h:∀ fn,(∃ f,P.funcs[fn]?=some f)->∃ (l:Nat) (mark:List Deferred) (w₁:World) (d:Deferred) (w₁':World) (f:FuncId) (args:Array Value) (w₂:World),
   (Instr.enterLoop fn a.tmps ps assign body none).run P w=.ok (l,mark) w₁ /\
   (resolve a.eval (rangeCall g l) 0).run P w₁=.ok d w₁' /\
   (invoke d.target d.args).run P w₁'=.ok (.enter f args) w₂ /\
   CallsIn Fence.wide n P f args w₂ (rangePost Fence.wide n P l Q {a with defers:=mark++a.defers})) :
  wpR P (Code.rangeFunc g ps assign body) Q a w:=by
 intro b k cs hro hb;have hr:=room_wide;obtain⟨l,mark,w₁,d,w₁',f,args,w₂,he,hres,hinv,hF,hcall⟩:=h b.fn hb;rw[← hro]at he;have h0:(lone (b.atR a (.code (.rangeFunc g ps assign body)::k)) cs w).fenced P Fence.wide:=fenced_wide _ _;have henter:=stepR_rangeFunc (P:=P) (b:=b) (a:=a) (k:=k) (cs:=cs) (w:=w) he hres hinv;obtain⟨e,w₃,fr,hR,hsteps,hfn,hleave⟩:=hcall (b.atR {a with defers:=mark++a.defers} (.inRangeFunc l::k)::cs) (hr _)
 cases e with
 | outgrown =>
  obtain⟨a₀,w₀,hq⟩:=hR;exact⟨.outgrown,a₀,w₀,hq,.inr (Outgrown.of_steps (.one henter) hsteps)⟩
 | returned v =>
  have hl:(lone fr (b.atR {a with defers:=mark++a.defers} (.inRangeFunc l::k)::cs) w₃).fenced P Fence.wide:=fenced_wide _ _
  obtain⟨jump,w₄,hend,hj⟩:=hR;have sback:StepsIn (Machine.fenced P Fence.wide) P (lone (b.atR a (.code (.rangeFunc g ps assign body)::k)) cs w) (lone (b.atR {a with defers:=mark++a.defers} ((jump.map Item.code).toList++k)) cs w₄):=by
   refine .head h0 henter (StepsIn.trans hsteps (.head hl ?_ (.one (fenced_wide _ _) (stepR_endRangeFunc hend))));rw[← finish_atR_inRangeFunc l v];exact step_leave_returned hleave
  cases jump with
  | none=>exact⟨.normal,_,w₄,hj,sback⟩
  | some c =>
   obtain⟨e',a'',w₅,hq,harr⟩:=hj b k cs hro trivial (hr _);exact⟨e',a'',w₅,hq,.of_steps sback harr⟩
 | panicked chain =>
  have hl:(lone fr (b.atR {a with defers:=mark++a.defers} (.inRangeFunc l::k)::cs) w₃).fenced P Fence.wide:=fenced_wide _ _
  refine⟨.panic chain,_,w₃,hR,.inRangeFunc l::k,.head h0 henter (StepsIn.trans hsteps (.one hl ?_))⟩;rw[← Frame.raise_atR];exact step_leave_panicked hleave
end
def zRn (B:Nat) (Y:Option Code->World->Prop) (X:List PanicEntry->World->Prop) (W:World):Exit->Act->World->Prop
 | .normal,_,W'=>KeepsNC B W W'/\Y none W'
 | .ret,_,W'=>KeepsNC B W W'/\Y (some .ret) W'
 | .exit id,_,W'=>KeepsNC B W W'/\Y (some (.exit id)) W'
 | .goto t,_,W'=>KeepsNC B W W'/\Y (some (.goto t)) W'
 | .panic ch,a,W'=>a.defers=[]/\KeepsNC B W W'/\X ch W'
 | .outgrown,_,_=>False
def zR3 (Q:Exit->Act->World->Prop) (a:Act) (W:World):Option Code->Prop
 | none=>Q .normal a W
 | some .ret=>Q .ret a W
 | some (.exit id)=>Q (.exit id) a W
 | some (.goto t)=>Q (.goto t) a W
 | _=>False
theorem zFS {σ α:Type} {n:Nat} {P:Program} {g:Operand} {ps:Array Tmp} {assign body:Code} {Q:Exit->Act->World->Prop} {a:Act} {w:World}
  {gf:Nat} {lb:Array Value} (hg:a.eval g=.func (.func gf) #[] lb) (eg:∀ args w,(callFunc gf args).run P w=.ok (.enter gf args) w)
  {encs:α->Array Value} (hps:∀ x,(encs x).size=ps.size)
  (I0:World->Prop) (S:Option Code->World->Prop) (Pn:List PanicEntry->World->Prop) (Yp:σ->α->World->Prop) (Yq:σ->α->Option Code->World->Prop) (Yx:σ->α->List PanicEntry->World->Prop) (Ya:σ->α->Act->World->Prop)
  (st0:Stay w.heap.size I0) (stS:∀ j,Stay w.heap.size (S j)) (stYq:∀ s x j,Stay w.heap.size (Yq s x j)) (stYa:∀ s x a,Stay w.heap.size (Ya s x a))
  (hiter:∀ (l:Nat) (B:Option Code->World->Prop) (K:World->Prop),(∀ j W W',KeepsNC w.heap.size W W'->B j W->B j W')->(∀ W W',KeepsNC w.heap.size W W'->K W->K W')->(∀ j W,B j W->K W) ->
   (∀ s x W1,Yp s x W1->B none W1->YieldAt Fence.wide (n - 1) P l (encs x) W1 fun e W'=>(∃ j:Option Code,e=.returned (.bool j.isNone)/\Yq s x j W'/\B j W')\/∃ ch,e=.panicked ch/\Yx s x ch W'/\K W') ->
   ∀ W,I0 W->B none W->CallsIn Fence.wide n P gf (#[.func (.yield l) #[] #[]]++lb) W fun e W'=>(∃ v j,e=.returned v/\S j W'/\B j W')\/∃ ch,e=.panicked ch/\Pn ch W'/\K W')
  (h0:I0 w)
  (hassign:∀ (l:Nat) (s:σ) (x:α) (W:World),Yp s x W ->
   assign.wpIn (Fence.wide.inRound l) (n - 1) P (Exit.then (fun a1 W1=>KeepsNC w.heap.size W W1/\Ya s x a1 W1) (fun _ _ _=>False)) {tmps:=(ps.zip (encs x)).foldl (fun t (p,v)=>t.setIfInBounds p v) a.tmps,defers:=[]} W)
  (hbody:∀ (l:Nat) (s:σ) (x:α) (a1:Act) (W:World),Ya s x a1 W->body.wpIn (Fence.wide.inRound l) (n - 1) P (zRn w.heap.size (Yq s x) (Yx s x) W) a1 W)
  (hdone:∀ (D:Nat) (j:Option Code) (W:World),w.heap.size<=D->S j W->W.heap[D]?=some (.deferred (some []))->zR3 Q {a with defers:={target:=.collected D,args:=#[]}::a.defers} W j)
  (hpan:∀ (D:Nat) (ch:List PanicEntry) (W:World),w.heap.size<=D->Pn ch W->W.heap[D]?=some (.deferred (some []))->Q (.panic ch) {a with defers:={target:=.collected D,args:=#[]}::a.defers} W) :
  wpR P (Code.rangeFunc g ps assign body) Q a w:=by
 refine zIm (n:=n) ?_
 intro fn hfn;obtain⟨fn0,hfn⟩:=hfn;obtain⟨rec,hrec⟩:∃ rec:LoopState->Option Code->Loop,rec=fun st pe=>{state:=st,pending:=pe,fn,tmps:=a.tmps,params:=ps,assign,body,defers:=w.heap.size}:=⟨_,rfl⟩
 obtain⟨W1,hW1⟩:∃ W1,(w.alloc (.deferred (some []))).alloc (.loop (rec .ready none))=W1:=⟨_,rfl⟩;have hL1:W1.heap[w.heap.size+1]?=some (.loop (rec .ready none)):=by
  rw[← hW1];have:=World.alloc_heap_new (w.alloc (.deferred (some []))) (.loop (rec .ready none));rwa [World.size_alloc]at this
 have hK1:W1.heap[w.heap.size]?=some (.deferred (some [])):=by
  rw[← hW1];exact(Below.heap_alloc _ _ _ (by simp)).trans (World.alloc_heap_new w _)
 have hI1:I0 W1:=by rw[← hW1];exact st0.alloc _ (st0.alloc _ h0)
 refine⟨w.heap.size+1,[{target:=.collected w.heap.size,args:=#[]}],W1,{target:=.fn (.func gf) lb,args:=#[.func (.yield (w.heap.size+1)) #[] #[]]},W1,gf,
  #[.func (.yield (w.heap.size+1)) #[] #[]]++lb,W1,?_,?_,?_,?_⟩
 ·rw[← hW1,hrec];exact run_enterLoop_outer _ _ _ _ _
 ·simp only[resolve,hg];simp[go_sem]
 ·simp[invoke,go_sem,eg]
 ·refine(hiter (w.heap.size+1) (fun j W=>W.heap[w.heap.size+1]?=some (.loop (rec (if j.isNone then .ready else .done) j))/\W.heap[w.heap.size]?=some (.deferred (some []))) (fun W=>W.heap[w.heap.size]?=some (.deferred (some [])))
   (fun j W W' hk hB=>⟨hk.same _ _ (by omega) hB.1 rfl,hk.same _ _ (Nat.le_refl _) hB.2 rfl⟩) (fun W W' hk hB=>hk.same _ _ (Nat.le_refl _) hB rfl) (fun j W hB=>hB.2) ?_ W1 hI1 ⟨hL1,hK1⟩).mono ?_
  ·rintro s x W hy ⟨hl,hk⟩;have hl:W.heap[w.heap.size+1]?=some (.loop (rec .ready none)):=hl;have hlt:w.heap.size+1<W.heap.size:=(Array.getElem?_eq_some_iff.1 hl).1;have hyr:=run_yield (P:=P) (args:=encs x) hl (by rw[hrec];exact hps x)
   rw[hrec]at hyr;refine⟨fn,_,assign,body,hyr,zGW hfn (wpIn_mono (hassign (w.heap.size+1) s x W hy) ?_)⟩;rintro e a1 Wa hp
   cases e with
   | normal =>
    obtain⟨hka,hya⟩:=hp;have hla:=hka.same _ _ (by omega) hl rfl
    have hda:=hka.same _ _ (Nat.le_refl _) hk rfl;refine⟨_,run_beginRound hla (by rw[hrec]),?_⟩
    have hlt2:w.heap.size+1<Wa.heap.size:=(Array.getElem?_eq_some_iff.1 hla).1;have hl2:(Wa.putObj (w.heap.size+1) (.loop {rec .ready none with state:=.busy})).heap[w.heap.size+1]?=some (.loop {rec .ready none with state:=.busy}):=World.putObj_heap_same hlt2
    have hk2:(Wa.putObj (w.heap.size+1) (.loop {rec .ready none with state:=.busy})).heap[w.heap.size]?=some (.deferred (some [])):=(World.putObj_heap_other (by omega)).trans hda
    refine wpIn_mono (hbody _ s x a1 _ ((stYa s x a1).putObj _ hya (by omega) hla rfl)) ?_
    have key:∀ (j:Option Code) (W3:World),KeepsNC w.heap.size (Wa.putObj (w.heap.size+1) (.loop {rec .ready none with state:=.busy})) W3->Yq s x j W3->∃ v w',(Instr.endRound (w.heap.size+1) j).run P W3=.ok v w'/\((∃ j:Option Code,Ending.returned v=.returned (.bool j.isNone)/\Yq s x j w'/\w'.heap[w.heap.size+1]?=some (.loop (rec (if j.isNone then .ready else .done) j))/\w'.heap[w.heap.size]?=some (.deferred (some [])))\/∃ ch,Ending.returned v=.panicked ch/\Yx s x ch w'/\w'.heap[w.heap.size]?=some (.deferred (some []))):=by
     intro j W3 hk3 hq3;have hl3:=hk3.same _ _ (by omega) hl2 rfl
     have hd3:=hk3.same _ _ (Nat.le_refl _) hk2 rfl;have hre:=run_endRound (P:=P) j hl3;refine⟨_,_,hre,.inl ⟨j,rfl,(stYq s x j).putObj _ hq3 (by omega) hl3 rfl,?_,(World.putObj_heap_other (by omega)).trans hd3⟩⟩
     rw[World.putObj_heap_same (Array.getElem?_eq_some_iff.1 hl3).1,hrec]
    rintro e a3 W3 hp
    cases e with
    | normal=>exact key none W3 hp.1 hp.2
    | ret=>exact key (some .ret) W3 hp.1 hp.2
    | exit id=>exact key (some (.exit id)) W3 hp.1 hp.2
    | goto t=>exact key (some (.goto t)) W3 hp.1 hp.2
    | panic ch=>exact⟨hp.1,.inr ⟨ch,rfl,hp.2.2,hp.2.1.same _ _ (Nat.le_refl _) hk2 rfl⟩⟩
    | outgrown=>exact hp.elim
   | ret=>exact hp.elim
   | exit id=>exact hp.elim
   | goto t=>exact hp.elim
   | panic ch=>exact hp.elim
   | outgrown=>exact hp.elim
  ·rintro e W2 (⟨v,j,rfl,hS,hl,hk⟩|⟨ch,rfl,hP,hk⟩)
   ·have hd:=hdone w.heap.size j _ (Nat.le_refl _) ((stS j).putObj (.loop {rec (if j.isNone then .ready else .done) j with state:=.exhausted}) hS (by omega) hl rfl) ((World.putObj_heap_other (by omega)).trans hk)
    have hend:=run_endLoop (P:=P) hl (by rw[hrec];cases j<;>simp)
    subst hrec;refine⟨j,_,hend,?_⟩
    cases j with
    | none=>exact hd
    | some c =>
     cases c with
     | ret=>exact wpIn_ret hd
     | exit id=>exact wpIn_exit hd
     | goto t=>exact wpIn_goto hd
     | _=>exact hd.elim
   ·exact hpan _ ch _ (Nat.le_refl _) hP hk
def zF5 (l:List Oper):Bool:=l.all (fun o=>match o.op with|.defer _=>false|_=>true)
theorem zGG {k l:Nat} {P:Program} {o:Oper} {a:Act} {w:World} {K:Act->World->Prop} {Q:Exit->Act->World->Prop} (hd:∀ c,o.op≠.defer c) (h:o.wp P a w K Q):o.wpIn (Fence.wide.inRound l) k P a w K Q:=by
 unfold Oper.wp at h;refine⟨fun _ _=>trivial,?_⟩
 rw[show o.semAt (Fence.wide.inRound l).round a.eval=execOp a.eval o from Oper.semAt_some l a.eval o hd]
 generalize (execOp a.eval o).run P w=r at *
 cases r with
 | ok x w' =>
  cases x<;>simp only[Oper.upon,Oper.uponIn]at h ⊢ <;>
   first
    | exact h
    | exact⟨fun h=>by simp[Fence.wide,Fence.inRound]at h,CallsIn.inRound l (callsIn_wide.2 h)⟩
    | exact⟨fun h=>by simp[Fence.wide,Fence.inRound]at h,zE0 (m:=k - 1) h⟩
    | exact h.elim
 | halt x w'=>cases x<;>simp only[Oper.upon,Oper.uponIn]at h ⊢<;>first|exact h|exact h.elim
theorem zAq {k l:Nat} {P:Program} {ops:Array Oper} {Q:Exit->Act->World->Prop} (hQ:¬ LetsOut Q):∀ (r:List Oper) (a:Act) (w:World),zF5 r=true->wpList P ops Q r a w->wpListIn (Fence.wide.inRound l) k P ops Q r a w
 | [],_,_,_,h=>h
 | o::r,a,w,hc,h=>by
  simp only[zF5,List.all_cons,Bool.and_eq_true]at hc;have ih:=zAq (k:=k) (l:=l) (P:=P) (ops:=ops) (Q:=Q) hQ r;unfold wpList at h;unfold wpListIn;split at h
  ·rename_i hw;rw[if_pos hw];exact zGG (fun c e=>by rw[e]at hc;simp at hc) (Oper.wp_mono (fun a' w' h'=>ih a' w' (by simpa [zF5] using hc.2) h') (h.resolve_right (fun h=>hQ h.2)))
  ·rename_i hw;rw[if_neg hw];exact⟨fun _ _=>trivial,ih _ _ (by simpa [zF5] using hc.2) h⟩
theorem zFl {k c:Nat} {P:Program} {l:List Oper} {Q:Exit->Act->World->Prop} (hQ:¬ LetsOut Q) (hc:zF5 l=true):∀ (fuel:Nat) (listed:Array Bool) (a:Act) (w:World),wpAny P .any l.toArray Q fuel listed a w->wpAnyIn (Fence.wide.inRound k) c P .any l.toArray Q fuel listed a w
 | 0,_,_,_,h=>h
 | fuel+1,listed,a,w,h=>by
  refine⟨h.1,fun i hi=>?_⟩
  have h2:=h.2 i hi;have ih:=fun a w=>zFl (k:=k) (c:=c) (P:=P) hQ hc fuel (listed.setIfInBounds i true) a w
  unfold wpOp at h2;unfold wpOpIn
  cases ho:l.toArray[i]? with
  | none =>
   simp only[ho]at h2 ⊢;exact ih _ _ h2
  | some o =>
   simp only[ho]at h2 ⊢;have hno:∀ c,o.op≠.defer c:=by
    intro c e;have hm:o ∈ l:=by
     have:l[i]?=some o:=by simpa using ho
     exact List.mem_of_getElem? this
    have:=List.all_eq_true.1 hc o hm;rw[e]at this;cases this
   split
   ·rename_i hw;rw[if_pos hw]at h2;exact zGG hno (Oper.wp_mono (fun a' w' h'=>ih a' w' h') (h2.resolve_right (fun h=>hQ h.2)))
   ·rename_i hw;rw[if_neg hw]at h2;exact⟨fun _ _=>trivial,ih _ _ h2⟩
section
variable {P:Program} {ops:Array Oper} {Q:Exit->Act->World->Prop} {fuel:Nat} {listed:Array Bool} {a:Act} {w:World}
def anyK (P:Program) (ops:Array Oper) (Q:Exit->Act->World->Prop) (fuel:Nat) (listed:Array Bool):Exit->Act->World->Prop
 | .normal,a,w=>wpAny P .any ops Q fuel listed a w
 | .exit id,a,w=>Q (.exit id) a w
 | .goto l,a,w=>Q (.goto l) a w
 | .ret,a,w=>Q .ret a w
 | .panic c,a,w=>Q (.panic c) a w
 | .outgrown,a,w=>Q .outgrown a w
theorem zLT {o:Oper} {K:Act->World->Prop} {Q':Exit->Act->World->Prop} (h:o.wp P a w K Q') (h1:∀ c a w,Q' (.panic c) a w->Q (.panic c) a w) (h2:LetsOut Q'->LetsOut Q):o.wp P a w K Q:=by
 unfold Oper.wp at *
 generalize (execOp a.eval o).run P w=r at *
 cases r with
 | ok n w' =>
  cases n<;>simp only[Oper.upon]at h ⊢ <;>
   first
    | exact h
    | exact Calls.mono h (fun e w'' he=>by
      cases e with
      | returned v=>exact he
      | panicked c=>exact h1 _ _ _ he
      | outgrown=>exact h2 he)
    | exact h.elim
 | halt x w'=>cases x<;>simp only[Oper.upon]at h ⊢<;>first|exact h1 _ _ _ h|exact h|exact h.elim
theorem zH0 {i:Nat} {o:Oper} (ho:ops[i]?=some o) (h:wpList P ops (anyK P ops Q fuel (listed.setIfInBounds i true)) [o] a w):wpOp P ops Q i (wpAny P .any ops Q fuel (listed.setIfInBounds i true)) a w:=by
 unfold wpOp;simp only[ho];unfold wpList at h;split at h
 ·rename_i hw;rw[if_pos hw];rcases h with h|⟨h1,h2⟩
  ·refine .inl ?_
   have key:∀ (a':Act) (w':World),wpList P ops (anyK P ops Q fuel (listed.setIfInBounds i true)) [] a' w'->wpAny P .any ops Q fuel (listed.setIfInBounds i true) a' w':=fun a' w' h'=>by
    unfold wpList at h';exact h'
   have h2:=Oper.wp_mono key h;exact zLT h2 (fun c a' w' h'=>h') (fun ⟨a1,w1,h'⟩=>⟨a1,w1,h'⟩)
  ·exact .inr ⟨h1,by
    obtain⟨a1,w1,h2⟩:=h2
    exact⟨a1,w1,h2⟩⟩
 ·rename_i hw;rw[if_neg hw];unfold wpList at h;exact h
theorem zR1 (i:Nat) {o:Oper} (hr:Region.ready .any ops listed=[i]) (ho:ops[i]?=some o) (h:wpList P ops (anyK P ops Q fuel (listed.setIfInBounds i true)) [o] a w):wpAny P .any ops Q (fuel+1) listed a w :=
 ⟨fun e=>(by rw[hr]at e;cases e),fun k hk=>by
  rw[hr]at hk;obtain rfl:k=i:=by simpa using hk
  exact zH0 ho h⟩
theorem zRw (i j:Nat) {o p:Oper} (hr:Region.ready .any ops listed=[i,j]) (ho:ops[i]?=some o) (hp:ops[j]?=some p) (h:wpList P ops (anyK P ops Q fuel (listed.setIfInBounds i true)) [o] a w) (h2:wpList P ops (anyK P ops Q fuel (listed.setIfInBounds j true)) [p] a w):wpAny P .any ops Q (fuel+1) listed a w :=
 ⟨fun e=>(by rw[hr]at e;cases e),fun k hk=>by
  rw[hr]at hk;simp only[List.mem_cons,List.not_mem_nil,or_false]at hk;rcases hk with rfl|rfl
  ·exact zH0 ho h
  ·exact zH0 hp h2⟩
theorem zR7 (i j m:Nat) {o p q:Oper} (hr:Region.ready .any ops listed=[i,j,m]) (ho:ops[i]?=some o) (hp:ops[j]?=some p) (hq:ops[m]?=some q) (h:wpList P ops (anyK P ops Q fuel (listed.setIfInBounds i true)) [o] a w) (h2:wpList P ops (anyK P ops Q fuel (listed.setIfInBounds j true)) [p] a w) (h3:wpList P ops (anyK P ops Q fuel (listed.setIfInBounds m true)) [q] a w):wpAny P .any ops Q (fuel+1) listed a w :=
 ⟨fun e=>(by rw[hr]at e;cases e),fun k hk=>by
  rw[hr]at hk;simp only[List.mem_cons,List.not_mem_nil,or_false]at hk;rcases hk with rfl|rfl|rfl
  ·exact zH0 ho h
  ·exact zH0 hp h2
  ·exact zH0 hq h3⟩
theorem zK1 (hr:Region.ready .any ops listed=[]) (h:Q .normal a w):wpAny P .any ops Q fuel listed a w:=by
 cases fuel with
 | zero=>exact⟨hr,h⟩
 | succ n=>exact⟨fun _=>h,fun k hk=>by rw[hr]at hk;cases hk⟩
end
def CellsAt (W:World) (b:Nat):Prop:=∃ o,W.heap[b]?=some o/\o.isCells=true
def zBd:Res->Bool|.kn _ _=>false|.mp _ _ _=>false|_=>true
section
variable {M:Nat->Prop} {w0 w w' W W':World} {l l1 l2 R:List Res}
theorem HoldG.perms (H:HoldG M w0 w l) (p:l.Perm l2):HoldG M w0 w l2:=by
 have hp:l.Pairwise (fun r s=>zOT r s/\zOT s r):=by
  rw[List.pairwise_iff_getElem];intro i j hi hj hij;exact⟨H.apart i j _ _ (by omega) (List.getElem?_eq_getElem hi) (List.getElem?_eq_getElem hj),H.apart j i _ _ (by omega) (List.getElem?_eq_getElem hj) (List.getElem?_eq_getElem hi)⟩
 have hp2:=hp.perm p (fun h=>⟨h.2,h.1⟩)
 rw[List.pairwise_iff_getElem]at hp2;refine⟨H.keep,fun i r h=>?_,fun i j r s hij hr hs=>?_⟩
 ·obtain⟨k,hk⟩:=List.getElem?_of_mem (p.symm.subset (List.mem_of_getElem? h));exact H.all k r hk
 ·obtain⟨h1,rfl⟩:=List.getElem?_eq_some_iff.1 hr;obtain⟨h2,rfl⟩:=List.getElem?_eq_some_iff.1 hs;rcases Nat.lt_or_ge i j with h|h
  ·exact(hp2 i j h1 h2 h).1
  ·exact(hp2 j i h2 h1 (by omega)).2
theorem HoldG.left (H:HoldG M w0 w (l1++R)):HoldG M w0 w l1 :=
 ⟨H.keep,fun i r h=>H.all i r (by rw[List.getElem?_append_left (List.getElem?_eq_some_iff.1 h).1];exact h),fun i j r s hij hr hs=>H.apart i j r s hij (by rw[List.getElem?_append_left (List.getElem?_eq_some_iff.1 hr).1];exact hr) (by rw[List.getElem?_append_left (List.getElem?_eq_some_iff.1 hs).1];exact hs)⟩
theorem HoldG.placeCells (H:HoldG M w0 W l) (hl:l.all zBd=true) {r:Res} (hr:r ∈ l) {b:Nat} (hb:r.place=some b):CellsAt W b:=by
 obtain⟨i,hi⟩:=List.getElem?_of_mem hr;have hA:=H.all i r hi;have hc:=List.all_eq_true.1 hl r hr
 cases r with
 | blk b' cs T=>cases hb;exact⟨_,hA.2,rfl⟩
 | row v e sz n xs =>
  obtain⟨_,⟨hv,_⟩|⟨g,cap,cur,rfl,_,hg',_⟩⟩:=hA
  ·have h2:v.ownBlock=some b:=hb;rw[hv]at h2;cases h2
  ·have:g=b:=by simpa [Res.place,Value.ownBlock] using hb
   subst this;exact⟨_,hg',rfl⟩
 | mp b' es c=>cases hc
 | kn F S=>cases hc
theorem HoldG.footCells (H:HoldG M w0 W l) (hl:l.all zBd=true) {i:Nat} {r:Res} (hi:l[i]?=some r) {b:Nat} (hb:r.foot b):CellsAt W b:=by
 have hr:=List.mem_of_getElem? hi
 cases r with
 | kn F S=>exact absurd (List.all_eq_true.1 hl _ hr) (by simp[zBd])
 | blk b' cs T=>exact H.placeCells hl hr (b:=b) (by cases hb;rfl)
 | row v e sz n xs=>exact H.placeCells hl hr (b:=b) hb
 | mp b' es c=>exact absurd (List.all_eq_true.1 hl _ hr) (by simp[zBd])
theorem CellsAt.grown {B:Nat} {row:Option Nat} {b:Nat} (h:CellsAt W b) (hg:W.grownBy W' row) (hr:∀ r,row=some r->B<=r/\∃ o:Obj,W.heap[r]?=some o/\o.isCells=false):W'.heap[b]?=W.heap[b]?:=by
 obtain⟨o,h1,h2⟩:=h;refine hg.block b (Array.getElem?_eq_some_iff.1 h1).1 (fun e=>?_)
 obtain⟨_,o',h3,h4⟩:=hr b e.symm;rw[h1]at h3;cases h3;rw[h2]at h4;cases h4
theorem HoldG.stayC (H:HoldG M w0 W l) (hl:l.all zBd=true) {B:Nat} (hB:w0.heap.size<=B) {row:Option Nat} (hg:W.grownBy W' row) (hr:∀ r,row=some r->B<=r/\∃ o:Obj,W.heap[r]?=some o/\o.isCells=false):HoldG M w0 W' l :=
 ⟨H.keep.trans ⟨hg.os,hg.tape,hg.output,hg.size,fun k h1 h2=>hg.block k (Nat.lt_of_lt_of_le h1 H.keep.size) (fun e=>by have:=(hr k e.symm).1;omega)⟩,fun i s hs=>(H.all i s hs).kept (fun b hb=>(H.footCells hl hs hb).grown hg hr) hg.size,H.apart⟩
theorem Stay.plain (hl:l.all zBd=true) {B:Nat} (hB:w0.heap.size<=B):Stay B (fun W=>HoldG M w0 W l):=fun W W' row H hg hr=>H.stayC hl hB hg hr
theorem KeepsNC.of_plain (B:Nat) (H:HoldG M w0 W l) (hl:l.all zBd=true) (h:zDG W l W'):KeepsNC B W W':=fun k o _ hk ho=>by
 refine(h k ⟨(Array.getElem?_eq_some_iff.1 hk).1,fun r hr e=>?_⟩).trans hk
 obtain⟨o',h1,h2⟩:=H.placeCells hl hr e;rw[hk]at h1;cases h1;rw[ho]at h2;cases h2
end
section
variable {n:Nat} {P:Program} {ops:Array Oper} {Q:Exit->Act->World->Prop} {o:Oper} {rest:List Oper} {a:Act} {w:World}
theorem zGn (hQ:¬ LetsOut Q):∀ (l1 l2:List Oper) (a:Act) (w:World),wpList P ops (Exit.then (wpListIn Fence.wide n P ops Q l2) Q) l1 a w->wpListIn Fence.wide n P ops Q (l1++l2) a w
 | [],l2,a,w,h=>by simpa [wpList,Exit.then] using h
 | o::l1,l2,a,w,h=>by
  unfold wpList at h;rw[List.cons_append];unfold wpListIn;split at h
  ·rename_i hw;rw[if_pos hw];rcases h with h|⟨_,a1,w1,h1⟩
   ·refine zLr (zLT (Oper.wp_mono (fun a' w' h'=>zGn hQ l1 l2 a' w' h') h) (fun c a w h=>h) ?_)
    rintro⟨a1,w1,h1⟩;exact⟨a1,w1,h1⟩
   ·exact(hQ ⟨a1,w1,h1⟩).elim
  ·rename_i hw;rw[if_neg hw];exact⟨fun _ _=>trivial,zGn hQ l1 l2 _ w h⟩
theorem zNv {l:Nat} {x y z:Operand} {ts:Array TypeId} {v u:Value} {T:Bool->World->Prop} (hg:o.guard=none) (hop:o.op=Op.call {callee:=Callee.value x,args:=#[y,z],argTypes:=ts}) (hx:a.eval x=.func (.yield l) #[] #[]) (hy:a.eval y=v) (hz:a.eval z=u)
  (hY:YieldAt Fence.wide (n - 1) P l #[v,u] w fun e W'=>∃ b,e=.returned (.bool b)/\T b W') (h1:∀ b W',T b W'->wpListIn Fence.wide n P ops Q rest (a.put o.dst (.bool b)) W'):wpListIn Fence.wide n P ops Q (o::rest) a w:=by
 obtain⟨fn,tmps,assign,body,hyr,hR⟩:=hY;refine wpListIn_plain hg fun K hK=>?_
 refine⟨fun _ _=>trivial,?_⟩
 rw[show o.semAt Fence.wide.round a.eval=execOp a.eval o from rfl]
 have hr:(execOp a.eval o).run P w=.ok (.round l fn tmps assign body) w:=by
  simp only[execOp,hop];simp only[resolve,hx,List.map_toArray,List.map_cons,List.map_nil,hy,hz,Sem.run_bind,Sem.run_pure,Result.andThen_ok,invoke];exact hyr
 rw[hr];simp only[Oper.uponIn];refine⟨fun h=>by simp[Fence.wide]at h,hR.mono ?_⟩
 rintro e w' ⟨b,rfl,hT⟩;exact hK _ _ (h1 b w' hT)
end
end
section
open Go.RowKit Go.Shelf
attribute [local go_sem] Oper.semAt_some
theorem zJl (d:NodeD) (s:Value) (w0:World):Calls Tryz.prog 42 #[zAQ d s] w0 fun e w'=>(∃ xb,e=.returned (.func (.func 98) #[] #[.pointer (some ⟨xb,0,none⟩)])/\w0.heap.size<=xb/\w'.heap[xb]?=some (.cells (zAO d s) 28 (0,0)))/\Below w0.heap.size w0 w':=by
 have H:=Hold.start w0
 go_enter Tryz.func42,Tryz.ntmps42
 go_wp2_with (first|((with_reducible refine kg 1 ?_);(first|refine kA 1 H ?_|refine kS 1 H ?_|refine kB 1 H ?_);clear H;intro b1 w H;try simp only[nr]at H)|fail)
 go_ret;exact⟨⟨b1,rfl,by have:=(H.blk .zero).1;simpa using this,(H.blk .zero).2⟩,H.below⟩
end
end Go.Proofs.YtalggmbdpmdcbaaGreat
