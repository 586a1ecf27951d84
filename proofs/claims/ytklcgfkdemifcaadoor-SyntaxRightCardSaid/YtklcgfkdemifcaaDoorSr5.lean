/-
  Laws of walks, and walks.
-/
import Derived.Test.YtklcgfkdemifcaaDoorSr4
import Derived.OrdersIn
import Derived.Test.YtklcgfkdemifcaaDoorSr2
import Derived.WalkSmall
set_option linter.unusedVariables false
set_option linter.unusedSimpArgs false
set_option maxRecDepth 100000
set_option maxHeartbeats 16000000
namespace Go.Proofs.YtklcgfkdemifcaaDoor
section
open Go.RowKit
structure RCtxS (l:List Oper) (Ss:Nat→Value→World→Prop) (R:World→World→Prop) (a0:Act) (w0:World) (o:Oper) (a:Act) (w:World):Prop where
 rel:R w0 w
 frame:∀ t,l.any (fun o=>o.dst == some t)=false→a.eval (.tmp t)=a0.eval (.tmp t)
 dep:∀ j d,o.after.toList.any (fun e=>Region.binds .any e&&e.on == j)=true→(l[j]?).bind (·.dst)=some d→Ss j (a.eval (.tmp d)) w
 defers:a.defers=a0.defers
theorem zEZ:∀ (l:List Oper) (k:Nat) (listed:Array Bool) (vals:Nat→Value) (a:Act),(fill l k listed vals a).defers=a.defers
 | [],_,_,_,_=>rfl
 | o::r,k,listed,vals,a=>by
  simp only[fill];rw[zEZ];split
  ·cases o.dst<;>rfl
  ·rfl
def QStepX (P:Program) (ops:Array Oper) (R:World→World→Prop) (Q:Exit→Act→World→Prop) (o:Oper) (a:Act) (w:World) (s:Value→World→Prop):Prop :=
 if Region.wanted o (yielded ops a.tmps) then o.wp P a w (fun a' w'=>∃ v,a'=a.put o.dst v∧R w w'∧s v w') Q else s undef w
def zCl (l:List Oper) (n:Nat) (Sp:List Nat):Bool :=
 Sp.all (fun i=>decide (i<n))&&(List.range (Sp.length - 1)).all (fun k=>match Sp[k]?,Sp[k+1]? with
  | some i,some j=>decide (i<j)&&(match l[j]? with|some o=>o.after.toList.any (fun e=>Region.binds .any e&&e.on == i)|none=>false)
  | _,_=>true)
theorem zC9 {l:List Oper} {n:Nat} {Sp:List Nat} (h:zCl l n Sp=true) :
  (∀ (k i:Nat),Sp[k]?=some i→i<n)∧∀ (k i j:Nat) (o:Oper),Sp[k]?=some i→Sp[k+1]?=some j→l[j]?=some o→∃ e,e ∈ o.after∧Region.binds .any e=true∧e.on=i:=by
 simp only[zCl,Bool.and_eq_true]at h;refine⟨fun k i hk=>by have:=List.all_eq_true.1 h.1 i (List.mem_of_getElem? hk);simpa using this,fun k i j o h1 h2 h3=>?_⟩
 have hk:k<Sp.length - 1:=by have:=(List.getElem?_eq_some_iff.1 h2).1;omega
 have:=List.all_eq_true.1 h.2 k (List.mem_range.2 hk);rw[h1,h2]at this;simp only[h3,Bool.and_eq_true]at this;obtain⟨e,he,hb⟩:=List.any_eq_true.1 this.2;simp only[Bool.and_eq_true,beq_iff_eq]at hb;exact⟨e,Array.mem_toList_iff.1 he,hb⟩
theorem zEg {l:List Oper} {n:Nat} {Sp:List Nat} (h:zCl l n Sp=true) {k i j:Nat} (h1:Sp[k]?=some i) (h2:Sp[k+1]?=some j):i<j:=by
 simp only[zCl,Bool.and_eq_true]at h;have hk:k<Sp.length - 1:=by have:=(List.getElem?_eq_some_iff.1 h2).1;omega
 have:=List.all_eq_true.1 h.2 k (List.mem_range.2 hk);rw[h1,h2]at this;simp only[Bool.and_eq_true,decide_eq_true_eq]at this;exact this.1
theorem zGF {l:List Oper} {n:Nat} {Sp:List Nat} (h:zCl l n Sp=true):∀ (d k i j:Nat),Sp[k]?=some i→Sp[k+d+1]?=some j→i<j:=by
 intro d
 induction d with
 | zero=>intro k i j h1 h2;exact zEg h h1 h2
 | succ d ih =>
  intro k i j h1 h2;have hl:=(List.getElem?_eq_some_iff.1 h2).1;have hm:Sp[k+d+1]?=some (Sp[k+d+1]'(by omega)):=List.getElem?_eq_getElem (by omega)
  exact Nat.lt_trans (ih k i _ h1 hm) (zEg h hm h2)
theorem zCn {l:List Oper} {n:Nat} {Sp:List Nat} (h:zCl l n Sp=true) (k m i:Nat) (h1:Sp[k]?=some i) (h2:Sp[m]?=some i):k=m:=by
 rcases Nat.lt_trichotomy k m with hlt|he|hlt
 ·have:=zGF h (m - k - 1) k i i h1 (by rw[show k+(m - k - 1)+1=m from by omega];exact h2);omega
 ·exact he
 ·have:=zGF h (k - m - 1) m i i h2 (by rw[show m+(k - m - 1)+1=k from by omega];exact h1);omega
theorem zFY {P:Program} {id:Nat} {Q:Exit→Act→World→Prop} {a0:Act} {w0:World} {l:List Oper} (R0 R:World→World→Prop) (Sp:List Nat) (St:Nat→World→Prop) (h0R:∀ u v,R0 u v→R u v) (h0S:∀ r u v,St r u→R0 u v→St r v) (hdrew0:∀ w:World,R0 w {w with drawn:=w.drawn+1}) (hrefl0:∀ w,R0 w w) (htrans:∀ u v w,R u v→R v w→R u w) (hrefl:∀ w,R w w) (hdrew:∀ w:World,R w {w with drawn:=w.drawn+1}) (n:Nat) (Ss:Nat→Value→World→Prop)
  (hsp:zCl l n Sp=true) (hst0:St 0 w0) (hm:P.follows .mixedOrders=true) (hB:zGU l.toArray n=true) (hsz:(l.take n).all (fun o=>match o.dst with|some d=>decide (d<a0.tmps.size)|none=>true)=true)
  (hst:∀ i,i<n→∀ v w w',Ss i v w→R w w'→Ss i v w')
  (hstep:∀ i o,i<n→l[i]?=some o→∀ a w,RCtxS (l.take n) Ss R a0 w0 o a w →
   (Sp.contains i=false→zCF P l.toArray R0 o a w (Ss i))∧∀ r,Sp[r]?=some i→St r w→QStepX P l.toArray R Q o a w (fun v w'=>Ss i v w'∧St (r+1) w'))
  (hend:∀ vals w,R w0 w→(∀ i,i<n→Ss i (vals i) w)→St Sp.length w→wpList P l.toArray Q (l.drop n) (zBI (l.take n) 0 vals a0) w) :
  (Code.region id l.toArray true).wp P Q a0 w0:=by
 simp only[zGU,Bool.and_eq_true,decide_eq_true_eq]at hB;obtain⟨⟨⟨⟨hn,hd⟩,haf⟩,hsink⟩,hseq⟩:=hB;have hn':n≤l.length:=by simpa using hn
 have hspn:∀ (k i:Nat),Sp[k]?=some i→i<n:=fun k i hk=>(zC9 hsp).1 k i hk
 have hd':zCd (l.take n)=true:=hd;have htl:(l.take n).length=n:=by simp;omega
 have key:∀ (rem:List Nat) (f:Nat),rem.length=f→rem.Nodup→∀ (listed:Array Bool) (a:Act) (w:World),HeadInv .any l.toArray n listed →
   (∀ i,i ∈ rem↔(i<n∧listed.getD i true=false))→(∃ vals,a=fill (l.take n) 0 listed vals a0∧(∀ i,i<n→listed.getD i false=true→Ss i (vals i) w))→R w0 w→(∃ r,r≤Sp.length∧St r w∧∀ (k i:Nat),Sp[k]?=some i→(listed.getD i false=true↔k<r)) →
   wpAny P .any l.toArray Q (f+(l.toArray.size - n)) listed a w:=by
  intro rem f
  induction f generalizing rem with
  | zero =>
   intro hl _ listed a w inv hrem ⟨vals,ha,hv⟩ hb ⟨r,hr1,hr2,hr3⟩;have hr:rem=[]:=List.length_eq_zero_iff.1 hl;subst hr;have hall:∀ i,i<n→listed.getD i false=true:=by
    intro i hi;have h1:¬ listed.getD i true=false:=fun h=>by have:=(hrem i).2 ⟨hi,h⟩;simp at this
    have h2:i<listed.size:=by rw[inv.size];omega
    rw[Array.getD_eq_getD_getElem?,Array.getElem?_eq_getElem h2]at h1 ⊢
    simpa using h1
   have hlist:=zCk hn inv hall;have hrl:r=Sp.length:=by
    rcases Nat.lt_or_ge r Sp.length with h|h
    ·have:=(hr3 r Sp[r] (by simp[h])).1 (hall _ (hspn r Sp[r] (by simp[h])))
     omega
    ·omega
   subst hrl;have hw:=hend vals w hb (fun i hi=>hv i hi (hall i hi)) hr2
   rw[← zDP (l.take n) 0 listed vals a0 (fun i hi=>by rw[Nat.zero_add];exact hall i (by omega)),← ha]at hw
   rw[Nat.zero_add];have hdl:(l.drop n).length=l.toArray.size - n:=by simp
   rw[← hdl];refine wpAny_of_seq (l.drop n) n listed a w (fun j=>by simp) ?_ hw
   rw[hdl,hlist];exact hseq
  | succ f ih =>
   intro hl hnd listed a w inv hrem ⟨vals,ha,hv⟩ hb ⟨r,hr1,hr2,hr3⟩;have hex:∃ i,i ∈ rem∧∀ j,j ∈ rem→i≤j:=by
    have:∀ (r:List Nat),r≠[]→∃ i,i ∈ r∧∀ j,j ∈ r→i≤j:=by
     intro r
     induction r with
     | nil=>intro h;exact(h rfl).elim
     | cons x r ihr =>
      intro _
      by_cases hr:r=[]
      ·subst hr;exact⟨x,by simp,by simp⟩
      ·obtain⟨i,hi,hmin⟩:=ihr hr
       by_cases hx:x≤i
       ·exact⟨x,by simp,fun j hj=>by rcases List.mem_cons.1 hj with rfl|hj;exact Nat.le_refl _;exact Nat.le_trans hx (hmin j hj)⟩
       ·exact⟨i,by simp[hi],fun j hj=>by rcases List.mem_cons.1 hj with rfl|hj;omega;exact hmin j hj⟩
    exact this rem (by intro h;subst h;simp at hl)
   have hready:Region.ready .any l.toArray listed≠[]:=by
    obtain⟨i,hi,hmin⟩:=hex;obtain⟨hin,hil⟩:=(hrem i).1 hi;have hlt:i<l.length:=by omega
    have hmem:i ∈ Region.ready .any l.toArray listed:=by
     refine mem_ready.2 ⟨hil,l[i],by simp[hlt],fun e he hbd=>?_⟩
     have h1:=List.all_eq_true.1 haf (l[i],i) (by
      rw[List.mem_zipIdx_iff_getElem?];simp[hin,hlt])
     have h2:=Array.all_eq_true'.1 h1 e he;simp[hbd]at h2;have hj:¬ e.on ∈ rem:=fun h=>by have:=hmin _ h;omega
     have h3:¬ listed.getD e.on true=false:=fun h=>hj ((hrem _).2 ⟨by omega,h⟩)
     have h4:e.on<listed.size:=by rw[inv.size];simp;omega
     rw[Array.getD_eq_getD_getElem?,Array.getElem?_eq_getElem h4]at h3 ⊢
     simpa using h3
    intro h;rw[h]at hmem;simp at hmem
   rw[show f+1+(l.toArray.size - n)=(f+(l.toArray.size - n))+1 from by omega]
   refine⟨fun h=>(hready h).elim,fun i hi=>?_⟩
   obtain⟨hil,o,ho,haft⟩:=mem_ready.1 hi;have hin:i<n:=by
    rcases Nat.lt_or_ge i n with h|h
    ·exact h
    ·exfalso
     obtain⟨i',hi',_⟩:=hex;obtain⟨hin',hil'⟩:=(hrem i').1 hi';have hisz:i<l.toArray.size:=(Array.getElem?_eq_some_iff.1 ho).1;simp only[Bool.or_eq_true,decide_eq_true_eq,Bool.and_eq_true]at hsink;rcases hsink with h0|⟨hs,hc⟩
     ·omega
     ·exact tail_waits hs hc (by omega) inv (n - i') i' rfl hin' hil' i h hi
   have ho':l[i]?=some o:=by simpa using ho
   have hot:(l.take n)[i]?=some o:=by rw[List.getElem?_take_of_lt hin];exact ho'
   obtain⟨d,hod⟩:∃ d,o.dst=some d:=by
    have:∀ (r:List Oper) (j:Nat),zCd r=true→r[j]?=some o→∃ d,o.dst=some d:=by
     intro r
     induction r with
     | nil=>intro j _ h;simp at h
     | cons x r ihr =>
      intro j hdd h;simp only[zCd,Bool.and_eq_true]at hdd
      cases j with
      | zero=>simp at h;subst h;exact Option.isSome_iff_exists.1 hdd.1.1
      | succ j=>exact ihr j hdd.2 (by simpa using h)
    exact this _ i hd' hot
   have hbd:∀ (j:Nat) (oj:Oper) (dj:Tmp),(l.take n)[j]?=some oj→oj.dst=some dj→dj<a0.tmps.size:=by
    intro j oj dj hj hdj;have:=List.all_eq_true.1 hsz oj (List.mem_of_getElem? hj)
    simpa [hdj] using this
   have hctx:RCtxS (l.take n) Ss R a0 w0 o a w:=by
    refine⟨hb,fun t ht=>by rw[ha];exact zBm _ _ _ _ _ t ht,fun j dj hj hdj=>?_,by rw[ha,zEZ]⟩
    obtain⟨e,he,hbe⟩:=List.any_eq_true.1 hj;simp only[Bool.and_eq_true,beq_iff_eq]at hbe;have hlj:=haft e (Array.mem_toList_iff.1 he) hbe.1;rw[hbe.2]at hlj;obtain⟨oj,hoj,hdj'⟩:=Option.bind_eq_some_iff.1 hdj;have hjn:j<n:=by have:=(List.getElem?_eq_some_iff.1 hoj).1;omega
    rw[ha,zEe _ 0 listed vals a0 j oj dj hd' hoj hdj' (hbd j oj dj hoj hdj') (by rw[Nat.zero_add];exact hlj),Nat.zero_add]
    exact hv j hjn hlj
   have hstep':=hstep i o hin ho' a w hctx;have hnext:∀ v w',R w w'→Ss i v w'→(∃ r,r≤Sp.length∧St r w'∧∀ (k j:Nat),Sp[k]?=some j→((listed.setIfInBounds i true).getD j false=true↔k<r))→wpAny P .any l.toArray Q (f+(l.toArray.size - n)) (listed.setIfInBounds i true) (a.put o.dst v) w':=by
    intro v w' hbw hsv hstt;have hmemi:i ∈ rem:=(hrem i).2 ⟨hin,hil⟩;refine ih (rem.erase i) (by rw[List.length_erase_of_mem hmemi,hl];rfl) (hnd.erase i) _ _ w' (inv.set hi hin) (fun j=>?_) ⟨fun j=>if j=i then v else vals j,?_,fun j hj hlj=>?_⟩ (htrans _ _ _ hb hbw) hstt
    ·rw[hnd.mem_erase_iff,hrem j]
     by_cases hji:j=i
     ·subst hji;have hjs:j<listed.size:=by rw[inv.size];simp;omega
      simp[hjs]
     ·rw[getD_set_ne true (fun e=>hji e.symm)]
      simp[hji]
    ·have:=zDh (l.take n) 0 i listed vals a0 o d v hd' hot hod (by rw[Nat.zero_add];exact hil)
     rw[Nat.zero_add]at this;rw[this,← ha,hod]
    ·by_cases hji:j=i
     ·subst hji;simpa using hsv
     ·show Ss j (if j=i then v else vals j) w'
      rw[if_neg hji];rw[getD_set_ne false (fun e=>hji e.symm)]at hlj
      exact hst j hj _ _ _ (hv j hj hlj) hbw
   have hun:listed.getD i false=false:=getD_both hil;have hisz:i<listed.size:=by rw[inv.size];simp;omega
   by_cases hsi:Sp.contains i=true
   case neg =>
    have hsi':Sp.contains i=false:=by simpa using hsi
    have hq:=hstep'.1 hsi';have hne:∀ (k j:Nat),Sp[k]?=some j→j≠i:=fun k j hk e=>by
     subst e;have:Sp.contains j=true:=by simpa using List.mem_of_getElem? hk
     rw[hsi']at this;cases this
    have hstt:∀ w',R0 w w'→(∃ r,r≤Sp.length∧St r w'∧∀ (k j:Nat),Sp[k]?=some j→((listed.setIfInBounds i true).getD j false=true↔k<r)):=fun w' hw' =>
     ⟨r,hr1,h0S _ _ _ hr2 hw',fun k j hk=>by rw[getD_set_ne false (fun e=>hne k j hk e.symm)];exact hr3 k j hk⟩
    unfold wpOp;simp only[ho];unfold zCF at hq;split
    ·rename_i hw;rw[if_pos hw]at hq;refine .inl (zDg (Oper.wp_mono (fun a' w' ⟨v,e,hbw,hsv⟩=>?_) hq))
     subst e;exact hnext v w' (h0R _ _ hbw) hsv (hstt w' hbw)
    ·rename_i hw;rw[if_neg hw]at hq;exact hnext undef w (hrefl w) hq (hstt w (hrefl0 w))
   obtain⟨ri,hri⟩:=List.mem_iff_getElem?.1 (show i ∈ Sp by simpa using hsi)
   have hrr:r=ri:=by
    have h1:¬ ri<r:=fun h=>by have:=(hr3 ri i hri).2 h;rw[hun]at this;cases this
    rcases Nat.lt_or_ge r ri with h|h
    ·exfalso
     have hril:=(List.getElem?_eq_some_iff.1 hri).1;obtain⟨e,he,hbe⟩:=(zC9 hsp).2 (ri - 1) (Sp[ri - 1]'(by omega)) i o (List.getElem?_eq_getElem (by omega)) (by rw[show ri - 1+1=ri from by omega];exact hri) ho'
     have:=haft e he hbe.1;rw[hbe.2]at this;have:=(hr3 (ri - 1) (Sp[ri - 1]'(by omega)) (List.getElem?_eq_getElem (by omega))).1 this
     omega
    ·omega
   subst hrr;have hril:=(List.getElem?_eq_some_iff.1 hri).1;have hq:=hstep'.2 r hri hr2;have hinj:∀ k,Sp[k]?=some i→k=r:=fun k hk=>by
    rcases Nat.lt_trichotomy k r with h|h|h
    ·have:=(hr3 k i hk).2 h;rw[hun]at this;cases this
    ·exact h
    ·exact(zCn hsp k r i hk hri)
   have hstt:∀ w',St (r+1) w'→(∃ r,r≤Sp.length∧St r w'∧∀ (k j:Nat),Sp[k]?=some j→((listed.setIfInBounds i true).getD j false=true↔k<r)):=fun w' hw'=>by
    refine⟨r+1,hril,hw',fun k j hk=>?_⟩
    by_cases hji:j=i
    ·subst hji;have:=hinj k hk;subst this;simp[hisz]
    ·rw[getD_set_ne false (fun e=>hji e.symm),hr3 k j hk]
     have hkr:k≠r:=fun e=>by subst e;rw[hri]at hk;cases hk;exact hji rfl
     omega
   unfold wpOp;simp only[ho];unfold QStepX at hq;split
   ·rename_i hw;rw[if_pos hw]at hq;refine .inl (Oper.wp_mono (fun a' w' ⟨v,e,hbw,hsv,hss⟩=>?_) hq)
    subst e;exact hnext v w' hbw hsv (hstt w' hss)
   ·rename_i hw;rw[if_neg hw]at hq;exact hnext undef w (hrefl w) hq.1 (hstt w hq.2)
 refine wp_region_any hm ?_
 have h0:=key (List.range n) n (by simp) List.nodup_range (Array.replicate l.toArray.size false) a0 {w0 with drawn:=w0.drawn+1}
  ⟨by simp,fun j oj _ hl=>(by rw[getD_replicate_false]at hl;cases hl),fun t _ ht=>getD_in (by simpa using ht) (getD_replicate_false _ _)⟩
  (fun i=>by
   rw[List.mem_range];constructor
   ·intro h;exact⟨h,getD_in (by simp;omega) (getD_replicate_false _ _)⟩
   ·intro h;exact h.1)
  ⟨fun _=>undef,(zCo _ _ _ _ _ (fun i=>getD_replicate_false _ _)).symm,fun i _ h=>(by rw[getD_replicate_false]at h;cases h)⟩
  (hdrew w0) ⟨0,Nat.zero_le _,h0S _ _ _ hst0 (hdrew0 w0),fun k i _=>by rw[getD_replicate_false];simp⟩
 rw[show n+(l.toArray.size - n)=l.toArray.size from by omega]at h0
 exact h0
def OblS (P:Program) (Q:Exit→Act→World→Prop) (l hd:List Oper) (R0 R:World→World→Prop) (Sp:List Nat) (St:Nat→World→Prop) (L:List (Value→World→Prop)) (a0:Act) (w0:World):List Oper→Nat→Prop
 | [],_=>True
 | o::r,i=>(match Sp.idxOf? i with
   | none=>∀ a w,RCtxS hd (zAq L) R a0 w0 o a w→zCF P l.toArray R0 o a w (zAq L i)
   | some r=>∀ a w,RCtxS hd (zAq L) R a0 w0 o a w→St r w→QStepX P l.toArray R Q o a w (fun v w'=>zAq L i v w'∧St (r+1) w'))∧OblS P Q l hd R0 R Sp St L a0 w0 r (i+1)
theorem OblS.get {P:Program} {Q:Exit→Act→World→Prop} {l hd:List Oper} {R0 R:World→World→Prop} {Sp:List Nat} {St:Nat→World→Prop} {L:List (Value→World→Prop)} {a0:Act} {w0:World}:∀ (r:List Oper) (k:Nat),OblS P Q l hd R0 R Sp St L a0 w0 r k→∀ i o,r[i]?=some o →
  (match Sp.idxOf? (k+i) with
   | none=>∀ a w,RCtxS hd (zAq L) R a0 w0 o a w→zCF P l.toArray R0 o a w (zAq L (k+i))
   | some r=>∀ a w,RCtxS hd (zAq L) R a0 w0 o a w→St r w→QStepX P l.toArray R Q o a w (fun v w'=>zAq L (k+i) v w'∧St (r+1) w'))
 | [],_,_,_,_,h=>by simp at h
 | o::r,k,h,0,o',h'=>by simp at h';subst h';exact h.1
 | o::r,k,h,i+1,o',h'=>by
  have:=OblS.get r (k+1) h.2 i o' (by simpa using h')
  rwa [show k+1+i=k+(i+1) from by omega]at this
theorem zCY {P:Program} {id:Nat} {Q:Exit→Act→World→Prop} {a0:Act} {w0:World} {l:List Oper} (R0 R:World→World→Prop) (Sp:List Nat) (St:Nat→World→Prop) (h0R:∀ u v,R0 u v→R u v) (h0S:∀ r u v,St r u→R0 u v→St r v) (hdrew0:∀ w:World,R0 w {w with drawn:=w.drawn+1}) (hrefl0:∀ w,R0 w w)
  (htrans:∀ u v w,R u v→R v w→R u w) (n:Nat) (L:List (Value→World→Prop)) (hst:zDa R L) (hsp:zCl l n Sp=true) (hst0:St 0 w0)
  (hm:P.follows .mixedOrders=true) (hB:zGU l.toArray n=true) (hsz:(l.take n).all (fun o=>match o.dst with|some d=>decide (d<a0.tmps.size)|none=>true)=true)
  (hstep:OblS P Q l (l.take n) R0 R Sp St L a0 w0 (l.take n) 0)
  (hend:∀ vals w,R w0 w→(∀ i,i<n→zAq L i (vals i) w)→St Sp.length w→wpList P l.toArray Q (l.drop n) (zBI (l.take n) 0 vals a0) w) :
  (Code.region id l.toArray true).wp P Q a0 w0 :=
 zFY R0 R Sp St h0R h0S hdrew0 hrefl0 htrans (fun w=>h0R _ _ (hrefl0 w)) (fun w=>h0R _ _ (hdrew0 w)) n (zAq L) hsp hst0 hm hB hsz (fun i _ v w w' h hb=>zC7 L i hst v w w' h hb) (fun i o hi ho a w hc=>by
   have:=OblS.get (l.take n) 0 hstep i o (by rw[List.getElem?_take_of_lt hi];exact ho)
   rw[Nat.zero_add]at this;constructor
   ·intro hs;have hno:Sp.idxOf? i=none:=by
     rw[List.idxOf?_eq_none_iff];intro hm;have:Sp.contains i=true:=by simpa using hm
     rw[hs]at this;cases this
    rw[hno]at this;exact this a w hc
   ·intro r hr hSt;have hso:Sp.idxOf? i=some r:=by
     cases hx:Sp.idxOf? i with
     | none=>rw[List.idxOf?_eq_none_iff]at hx;exact absurd (List.mem_of_getElem? hr) hx
     | some r' =>
      have h1:Sp[r']?=some i:=by
       have:=List.idxOf?_eq_some_iff.1 hx;obtain⟨h1,h2,_⟩:=this;simp[h1,h2]
      rw[zCn hsp r' r i h1 hr]
    rw[hso]at this
    exact this a w hc hSt) hend
theorem RCtxS.d {l:List Oper} {Ss:Nat→Value→World→Prop} {R:World→World→Prop} {a0:Act} {w0:World} {o:Oper} {a:Act} {w:World} (h:RCtxS l Ss R a0 w0 o a w) (j d:Nat) (h1:o.after.toList.any (fun e=>Region.binds .any e&&e.on == j)=true:=by exact rfl) (h2:(l[j]?).bind (·.dst)=some d:=by exact rfl):Ss j (a.eval (.tmp d)) w:=h.dep j d h1 h2
theorem RCtxS.f {l:List Oper} {Ss:Nat→Value→World→Prop} {R:World→World→Prop} {a0:Act} {w0:World} {o:Oper} {a:Act} {w:World} (h:RCtxS l Ss R a0 w0 o a w) (t:Nat) (h1:l.any (fun o=>o.dst == some t)=false:=by exact rfl):a.eval (.tmp t)=a0.eval (.tmp t):=h.frame t h1
theorem zEX {m:Nat} {P:Program} {row:String} {args:Array Value} {w:World} {R:Value→World→Prop} (h:Rows P row args w R):RowsIn Fence.wide m P row args w R :=
 fun c cs _=>let ⟨v,w',r,s⟩:=h c cs;⟨v,w',r,stepsIn_wide.2 s⟩
theorem zE7 {m:Nat} {P:Program} {o:Oper} {a:Act} {w:World} {K:Act→World→Prop} {Q:Exit→Act→World→Prop} (h:o.wp P a w K Q):o.wpIn Fence.wide m P a w K Q:=by
 unfold Oper.wp at h;refine⟨fun _ _=>trivial,?_⟩
 rw[show o.semAt Fence.wide.round a.eval=execOp a.eval o from rfl]
 generalize (execOp a.eval o).run P w=r at *
 cases r with
 | ok x w' =>
  cases x<;>simp only[Oper.upon,Oper.uponIn]at h ⊢ <;>
   first
    | exact h
    | exact⟨fun h=>by simp[Fence.wide]at h,callsIn_wide.2 h⟩
    | exact⟨fun h=>by simp[Fence.wide]at h,zEX h⟩
    | exact h.elim
 | halt x w'=>cases x<;>simp only[Oper.upon,Oper.uponIn]at h ⊢<;>first|exact h|exact h.elim
def zFG (m:Nat) (P:Program) (ops:Array Oper) (R:World→World→Prop) (Q:Exit→Act→World→Prop) (o:Oper) (a:Act) (w:World) (s:Value→World→Prop):Prop :=
 if Region.wanted o (yielded ops a.tmps) then o.wpIn Fence.wide m P a w (fun a' w'=>∃ v,a'=a.put o.dst v∧R w w'∧s v w') Q else s undef w
theorem QStepX.toI {m:Nat} {P:Program} {ops:Array Oper} {R:World→World→Prop} {Q:Exit→Act→World→Prop} {o:Oper} {a:Act} {w:World} {s:Value→World→Prop} (h:QStepX P ops R Q o a w s):zFG m P ops R Q o a w s:=by
 unfold QStepX at h;unfold zFG;split
 ·rename_i hw;rw[if_pos hw]at h;exact zE7 h
 ·rename_i hw;rw[if_neg hw]at h;exact h
def depB (l:List Oper):Nat→Nat→Nat→Bool
 | 0,_,_=>false
 | f+1,i,j=>match l[j]? with
  | some o=>o.after.toList.any (fun e=>Region.binds .any e&&(e.on == i || depB l f i e.on))
  | none=>false
theorem zGL {l:List Oper} {listed:Array Bool} (hc:∀ j oj,l.toArray[j]?=some oj→listed.getD j false=true→∀ e ∈ oj.after,Region.binds .any e=true→listed.getD e.on false=true):∀ (f i j:Nat),depB l f i j=true→listed.getD j false=true→listed.getD i false=true
 | 0,_,_,h,_=>by cases h
 | f+1,i,j,h,hl=>by
  unfold depB at h
  cases ho:l[j]? with
  | none=>rw[ho]at h;cases h
  | some o =>
   rw[ho]at h;obtain⟨e,he,hb⟩:=List.any_eq_true.1 h;simp only[Bool.and_eq_true,Bool.or_eq_true,beq_iff_eq]at hb;have h1:=hc j o (by simpa using ho) hl e (Array.mem_toList_iff.1 he) hb.1
   rcases hb.2 with h2|h2
   ·rwa [h2]at h1
   ·exact zGL hc f i e.on h2 h1
theorem zEp {P:Program} {id:Nat} {Q:Exit→Act→World→Prop} {a0:Act} {w0:World} {l:List Oper} (R0 R:World→World→Prop) (Sp:List Nat) (St:Nat→World→Prop) (h0R:∀ u v,R0 u v→R u v) (h0S:∀ r u v,St r u→R0 u v→St r v) (hdrew0:∀ w:World,R0 w {w with drawn:=w.drawn+1}) (hrefl0:∀ w,R0 w w) (htrans:∀ u v w,R u v→R v w→R u w) (hrefl:∀ w,R w w) (hdrew:∀ w:World,R w {w with drawn:=w.drawn+1}) (m n:Nat) (hnn:n=l.length) (Ss:Nat→Value→World→Prop)
  (hsp:zCl l n Sp=true) (hst0:St 0 w0) (hm:P.follows .mixedOrders=true) (hB:zGU l.toArray n=true) (hsz:(l.take n).all (fun o=>match o.dst with|some d=>decide (d<a0.tmps.size)|none=>true)=true)
  (hst:∀ i,i<n→∀ v w w',Ss i v w→R w w'→Ss i v w')
  (hstep:∀ i o,i<n→l[i]?=some o→∀ a w,RCtxS (l.take n) Ss R a0 w0 o a w →
   (Sp.contains i=false→∀ r,St r w→(∀ (k j:Nat),Sp[k]?=some j→depB l l.length i j=true→r≤k)→zCF P l.toArray R0 o a w (Ss i))∧∀ r,Sp[r]?=some i→St r w→zFG m P l.toArray R Q o a w (fun v w'=>Ss i v w'∧St (r+1) w'))
  (hend:∀ vals w,R w0 w→(∀ i,i<n→Ss i (vals i) w)→St Sp.length w→Q .normal (zBI (l.take n) 0 vals a0) w) :
  (Code.region id l.toArray true).wpIn Fence.wide m P Q a0 w0:=by
 simp only[zGU,Bool.and_eq_true,decide_eq_true_eq]at hB;obtain⟨⟨⟨⟨hn,hd⟩,haf⟩,hsink⟩,hseq⟩:=hB;have hn':n≤l.length:=by simpa using hn
 have hspn:∀ (k i:Nat),Sp[k]?=some i→i<n:=fun k i hk=>(zC9 hsp).1 k i hk
 have hd':zCd (l.take n)=true:=hd;have htl:(l.take n).length=n:=by simp;omega
 have key:∀ (rem:List Nat) (f:Nat),rem.length=f→rem.Nodup→∀ (listed:Array Bool) (a:Act) (w:World),HeadInv .any l.toArray n listed →
   (∀ i,i ∈ rem↔(i<n∧listed.getD i true=false))→(∃ vals,a=fill (l.take n) 0 listed vals a0∧(∀ i,i<n→listed.getD i false=true→Ss i (vals i) w))→R w0 w→(∃ r,r≤Sp.length∧St r w∧∀ (k i:Nat),Sp[k]?=some i→(listed.getD i false=true↔k<r)) →
   wpAnyIn Fence.wide m P .any l.toArray Q (f+(l.toArray.size - n)) listed a w:=by
  intro rem f
  induction f generalizing rem with
  | zero =>
   intro hl _ listed a w inv hrem ⟨vals,ha,hv⟩ hb ⟨r,hr1,hr2,hr3⟩;have hr:rem=[]:=List.length_eq_zero_iff.1 hl;subst hr;have hall:∀ i,i<n→listed.getD i false=true:=by
    intro i hi;have h1:¬ listed.getD i true=false:=fun h=>by have:=(hrem i).2 ⟨hi,h⟩;simp at this
    have h2:i<listed.size:=by rw[inv.size];omega
    rw[Array.getD_eq_getD_getElem?,Array.getElem?_eq_getElem h2]at h1 ⊢
    simpa using h1
   have hlist:=zCk hn inv hall;have hrl:r=Sp.length:=by
    rcases Nat.lt_or_ge r Sp.length with h|h
    ·have:=(hr3 r Sp[r] (by simp[h])).1 (hall _ (hspn r Sp[r] (by simp[h])))
     omega
    ·omega
   subst hrl;have hw:=hend vals w hb (fun i hi=>hv i hi (hall i hi)) hr2
   rw[← zDP (l.take n) 0 listed vals a0 (fun i hi=>by rw[Nat.zero_add];exact hall i (by omega)),← ha]at hw
   have hz:0+(l.toArray.size - n)=0:=by simp;omega
   rw[hz];refine⟨?_,hw⟩;have hz2:l.toArray.size - n=0:=by omega
   rw[hz2]at hseq;rw[hlist,hz2]
   simpa [Region.seqB] using hseq
  | succ f ih =>
   intro hl hnd listed a w inv hrem ⟨vals,ha,hv⟩ hb ⟨r,hr1,hr2,hr3⟩;have hex:∃ i,i ∈ rem∧∀ j,j ∈ rem→i≤j:=by
    have:∀ (r:List Nat),r≠[]→∃ i,i ∈ r∧∀ j,j ∈ r→i≤j:=by
     intro r
     induction r with
     | nil=>intro h;exact(h rfl).elim
     | cons x r ihr =>
      intro _
      by_cases hr:r=[]
      ·subst hr;exact⟨x,by simp,by simp⟩
      ·obtain⟨i,hi,hmin⟩:=ihr hr
       by_cases hx:x≤i
       ·exact⟨x,by simp,fun j hj=>by rcases List.mem_cons.1 hj with rfl|hj;exact Nat.le_refl _;exact Nat.le_trans hx (hmin j hj)⟩
       ·exact⟨i,by simp[hi],fun j hj=>by rcases List.mem_cons.1 hj with rfl|hj;omega;exact hmin j hj⟩
    exact this rem (by intro h;subst h;simp at hl)
   have hready:Region.ready .any l.toArray listed≠[]:=by
    obtain⟨i,hi,hmin⟩:=hex;obtain⟨hin,hil⟩:=(hrem i).1 hi;have hlt:i<l.length:=by omega
    have hmem:i ∈ Region.ready .any l.toArray listed:=by
     refine mem_ready.2 ⟨hil,l[i],by simp[hlt],fun e he hbd=>?_⟩
     have h1:=List.all_eq_true.1 haf (l[i],i) (by
      rw[List.mem_zipIdx_iff_getElem?];simp[hin,hlt])
     have h2:=Array.all_eq_true'.1 h1 e he;simp[hbd]at h2;have hj:¬ e.on ∈ rem:=fun h=>by have:=hmin _ h;omega
     have h3:¬ listed.getD e.on true=false:=fun h=>hj ((hrem _).2 ⟨by omega,h⟩)
     have h4:e.on<listed.size:=by rw[inv.size];simp;omega
     rw[Array.getD_eq_getD_getElem?,Array.getElem?_eq_getElem h4]at h3 ⊢
     simpa using h3
    intro h;rw[h]at hmem;simp at hmem
   rw[show f+1+(l.toArray.size - n)=(f+(l.toArray.size - n))+1 from by omega]
   refine⟨fun h=>(hready h).elim,fun i hi=>?_⟩
   obtain⟨hil,o,ho,haft⟩:=mem_ready.1 hi;have hin:i<n:=by
    rcases Nat.lt_or_ge i n with h|h
    ·exact h
    ·exfalso
     obtain⟨i',hi',_⟩:=hex;obtain⟨hin',hil'⟩:=(hrem i').1 hi';have hisz:i<l.toArray.size:=(Array.getElem?_eq_some_iff.1 ho).1;simp only[Bool.or_eq_true,decide_eq_true_eq,Bool.and_eq_true]at hsink;rcases hsink with h0|⟨hs,hc⟩
     ·omega
     ·exact tail_waits hs hc (by omega) inv (n - i') i' rfl hin' hil' i h hi
   have ho':l[i]?=some o:=by simpa using ho
   have hot:(l.take n)[i]?=some o:=by rw[List.getElem?_take_of_lt hin];exact ho'
   obtain⟨d,hod⟩:∃ d,o.dst=some d:=by
    have:∀ (r:List Oper) (j:Nat),zCd r=true→r[j]?=some o→∃ d,o.dst=some d:=by
     intro r
     induction r with
     | nil=>intro j _ h;simp at h
     | cons x r ihr =>
      intro j hdd h;simp only[zCd,Bool.and_eq_true]at hdd
      cases j with
      | zero=>simp at h;subst h;exact Option.isSome_iff_exists.1 hdd.1.1
      | succ j=>exact ihr j hdd.2 (by simpa using h)
    exact this _ i hd' hot
   have hbd:∀ (j:Nat) (oj:Oper) (dj:Tmp),(l.take n)[j]?=some oj→oj.dst=some dj→dj<a0.tmps.size:=by
    intro j oj dj hj hdj;have:=List.all_eq_true.1 hsz oj (List.mem_of_getElem? hj)
    simpa [hdj] using this
   have hctx:RCtxS (l.take n) Ss R a0 w0 o a w:=by
    refine⟨hb,fun t ht=>by rw[ha];exact zBm _ _ _ _ _ t ht,fun j dj hj hdj=>?_,by rw[ha,zEZ]⟩
    obtain⟨e,he,hbe⟩:=List.any_eq_true.1 hj;simp only[Bool.and_eq_true,beq_iff_eq]at hbe;have hlj:=haft e (Array.mem_toList_iff.1 he) hbe.1;rw[hbe.2]at hlj;obtain⟨oj,hoj,hdj'⟩:=Option.bind_eq_some_iff.1 hdj;have hjn:j<n:=by have:=(List.getElem?_eq_some_iff.1 hoj).1;omega
    rw[ha,zEe _ 0 listed vals a0 j oj dj hd' hoj hdj' (hbd j oj dj hoj hdj') (by rw[Nat.zero_add];exact hlj),Nat.zero_add]
    exact hv j hjn hlj
   have hstep':=hstep i o hin ho' a w hctx;have hnext:∀ v w',R w w'→Ss i v w'→(∃ r,r≤Sp.length∧St r w'∧∀ (k j:Nat),Sp[k]?=some j→((listed.setIfInBounds i true).getD j false=true↔k<r))→wpAnyIn Fence.wide m P .any l.toArray Q (f+(l.toArray.size - n)) (listed.setIfInBounds i true) (a.put o.dst v) w':=by
    intro v w' hbw hsv hstt;have hmemi:i ∈ rem:=(hrem i).2 ⟨hin,hil⟩;refine ih (rem.erase i) (by rw[List.length_erase_of_mem hmemi,hl];rfl) (hnd.erase i) _ _ w' (inv.set hi hin) (fun j=>?_) ⟨fun j=>if j=i then v else vals j,?_,fun j hj hlj=>?_⟩ (htrans _ _ _ hb hbw) hstt
    ·rw[hnd.mem_erase_iff,hrem j]
     by_cases hji:j=i
     ·subst hji;have hjs:j<listed.size:=by rw[inv.size];simp;omega
      simp[hjs]
     ·rw[getD_set_ne true (fun e=>hji e.symm)]
      simp[hji]
    ·have:=zDh (l.take n) 0 i listed vals a0 o d v hd' hot hod (by rw[Nat.zero_add];exact hil)
     rw[Nat.zero_add]at this;rw[this,← ha,hod]
    ·by_cases hji:j=i
     ·subst hji;simpa using hsv
     ·show Ss j (if j=i then v else vals j) w'
      rw[if_neg hji];rw[getD_set_ne false (fun e=>hji e.symm)]at hlj
      exact hst j hj _ _ _ (hv j hj hlj) hbw
   have hun:listed.getD i false=false:=getD_both hil;have hisz:i<listed.size:=by rw[inv.size];simp;omega
   by_cases hsi:Sp.contains i=true
   case neg =>
    have hsi':Sp.contains i=false:=by simpa using hsi
    have hq:=hstep'.1 hsi' r hr2 (fun k j hk hdj=>by
     rcases Nat.lt_or_ge k r with h|h
     ·exfalso
      have h1:=(hr3 k j hk).2 h;have h2:=zGL inv.closed l.length i j hdj h1;rw[hun]at h2;cases h2
     ·exact h)
    have hne:∀ (k j:Nat),Sp[k]?=some j→j≠i:=fun k j hk e=>by
     subst e;have:Sp.contains j=true:=by simpa using List.mem_of_getElem? hk
     rw[hsi']at this;cases this
    have hstt:∀ w',R0 w w'→(∃ r,r≤Sp.length∧St r w'∧∀ (k j:Nat),Sp[k]?=some j→((listed.setIfInBounds i true).getD j false=true↔k<r)):=fun w' hw' =>
     ⟨r,hr1,h0S _ _ _ hr2 hw',fun k j hk=>by rw[getD_set_ne false (fun e=>hne k j hk e.symm)];exact hr3 k j hk⟩
    unfold wpOpIn;simp only[ho];unfold zCF at hq;split
    ·rename_i hw;rw[if_pos hw]at hq;refine zE7 (zDg (Oper.wp_mono (fun a' w' ⟨v,e,hbw,hsv⟩=>?_) hq))
     subst e;exact hnext v w' (h0R _ _ hbw) hsv (hstt w' hbw)
    ·rename_i hw;rw[if_neg hw]at hq;exact⟨fun _ _=>trivial,hnext undef w (hrefl w) hq (hstt w (hrefl0 w))⟩
   obtain⟨ri,hri⟩:=List.mem_iff_getElem?.1 (show i ∈ Sp by simpa using hsi)
   have hrr:r=ri:=by
    have h1:¬ ri<r:=fun h=>by have:=(hr3 ri i hri).2 h;rw[hun]at this;cases this
    rcases Nat.lt_or_ge r ri with h|h
    ·exfalso
     have hril:=(List.getElem?_eq_some_iff.1 hri).1;obtain⟨e,he,hbe⟩:=(zC9 hsp).2 (ri - 1) (Sp[ri - 1]'(by omega)) i o (List.getElem?_eq_getElem (by omega)) (by rw[show ri - 1+1=ri from by omega];exact hri) ho'
     have:=haft e he hbe.1;rw[hbe.2]at this;have:=(hr3 (ri - 1) (Sp[ri - 1]'(by omega)) (List.getElem?_eq_getElem (by omega))).1 this
     omega
    ·omega
   subst hrr;have hril:=(List.getElem?_eq_some_iff.1 hri).1;have hq:=hstep'.2 r hri hr2;have hinj:∀ k,Sp[k]?=some i→k=r:=fun k hk=>by
    rcases Nat.lt_trichotomy k r with h|h|h
    ·have:=(hr3 k i hk).2 h;rw[hun]at this;cases this
    ·exact h
    ·exact(zCn hsp k r i hk hri)
   have hstt:∀ w',St (r+1) w'→(∃ r,r≤Sp.length∧St r w'∧∀ (k j:Nat),Sp[k]?=some j→((listed.setIfInBounds i true).getD j false=true↔k<r)):=fun w' hw'=>by
    refine⟨r+1,hril,hw',fun k j hk=>?_⟩
    by_cases hji:j=i
    ·subst hji;have:=hinj k hk;subst this;simp[hisz]
    ·rw[getD_set_ne false (fun e=>hji e.symm),hr3 k j hk]
     have hkr:k≠r:=fun e=>by subst e;rw[hri]at hk;cases hk;exact hji rfl
     omega
   unfold wpOpIn;simp only[ho];unfold zFG at hq;split
   ·rename_i hw;rw[if_pos hw]at hq;refine Oper.wpIn_mono (fun a' w' ⟨v,e,hbw,hsv,hss⟩=>?_) hq
    subst e;exact hnext v w' hbw hsv (hstt w' hss)
   ·rename_i hw;rw[if_neg hw]at hq;exact⟨fun _ _=>trivial,hnext undef w (hrefl w) hq.1 (hstt w hq.2)⟩
 refine wpIn_region_any hm ?_
 have h0:=key (List.range n) n (by simp) List.nodup_range (Array.replicate l.toArray.size false) a0 {w0 with drawn:=w0.drawn+1}
  ⟨by simp,fun j oj _ hl=>(by rw[getD_replicate_false]at hl;cases hl),fun t _ ht=>getD_in (by simpa using ht) (getD_replicate_false _ _)⟩
  (fun i=>by
   rw[List.mem_range];constructor
   ·intro h;exact⟨h,getD_in (by simp;omega) (getD_replicate_false _ _)⟩
   ·intro h;exact h.1)
  ⟨fun _=>undef,(zCo _ _ _ _ _ (fun i=>getD_replicate_false _ _)).symm,fun i _ h=>(by rw[getD_replicate_false]at h;cases h)⟩
  (hdrew w0) ⟨0,Nat.zero_le _,h0S _ _ _ hst0 (hdrew0 w0),fun k i _=>by rw[getD_replicate_false];simp⟩
 rw[show n+(l.toArray.size - n)=l.toArray.size from by omega]at h0
 exact h0
def OblI (m:Nat) (P:Program) (Q:Exit→Act→World→Prop) (l hd:List Oper) (R0 R:World→World→Prop) (Sp:List Nat) (St:Nat→World→Prop) (L:List (Value→World→Prop)) (a0:Act) (w0:World):List Oper→Nat→Prop
 | [],_=>True
 | o::r,i=>(match Sp.idxOf? i with
   | none=>∀ a w,RCtxS hd (zAq L) R a0 w0 o a w→∀ r,St r w→(∀ (k j:Nat),Sp[k]?=some j→depB l l.length i j=true→r≤k)→zCF P l.toArray R0 o a w (zAq L i)
   | some r=>∀ a w,RCtxS hd (zAq L) R a0 w0 o a w→St r w→zFG m P l.toArray R Q o a w (fun v w'=>zAq L i v w'∧St (r+1) w'))∧OblI m P Q l hd R0 R Sp St L a0 w0 r (i+1)
theorem OblI.get {m:Nat} {P:Program} {Q:Exit→Act→World→Prop} {l hd:List Oper} {R0 R:World→World→Prop} {Sp:List Nat} {St:Nat→World→Prop} {L:List (Value→World→Prop)} {a0:Act} {w0:World}:∀ (r:List Oper) (k:Nat),OblI m P Q l hd R0 R Sp St L a0 w0 r k→∀ i o,r[i]?=some o →
  (match Sp.idxOf? (k+i) with
   | none=>∀ a w,RCtxS hd (zAq L) R a0 w0 o a w→∀ r,St r w→(∀ (q j:Nat),Sp[q]?=some j→depB l l.length (k+i) j=true→r≤q)→zCF P l.toArray R0 o a w (zAq L (k+i))
   | some r=>∀ a w,RCtxS hd (zAq L) R a0 w0 o a w→St r w→zFG m P l.toArray R Q o a w (fun v w'=>zAq L (k+i) v w'∧St (r+1) w'))
 | [],_,_,_,_,h=>by simp at h
 | o::r,k,h,0,o',h'=>by simp at h';subst h';exact h.1
 | o::r,k,h,i+1,o',h'=>by
  have:=OblI.get r (k+1) h.2 i o' (by simpa using h')
  rwa [show k+1+i=k+(i+1) from by omega]at this
theorem zCj {P:Program} {id:Nat} {Q:Exit→Act→World→Prop} {a0:Act} {w0:World} {l:List Oper} (R0 R:World→World→Prop) (Sp:List Nat) (St:Nat→World→Prop) (h0R:∀ u v,R0 u v→R u v) (h0S:∀ r u v,St r u→R0 u v→St r v) (hdrew0:∀ w:World,R0 w {w with drawn:=w.drawn+1}) (hrefl0:∀ w,R0 w w)
  (htrans:∀ u v w,R u v→R v w→R u w) (m n:Nat) (hnn:n=l.length) (L:List (Value→World→Prop)) (hst:zDa R L) (hsp:zCl l n Sp=true) (hst0:St 0 w0)
  (hm:P.follows .mixedOrders=true) (hB:zGU l.toArray n=true) (hsz:(l.take n).all (fun o=>match o.dst with|some d=>decide (d<a0.tmps.size)|none=>true)=true)
  (hstep:OblI m P Q l (l.take n) R0 R Sp St L a0 w0 (l.take n) 0)
  (hend:∀ vals w,R w0 w→(∀ i,i<n→zAq L i (vals i) w)→St Sp.length w→Q .normal (zBI (l.take n) 0 vals a0) w) :
  (Code.region id l.toArray true).wpIn Fence.wide m P Q a0 w0 :=
 zEp R0 R Sp St h0R h0S hdrew0 hrefl0 htrans (fun w=>h0R _ _ (hrefl0 w)) (fun w=>h0R _ _ (hdrew0 w)) m n hnn (zAq L) hsp hst0 hm hB hsz (fun i _ v w w' h hb=>zC7 L i hst v w w' h hb) (fun i o hi ho a w hc=>by
   have:=OblI.get (l.take n) 0 hstep i o (by rw[List.getElem?_take_of_lt hi];exact ho)
   rw[Nat.zero_add]at this;constructor
   ·intro hs;have hno:Sp.idxOf? i=none:=by
     rw[List.idxOf?_eq_none_iff];intro hm;have:Sp.contains i=true:=by simpa using hm
     rw[hs]at this;cases this
    rw[hno]at this;exact this a w hc
   ·intro r hr hSt;have hso:Sp.idxOf? i=some r:=by
     cases hx:Sp.idxOf? i with
     | none=>rw[List.idxOf?_eq_none_iff]at hx;exact absurd (List.mem_of_getElem? hr) hx
     | some r' =>
      have h1:Sp[r']?=some i:=by
       have:=List.idxOf?_eq_some_iff.1 hx;obtain⟨h1,h2,_⟩:=this;simp[h1,h2]
      rw[zCn hsp r' r i h1 hr]
    rw[hso]at this
    exact this a w hc hSt) hend
def Stay (B:Nat) (I:World→Prop):Prop:=∀ W W' row,I W→W.grownBy W' row→(∀ r,row=some r→B≤r∧∃ o:Obj,W.heap[r]?=some o∧o.isCells=false)→I W'
theorem Stay.putObj {B:Nat} {I:World→Prop} (h:Stay B I) {W:World} {l:Nat} {o:Obj} (o':Obj) (hs:I W) (hB:B≤l) (hl:W.heap[l]?=some o) (ho:o.isCells=false):I (W.putObj l o') :=
 h W _ (some l) hs (grownBy_putObj' W l o') (fun r e=>by cases e;exact⟨hB,o,hl,ho⟩)
theorem Stay.alloc {B:Nat} {I:World→Prop} (h:Stay B I) {W:World} (o:Obj) (hs:I W):I (W.alloc o) :=
 h W _ none hs (World.grownBy_alloc W o none) (fun r e=>by cases e)
variable {F:Fence} {n:Nat} {P:Program}
def zL5 (B:Nat) (Y:World→Prop) (W:World):Exit→Act→World→Prop
 | .normal,_,W'=>KeepsFrom B W W'∧Y W'
 | _,_,_=>False
theorem zEU {σ α:Type} {g:Operand} {ps:Array Tmp} {assign body:Code} {Q:Exit→Act→World→Prop} {a:Act} {w:World}
  (hro:F.round=none) (h1:1≤n) {gf:Nat} {lb:Array Value} (hg:a.eval g=.func (.func gf) #[] lb) (hFg:F.fn gf) (eg:∀ args w,(callFunc gf args).run P w=.ok (.enter gf args) w)
  {encs:α→Array Value} (hps:∀ x,(encs x).size=ps.size)
  (I0 S:World→Prop) (Pn:List PanicEntry→World→Prop) (Yp Yq:σ→α→World→Prop) (Ya:σ→α→Act→World→Prop)
  (st0:Stay w.heap.size I0) (stS:Stay w.heap.size S) (stP:∀ ch,Stay w.heap.size (Pn ch)) (stYq:∀ s x,Stay w.heap.size (Yq s x)) (stYa:∀ s x a,Stay w.heap.size (Ya s x a))
  (hiter:∀ (l:Nat) (B:World→Prop),(∀ W W',KeepsFrom w.heap.size W W'→B W→B W') →
   (∀ s x W1,Yp s x W1→B W1→YieldAt F (n - 1 - 1) P l (encs x) W1 fun e W'=>e=.returned (.bool true)∧Yq s x W'∧B W') →
   ∀ W,I0 W→B W→CallsIn F (n - 1) P gf (#[.func (.yield l) #[] #[]]++lb) W fun e W'=>B W'∧((∃ v,e=.returned v∧S W')∨∃ ch,e=.panicked ch∧Pn ch W'))
  (h0:I0 w)
  (hassign:∀ (l:Nat) (s:σ) (x:α) (W:World),Yp s x W →
   assign.wpIn (F.inRound l) (n - 1 - 1) P (Exit.then (fun a1 W1=>KeepsFrom w.heap.size W W1∧Ya s x a1 W1) (fun _ _ _=>False)) {tmps:=(ps.zip (encs x)).foldl (fun t (p,v)=>t.setIfInBounds p v) a.tmps,defers:=[]} W)
  (hbody:∀ (l:Nat) (s:σ) (x:α) (a1:Act) (W:World),Ya s x a1 W→body.wpIn (F.inRound l) (n - 1 - 1) P (zL5 w.heap.size (Yq s x) W) a1 W)
  (hdone:∀ (D:Nat) (W:World),w.heap.size≤D→S W→W.heap[D]?=some (.deferred (some []))→Q .normal {a with defers:={target:=.collected D,args:=#[]}::a.defers} W)
  (hpan:∀ (D:Nat) (ch:List PanicEntry) (W:World),w.heap.size≤D→Pn ch W→W.heap[D]?=some (.deferred (some []))→Q (.panic ch) {a with defers:={target:=.collected D,args:=#[]}::a.defers} W) :
  (Code.rangeFunc g ps assign body).wpIn F n P Q a w:=by
 refine wpIn_rangeFunc ?_
 intro fn hfn;rw[hro];obtain⟨rec,hrec⟩:∃ rec:LoopState→Option Code→Loop,rec=fun st pe=>{state:=st,pending:=pe,fn,tmps:=a.tmps,params:=ps,assign,body,defers:=w.heap.size}:=⟨_,rfl⟩
 obtain⟨W1,hW1⟩:∃ W1,(w.alloc (.deferred (some []))).alloc (.loop (rec .ready none))=W1:=⟨_,rfl⟩;have hL1:W1.heap[w.heap.size+1]?=some (.loop (rec .ready none)):=by
  rw[← hW1];have:=World.alloc_heap_new (w.alloc (.deferred (some []))) (.loop (rec .ready none));rwa [World.size_alloc]at this
 have hK1:W1.heap[w.heap.size]?=some (.deferred (some [])):=by
  rw[← hW1];exact(Below.heap_alloc _ _ _ (by simp)).trans (World.alloc_heap_new w _)
 have hI1:I0 W1:=by rw[← hW1];exact st0.alloc _ (st0.alloc _ h0)
 refine⟨w.heap.size+1,[{target:=.collected w.heap.size,args:=#[]}],W1,{target:=.fn (.func gf) lb,args:=#[.func (.yield (w.heap.size+1)) #[] #[]]},W1,gf,
  #[.func (.yield (w.heap.size+1)) #[] #[]]++lb,W1,?_,?_,?_,?_,fun _=>h1,?_⟩
 ·rw[← hW1,hrec];exact run_enterLoop_outer _ _ _ _ _
 ·simp only[resolve,hg];simp[go_sem]
 ·intro f' hf';simp[Target.leads]at hf';subst hf';exact hFg
 ·simp[invoke,go_sem,eg]
 ·refine(hiter (w.heap.size+1) (fun W=>W.heap[w.heap.size+1]?=some (.loop (rec .ready none))∧W.heap[w.heap.size]?=some (.deferred (some [])))
   (fun W W' hk hB=>⟨hk.same _ _ (by omega) hB.1 rfl,hk.same _ _ (Nat.le_refl _) hB.2 rfl⟩) ?_ W1 hI1 ⟨hL1,hK1⟩).mono ?_
  ·rintro s x W hy ⟨hl,hk⟩;have hlt:w.heap.size+1<W.heap.size:=(Array.getElem?_eq_some_iff.1 hl).1;have hyr:=run_yield (P:=P) (args:=encs x) hl (by rw[hrec];exact hps x)
   rw[hrec]at hyr;refine⟨fn,_,assign,body,hyr,roundIn_of_wpIn hfn (wpIn_mono (hassign (w.heap.size+1) s x W hy) ?_)⟩;rintro e a1 Wa hp
   cases e with
   | normal =>
    obtain⟨hka,hya⟩:=hp;have hla:=hka.same _ _ (by omega) hl rfl
    have hda:=hka.same _ _ (Nat.le_refl _) hk rfl;refine⟨_,run_beginRound hla (by rw[hrec]),?_⟩
    have hlt2:w.heap.size+1<Wa.heap.size:=(Array.getElem?_eq_some_iff.1 hla).1;have hl2:(Wa.putObj (w.heap.size+1) (.loop {rec .ready none with state:=.busy})).heap[w.heap.size+1]?=some (.loop {rec .ready none with state:=.busy}):=World.putObj_heap_same hlt2
    have hk2:(Wa.putObj (w.heap.size+1) (.loop {rec .ready none with state:=.busy})).heap[w.heap.size]?=some (.deferred (some [])):=(World.putObj_heap_other (by omega)).trans hda
    refine wpIn_mono (hbody _ s x a1 _ ((stYa s x a1).putObj _ hya (by omega) hla rfl)) ?_
    rintro e a3 W3 hp
    cases e with
    | normal =>
     obtain⟨hk3,hq3⟩:=hp;have hl3:=hk3.same _ _ (by omega) hl2 rfl
     have hd3:=hk3.same _ _ (Nat.le_refl _) hk2 rfl;have hre:=run_endRound (P:=P) none hl3;rw[hrec]at hre;refine⟨_,_,hre,rfl,(stYq s x).putObj _ hq3 (by omega) hl3 rfl,?_,(World.putObj_heap_other (by omega)).trans hd3⟩
     rw[World.putObj_heap_same (Array.getElem?_eq_some_iff.1 hl3).1,hrec];rfl
    | ret=>exact hp.elim
    | exit id=>exact hp.elim
    | goto t=>exact hp.elim
    | panic ch=>exact hp.elim
    | outgrown=>exact hp.elim
   | ret=>exact hp.elim
   | exit id=>exact hp.elim
   | goto t=>exact hp.elim
   | panic ch=>exact hp.elim
   | outgrown=>exact hp.elim
  ·rintro e W2 ⟨⟨hl,hk⟩,(⟨v,rfl,hS⟩|⟨ch,rfl,hP⟩)⟩
   ·exact⟨none,_,by have:=run_endLoop (P:=P) hl (by rw[hrec];simp);rw[hrec]at this;exact this,hdone _ _ (Nat.le_refl _) (stS.putObj _ hS (by omega) hl rfl) ((World.putObj_heap_other (by omega)).trans hk)⟩
   ·exact hpan _ ch _ (Nat.le_refl _) hP hk
def zHg (l:List Oper):Bool:=l.all (fun o=>match o.op with|.defer _=>false|_=>true)
theorem zIH {k l:Nat} {P:Program} {o:Oper} {a:Act} {w:World} {K:Act→World→Prop} {Q:Exit→Act→World→Prop} (hd:∀ c,o.op≠.defer c) (h:o.wp P a w K Q):o.wpIn (Fence.wide.inRound l) k P a w K Q:=by
 unfold Oper.wp at h;refine⟨fun _ _=>trivial,?_⟩
 rw[show o.semAt (Fence.wide.inRound l).round a.eval=execOp a.eval o from Oper.semAt_some l a.eval o hd]
 generalize (execOp a.eval o).run P w=r at *
 cases r with
 | ok x w' =>
  cases x<;>simp only[Oper.upon,Oper.uponIn]at h ⊢ <;>
   first
    | exact h
    | exact⟨fun h=>by simp[Fence.wide,Fence.inRound]at h,CallsIn.inRound l (callsIn_wide.2 h)⟩
    | exact⟨fun h=>by simp[Fence.wide,Fence.inRound]at h,zEX (m:=k - 1) h⟩
    | exact h.elim
 | halt x w'=>cases x<;>simp only[Oper.upon,Oper.uponIn]at h ⊢<;>first|exact h|exact h.elim
theorem zCU {k l:Nat} {P:Program} {ops:Array Oper} {Q:Exit→Act→World→Prop} (hQ:¬ LetsOut Q):∀ (r:List Oper) (a:Act) (w:World),zHg r=true→wpList P ops Q r a w→wpListIn (Fence.wide.inRound l) k P ops Q r a w
 | [],_,_,_,h=>h
 | o::r,a,w,hc,h=>by
  simp only[zHg,List.all_cons,Bool.and_eq_true]at hc;have ih:=zCU (k:=k) (l:=l) (P:=P) (ops:=ops) (Q:=Q) hQ r;unfold wpList at h;unfold wpListIn;split at h
  ·rename_i hw;rw[if_pos hw];exact zIH (fun c e=>by rw[e]at hc;simp at hc) (Oper.wp_mono (fun a' w' h'=>ih a' w' (by simpa [zHg] using hc.2) h') (h.resolve_right (fun h=>hQ h.2)))
  ·rename_i hw;rw[if_neg hw];exact⟨fun _ _=>trivial,ih _ _ (by simpa [zHg] using hc.2) h⟩

def zNL (ops:Array Oper) (n:Nat):Bool :=
 decide (n≤ops.size)&&zCd (ops.toList.take n) &&
 ((ops.toList.take n).zipIdx.all fun (o,i)=>o.after.all fun e=>!Region.binds .any e || decide (e.on<i)) &&
 (ops.toList.zipIdx.all fun (o,i)=>decide (i<n) || (o.after.toList.any fun e=>Region.binds .any e&&decide (n≤e.on)&&decide (e.on<i)) || (List.range n).all fun j=>o.after.toList.any fun e=>Region.binds .any e&&e.on == j)
theorem zIj {P:Program} {Q:Exit→Act→World→Prop} {a0:Act} {w0:World} {l:List Oper} (n:Nat) (Ss:Nat→Value→World→Prop) (D:Nat→Bool)
  (hB:zNL l.toArray n=true) (hsz:(l.take n).all (fun o=>match o.dst with|some d=>decide (d<a0.tmps.size)|none=>true)=true)
  (hst:∀ i,i<n→∀ v w w',Ss i v w→Below w.heap.size w w'→Ss i v w')
  (hlt:∀ i,i<n→D i=true→∀ v w,Ss i v w→blk v<w.heap.size)
  (hstep:∀ i o,i<n→l[i]?=some o→∀ a w,RCtx (l.take n) Ss a0 w0 o a w→zBK P l.toArray o a w (fun v w'=>Ss i v w'∧(D i=true→w.heap.size≤blk v)))
  (hend:∀ vals w,Below w0.heap.size w0 w→(∀ i,i<n→Ss i (vals i) w)→(∀ i j,i<n→j<n→i≠j→D i=true→D j=true→blk (vals i)≠blk (vals j))→wpAny P .any l.toArray Q (l.toArray.size - n) (zAw n (l.toArray.size - n)) (zBI (l.take n) 0 vals a0) w) :
  wpAny P .any l.toArray Q l.toArray.size (Array.replicate l.toArray.size false) a0 {w0 with drawn:=w0.drawn+1}:=by
 simp only[zNL,Bool.and_eq_true,decide_eq_true_eq]at hB;obtain⟨⟨⟨hn,hd⟩,haf⟩,htail⟩:=hB;have hn':n≤l.length:=by simpa using hn
 have hd':zCd (l.take n)=true:=hd;have htl:(l.take n).length=n:=by simp;omega
 have key:∀ (rem:List Nat) (f:Nat),rem.length=f→rem.Nodup→∀ (listed:Array Bool) (a:Act) (w:World),HeadInv .any l.toArray n listed →
   (∀ i,i ∈ rem↔(i<n∧listed.getD i true=false))→(∃ vals,a=fill (l.take n) 0 listed vals a0∧(∀ i,i<n→listed.getD i false=true→Ss i (vals i) w)∧∀ i j,i<n→j<n→i≠j→listed.getD i false=true→listed.getD j false=true→D i=true→D j=true→blk (vals i)≠blk (vals j))→Below w0.heap.size w0 w →
   wpAny P .any l.toArray Q (f+(l.toArray.size - n)) listed a w:=by
  intro rem f
  induction f generalizing rem with
  | zero =>
   intro hl _ listed a w inv hrem ⟨vals,ha,hv,hp⟩ hb;have hr:rem=[]:=List.length_eq_zero_iff.1 hl;subst hr;have hall:∀ i,i<n→listed.getD i false=true:=by
    intro i hi;have h1:¬ listed.getD i true=false:=fun h=>by have:=(hrem i).2 ⟨hi,h⟩;simp at this
    have h2:i<listed.size:=by rw[inv.size];omega
    rw[Array.getD_eq_getD_getElem?,Array.getElem?_eq_getElem h2]at h1 ⊢
    simpa using h1
   have hlist:=zCk hn inv hall;have hw:=hend vals w hb (fun i hi=>hv i hi (hall i hi)) (fun i j hi hj hij=>hp i j hi hj hij (hall i hi) (hall j hj))
   have hfa:=zDP (l.take n) 0 listed vals a0 (fun i hi=>by rw[Nat.zero_add];exact hall i (by omega))
   rw[← hfa,← ha]at hw;rw[Nat.zero_add];rw[← hlist]at hw;exact hw
  | succ f ih =>
   intro hl hnd listed a w inv hrem ⟨vals,ha,hv,hp⟩ hb;have hex:∃ i,i ∈ rem∧∀ j,j ∈ rem→i≤j:=by
    have:∀ (r:List Nat),r≠[]→∃ i,i ∈ r∧∀ j,j ∈ r→i≤j:=by
     intro r
     induction r with
     | nil=>intro h;exact(h rfl).elim
     | cons x r ihr =>
      intro _
      by_cases hr:r=[]
      ·subst hr;exact⟨x,by simp,by simp⟩
      ·obtain⟨i,hi,hmin⟩:=ihr hr
       by_cases hx:x≤i
       ·exact⟨x,by simp,fun j hj=>by rcases List.mem_cons.1 hj with rfl|hj;exact Nat.le_refl _;exact Nat.le_trans hx (hmin j hj)⟩
       ·exact⟨i,by simp[hi],fun j hj=>by rcases List.mem_cons.1 hj with rfl|hj;omega;exact hmin j hj⟩
    exact this rem (by intro h;subst h;simp at hl)
   have hready:Region.ready .any l.toArray listed≠[]:=by
    obtain⟨i,hi,hmin⟩:=hex;obtain⟨hin,hil⟩:=(hrem i).1 hi;have hlt:i<l.length:=by omega
    have hmem:i ∈ Region.ready .any l.toArray listed:=by
     refine mem_ready.2 ⟨hil,l[i],by simp[hlt],fun e he hbd=>?_⟩
     have h1:=List.all_eq_true.1 haf (l[i],i) (by
      rw[List.mem_zipIdx_iff_getElem?];simp[hin,hlt])
     have h2:=Array.all_eq_true'.1 h1 e he;simp[hbd]at h2;have hj:¬ e.on ∈ rem:=fun h=>by have:=hmin _ h;omega
     have h3:¬ listed.getD e.on true=false:=fun h=>hj ((hrem _).2 ⟨by omega,h⟩)
     have h4:e.on<listed.size:=by rw[inv.size];simp;omega
     rw[Array.getD_eq_getD_getElem?,Array.getElem?_eq_getElem h4]at h3 ⊢
     simpa using h3
    intro h;rw[h]at hmem;simp at hmem
   rw[show f+1+(l.toArray.size - n)=(f+(l.toArray.size - n))+1 from by omega]
   refine⟨fun h=>(hready h).elim,fun i hi=>?_⟩
   obtain⟨hil,o,ho,haft⟩:=mem_ready.1 hi;have hin:i<n:=by
    rcases Nat.lt_or_ge i n with h|h
    ·exact h
    ·exfalso
     obtain⟨i',hi',_⟩:=hex;obtain⟨hin',hil'⟩:=(hrem i').1 hi';have hisz:i<l.toArray.size:=(Array.getElem?_eq_some_iff.1 ho).1;have hll:l[i]?=some o:=by simpa using ho
     have h1:=List.all_eq_true.1 htail (o,i) (by rw[List.mem_zipIdx_iff_getElem?];exact hll)
     simp only[Bool.or_eq_true,decide_eq_true_eq]at h1;rcases h1 with (h1|h1)|h1
     ·omega
     ·obtain⟨e,he,h2⟩:=List.any_eq_true.1 h1;simp only[Bool.and_eq_true,decide_eq_true_eq]at h2;have h3:=haft e (Array.mem_toList_iff.1 he) h2.1.1;have h4:=getD_both (inv.tail e.on h2.1.2 (by omega))
      rw[h3]at h4;cases h4
     ·have h2:=List.all_eq_true.1 h1 i' (List.mem_range.2 hin');obtain⟨e,he,h3⟩:=List.any_eq_true.1 h2;simp only[Bool.and_eq_true,beq_iff_eq]at h3;have h4:=haft e (Array.mem_toList_iff.1 he) h3.1;rw[h3.2]at h4;have h5:=getD_both hil';rw[h4]at h5;cases h5
   have ho':l[i]?=some o:=by simpa using ho
   have hot:(l.take n)[i]?=some o:=by rw[List.getElem?_take_of_lt hin];exact ho'
   obtain⟨d,hod⟩:∃ d,o.dst=some d:=by
    have:∀ (r:List Oper) (j:Nat),zCd r=true→r[j]?=some o→∃ d,o.dst=some d:=by
     intro r
     induction r with
     | nil=>intro j _ h;simp at h
     | cons x r ihr =>
      intro j hdd h;simp only[zCd,Bool.and_eq_true]at hdd
      cases j with
      | zero=>simp at h;subst h;exact Option.isSome_iff_exists.1 hdd.1.1
      | succ j=>exact ihr j hdd.2 (by simpa using h)
    exact this _ i hd' hot
   have hbd:∀ (j:Nat) (oj:Oper) (dj:Tmp),(l.take n)[j]?=some oj→oj.dst=some dj→dj<a0.tmps.size:=by
    intro j oj dj hj hdj;have:=List.all_eq_true.1 hsz oj (List.mem_of_getElem? hj)
    simpa [hdj] using this
   have hctx:RCtx (l.take n) Ss a0 w0 o a w:=by
    refine⟨hb,fun t ht=>by rw[ha];exact zBm _ _ _ _ _ t ht,fun j dj hj hdj=>?_,by rw[ha,zEB]⟩
    obtain⟨e,he,hbe⟩:=List.any_eq_true.1 hj;simp only[Bool.and_eq_true,beq_iff_eq]at hbe;have hlj:=haft e (Array.mem_toList_iff.1 he) hbe.1;rw[hbe.2]at hlj;obtain⟨oj,hoj,hdj'⟩:=Option.bind_eq_some_iff.1 hdj;have hjn:j<n:=by have:=(List.getElem?_eq_some_iff.1 hoj).1;omega
    rw[ha,zEe _ 0 listed vals a0 j oj dj hd' hoj hdj' (hbd j oj dj hoj hdj') (by rw[Nat.zero_add];exact hlj),Nat.zero_add]
    exact hv j hjn hlj
   have hstep':=hstep i o hin ho' a w hctx;have hnext:∀ v w',Below w.heap.size w w'→(Ss i v w'∧(D i=true→w.heap.size≤blk v))→wpAny P .any l.toArray Q (f+(l.toArray.size - n)) (listed.setIfInBounds i true) (a.put o.dst v) w':=by
    intro v w' hbw ⟨hsv,hfr⟩;have hmemi:i ∈ rem:=(hrem i).2 ⟨hin,hil⟩;refine ih (rem.erase i) (by rw[List.length_erase_of_mem hmemi,hl];rfl) (hnd.erase i) _ _ w' (inv.set hi hin) (fun j=>?_) ⟨fun j=>if j=i then v else vals j,?_,fun j hj hlj=>?_,fun j k hj hk hjk hlj hlk hDj hDk=>?_⟩ (hb.trans (hbw.mono hb.size))
    ·rw[hnd.mem_erase_iff,hrem j]
     by_cases hji:j=i
     ·subst hji;have hjs:j<listed.size:=by rw[inv.size];simp;omega
      simp[hjs]
     ·rw[getD_set_ne true (fun e=>hji e.symm)]
      simp[hji]
    ·have:=zDh (l.take n) 0 i listed vals a0 o d v hd' hot hod (by rw[Nat.zero_add];exact hil)
     rw[Nat.zero_add]at this;rw[this,← ha,hod]
    ·by_cases hji:j=i
     ·subst hji;simpa using hsv
     ·show Ss j (if j=i then v else vals j) w'
      rw[if_neg hji];rw[getD_set_ne false (fun e=>hji e.symm)]at hlj
      exact hst j hj _ _ _ (hv j hj hlj) hbw
    ·show blk (if j=i then v else vals j)≠blk (if k=i then v else vals k)
     by_cases hji:j=i
     ·subst hji;rw[if_pos rfl,if_neg (fun e=>hjk e.symm)]
      rw[getD_set_ne false hjk]at hlk;have h1:=hlt k hk hDk _ _ (hv k hk hlk);have h2:=hfr hDj;omega
     ·rw[if_neg hji];rw[getD_set_ne false (fun e=>hji e.symm)]at hlj
      by_cases hki:k=i
      ·subst hki;rw[if_pos rfl];have h1:=hlt j hj hDj _ _ (hv j hj hlj);have h2:=hfr hDk;omega
      ·rw[if_neg hki];rw[getD_set_ne false (fun e=>hki e.symm)]at hlk
       exact hp j k hj hk hjk hlj hlk hDj hDk
   unfold wpOp;simp only[ho];unfold zBK at hstep';split
   ·rename_i hw;rw[if_pos hw]at hstep';refine .inl (zDg (Oper.wp_mono (fun a' w' ⟨v,e,hbw,hsv⟩=>?_) hstep'))
    subst e;exact hnext v w' hbw hsv
   ·rename_i hw;rw[if_neg hw]at hstep';exact hnext undef w (Below.refl _ w) hstep'
 have h0:=key (List.range n) n (by simp) List.nodup_range (Array.replicate l.toArray.size false) a0 {w0 with drawn:=w0.drawn+1}
  ⟨by simp,fun j oj _ hl=>(by rw[getD_replicate_false]at hl;cases hl),fun t _ ht=>getD_in (by simpa using ht) (getD_replicate_false _ _)⟩
  (fun i=>by
   rw[List.mem_range];constructor
   ·intro h;exact⟨h,getD_in (by simp;omega) (getD_replicate_false _ _)⟩
   ·intro h;exact h.1)
  ⟨fun _=>undef,(zCo _ _ _ _ _ (fun i=>getD_replicate_false _ _)).symm,fun i _ h=>(by rw[getD_replicate_false]at h;cases h),fun i j _ _ _ h=>(by rw[getD_replicate_false]at h;cases h)⟩
  ((Below.refl _ w0).drew)
 rw[show n+(l.toArray.size - n)=l.toArray.size from by omega]at h0
 exact h0
theorem zGV {P:Program} {id:Nat} {Q:Exit→Act→World→Prop} {a0:Act} {w0:World} {l:List Oper} (n:Nat) (L:List (Value→World→Prop)) (D:Nat→Bool)
  (hm:P.follows .mixedOrders=true) (hB:zNL l.toArray n=true) (hsz:(l.take n).all (fun o=>match o.dst with|some d=>decide (d<a0.tmps.size)|none=>true)=true)
  (hst:zCq L) (hlt:∀ i,i<n→D i=true→∀ v w,zAq L i v w→blk v<w.heap.size)
  (hstep:Obl P l (l.take n) L D a0 w0 (l.take n) 0)
  (hend:∀ vals w,Below w0.heap.size w0 w→(∀ i,i<n→zAq L i (vals i) w)→(∀ i j,i<n→j<n→i≠j→D i=true→D j=true→blk (vals i)≠blk (vals j)) →
   wpAny P .any l.toArray Q (l.toArray.size - n) (zAw n (l.toArray.size - n)) (zBI (l.take n) 0 vals a0) w) :
  (Code.region id l.toArray true).wp P Q a0 w0 :=
 wp_region_any hm (zIj n (zAq L) D hB hsz (fun i _ v w w' h hb=>zCu L i hst v w w' h hb) hlt
  (fun i o hi ho a w hc=>by
   have:=Obl.get (l.take n) 0 hstep i o (by rw[List.getElem?_take_of_lt hi];exact ho) a w hc
   rwa [Nat.zero_add]at this) hend)
section
variable {P:Program} {ops:Array Oper} {Q:Exit→Act→World→Prop} {fuel:Nat} {listed:Array Bool} {a:Act} {w:World}
def anyK (P:Program) (ops:Array Oper) (Q:Exit→Act→World→Prop) (fuel:Nat) (listed:Array Bool):Exit→Act→World→Prop
 | .normal,a,w=>wpAny P .any ops Q fuel listed a w
 | .exit id,a,w=>Q (.exit id) a w
 | .goto l,a,w=>Q (.goto l) a w
 | .ret,a,w=>Q .ret a w
 | .panic c,a,w=>Q (.panic c) a w
 | .outgrown,a,w=>Q .outgrown a w
theorem zI4 {o:Oper} {K:Act→World→Prop} {Q':Exit→Act→World→Prop} (h:o.wp P a w K Q') (h1:∀ c a w,Q' (.panic c) a w→Q (.panic c) a w) (h2:LetsOut Q'→LetsOut Q):o.wp P a w K Q:=by
 unfold Oper.wp at *
 generalize (execOp a.eval o).run P w=r at *
 cases r with
 | ok n w' =>
  cases n<;>simp only[Oper.upon]at h ⊢ <;>
   first
    | exact h
    | exact Calls.mono h (fun e w'' he=>by
      cases e with
      | returned v=>exact he
      | panicked c=>exact h1 _ _ _ he
      | outgrown=>exact h2 he)
    | exact h.elim
 | halt x w'=>cases x<;>simp only[Oper.upon]at h ⊢<;>first|exact h1 _ _ _ h|exact h|exact h.elim
theorem zLQ {i:Nat} {o:Oper} (ho:ops[i]?=some o) (h:wpList P ops (anyK P ops Q fuel (listed.setIfInBounds i true)) [o] a w):wpOp P ops Q i (wpAny P .any ops Q fuel (listed.setIfInBounds i true)) a w:=by
 unfold wpOp;simp only[ho];unfold wpList at h;split at h
 ·rename_i hw;rw[if_pos hw];rcases h with h|⟨h1,h2⟩
  ·refine .inl ?_
   have key:∀ (a':Act) (w':World),wpList P ops (anyK P ops Q fuel (listed.setIfInBounds i true)) [] a' w'→wpAny P .any ops Q fuel (listed.setIfInBounds i true) a' w':=fun a' w' h'=>by
    unfold wpList at h';exact h'
   have h2:=Oper.wp_mono key h;exact zI4 h2 (fun c a' w' h'=>h') (fun ⟨a1,w1,h'⟩=>⟨a1,w1,h'⟩)
  ·exact .inr ⟨h1,by
    obtain⟨a1,w1,h2⟩:=h2
    exact⟨a1,w1,h2⟩⟩
 ·rename_i hw;rw[if_neg hw];unfold wpList at h;exact h
theorem zJn (i:Nat) {o:Oper} (hr:Region.ready .any ops listed=[i]) (ho:ops[i]?=some o) (h:wpList P ops (anyK P ops Q fuel (listed.setIfInBounds i true)) [o] a w):wpAny P .any ops Q (fuel+1) listed a w :=
 ⟨fun e=>(by rw[hr]at e;cases e),fun k hk=>by
  rw[hr]at hk;obtain rfl:k=i:=by simpa using hk
  exact zLQ ho h⟩
theorem zKH (i j:Nat) {o p:Oper} (hr:Region.ready .any ops listed=[i,j]) (ho:ops[i]?=some o) (hp:ops[j]?=some p) (h:wpList P ops (anyK P ops Q fuel (listed.setIfInBounds i true)) [o] a w) (h2:wpList P ops (anyK P ops Q fuel (listed.setIfInBounds j true)) [p] a w):wpAny P .any ops Q (fuel+1) listed a w :=
 ⟨fun e=>(by rw[hr]at e;cases e),fun k hk=>by
  rw[hr]at hk;simp only[List.mem_cons,List.not_mem_nil,or_false]at hk;rcases hk with rfl|rfl
  ·exact zLQ ho h
  ·exact zLQ hp h2⟩
theorem zOb (hr:Region.ready .any ops listed=[]) (h:Q .normal a w):wpAny P .any ops Q fuel listed a w:=by
 cases fuel with
 | zero=>exact⟨hr,h⟩
 | succ n=>exact⟨fun _=>h,fun k hk=>by rw[hr]at hk;cases hk⟩
end
end
section
open Go.RowKit Go.Shelf
attribute [local go_sem] Oper.semAt_some
theorem zAD:oneB Tryd.prog 57=true:=by kernel_rfl
theorem zAE:oneB Tryd.prog 85=true:=by kernel_rfl
def zCw (a x:Nat):List PanicEntry:=[{v:=.iface 51 (.agg #[.int .i64 a,.int .i64 x]),recovered:=false}]
theorem zCi (a:Int) (n:Nat) (w0:World):Calls Tryd.prog 21 #[.bool true,.int .i64 a,.int .i64 n] w0 (Rt (.tuple #[]) w0):=by
 go_enter Tryd.func21,Tryd.ntmps21
 go_wp2
 exact⟨rfl,.tuple #[],(by simp[results,Tryd.f21,go_sem]),rfl,Below.refl _ _⟩
theorem zDE (a n:Nat) (w0:World):Calls Tryd.prog 21 #[.bool false,.int .i64 a,.int .i64 n] w0 fun e w'=>e=.panicked (zCw a n)∧Below w0.heap.size w0 w':=by
 go_enter Tryd.func21,Tryd.ntmps21
 go_wp2
 exact⟨rfl,rfl,Below.refl _ _⟩
structure LevM where
 place:Nat
 group:Nat
 behind:zAU
 all:List TV
 items:List TV
 aq:Option Addr
 ac:Nat
 iq:Option Addr
 ic:Nat
def levC (l:LevM):Array Value:=#[.int .i64 l.place,.int .i64 l.group,.bool l.behind.1,.bool l.behind.2.1,.bool l.behind.2.2,.slice l.aq l.all.length l.ac,.slice l.iq l.items.length l.ic]
def LevM.plain (l:LevM):LevP:=⟨l.place,l.group,l.behind,l.all.map (·.1),l.items.map (·.1)⟩
theorem zFu (ls:List LevM):∀ r ∈ ls.map levC,r.size=7:=by
 intro r hr;obtain⟨x,_,rfl⟩:=List.mem_map.1 hr;rfl
abbrev psC (q:Option Addr) (n c:Nat) (last:Nat) (f:zAU) (g:Nat) (v:Value):Array Value:=#[.slice q n c,.int .i64 last,.bool f.1,.bool f.2.1,.bool f.2.2,.int .i64 g,v]
theorem zEr (pb og n oc:Nat) (w0:World) (hpb:pb<w0.heap.size) (hn:n≤1000000) (h:w0.cell? ⟨pb,6,none⟩=some (.slice (some ⟨og,0,none⟩) (n+1) oc)) :
  Calls Tryd.prog 22 #[.pointer (some ⟨pb,0,none⟩)] w0 (Rt (.pointer (some ⟨og,n * 7,none⟩)) w0):=by
 have H:=(Hold.start w0).know (·=pb) (fun V=>V.cell? ⟨pb,6,none⟩=some (.slice (some ⟨og,0,none⟩) (n+1) oc)) (fun b hb=>by rw[hb];exact hpb) (fun i r h=>by simp at h) (fun V hV=>by rw[← h];simp[World.cell?,hV pb rfl])
 simp only[List.nil_append]at H;clear h
 go_enter Tryd.func22,Tryd.ntmps22
 go_upto_region 1 with (first|fail)
 refine wr_ 12 [fun v _=>v=pt pb 0,fun v _=>v=pt pb 0,fun v _=>v=pt pb 6,fun v _=>v=.slice (some ⟨og,0,none⟩) (n+1) oc,fun v _=>v=pt pb 0,fun v _=>v=pt pb 0,fun v _=>v=pt pb 6,fun v _=>v=.slice (some ⟨og,0,none⟩) (n+1) oc,fun v _=>v=.int .i64 ((n+1:Nat):Int),fun v _=>v=.int .i64 (n:Int),fun v _=>v=.pointer (some ⟨og,n * 7,none⟩),fun v _=>v=.pointer (some ⟨og,n * 7,none⟩)] ?ob ?en
 case ob =>
  refine⟨?_,?_,?_,?_,?_,?_,?_,?_,?_,?_,?_,?_,trivial⟩<;>intro A W h
  ·exact zAY rfl rfl (h.f 0)
  ·(have e3:A.eval (.tmp 3)=.pointer (some ⟨pb,0,none⟩):=h.d 0 3;refine zAB rfl ?_;simp only[execOp,e3];(simp[go_sem]<;>first|done|omega|(rw[IntKind.wrap_i64];omega)|(rw[IntKind.wrap_u8];omega)|(rw[IntKind.wrap_u64];omega)))
  ·(have e4:A.eval (.tmp 4)=.pointer (some ⟨pb,0,none⟩):=h.d 1 4;refine zAB rfl ?_;simp only[execOp,e4];(simp[go_sem]<;>first|done|omega|(rw[IntKind.wrap_i64];omega)|(rw[IntKind.wrap_u8];omega)|(rw[IntKind.wrap_u64];omega)))
  ·exact zAB rfl (zAL rfl (h.d 2 5) zAD ((H.call h.below).kn (i:=0) .zero)) (by decide)
  ·exact zAY rfl rfl (h.f 0)
  ·(have e7:A.eval (.tmp 7)=.pointer (some ⟨pb,0,none⟩):=h.d 4 7;refine zAB rfl ?_;simp only[execOp,e7];(simp[go_sem]<;>first|done|omega|(rw[IntKind.wrap_i64];omega)|(rw[IntKind.wrap_u8];omega)|(rw[IntKind.wrap_u64];omega)))
  ·(have e8:A.eval (.tmp 8)=.pointer (some ⟨pb,0,none⟩):=h.d 5 8;refine zAB rfl ?_;simp only[execOp,e8];(simp[go_sem]<;>first|done|omega|(rw[IntKind.wrap_i64];omega)|(rw[IntKind.wrap_u8];omega)|(rw[IntKind.wrap_u64];omega)))
  ·exact zAB rfl (zAL rfl (h.d 6 9) zAD ((H.call h.below).kn (i:=0) .zero)) (by decide)
  ·exact zFJ Tryd.underlying57 rfl rfl (h.d 7 10)
  ·(have e11:A.eval (.tmp 11)=.int .i64 ((n+1:Nat):Int):=h.d 8 11;refine zAB rfl ?_;simp only[execOp,e11];(simp[go_sem]<;>first|done|omega|(rw[IntKind.wrap_i64];omega)|(rw[IntKind.wrap_u8];omega)|(rw[IntKind.wrap_u64];omega)))
  ·exact zHy (sz:=7) Tryd.underlying57 (fun w=>by kernel_rfl) rfl rfl (h.d 3 6) (h.d 9 12) (by omega) (by omega)
  ·exact zFl rfl rfl (h.d 10 13)
 case en =>
  intro vals W hbw hv _;simp only[fa,Nat.reduceAdd];rw[e_ hv 0,e_ hv 1,e_ hv 2,e_ hv 3,e_ hv 4,e_ hv 5,e_ hv 6,e_ hv 7,e_ hv 8,e_ hv 9,e_ hv 10,e_ hv 11];clear hv
  try simp only[pl]
  replace H:=H.call hbw;clear hbw
  go_wp2_with (first|fail)
  go_ret;exact⟨rfl,H.below⟩
theorem zLN (pb last:Nat) (w0:World) (hpb:pb<w0.heap.size) (h:w0.cell? ⟨pb,1,none⟩=some (.int .i64 last)) :
  Calls Tryd.prog 49 #[.pointer (some ⟨pb,0,none⟩)] w0 (Rt (.bool (zB8 last)) w0):=by
 have H:=(Hold.start w0).know (·=pb) (fun V=>V.cell? ⟨pb,1,none⟩=some (.int .i64 last)) (fun b hb=>by rw[hb];exact hpb) (fun i r h=>by simp at h) (fun V hV=>by rw[← h];simp[World.cell?,hV pb rfl])
 simp only[List.nil_append]at H;clear h
 by_cases h0:last=0
 ·subst h0
  go_enter Tryd.func49,Tryd.ntmps49
  go_wp2_with (first|((with_reducible refine gL ?_);refine zAH wtd_ _ _ rfl rfl zAN (H.kn (i:=0) .zero) ?_)|fail)
  go_ret;exact⟨rfl,H.below⟩
 by_cases h6:last=6
 ·subst h6
  go_enter Tryd.func49,Tryd.ntmps49
  go_wp2_with (first|((with_reducible refine gL ?_);refine zAH wtd_ _ _ rfl rfl zAN (H.kn (i:=0) .zero) ?_)|fail)
  go_ret;exact⟨rfl,H.below⟩
 by_cases h7:last=7
 ·subst h7
  go_enter Tryd.func49,Tryd.ntmps49
  go_wp2_with (first|((with_reducible refine gL ?_);refine zAH wtd_ _ _ rfl rfl zAN (H.kn (i:=0) .zero) ?_)|fail)
  go_ret;exact⟨rfl,H.below⟩
 by_cases h8:last=8
 ·subst h8
  go_enter Tryd.func49,Tryd.ntmps49
  go_wp2_with (first|((with_reducible refine gL ?_);refine zAH wtd_ _ _ rfl rfl zAN (H.kn (i:=0) .zero) ?_)|fail)
  go_ret;exact⟨rfl,H.below⟩
 by_cases h10:last=10
 ·subst h10
  go_enter Tryd.func49,Tryd.ntmps49
  go_wp2_with (first|((with_reducible refine gL ?_);refine zAH wtd_ _ _ rfl rfl zAN (H.kn (i:=0) .zero) ?_)|fail)
  go_ret;exact⟨rfl,H.below⟩
 by_cases h11:last=11
 ·subst h11
  go_enter Tryd.func49,Tryd.ntmps49
  go_wp2_with (first|((with_reducible refine gL ?_);refine zAH wtd_ _ _ rfl rfl zAN (H.kn (i:=0) .zero) ?_)|fail)
  go_ret;exact⟨rfl,H.below⟩
 have d0:((last:Int) == 0)=false:=by rw[beq_eq_false_iff_ne];omega
 have d6:((last:Int) == 6)=false:=by rw[beq_eq_false_iff_ne];omega
 have d7:((last:Int) == 7)=false:=by rw[beq_eq_false_iff_ne];omega
 have d8:((last:Int) == 8)=false:=by rw[beq_eq_false_iff_ne];omega
 have d10:((last:Int) == 10)=false:=by rw[beq_eq_false_iff_ne];omega
 have d11:((last:Int) == 11)=false:=by rw[beq_eq_false_iff_ne];omega
 have E:=Lib.hid (show zB8 last=false by simp[zB8,h0,h6,h7,h8,h10,h11])
 clear h0 h6 h7 h8 h10 h11
 go_enter Tryd.func49,Tryd.ntmps49
 go_wp2_with (first|((with_reducible refine gL ?_);refine zAH wtd_ _ _ rfl rfl zAN (H.kn (i:=0) .zero) ?_)|fail)
 go_ret;exact⟨by rw[E.out];rfl,H.below⟩
theorem zM4 (k:Int) (p:Option Addr) (c n:Nat) (F:Nat→Prop) (ts:List Tree) (w0:World) (hF:∀ b,F b→b<w0.heap.size) (h:ForestR w0 F p c ts) (hn:n=ts.length) :
  Calls Tryd.prog 41 #[.int .i64 k,.slice p n c] w0 fun e w'=>zIW w0 F (rowT k ts) e w'∧Below w0.heap.size w0 w':=by
 obtain⟨xs,h1,h2,rfl⟩:=h.open;rw[List.length_map]at hn;rw[← hn]at h1;have hK:Knows F p n c xs w0:=⟨h1,h2⟩;clear h h1 h2;have H:=Hold.knows hF hK;have hc1:=hK.bound.2.1;have hc2:=hK.bound.2.2;have hp:=hK.at;rcases xs with _|⟨x,_|⟨y,xs⟩⟩
 ·obtain rfl:n=0:=hn;clear hp
  go_enter Tryd.func41,Tryd.ntmps41
  go_wp2_with (first|(first|((with_reducible refine gT ?_);(refine aT H ?_;clear H;intro w H;try simp only[nr]at H))|((with_reducible refine gA ?_);(refine bA H ?_;clear H;intro b w H;try simp only[nr]at H))|((with_reducible refine gZ ?_);refine nb1 ?_)))
  (refine xc Tryd.results41 H ?_)
  exact⟨⟨none,0,fun _=>False,rfl,ForestR.nil ..,fun _ h=>h.elim⟩,H.below⟩
 ·obtain rfl:n=1:=hn;obtain⟨b,off,rfl⟩:=hp (by simp)
  clear hp;have hcell:∀ V,Knows F (some ⟨b,off,none⟩) 1 c [x] V→∀ k,k<10→V.cell? ⟨b,off+k,none⟩=(zAo x)[k]?:=fun V h=>h.cells (j:=0) rfl rfl
  go_enter Tryd.func41,Tryd.ntmps41
  go_wp2_with (first|((with_reducible refine gL ?_);refine zBb wtd_ _ _ rfl rfl zAW (zBQ x) (hcell _ (H.kn .zero)) ?_)|(first|((with_reducible refine gT ?_);(refine aT H ?_;clear H;intro w H;try simp only[nr]at H))|((with_reducible refine gA ?_);(refine bA H ?_;clear H;intro b w H;try simp only[nr]at H))))
  (refine xc Tryd.results41 H ?_)
  exact⟨⟨_,_,F,rfl,(H.kn (i:=0) .zero).2 x (List.mem_singleton.2 rfl),fun b h=>⟨H.knlt .zero b h,.inr h⟩⟩,H.below⟩
 ·clear hp;have h2:2≤n:=by rw[hn];simp
  have HN:=Lib.hid hn;clear hn;have d0:((n:Int) == 0)=false:=by rw[beq_eq_false_iff_ne];omega
  have d1:((n:Int) == 1)=false:=by rw[beq_eq_false_iff_ne];omega
  go_enter Tryd.func41,Tryd.ntmps41
  go_wp2_with (first|(first|((with_reducible refine gT ?_);(refine aT H ?_;clear H;intro w H;try simp only[nr]at H))|((with_reducible refine gA ?_);(refine bA H ?_;clear H;intro b w H;try simp only[nr]at H))|((with_reducible refine gZ ?_);refine nbK ?_)))
  (refine xc Tryd.results41 H ?_)
  have e:n=((x::y::xs).map (·.1)).length:=by rw[HN.out,List.length_map]
  refine⟨⟨p,c,F,by rw[e];rfl,?_,fun b h=>⟨H.knlt .zero b h,.inr h⟩⟩,H.below⟩
  have:=H.kn (i:=0) .zero;rw[e]at this;exact this.forest
theorem resE {P:Program} {fn:Func} {tmps:Array Value} {w:World} (h:fn.results=#[]):(results fn tmps).run P w=.ok (.tuple #[]) w:=by simp[results,h]
def zK5 (pb:Nat) (T:TypeId) (w:World) (cs:Array Value) (e:Ending) (w':World):Prop:=KeepBut (·=pb) w.heap.size w w'∧e=.returned (.tuple #[])∧w'.heap[pb]?=some (.cells cs T (0,0))
theorem zKS {M:Nat→Prop} {P:Program} {f:FuncId} {args:Array Value} {w w0:World} {l:List Res} {R:Ending→World→Prop} {pb:Nat} {T:TypeId} {cs cs':Array Value} {i:Nat} (c:Calls P f args w (zK5 pb T w cs')) (H:HoldG M w0 w l) (hi:At l i (.blk pb cs T))
  (k:∀ w',HoldG M w0 w' (l.set i (.blk pb cs' T))→R (.returned (.tuple #[])) w'):Calls P f args w R:=c.mono fun _ w' h=>by
 obtain⟨h1,rfl,h2⟩:=h;exact k w' (H.callBut hi h1 h2)
theorem zHP (pb k:Nat) (cs:Array Value) (T:TypeId) (x on off:Bool) (w0:World) (h:w0.heap[pb]?=some (.cells cs T (0,0))) (hk:cs[k]?=some (.bool x)) :
  Calls Tryd.prog 48 #[.pointer (some ⟨pb,k,none⟩),.bool on,.bool off] w0 (zK5 pb T w0 (cs.setIfInBounds k (.bool ((x || on)&&!off)))):=by
 have H:=HoldG.startB h;have hks:k<cs.size:=(Array.getElem?_eq_some_iff.1 hk).1;clear h
 cases x<;>cases on<;>cases off<;>(
  go_enter Tryd.func48,Tryd.ntmps48
  go_wp2_with (first|((with_reducible refine gL ?_);refine zAX wtd_ _ _ rfl rfl H .zero zAZ hk ?_)|((with_reducible refine gT ?_);refine zAK wtd_ _ _ _ rfl rfl evd_ H .zero rfl hks (zAC zAZ) ?_;clear H;intro w H))
  exact⟨rfl,.tuple #[],resE rfl,H.keep,rfl,(H.blk .zero).2⟩)
theorem zKn (pb:Nat) (T:TypeId) (q:Option Addr) (n c last g:Nat) (f on off:zAU) (v:Value) (w0:World) (h:w0.heap[pb]?=some (.cells (psC q n c last f g v) T (0,0))) :
  Calls Tryd.prog 37 #[.pointer (some ⟨pb,0,none⟩),zDX on,zDX off] w0 (zK5 pb T w0 (psC q n c last ((f.1 || on.1)&&!off.1,(f.2.1 || on.2.1)&&!off.2.1,(f.2.2 || on.2.2)&&!off.2.2) g v)):=by
 have H:=HoldG.startB h;clear h;obtain⟨f0,f1,f2⟩:=f;obtain⟨o0,o1,o2⟩:=on;obtain⟨u0,u1,u2⟩:=off;simp only at *
 go_enter Tryd.func37,Tryd.ntmps37
 go_upto_region 2 with (first|((first|((with_reducible refine kgA 4 ?_);refine kA 4 H ?_)|((with_reducible refine kgX 4 ?_);(first|refine kS 4 H ?_|refine kB 4 H ?_)));clear H;intro b4 w H;try simp only[nr]at H)|((first|((with_reducible refine kgA 5 ?_);refine kA 5 H ?_)|((with_reducible refine kgX 5 ?_);(first|refine kS 5 H ?_|refine kB 5 H ?_)));clear H;intro b5 w H;try simp only[nr]at H)|fail)
 refine wr_ 9 [fun v _=>v=.func (.func 48) #[] #[],fun v _=>v=pt pb 0,fun v _=>v=pt pb 0,fun v _=>v=pt pb 2,fun v _=>v=pt pb 2,fun v _=>v=pt b4 0,fun v _=>v=.bool o0,fun v _=>v=pt b5 0,fun v _=>v=.bool u0] ?ob ?en
 case ob =>
  refine⟨?_,?_,?_,?_,?_,?_,?_,?_,?_,trivial⟩<;>intro A W h
  ·exact zAY rfl rfl (h.f 6)
  ·exact zAY rfl rfl (h.f 0)
  ·(have e8:A.eval (.tmp 8)=.pointer (some ⟨pb,0,none⟩):=h.d 1 8;refine zAB rfl ?_;simp only[execOp,e8];(simp[go_sem]<;>first|done|omega|(rw[IntKind.wrap_i64];omega)|(rw[IntKind.wrap_u8];omega)|(rw[IntKind.wrap_u64];omega)))
  ·(have e9:A.eval (.tmp 9)=.pointer (some ⟨pb,0,none⟩):=h.d 2 9;refine zAB rfl ?_;simp only[execOp,e9];(simp[go_sem]<;>first|done|omega|(rw[IntKind.wrap_i64];omega)|(rw[IntKind.wrap_u8];omega)|(rw[IntKind.wrap_u64];omega)))
  ·(have e10:A.eval (.tmp 10)=.pointer (some ⟨pb,2,none⟩):=h.d 3 10;refine zAB rfl ?_;simp only[execOp,e10];(simp[go_sem]<;>first|done|omega|(rw[IntKind.wrap_i64];omega)|(rw[IntKind.wrap_u8];omega)|(rw[IntKind.wrap_u64];omega)))
  ·(have e4:A.eval (.tmp 4)=.pointer (some ⟨b4,0,none⟩):=h.f 4;refine zAB rfl ?_;simp only[execOp,e4];(simp[go_sem]<;>first|done|omega|(rw[IntKind.wrap_i64];omega)|(rw[IntKind.wrap_u8];omega)|(rw[IntKind.wrap_u64];omega)))
  ·exact zAB rfl (zAL rfl (h.d 5 12) (by first|(with_reducible exact zAJ)|(with_reducible exact one_u8)|(with_reducible exact zAZ)|(with_reducible exact zAh)|(with_reducible exact zAe)|(with_reducible exact one_u64)|(with_reducible exact zAV)|(with_reducible exact zAN)|(with_reducible exact zAR)|(with_reducible exact zAM)|(with_reducible exact zAD)|(with_reducible exact zAE)) ((H.call h.below).cell (i:=1) i_1 0)) (by decide)
  ·(have e5:A.eval (.tmp 5)=.pointer (some ⟨b5,0,none⟩):=h.f 5;refine zAB rfl ?_;simp only[execOp,e5];(simp[go_sem]<;>first|done|omega|(rw[IntKind.wrap_i64];omega)|(rw[IntKind.wrap_u8];omega)|(rw[IntKind.wrap_u64];omega)))
  ·exact zAB rfl (zAL rfl (h.d 7 14) (by first|(with_reducible exact zAJ)|(with_reducible exact one_u8)|(with_reducible exact zAZ)|(with_reducible exact zAh)|(with_reducible exact zAe)|(with_reducible exact one_u64)|(with_reducible exact zAV)|(with_reducible exact zAN)|(with_reducible exact zAR)|(with_reducible exact zAM)|(with_reducible exact zAD)|(with_reducible exact zAE)) ((H.call h.below).cell (i:=2) i_2 0)) (by decide)
 case en =>
  intro vals W hbw hv _;simp only[fa,Nat.reduceAdd];rw[e_ hv 0,e_ hv 1,e_ hv 2,e_ hv 3,e_ hv 4,e_ hv 5,e_ hv 6,e_ hv 7,e_ hv 8];clear hv
  try simp only[pl]
  replace H:=H.call hbw;clear hbw
  go_upto_region 3 with (first|(go_at_call 48;refine zKS (zHP pb 2 _ T f0 o0 u0 _ (H.blk .zero).2 rfl) H .zero ?_;clear H;intro w H;simp only[nrl,List.setIfInBounds_toArray]at H))
  refine wr_ 9 [fun v _=>v=.func (.func 48) #[] #[],fun v _=>v=pt pb 0,fun v _=>v=pt pb 0,fun v _=>v=pt pb 2,fun v _=>v=pt pb 3,fun v _=>v=pt b4 1,fun v _=>v=.bool o1,fun v _=>v=pt b5 1,fun v _=>v=.bool u1] ?ob ?en
  case ob =>
   refine⟨?_,?_,?_,?_,?_,?_,?_,?_,?_,trivial⟩<;>intro A W h
   ·exact zAY rfl rfl (h.f 6)
   ·exact zAY rfl rfl (h.f 0)
   ·(have e18:A.eval (.tmp 18)=.pointer (some ⟨pb,0,none⟩):=h.d 1 18;refine zAB rfl ?_;simp only[execOp,e18];(simp[go_sem]<;>first|done|omega|(rw[IntKind.wrap_i64];omega)|(rw[IntKind.wrap_u8];omega)|(rw[IntKind.wrap_u64];omega)))
   ·(have e19:A.eval (.tmp 19)=.pointer (some ⟨pb,0,none⟩):=h.d 2 19;refine zAB rfl ?_;simp only[execOp,e19];(simp[go_sem]<;>first|done|omega|(rw[IntKind.wrap_i64];omega)|(rw[IntKind.wrap_u8];omega)|(rw[IntKind.wrap_u64];omega)))
   ·(have e20:A.eval (.tmp 20)=.pointer (some ⟨pb,2,none⟩):=h.d 3 20;refine zAB rfl ?_;simp only[execOp,e20];(simp[go_sem]<;>first|done|omega|(rw[IntKind.wrap_i64];omega)|(rw[IntKind.wrap_u8];omega)|(rw[IntKind.wrap_u64];omega)))
   ·(have e4:A.eval (.tmp 4)=.pointer (some ⟨b4,0,none⟩):=h.f 4;refine zAB rfl ?_;simp only[execOp,e4];(simp[go_sem]<;>first|done|omega|(rw[IntKind.wrap_i64];omega)|(rw[IntKind.wrap_u8];omega)|(rw[IntKind.wrap_u64];omega)))
   ·exact zAB rfl (zAL rfl (h.d 5 22) (by first|(with_reducible exact zAJ)|(with_reducible exact one_u8)|(with_reducible exact zAZ)|(with_reducible exact zAh)|(with_reducible exact zAe)|(with_reducible exact one_u64)|(with_reducible exact zAV)|(with_reducible exact zAN)|(with_reducible exact zAR)|(with_reducible exact zAM)|(with_reducible exact zAD)|(with_reducible exact zAE)) ((H.call h.below).cell (i:=1) i_1 1)) (by decide)
   ·(have e5:A.eval (.tmp 5)=.pointer (some ⟨b5,0,none⟩):=h.f 5;refine zAB rfl ?_;simp only[execOp,e5];(simp[go_sem]<;>first|done|omega|(rw[IntKind.wrap_i64];omega)|(rw[IntKind.wrap_u8];omega)|(rw[IntKind.wrap_u64];omega)))
   ·exact zAB rfl (zAL rfl (h.d 7 24) (by first|(with_reducible exact zAJ)|(with_reducible exact one_u8)|(with_reducible exact zAZ)|(with_reducible exact zAh)|(with_reducible exact zAe)|(with_reducible exact one_u64)|(with_reducible exact zAV)|(with_reducible exact zAN)|(with_reducible exact zAR)|(with_reducible exact zAM)|(with_reducible exact zAD)|(with_reducible exact zAE)) ((H.call h.below).cell (i:=2) i_2 1)) (by decide)
  case en =>
   intro vals W hbw hv _;simp only[fa,Nat.reduceAdd];rw[e_ hv 0,e_ hv 1,e_ hv 2,e_ hv 3,e_ hv 4,e_ hv 5,e_ hv 6,e_ hv 7,e_ hv 8];clear hv
   try simp only[pl]
   replace H:=H.call hbw;clear hbw
   go_upto_region 4 with (first|(go_at_call 48;refine zKS (zHP pb 3 _ T f1 o1 u1 _ (H.blk .zero).2 rfl) H .zero ?_;clear H;intro w H;simp only[nrl,List.setIfInBounds_toArray]at H))
   refine wr_ 9 [fun v _=>v=.func (.func 48) #[] #[],fun v _=>v=pt pb 0,fun v _=>v=pt pb 0,fun v _=>v=pt pb 2,fun v _=>v=pt pb 4,fun v _=>v=pt b4 2,fun v _=>v=.bool o2,fun v _=>v=pt b5 2,fun v _=>v=.bool u2] ?ob ?en
   case ob =>
    refine⟨?_,?_,?_,?_,?_,?_,?_,?_,?_,trivial⟩<;>intro A W h
    ·exact zAY rfl rfl (h.f 6)
    ·exact zAY rfl rfl (h.f 0)
    ·(have e28:A.eval (.tmp 28)=.pointer (some ⟨pb,0,none⟩):=h.d 1 28;refine zAB rfl ?_;simp only[execOp,e28];(simp[go_sem]<;>first|done|omega|(rw[IntKind.wrap_i64];omega)|(rw[IntKind.wrap_u8];omega)|(rw[IntKind.wrap_u64];omega)))
    ·(have e29:A.eval (.tmp 29)=.pointer (some ⟨pb,0,none⟩):=h.d 2 29;refine zAB rfl ?_;simp only[execOp,e29];(simp[go_sem]<;>first|done|omega|(rw[IntKind.wrap_i64];omega)|(rw[IntKind.wrap_u8];omega)|(rw[IntKind.wrap_u64];omega)))
    ·(have e30:A.eval (.tmp 30)=.pointer (some ⟨pb,2,none⟩):=h.d 3 30;refine zAB rfl ?_;simp only[execOp,e30];(simp[go_sem]<;>first|done|omega|(rw[IntKind.wrap_i64];omega)|(rw[IntKind.wrap_u8];omega)|(rw[IntKind.wrap_u64];omega)))
    ·(have e4:A.eval (.tmp 4)=.pointer (some ⟨b4,0,none⟩):=h.f 4;refine zAB rfl ?_;simp only[execOp,e4];(simp[go_sem]<;>first|done|omega|(rw[IntKind.wrap_i64];omega)|(rw[IntKind.wrap_u8];omega)|(rw[IntKind.wrap_u64];omega)))
    ·exact zAB rfl (zAL rfl (h.d 5 32) (by first|(with_reducible exact zAJ)|(with_reducible exact one_u8)|(with_reducible exact zAZ)|(with_reducible exact zAh)|(with_reducible exact zAe)|(with_reducible exact one_u64)|(with_reducible exact zAV)|(with_reducible exact zAN)|(with_reducible exact zAR)|(with_reducible exact zAM)|(with_reducible exact zAD)|(with_reducible exact zAE)) ((H.call h.below).cell (i:=1) i_1 2)) (by decide)
    ·(have e5:A.eval (.tmp 5)=.pointer (some ⟨b5,0,none⟩):=h.f 5;refine zAB rfl ?_;simp only[execOp,e5];(simp[go_sem]<;>first|done|omega|(rw[IntKind.wrap_i64];omega)|(rw[IntKind.wrap_u8];omega)|(rw[IntKind.wrap_u64];omega)))
    ·exact zAB rfl (zAL rfl (h.d 7 34) (by first|(with_reducible exact zAJ)|(with_reducible exact one_u8)|(with_reducible exact zAZ)|(with_reducible exact zAh)|(with_reducible exact zAe)|(with_reducible exact one_u64)|(with_reducible exact zAV)|(with_reducible exact zAN)|(with_reducible exact zAR)|(with_reducible exact zAM)|(with_reducible exact zAD)|(with_reducible exact zAE)) ((H.call h.below).cell (i:=2) i_2 2)) (by decide)
   case en =>
    intro vals W hbw hv _;simp only[fa,Nat.reduceAdd];rw[e_ hv 0,e_ hv 1,e_ hv 2,e_ hv 3,e_ hv 4,e_ hv 5,e_ hv 6,e_ hv 7,e_ hv 8];clear hv
    try simp only[pl]
    replace H:=H.call hbw;clear hbw
    go_wp2_with (first|(go_at_call 48;refine zKS (zHP pb 4 _ T f2 o2 u2 _ (H.blk .zero).2 rfl) H .zero ?_;clear H;intro w H;simp only[nrl,List.setIfInBounds_toArray]at H))
    exact⟨rfl,.tuple #[],resE rfl,H.keep,rfl,(H.blk .zero).2⟩
end
end Go.Proofs.YtklcgfkdemifcaaDoor
