/-
  Laws of walks, and walks.
-/
import Derived.Test.YtklcgfkdemifcaaDoorSr1
import Derived.StillTail
import Derived.Deep.MidRow
import Derived.Deep.CutRange
import Derived.Laws.Slices
import Derived.Laws.Strings2
import Derived.Lib.Strings
set_option linter.unusedVariables false
set_option linter.unusedSimpArgs false
set_option maxRecDepth 100000
set_option maxHeartbeats 16000000
namespace Go.Proofs.YtklcgfkdemifcaaDoor
section
open Go.RowKit
def fill:List Oper→Nat→Array Bool→(Nat→Value)→Act→Act
 | [],_,_,_,a=>a
 | o::r,k,listed,vals,a=>fill r (k+1) listed vals (if listed.getD k false then a.put o.dst (vals k) else a)
def zBI:List Oper→Nat→(Nat→Value)→Act→Act
 | [],_,_,a=>a
 | o::r,k,vals,a=>zBI r (k+1) vals (a.put o.dst (vals k))
theorem zDP:∀ (l:List Oper) (k:Nat) (listed:Array Bool) (vals:Nat→Value) (a:Act),(∀ i,i<l.length→listed.getD (k+i) false=true)→fill l k listed vals a=zBI l k vals a
 | [],_,_,_,_,_=>rfl
 | o::r,k,listed,vals,a,h=>by
  have h0:listed.getD k false=true:=by simpa using h 0 (by simp)
  simp only[fill,zBI,h0,if_true];exact zDP r (k+1) listed vals _ (fun i hi=>by have:=h (i+1) (by simp;omega);rwa [show k+(i+1)=k+1+i from by omega]at this)
theorem zCo:∀ (l:List Oper) (k:Nat) (listed:Array Bool) (vals:Nat→Value) (a:Act),(∀ i,listed.getD i false=false)→fill l k listed vals a=a
 | [],_,_,_,_,_=>rfl
 | o::r,k,listed,vals,a,h=>by
  simp only[fill,h k,Bool.false_eq_true,if_false];exact zCo r (k+1) listed vals a h
theorem zHW:∀ (l:List Oper) (k:Nat) (listed:Array Bool) (vals:Nat→Value) (a:Act) (d:Tmp) (v:Value),(∀ o ∈ l,o.dst≠some d) →
  fill l k listed vals (a.put (some d) v)=(fill l k listed vals a).put (some d) v
 | [],_,_,_,_,_,_,_=>rfl
 | o::r,k,listed,vals,a,d,v,h=>by
  simp only[fill];rw[← zHW r (k+1) listed vals _ d v (fun o' ho'=>h o' (List.mem_cons_of_mem _ ho'))]
  congr 1
  split
  ·exact Act.put_comm a v (vals k) (fun d' e=>by cases e;exact h o (List.mem_cons_self ..))
  ·rfl
theorem zDU:∀ (l:List Oper) (k:Nat) (listed listed':Array Bool) (vals vals':Nat→Value) (a:Act),
  (∀ i,i<l.length→listed.getD (k+i) false=listed'.getD (k+i) false∧vals (k+i)=vals' (k+i))→fill l k listed vals a=fill l k listed' vals' a
 | [],_,_,_,_,_,_,_=>rfl
 | o::r,k,listed,listed',vals,vals',a,h=>by
  have h0:=h 0 (by simp)
  simp only[Nat.add_zero]at h0;simp only[fill,h0.1,h0.2];exact zDU r (k+1) listed listed' vals vals' _ (fun i hi=>by have:=h (i+1) (by simp;omega);rwa [show k+(i+1)=k+1+i from by omega]at this)
def zCd:List Oper→Bool
 | []=>true
 | o::r=>o.dst.isSome&&r.all (fun o'=>o'.dst != o.dst)&&zCd r
theorem zDh:∀ (l:List Oper) (k i:Nat) (listed:Array Bool) (vals:Nat→Value) (a:Act) (o:Oper) (d:Tmp) (v:Value),zCd l=true→l[i]?=some o→o.dst=some d →
  listed.getD (k+i) true=false →
  fill l k (listed.setIfInBounds (k+i) true) (fun j=>if j=k+i then v else vals j) a=(fill l k listed vals a).put (some d) v
 | [],_,_,_,_,_,_,_,_,_,h,_,_=>by simp at h
 | o::r,k,0,listed,vals,a,o',d,v,hd,h,hod,hl=>by
  simp at h;subst h;simp only[zCd,Bool.and_eq_true]at hd;obtain⟨⟨_,hall⟩,hr⟩:=hd;have hne:∀ o' ∈ r,o'.dst≠some d:=by
   intro o' ho' e;have:=List.all_eq_true.1 hall o' ho';rw[e,hod]at this;simp at this
  have h1:(listed.setIfInBounds k true).getD k false=true:=by
   have hk:k<listed.size:=by
    rcases Nat.lt_or_ge k listed.size with h'|h'
    ·exact h'
    ·simp[Array.getElem?_eq_none h']at hl
   simp[hk]
  have h2:listed.getD k false=false:=getD_both (by simpa using hl)
  simp only[Nat.add_zero,fill,h1,h2,if_true,Bool.false_eq_true,if_false,hod];rw[zHW r (k+1) _ _ a d v hne]
  congr 1
  refine zDU r (k+1) _ _ _ _ a (fun i hi=>⟨?_,by rw[if_neg (by omega)]⟩)
  exact getD_set_ne false (by omega)
 | o::r,k,i+1,listed,vals,a,o',d,v,hd,h,hod,hl=>by
  simp only[zCd,Bool.and_eq_true]at hd;obtain⟨⟨_,hall⟩,hr⟩:=hd;simp only[List.getElem?_cons_succ]at h;have ih:=zDh r (k+1) i listed vals (if listed.getD k false then a.put o.dst (vals k) else a) o' d v hr h hod (by rwa [show k+1+i=k+(i+1) from by omega])
  simp only[fill];rw[show k+(i+1)=k+1+i from by omega,getD_set_ne false (by omega),if_neg (by omega:¬ k=k+1+i)]
  exact ih
theorem zMZ (a:Act) (d t:Nat) (v:Value) (h:t≠d):(a.put (some d) v).eval (.tmp t)=a.eval (.tmp t):=by
 simp only[Act.put,Act.eval];simp[Array.getElem?_setIfInBounds_ne (show d≠t from fun e=>h e.symm)]
theorem zEi (a:Act) (d:Nat) (v:Value) (h:d<a.tmps.size):(a.put (some d) v).eval (.tmp d)=v:=by
 simp only[Act.put,Act.eval];simp[h]
theorem zHM (a:Act) (d:Option Tmp) (v:Value):(a.put d v).tmps.size=a.tmps.size:=by
 cases d<;>simp[Act.put]
theorem zEB:∀ (l:List Oper) (k:Nat) (listed:Array Bool) (vals:Nat→Value) (a:Act),(fill l k listed vals a).tmps.size=a.tmps.size
 | [],_,_,_,_=>rfl
 | o::r,k,listed,vals,a=>by
  simp only[fill];rw[zEB];split
  ·exact zHM ..
  ·rfl
theorem zBm:∀ (l:List Oper) (k:Nat) (listed:Array Bool) (vals:Nat→Value) (a:Act) (t:Tmp),l.any (fun o=>o.dst == some t)=false→(fill l k listed vals a).eval (.tmp t)=a.eval (.tmp t)
 | [],_,_,_,_,_,_=>rfl
 | o::r,k,listed,vals,a,t,h=>by
  simp only[List.any_cons,Bool.or_eq_false_iff]at h;simp only[fill];rw[zBm r (k+1) listed vals _ t h.2];split
  ·cases hd:o.dst with
   | none=>rfl
   | some d=>exact zMZ a d t _ (fun e=>by subst e;rw[hd]at h;simp at h)
  ·rfl
theorem zEe:∀ (l:List Oper) (k:Nat) (listed:Array Bool) (vals:Nat→Value) (a:Act) (j:Nat) (o:Oper) (d:Tmp),zCd l=true→l[j]?=some o→o.dst=some d→d<a.tmps.size →
  listed.getD (k+j) false=true→(fill l k listed vals a).eval (.tmp d)=vals (k+j)
 | [],_,_,_,_,_,_,_,_,h,_,_,_=>by simp at h
 | o::r,k,listed,vals,a,0,o',d,hd,h,hod,hsz,hl=>by
  simp at h;subst h;simp only[zCd,Bool.and_eq_true]at hd;obtain⟨⟨_,hall⟩,hr⟩:=hd;simp only[Nat.add_zero]at hl ⊢;simp only[fill,hl,if_true,hod]
  rw[zBm r (k+1) listed vals _ d (by
   rw[Bool.eq_false_iff];intro hc;obtain⟨o',ho',e⟩:=List.any_eq_true.1 hc;have:=List.all_eq_true.1 hall o' ho';rw[hod]at this
   simp at e this;exact this e),zEi a d _ hsz]
 | o::r,k,listed,vals,a,j+1,o',d,hd,h,hod,hsz,hl=>by
  simp only[zCd,Bool.and_eq_true]at hd;simp only[fill];rw[show k+(j+1)=k+1+j from by omega]at hl ⊢
  exact zEe r (k+1) listed vals _ j o' d hd.2 (by simpa using h) hod (by split<;>simp[zHM,hsz]) hl
structure RCtx (l:List Oper) (Ss:Nat→Value→World→Prop) (a0:Act) (w0:World) (o:Oper) (a:Act) (w:World):Prop where
 below:Below w0.heap.size w0 w
 frame:∀ t,l.any (fun o=>o.dst == some t)=false→a.eval (.tmp t)=a0.eval (.tmp t)
 dep:∀ j d,o.after.toList.any (fun e=>Region.binds .any e&&e.on == j)=true→(l[j]?).bind (·.dst)=some d→Ss j (a.eval (.tmp d)) w
 bound:a.tmps.size=a0.tmps.size
def zIG (P:Program) (o:Oper) (a:Act) (w:World) (s:Value→World→Prop):Prop :=
 o.wp P a w (fun a' w'=>∃ v,a'=a.put o.dst v∧Below w.heap.size w w'∧s v w') (fun _ _ _=>False)
def zBK (P:Program) (ops:Array Oper) (o:Oper) (a:Act) (w:World) (s:Value→World→Prop):Prop :=
 if Region.wanted o (yielded ops a.tmps) then zIG P o a w s else s undef w
theorem zDg {P:Program} {o:Oper} {a:Act} {w:World} {K:Act→World→Prop} {Q:Exit→Act→World→Prop} (h:o.wp P a w K (fun _ _ _=>False)):o.wp P a w K Q:=by
 unfold Oper.wp at *
 generalize (execOp a.eval o).run P w=r at *
 cases r with
 | ok n w' =>
  cases n<;>simp only[Oper.upon]at h ⊢ <;>
   first
    | exact h
    | exact Calls.mono h (fun e w'' he=>by
      cases e with
      | returned v=>exact he
      | panicked c=>exact he.elim
      | outgrown=>obtain⟨_,_,h⟩:=he;exact h.elim)
 | halt x w'=>cases x<;>simp only[Oper.upon]at h ⊢<;>exact h.elim
def zAw (n g:Nat):Array Bool:=(List.replicate n true++List.replicate g false).toArray
def zGU (ops:Array Oper) (n:Nat):Bool :=
 decide (n≤ops.size)&&zCd (ops.toList.take n) &&
 ((ops.toList.take n).zipIdx.all fun (o,i)=>o.after.all fun e=>!Region.binds .any e || decide (e.on<i)) &&
 (decide (n=ops.size) || (Region.sinkB .any ops n&&Region.chainB .any ops n)) &&
 Region.seqB .any ops (ops.size - n) n (zAw n (ops.size - n))
theorem zCk {ops:Array Oper} {n:Nat} {listed:Array Bool} (hn:n≤ops.size) (inv:HeadInv .any ops n listed) (h:∀ i,i<n→listed.getD i false=true):listed=zAw n (ops.size - n):=by
 have hs:=inv.size;apply Array.ext
 ·simp[zAw,hs];omega
 ·intro i h1 h2
  by_cases hi:i<n
  ·have:=h i hi;rw[Array.getD_eq_getD_getElem?,Array.getElem?_eq_getElem h1]at this;simp at this;rw[this];simp[zAw,hi]
  ·have:=inv.tail i (by omega) (by omega)
   rw[Array.getD_eq_getD_getElem?,Array.getElem?_eq_getElem h1]at this;simp at this;rw[this];simp[zAw,List.getElem_append,hi]
theorem zNF (t:Array Value) (d:List Deferred) (i:Nat) (v:Value):({tmps:=t,defers:=d}:Act).put (some i) v={tmps:=t.setIfInBounds i v,defers:=d}:=rfl
theorem pl:(∀ (t:Array Value) (d:List Deferred) (i:Nat) (v:Value),({tmps:=t,defers:=d}:Act).put (some i) v={tmps:=t.setIfInBounds i v,defers:=d})∧(∀ (a:Act) (v:Value),a.put none v=a)∧(∀ (a:Value) (l:List Value) (n:Nat),l.toArray.setIfInBounds n a=(l.set n a).toArray)∧(∀ (a b:Value) (l:List Value) (n:Nat),(a::l).set (n+1) b=a::l.set n b)∧∀ (a b:Value) (l:List Value),(a::l).set 0 b=b::l :=
 ⟨fun _ _ _ _=>rfl,fun _ _=>rfl,fun _ _ _=>List.setIfInBounds_toArray ..,fun _ _ _ _=>rfl,fun _ _ _=>rfl⟩
def blk:Value→Nat
 | .pointer (some a)=>a.block
 | .slice (some a) _ _=>a.block
 | _=>0
theorem zFv {P:Program} {id:Nat} {Q:Exit→Act→World→Prop} {a0:Act} {w0:World} {l:List Oper} (n:Nat) (Ss:Nat→Value→World→Prop) (D:Nat→Bool)
  (hm:P.follows .mixedOrders=true) (hB:zGU l.toArray n=true) (hsz:(l.take n).all (fun o=>match o.dst with|some d=>decide (d<a0.tmps.size)|none=>true)=true)
  (hst:∀ i,i<n→∀ v w w',Ss i v w→Below w.heap.size w w'→Ss i v w')
  (hlt:∀ i,i<n→D i=true→∀ v w,Ss i v w→blk v<w.heap.size)
  (hstep:∀ i o,i<n→l[i]?=some o→∀ a w,RCtx (l.take n) Ss a0 w0 o a w→zBK P l.toArray o a w (fun v w'=>Ss i v w'∧(D i=true→w.heap.size≤blk v)))
  (hend:∀ vals w,Below w0.heap.size w0 w→(∀ i,i<n→Ss i (vals i) w)→(∀ i j,i<n→j<n→i≠j→D i=true→D j=true→blk (vals i)≠blk (vals j))→wpList P l.toArray Q (l.drop n) (zBI (l.take n) 0 vals a0) w) :
  (Code.region id l.toArray true).wp P Q a0 w0:=by
 simp only[zGU,Bool.and_eq_true,decide_eq_true_eq]at hB;obtain⟨⟨⟨⟨hn,hd⟩,haf⟩,hsink⟩,hseq⟩:=hB;have hn':n≤l.length:=by simpa using hn
 have hd':zCd (l.take n)=true:=hd;have htl:(l.take n).length=n:=by simp;omega
 have key:∀ (rem:List Nat) (f:Nat),rem.length=f→rem.Nodup→∀ (listed:Array Bool) (a:Act) (w:World),HeadInv .any l.toArray n listed →
   (∀ i,i ∈ rem↔(i<n∧listed.getD i true=false))→(∃ vals,a=fill (l.take n) 0 listed vals a0∧(∀ i,i<n→listed.getD i false=true→Ss i (vals i) w)∧∀ i j,i<n→j<n→i≠j→listed.getD i false=true→listed.getD j false=true→D i=true→D j=true→blk (vals i)≠blk (vals j))→Below w0.heap.size w0 w →
   wpAny P .any l.toArray Q (f+(l.toArray.size - n)) listed a w:=by
  intro rem f
  induction f generalizing rem with
  | zero =>
   intro hl _ listed a w inv hrem ⟨vals,ha,hv,hp⟩ hb;have hr:rem=[]:=List.length_eq_zero_iff.1 hl;subst hr;have hall:∀ i,i<n→listed.getD i false=true:=by
    intro i hi;have h1:¬ listed.getD i true=false:=fun h=>by have:=(hrem i).2 ⟨hi,h⟩;simp at this
    have h2:i<listed.size:=by rw[inv.size];omega
    rw[Array.getD_eq_getD_getElem?,Array.getElem?_eq_getElem h2]at h1 ⊢
    simpa using h1
   have hlist:=zCk hn inv hall;have hw:=hend vals w hb (fun i hi=>hv i hi (hall i hi)) (fun i j hi hj hij=>hp i j hi hj hij (hall i hi) (hall j hj))
   rw[← zDP (l.take n) 0 listed vals a0 (fun i hi=>by rw[Nat.zero_add];exact hall i (by omega)),← ha]at hw
   rw[Nat.zero_add];have hdl:(l.drop n).length=l.toArray.size - n:=by simp
   rw[← hdl];refine wpAny_of_seq (l.drop n) n listed a w (fun j=>by simp) ?_ hw
   rw[hdl,hlist];exact hseq
  | succ f ih =>
   intro hl hnd listed a w inv hrem ⟨vals,ha,hv,hp⟩ hb;have hex:∃ i,i ∈ rem∧∀ j,j ∈ rem→i≤j:=by
    have:∀ (r:List Nat),r≠[]→∃ i,i ∈ r∧∀ j,j ∈ r→i≤j:=by
     intro r
     induction r with
     | nil=>intro h;exact(h rfl).elim
     | cons x r ihr =>
      intro _
      by_cases hr:r=[]
      ·subst hr;exact⟨x,by simp,by simp⟩
      ·obtain⟨i,hi,hmin⟩:=ihr hr
       by_cases hx:x≤i
       ·exact⟨x,by simp,fun j hj=>by rcases List.mem_cons.1 hj with rfl|hj;exact Nat.le_refl _;exact Nat.le_trans hx (hmin j hj)⟩
       ·exact⟨i,by simp[hi],fun j hj=>by rcases List.mem_cons.1 hj with rfl|hj;omega;exact hmin j hj⟩
    exact this rem (by intro h;subst h;simp at hl)
   have hready:Region.ready .any l.toArray listed≠[]:=by
    obtain⟨i,hi,hmin⟩:=hex;obtain⟨hin,hil⟩:=(hrem i).1 hi;have hlt:i<l.length:=by omega
    have hmem:i ∈ Region.ready .any l.toArray listed:=by
     refine mem_ready.2 ⟨hil,l[i],by simp[hlt],fun e he hbd=>?_⟩
     have h1:=List.all_eq_true.1 haf (l[i],i) (by
      rw[List.mem_zipIdx_iff_getElem?];simp[hin,hlt])
     have h2:=Array.all_eq_true'.1 h1 e he;simp[hbd]at h2;have hj:¬ e.on ∈ rem:=fun h=>by have:=hmin _ h;omega
     have h3:¬ listed.getD e.on true=false:=fun h=>hj ((hrem _).2 ⟨by omega,h⟩)
     have h4:e.on<listed.size:=by rw[inv.size];simp;omega
     rw[Array.getD_eq_getD_getElem?,Array.getElem?_eq_getElem h4]at h3 ⊢
     simpa using h3
    intro h;rw[h]at hmem;simp at hmem
   rw[show f+1+(l.toArray.size - n)=(f+(l.toArray.size - n))+1 from by omega]
   refine⟨fun h=>(hready h).elim,fun i hi=>?_⟩
   obtain⟨hil,o,ho,haft⟩:=mem_ready.1 hi;have hin:i<n:=by
    rcases Nat.lt_or_ge i n with h|h
    ·exact h
    ·exfalso
     obtain⟨i',hi',_⟩:=hex;obtain⟨hin',hil'⟩:=(hrem i').1 hi';have hisz:i<l.toArray.size:=(Array.getElem?_eq_some_iff.1 ho).1;simp only[Bool.or_eq_true,decide_eq_true_eq,Bool.and_eq_true]at hsink;rcases hsink with h0|⟨hs,hc⟩
     ·omega
     ·exact tail_waits hs hc (by omega) inv (n - i') i' rfl hin' hil' i h hi
   have ho':l[i]?=some o:=by simpa using ho
   have hot:(l.take n)[i]?=some o:=by rw[List.getElem?_take_of_lt hin];exact ho'
   obtain⟨d,hod⟩:∃ d,o.dst=some d:=by
    have:∀ (r:List Oper) (j:Nat),zCd r=true→r[j]?=some o→∃ d,o.dst=some d:=by
     intro r
     induction r with
     | nil=>intro j _ h;simp at h
     | cons x r ihr =>
      intro j hdd h;simp only[zCd,Bool.and_eq_true]at hdd
      cases j with
      | zero=>simp at h;subst h;exact Option.isSome_iff_exists.1 hdd.1.1
      | succ j=>exact ihr j hdd.2 (by simpa using h)
    exact this _ i hd' hot
   have hbd:∀ (j:Nat) (oj:Oper) (dj:Tmp),(l.take n)[j]?=some oj→oj.dst=some dj→dj<a0.tmps.size:=by
    intro j oj dj hj hdj;have:=List.all_eq_true.1 hsz oj (List.mem_of_getElem? hj)
    simpa [hdj] using this
   have hctx:RCtx (l.take n) Ss a0 w0 o a w:=by
    refine⟨hb,fun t ht=>by rw[ha];exact zBm _ _ _ _ _ t ht,fun j dj hj hdj=>?_,by rw[ha,zEB]⟩
    obtain⟨e,he,hbe⟩:=List.any_eq_true.1 hj;simp only[Bool.and_eq_true,beq_iff_eq]at hbe;have hlj:=haft e (Array.mem_toList_iff.1 he) hbe.1;rw[hbe.2]at hlj;obtain⟨oj,hoj,hdj'⟩:=Option.bind_eq_some_iff.1 hdj;have hjn:j<n:=by have:=(List.getElem?_eq_some_iff.1 hoj).1;omega
    rw[ha,zEe _ 0 listed vals a0 j oj dj hd' hoj hdj' (hbd j oj dj hoj hdj') (by rw[Nat.zero_add];exact hlj),Nat.zero_add]
    exact hv j hjn hlj
   have hstep':=hstep i o hin ho' a w hctx;have hnext:∀ v w',Below w.heap.size w w'→(Ss i v w'∧(D i=true→w.heap.size≤blk v))→wpAny P .any l.toArray Q (f+(l.toArray.size - n)) (listed.setIfInBounds i true) (a.put o.dst v) w':=by
    intro v w' hbw ⟨hsv,hfr⟩;have hmemi:i ∈ rem:=(hrem i).2 ⟨hin,hil⟩;refine ih (rem.erase i) (by rw[List.length_erase_of_mem hmemi,hl];rfl) (hnd.erase i) _ _ w' (inv.set hi hin) (fun j=>?_) ⟨fun j=>if j=i then v else vals j,?_,fun j hj hlj=>?_,fun j k hj hk hjk hlj hlk hDj hDk=>?_⟩ (hb.trans (hbw.mono hb.size))
    ·rw[hnd.mem_erase_iff,hrem j]
     by_cases hji:j=i
     ·subst hji;have hjs:j<listed.size:=by rw[inv.size];simp;omega
      simp[hjs]
     ·rw[getD_set_ne true (fun e=>hji e.symm)]
      simp[hji]
    ·have:=zDh (l.take n) 0 i listed vals a0 o d v hd' hot hod (by rw[Nat.zero_add];exact hil)
     rw[Nat.zero_add]at this;rw[this,← ha,hod]
    ·by_cases hji:j=i
     ·subst hji;simpa using hsv
     ·show Ss j (if j=i then v else vals j) w'
      rw[if_neg hji];rw[getD_set_ne false (fun e=>hji e.symm)]at hlj
      exact hst j hj _ _ _ (hv j hj hlj) hbw
    ·show blk (if j=i then v else vals j)≠blk (if k=i then v else vals k)
     by_cases hji:j=i
     ·subst hji;rw[if_pos rfl,if_neg (fun e=>hjk e.symm)]
      rw[getD_set_ne false hjk]at hlk;have h1:=hlt k hk hDk _ _ (hv k hk hlk);have h2:=hfr hDj;omega
     ·rw[if_neg hji];rw[getD_set_ne false (fun e=>hji e.symm)]at hlj
      by_cases hki:k=i
      ·subst hki;rw[if_pos rfl];have h1:=hlt j hj hDj _ _ (hv j hj hlj);have h2:=hfr hDk;omega
      ·rw[if_neg hki];rw[getD_set_ne false (fun e=>hki e.symm)]at hlk
       exact hp j k hj hk hjk hlj hlk hDj hDk
   unfold wpOp;simp only[ho];unfold zBK at hstep';split
   ·rename_i hw;rw[if_pos hw]at hstep';refine .inl (zDg (Oper.wp_mono (fun a' w' ⟨v,e,hbw,hsv⟩=>?_) hstep'))
    subst e;exact hnext v w' hbw hsv
   ·rename_i hw;rw[if_neg hw]at hstep';exact hnext undef w (Below.refl _ w) hstep'
 refine wp_region_any hm ?_
 have h0:=key (List.range n) n (by simp) List.nodup_range (Array.replicate l.toArray.size false) a0 {w0 with drawn:=w0.drawn+1}
  ⟨by simp,fun j oj _ hl=>(by rw[getD_replicate_false]at hl;cases hl),fun t _ ht=>getD_in (by simpa using ht) (getD_replicate_false _ _)⟩
  (fun i=>by
   rw[List.mem_range];constructor
   ·intro h;exact⟨h,getD_in (by simp;omega) (getD_replicate_false _ _)⟩
   ·intro h;exact h.1)
  ⟨fun _=>undef,(zCo _ _ _ _ _ (fun i=>getD_replicate_false _ _)).symm,fun i _ h=>(by rw[getD_replicate_false]at h;cases h),fun i j _ _ _ h=>(by rw[getD_replicate_false]at h;cases h)⟩
  ((Below.refl _ w0).drew)
 rw[show n+(l.toArray.size - n)=l.toArray.size from by omega]at h0
 exact h0
def zDZ (s:Value→World→Prop):Prop:=∀ v w w',s v w→Below w.heap.size w w'→s v w'
theorem zBL (x:Value):zDZ (fun v _=>v=x):=fun _ _ _ h _=>h
theorem zLd (xs:List Value):zDZ (fun v w=>Rd w w.heap.size v xs):=fun _ _ _ h hb=>(h.below hb).up hb.size
def zAq:List (Value→World→Prop)→Nat→Value→World→Prop
 | [],_=>fun _ _=>True
 | s::_,0=>s
 | _::r,i+1=>zAq r i
def zCq:List (Value→World→Prop)→Prop
 | []=>True
 | s::r=>zDZ s∧zCq r
theorem zCu:∀ (L:List (Value→World→Prop)) (i:Nat),zCq L→zDZ (zAq L i)
 | [],_,_=>fun _ _ _ h _=>h
 | _::_,0,h=>h.1
 | _::r,i+1,h=>zCu r i h.2
def Obl (P:Program) (l hd:List Oper) (L:List (Value→World→Prop)) (D:Nat→Bool) (a0:Act) (w0:World):List Oper→Nat→Prop
 | [],_=>True
 | o::r,i=>(∀ a w,RCtx hd (zAq L) a0 w0 o a w→zBK P l.toArray o a w (fun v w'=>zAq L i v w'∧(D i=true→w.heap.size≤blk v)))∧Obl P l hd L D a0 w0 r (i+1)
theorem Obl.get {P:Program} {l hd:List Oper} {L:List (Value→World→Prop)} {D:Nat→Bool} {a0:Act} {w0:World}:∀ (r:List Oper) (k:Nat),Obl P l hd L D a0 w0 r k→∀ i o,r[i]?=some o →
  ∀ a w,RCtx hd (zAq L) a0 w0 o a w→zBK P l.toArray o a w (fun v w'=>zAq L (k+i) v w'∧(D (k+i)=true→w.heap.size≤blk v))
 | [],_,_,_,_,h=>by simp at h
 | o::r,k,h,0,o',h'=>by simp at h';subst h';exact h.1
 | o::r,k,h,i+1,o',h'=>by
  have:=Obl.get r (k+1) h.2 i o' (by simpa using h')
  rwa [show k+1+i=k+(i+1) from by omega]at this
theorem zCH {P:Program} {id:Nat} {Q:Exit→Act→World→Prop} {a0:Act} {w0:World} {l:List Oper} (n:Nat) (L:List (Value→World→Prop)) (D:Nat→Bool)
  (hm:P.follows .mixedOrders=true) (hB:zGU l.toArray n=true) (hsz:(l.take n).all (fun o=>match o.dst with|some d=>decide (d<a0.tmps.size)|none=>true)=true)
  (hst:zCq L) (hlt:∀ i,i<n→D i=true→∀ v w,zAq L i v w→blk v<w.heap.size)
  (hstep:Obl P l (l.take n) L D a0 w0 (l.take n) 0)
  (hend:∀ vals w,Below w0.heap.size w0 w→(∀ i,i<n→zAq L i (vals i) w)→(∀ i j,i<n→j<n→i≠j→D i=true→D j=true→blk (vals i)≠blk (vals j)) →
   wpList P l.toArray Q (l.drop n) (zBI (l.take n) 0 vals a0) w) :
  (Code.region id l.toArray true).wp P Q a0 w0 :=
 zFv n (zAq L) D hm hB hsz (fun i _ v w w' h hb=>zCu L i hst v w w' h hb) hlt
  (fun i o hi ho a w hc=>by
   have:=Obl.get (l.take n) 0 hstep i o (by rw[List.getElem?_take_of_lt hi];exact ho) a w hc
   rwa [Nat.zero_add]at this) hend
theorem wr_ {P:Program} {id:Nat} {Q:Exit→Act→World→Prop} {a0:Act} {w0:World} {l:List Oper} (n:Nat) (L:List (Value→World→Prop)) (hstep:Obl P l (l.take n) L (fun _=>false) a0 w0 (l.take n) 0)
  (hend:∀ vals w,Below w0.heap.size w0 w→(∀ i,i<n→zAq L i (vals i) w)→(∀ i j:Nat,i<n→j<n→i≠j→false=true→false=true→blk (vals i)≠blk (vals j))→wpList P l.toArray Q (l.drop n) (zBI (l.take n) 0 vals a0) w)
  (hm:P.follows .mixedOrders=true:=by kernel_rfl) (hB:zGU l.toArray n=true:=by kernel_rfl) (hsz:(l.take n).all (fun o=>match o.dst with|some d=>decide (d<a0.tmps.size)|none=>true)=true:=by kernel_rfl)
  (hst:zCq L:=by repeat (first|exact trivial|refine⟨zBL _,?_⟩)):(Code.region id l.toArray true).wp P Q a0 w0:=zCH n L (fun _=>false) hm hB hsz hst (fun _ _ h=>by cases h) hstep hend
theorem zC1 {P:Program} {ops:Array Oper} {o:Oper} {a:Act} {w w':World} {s:Value→World→Prop} {v:Value} (hg:Region.wanted o (yielded ops a.tmps)=true)
  (hr:(execOp a.eval o).run P w=.ok (.value v) w') (hb:Below w.heap.size w w') (hs:s v w'):zBK P ops o a w s:=by
 unfold zBK;rw[if_pos hg];unfold zIG Oper.wp;rw[hr];exact⟨v,rfl,hb,hs⟩
theorem zNd {P:Program} {ops:Array Oper} {o:Oper} {a:Act} {w:World} {s:Value→World→Prop} {f:FuncId} {args:Array Value} (hg:Region.wanted o (yielded ops a.tmps)=true)
  (hr:(execOp a.eval o).run P w=.ok (.enter f args) w) (hc:Calls P f args w fun e w'=>∃ v,e=.returned v∧Below w.heap.size w w'∧s v w'):zBK P ops o a w s:=by
 unfold zBK;rw[if_pos hg];unfold zIG Oper.wp;rw[hr];exact hc.mono fun e w' ⟨v,he,hb,hs⟩=>by subst he;exact⟨v,rfl,hb,hs⟩
theorem zNK {P:Program} {ops:Array Oper} {o:Oper} {a:Act} {w:World} {s:Value→World→Prop} (hg:Region.wanted o (yielded ops a.tmps)=false) (hs:s undef w):zBK P ops o a w s:=by
 unfold zBK;rw[if_neg (by rw[hg];decide)];exact hs
theorem zAS {ops:Array Oper} {a:Act} {j:Nat} {d:Tmp} {b:Bool} (h1:(ops[j]?).bind (·.dst)=some d) (h2:a.eval (.tmp d)=.bool b):yielded ops a.tmps j=some b:=by
 unfold yielded;rw[h1];simp only[Option.bind_some];simp only[Act.eval,Array.getD_eq_getD_getElem?]at h2
 cases h3:a.tmps[d]? with
 | none=>rw[h3]at h2;simp[undef]at h2
 | some x=>rw[h3]at h2;simp at h2;subst h2;rfl
theorem zAn {ops:Array Oper} {o:Oper} {a:Act} {j:Nat} {b:Bool} (hg:o.guard=some (j,b)) (hy:yielded ops a.tmps j=some b):Region.wanted o (yielded ops a.tmps)=true:=by
 simp[Region.wanted,hg,hy]
theorem zCs {ops:Array Oper} {o:Oper} {a:Act} {j:Nat} {b c:Bool} (hg:o.guard=some (j,b)) (hy:yielded ops a.tmps j=some c) (hbc:c≠b):Region.wanted o (yielded ops a.tmps)=false:=by
 simp[Region.wanted,hg,hy,hbc]
theorem zAY {P:Program} {ops:Array Oper} {o:Oper} {a:Act} {w:World} {x:Operand} {v:Value} {D:Prop} (hg:Region.wanted o (yielded ops a.tmps)=true) (hop:o.op=Op.move x) (hx:a.eval x=v) (hD:¬ D:=by decide) :
  zBK P ops o a w (fun v' _=>v'=v∧(D→w.heap.size≤blk v')):=by
 refine zC1 hg (v:=v) (w':=w) ?_ (Below.refl _ w) ⟨rfl,fun h=>(hD h).elim⟩
 simp only[execOp,hop,hx];rfl
theorem zFl {P:Program} {ops:Array Oper} {o:Oper} {a:Act} {w:World} {x:Operand} {v:Value} {D:Prop} (hg:Region.wanted o (yielded ops a.tmps)=true) (hop:o.op=Op.assign x) (hx:a.eval x=v) (hD:¬ D:=by decide) :
  zBK P ops o a w (fun v' _=>v'=v∧(D→w.heap.size≤blk v')):=by
 refine zC1 hg (v:=v) (w':=w) ?_ (Below.refl _ w) ⟨rfl,fun h=>(hD h).elim⟩
 simp only[execOp,hop,hx];rfl
theorem wg {ops:Array Oper} {o:Oper} {a:Act} {j:Nat} {b:Bool} {d:Tmp} (hy:a.eval (.tmp d)=.bool b) (hg:o.guard=some (j,b):=by exact rfl) (hj:(ops[j]?).bind (·.dst)=some d:=by exact rfl):Region.wanted o (yielded ops a.tmps)=true:=zAn hg (zAS hj hy)
abbrev pt (b k:Nat):Value:=.pointer (some ⟨b,k,none⟩)
theorem rsk {P:Program} {ops:Array Oper} {o:Oper} {a:Act} {w:World} {j:Nat} {b c:Bool} {d:Tmp} {D:Prop} (hy:a.eval (.tmp d)=.bool c) (hg:o.guard=some (j,b):=by rfl) (hj:(ops[j]?).bind (·.dst)=some d:=by rfl) (hbc:c≠b:=by decide) (hD:¬ D:=by decide) :
  zBK P ops o a w (fun v w'=>v=undef∧(D→w.heap.size≤blk v)):=zNK (zCs hg (zAS hj hy) hbc) ⟨rfl,fun h=>(hD h).elim⟩
theorem e_ {L:List (Value→World→Prop)} {n:Nat} {vals:Nat→Value} {w:World} {x:Value} (h:∀ i,i<n→zAq L i (vals i) w) (i:Nat) (hi:i<n:=by decide) (he:zAq L i (vals i) w=(vals i=x):=by exact rfl):vals i=x:=he ▸ h i hi
theorem fa:(∀ (n:Nat) (a:Oper) (l:List Oper),List.take (n+1) (a::l)=a::List.take n l)∧(∀ l:List Oper,List.take 0 l=[])∧(∀ (n:Nat) (a:Oper) (l:List Oper),List.drop (n+1) (a::l)=List.drop n l)∧(∀ l:List Oper,List.drop 0 l=l)∧(∀ n:Nat,List.drop n ([]:List Oper)=[])∧(∀ n:Nat,List.take n ([]:List Oper)=[]) ∧
  (∀ (k:Nat) (v:Nat→Value) (a:Act),zBI [] k v a=a)∧(∀ (o:Oper) (l:List Oper) (k:Nat) (v:Nat→Value) (a:Act),zBI (o::l) k v a=zBI l (k+1) v (a.put o.dst (v k)))∧∀ n:Nat,0+n=n :=
 ⟨fun _ _ _=>rfl,fun _=>rfl,fun _ _ _=>rfl,fun _=>rfl,fun n=>by cases n<;>rfl,fun n=>by cases n<;>rfl,fun _ _ _=>rfl,fun _ _ _ _ _=>rfl,Nat.zero_add⟩
theorem RCtx.d {l:List Oper} {Ss:Nat→Value→World→Prop} {a0:Act} {w0:World} {o:Oper} {a:Act} {w:World} (h:RCtx l Ss a0 w0 o a w) (j d:Nat) (h1:o.after.toList.any (fun e=>Region.binds .any e&&e.on == j)=true:=by exact rfl) (h2:(l[j]?).bind (·.dst)=some d:=by exact rfl):Ss j (a.eval (.tmp d)) w:=h.dep j d h1 h2
theorem RCtx.f {l:List Oper} {Ss:Nat→Value→World→Prop} {a0:Act} {w0:World} {o:Oper} {a:Act} {w:World} (h:RCtx l Ss a0 w0 o a w) (t:Nat) (h1:l.any (fun o=>o.dst == some t)=false:=by exact rfl):a.eval (.tmp t)=a0.eval (.tmp t):=h.frame t h1
end
section
open Go.RowKit Go.Shelf
attribute [local go_sem] Oper.semAt_some
def IsBox (n0:Nat) (s:Nat→Nat) (v:Value) (w:World):Prop:=∃ g,v=pt g 0∧n0≤g∧SBox w g 28 s
theorem zE1 (n0:Nat) (s:Nat→Nat):zDZ (IsBox n0 s):=fun _ _ _ ⟨g,e,h1,h2⟩ hb=>⟨g,e,h1,h2.below hb h2.lt⟩
theorem IsBox.lt {n0:Nat} {s:Nat→Nat} {v:Value} {w:World} (h:IsBox n0 s v w):blk v<w.heap.size:=by
 obtain⟨g,rfl,_,h2⟩:=h;exact h2.lt
theorem zHK {ops:Array Oper} {o:Oper} {a:Act} {w:World} {n0:Nat} {D:Prop} (hg:Region.wanted o (yielded ops a.tmps)=true) (hop:o.op=Op.alloc 28) (hn:n0≤w.heap.size) :
  zBK Tryd.prog ops o a w (fun v w'=>IsBox n0 zAF v w'∧(D→w.heap.size≤blk v)):=by
 refine zC1 hg (v:=.pointer (some ⟨w.heap.size,0,none⟩)) (w':=w.alloc (.cells (setC zAF) 28)) ?_ ((Below.refl _ w).alloc (Nat.le_refl _) _) ⟨⟨w.heap.size,rfl,hn,SBox.new w _ _⟩,fun _=>Nat.le_refl _⟩
 simp[execOp,hop,go_sem];rfl
theorem zKU {ops:Array Oper} {o:Oper} {a:Act} {w:World} {x y z:Operand} {s t u:Nat→Nat} {D:Prop} (hg:Region.wanted o (yielded ops a.tmps)=true)
  (hop:o.op=Op.buildSlice 96 3 #[(0,x),(1,y),(2,z)]) (hx:a.eval x=setV s) (hy:a.eval y=setV t) (hz:a.eval z=setV u) (hD:¬ D:=by decide) :
  zBK Tryd.prog ops o a w (fun v w'=>RdS w' w'.heap.size v [s,t,u]∧(D→w.heap.size≤blk v)):=by
 refine zC1 hg (v:=.slice (some ⟨w.heap.size,0,none⟩) 3 3) (w':=w.alloc (.cells (rowC [s,t,u]).toArray 28)) ?_ ((Below.refl _ w).alloc (Nat.le_refl _) _)
  ⟨(RdS.lit w [s,t,u] 28 (by simp[maxLen])).up (by rw[World.size_alloc];exact Nat.le_refl _),fun h=>(hD h).elim⟩
 simp only[execOp,hop];simp only[List.map_toArray,List.map_cons,List.map_nil,hx,hy,hz];unfold setV;simp[go_sem];rfl
theorem zEE {ops:Array Oper} {o:Oper} {a:Act} {w:World} {x y:Operand} {s t:Nat→Nat} {D:Prop} (hg:Region.wanted o (yielded ops a.tmps)=true)
  (hop:o.op=Op.buildSlice 96 2 #[(0,x),(1,y)]) (hx:a.eval x=setV s) (hy:a.eval y=setV t) (hD:¬ D:=by decide) :
  zBK Tryd.prog ops o a w (fun v w'=>RdS w' w'.heap.size v [s,t]∧(D→w.heap.size≤blk v)):=by
 refine zC1 hg (v:=.slice (some ⟨w.heap.size,0,none⟩) 2 2) (w':=w.alloc (.cells (rowC [s,t]).toArray 28)) ?_ ((Below.refl _ w).alloc (Nat.le_refl _) _)
  ⟨(RdS.lit w [s,t] 28 (by simp[maxLen])).up (by rw[World.size_alloc];exact Nat.le_refl _),fun h=>(hD h).elim⟩
 simp only[execOp,hop];simp only[List.map_toArray,List.map_cons,List.map_nil,hx,hy];unfold setV;simp[go_sem];rfl
end
section
open Go.RowKit
theorem zBn (n g i:Nat) (d:Bool) (h:i<n+g):(zAw n g).getD i d=decide (i<n):=by
 have hs:i<(zAw n g).size:=by simp[zAw];omega
 rw[Array.getD_eq_getD_getElem?,Array.getElem?_eq_getElem hs];simp only[zAw,Option.getD_some,List.getElem_toArray]
 by_cases hi:i<n
 ·rw[List.getElem_append_left (by simpa using hi)];simp[hi]
 ·rw[List.getElem_append_right (by simpa using hi)];simp[hi]
theorem zGW (n g i:Nat) (d:Bool) (h:n+g≤i):(zAw n g).getD i d=d:=by
 rw[Array.getD_eq_getD_getElem?,Array.getElem?_eq_none (by simp[zAw];omega)];rfl
def seqB (l:List Oper) (n:Nat):Bool:=decide (n≤l.length)&&zCd (l.take n)&&((l.take n).zipIdx.all fun (o,i)=>o.after.all fun e=>!Region.binds .any e || decide (e.on<i))
theorem zGa {P:Program} {id:Nat} {Q:Exit→Act→World→Prop} {a0:Act} {w0:World} {l:List Oper} (n:Nat) (Ss:Nat→Value→World→Prop) (D:Nat→Bool)
  (hB:seqB l n=true) (hsz:(l.take n).all (fun o=>match o.dst with|some d=>decide (d<a0.tmps.size)|none=>true)=true)
  (hst:∀ i,i<n→∀ v w w',Ss i v w→Below w.heap.size w w'→Ss i v w')
  (hlt:∀ i,i<n→D i=true→∀ v w,Ss i v w→blk v<w.heap.size)
  (hstep:∀ i o,i<n→l[i]?=some o→∀ a w,RCtx (l.take n) Ss a0 w0 o a w→zBK P l.toArray o a w (fun v w'=>Ss i v w'∧(D i=true→w.heap.size≤blk v)))
  (hend:∀ vals w,Below w0.heap.size w0 w→(∀ i,i<n→Ss i (vals i) w)→(∀ i j,i<n→j<n→i≠j→D i=true→D j=true→blk (vals i)≠blk (vals j))→wpList P l.toArray Q (l.drop n) (zBI (l.take n) 0 vals a0) w) :
  (Code.region id l.toArray false).wp P Q a0 w0:=by
 simp only[seqB,Bool.and_eq_true,decide_eq_true_eq]at hB;obtain⟨⟨hn,hd'⟩,haf⟩:=hB;have htl:(l.take n).length=n:=by simp;omega
 have hdst:∀ (i:Nat) (o:Oper),(l.take n)[i]?=some o→∃ d,o.dst=some d:=by
  intro i o h;have:∀ (r:List Oper) (j:Nat),zCd r=true→r[j]?=some o→∃ d,o.dst=some d:=by
   intro r
   induction r with
   | nil=>intro j _ h;simp at h
   | cons x r ihr =>
    intro j hdd h;simp only[zCd,Bool.and_eq_true]at hdd
    cases j with
    | zero=>simp at h;subst h;exact Option.isSome_iff_exists.1 hdd.1.1
    | succ j=>exact ihr j hdd.2 (by simpa using h)
  exact this _ i hd' h
 have hbd:∀ (j:Nat) (oj:Oper) (dj:Tmp),(l.take n)[j]?=some oj→oj.dst=some dj→dj<a0.tmps.size:=by
  intro j oj dj hj hdj;have:=List.all_eq_true.1 hsz oj (List.mem_of_getElem? hj)
  simpa [hdj] using this
 have key:∀ (f i:Nat),i+f=n→∀ (vals:Nat→Value) (a:Act) (w:World),a=fill (l.take n) 0 (zAw i (n - i)) vals a0→(∀ j,j<i→Ss j (vals j) w) →
   (∀ j k,j<i→k<i→j≠k→D j=true→D k=true→blk (vals j)≠blk (vals k))→Below w0.heap.size w0 w→wpList P l.toArray Q (l.drop i) a w:=by
  intro f
  induction f with
  | zero =>
   intro i hi vals a w ha hv hp hb;have hi':i=n:=by omega
   subst hi';rw[ha,zDP (l.take i) 0 _ vals a0 (fun j hj=>by rw[Nat.zero_add,zBn _ _ _ _ (by omega)];simp;omega)]
   exact hend vals w hb hv hp
  | succ f ih =>
   intro i hi vals a w ha hv hp hb;have hin:i<n:=by omega
   have hil:i<l.length:=by omega
   have hot:(l.take n)[i]?=some l[i]:=by rw[List.getElem?_take_of_lt hin];simp[hil]
   obtain⟨d,hod⟩:=hdst i _ hot;rw[List.drop_eq_getElem_cons hil];have hctx:RCtx (l.take n) Ss a0 w0 l[i] a w:=by
    refine⟨hb,fun t ht=>by rw[ha];exact zBm _ _ _ _ _ t ht,fun j dj hj hdj=>?_,by rw[ha,zEB]⟩
    obtain⟨e,he,hbe⟩:=List.any_eq_true.1 hj;simp only[Bool.and_eq_true,beq_iff_eq]at hbe;have h1:=List.all_eq_true.1 haf (l[i],i) (by rw[List.mem_zipIdx_iff_getElem?];simp[hin,hil])
    have h2:=Array.all_eq_true'.1 h1 e (Array.mem_toList_iff.1 he);simp only[hbe.1,Bool.not_true,Bool.false_or,decide_eq_true_eq,hbe.2]at h2;obtain⟨oj,hoj,hdj'⟩:=Option.bind_eq_some_iff.1 hdj;rw[ha,zEe _ 0 _ vals a0 j oj dj hd' hoj hdj' (hbd j oj dj hoj hdj') (by rw[Nat.zero_add,zBn _ _ _ _ (by omega)];simpa using h2),Nat.zero_add]
    exact hv j h2
   have hstep':=hstep i l[i] hin (by simp[hil]) a w hctx
   have hnext:∀ v w',Below w.heap.size w w'→(Ss i v w'∧(D i=true→w.heap.size≤blk v))→wpList P l.toArray Q (l.drop (i+1)) (a.put l[i].dst v) w':=by
    intro v w' hbw ⟨hsv,hfr⟩;refine ih (i+1) (by omega) (fun j=>if j=i then v else vals j) _ w' ?_ (fun j hj=>?_) (fun j k hj hk hjk hDj hDk=>?_) (hb.trans (hbw.mono hb.size))
    ·have h1:=zDh (l.take n) 0 i (zAw i (n - i)) vals a0 l[i] d v hd' hot hod (by rw[Nat.zero_add,zBn _ _ _ _ (by omega)];simp)
     rw[Nat.zero_add]at h1;rw[ha,hod,← h1];refine zDU _ _ _ _ _ _ _ (fun j hj=>⟨?_,rfl⟩)
     rw[Nat.zero_add,zBn _ _ _ _ (by omega)]
     by_cases hji:j=i
     ·subst hji;have:j<(zAw j (n - j)).size:=by simp[zAw];omega
      simp[Array.getD_eq_getD_getElem?,this]
     ·rw[getD_set_ne false (fun e=>hji e.symm),zBn _ _ _ _ (by omega)]
      simp;omega
    ·by_cases hji:j=i
     ·subst hji;simpa using hsv
     ·show Ss j (if j=i then v else vals j) w'
      rw[if_neg hji];exact hst j (by omega) _ _ _ (hv j (by omega)) hbw
    ·show blk (if j=i then v else vals j)≠blk (if k=i then v else vals k)
     by_cases hji:j=i
     ·have hki:k≠i:=fun e=>hjk (hji.trans e.symm)
      rw[if_pos hji,if_neg hki];have h1:=hfr (hji ▸ hDj);have h2:=hlt k (by omega) hDk _ _ (hv k (by omega))
      omega
     ·rw[if_neg hji]
      by_cases hki:k=i
      ·rw[if_pos hki];have h1:=hfr (hki ▸ hDk);have h2:=hlt j (by omega) hDj _ _ (hv j (by omega))
       omega
      ·rw[if_neg hki];exact hp j k (by omega) (by omega) hjk hDj hDk
   unfold zBK at hstep'
   show wpList P l.toArray Q (l[i]::l.drop (i+1)) a w
   unfold wpList;split
   ·rename_i hw;rw[if_pos hw]at hstep';refine .inl (zDg (Oper.wp_mono (fun a' w' ⟨v,e,hbw,hsv⟩=>?_) hstep'))
    subst e;exact hnext v w' hbw hsv
   ·rename_i hw;rw[if_neg hw]at hstep';exact hnext undef w (Below.refl _ w) hstep'
 refine wp_region_lit ?_
 have:=key n 0 (by omega) (fun _=>undef) a0 w0 (zCo _ _ _ _ _ (fun j=>by
  rcases Nat.lt_or_ge j n with h|h
  ·rw[zBn _ _ _ _ (by omega)];simp
  ·rw[zGW _ _ _ _ (by omega)])).symm (fun j h=>by omega) (fun j k h=>by omega) (Below.refl _ _)
 simpa using this
theorem zHd {P:Program} {id:Nat} {Q:Exit→Act→World→Prop} {a0:Act} {w0:World} {l:List Oper} (n:Nat) (L:List (Value→World→Prop)) (D:Nat→Bool)
  (hB:seqB l n=true) (hsz:(l.take n).all (fun o=>match o.dst with|some d=>decide (d<a0.tmps.size)|none=>true)=true)
  (hst:zCq L) (hlt:∀ i,i<n→D i=true→∀ v w,zAq L i v w→blk v<w.heap.size)
  (hstep:Obl P l (l.take n) L D a0 w0 (l.take n) 0)
  (hend:∀ vals w,Below w0.heap.size w0 w→(∀ i,i<n→zAq L i (vals i) w)→(∀ i j,i<n→j<n→i≠j→D i=true→D j=true→blk (vals i)≠blk (vals j)) →
   wpList P l.toArray Q (l.drop n) (zBI (l.take n) 0 vals a0) w) :
  (Code.region id l.toArray false).wp P Q a0 w0 :=
 zGa n (zAq L) D hB hsz (fun i _ v w w' h hb=>zCu L i hst v w w' h hb) hlt
  (fun i o hi ho a w hc=>by
   have:=Obl.get (l.take n) 0 hstep i o (by rw[List.getElem?_take_of_lt hi];exact ho) a w hc
   rwa [Nat.zero_add]at this) hend
theorem ws_ {P:Program} {id:Nat} {Q:Exit→Act→World→Prop} {a0:Act} {w0:World} {l:List Oper} (n:Nat) (L:List (Value→World→Prop)) (hstep:Obl P l (l.take n) L (fun _=>false) a0 w0 (l.take n) 0)
  (hend:∀ vals w,Below w0.heap.size w0 w→(∀ i,i<n→zAq L i (vals i) w)→(∀ i j:Nat,i<n→j<n→i≠j→false=true→false=true→blk (vals i)≠blk (vals j))→wpList P l.toArray Q (l.drop n) (zBI (l.take n) 0 vals a0) w)
  (hB:seqB l n=true:=by kernel_rfl) (hsz:(l.take n).all (fun o=>match o.dst with|some d=>decide (d<a0.tmps.size)|none=>true)=true:=by kernel_rfl)
  (hst:zCq L:=by repeat (first|exact trivial|refine⟨zBL _,?_⟩)):(Code.region id l.toArray false).wp P Q a0 w0:=zHd n L (fun _=>false) hB hsz hst (fun _ _ h=>by cases h) hstep hend
section
variable {P:Program} {ops:Array Oper} {o:Oper} {a:Act} {w:World} {D:Prop}
theorem zAB {v:Value} (hg:Region.wanted o (yielded ops a.tmps)=true) (hr:(execOp a.eval o).run P w=.ok (.value v) w) (hD:¬ D:=by decide) :
  zBK P ops o a w (fun v' _=>v'=v∧(D→w.heap.size≤blk v')) :=
 zC1 hg hr (Below.refl _ w) ⟨rfl,fun h=>(hD h).elim⟩
theorem zNv:(#[]:Array Operand).map a.eval=#[]:=by simp
theorem zCC {x:Operand} {u:Value} (h:a.eval x=u):(#[x]:Array Operand).map a.eval=#[u]:=by simp[h]
theorem zHO {x y:Operand} {u v:Value} (h:a.eval x=u∧a.eval y=v):(#[x,y]:Array Operand).map a.eval=#[u,v]:=by simp[h.1,h.2]
theorem zOI {x y z:Operand} {u v t:Value} (h:a.eval x=u∧a.eval y=v∧a.eval z=t):(#[x,y,z]:Array Operand).map a.eval=#[u,v,t]:=by simp[h.1,h.2.1,h.2.2]
theorem zD1 {s:Value→World→Prop} {f:FuncId} {xs:Array Operand} {ts:Array TypeId} {vs:Array Value} (hg:Region.wanted o (yielded ops a.tmps)=true)
  (hop:o.op=Op.call {callee:=Callee.value (Operand.func f),args:=xs,argTypes:=ts}) (hf:∀ args w,(callFunc f args).run P w=.ok (.enter f args) w) (hx:xs.map a.eval=vs)
  (hc:Calls P f vs w fun e w'=>∃ v,e=.returned v∧Below w.heap.size w w'∧s v w'):zBK P ops o a w s:=by
 refine zNd hg (f:=f) (args:=vs) ?_ hc;simp only[execOp,hop];simp[resolve,hx];rw[show a.eval (Operand.func f)=.func (.func f) #[] #[] from rfl]
 simp[Deferred.ofValue,invoke,hf]
theorem zCN {f:FuncId} {xs:Array Operand} {ts:Array TypeId} {vs:Array Value} {v:Value} (hg:Region.wanted o (yielded ops a.tmps)=true)
  (hop:o.op=Op.call {callee:=Callee.value (Operand.func f),args:=xs,argTypes:=ts}) (hf:∀ args w,(callFunc f args).run P w=.ok (.enter f args) w) (hx:xs.map a.eval=vs)
  (hc:Calls P f vs w fun e w'=>e=.returned v∧Below w.heap.size w w') (hD:¬ D:=by decide):zBK P ops o a w (fun v' _=>v'=v∧(D→w.heap.size≤blk v')) :=
 zD1 hg hop hf hx (hc.mono fun _ _ ⟨he,hb⟩=>⟨v,he,hb,rfl,fun h=>(hD h).elim⟩)
theorem zFJ {x:Operand} {t e:TypeId} (hu:P.underlying t=some (.slice e)) {p:Option Addr} {n c:Nat} (hg:Region.wanted o (yielded ops a.tmps)=true) (hop:o.op=Op.call {callee:=Callee.builtin Builtin.len,args:=#[x],argTypes:=#[t]})
  (hx:a.eval x=.slice p n c) (hD:¬ D:=by decide):zBK P ops o a w (fun v' _=>v'=.int .i64 n∧(D→w.heap.size≤blk v')):=by
 refine zAB hg ?_ hD;simp only[execOp,hop,resolve,invoke,builtin,List.map_toArray,List.map_cons,List.map_nil,hx];simp[go_sem,Builtin.len_,run_underlying hu]
theorem zHy {x y:Operand} {T e:TypeId} {sz g off n c i q:Nat} {k:IntKind} (hu:P.underlying T=some (.slice e)) (hs:∀ w,(sizeOf e).run P w=.ok sz w) (hg:Region.wanted o (yielded ops a.tmps)=true)
  (hop:o.op=Op.indexAddr T x y) (hx:a.eval x=.slice (some ⟨g,off,none⟩) n c) (hy:a.eval y=.int k (i:Int)) (hi:i<n) (hq:off+i * sz=q) (hD:¬ D:=by decide) :
  zBK P ops o a w (fun v' _=>v'=.pointer (some ⟨g,q,none⟩)∧(D→w.heap.size≤blk v')):=by
 subst hq;refine zAB hg ?_ hD;simp only[execOp,hop,hx,hy];simp[Instr.indexAt,asIntOf,go_sem,run_underlying hu,hs];intro hc;omega
end
section
variable {P:Program} {ops:Array Oper} {o:Oper} {a:Act} {w:World} {D:Prop}
end

inductive Res where
 | blk (b:Nat) (cs:Array Value) (T:TypeId)
 | row (v:Value) (e:TypeId) (sz n:Nat) (xs:List Value)
 | mp (b:Nat) (es:Array MapEntry) (clock:Nat)
  | kn (F:Nat→Prop) (S:World→Prop)
def Res.place:Res→Option Nat
 | .blk b _ _=>some b
 | .row v _ _ _ _=>v.ownBlock
 | .mp b _ _=>some b
 | .kn _ _=>none
def Res.foot:Res→Nat→Prop
 | .blk b _ _,k=>some b=some k
 | .row v _ _ _ _,k=>v.ownBlock=some k
 | .mp b _ _,k=>some b=some k
 | .kn F _,k=>F k
theorem Res.place_foot {r:Res} {b:Nat} (h:r.place=some b):r.foot b:=by cases r<;>first|exact h|cases h
def Res.Holds (M:Nat→Prop) (base:Nat) (W:World):Res→Prop
 | .blk b cs T=>(base≤b∨M b)∧W.heap[b]?=some (.cells cs T (0,0))
 | .row v e sz n xs=>W.ownsRow base e sz v n xs
 | .mp b es c=>base≤b∧W.heap[b]?=some (.map es c)
 | .kn F S=>(∀ b,F b→b<W.heap.size)∧∀ W':World,(∀ b,F b→W'.heap[b]?=W.heap[b]?)→S W'
theorem Res.Holds.lt {M:Nat→Prop} {base:Nat} {W:World} {r:Res} (h:r.Holds M base W):∀ b,r.place=some b→(base≤b∨M b)∧b<W.heap.size:=by
 intro b hb
 cases r with
 | blk b' cs T=>cases hb;exact⟨h.1,(Array.getElem?_eq_some_iff.1 h.2).1⟩
 | row v e sz n xs=>exact⟨.inl (World.ownsRow.lt h b hb).1,(World.ownsRow.lt h b hb).2⟩
 | mp b' es c=>cases hb;exact⟨.inl h.1,(Array.getElem?_eq_some_iff.1 h.2).1⟩
 | kn F S=>cases hb
theorem Res.Holds.ltf {M:Nat→Prop} {base:Nat} {W:World} {r:Res} (h:r.Holds M base W):∀ b,r.foot b→b<W.heap.size:=by
 intro b hb
 cases r with
 | kn F S=>exact h.1 b hb
 | _=>exact(h.lt b hb).2
theorem Res.Holds.kept {M:Nat→Prop} {base:Nat} {W W':World} {r:Res} (h:r.Holds M base W) (hk:∀ b,r.foot b→W'.heap[b]?=W.heap[b]?) (hs:W.heap.size≤W'.heap.size):r.Holds M base W':=by
 cases r with
 | blk b' cs T=>exact⟨h.1,(hk b' rfl).trans h.2⟩
 | row v e sz n xs =>
  obtain⟨hl,h'|⟨g,cap,cur,rfl,hb,hg,r⟩⟩:=h
  ·exact⟨hl,.inl h'⟩
  ·exact⟨hl,.inr ⟨g,cap,cur,rfl,hb,(hk g rfl).trans hg,r⟩⟩
 | mp b' es c=>exact⟨h.1,(hk b' rfl).trans h.2⟩
 | kn F S=>exact⟨fun b hb=>Nat.lt_of_lt_of_le (h.1 b hb) hs,fun W2 h2=>h.2 W2 (fun b hb=>(h2 b hb).trans (hk b hb))⟩
def zJd (r s:Res):Prop:=∀ b,r.place=some b→¬ s.foot b
structure HoldG (M:Nat→Prop) (w0 W:World) (l:List Res):Prop where
 keep:KeepBut M w0.heap.size w0 W
 all:∀ (i:Nat) (r:Res),l[i]?=some r→r.Holds M w0.heap.size W
 apart:∀ (i j:Nat) (r s:Res),i≠j→l[i]?=some r→l[j]?=some s→zJd r s
abbrev Hold (w0 W:World) (l:List Res):Prop:=HoldG (fun _=>False) w0 W l
theorem Hold.start (w0:World):Hold w0 w0 []:=⟨KeepBut.refl _ _ _,fun i r h=>by simp at h,fun i j r s _ h=>by simp at h⟩
theorem HoldG.below {w0 W:World} {l:List Res} (H:Hold w0 W l):Below w0.heap.size w0 W:=H.keep.below (Nat.le_refl _) (fun _ _ h=>h)
theorem HoldG.startB {w0:World} {b:Nat} {cs:Array Value} {T:TypeId} (h:w0.heap[b]?=some (.cells cs T (0,0))):HoldG (·=b) w0 w0 [.blk b cs T] :=
 ⟨KeepBut.refl _ _ _,fun i r hr=>by
  match i,hr with
  | 0,hr=>cases hr;exact⟨.inr rfl,h⟩
  | i+1,hr=>simp at hr,fun i j r s hij h1 h2=>by
  match i,j,h1,h2 with
  | 0,0,_,_=>exact absurd rfl hij
  | 0,j+1,_,h2=>simp at h2
  | i+1,_,h1,_=>simp at h1⟩
section
variable {M:Nat→Prop}
theorem HoldG.call {w0 W W':World} {l:List Res} (H:HoldG M w0 W l) (h:Below W.heap.size W W'):HoldG M w0 W' l :=
 ⟨H.keep.trans ((KeepBut.of_below h).mono H.keep.size (fun _ _ m=>m)),fun i r hi=>(H.all i r hi).kept (fun b hb=>h.block b ((H.all i r hi).ltf b hb)) h.size,H.apart⟩
theorem HoldG.take {w0 W:World} {l:List Res} (H:HoldG M w0 W l) (n:Nat):HoldG M w0 W (l.take n) :=
 ⟨H.keep,fun i r h=>H.all i r (by rw[List.getElem?_take]at h;split at h;exact h;cases h),fun i j r s hij h1 h2=>H.apart i j r s hij (by rw[List.getElem?_take]at h1;split at h1;exact h1;cases h1) (by rw[List.getElem?_take]at h2;split at h2;exact h2;cases h2)⟩
theorem HoldG.drew {w0 W:World} {l:List Res} (H:HoldG M w0 W l):HoldG M w0 W.drew l:=H.call (Below.refl _ W).drew
theorem HoldG.upd {w0 W W':World} {l:List Res} (H:HoldG M w0 W l) {i:Nat} {r r':Res} (hi:l[i]?=some r) (hg:W.grownBy W' r.place) (hr:r'.Holds M w0.heap.size W')
  (hp:∀ b,r'.foot b→r.foot b∨W.heap.size≤b) (h0:∀ b,r.foot b→r.place=some b:=by exact fun _ h=>h):HoldG M w0 W' (l.set i r'):=by
 have hil:i<l.length:=(List.getElem?_eq_some_iff.1 hi).1
 refine⟨H.keep.trans ⟨hg.os,hg.tape,hg.output,hg.size,fun k h1 h2=>hg.block k (Nat.lt_of_lt_of_le h1 H.keep.size) (fun e=>by
  rcases((H.all i r hi).lt k e.symm).1 with h|h
  ·omega
  ·exact h2 h)⟩,?_,?_⟩
 ·intro j s hs;rw[List.getElem?_set]at hs;split at hs
  ·rename_i e;subst e;cases hs;exact hr
  ·rename_i hne;refine(H.all j s hs).kept (fun b hb=>hg.block b ((H.all j s hs).ltf b hb) (fun e=>?_)) hg.size
   exact H.apart i j r s hne hi hs b e.symm hb
 ·intro j k s t hjk hs ht;rw[List.getElem?_set]at hs ht;split at hs
  ·rename_i e;subst e;cases hs
   rw[if_neg hjk]at ht;intro b hb hb';rcases hp b (Res.place_foot hb) with h|h
   ·exact H.apart i k r t hjk hi ht b (h0 b h) hb'
   ·have:=(H.all k t ht).ltf b hb';omega
  ·split at ht
   ·rename_i _ e;subst e;cases ht
    intro b hb hb';rcases hp b hb' with h|h
    ·exact H.apart j i s r hjk hs hi b hb h
    ·have:=((H.all j s hs).lt b hb).2;omega
   ·exact H.apart j k s t hjk hs ht
theorem HoldG.add {w0 W W':World} {l:List Res} (H:HoldG M w0 W l) {r:Res} (hg:W.grownBy W' none) (hr:r.Holds M w0.heap.size W') (hp:∀ b,r.foot b→W.heap.size≤b):HoldG M w0 W' (l++[r]):=by
 have hb:Below W.heap.size W W':=(Below.refl _ W).grown hg (Nat.le_refl _) (fun k e=>by cases e)
 have H':=H.call hb;refine⟨H'.keep,?_,?_⟩
 ·intro j s hs;rw[List.getElem?_append]at hs;split at hs
  ·exact H'.all j s hs
  ·rcases List.getElem?_eq_some_iff.1 hs with ⟨h1,h2⟩
   simp at h1;simp[h1]at h2;subst h2;exact hr
 ·intro j k s t hjk hs ht;rw[List.getElem?_append]at hs ht;split at hs
  ·split at ht
   ·exact H.apart j k s t hjk hs ht
   ·rcases List.getElem?_eq_some_iff.1 ht with ⟨h1,h2⟩
    simp at h1;simp[h1]at h2;subst h2;intro b hb1 hb2;have h3:=((H.all j s hs).lt b hb1).2;have:=hp b hb2;omega
  ·rcases List.getElem?_eq_some_iff.1 hs with ⟨h1,h2⟩
   simp at h1;simp[h1]at h2;subst h2;split at ht
   ·intro b hb1 hb2;have h3:=(H.all k t ht).ltf b hb2;have:=hp b (Res.place_foot hb1);omega
   ·rcases List.getElem?_eq_some_iff.1 ht with ⟨h4,h5⟩
    simp at h4;omega
inductive At {α:Type}:List α→Nat→α→Prop where
 | zero {r:α} {l:List α}:At (r::l) 0 r
 | succ {r s:α} {l:List α} {i:Nat} (h:At l i r):At (s::l) (i+1) r
theorem At.get {α:Type} {l:List α} {i:Nat} {r:α} (h:At l i r):l[i]?=some r:=by
 induction h with
 | zero=>rfl
 | succ _ ih=>simpa using ih
theorem HoldG.blk {w0 W:World} {l:List Res} (H:HoldG M w0 W l) {i b:Nat} {cs:Array Value} {T:TypeId} (hi:At l i (.blk b cs T)):(w0.heap.size≤b∨M b)∧W.heap[b]?=some (.cells cs T (0,0)):=H.all i _ hi.get
theorem HoldG.cell {w0 W:World} {l:List Res} (H:HoldG M w0 W l) {i b:Nat} {cs:Array Value} {T:TypeId} (hi:At l i (.blk b cs T)) (k:Nat):W.cell? ⟨b,k,none⟩=cs[k]?:=cell_of_row W b k cs T (0,0) (H.blk hi).2
theorem HoldG.frozen {w0 W:World} {l:List Res} (H:HoldG M w0 W l) {i b:Nat} {cs:Array Value} {T:TypeId} (hi:At l i (.blk b cs T)) (k:Nat):W.frozen? ⟨b,k,none⟩=false:=by
 simp[World.frozen?,(H.blk hi).2]
theorem HoldG.alloc {w0 W:World} {l:List Res} (H:HoldG M w0 W l) (cs:Array Value) (T:TypeId):HoldG M w0 (W.alloc (.cells cs T)) (l++[.blk W.heap.size cs T]) :=
 H.add (World.grownBy_alloc W _ none) ⟨.inl H.keep.size,World.alloc_heap_new W _⟩ (fun b e=>by cases e;exact Nat.le_refl _)
theorem HoldG.callBut {w0 W W':World} {l:List Res} (H:HoldG M w0 W l) {i b:Nat} {cs cs':Array Value} {T:TypeId} (hi:At l i (.blk b cs T)) (hk:KeepBut (·=b) W.heap.size W W') (hb:W'.heap[b]?=some (.cells cs' T (0,0))):HoldG M w0 W' (l.set i (.blk b cs' T)) :=
 H.upd hi.get ⟨hk.os,hk.tape,hk.output,hk.size,fun k h1 h2=>hk.old k h1 (fun e=>h2 (by rw[e];rfl))⟩ ⟨(H.blk hi).1,hb⟩ (fun _ e=>.inl e)
theorem heap_setCell {W:World} {b k:Nat} {cs:Array Value} {T:TypeId} {f:Nat × Nat} (h:W.heap[b]?=some (.cells cs T f)) (v:Value):(W.setCell ⟨b,k,none⟩ v).heap[b]?=some (.cells (cs.setIfInBounds k v) T f):=by
 have hlt:=(Array.getElem?_eq_some_iff.1 h).1;simp only[World.setCell];simp[Array.getElem?_modify,h]
theorem zCM (W:World) (b k:Nat) (v:Value):W.grownBy (W.setCell ⟨b,k,none⟩ v) (some b):=by
 refine⟨rfl,rfl,rfl,?_,?_⟩
 ·simp[World.setCell]
 ·intro j hj hne;simp[World.setCell,Array.getElem?_modify,show b≠j from fun e=>hne (by rw[e])]
theorem HoldG.setCell {w0 W:World} {l:List Res} (H:HoldG M w0 W l) {i b k:Nat} {cs:Array Value} {T:TypeId} (hi:At l i (.blk b cs T)) (v:Value) :
  HoldG M w0 (W.setCell ⟨b,k,none⟩ v) (l.set i (.blk b (cs.setIfInBounds k v) T)) :=
 H.upd hi.get (zCM W b k v) ⟨(H.blk hi).1,heap_setCell (H.blk hi).2 v⟩ (fun _ e=>.inl e)
def zBE (cs:Array Value):Nat→List Value→Array Value
 | _,[]=>cs
 | k,v::r=>zBE (cs.setIfInBounds k v) (k+1) r
theorem zEm {A B C:World} {b:Nat} (h:A.grownBy B (some b)) (k:B.grownBy C (some b)):A.grownBy C (some b) :=
 ⟨k.os.trans h.os,k.tape.trans h.tape,k.output.trans h.output,Nat.le_trans h.size k.size,fun j hj hne=>(k.block j (Nat.lt_of_lt_of_le hj h.size) hne).trans (h.block j hj hne)⟩
theorem zCm:∀ (vs:List Value) (k:Nat) (W:World) (b:Nat),W.grownBy (W.setCells b k vs) (some b)
 | [],_,_,_=>⟨rfl,rfl,rfl,Nat.le_refl _,fun _ _ _=>rfl⟩
 | v::r,k,W,b=>zEm (zCM W b k v) (zCm r (k+1) _ b)
theorem zC6:∀ (vs:List Value) (k:Nat) (W:World) (b:Nat) (cs:Array Value) (T:TypeId) (f:Nat × Nat),W.heap[b]?=some (.cells cs T f)→(W.setCells b k vs).heap[b]?=some (.cells (zBE cs k vs) T f)
 | [],_,_,_,_,_,_,h=>h
 | v::r,k,W,b,cs,T,f,h=>zC6 r (k+1) _ b _ T f (heap_setCell h v)
theorem HoldG.setCells {w0 W:World} {l:List Res} (H:HoldG M w0 W l) {i b k:Nat} {cs:Array Value} {T:TypeId} (hi:At l i (.blk b cs T)) (vs:List Value) :
  HoldG M w0 (W.setCells b k vs) (l.set i (.blk b (zBE cs k vs) T)) :=
 H.upd hi.get (zCm vs k W b) ⟨(H.blk hi).1,zC6 vs k W b cs T _ (H.blk hi).2⟩ (fun _ e=>.inl e)
theorem HoldG.there {w0 W:World} {l:List Res} (H:HoldG M w0 W l) {i b k n:Nat} {cs:Array Value} {T:TypeId} (hi:At l i (.blk b cs T)) (hn:k+n≤cs.size):W.there b k n:=fun j hj=>by
 rw[H.cell hi,H.frozen hi];simp;omega
theorem zM3 (l:List Value) (d:List Deferred) (t:Nat):({tmps:=l.toArray,defers:=d}:Act).eval (.tmp t)=l.getD t undef:=by simp[Act.eval]
theorem zLz (a:Act) (v:Value):a.eval (.const v)=v:=rfl
theorem pe:(∀ (t:Array Value) (d:List Deferred) (i:Nat) (v:Value),({tmps:=t,defers:=d}:Act).put (some i) v={tmps:=t.setIfInBounds i v,defers:=d})∧(∀ (a:Act) (v:Value),a.put none v=a)∧(∀ (a:Value) (l:List Value) (n:Nat),l.toArray.setIfInBounds n a=(l.set n a).toArray)∧(∀ (a b:Value) (l:List Value) (n:Nat),(a::l).set (n+1) b=a::l.set n b)∧(∀ (a b:Value) (l:List Value),(a::l).set 0 b=b::l) ∧
  (∀ (l:List Value) (d:List Deferred) (t:Nat),({tmps:=l.toArray,defers:=d}:Act).eval (.tmp t)=l.getD t undef)∧(∀ (a:Act) (v:Value),a.eval (.const v)=v)∧(∀ (a:Act) (g:Nat),a.eval (.global g)=.pointer (some ⟨g,0,none⟩))∧(∀ (a:Act) (f:Nat),a.eval (.func f)=.func (.func f) #[] #[])∧(∀ (a d:Value) (l:List Value) (n:Nat),(a::l).getD (n+1) d=l.getD n d)∧∀ (a d:Value) (l:List Value),(a::l).getD 0 d=a :=
 ⟨fun _ _ _ _=>rfl,fun _ _=>rfl,fun _ _ _=>List.setIfInBounds_toArray ..,fun _ _ _ _=>rfl,fun _ _ _=>rfl,zM3,fun _ _=>rfl,fun _ _=>rfl,fun _ _=>rfl,fun _ _ _ _=>rfl,fun _ _ _=>rfl⟩
theorem zGe (a:Act) (v:Value):a.put none v=a:=rfl
theorem HoldG.rd {w0 W:World} {l:List Res} (H:HoldG M w0 W l) {i b:Nat} {cs:List Value} {T:TypeId} (hi:At l i (.blk b cs.toArray T)) (hn:cs.length≤maxLen):Rd W W.heap.size (.slice (some ⟨b,0,none⟩) cs.length cs.length) cs :=
 .inr ⟨b,0,cs.length,rfl,((H.all i _ hi.get).lt b rfl).2,Nat.le_refl _,hn,fun j hj=>by rw[H.cell hi];simp[hj]⟩
theorem HoldG.rds {w0 W:World} {l:List Res} (H:HoldG M w0 W l) {i b:Nat} {L:List (Nat→Nat)} {T:TypeId} (hi:At l i (.blk b (rowC L).toArray T)) (hn:L.length≤maxLen):RdS W W.heap.size (.slice (some ⟨b,0,none⟩) L.length L.length) L :=
 .inr ⟨b,0,L.length,rfl,((H.all i _ hi.get).lt b rfl).2,Nat.le_refl _,hn,fun j hj k hk=>by
  rw[H.cell hi];simp only[Nat.zero_add,List.getElem?_toArray]
  exact zHT hj hk⟩
theorem HoldG.rdn {w0 W:World} {l:List Res} (H:HoldG M w0 W l) {i b n:Nat} {cs:List Value} {T:TypeId} (hi:At l i (.blk b cs.toArray T)) (hc:cs.length=n) (hn:n≤maxLen):Rd W W.heap.size (.slice (some ⟨b,0,none⟩) n n) cs:=by
 subst hc;exact H.rd hi hn
theorem HoldG.rdsn {w0 W:World} {l:List Res} (H:HoldG M w0 W l) {i b n:Nat} {L:List (Nat→Nat)} {T:TypeId} (hi:At l i (.blk b (rowC L).toArray T)) (hc:L.length=n) (hn:n≤maxLen):RdS W W.heap.size (.slice (some ⟨b,0,none⟩) n n) L:=by
 subst hc;exact H.rds hi hn
end
section
variable {P:Program} {ops:Array Oper} {rest:List Oper} {o:Oper} {a:Act} {w w0:World} {Q:Exit→Act→World→Prop} {l:List Res} {M:Nat→Prop}
def zB0 (P:Program) (T:TypeId):Array Value:=(((P.info? T).bind (·.zero)).map (·.cells)).getD #[]
def zCx (P:Program) (T:TypeId) (n:Nat):Bool:=(P.info? T).map (·.size) == some n
def rowB (P:Program) (T:TypeId) (n:Nat):Bool:=zCx P T n&&((P.underlying T).map (·.isRow) == some true)
def oneB (P:Program) (T:TypeId):Bool:=zCx P T 1&&((P.underlying T).map (·.isRow) == some false)
theorem zE5 {T n} (h:rowB P T n=true):∃ d,P.underlying T=some d∧d.isRow=true∧(P.info? T).map (·.size)=some n:=by
 simp only[rowB,zCx,Bool.and_eq_true,beq_iff_eq]at h;obtain⟨h1,h2⟩:=h
 cases hu:P.underlying T with
 | none=>simp[hu]at h2
 | some d=>exact⟨d,rfl,by simpa [hu] using h2,h1⟩
theorem zAC {T} (h:oneB P T=true):zCx P T 1=true:=by simp only[oneB,Bool.and_eq_true]at h;exact h.1
theorem zA3 {T n} (h:rowB P T n=true):zCx P T n=true:=by simp only[rowB,Bool.and_eq_true]at h;exact h.1
theorem zA4 {T:TypeId} (h:oneB P T=true) {ad:Addr} {v:Value} (hc:w.cell? ad=some v):(loadVar T ad).run P w=.ok v w:=by
 simp only[oneB,zCx,Bool.and_eq_true,beq_iff_eq]at h;obtain⟨h1,h2⟩:=h
 cases hu:P.underlying T with
 | none=>simp[hu]at h2
 | some d =>
  have hd:d.isRow=false:=by simpa [hu] using h2
  have hagg:(isAgg T).run P w=.ok false w:=by
   unfold isAgg;rw[Sem.run_bind,run_underlying hu w]
   cases d<;>simp_all
  simp[loadVar,Sem.run_bind,hagg,load,Sem.run,hc]
theorem zCE {T:TypeId} (h:zCx P T 1=true) {ad:Addr} {v:Value} (hv:v.oneCell'=true) (hc:(w.cell? ad).isSome=true) (hf:w.frozen? ad=false) (hs:ad.add 0=ad):(storeVar T ad v).run P w=.ok () (w.setCell ad v):=by
 have hcs:v.cells=#[v]:=by cases v<;>first|rfl|cases hv
 simp only[zCx,beq_iff_eq]at h
 cases hq:P.info? T with
 | none=>simp[hq]at h
 | some i =>
  have hs1:i.size=1:=by simpa [hq] using h
  obtain⟨u,hu⟩:=Option.isSome_iff_exists.1 hc;have hst:(store ad v).run P w=.ok () (w.setCell ad v):=by rw[run_store P w _ v _ hv];simp[hu,hf]
  simp[storeVar,sizeOf,typeInfo,hq,hcs,hs1,storeCells,hs,hst]
theorem zAd (hw:Region.wanted o (yielded ops a.tmps)=true) (h:∀ K:Act→World→Prop,(∀ a w,wpList P ops Q rest a w→K a w)→o.wp P a w K Q):wpList P ops Q (o::rest) a w :=
 wpList_step fun K hK=>by rw[if_pos hw];exact h K hK
theorem zAX (hg:Region.wanted o (yielded ops a.tmps)=true) (T:TypeId) (x:Operand) (ho:o.op=.load T x) {b k:Nat} (hx:a.eval x=.pointer (some ⟨b,k,none⟩)) (H:HoldG M w0 w l) {i:Nat} {cs:Array Value} {U:TypeId} (hi:At l i (.blk b cs U))
  (hT:oneB P T=true) {v:Value} (hv:cs[k]?=some v) (h:wpList P ops Q rest (a.put o.dst v) w):wpList P ops Q (o::rest) a w :=
 zAd hg fun _ hK=>by
  unfold Oper.wp execOp;simp only[ho,hx,Instr.loadAt,Instr.sureAddr,Sem.run_bind,Sem.run_pure,Result.andThen_ok,zA4 hT (v:=v) (by rw[H.cell hi];exact hv)]
  exact hK _ _ h
theorem HoldG.run_row {n:Nat} (H:HoldG M w0 w l) {i b k:Nat} {cs vs:Array Value} {U T:TypeId} (hi:At l i (.blk b cs U)) (hT:rowB P T n=true) (hn:vs.size=n) (hv:∀ j,j<n→cs[k+j]?=vs[j]?) :
  (loadVar T ⟨b,k,none⟩).run P w=.ok (.agg vs) w:=by
 obtain⟨d,hu,hd,hs⟩:=zE5 hT
 have:=run_loadVar_mid (P:=P) w b k T vs.toList d (fun j v hj=>by
  have hlt:j<n:=by have:=(List.getElem?_eq_some_iff.1 hj).1;simp at this;omega
  rw[H.cell hi,hv j hlt];simpa using hj) hu hd (by rw[hs];simp[hn])
 simpa using this
theorem zDb (hg:Region.wanted o (yielded ops a.tmps)=true) (T:TypeId) (x:Operand) (ho:o.op=.load T x) {b k:Nat} (hx:a.eval x=.pointer (some ⟨b,k,none⟩)) (H:HoldG M w0 w l) {i:Nat} {cs:Array Value} {U:TypeId} (hi:At l i (.blk b cs U))
  (vs:Array Value) (hT:rowB P T vs.size=true) (hv:cs.extract k (k+vs.size)=vs) (h:wpList P ops Q rest (a.put o.dst (.agg vs)) w):wpList P ops Q (o::rest) a w :=
 zAd hg fun _ hK=>by
  unfold Oper.wp execOp;have hj:∀ j,j<vs.size→cs[k+j]?=vs[j]?:=fun j hj=>by
   have:vs[j]?=(cs.extract k (k+vs.size))[j]?:=by rw[hv]
   rw[this,Array.getElem?_extract,if_pos (by
    have hsz:(cs.extract k (k+vs.size)).size=vs.size:=by rw[hv]
    simp at hsz;omega)]
  simp only[ho,hx,Instr.loadAt,Instr.sureAddr,Sem.run_bind,Sem.run_pure,Result.andThen_ok,H.run_row (T:=T) hi hT rfl hj];exact hK _ _ h
theorem zJN (hg:Region.wanted o (yielded ops a.tmps)=true) (T:TypeId) (x:Operand) (ho:o.op=.load T x) {b:Nat} (hx:a.eval x=.pointer (some ⟨b,0,none⟩)) (H:HoldG M w0 w l) {i:Nat} {cs:Array Value} {U:TypeId} (hi:At l i (.blk b cs U))
  {n:Nat} (hT:rowB P T n=true) (hn:cs.size=n) (h:wpList P ops Q rest (a.put o.dst (.agg cs)) w):wpList P ops Q (o::rest) a w :=
 zAd hg fun _ hK=>by
  unfold Oper.wp execOp;simp only[ho,hx,Instr.loadAt,Instr.sureAddr,Sem.run_bind,Sem.run_pure,Result.andThen_ok,H.run_row (T:=T) hi hT hn (fun j _=>by rw[Nat.zero_add])]
  exact hK _ _ h
theorem zAK (hg:Region.wanted o (yielded ops a.tmps)=true) (T:TypeId) (x y:Operand) (ho:o.op=.store T x y) {b k:Nat} (hx:a.eval x=.pointer (some ⟨b,k,none⟩)) {v:Value} (hy:a.eval y=v) (H:HoldG M w0 w l) {i:Nat} {cs:Array Value} {U:TypeId} (hi:At l i (.blk b cs U))
  (h1:v.oneCell'=true) (hk:k<cs.size) (hT:zCx P T 1=true) (h:∀ w',HoldG M w0 w' (l.set i (.blk b (cs.setIfInBounds k v) U))→wpList P ops Q rest (a.put o.dst undef) w'):wpList P ops Q (o::rest) a w :=
 zAd hg fun _ hK=>by
  unfold Oper.wp execOp;have hs:(⟨b,k,none⟩:Addr).add 0=⟨b,k,none⟩:=by rw[Addr.add_mid];rfl
  simp only[ho,hx,hy,Instr.storeAt,Instr.sureAddr,Sem.run_bind,Sem.run_pure,Result.andThen_ok,zCE (P:=P) (w:=w) hT h1 (by rw[H.cell hi];simp[hk]) (H.frozen hi k) hs]
  exact hK _ _ (h _ (H.setCell hi v))
theorem zDC (hg:Region.wanted o (yielded ops a.tmps)=true) (T:TypeId) (x y:Operand) (ho:o.op=.store T x y) {b k:Nat} (hx:a.eval x=.pointer (some ⟨b,k,none⟩)) {vs:Array Value} (hy:a.eval y=.agg vs) (H:HoldG M w0 w l) {i:Nat} {cs:Array Value} {U:TypeId} (hi:At l i (.blk b cs U))
  {n:Nat} (hT:zCx P T n=true) (hv:vs.size=n) (h1:vs.toList.all (·.oneCell')=true) (hk:k+n≤cs.size) (h:∀ w',HoldG M w0 w' (l.set i (.blk b (zBE cs k vs.toList) U))→wpList P ops Q rest (a.put o.dst undef) w'):wpList P ops Q (o::rest) a w :=
 zAd hg fun _ hK=>by
  unfold Oper.wp execOp;simp only[ho,hx,hy,Instr.storeAt,Instr.sureAddr,Sem.run_bind,Sem.run_pure,Result.andThen_ok,run_storeVar_mid (P:=P) w b k T vs (H.there hi (by omega)) (by subst hv;simpa [zCx] using hT) (by rw[Array.all_toList]at h1;exact h1)]
  exact hK _ _ (h _ (H.setCells hi _))
theorem zDd:∀ (vs:List Value) (cs:Array Value) (k j:Nat),(zBE cs k vs)[j]?=if k≤j∧j<k+vs.length∧j<cs.size then vs[j - k]? else cs[j]?
 | [],cs,k,j=>by simp[zBE];omega
 | v::r,cs,k,j=>by
  rw[zBE,zDd r];simp only[Array.getElem?_setIfInBounds,List.length_cons,Array.size_setIfInBounds]
  by_cases e:k=j
  ·subst e;rw[if_neg (by omega)]
   by_cases h:k<cs.size
   ·simp[h]
   ·simp[h,Array.getElem?_eq_none (Nat.le_of_not_lt h)]
  ·by_cases h:k≤j∧j<k+(r.length+1)∧j<cs.size
   ·rw[if_pos ⟨by omega,by omega,h.2.2⟩,if_pos h]
    rw[show j - k=(j - (k+1))+1 from by omega];simp
   ·rw[if_neg (by omega),if_neg e,if_neg h]
theorem zFH {cs vs:Array Value} (h:vs.size=cs.size):zBE cs 0 vs.toList=vs:=by
 apply Array.ext_getElem?;intro j;rw[zDd];simp only[Nat.zero_le,true_and,Nat.zero_add,Array.length_toList,Nat.sub_zero]
 by_cases e:j<vs.size
 ·rw[if_pos ⟨e,by omega⟩];simp
 ·rw[if_neg (fun h=>e h.1),Array.getElem?_eq_none (by omega),Array.getElem?_eq_none (by omega)]
theorem zHu (hg:Region.wanted o (yielded ops a.tmps)=true) (T:TypeId) (x y:Operand) (ho:o.op=.store T x y) {b:Nat} (hx:a.eval x=.pointer (some ⟨b,0,none⟩)) {vs:Array Value} (hy:a.eval y=.agg vs) (H:HoldG M w0 w l) {i:Nat} {cs:Array Value} {U:TypeId} (hi:At l i (.blk b cs U))
  {n:Nat} (hT:zCx P T n=true) (hv:vs.size=n) (hn:cs.size=n) (h1:vs.toList.all (·.oneCell')=true) (h:∀ w',HoldG M w0 w' (l.set i (.blk b vs U))→wpList P ops Q rest (a.put o.dst undef) w'):wpList P ops Q (o::rest) a w :=
 zDC hg T x y ho hx hy H hi hT hv h1 (by omega) (fun w' H'=>h w' (by rwa [zFH (by omega)]at H'))
theorem zGO (hg:Region.wanted o (yielded ops a.tmps)=true) (T:TypeId) (ho:o.op=.alloc T) (H:HoldG M w0 w l) (hi:((P.info? T).bind (·.zero)).isSome=true)
  (h:∀ b w',HoldG M w0 w' (l++[.blk b (zB0 P T) T])→wpList P ops Q rest (a.put o.dst (.pointer (some ⟨b,0,none⟩))) w'):wpList P ops Q (o::rest) a w :=
 zAd hg fun _ hK=>by
  cases hi1:P.info? T with
  | none=>simp[hi1]at hi
  | some i0 =>
   cases hz:i0.zero with
   | none=>simp[hi1,hz]at hi
   | some z =>
    have hzc:zB0 P T=z.cells:=by simp[zB0,hi1,hz]
    unfold Oper.wp execOp;simp[ho,Instr.alloc,zeroValue,typeInfo,hi1,hz,newVar,newRow];rw[hzc]at h;exact hK _ _ (h _ _ (H.alloc _ T))
theorem zLb (hg:Region.wanted o (yielded ops a.tmps)=true) (T:TypeId) (x:Operand) (ho:o.op=.box T x) {v:Value} (hx:a.eval x=v) (H:HoldG M w0 w l)
  (h:∀ b w',HoldG M w0 w' (l++[.blk b v.cells T])→wpList P ops Q rest (a.put o.dst (.pointer (some ⟨b,0,none⟩))) w'):wpList P ops Q (o::rest) a w :=
 zAd hg fun _ hK=>by
  unfold Oper.wp execOp;simp[ho,hx,Instr.box,newVar,newRow];exact hK _ _ (h _ _ (H.alloc _ T))
theorem zCA (hg:Region.wanted o (yielded ops a.tmps)=true) (TS:TypeId) (n:Nat) (parts:Array (Nat × Operand)) (ho:o.op=.buildSlice TS n parts) (H:HoldG M w0 w l) (cs:Array Value) (T:TypeId)
  (hr:∀ W:World,(Instr.buildSlice TS n (parts.map fun (i,x)=>(i,a.eval x))).run P W=.ok (.slice (some ⟨W.heap.size,0,none⟩) n n) (W.alloc (.cells cs T)))
  (h:∀ b w',HoldG M w0 w' (l++[.blk b cs T])→wpList P ops Q rest (a.put o.dst (.slice (some ⟨b,0,none⟩) n n)) w'):wpList P ops Q (o::rest) a w :=
 zAd hg fun _ hK=>by
  unfold Oper.wp execOp;simp only[ho,Sem.run_bind,hr,Result.andThen_ok];exact hK _ _ (h _ _ (H.alloc cs T))
theorem zEz (hg:o.guard=none) (s x:Operand) (T:TypeId) (ho:o.op=.call {callee:=.builtin .append,args:=#[s,x],argTypes:=#[T,T]}) (H:HoldG M w0 w l) {i j b:Nat} {v:Value} {e:TypeId} {sz n m c:Nat} {xs:List Value} {cs:Array Value} {U:TypeId}
  (hs:a.eval s=v) (hx:a.eval x=.slice (some ⟨b,0,none⟩) m c) (hi:At l i (.row v e sz n xs)) (hj:At l j (.blk b cs U)) {it:TypeInfo} {z:Value} {bytes:Nat}
  (h1:P.underlying T=some (.slice e)) (h2:P.info? e=some it) (h3:it.zero=some z) (h4:it.size=sz) (h5:it.bytes=bytes) (h6:z.cells.size=sz) (h7:0<sz) (hcs:cs.size=m * sz) (h1c:cs.toList.all (·.oneCell')=true)
  (b1:n+m≤maxLen) (b2:(n+m) * bytes≤140737488355328)
  (h:∀ v' w',HoldG M w0 w' (l.set i (.row v' e sz (n+m) (xs++cs.toList)))→wpList P ops Q rest (a.put o.dst v') w'):wpList P ops Q (o::rest) a w:=by
 refine wpList_append_own_at w hg s x T ho w0.heap.size e it z sz bytes h1 h2 h3 h4 h5 h6 h7 v n xs hs (H.all i _ hi.get) ⟨b,0,none⟩ m c cs.toList hx (by simpa using hcs) (fun q u hq=>?_) (fun u hu=>List.all_eq_true.1 h1c u hu) b1 b2 H.keep.size (fun v' w' r1 r2 _ r4=>h v' w' ?_)
 ·rw[Addr.add_mid,H.cell hj]
  simpa using hq
 ·refine H.upd hi.get (by exact r2) r1 (fun b' hb'=>?_)
  rcases r4 with r4|r4
  ·left;show v.ownBlock=some b';rw[← r4];exact hb'
  ·right;have:v'.ownBlock=some b':=hb';rw[r4]at this
   cases this;exact Nat.le_refl _
theorem HoldG.addNil {w0 W:World} {l:List Res} (H:HoldG M w0 W l) (e:TypeId) (sz:Nat):HoldG M w0 W (l++[.row (.slice none 0 0) e sz 0 []]) :=
 H.add ⟨rfl,rfl,rfl,Nat.le_refl _,fun _ _ _=>rfl⟩ (World.ownsRow_nil _ _ _ _) (fun b e=>by cases e)
theorem zAx (hg:Region.wanted o (yielded ops a.tmps)=true) {v:Value} (hr:(execOp a.eval o).run P w=.ok (.value v) w) (h:wpList P ops Q rest (a.put o.dst v) w):wpList P ops Q (o::rest) a w :=
 zAd hg fun _ hK=>by
  unfold Oper.wp;rw[hr];exact hK _ _ h
theorem zKB (hg:Region.wanted o (yielded ops a.tmps)=true) (T:TypeId) (x y:Operand) (ho:o.op=.store T x y) {b:Nat} (hx:a.eval x=.pointer (some ⟨b,0,none⟩)) {s:Nat→Nat} (hy:a.eval y=setV s) (H:HoldG M w0 w l) {i:Nat} {cs:Array Value} {U:TypeId} (hi:At l i (.blk b cs U))
  (hT:zCx P T 4=true) (hn:cs.size=4) (h:∀ w',HoldG M w0 w' (l.set i (.blk b (setC s) U))→wpList P ops Q rest (a.put o.dst undef) w'):wpList P ops Q (o::rest) a w :=
 zHu hg T x y ho hx (vs:=setC s) hy H hi hT rfl hn rfl h
theorem zK4 (hg:Region.wanted o (yielded ops a.tmps)=true) (T:TypeId) (x:Operand) (ho:o.op=.load T x) {b:Nat} (hx:a.eval x=.pointer (some ⟨b,0,none⟩)) (H:HoldG M w0 w l) {i:Nat} {s:Nat→Nat} {U:TypeId} (hi:At l i (.blk b (setC s) U))
  (hT:rowB P T 4=true) (h:wpList P ops Q rest (a.put o.dst (setV s)) w):wpList P ops Q (o::rest) a w :=
 zJN hg T x ho hx H hi hT rfl h
theorem zMn (hg:Region.wanted o (yielded ops a.tmps)=true) (T:TypeId) (x:Operand) (ho:o.op=.box T x) {s:Nat→Nat} (hx:a.eval x=setV s) (H:HoldG M w0 w l)
  (h:∀ b w',HoldG M w0 w' (l++[.blk b (setC s) T])→wpList P ops Q rest (a.put o.dst (.pointer (some ⟨b,0,none⟩))) w'):wpList P ops Q (o::rest) a w :=
 zLb hg T x ho hx H h
abbrev Str:=List UInt8
def byt (L:Str) (k:Nat):Nat:=(L.getD k 0).toNat
theorem zDy (L:Str) (k:Nat):byt L k<256:=UInt8.toNat_lt _
theorem nc0 (i:Nat):(i:Int)=((i:Nat):Int):=rfl
theorem ncl0:(0:Int)=((0:Nat):Int):=rfl
theorem ncl1:(1:Int)=((1:Nat):Int):=rfl
theorem zC4 {o:Oper} {a:Act} {w:World} {T:TypeId} {x ix:Operand} (ho:o.op=.index T x ix) (hT:P.underlying T=some .string) {L:Str} {z:Int} {k:Nat} (hx:a.eval x=.string ⟨L.toArray⟩) (hix:a.eval ix=.int .i64 z) (hz:z=(k:Int))
  (h1:k<L.length):(execOp a.eval o).run P w=.ok (.value (.int .u8 (byt L k))) w:=by
 subst hz;have hs:(⟨L.toArray⟩:ByteArray).size=L.length:=by simp[ByteArray.size]
 simp only[execOp,ho,hx,hix,Sem.run_bind,run_index_string w T _ .i64 _ hT];rw[dif_pos ⟨by omega,by rw[hs];omega⟩]
 have:((⟨L.toArray⟩:ByteArray)[k]'(by rw[hs];exact h1)).toNat=byt L k:=by
  unfold byt;rw[List.getD_eq_getElem?_getD,List.getElem?_eq_getElem h1];rfl
 simp[Result.andThen,this]
theorem zKO (hg:Region.wanted o (yielded ops a.tmps)=true) (T:TypeId) (x ix:Operand) (ho:o.op=.index T x ix) (hT:P.underlying T=some .string) {L:Str} {z:Int} {k:Nat} (hx:a.eval x=.string ⟨L.toArray⟩) (hix:a.eval ix=.int .i64 z) (hz:z=(k:Int))
  (h1:k<L.length) (h:wpList P ops Q rest (a.put o.dst (.int .u8 (byt L k))) w):wpList P ops Q (o::rest) a w :=
 zAx hg (zC4 ho hT hx hix hz h1) h
theorem zLL (L:Str) (i j:Nat):(⟨L.toArray⟩:ByteArray).extract i j=⟨((L.take j).drop i).toArray⟩:=by
 apply ByteArray.ext;apply Array.ext';simp[ByteArray.data_extract,List.extract_eq_drop_take']
theorem zOM (hg:Region.wanted o (yielded ops a.tmps)=true) (T:TypeId) (x hi:Operand) (ho:o.op=.slice T x none (some hi) none) (hT:P.underlying T=some .string) {L:Str} {y:Int} {i:Nat} (hx:a.eval x=.string ⟨L.toArray⟩) (hlo:a.eval hi=.int .i64 y) (hy:y=(i:Int))
  (h1:i≤L.length) (h:wpList P ops Q rest (a.put o.dst (.string ⟨(L.take i).toArray⟩)) w):wpList P ops Q (o::rest) a w:=by
 subst hy;refine zAx hg ?_ h;have hs:(⟨L.toArray⟩:ByteArray).size=L.length:=by simp[ByteArray.size]
 simp only[execOp,ho,hx,hlo,Option.map_some,Option.map_none,Sem.run_bind];rw[run_sliceAt_string _ T _ _ _ _ hT,run_slice_string_h w T ⟨L.toArray⟩ hT .i64 _ (by omega) (by rw[hs];omega),zLL,List.drop_zero]
 rfl
theorem zNB (hg:Region.wanted o (yielded ops a.tmps)=true) (T:TypeId) (x y:Operand) (U:TypeId) (ho:o.op=.binOp .eql T x y U) {L M:Str} (hx:a.eval x=.string ⟨L.toArray⟩) (hy:a.eval y=.string ⟨M.toArray⟩)
  (hq:∀ w:World,(eqGuard .eql T x y (.string ⟨L.toArray⟩) (.string ⟨M.toArray⟩)).run P w=.ok () w) (h:wpList P ops Q rest (a.put o.dst (.bool (L == M))) w):wpList P ops Q (o::rest) a w:=by
 refine zAx hg ?_ h;simp only[execOp,ho,hx,hy,Sem.run_bind,hq,Result.andThen,binOp_string_eql];simp[Lib.toList_data]
theorem zOK {fn:Func} {R:Ending→World→Prop} {p:Tmp} {T:TypeId} (hres:fn.results=#[.cell p T]) {b:Nat} (hp:a.tmps.getD p undef=.pointer (some ⟨b,0,none⟩)) (H:HoldG M w0 w l) {i:Nat} {cs:Array Value} {U:TypeId} (hi:At l i (.blk b cs U))
  {n:Nat} (hT:rowB P T n=true) (hn:cs.size=n) (hd:a.defers=[]) (h:R (.returned (.agg cs)) w):bodyPost P fn R .ret a w:=by
 refine bodyPost_ret (v:=.agg cs) ?_ hd h;have:=H.run_row (T:=T) (P:=P) hi hT hn (k:=0) (fun j _=>by rw[Nat.zero_add])
 have hp':a.tmps[p]?.getD undef=.pointer (some ⟨b,0,none⟩):=by simpa using hp
 simp[results,hres,hp',asAddr,this]
theorem zMw {fn:Func} {R:Ending→World→Prop} {p q:Tmp} {T:TypeId} (hres:fn.results=#[.cell p T,.tmp q]) {b:Nat} (hp:a.tmps.getD p undef=.pointer (some ⟨b,0,none⟩)) {v:Value} (hq:a.tmps.getD q undef=v) (H:HoldG M w0 w l) {i:Nat} {cs:Array Value} {U:TypeId} (hi:At l i (.blk b cs U))
  {n:Nat} (hT:rowB P T n=true) (hn:cs.size=n) (hd:a.defers=[]) (h:R (.returned (.tuple #[.agg cs,v])) w):bodyPost P fn R .ret a w:=by
 refine bodyPost_ret (v:=.tuple #[.agg cs,v]) ?_ hd h;have:=H.run_row (T:=T) (P:=P) hi hT hn (k:=0) (fun j _=>by rw[Nat.zero_add])
 have hp':a.tmps[p]?.getD undef=.pointer (some ⟨b,0,none⟩):=by simpa using hp
 have hq':a.tmps[q]?.getD undef=v:=by simpa using hq
 simp[results,hres,hp',hq',asAddr,this]
theorem zNs {fn:Func} {R:Ending→World→Prop} {p q r:Tmp} {T:TypeId} (hres:fn.results=#[.cell p T,.tmp q,.tmp r]) {b:Nat} (hp:a.tmps.getD p undef=.pointer (some ⟨b,0,none⟩)) {v u:Value} (hq:a.tmps.getD q undef=v) (hr:a.tmps.getD r undef=u) (H:HoldG M w0 w l) {i:Nat} {cs:Array Value} {U:TypeId} (hi:At l i (.blk b cs U))
  {n:Nat} (hT:rowB P T n=true) (hn:cs.size=n) (hd:a.defers=[]) (h:R (.returned (.tuple #[.agg cs,v,u])) w):bodyPost P fn R .ret a w:=by
 refine bodyPost_ret (v:=.tuple #[.agg cs,v,u]) ?_ hd h;have:=H.run_row (T:=T) (P:=P) hi hT hn (k:=0) (fun j _=>by rw[Nat.zero_add])
 have hp':a.tmps[p]?.getD undef=.pointer (some ⟨b,0,none⟩):=by simpa using hp
 have hq':a.tmps[q]?.getD undef=v:=by simpa using hq
 have hr':a.tmps[r]?.getD undef=u:=by simpa using hr
 simp[results,hres,hp',hq',hr',asAddr,this]
theorem zOF {fn:Func} {R:Ending→World→Prop} {p:Tmp} {T:TypeId} (hres:fn.results=#[.cell p T]) {b:Nat} (hp:a.tmps.getD p undef=.pointer (some ⟨b,0,none⟩)) (H:HoldG M w0 w l) {i:Nat} {s:Nat→Nat} {U:TypeId} (hi:At l i (.blk b (setC s) U))
  (hT:rowB P T 4=true) (hd:a.defers=[]) (h:R (.returned (setV s)) w):bodyPost P fn R .ret a w:=zOK hres hp H hi hT rfl hd h
theorem zNQ {fn:Func} {R:Ending→World→Prop} {p q:Tmp} {T:TypeId} (hres:fn.results=#[.cell p T,.tmp q]) {b:Nat} (hp:a.tmps.getD p undef=.pointer (some ⟨b,0,none⟩)) {v:Value} (hq:a.tmps.getD q undef=v) (H:HoldG M w0 w l) {i:Nat} {s:Nat→Nat} {U:TypeId} (hi:At l i (.blk b (setC s) U))
  (hT:rowB P T 4=true) (hd:a.defers=[]) (h:R (.returned (.tuple #[setV s,v])) w):bodyPost P fn R .ret a w:=zMw hres hp hq H hi hT rfl hd h
theorem reti {k:IntKind} {x y:Int} (h:x=y):Ending.returned (.int k x)=.returned (.int k y):=by rw[h]
end
theorem zK2 (s t u:Nat→Nat) (W:World):(Instr.buildSlice 96 3 #[(0,setV s),(1,setV t),(2,setV u)]).run Tryd.prog W=.ok (.slice (some ⟨W.heap.size,0,none⟩) 3 3) (W.alloc (.cells (rowC [s,t,u]).toArray 28)):=by
 unfold setV;simp[go_sem];rfl
theorem zMS (W:World):(Instr.build 28 #[]).run Tryd.prog W=.ok (setV zAF) W:=by kernel_rfl
theorem zL7 {ops:Array Oper} {rest:List Oper} {o:Oper} {a:Act} {w:World} {Q:Exit→Act→World→Prop} (hg:Region.wanted o (yielded ops a.tmps)=true) (ho:o.op=.build 28 #[])
  (h:wpList Tryd.prog ops Q rest (a.put o.dst (setV zAF)) w):wpList Tryd.prog ops Q (o::rest) a w :=
 zAx hg (by simp only[execOp,ho,List.map_toArray,List.map_nil,Sem.run_bind,zMS];rfl) h
theorem wtd_ {ops:Array Oper} {o:Oper} {a:Act} (h:Region.wanted o (yielded ops a.tmps)=true:=by first|rfl|exact zAn rfl (zAS rfl (by first|rfl|(simp only[pe];rfl)))):Region.wanted o (yielded ops a.tmps)=true:=h
theorem evd_ {a:Act} {x:Operand} {v:Value} (h:a.eval x=v:=by first|(simp only[pe];done)|(simp only[pe];rfl)):a.eval x=v:=h
theorem atd_ {α:Type} {l:List α} {i:Nat} {r:α} (h:At l i r:=by repeat (first|(with_reducible exact At.zero)|apply At.succ)):At l i r:=h
theorem i_1 {α:Type} {a0 r:α} {l:List α}:At (a0::r::l) 1 r:=.succ (.zero)
theorem i_2 {α:Type} {a0 a1 r:α} {l:List α}:At (a0::a1::r::l) 2 r:=.succ (.succ (.zero))
theorem i_3 {α:Type} {a0 a1 a2 r:α} {l:List α}:At (a0::a1::a2::r::l) 3 r:=.succ (.succ (.succ (.zero)))
theorem i_4 {α:Type} {a0 a1 a2 a3 r:α} {l:List α}:At (a0::a1::a2::a3::r::l) 4 r:=.succ (.succ (.succ (.succ (.zero))))
theorem i_5 {α:Type} {a0 a1 a2 a3 a4 r:α} {l:List α}:At (a0::a1::a2::a3::a4::r::l) 5 r:=.succ (.succ (.succ (.succ (.succ (.zero)))))
theorem i_6 {α:Type} {a0 a1 a2 a3 a4 a5 r:α} {l:List α}:At (a0::a1::a2::a3::a4::a5::r::l) 6 r:=.succ (.succ (.succ (.succ (.succ (.succ (.zero))))))
theorem i_7 {α:Type} {a0 a1 a2 a3 a4 a5 a6 r:α} {l:List α}:At (a0::a1::a2::a3::a4::a5::a6::r::l) 7 r:=.succ (.succ (.succ (.succ (.succ (.succ (.succ (.zero)))))))
theorem i_8 {α:Type} {a0 a1 a2 a3 a4 a5 a6 a7 r:α} {l:List α}:At (a0::a1::a2::a3::a4::a5::a6::a7::r::l) 8 r:=.succ (.succ (.succ (.succ (.succ (.succ (.succ (.succ (.zero))))))))
theorem i_9 {α:Type} {a0 a1 a2 a3 a4 a5 a6 a7 a8 r:α} {l:List α}:At (a0::a1::a2::a3::a4::a5::a6::a7::a8::r::l) 9 r:=.succ (.succ (.succ (.succ (.succ (.succ (.succ (.succ (.succ (.zero)))))))))
theorem i_10 {α:Type} {a0 a1 a2 a3 a4 a5 a6 a7 a8 a9 r:α} {l:List α}:At (a0::a1::a2::a3::a4::a5::a6::a7::a8::a9::r::l) 10 r:=.succ (.succ (.succ (.succ (.succ (.succ (.succ (.succ (.succ (.succ (.zero))))))))))
end
end Go.Proofs.YtklcgfkdemifcaaDoor
