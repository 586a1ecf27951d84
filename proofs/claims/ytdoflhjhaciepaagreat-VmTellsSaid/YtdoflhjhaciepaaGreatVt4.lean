/-
  Laws of walks, and walks.
-/
import Derived.Test.YtdoflhjhaciepaaGreatVt3
import Derived.Laws.Bits64b
import Derived.Laws.CopyOwn
import Derived.OrdersIn
import Derived.Test.YtdoflhjhaciepaaGreatVt2
import Derived.Test.YtdoflhjhaciepaaGreatVt1
import Derived.Laws.Slices
import Derived.RangeFuncLeaves
import Derived.Deep.Onto
import Derived.MapKept
set_option linter.unusedVariables false
set_option linter.unusedSimpArgs false
set_option maxRecDepth 100000
set_option maxHeartbeats 16000000
namespace Go.Proofs.YtdoflhjhaciepaaGreat
open Go.RowKit
def orderB (md:Region.Mode) (ops:Array Oper):List Nat→Array Bool→Bool
 | [],listed=>(Region.ready md ops listed).isEmpty
 | i::r,listed=>decide (Region.ready md ops listed=[i])&&orderB md ops r (listed.setIfInBounds i true)
theorem wpAny_of_order {P:Program} {md:Region.Mode} {ops:Array Oper} {Q:Exit→Act→World→Prop}:∀ (is:List Nat) (os:List Oper) (listed:Array Bool) (a:Act) (w:World),os.length=is.length→(∀ (j i:Nat),is[j]?=some i→ops[i]?=os[j]?) →
  orderB md ops is listed=true→wpList P ops Q os a w→wpAny P md ops Q is.length listed a w
 | [],os,_,_,_,hl,_,hB,h=>by
  have:os=[]:=List.length_eq_zero_iff.1 hl;subst this;exact⟨by simpa [orderB] using hB,h⟩
 | i::r,[],_,_,_,hl,_,_,_=>by simp at hl
 | i::r,o::os,listed,a,w,hl,hg,hB,h=>by
  have h0:ops[i]?=some o:=by simpa using hg 0 i rfl
  simp only[orderB,Bool.and_eq_true,decide_eq_true_eq]at hB;refine⟨fun h1=>(by rw[hB.1]at h1;cases h1),fun k hk=>?_⟩
  rw[hB.1]at hk;have hik:k=i:=by simpa using hk
  subst hik;have hw:wpOp P ops Q k (wpList P ops Q os) a w:=by unfold wpOp;simp only[h0];exact h
  exact wpOp_mono (fun a' w' h'=>wpAny_of_order r os _ a' w' (by simpa using hl) (fun j i hj=>by simpa using hg (j+1) i (by simpa using hj)) hB.2 h') hw
def butListed (n e g:Nat):Array Bool:=((List.range n).map (fun i=>i != e)++List.replicate g false).toArray
def closB (ops:Array Oper) (n e:Nat):Bool :=
 (List.range n).all fun i=>i == e || (List.range (n+1)).any fun j=>decide (i<j)&&(j != e)&&(match ops[j]? with|some o=>o.after.toList.any (fun ed=>Region.binds .any ed&&ed.on == i)|none=>false)
def lateB (ops:Array Oper) (n e:Nat):Bool :=
 decide (n≤ops.size)&&dstsB (ops.toList.take n) &&
 ((ops.toList.take n).zipIdx.all fun (o,i)=>o.after.all fun e=>!Region.binds .any e || decide (e.on<i)) &&
 closB ops n e&&(ops.toList.zipIdx.all fun (o,t)=>decide (t≤n) || o.after.toList.any (fun ed=>Region.binds .any ed&&decide (n≤ed.on)&&decide (ed.on<t))) &&
 Region.seqB .any ops (ops.size - n) n (headListed n (ops.size - n)) &&
 orderB .any ops (e::List.range' (n+1) (ops.size - n - 1)) ((butListed n e (ops.size - n)).setIfInBounds n true)&&decide (e<n)
def lateL (l:List Oper) (n e:Nat):List Oper:=(l.drop n).take 1++((l.drop e).take 1++l.drop (n+1))
def fillBut (e:Nat):List Oper→Nat→(Nat→Value)→Act→Act
 | [],_,_,a=>a
 | o::r,k,vals,a=>fillBut e r (k+1) vals (if k=e then a else a.put o.dst (vals k))
theorem fill_but (e:Nat):∀ (l:List Oper) (k:Nat) (listed:Array Bool) (vals:Nat→Value) (a:Act),(∀ i,i<l.length→k+i≠e→listed.getD (k+i) false=true)→(k≤e→listed.getD e false=false)→fill l k listed vals a=fillBut e l k vals a
 | [],_,_,_,_,_,_=>rfl
 | o::r,k,listed,vals,a,h,h2=>by
  simp only[fill,fillBut];have ih:=fill_but e r (k+1) listed vals (if k=e then a else a.put o.dst (vals k)) (fun i hi he=>by have:=h (i+1) (by simp;omega) (by omega);rwa [show k+(i+1)=k+1+i from by omega]at this) (fun hk=>h2 (by omega))
  rw[← ih]
  congr 1
  by_cases hke:k=e
  ·subst hke;rw[h2 (Nat.le_refl _),if_pos rfl];rfl
  ·have:=h 0 (by simp) (by simpa using hke)
   rw[Nat.add_zero]at this;rw[this,if_neg hke];rfl
theorem late_most {ops:Array Oper} {n e:Nat} {listed:Array Bool} (hc:closB ops n e=true) (hn:n≤ops.size) (inv:HeadInv .any ops n listed) (o:Oper) (ho:ops[n]?=some o)
  (ha:∀ e ∈ o.after,Region.binds .any e=true→listed.getD e.on false=true):∀ k,k<n→k≠e→listed.getD k false=true:=by
 have key:∀ d k,n - k=d→k<n→k≠e→listed.getD k false=true:=by
  intro d
  induction d using Nat.strongRecOn with
  | _ d ih =>
   intro k hd hk hke;have h1:=List.all_eq_true.1 hc k (List.mem_range.2 hk);simp only[Bool.or_eq_true,beq_iff_eq]at h1;rcases h1 with h1|h1
   ·exact absurd h1 hke
   ·obtain⟨j,hj,h2⟩:=List.any_eq_true.1 h1;simp only[Bool.and_eq_true,decide_eq_true_eq,bne_iff_ne,ne_eq]at h2;obtain⟨⟨hkj,hje⟩,h3⟩:=h2;have hjn:=List.mem_range.1 hj
    cases hoj:ops[j]? with
    | none=>rw[hoj]at h3;cases h3
    | some oj =>
     rw[hoj]at h3;obtain⟨ed,hed,hb⟩:=List.any_eq_true.1 h3;simp only[Bool.and_eq_true,beq_iff_eq]at hb
     by_cases hjn':j=n
     ·subst hjn';rw[ho]at hoj;cases hoj
      have:=ha ed (Array.mem_toList_iff.1 hed) hb.1
      rwa [hb.2]at this
     ·have hlj:=ih (n - j) (by omega) j rfl (by omega) hje
      have:=inv.closed j oj hoj hlj ed (Array.mem_toList_iff.1 hed) hb.1
      rwa [hb.2]at this
 exact fun k hk hke=>key _ k rfl hk hke
theorem listed_but {ops:Array Oper} {n e:Nat} {listed:Array Bool} (hn:n≤ops.size) (he:e<n) (inv:HeadInv .any ops n listed) (h:∀ i,i<n→i≠e→listed.getD i false=true) (h2:listed.getD e true=false):listed=butListed n e (ops.size - n):=by
 have hs:=inv.size;apply Array.ext
 ·simp[butListed,hs];omega
 ·intro i h1 h3
  by_cases hi:i<n
  ·by_cases hie:i=e
   ·subst hie;rw[Array.getD_eq_getD_getElem?,Array.getElem?_eq_getElem h1]at h2;simp at h2;rw[h2];simp[butListed,hi,List.getElem_append]
   ·have:=h i hi hie;rw[Array.getD_eq_getD_getElem?,Array.getElem?_eq_getElem h1]at this;simp at this;rw[this];simp[butListed,hi,List.getElem_append,hie]
  ·have:=inv.tail i (by omega) (by omega)
   rw[Array.getD_eq_getD_getElem?,Array.getElem?_eq_getElem h1]at this;simp at this;rw[this];simp[butListed,List.getElem_append,hi]
theorem wp_region_lateD {P:Program} {id:Nat} {Q:Exit→Act→World→Prop} {a0:Act} {w0:World} {l:List Oper} (n e:Nat) (Ss:Nat→Value→World→Prop) (D:Nat→Bool)
  (hm:P.follows .mixedOrders=true) (hB:lateB l.toArray n e=true) (hsz:(l.take n).all (fun o=>match o.dst with|some d=>decide (d<a0.tmps.size)|none=>true)=true)
  (hst:∀ i,i<n→∀ v w w',Ss i v w→Below w.heap.size w w'→Ss i v w')
  (hlt:∀ i,i<n→D i=true→∀ v w,Ss i v w→blk v<w.heap.size)
  (hstep:∀ i o,i<n→l[i]?=some o→∀ a w,RCtx (l.take n) Ss a0 w0 o a w→RStep P l.toArray o a w (fun v w'=>Ss i v w'∧(D i=true→w.heap.size≤blk v)))
  (hend:∀ vals w,Below w0.heap.size w0 w→(∀ i,i<n→Ss i (vals i) w)→(∀ i j,i<n→j<n→i≠j→D i=true→D j=true→blk (vals i)≠blk (vals j))→wpList P l.toArray Q (l.drop n) (fillAll (l.take n) 0 vals a0) w)
  (hend2:∀ vals w,Below w0.heap.size w0 w→(∀ i,i<n→i≠e→Ss i (vals i) w)→(∀ i j,i<n→j<n→i≠e→j≠e→i≠j→D i=true→D j=true→blk (vals i)≠blk (vals j)) →
   wpList P l.toArray Q (lateL l n e) (fillBut e (l.take n) 0 vals a0) w) :
  (Code.region id l.toArray true).wp P Q a0 w0:=by
 simp only[lateB,Bool.and_eq_true,decide_eq_true_eq]at hB;obtain⟨⟨⟨⟨⟨⟨⟨hn,hd⟩,haf⟩,hclo⟩,htw⟩,hseq⟩,hord⟩,hen⟩:=hB;have hn':n≤l.length:=by simpa using hn
 have hd':dstsB (l.take n)=true:=hd;have htl:(l.take n).length=n:=by simp;omega
 have key:∀ (rem:List Nat) (f:Nat),rem.length=f→rem.Nodup→∀ (listed:Array Bool) (a:Act) (w:World),HeadInv .any l.toArray n listed →
   (∀ i,i ∈ rem↔(i<n∧listed.getD i true=false))→(∃ vals,a=fill (l.take n) 0 listed vals a0∧(∀ i,i<n→listed.getD i false=true→Ss i (vals i) w)∧∀ i j,i<n→j<n→i≠j→listed.getD i false=true→listed.getD j false=true→D i=true→D j=true→blk (vals i)≠blk (vals j))→Below w0.heap.size w0 w →
   wpAny P .any l.toArray Q (f+(l.toArray.size - n)) listed a w:=by
  intro rem f
  induction f generalizing rem with
  | zero =>
   intro hl _ listed a w inv hrem ⟨vals,ha,hv,hp⟩ hb;have hr:rem=[]:=List.length_eq_zero_iff.1 hl;subst hr;have hall:∀ i,i<n→listed.getD i false=true:=by
    intro i hi;have h1:¬ listed.getD i true=false:=fun h=>by have:=(hrem i).2 ⟨hi,h⟩;simp at this
    have h2:i<listed.size:=by rw[inv.size];omega
    rw[Array.getD_eq_getD_getElem?,Array.getElem?_eq_getElem h2]at h1 ⊢
    simpa using h1
   have hlist:=listed_head hn inv hall;have hw:=hend vals w hb (fun i hi=>hv i hi (hall i hi)) (fun i j hi hj hij=>hp i j hi hj hij (hall i hi) (hall j hj))
   rw[← fill_all (l.take n) 0 listed vals a0 (fun i hi=>by rw[Nat.zero_add];exact hall i (by omega)),← ha]at hw
   rw[Nat.zero_add];have hdl:(l.drop n).length=l.toArray.size - n:=by simp
   rw[← hdl];refine wpAny_of_seq (l.drop n) n listed a w (fun j=>by simp) ?_ hw
   rw[hdl,hlist];exact hseq
  | succ f ih =>
   intro hl hnd listed a w inv hrem ⟨vals,ha,hv,hp⟩ hb;have hex:∃ i,i ∈ rem∧∀ j,j ∈ rem→i≤j:=by
    have:∀ (r:List Nat),r≠[]→∃ i,i ∈ r∧∀ j,j ∈ r→i≤j:=by
     intro r
     induction r with
     | nil=>intro h;exact(h rfl).elim
     | cons x r ihr =>
      intro _
      by_cases hr:r=[]
      ·subst hr;exact⟨x,by simp,by simp⟩
      ·obtain⟨i,hi,hmin⟩:=ihr hr
       by_cases hx:x≤i
       ·exact⟨x,by simp,fun j hj=>by rcases List.mem_cons.1 hj with rfl|hj;exact Nat.le_refl _;exact Nat.le_trans hx (hmin j hj)⟩
       ·exact⟨i,by simp[hi],fun j hj=>by rcases List.mem_cons.1 hj with rfl|hj;omega;exact hmin j hj⟩
    exact this rem (by intro h;subst h;simp at hl)
   have hready:Region.ready .any l.toArray listed≠[]:=by
    obtain⟨i,hi,hmin⟩:=hex;obtain⟨hin,hil⟩:=(hrem i).1 hi;have hlt:i<l.length:=by omega
    have hmem:i ∈ Region.ready .any l.toArray listed:=by
     refine mem_ready.2 ⟨hil,l[i],by simp[hlt],fun e he hbd=>?_⟩
     have h1:=List.all_eq_true.1 haf (l[i],i) (by
      rw[List.mem_zipIdx_iff_getElem?];simp[hin,hlt])
     have h2:=Array.all_eq_true'.1 h1 e he;simp[hbd]at h2;have hj:¬ e.on ∈ rem:=fun h=>by have:=hmin _ h;omega
     have h3:¬ listed.getD e.on true=false:=fun h=>hj ((hrem _).2 ⟨by omega,h⟩)
     have h4:e.on<listed.size:=by rw[inv.size];simp;omega
     rw[Array.getD_eq_getD_getElem?,Array.getElem?_eq_getElem h4]at h3 ⊢
     simpa using h3
    intro h;rw[h]at hmem;simp at hmem
   rw[show f+1+(l.toArray.size - n)=(f+(l.toArray.size - n))+1 from by omega]
   refine⟨fun h=>(hready h).elim,fun i hi=>?_⟩
   obtain⟨hil,o,ho,haft⟩:=mem_ready.1 hi
   by_cases hin:i<n
   case neg =>
    have hisz:i<l.toArray.size:=(Array.getElem?_eq_some_iff.1 ho).1;have hmost:=late_most hclo hn inv;have hin':i=n:=by
     rcases Nat.lt_or_ge n i with h|h
     ·exfalso
      have h1:=List.all_eq_true.1 htw (l[i]'(by simpa using hisz),i) (by
       rw[List.mem_zipIdx_iff_getElem?];simp at hisz;simp[hisz])
      simp only[Bool.or_eq_true,decide_eq_true_eq]at h1;rcases h1 with h1|h1
      ·omega
      ·obtain⟨ed,hed,hb⟩:=List.any_eq_true.1 h1;simp only[Bool.and_eq_true,decide_eq_true_eq]at hb;have ho2:o=l[i]'(by simpa using hisz):=by
        have:=(Array.getElem?_eq_some_iff.1 ho).2;simpa using this.symm
       have h3:=haft ed (by rw[ho2];exact Array.mem_toList_iff.1 hed) hb.1.1
       have h4:=getD_both (inv.tail ed.on hb.1.2 (by omega))
       rw[h3]at h4;cases h4
     ·omega
    subst hin';have hall:∀ k,k<i→k≠e→listed.getD k false=true:=fun k hk hke=>hmost o ho haft k hk hke
    have hone:rem=[e]:=by
     have h1:∀ k ∈ rem,k=e:=by
      intro k hk;obtain⟨hk1,hk2⟩:=(hrem k).1 hk
      by_cases hke:k=e
      ·exact hke
      ·have:=hall k hk1 hke;rw[getD_both hk2]at this;cases this
     cases rem with
     | nil=>simp at hl
     | cons x r =>
      cases r with
      | nil=>rw[h1 x (by simp)]
      | cons y r =>
       have hx:=h1 x (by simp);have hy:=h1 y (by simp)
       rw[hx,hy]at hnd;simp at hnd
    subst hone;have hf:f=0:=by simp at hl;omega
    subst hf;have hel:listed.getD e true=false:=((hrem e).1 (by simp)).2
    have hlist:=listed_but hn hen inv hall hel;have hw:=hend2 vals w hb (fun k hk hke=>hv k hk (hall k hk hke)) (fun k m hk hm hke hme hkm=>hp k m hk hm hkm (hall k hk hke) (hall m hm hme))
    rw[← fill_but e (l.take i) 0 listed vals a0 (fun k hk hke=>by rw[Nat.zero_add]at hke ⊢;exact hall k (by omega) hke) (fun _=>getD_both hel),← ha]at hw
    have hli:l[i]?=some o:=by simpa using ho
    have hl1:(l.drop i).take 1=[o]:=by
     rw[List.drop_eq_getElem_cons (by simpa using hisz)]
     have:l[i]'(by simpa using hisz)=o:=(List.getElem?_eq_some_iff.1 hli).2
     simp[this]
    have hlt':i<l.length:=by simpa using hisz
    have heL:e<l.length:=by omega
    have hl2:(l.drop e).take 1=[l[e]]:=by rw[List.drop_eq_getElem_cons heL,List.take_succ_cons,List.take_zero]
    unfold lateL at hw;rw[hl1,hl2]at hw;have hw2:wpOp P l.toArray Q i (wpList P l.toArray Q ([l[e]]++l.drop (i+1))) a w:=by unfold wpOp;simp only[ho];exact hw
    have hlen:(e::List.range' (i+1) (l.toArray.size - i - 1)).length=0+(l.toArray.size - i):=by simp;omega
    refine wpOp_mono (fun a' w' h'=>?_) hw2
    rw[← hlen];refine wpAny_of_order (e::List.range' (i+1) (l.toArray.size - i - 1)) ([l[e]]++l.drop (i+1)) _ a' w' (by simp;omega) (fun j k hk=>?_) ?_ h'
    ·cases j with
     | zero=>simp at hk;subst hk;simp[heL]
     | succ j =>
      simp only[List.getElem?_cons_succ]at hk;obtain⟨hk1,hk2⟩:=List.getElem?_eq_some_iff.1 hk;simp at hk2;subst hk2;simp
    ·rw[hlist];exact hord
   have ho':l[i]?=some o:=by simpa using ho
   have hot:(l.take n)[i]?=some o:=by rw[List.getElem?_take_of_lt hin];exact ho'
   obtain⟨d,hod⟩:∃ d,o.dst=some d:=by
    have:∀ (r:List Oper) (j:Nat),dstsB r=true→r[j]?=some o→∃ d,o.dst=some d:=by
     intro r
     induction r with
     | nil=>intro j _ h;simp at h
     | cons x r ihr =>
      intro j hdd h;simp only[dstsB,Bool.and_eq_true]at hdd
      cases j with
      | zero=>simp at h;subst h;exact Option.isSome_iff_exists.1 hdd.1.1
      | succ j=>exact ihr j hdd.2 (by simpa using h)
    exact this _ i hd' hot
   have hbd:∀ (j:Nat) (oj:Oper) (dj:Tmp),(l.take n)[j]?=some oj→oj.dst=some dj→dj<a0.tmps.size:=by
    intro j oj dj hj hdj;have:=List.all_eq_true.1 hsz oj (List.mem_of_getElem? hj)
    simpa [hdj] using this
   have hctx:RCtx (l.take n) Ss a0 w0 o a w:=by
    refine⟨hb,fun t ht=>by rw[ha];exact fill_frame _ _ _ _ _ t ht,fun j dj hj hdj=>?_,by rw[ha,fill_size]⟩
    obtain⟨e,he,hbe⟩:=List.any_eq_true.1 hj;simp only[Bool.and_eq_true,beq_iff_eq]at hbe;have hlj:=haft e (Array.mem_toList_iff.1 he) hbe.1;rw[hbe.2]at hlj;obtain⟨oj,hoj,hdj'⟩:=Option.bind_eq_some_iff.1 hdj;have hjn:j<n:=by have:=(List.getElem?_eq_some_iff.1 hoj).1;omega
    rw[ha,fill_at _ 0 listed vals a0 j oj dj hd' hoj hdj' (hbd j oj dj hoj hdj') (by rw[Nat.zero_add];exact hlj),Nat.zero_add]
    exact hv j hjn hlj
   have hstep':=hstep i o hin ho' a w hctx;have hnext:∀ v w',Below w.heap.size w w'→(Ss i v w'∧(D i=true→w.heap.size≤blk v))→wpAny P .any l.toArray Q (f+(l.toArray.size - n)) (listed.setIfInBounds i true) (a.put o.dst v) w':=by
    intro v w' hbw ⟨hsv,hfr⟩;have hmemi:i ∈ rem:=(hrem i).2 ⟨hin,hil⟩;refine ih (rem.erase i) (by rw[List.length_erase_of_mem hmemi,hl];rfl) (hnd.erase i) _ _ w' (inv.set hi hin) (fun j=>?_) ⟨fun j=>if j=i then v else vals j,?_,fun j hj hlj=>?_,fun j k hj hk hjk hlj hlk hDj hDk=>?_⟩ (hb.trans (hbw.mono hb.size))
    ·rw[hnd.mem_erase_iff,hrem j]
     by_cases hji:j=i
     ·subst hji;have hjs:j<listed.size:=by rw[inv.size];simp;omega
      simp[hjs]
     ·rw[getD_set_ne true (fun e=>hji e.symm)]
      simp[hji]
    ·have:=fill_set (l.take n) 0 i listed vals a0 o d v hd' hot hod (by rw[Nat.zero_add];exact hil)
     rw[Nat.zero_add]at this;rw[this,← ha,hod]
    ·by_cases hji:j=i
     ·subst hji;simpa using hsv
     ·show Ss j (if j=i then v else vals j) w'
      rw[if_neg hji];rw[getD_set_ne false (fun e=>hji e.symm)]at hlj
      exact hst j hj _ _ _ (hv j hj hlj) hbw
    ·show blk (if j=i then v else vals j)≠blk (if k=i then v else vals k)
     by_cases hji:j=i
     ·subst hji;rw[if_pos rfl,if_neg (fun e=>hjk e.symm)]
      rw[getD_set_ne false hjk]at hlk;have h1:=hlt k hk hDk _ _ (hv k hk hlk);have h2:=hfr hDj;omega
     ·rw[if_neg hji];rw[getD_set_ne false (fun e=>hji e.symm)]at hlj
      by_cases hki:k=i
      ·subst hki;rw[if_pos rfl];have h1:=hlt j hj hDj _ _ (hv j hj hlj);have h2:=hfr hDk;omega
      ·rw[if_neg hki];rw[getD_set_ne false (fun e=>hki e.symm)]at hlk
       exact hp j k hj hk hjk hlj hlk hDj hDk
   unfold wpOp;simp only[ho];unfold RStep at hstep';split
   ·rename_i hw;rw[if_pos hw]at hstep';refine .inl (wpQ_mono (Oper.wp_mono (fun a' w' ⟨v,e,hbw,hsv⟩=>?_) hstep'))
    subst e;exact hnext v w' hbw hsv
   ·rename_i hw;rw[if_neg hw]at hstep';exact hnext undef w (Below.refl _ w) hstep'
 refine wp_region_any hm ?_
 have h0:=key (List.range n) n (by simp) List.nodup_range (Array.replicate l.toArray.size false) a0 {w0 with drawn:=w0.drawn+1}
  ⟨by simp,fun j oj _ hl=>(by rw[getD_replicate_false]at hl;cases hl),fun t _ ht=>getD_in (by simpa using ht) (getD_replicate_false _ _)⟩
  (fun i=>by
   rw[List.mem_range];constructor
   ·intro h;exact⟨h,getD_in (by simp;omega) (getD_replicate_false _ _)⟩
   ·intro h;exact h.1)
  ⟨fun _=>undef,(fill_none _ _ _ _ _ (fun i=>getD_replicate_false _ _)).symm,fun i _ h=>(by rw[getD_replicate_false]at h;cases h),fun i j _ _ _ h=>(by rw[getD_replicate_false]at h;cases h)⟩
  ((Below.refl _ w0).drew)
 rw[show n+(l.toArray.size - n)=l.toArray.size from by omega]at h0
 exact h0
theorem wp_region_late {P:Program} {id:Nat} {Q:Exit→Act→World→Prop} {a0:Act} {w0:World} {l:List Oper} (n e:Nat) (L:List (Value→World→Prop)) (D:Nat→Bool)
  (hm:P.follows .mixedOrders=true) (hB:lateB l.toArray n e=true) (hsz:(l.take n).all (fun o=>match o.dst with|some d=>decide (d<a0.tmps.size)|none=>true)=true)
  (hst:AllStable L) (hlt:∀ i,i<n→D i=true→∀ v w,lookS L i v w→blk v<w.heap.size)
  (hstep:Obl P l (l.take n) L D a0 w0 (l.take n) 0)
  (hend:∀ vals w,Below w0.heap.size w0 w→(∀ i,i<n→lookS L i (vals i) w)→(∀ i j,i<n→j<n→i≠j→D i=true→D j=true→blk (vals i)≠blk (vals j)) →
   wpList P l.toArray Q (l.drop n) (fillAll (l.take n) 0 vals a0) w)
  (hend2:∀ vals w,Below w0.heap.size w0 w→(∀ i,i<n→i≠e→lookS L i (vals i) w)→(∀ i j,i<n→j<n→i≠e→j≠e→i≠j→D i=true→D j=true→blk (vals i)≠blk (vals j)) →
   wpList P l.toArray Q (lateL l n e) (fillBut e (l.take n) 0 vals a0) w) :
  (Code.region id l.toArray true).wp P Q a0 w0 :=
 wp_region_lateD n e (lookS L) D hm hB hsz (fun i _ v w w' h hb=>lookS_stable L i hst v w w' h hb) hlt
  (fun i o hi ho a w hc=>by
   have:=Obl.get (l.take n) 0 hstep i o (by rw[List.getElem?_take_of_lt hi];exact ho) a w hc
   rwa [Nat.zero_add]at this) hend hend2
end Go.Proofs.YtdoflhjhaciepaaGreat
namespace Go.Proofs.YtdoflhjhaciepaaGreat
open Go.RowKit Go.Shelf
attribute [local go_sem] Oper.semAt_some
abbrev stepL (mb:Nat) (lv mk nv:Value) (pp:Option Addr) (cp:Nat) (ps:List InstD) (psl:Option Addr) (csl:Nat) (L:Str) (Fp Fs Fk:Nat→Prop) (zs ys:List WV):List Res :=
 [.blk mb #[lv,mk,.slice pp ps.length cp,.slice psl L.length csl,nv] 54,.row lv 58 2 zs.length (flatR (zs.map wayC)),.kn Fp (InstsR Fp pp cp ps),.kn Fs (BytesR Fs psl csl L),.kn Fk (WaysK Fk ys)]
def StepB (mb:Nat) (lv mk nv:Value) (pp:Option Addr) (cp:Nat) (ps:List InstD) (psl:Option Addr) (csl:Nat) (L:Str) (Fp Fs Fk:Nat→Prop) (ys:List WV) (i:Nat) (M:Nat→Prop) (w0 w:World) (e:Ending) (w':World):Prop :=
 ∃ (lv':Value) (zs:List WV) (fd:Option WV),stepP ps L i (ys.map plW)=(fd.map (·.2.1),zs.map plW)∧(∀ z ∈ zs,z.1<ps.length∧∃ y ∈ ys,z.2=y.2)∧(∀ y,fd=some y→y ∈ ys) ∧
  e=.returned (match fd with|some y=>.slice y.2.2.1 y.2.1.length y.2.2.2|none=>.slice none 0 0) ∧
  Turned M w0 w (stepL mb lv mk nv pp cp ps psl csl L Fp Fs Fk [] ys++[.row nv 58 2 ys.length (flatR (ys.map wayC))]) (stepL mb lv' mk (.slice none 0 0) pp cp ps psl csl L Fp Fs Fk zs ys) w'
theorem stepP_on {ps:List InstD} {L:Str} {i:Nat} {ys:List Way} {zs:List Way} {j:Nat} {k:Nat} {sl:Slots} (h:stepP ps L i (ys.take j)=(none,zs)) (hy:ys[j]?=some (k,sl)) (h5:(atI ps k).kind≠5) (b:Bool) (hb:(i<L.length∧hasB (atI ps k).set (byt L i)=true)↔b=true) :
  stepP ps L i (ys.take (j+1))=(none,if b then zs++[((atI ps k).next.toNat,sl)] else zs):=by
 rw[take_get hy,step_append,h];simp only[stepP,if_neg h5]
 cases b with
 | true=>rw[if_pos (hb.2 rfl)];rfl
 | false=>rw[if_neg (fun h=>by have:=hb.1 h;cases this)];simp
theorem stepP_hit {ps:List InstD} {L:Str} {i:Nat} {ys:List Way} {zs:List Way} {j:Nat} {k:Nat} {sl:Slots} (h:stepP ps L i (ys.take j)=(none,zs)) (hy:ys[j]?=some (k,sl)) (h5:(atI ps k).kind=5):stepP ps L i ys=(some sl,zs):=by
 have e:ys=ys.take j++((k,sl)::ys.drop (j+1)):=by
  conv=>lhs;rw[← List.take_append_drop j ys]
  congr 1
  obtain⟨hlt,e⟩:=List.getElem?_eq_some_iff.1 hy;rw[← e];exact List.drop_eq_getElem_cons hlt
 rw[e,step_append,h];simp[stepP,h5]
theorem info_way:(Tryz.prog.info? 58).map (fun i=>(i.zero,i.size,i.bytes))=some (some (.agg #[.int .i64 0,.slice none 0 0]),2,32):=by kernel_rfl
theorem flatW_put (xs:List WV) (y:WV):flatR (xs.map wayC)++(wayC y).toList=flatR ((xs++[y]).map wayC):=by
 rw[List.map_append,flatR_append];simp[flatR]
theorem run_way2 (k:Int) (q:Option Addr) (n c:Nat) (W:World):(Instr.build 58 #[(0,.int .i64 k),(1,.slice q n c)]).run Tryz.prog W=.ok (.agg #[.int .i64 k,.slice q n c]) W:=by simp[go_sem]
theorem run_way1 (x:WV) (W:World):(Instr.buildSlice 50 1 #[(0,.agg (wayC x))]).run Tryz.prog W=.ok (.slice (some ⟨W.heap.size,0,none⟩) 1 1) (W.alloc (.cells (wayC x) 58)):=by kernel_rfl
theorem rs_way1 {ops:Array Oper} {o:Oper} {a:Act} {w:World} {x:Operand} {d:WV} {n0:Nat} {D:Prop} (hg:Region.wanted o (yielded ops a.tmps)=true) (hop:o.op=Op.buildSlice 50 1 #[(0,x)]) (hx:a.eval x=.agg (wayC d)) (hn:n0≤w.heap.size) (hD:¬ D) :
  RStep Tryz.prog ops o a w (fun v w'=>FreshS n0 (wayC d) 58 v w'∧(D→w.heap.size≤blk v)):=by
 refine rs_val hg (v:=.slice (some ⟨w.heap.size,0,none⟩) 1 1) (w':=w.alloc (.cells (wayC d) 58)) ?_ ((Below.refl _ w).alloc (Nat.le_refl _) _) ⟨⟨w.heap.size,rfl,hn,World.alloc_heap_new w _⟩,fun h=>(hD h).elim⟩
 simp only[execOp,hop,List.map_toArray,List.map_cons,List.map_nil,hx,Sem.run_bind,run_way1];rfl
theorem HoldG.gainS2 {M:Nat→Prop} {w0 w w':World} {l:List Res} (H:HoldG M w0 w l) (hb:Below w.heap.size w w') {cs:Array Value} {T:TypeId} {v:Value} (h:FreshS w.heap.size cs T v w'):∃ b,v=.slice (some ⟨b,0,none⟩) 1 1∧HoldG M w0 w' (l++[.blk b cs T]):=by
 obtain⟨b,e,h1,h2⟩:=h;obtain⟨b',e',H2⟩:=H.gainB hb (v:=.pointer (some ⟨b,0,none⟩)) ⟨b,rfl,h1,h2⟩
 cases e'
 exact⟨b,e,H2⟩
theorem run_wayB {o:Oper} {a:Act} {w:World} {x y:Operand} {k:Int} {d:Slots × Option Addr × Nat} (hop:o.op=.build 58 #[(0,x),(1,y)]) (hx:a.eval x=.int .i64 k) (hy:a.eval y=.slice d.2.1 d.1.length d.2.2) (hk:0≤k):(execOp a.eval o).run Tryz.prog w=.ok (.value (.agg (wayC (k.toNat,d)))) w:=by
 have e:wayC (k.toNat,d)=#[.int .i64 k,.slice d.2.1 d.1.length d.2.2]:=by
  unfold wayC;simp only[Int.toNat_of_nonneg hk]
 rw[e];simp only[execOp,hop,List.map_toArray,List.map_cons,List.map_nil,hx,hy,Sem.run_bind,run_way2];rfl
section
variable {M:Nat→Prop} {ops:Array Oper} {dst:Option Tmp} {ty:TypeId} {pos:String} {aft:Array Edge} {grd:Option (Nat × Bool)} {rest:List Oper} {a:Act} {w w0:World} {l:List Res} {Q:Exit→Act→World→Prop}
theorem zWay_size:(zeroC Tryz.prog 58).size=2:=by kernel_rfl
theorem gTw {x y:Operand} (h:wpList Tryz.prog ops Q ((⟨dst,.store 58 x y,ty,pos,aft,grd⟩:Oper)::rest) a w):wpList Tryz.prog ops Q ((⟨dst,.store 58 x y,ty,pos,aft,grd⟩:Oper)::rest) a w:=h
theorem aTw (H:HoldG M w0 w l) {x y:Operand} {i b:Nat} {cs:Array Value} {U:TypeId} {d:WV} (h:∀ w',HoldG M w0 w' (l.set i (.blk b (wayC d) U))→wpList Tryz.prog ops Q rest (a.put dst undef) w') (hg:Region.wanted (⟨dst,.store 58 x y,ty,pos,aft,grd⟩:Oper) (yielded ops a.tmps)=true:=by first|rfl|exact wanted_g rfl (yielded_of rfl (by first|rfl|(simp only[pe];rfl)))) (hx:a.eval x=.pointer (some ⟨b,0,none⟩):=by exact rfl) (hy:a.eval y=.agg (wayC d):=by first|(simp only[pe];done)|(simp only[pe];rfl)) (hi:At l i (.blk b cs U):=by repeat (first|(with_reducible exact At.zero)|apply At.succ)) (hn:cs.size=2:=by first|(with_reducible exact zWay_size)|rfl):wpList Tryz.prog ops Q ((⟨dst,.store 58 x y,ty,pos,aft,grd⟩:Oper)::rest) a w :=
 own_store hg 58 x y rfl hx hy H hi (row_size row_Way) rfl hn rfl h
theorem aGw1 (H:HoldG M w0 w l) {T:TypeId} {x:Operand} {i b:Nat} {d:WV} {U:TypeId} (h:wpList Tryz.prog ops Q rest (a.put dst (.slice d.2.2.1 d.2.1.length d.2.2.2)) w) (hg:Region.wanted (⟨dst,.load T x,ty,pos,aft,grd⟩:Oper) (yielded ops a.tmps)=true:=by first|rfl|exact wanted_g rfl (yielded_of rfl (by first|rfl|(simp only[pe];rfl)))) (hx:a.eval x=.pointer (some ⟨b,1,none⟩):=by exact rfl) (hi:At l i (.blk b (wayC d) U):=by repeat (first|(with_reducible exact At.zero)|apply At.succ)) (hT:oneB Tryz.prog T=true:=by with_reducible exact one_ints):wpList Tryz.prog ops Q ((⟨dst,.load T x,ty,pos,aft,grd⟩:Oper)::rest) a w :=
 own_load1 hg T x rfl hx H hi hT (yg1 d) h
theorem bWay {x y:Operand} {k:Int} {q:Option Addr} {n c:Nat} (h:wpList Tryz.prog ops Q rest (a.put dst (.agg #[.int .i64 k,.slice q n c])) w) (hg:Region.wanted (⟨dst,.build 58 #[(0,x),(1,y)],ty,pos,aft,grd⟩:Oper) (yielded ops a.tmps)=true:=by first|rfl|exact wanted_g rfl (yielded_of rfl (by first|rfl|(simp only[pe];rfl)))) (h0:a.eval x=.int .i64 k:=by first|(simp only[pe];done)|(simp only[pe];rfl)) (h1:a.eval y=.slice q n c:=by first|(simp only[pe];done)|(simp only[pe];rfl)):wpList Tryz.prog ops Q ((⟨dst,.build 58 #[(0,x),(1,y)],ty,pos,aft,grd⟩:Oper)::rest) a w :=
 own_pure hg (by simp only[execOp,List.map_toArray,List.map_cons,List.map_nil,h0,h1,Sem.run_bind,run_way2];rfl) h
end
theorem step_fin {M:Nat→Prop} {w0 w W:World} {l:List Res} {mb:Nat} {lv mk nv lv':Value} {pp:Option Addr} {cp:Nat} {ps:List InstD} {psl:Option Addr} {csl:Nat} {L:Str} {Fp Fs Fk:Nat→Prop} {zs ys:List WV} (H:HoldG M w0 W l) {q:Nat}
  (hi:At l q (.kn (restF w (stepL mb lv mk nv pp cp ps psl csl L Fp Fs Fk [] ys++[.row nv 58 2 ys.length (flatR (ys.map wayC))])) (restS w (stepL mb lv mk nv pp cp ps psl csl L Fp Fs Fk [] ys++[.row nv 58 2 ys.length (flatR (ys.map wayC))])))) (hq:4<q)
  (h:[0,1,2,3,4].map (fun j=>l[j]?)=(stepL mb lv' mk (.slice none 0 0) pp cp ps psl csl L Fp Fs Fk zs ys).map some) :
  Turned M w0 w (stepL mb lv mk nv pp cp ps psl csl L Fp Fs Fk [] ys++[.row nv 58 2 ys.length (flatR (ys.map wayC))]) (stepL mb lv' mk (.slice none 0 0) pp cp ps psl csl L Fp Fs Fk zs ys) W :=
 Turned.of H hi [0,1,2,3,4] (by decide) (by simp;omega) h (fun F S hm b hb=>by
  simp at hm;rcases hm with ⟨rfl,rfl⟩|⟨rfl,rfl⟩|⟨rfl,rfl⟩
  ·exact .inl ⟨.kn F (InstsR F pp cp ps),by simp,hb⟩
  ·exact .inl ⟨.kn F (BytesR F psl csl L),by simp,hb⟩
  ·exact .inl ⟨.kn F (WaysK F ys),by simp,hb⟩)
theorem vm_step (mb:Nat) (mk nv:Value) (lq:Option Addr) (lc:Nat) (pp:Option Addr) (cp:Nat) (ps:List InstD) (psl:Option Addr) (csl:Nat) (L:Str) (Fp Fs Fk:Nat→Prop) (ys:List WV) (i:Nat) (M:Nat→Prop) (w0 w:World) (hR:rightP ps=true) (hset:∀ x ∈ ps,SetOk x.set) (hin:∀ y ∈ ys,y.1<ps.length∧((atI ps y.1).kind=1∨(atI ps y.1).kind=5)) (hyn:ys.length≤1000000)
  (H0:HoldG M w0 w (stepL mb (.slice lq 0 lc) mk nv pp cp ps psl csl L Fp Fs Fk [] ys++[.row nv 58 2 ys.length (flatR (ys.map wayC))])) :
  Calls Tryz.prog 23 #[.pointer (some ⟨mb,0,none⟩),.int .i64 i] w (StepB mb (.slice lq 0 lc) mk nv pp cp ps psl csl L Fp Fs Fk ys i M w0 w):=by
 have H:=H0.framed;clear H0;obtain⟨rF,hrF⟩:∃ rF,restF w (stepL mb (.slice lq 0 lc) mk nv pp cp ps psl csl L Fp Fs Fk [] ys++[.row nv 58 2 ys.length (flatR (ys.map wayC))])=rF:=⟨_,rfl⟩;obtain⟨rS,hrS⟩:∃ rS,restS w (stepL mb (.slice lq 0 lc) mk nv pp cp ps psl csl L Fp Fs Fk [] ys++[.row nv 58 2 ys.length (flatR (ys.map wayC))])=rS:=⟨_,rfl⟩;rw[hrF,hrS]at H;simp only[stepL,List.cons_append,List.nil_append]at H
 obtain⟨q0,c0,rfl,_,_,hq0⟩:=H.rowShape (i:=5) i_5;obtain⟨n,hn⟩:∃ n,ys.length=n:=⟨_,rfl⟩;have HYL:=Lib.hid (show (ys.map wayC).length=n by rw[List.length_map];exact hn)
 have HN:=Lib.hid hn;rw[hn]at H hq0 hyn;clear hn;obtain⟨iw,hiw,hw0,hw1,hw2⟩:=info_parts info_way
 go_enter Tryz.func23,Tryz.ntmps23
 go_wp2_with (first|((with_reducible refine gL ?_);refine own_load1 wtd_ _ _ rfl rfl H (i:=0) .zero one_ways rfl ?_)|((with_reducible refine gT ?_);refine own_store1 wtd_ _ _ _ rfl rfl evd_ H (i:=0) .zero rfl (by show 4<5;omega) (one_size one_ways) ?_;clear H;intro w H;simp only[List.set_cons_succ,List.set_cons_zero]at H)|fail)
 go_loopw [18] (fun ix wr=>∃ (j:Nat) (vq:Option Addr) (vc:Nat) (zs:List WV),j≤n∧ix=.int .i64 j∧Hid (stepP ps L i ((ys.map plW).take j)=(none,zs.map plW))∧Hid (∀ z ∈ zs,z.1<ps.length∧∃ y ∈ ys,z.2=y.2)∧zs.length≤j∧HoldG M w0 wr [.blk mb #[.slice vq zs.length vc,mk,.slice pp ps.length cp,.slice psl L.length csl,.slice none 0 0] 54,.row (.slice vq zs.length vc) 58 2 zs.length (flatR (zs.map wayC)),.kn Fp (InstsR Fp pp cp ps),.kn Fs (BytesR Fs psl csl L),.kn Fk (WaysK Fk ys),.row (.slice q0 n c0) 58 2 n (flatR (ys.map wayC)),.kn rF rS]) (fun ix _=>n+1 - (intOf ix).toNat)
 case atStart=>exact⟨0,lq,lc,[],by omega,rfl,Lib.hid rfl,Lib.hid (fun _ h=>by cases h),by simp,H⟩
 case round =>
  clear H;obtain⟨j,vq,vc,zs,hj,rfl,ES,EZ,hzl,H⟩:=hrel
  by_cases hlt:j<n
  ·have dj:decide (j<n)=true:=decide_eq_true hlt;have dj2:decide ((j:Int)<(n:Int))=true:=decide_eq_true (by omega)
   obtain⟨y,hy⟩:∃ y,ys[j]?=some y:=⟨_,List.getElem?_eq_getElem (by rw[HN.out];exact hlt)⟩
   have HYX:=Lib.hid (show (ys.map wayC)[j]?=some (wayC y) by rw[List.getElem?_map,hy];rfl)
   have hyp:(ys.map plW)[j]?=some (y.1,y.2.1):=by rw[List.getElem?_map,hy];rfl
   have hmem:=List.mem_of_getElem? hy;obtain⟨hk,hkind⟩:=hin y hmem;obtain⟨g0,rfl⟩:=hq0 (by omega)
   obtain⟨x,hx⟩:∃ x,ps[y.1]?=some x:=⟨_,List.getElem?_eq_getElem hk⟩;have hat:=atI_get hx;have hri:=right_get hR hx;have hsx:=hset x (List.mem_of_getElem? hx);obtain⟨bp,op,hpp⟩:=(H.kn (i:=2) i_2).at (by omega)
   subst hpp;have hcell:∀ V,InstsR Fp (some ⟨bp,op,none⟩) cp ps V→∀ q,q<9→V.cell? ⟨bp,op+y.1 * 9+q,none⟩=(instC x)[q]?:=fun V h=>h.cells hx rfl
   go_upto_region 6 with (first|((with_reducible refine gL ?_);refine own_loadK wtd_ _ _ rfl rfl row_Way (wayC_size y) (H.rowCell (i:=5) i_5 (waysX_size _) HYL.out HYX.out rfl) ?_)|((with_reducible refine gTw ?_);refine aTw H ?_;clear H;intro w H;simp only[List.set_cons_succ,List.set_cons_zero]at H)|((first|((with_reducible refine kgA 7 ?_);refine kA 7 H ?_)|((with_reducible refine kgX 7 ?_);(first|refine kS 7 H ?_|refine kB 7 H ?_)));clear H;intro b7 w H;try simp only[nr]at H)|fail)
   refine wp_region_spec 9 [fun v _=>v=.pointer (some ⟨mb,0,none⟩),fun v _=>v=.pointer (some ⟨mb,0,none⟩),fun v _=>v=.pointer (some ⟨mb,2,none⟩),fun v _=>v=.slice (some ⟨bp,op,none⟩) ps.length cp,fun v _=>v=.pointer (some ⟨b7,0,none⟩),fun v _=>v=.int .i64 (y.1:Nat),fun v _=>v=.pointer (some ⟨bp,op+y.1 * 9,none⟩),fun v _=>v=instV x,FreshB w.heap.size (instC {kind:=0}) 43] (fun _=>false) (by kernel_rfl) (by kernel_rfl) (by kernel_rfl) (by repeat (first|exact trivial|refine⟨stable_eq _,?_⟩|refine⟨stable_fresh _ _ _,?_⟩)) (fun _ _ h=>by cases h) ?ob ?en
   case ob =>
    refine⟨?_,?_,?_,?_,?_,?_,?_,?_,?_,trivial⟩<;>intro A W h
    ·exact rs_move rfl rfl (h.frame 0 rfl)
    ·(have e22:A.eval (.tmp 22)=.pointer (some ⟨mb,0,none⟩):=h.dep 0 22 rfl rfl;refine rs_pure rfl ?_;simp only[execOp,e22];simp[go_sem])
    ·(have e23:A.eval (.tmp 23)=.pointer (some ⟨mb,0,none⟩):=h.dep 1 23 rfl rfl;refine rs_pure rfl ?_;simp only[execOp,e23];simp[go_sem])
    ·exact rs_pure rfl (run_load1K rfl (h.dep 2 24 rfl rfl) one_insts ((H.call h.below).cell (i:=0) .zero 2)) (by decide)
    ·(have e7:A.eval (.tmp 7)=.pointer (some ⟨b7,0,none⟩):=h.frame 7 rfl;refine rs_pure rfl ?_;simp only[execOp,e7];simp[go_sem])
    ·exact rs_pure rfl (run_load1K rfl (h.dep 4 26 rfl rfl) one_int (((H.call h.below).cell (i:=7) i_7 0).trans (yg0 y))) (by decide)
    ·exact rs_idx (sz:=9) Tryz.underlying22 (fun w=>by kernel_rfl) rfl rfl (h.dep 3 25 rfl rfl) (h.dep 5 27 rfl rfl) hk rfl (by decide)
    ·exact rs_pure rfl (run_loadK rfl (h.dep 6 28 rfl rfl) row_Inst rfl (hcell _ ((H.call h.below).kn (i:=2) i_2))) (by decide)
    ·exact rs_fresh rfl rfl (by kernel_rfl) zInst h.below.size (by decide)
   case en =>
    intro vals W hbw hv _;have x8:=hv 8 (by omega);simp only[lookS]at x8
    simp only[fa,Nat.reduceAdd];rw[e_ hv 0,e_ hv 1,e_ hv 2,e_ hv 3,e_ hv 4,e_ hv 5,e_ hv 6,e_ hv 7];clear hv
    try simp only[pl]
    try simp only[pl]
    obtain⟨b8,e8,H8⟩:=H.gainB hbw x8;rw[e8];clear x8 e8 H hbw;have H:=H8;clear H8;simp only[List.cons_append,List.nil_append]at H
    go_upto_region 7 with (first|((with_reducible refine gTi ?_);refine aTi H ?_;clear H;intro w H;try simp only[nr]at H))
    by_cases k5:x.kind=5
    ·have d5:(x.kind == 5)=true:=by rw[beq_iff_eq];exact k5
     have E:=Lib.hid (stepP_hit ES.out hyp (by rw[hat];exact k5))
     clear hcell hyp hri hsx k5 hkind hx hat
     go_wp2_with (first|((with_reducible refine gL ?_);refine aGw1 H ?_)|((with_reducible refine gL ?_);refine aGi H ?_))
     go_ret;rw[← hrF,← hrS]at H;exact⟨.slice vq zs.length vc,zs,some y,E.out,EZ.out,fun y' h=>(by cases h;exact hmem),rfl,step_fin H (q:=6) i_6 (by decide) rfl⟩
    ·have d5:(x.kind == 5)=false:=by rw[beq_eq_false_iff_ne];exact k5
     have h1:x.kind=1:=by rw[hat]at hkind;exact hkind.resolve_right k5
     have hnx:=right_next hri (.inl h1);have hon:=fun b hb=>stepP_on ES.out hyp (by rw[hat];exact k5) b hb
     rw[hat]at hon
     by_cases hiL:i<L.length
     ·obtain⟨bs,os,hbs⟩:=(H.kn (i:=3) i_3).at (by omega)
      subst hbs;have hha:=fun w=>set_Has x.set hsx (byt L i) (byt_lt L i) w
      cases hs:hasB x.set (byt L i) with
      | true =>
       rw[hs]at hha;have E:=Lib.hid (hon true ⟨fun _=>rfl,fun _=>⟨hiL,hs⟩⟩)
       clear hon hcell hyp hri hsx k5 hkind hx hat hs h1
       go_upto_region 9 with (first|((with_reducible refine gL ?_);refine aGi H ?_))
       refine wp_region_spec 20 [fun v _=>v=.int .i64 (i:Nat),fun v _=>v=.pointer (some ⟨mb,0,none⟩),fun v _=>v=.pointer (some ⟨mb,0,none⟩),fun v _=>v=.pointer (some ⟨mb,3,none⟩),fun v _=>v=.slice (some ⟨bs,os,none⟩) L.length csl,fun v _=>v=.int .i64 ((L.length:Nat):Int),fun v _=>v=.bool true,fun v _=>v=.bool true,fun v _=>v=.pointer (some ⟨b8,1,none⟩),fun v _=>v=setV x.set,fun v _=>v=.pointer (some ⟨mb,0,none⟩),fun v _=>v=.pointer (some ⟨mb,0,none⟩),fun v _=>v=.pointer (some ⟨mb,3,none⟩),fun v _=>v=.slice (some ⟨bs,os,none⟩) L.length csl,fun v _=>v=.int .i64 (i:Nat),fun v _=>v=.pointer (some ⟨bs,os+i,none⟩),fun v _=>v=.int .u8 (byt L i),fun v _=>v=.bool true,fun v _=>v=.bool true,fun v _=>v=.bool true] (fun _=>false) (by kernel_rfl) (by kernel_rfl) (by kernel_rfl) (by repeat (first|exact trivial|refine⟨stable_eq _,?_⟩)) (fun _ _ h=>by cases h) ?ob ?en
       case ob =>
        refine⟨?_,?_,?_,?_,?_,?_,?_,?_,?_,?_,?_,?_,?_,?_,?_,?_,?_,?_,?_,?_,trivial⟩<;>intro A W h
        ·exact rs_move rfl rfl (h.frame 1 rfl)
        ·exact rs_move rfl rfl (h.frame 0 rfl)
        ·(have e38:A.eval (.tmp 38)=.pointer (some ⟨mb,0,none⟩):=h.dep 1 38 rfl rfl;refine rs_pure rfl ?_;simp only[execOp,e38];simp[go_sem])
        ·(have e39:A.eval (.tmp 39)=.pointer (some ⟨mb,0,none⟩):=h.dep 2 39 rfl rfl;refine rs_pure rfl ?_;simp only[execOp,e39];simp[go_sem])
        ·exact rs_pure rfl (run_load1K rfl (h.dep 3 40 rfl rfl) one_bytes ((H.call h.below).cell (i:=0) .zero 3)) (by decide)
        ·exact rs_len Tryz.underlying23 rfl rfl (h.dep 4 41 rfl rfl)
        ·(have e37:A.eval (.tmp 37)=.int .i64 (i:Nat):=h.dep 0 37 rfl rfl;have e42:A.eval (.tmp 42)=.int .i64 ((L.length:Nat):Int):=h.dep 5 42 rfl rfl;refine rs_pure rfl ?_;simp only[execOp,e37,e42];(simp[go_sem];omega))
        ·exact rs_move rfl rfl (h.dep 6 43 rfl rfl)
        ·(have e8:A.eval (.tmp 8)=.pointer (some ⟨b8,0,none⟩):=h.frame 8 rfl;refine rs_pure (wanted_g rfl (yielded_of (d:=44) rfl (h.dep 7 44 rfl rfl))) ?_;simp only[execOp,e8];simp[go_sem])
        ·exact rs_pure (wanted_g rfl (yielded_of (d:=44) rfl (h.dep 7 44 rfl rfl))) (run_loadK rfl (h.dep 8 45 rfl rfl) row_Set rfl (fun j hj=>by have h1:=(H.call h.below).cell (i:=8) i_8 (1+j);rcases j with _|_|_|_|j<;>first|exact h1|omega)) (by decide)
        ·exact rs_move (wanted_g rfl (yielded_of (d:=44) rfl (h.dep 7 44 rfl rfl))) rfl (h.frame 0 rfl)
        ·(have e47:A.eval (.tmp 47)=.pointer (some ⟨mb,0,none⟩):=h.dep 10 47 rfl rfl;refine rs_pure (wanted_g rfl (yielded_of (d:=44) rfl (h.dep 7 44 rfl rfl))) ?_;simp only[execOp,e47];simp[go_sem])
        ·(have e48:A.eval (.tmp 48)=.pointer (some ⟨mb,0,none⟩):=h.dep 11 48 rfl rfl;refine rs_pure (wanted_g rfl (yielded_of (d:=44) rfl (h.dep 7 44 rfl rfl))) ?_;simp only[execOp,e48];simp[go_sem])
        ·exact rs_pure (wanted_g rfl (yielded_of (d:=44) rfl (h.dep 7 44 rfl rfl))) (run_load1K rfl (h.dep 12 49 rfl rfl) one_bytes ((H.call h.below).cell (i:=0) .zero 3)) (by decide)
        ·exact rs_move (wanted_g rfl (yielded_of (d:=44) rfl (h.dep 7 44 rfl rfl))) rfl (h.frame 1 rfl)
        ·exact rs_idx (sz:=1) Tryz.underlying23 (fun w=>by kernel_rfl) (wanted_g rfl (yielded_of (d:=44) rfl (h.dep 7 44 rfl rfl))) rfl (h.dep 13 50 rfl rfl) (h.dep 14 51 rfl rfl) (by omega) (by omega)
        ·exact rs_pure (wanted_g rfl (yielded_of (d:=44) rfl (h.dep 7 44 rfl rfl))) (run_load1K rfl (h.dep 15 52 rfl rfl) one_u8 (((H.call h.below).kn (i:=3) i_3).cell hiL)) (by decide)
        ·exact rs_calln (wanted_g rfl (yielded_of (d:=44) rfl (h.dep 7 44 rfl rfl))) rfl (enters_of Tryz.func37 (by kernel_rfl) rfl) (args2 ⟨(h.dep 9 46 rfl rfl),(h.dep 16 53 rfl rfl)⟩) (hha W)
        ·exact rs_pick rfl rfl (h.dep 7 44 rfl rfl) (h.dep 17 54 rfl rfl)
        ·exact rs_assign rfl rfl (h.dep 18 55 rfl rfl)
       case en =>
        intro vals W9 hbw hv _;simp only[fa,Nat.reduceAdd];rw[e_ hv 0,e_ hv 1,e_ hv 2,e_ hv 3,e_ hv 4,e_ hv 5,e_ hv 6,e_ hv 7,e_ hv 8,e_ hv 9,e_ hv 10,e_ hv 11,e_ hv 12,e_ hv 13,e_ hv 14,e_ hv 15,e_ hv 16,e_ hv 17,e_ hv 18,e_ hv 19];clear hv
        try simp only[pl]
        try simp only[pl]
        have H:=H.call hbw
        go_upto_region 10 with fail
        refine wp_region_late 12 0 [fun v _=>v=.pointer (some ⟨mb,0,none⟩),fun v _=>v=.pointer (some ⟨mb,0,none⟩),fun v _=>v=.pointer (some ⟨mb,0,none⟩),fun v _=>v=.pointer (some ⟨mb,0,none⟩),fun v _=>v=.pointer (some ⟨mb,0,none⟩),fun v _=>v=.slice vq zs.length vc,fun v _=>v=.pointer (some ⟨b8,5,none⟩),fun v _=>v=.int .i64 x.next,fun v _=>v=.pointer (some ⟨b7,1,none⟩),fun v _=>v=.slice y.2.2.1 y.2.1.length y.2.2.2,fun v _=>v=.agg (wayC (x.next.toNat,y.2)),FreshS W9.heap.size (wayC (x.next.toNat,y.2)) 58] (fun _=>false) (by kernel_rfl) (by kernel_rfl) (by kernel_rfl) (by repeat (first|exact trivial|refine⟨stable_eq _,?_⟩|refine⟨stable_freshS _ _ _,?_⟩)) (fun _ _ h=>by cases h) ?ob ?en ?en2
        case ob =>
         refine⟨?_,?_,?_,?_,?_,?_,?_,?_,?_,?_,?_,?_,trivial⟩<;>intro A W h
         ·exact rs_move rfl rfl (h.frame 0 rfl)
         ·exact rs_move rfl rfl (h.frame 0 rfl)
         ·(have e57:A.eval (.tmp 57)=.pointer (some ⟨mb,0,none⟩):=h.dep 1 57 rfl rfl;refine rs_pure rfl ?_;simp only[execOp,e57];simp[go_sem])
         ·(have e58:A.eval (.tmp 58)=.pointer (some ⟨mb,0,none⟩):=h.dep 2 58 rfl rfl;refine rs_pure rfl ?_;simp only[execOp,e58];simp[go_sem])
         ·(have e59:A.eval (.tmp 59)=.pointer (some ⟨mb,0,none⟩):=h.dep 3 59 rfl rfl;refine rs_pure rfl ?_;simp only[execOp,e59];simp[go_sem])
         ·exact rs_pure rfl (run_load1K rfl (h.dep 4 60 rfl rfl) one_ways ((H.call h.below).cell (i:=0) .zero 0)) (by decide)
         ·(have e8:A.eval (.tmp 8)=.pointer (some ⟨b8,0,none⟩):=h.frame 8 rfl;refine rs_pure rfl ?_;simp only[execOp,e8];simp[go_sem])
         ·exact rs_pure rfl (run_load1K rfl (h.dep 6 62 rfl rfl) one_int (((H.call h.below).cell (i:=8) i_8 5).trans (ig5 x))) (by decide)
         ·(have e7:A.eval (.tmp 7)=.pointer (some ⟨b7,0,none⟩):=h.frame 7 rfl;refine rs_pure rfl ?_;simp only[execOp,e7];simp[go_sem])
         ·exact rs_pure rfl (run_load1K rfl (h.dep 8 64 rfl rfl) one_ints (((H.call h.below).cell (i:=7) i_7 1).trans (yg1 y))) (by decide)
         ·exact rs_pure rfl (run_wayB rfl (h.dep 7 63 rfl rfl) (h.dep 9 65 rfl rfl) hnx.1) (by decide)
         ·exact rs_way1 rfl rfl (h.dep 10 66 rfl rfl) h.below.size (by decide)
        case en =>
         intro vals W hbw hv _;have x11:=hv 11 (by omega);simp only[lookS]at x11
         simp only[fa,Nat.reduceAdd];rw[e_ hv 0,e_ hv 1,e_ hv 2,e_ hv 3,e_ hv 4,e_ hv 5,e_ hv 6,e_ hv 7,e_ hv 8,e_ hv 9,e_ hv 10];clear hv
         try simp only[pl]
         try simp only[pl]
         obtain⟨bk,e11,H8⟩:=H.gainS2 hbw x11;rw[e11];clear x11 e11 H hbw;have H:=H8;clear H8;simp only[List.cons_append,List.nil_append]at H
         go_wp2_with (first|(at_builtin;refine own_append rfl _ _ 50 rfl H (i:=1) (j:=9) evd_ rfl i_1 i_9 Tryz.underlying50 hiw hw0 hw1 hw2 rfl (by decide) rfl rfl (by unfold maxLen;omega) (by omega) ?_;clear H;intro v2 w H;(try simp only[nr]at H);(obtain⟨q2,c2,rfl,_,_,_⟩:=H.rowShape (i:=1) i_1))|((with_reducible refine gT ?_);refine own_store1 wtd_ _ _ _ rfl rfl evd_ H (i:=0) .zero rfl (by show 0<5;omega) (one_size one_ways) ?_;clear H;intro w H;simp only[List.set_cons_succ,List.set_cons_zero]at H)|fail)
         rw[flatW_put,show zs.length+1=(zs++[((x.next.toNat,y.2):WV)]).length by simp]at H
         go_roundw
         case rel=>exact⟨j+1,q2,c2,zs++[((x.next.toNat,y.2):WV)],by omega,by go_num,Lib.hid (by rw[E.out,List.map_append];rfl),Lib.hid (fun z hz=>(List.mem_append.1 hz).elim (EZ.out z) (fun h=>by rw[List.mem_singleton]at h;subst h;exact⟨by show x.next.toNat<_;omega,y,hmem,rfl⟩)),by simp;omega,H.pick [0,1,2,3,4,5,6] _ (by decide) rfl⟩
         case measure=>simp[intOf];omega
        case en2 =>
         intro vals W hbw hv _;have v1:vals 1=_:=hv 1 (by omega) (by omega)
         have v2:vals 2=_:=hv 2 (by omega) (by omega)
         have v3:vals 3=_:=hv 3 (by omega) (by omega)
         have v4:vals 4=_:=hv 4 (by omega) (by omega)
         have v5:vals 5=_:=hv 5 (by omega) (by omega)
         have v6:vals 6=_:=hv 6 (by omega) (by omega)
         have v7:vals 7=_:=hv 7 (by omega) (by omega)
         have v8:vals 8=_:=hv 8 (by omega) (by omega)
         have v9:vals 9=_:=hv 9 (by omega) (by omega)
         have v10:vals 10=_:=hv 10 (by omega) (by omega)
         have x11:=hv 11 (by omega) (by omega);simp only[lookS]at x11
         simp only[List.take_succ_cons,List.take_zero,List.drop_succ_cons,List.drop_zero,List.drop_nil,List.take_nil,fillBut,lateL,List.cons_append,List.nil_append,Nat.reduceEqDiff,if_true,if_false,reduceCtorEq,Nat.zero_add,Nat.reduceAdd];rw[v1,v2,v3,v4,v5,v6,v7,v8,v9,v10];clear hv v1 v2 v3 v4 v5 v6 v7 v8 v9 v10
         try simp only[pl]
         try simp only[pl]
         obtain⟨bk,e11,H8⟩:=H.gainS2 hbw x11;rw[e11];clear x11 e11 H hbw;have H:=H8;clear H8;simp only[List.cons_append,List.nil_append]at H
         go_wp2_with (first|(at_builtin;refine own_append rfl _ _ 50 rfl H (i:=1) (j:=9) evd_ rfl i_1 i_9 Tryz.underlying50 hiw hw0 hw1 hw2 rfl (by decide) rfl rfl (by unfold maxLen;omega) (by omega) ?_;clear H;intro v2 w H;(try simp only[nr]at H);(obtain⟨q2,c2,rfl,_,_,_⟩:=H.rowShape (i:=1) i_1))|((with_reducible refine gT ?_);refine own_store1 wtd_ _ _ _ rfl rfl evd_ H (i:=0) .zero rfl (by show 0<5;omega) (one_size one_ways) ?_;clear H;intro w H;simp only[List.set_cons_succ,List.set_cons_zero]at H)|fail)
         rw[flatW_put,show zs.length+1=(zs++[((x.next.toNat,y.2):WV)]).length by simp]at H
         go_roundw
         case rel=>exact⟨j+1,q2,c2,zs++[((x.next.toNat,y.2):WV)],by omega,by go_num,Lib.hid (by rw[E.out,List.map_append];rfl),Lib.hid (fun z hz=>(List.mem_append.1 hz).elim (EZ.out z) (fun h=>by rw[List.mem_singleton]at h;subst h;exact⟨by show x.next.toNat<_;omega,y,hmem,rfl⟩)),by simp;omega,H.pick [0,1,2,3,4,5,6] _ (by decide) rfl⟩
         case measure=>simp[intOf];omega
      | false =>
       rw[hs]at hha;have E:=Lib.hid (hon false ⟨fun h=>(by rw[hs]at h;exact absurd h.2 (by decide)),fun h=>by cases h⟩)
       clear hon hcell hyp hri hsx k5 hkind hx hat hs h1
       go_upto_region 9 with (first|((with_reducible refine gL ?_);refine aGi H ?_))
       refine wp_region_spec 20 [fun v _=>v=.int .i64 (i:Nat),fun v _=>v=.pointer (some ⟨mb,0,none⟩),fun v _=>v=.pointer (some ⟨mb,0,none⟩),fun v _=>v=.pointer (some ⟨mb,3,none⟩),fun v _=>v=.slice (some ⟨bs,os,none⟩) L.length csl,fun v _=>v=.int .i64 ((L.length:Nat):Int),fun v _=>v=.bool true,fun v _=>v=.bool true,fun v _=>v=.pointer (some ⟨b8,1,none⟩),fun v _=>v=setV x.set,fun v _=>v=.pointer (some ⟨mb,0,none⟩),fun v _=>v=.pointer (some ⟨mb,0,none⟩),fun v _=>v=.pointer (some ⟨mb,3,none⟩),fun v _=>v=.slice (some ⟨bs,os,none⟩) L.length csl,fun v _=>v=.int .i64 (i:Nat),fun v _=>v=.pointer (some ⟨bs,os+i,none⟩),fun v _=>v=.int .u8 (byt L i),fun v _=>v=.bool false,fun v _=>v=.bool false,fun v _=>v=.bool false] (fun _=>false) (by kernel_rfl) (by kernel_rfl) (by kernel_rfl) (by repeat (first|exact trivial|refine⟨stable_eq _,?_⟩)) (fun _ _ h=>by cases h) ?ob ?en
       case ob =>
        refine⟨?_,?_,?_,?_,?_,?_,?_,?_,?_,?_,?_,?_,?_,?_,?_,?_,?_,?_,?_,?_,trivial⟩<;>intro A W h
        ·exact rs_move rfl rfl (h.frame 1 rfl)
        ·exact rs_move rfl rfl (h.frame 0 rfl)
        ·(have e38:A.eval (.tmp 38)=.pointer (some ⟨mb,0,none⟩):=h.dep 1 38 rfl rfl;refine rs_pure rfl ?_;simp only[execOp,e38];simp[go_sem])
        ·(have e39:A.eval (.tmp 39)=.pointer (some ⟨mb,0,none⟩):=h.dep 2 39 rfl rfl;refine rs_pure rfl ?_;simp only[execOp,e39];simp[go_sem])
        ·exact rs_pure rfl (run_load1K rfl (h.dep 3 40 rfl rfl) one_bytes ((H.call h.below).cell (i:=0) .zero 3)) (by decide)
        ·exact rs_len Tryz.underlying23 rfl rfl (h.dep 4 41 rfl rfl)
        ·(have e37:A.eval (.tmp 37)=.int .i64 (i:Nat):=h.dep 0 37 rfl rfl;have e42:A.eval (.tmp 42)=.int .i64 ((L.length:Nat):Int):=h.dep 5 42 rfl rfl;refine rs_pure rfl ?_;simp only[execOp,e37,e42];(simp[go_sem];omega))
        ·exact rs_move rfl rfl (h.dep 6 43 rfl rfl)
        ·(have e8:A.eval (.tmp 8)=.pointer (some ⟨b8,0,none⟩):=h.frame 8 rfl;refine rs_pure (wanted_g rfl (yielded_of (d:=44) rfl (h.dep 7 44 rfl rfl))) ?_;simp only[execOp,e8];simp[go_sem])
        ·exact rs_pure (wanted_g rfl (yielded_of (d:=44) rfl (h.dep 7 44 rfl rfl))) (run_loadK rfl (h.dep 8 45 rfl rfl) row_Set rfl (fun j hj=>by have h1:=(H.call h.below).cell (i:=8) i_8 (1+j);rcases j with _|_|_|_|j<;>first|exact h1|omega)) (by decide)
        ·exact rs_move (wanted_g rfl (yielded_of (d:=44) rfl (h.dep 7 44 rfl rfl))) rfl (h.frame 0 rfl)
        ·(have e47:A.eval (.tmp 47)=.pointer (some ⟨mb,0,none⟩):=h.dep 10 47 rfl rfl;refine rs_pure (wanted_g rfl (yielded_of (d:=44) rfl (h.dep 7 44 rfl rfl))) ?_;simp only[execOp,e47];simp[go_sem])
        ·(have e48:A.eval (.tmp 48)=.pointer (some ⟨mb,0,none⟩):=h.dep 11 48 rfl rfl;refine rs_pure (wanted_g rfl (yielded_of (d:=44) rfl (h.dep 7 44 rfl rfl))) ?_;simp only[execOp,e48];simp[go_sem])
        ·exact rs_pure (wanted_g rfl (yielded_of (d:=44) rfl (h.dep 7 44 rfl rfl))) (run_load1K rfl (h.dep 12 49 rfl rfl) one_bytes ((H.call h.below).cell (i:=0) .zero 3)) (by decide)
        ·exact rs_move (wanted_g rfl (yielded_of (d:=44) rfl (h.dep 7 44 rfl rfl))) rfl (h.frame 1 rfl)
        ·exact rs_idx (sz:=1) Tryz.underlying23 (fun w=>by kernel_rfl) (wanted_g rfl (yielded_of (d:=44) rfl (h.dep 7 44 rfl rfl))) rfl (h.dep 13 50 rfl rfl) (h.dep 14 51 rfl rfl) (by omega) (by omega)
        ·exact rs_pure (wanted_g rfl (yielded_of (d:=44) rfl (h.dep 7 44 rfl rfl))) (run_load1K rfl (h.dep 15 52 rfl rfl) one_u8 (((H.call h.below).kn (i:=3) i_3).cell hiL)) (by decide)
        ·exact rs_calln (wanted_g rfl (yielded_of (d:=44) rfl (h.dep 7 44 rfl rfl))) rfl (enters_of Tryz.func37 (by kernel_rfl) rfl) (args2 ⟨(h.dep 9 46 rfl rfl),(h.dep 16 53 rfl rfl)⟩) (hha W)
        ·exact rs_pick rfl rfl (h.dep 7 44 rfl rfl) (h.dep 17 54 rfl rfl)
        ·exact rs_assign rfl rfl (h.dep 18 55 rfl rfl)
       case en =>
        intro vals W hbw hv _;simp only[fa,Nat.reduceAdd];rw[e_ hv 0,e_ hv 1,e_ hv 2,e_ hv 3,e_ hv 4,e_ hv 5,e_ hv 6,e_ hv 7,e_ hv 8,e_ hv 9,e_ hv 10,e_ hv 11,e_ hv 12,e_ hv 13,e_ hv 14,e_ hv 15,e_ hv 16,e_ hv 17,e_ hv 18,e_ hv 19];clear hv
        try simp only[pl]
        try simp only[pl]
        have H:=H.call hbw
        go_wp2_with (first|fail)
        go_roundw
        case rel=>exact⟨j+1,vq,vc,zs,by omega,by go_num,Lib.hid E.out,EZ,by omega,H.pick [0,1,2,3,4,5,6] _ (by decide) rfl⟩
        case measure=>simp[intOf];omega
     ·have E:=Lib.hid (hon false ⟨fun h=>absurd h.1 hiL,fun h=>by cases h⟩)
      have hiE2:L.length≤i:=by omega
      have di:=decide_eq_false hiL;clear hon hcell hyp hri hsx k5 hkind hx hat h1 hiL
      go_upto_region 9 with (first|((with_reducible refine gL ?_);refine aGi H ?_))
      refine wp_region_spec 20 [fun v _=>v=.int .i64 (i:Nat),fun v _=>v=.pointer (some ⟨mb,0,none⟩),fun v _=>v=.pointer (some ⟨mb,0,none⟩),fun v _=>v=.pointer (some ⟨mb,3,none⟩),fun v _=>v=.slice psl L.length csl,fun v _=>v=.int .i64 ((L.length:Nat):Int),fun v _=>v=.bool false,fun v _=>v=.bool false,fun v _=>v=undef,fun v _=>v=undef,fun v _=>v=undef,fun v _=>v=undef,fun v _=>v=undef,fun v _=>v=undef,fun v _=>v=undef,fun v _=>v=undef,fun v _=>v=undef,fun v _=>v=undef,fun v _=>v=Value.bool false,fun v _=>v=Value.bool false] (fun _=>false) (by kernel_rfl) (by kernel_rfl) (by kernel_rfl) (by repeat (first|exact trivial|refine⟨stable_eq _,?_⟩)) (fun _ _ h=>by cases h) ?ob ?en
      case ob =>
       refine⟨?_,?_,?_,?_,?_,?_,?_,?_,?_,?_,?_,?_,?_,?_,?_,?_,?_,?_,?_,?_,trivial⟩<;>intro A W h
       ·exact rs_move rfl rfl (h.frame 1 rfl)
       ·exact rs_move rfl rfl (h.frame 0 rfl)
       ·(have e38:A.eval (.tmp 38)=.pointer (some ⟨mb,0,none⟩):=h.dep 1 38 rfl rfl;refine rs_pure rfl ?_;simp only[execOp,e38];simp[go_sem])
       ·(have e39:A.eval (.tmp 39)=.pointer (some ⟨mb,0,none⟩):=h.dep 2 39 rfl rfl;refine rs_pure rfl ?_;simp only[execOp,e39];simp[go_sem])
       ·exact rs_pure rfl (run_load1K rfl (h.dep 3 40 rfl rfl) one_bytes ((H.call h.below).cell (i:=0) .zero 3)) (by decide)
       ·exact rs_len Tryz.underlying23 rfl rfl (h.dep 4 41 rfl rfl)
       ·(have e37:A.eval (.tmp 37)=.int .i64 (i:Nat):=h.dep 0 37 rfl rfl;have e42:A.eval (.tmp 42)=.int .i64 ((L.length:Nat):Int):=h.dep 5 42 rfl rfl;refine rs_pure rfl ?_;simp only[execOp,e37,e42];(simp[go_sem];omega))
       ·exact rs_move rfl rfl (h.dep 6 43 rfl rfl)
       ·exact rsk (h.dep 7 44 rfl rfl)
       ·exact rsk (h.dep 7 44 rfl rfl)
       ·exact rsk (h.dep 7 44 rfl rfl)
       ·exact rsk (h.dep 7 44 rfl rfl)
       ·exact rsk (h.dep 7 44 rfl rfl)
       ·exact rsk (h.dep 7 44 rfl rfl)
       ·exact rsk (h.dep 7 44 rfl rfl)
       ·exact rsk (h.dep 7 44 rfl rfl)
       ·exact rsk (h.dep 7 44 rfl rfl)
       ·exact rsk (h.dep 7 44 rfl rfl)
       ·exact rs_pick rfl rfl (h.dep 7 44 rfl rfl) (rfl)
       ·exact rs_assign rfl rfl (h.dep 18 55 rfl rfl)
      case en =>
       intro vals W hbw hv _;simp only[fa,Nat.reduceAdd];rw[e_ hv 0,e_ hv 1,e_ hv 2,e_ hv 3,e_ hv 4,e_ hv 5,e_ hv 6,e_ hv 7,e_ hv 8,e_ hv 9,e_ hv 10,e_ hv 11,e_ hv 12,e_ hv 13,e_ hv 14,e_ hv 15,e_ hv 16,e_ hv 17,e_ hv 18,e_ hv 19];clear hv
       try simp only[pl]
       try simp only[pl]
       have H:=H.call hbw
       go_wp2_with (first|fail)
       go_roundw
       case rel=>exact⟨j+1,vq,vc,zs,by omega,by go_num,Lib.hid E.out,EZ,by omega,H.pick [0,1,2,3,4,5,6] _ (by decide) rfl⟩
       case measure=>simp[intOf];omega
  ·have hjn:j=n:=by omega
   have dj:decide (j<n)=false:=decide_eq_false hlt;have dj2:decide ((j:Int)<(n:Int))=false:=decide_eq_false (by omega)
   have E:=ES.out;rw[List.take_of_length_le (by rw[List.length_map,HN.out];omega)]at E
   have E:=Lib.hid E;clear hjn
   go_wp2_with (first|fail)
   go_ret;rw[← hrF,← hrS]at H;exact⟨.slice vq zs.length vc,zs,none,E.out,EZ.out,fun y' h=>(by cases h),rfl,step_fin H (q:=6) i_6 (by decide) rfl⟩
theorem maskN (a:Nat) (ha:a<1000):bits .and .u64 (a:Int) 4294967295=(a:Int):=by
 have h:=bits_and_u64_nat a 4294967295 (by omega) (by omega)
 have e:a &&& 4294967295=a % 4294967296:=Nat.and_two_pow_sub_one_eq_mod a 32;rw[e,Nat.mod_eq_of_lt (by omega)]at h
 exact h
theorem mask1:bits .and .u64 (1:Int) 4294967295=1:=maskN 1 (by omega)
theorem mask0:bits .and .u64 (0:Int) 4294967295=0:=maskN 0 (by omega)
theorem divN (a:Nat) (ha:a<1000):(a:Int) / 4294967296=0:=by omega
theorem wrapN (a:Nat) (ha:a<1000):IntKind.u64.wrap (a:Int)=(a:Int):=by rw[IntKind.wrap_u64];omega
theorem wrap0:IntKind.u64.wrap 0=0:=rfl
theorem bits_Mul64 (n:Nat) (hn:n<1000) (w:World):Calls Tryz.prog 74 #[.int .u64 1,.int .u64 n] w fun e w'=>e=.returned (.tuple #[.int .u64 0,.int .u64 n])∧w'=w:=by
 go_enter Tryz.func74,Tryz.ntmps74
 go_wp2
 simp only[maskN n hn,mask1,mask0,divN n hn,wrapN n hn,wrap0,Int.one_mul,Int.zero_mul,Int.mul_zero,Int.add_zero,Int.zero_add,Int.reduceDiv,Int.reduceMul,Int.reduceAdd]
 go_ret2
 exact⟨rfl,rfl⟩
theorem bits_Mul (n:Nat) (hn:n<1000) (w:World):Calls Tryz.prog 34 #[.int .u64 1,.int .u64 n] w fun e w'=>e=.returned (.tuple #[.int .u64 0,.int .u64 n])∧w'=w:=by
 have c64:=bits_Mul64 n hn w
 go_enter Tryz.func34,Tryz.ntmps34
 go_wp2_with (go_at_call 74;refine c64.mono ?_;rintro e w' ⟨rfl,hw⟩;rw[hw])
 go_ret2
 exact⟨rfl,rfl⟩
theorem setRow_grown (W:World) (b:Nat) (cs:Array Value):W.grownBy (W.setRow b cs) (some b):=by
 refine⟨rfl,rfl,rfl,by simp[World.setRow],fun j hj hne=>setRow_other W b j cs (fun e=>hne (by rw[e]))⟩
theorem own_copyX {P:Program} {ops:Array Oper} {rest:List Oper} {o:Oper} {a:Act} {w w0:World} {Q:Exit→Act→World→Prop} {l:List Res} {M:Nat→Prop} (hgd:o.guard=none) (d s:Operand) (dT sT:TypeId)
  (ho:o.op=.call {callee:=.builtin .copy,args:=#[d,s],argTypes:=#[dT,sT]}) {e:TypeId} (hu:P.underlying dT=some (.slice e)) (hsz:(P.info? e).map (·.size)=some 1)
  {g off dLen dCap sLen sCap:Nat} {ad:Addr} (hd:a.eval d=.slice (some ⟨g,off,none⟩) dLen dCap) (hs:a.eval s=.slice (some ad) sLen sCap) (H:HoldG M w0 w l) {j n cap:Nat} {xs:List Value}
  (hi:At l j (.row (.slice (some ⟨g,0,none⟩) n cap) e 1 n xs)) (hl:xs.length=n) (cs:List Value) (hn:cs.length=Nat.min sLen dLen) (hsrc:∀ k v,cs[k]?=some v→w.cell? (ad.add k)=some v) (hfit:off+cs.length≤n) (h1:∀ v ∈ cs,v.oneCell'=true)
  (h:∀ w',HoldG M w0 w' (l.set j (.row (.slice (some ⟨g,0,none⟩) n cap) e 1 n (xs.take off++(cs++xs.drop (off+cs.length)))))→wpList P ops Q rest (a.put o.dst (goInt cs.length)) w'):wpList P ops Q (o::rest) a w:=by
 obtain⟨hlen,⟨hv',_⟩|⟨g',cap',cur,hv',hb,hg',hn',hc,hsz',ht⟩⟩:=H.all j _ hi.get
 ·cases hv'
 ·cases hv'
  refine wpList_copy_own hgd d s dT sT ho e hu hsz g off dLen dCap ad sLen sCap hd hs cur e hg' cs hn hsrc (by omega) h1 ?_
  refine h _ (H.upd hi.get (setRow_grown w g _) ⟨?_,.inr ⟨g,cap,_,rfl,hb,setRow_heap w g _ _ e _ hg',hn',hc,?_,?_⟩⟩ (fun _ e=>.inl e))
  ·simp;omega
  ·simp;omega
  ·simp only[Nat.mul_one]at ht ⊢;rw[← ht];apply List.ext_getElem?;intro k;simp only[List.getElem?_append,List.getElem?_take,List.getElem?_drop,List.length_take,List.length_drop,Array.length_toList];split<;>split<;>(try split)<;>(try split)<;>(try split)<;>(try split)<;>first|rfl|omega|(congr 1;omega)|(symm;apply List.getElem?_eq_none;simp;omega)|skip
def rpt (v:Int) (j n:Nat):List Value:=List.replicate j (.int .i64 v)++List.replicate (n - j) (.int .i64 0)
theorem rpt_length {v:Int} {j n:Nat} (h:j≤n):(rpt v j n).length=n:=by simp[rpt];omega
theorem rpt_take {v:Int} {j n k:Nat} (h:k≤j):(rpt v j n).take k=List.replicate k (.int .i64 v):=by
 unfold rpt;rw[List.take_append_of_le_length (by simpa using h),List.take_replicate,Nat.min_eq_left h]
theorem rpt_drop {v:Int} {j n k:Nat} (h:j≤k):(rpt v j n).drop k=List.replicate (n - k) (.int .i64 0):=by
 unfold rpt;rw[List.drop_append,List.drop_of_length_le (by simpa using h),List.drop_replicate,List.nil_append]
 congr 1;simp;omega
theorem rpt_copy {v:Int} {j n:Nat} (h:j≤n) (m:Nat) (hm:j+m≤n):(rpt v j n).take j++(List.replicate m (.int .i64 v)++(rpt v j n).drop (j+m))=rpt v (j+m) n:=by
 rw[rpt_take (Nat.le_refl _),rpt_drop (by omega),← List.append_assoc,List.replicate_append_replicate]
 rfl
theorem IntsR.cell {F:Nat→Prop} {b off c:Nat} {xs:List Int} {W:World} (h:IntsR F (some ⟨b,off,none⟩) c xs W) {j:Nat} (hj:j<xs.length):W.cell? ⟨b,off+j,none⟩=some (.int .i64 xs[j]):=by
 obtain⟨p',c',e,_,_,_,h3⟩:=h;obtain⟨b',off',e2,_,_,h4⟩:=h3 j #[.int .i64 xs[j]] (by rw[List.getElem?_map,List.getElem?_eq_getElem hj];rfl)
 simp only[Value.slice.injEq]at e;obtain⟨rfl,_,rfl⟩:=e;simp only[Option.some.injEq,Addr.mk.injEq]at e2;obtain⟨rfl,rfl,_⟩:=e2;have:=h4 0 (by omega)
 simpa using this
theorem rpt_cell {M:Nat→Prop} {w0 W:World} {l:List Res} (H:HoldG M w0 W l) {i gs n j:Nat} {v:Int} {e:TypeId} (hi:At l i (.row (.slice (some ⟨gs,0,none⟩) n n) e 1 n (rpt v j n))) (hj:j≤n) {k:Nat} (hk:k<j):W.cell? ⟨gs,k,none⟩=some (.int .i64 v):=by
 obtain⟨hlen,⟨hv',_⟩|⟨g',cap',cur,hv',hb,hg',hn',hc,hsz',ht⟩⟩:=H.all i _ hi.get
 ·cases hv'
 ·cases hv'
  have:cur.toList.take n=rpt v j n:=by simpa using ht
  have h2:(cur.toList.take n)[k]?=some (.int .i64 v):=by
   rw[this,rpt,List.getElem?_append_left (by simp;omega),List.getElem?_replicate,if_pos (by omega)]
  rw[List.getElem?_take,if_pos (by omega)]at h2
  have h3:W.cell? ⟨gs,k,none⟩=cur[k]?:=by simp[World.cell?,hg']
  rw[h3]
  simpa using h2
theorem run_from (g n j:Nat) (hj:j<n) (W:World):(Instr.slice 27 (.slice (some ⟨g,0,none⟩) n n) (some (.int .i64 (j:Int))) none none).run Tryz.prog W=.ok (.slice (some ⟨g,j,none⟩) (n - j) (n - j)) W:=by
 have he:Tryz.prog.elem 27=3:=by simp[Program.elem,Tryz.underlying27]
 have hz:∀ w,(sizeOf 3).run Tryz.prog w=.ok 1 w:=fun w=>by kernel_rfl
 rw[run_slice_l W 27 _ n n (by rw[he];exact Tryz.underlying27) .i64 j (by omega) (by omega),he,hz]
 simp[Result.andThen,sliced,Addr.add];rw[if_neg (by omega)]
 split
 ·rename_i h;subst h;rfl
 ·rfl
theorem run_to (g n j:Nat) (hj:j≤n) (W:World):(Instr.slice 27 (.slice (some ⟨g,0,none⟩) n n) none (some (.int .i64 (j:Int))) none).run Tryz.prog W=.ok (.slice (some ⟨g,0,none⟩) j n) W:=by
 have he:Tryz.prog.elem 27=3:=by simp[Program.elem,Tryz.underlying27]
 have hz:∀ w,(sizeOf 3).run Tryz.prog w=.ok 1 w:=fun w=>by kernel_rfl
 rw[run_slice_h W 27 _ n n (by rw[he];exact Tryz.underlying27) .i64 j (by omega) (by omega),he,hz]
 simp[Result.andThen,sliced,Addr.add]
theorem sl_Repeat (q:Option Addr) (c:Nat) (v:Int) (n:Nat) (F:Nat→Prop) (w0:World) (hn2:2≤n) (hn:n≤50) (hF:∀ b,F b→b<w0.heap.size) (h:IntsR F q c [v] w0) :
  Calls Tryz.prog 20 #[.slice q 1 c,.int .i64 n] w0 fun e w'=>OwnI w0 (List.replicate n v) e w':=by
 have H:=(Hold.start w0).know F (IntsR F q c [v]) hF (fun i r h=>by simp at h) (fun V hV=>h.kept hV)
 simp only[List.nil_append]at H;obtain⟨bq,oq,hq⟩:=h.at (by simp)
 subst hq;clear h;obtain⟨ii,hii,hi0,hi1,hi2⟩:=info_parts info_int;have hmul:=fun w=>bits_Mul n (by omega) w
 have d1:decide ((n:Int)<0)=false:=decide_eq_false (by omega)
 have d2:decide ((9223372036854775807:Int)<(n:Int))=false:=decide_eq_false (by omega)
 have w1:IntKind.u64.wrap (n:Int)=(n:Int):=wrapN n (by omega)
 have w2:wrap64 (n:Int)=(n:Int):=by unfold wrap64;omega
 have w3:IntKind.u64.wrap 1=1:=rfl
 go_enter Tryz.func20,Tryz.ntmps20
 go_upto_region 4 with (first|fail|(go_at_call 34;refine(hmul _).mono ?_;rintro e w' ⟨rfl,hw⟩;rw[hw]))
 go_upto_region 6 with (first|fail)
 go_upto_region 7 with (first|((with_reducible show @wpList _ _ _ ({dst:=_,op:=Op.makeSlice _ _ _,type:=_,pos:=_,after:=_,guard:=_}::_) _ _);refine own_make rfl _ _ 27 rfl H Tryz.underlying27 hii hi0 hi1 hi2 rfl (n:=n) (by first|rfl|(rw[← w2];rfl)) (by first|rfl|(rw[← w2];rfl)) (by omega) (by unfold maxLen;omega) ?_;clear H;intro gs w H;simp only[List.cons_append,List.nil_append]at H)|fail)
 rw[show List.replicate n (Value.int .i64 0)=rpt v 0 n by simp[rpt]]at H
 have hk:w.cell? ⟨bq,oq,none⟩=some (.int .i64 v):=IntsR.cell (j:=0) (H.kn (i:=0) .zero) (by simp)
 go_upto_region 8 with (first|((with_reducible show @wpList _ _ _ ({dst:=_,op:=Op.call {callee:=.builtin .copy,args:=_,argTypes:=_},type:=_,pos:=_,after:=_,guard:=_}::_) _ _);(go_loud (refine own_copyX rfl _ _ _ _ rfl Tryz.underlying27 (by kernel_rfl) evd_ evd_ H (j:=1) i_1 (rpt_length (Nat.zero_le _)) [.int .i64 v] (by show 1=min _ _;omega) (fun k u hu=>by rcases k with _|k;(· cases hu;exact hk);(· simp at hu)) (by simp;omega) (by intro u hu;simp at hu;subst hu;rfl) ?_));clear H;intro w H;try simp only[List.set_cons_succ,List.set_cons_zero]at H)|fail)
 have hcp:(rpt v 0 n).take 0++([Value.int .i64 v]++(rpt v 0 n).drop (0+[Value.int .i64 v].length))=rpt v 1 n:=by
  have:=rpt_copy (v:=v) (j:=0) (n:=n) (by omega) 1 (by omega)
  simpa using this
 rw[hcp]at H;clear hcp hk hmul w1 w3 d1 d2
 go_loopw [8] (fun ix wr=>∃ (j:Nat),1≤j∧j≤n∧ix=.int .i64 j∧Hold w0 wr [.kn F (IntsR F (some ⟨bq,oq,none⟩) c [v]),.row (.slice (some ⟨gs,0,none⟩) n n) 3 1 n (rpt v j n)]) (fun v _=>n - (intOf v).toNat)
 case atStart=>exact⟨1,by omega,by omega,rfl,H⟩
 case round =>
  clear H;obtain⟨j,hj1,hj,rfl,H⟩:=hrel
  by_cases hlt:j<n
  ·have dj:decide (j<n)=true:=decide_eq_true hlt;have dj2:decide ((j:Int)<(n:Int))=true:=decide_eq_true (by omega)
   obtain⟨m,hm⟩:∃ m,Nat.min j (n - j)=m:=⟨_,rfl⟩;have hm1:1≤m:=by rw[← hm];show 1≤min j (n - j);omega
   have hm2:m≤n - j:=by rw[← hm];show min j (n - j)≤_;omega
   have hm3:m≤j:=by rw[← hm];show min j (n - j)≤_;omega
   have hel:Tryz.prog.underlying 27=some (.slice (Tryz.prog.elem 27)):=by kernel_rfl
   have hrun1:=run_from gs n j hlt;have hrun2:=run_to gs n j hj;have hcp:=rpt_copy (v:=v) hj m (by omega)
   have HEL:=Lib.hid hel;clear hel;have HM:=Lib.hid hm;clear hm;have HP:=Lib.hid hcp;clear hcp
   go_upto_region 9 with (first|fail)
   refine wp_region_late 7 0 [fun v _=>v=.int .i64 (j:Nat),fun v _=>v=.slice (some ⟨gs,0,none⟩) n n,fun v _=>v=.int .i64 (j:Nat),fun v _=>v=.slice (some ⟨gs,j,none⟩) (n - j) (n - j),fun v _=>v=.slice (some ⟨gs,0,none⟩) n n,fun v _=>v=.int .i64 (j:Nat),fun v _=>v=.slice (some ⟨gs,0,none⟩) j n] (fun _=>false) (by kernel_rfl) (by kernel_rfl) (by kernel_rfl) (by repeat (first|exact trivial|refine⟨stable_eq _,?_⟩)) (fun _ _ h=>by cases h) ?ob ?en ?en2
   case ob =>
    refine⟨?_,?_,?_,?_,?_,?_,?_,trivial⟩<;>intro A W h
    ·exact rs_move rfl rfl (h.frame 8 rfl)
    ·exact rs_move rfl rfl (h.frame 7 rfl)
    ·exact rs_move rfl rfl (h.frame 8 rfl)
    ·(have e39:A.eval (.tmp 39)=.slice (some ⟨gs,0,none⟩) n n:=h.dep 1 39 rfl rfl;have e40:A.eval (.tmp 40)=.int .i64 (j:Nat):=h.dep 2 40 rfl rfl;refine rs_pure rfl ?_;simp only[execOp,e39,e40];(simp only[Option.map,e40,Sem.run_bind,run_sliceAt_slice (h:=HEL.out),hrun1,Result.andThen_ok,Sem.run_pure]))
    ·exact rs_move rfl rfl (h.frame 7 rfl)
    ·exact rs_move rfl rfl (h.frame 8 rfl)
    ·(have e42:A.eval (.tmp 42)=.slice (some ⟨gs,0,none⟩) n n:=h.dep 4 42 rfl rfl;have e43:A.eval (.tmp 43)=.int .i64 (j:Nat):=h.dep 5 43 rfl rfl;refine rs_pure rfl ?_;simp only[execOp,e42,e43];(simp only[Option.map,e43,Sem.run_bind,run_sliceAt_slice (h:=HEL.out),hrun2,Result.andThen_ok,Sem.run_pure]))
   case en =>
    intro vals W hbw hv _;simp only[fa,Nat.reduceAdd];rw[e_ hv 0,e_ hv 1,e_ hv 2,e_ hv 3,e_ hv 4,e_ hv 5,e_ hv 6];clear hv
    try simp only[pl]
    try simp only[pl]
    have H:=H.call hbw;refine own_copyX rfl _ _ _ _ rfl Tryz.underlying27 (by kernel_rfl) evd_ evd_ H (j:=1) i_1 (rpt_length hj) (List.replicate m (.int .i64 v)) (by rw[List.length_replicate];exact HM.out.symm) (fun k u hu=>by rw[List.getElem?_replicate]at hu;(split at hu<;>cases hu);rename_i hk;have:=rpt_cell H (i:=1) i_1 hj (k:=k) (by omega);rw[Addr.add_mid,Nat.zero_add];exact this) (by simp;omega) (by intro u hu;rw[List.mem_replicate]at hu;rw[hu.2];rfl) ?_
    clear H;intro w H;(try simp only[List.set_cons_succ,List.set_cons_zero]at H);simp only[List.length_replicate]at H;rw[HP.out]at H
    go_wp2_with (first|fail)
    go_roundw
    case rel=>exact⟨j+m,by omega,by omega,by go_num,H⟩
    case measure=>simp[intOf];omega
   case en2 =>
    intro vals W hbw hv _;have v1:vals 1=_:=hv 1 (by omega) (by omega)
    have v2:vals 2=_:=hv 2 (by omega) (by omega)
    have v3:vals 3=_:=hv 3 (by omega) (by omega)
    have v4:vals 4=_:=hv 4 (by omega) (by omega)
    have v5:vals 5=_:=hv 5 (by omega) (by omega)
    have v6:vals 6=_:=hv 6 (by omega) (by omega)
    simp only[List.take_succ_cons,List.take_zero,List.drop_succ_cons,List.drop_zero,List.drop_nil,List.take_nil,fillBut,lateL,List.cons_append,List.nil_append,Nat.reduceEqDiff,if_true,if_false,reduceCtorEq,Nat.zero_add,Nat.reduceAdd];rw[v1,v2,v3,v4,v5,v6];clear hv v1 v2 v3 v4 v5 v6
    try simp only[pl]
    try simp only[pl]
    have H:=H.call hbw;refine own_copyX rfl _ _ _ _ rfl Tryz.underlying27 (by kernel_rfl) evd_ evd_ H (j:=1) i_1 (rpt_length hj) (List.replicate m (.int .i64 v)) (by rw[List.length_replicate];exact HM.out.symm) (fun k u hu=>by rw[List.getElem?_replicate]at hu;(split at hu<;>cases hu);rename_i hk;have:=rpt_cell H (i:=1) i_1 hj (k:=k) (by omega);rw[Addr.add_mid,Nat.zero_add];exact this) (by simp;omega) (by intro u hu;rw[List.mem_replicate]at hu;rw[hu.2];rfl) ?_
    clear H;intro w H;(try simp only[List.set_cons_succ,List.set_cons_zero]at H);simp only[List.length_replicate]at H;rw[HP.out]at H
    go_wp2_with (first|fail)
    go_roundw
    case rel=>exact⟨j+m,by omega,by omega,by go_num,H⟩
    case measure=>simp[intOf];omega
  ·have hjn:j=n:=by omega
   subst hjn;have dj:decide (j<j)=false:=by simp
   have dj2:decide ((j:Int)<(j:Int))=false:=by simp
   go_wp2_with (first|fail)
   go_ret;rw[show rpt v j j=(List.replicate j v).map (.int .i64) by simp[rpt]]at H
   refine⟨some ⟨gs,0,none⟩,j,by simp,?_,H.below⟩
   have:=H.all 1 _ rfl;rw[List.length_replicate];exact this
end Go.Proofs.YtdoflhjhaciepaaGreat
namespace Go.Proofs.YtdoflhjhaciepaaGreat
open Go.RowKit
structure RCtxS (l:List Oper) (Ss:Nat→Value→World→Prop) (R:World→World→Prop) (a0:Act) (w0:World) (o:Oper) (a:Act) (w:World):Prop where
 rel:R w0 w
 frame:∀ t,l.any (fun o=>o.dst == some t)=false→a.eval (.tmp t)=a0.eval (.tmp t)
 dep:∀ j d,o.after.toList.any (fun e=>Region.binds .any e&&e.on == j)=true→(l[j]?).bind (·.dst)=some d→Ss j (a.eval (.tmp d)) w
 defers:a.defers=a0.defers
theorem RCtxS.d {l:List Oper} {Ss:Nat→Value→World→Prop} {R:World→World→Prop} {a0:Act} {w0:World} {o:Oper} {a:Act} {w:World} (h:RCtxS l Ss R a0 w0 o a w) (j d:Nat) (h1:o.after.toList.any (fun e=>Region.binds .any e&&e.on == j)=true:=by exact rfl) (h2:(l[j]?).bind (·.dst)=some d:=by exact rfl):Ss j (a.eval (.tmp d)) w:=h.dep j d h1 h2
theorem RCtxS.f {l:List Oper} {Ss:Nat→Value→World→Prop} {R:World→World→Prop} {a0:Act} {w0:World} {o:Oper} {a:Act} {w:World} (h:RCtxS l Ss R a0 w0 o a w) (t:Nat) (h1:l.any (fun o=>o.dst == some t)=false:=by exact rfl):a.eval (.tmp t)=a0.eval (.tmp t):=h.frame t h1
theorem rowsIn_of_rows {m:Nat} {P:Program} {row:String} {args:Array Value} {w:World} {R:Value→World→Prop} (h:Rows P row args w R):RowsIn Fence.wide m P row args w R :=
 fun c cs _=>let ⟨v,w',r,s⟩:=h c cs;⟨v,w',r,stepsIn_wide.2 s⟩
def Stay (B:Nat) (I:World→Prop):Prop:=∀ W W' row,I W→W.grownBy W' row→(∀ r,row=some r→B≤r∧∃ o:Obj,W.heap[r]?=some o∧o.isCells=false)→I W'
theorem Stay.putObj {B:Nat} {I:World→Prop} (h:Stay B I) {W:World} {l:Nat} {o:Obj} (o':Obj) (hs:I W) (hB:B≤l) (hl:W.heap[l]?=some o) (ho:o.isCells=false):I (W.putObj l o') :=
 h W _ (some l) hs (grownBy_putObj' W l o') (fun r e=>by cases e;exact⟨hB,o,hl,ho⟩)
theorem Stay.alloc {B:Nat} {I:World→Prop} (h:Stay B I) {W:World} (o:Obj) (hs:I W):I (W.alloc o) :=
 h W _ none hs (World.grownBy_alloc W o none) (fun r e=>by cases e)
variable {F:Fence} {n:Nat} {P:Program}
def StayOk (B:Nat):Res→Prop
 | .mp _ _ _=>False
 | .kn F S=>∀ V,S V→∀ b,F b→b<B∨∃ o:Obj,V.heap[b]?=some o∧o.isCells=true
 | _=>True
theorem HoldG.stayK {M:Nat→Prop} {w0:World} {l:List Res} {B:Nat} (hl:∀ r ∈ l,StayOk B r) (hB:w0.heap.size≤B):Stay B (fun W=>HoldG M w0 W l):=by
 intro W W' row H hg hr;refine⟨H.keep.trans ⟨hg.os,hg.tape,hg.output,hg.size,fun k h1 h2=>hg.block k (Nat.lt_of_lt_of_le h1 H.keep.size) (fun e=>by have:=(hr k e.symm).1;omega)⟩,fun i s hs=>?_,H.apart⟩
 have hA:=H.all i s hs;have hc:=hl s (List.mem_of_getElem? hs)
 cases s with
 | blk b' cs T =>
  refine hA.keptF (fun b hb=>hg.block b ((Array.getElem?_eq_some_iff.1 (by cases hb;exact hA.2)).1) (fun e=>?_)) (fun b hb=>Nat.lt_of_lt_of_le ((Array.getElem?_eq_some_iff.1 (by cases hb;exact hA.2)).1) hg.size)
  obtain⟨_,o,ho,hcell⟩:=hr b e.symm
  cases hb
  rw[hA.2]at ho;cases ho;cases hcell
 | row v e sz n xs =>
  have hlt:∀ b,(Res.row v e sz n xs).foot b→b<W.heap.size:=fun b hb=>(hA.lt b hb).2
  refine hA.keptF (fun b hb=>hg.block b (hlt b hb) (fun e=>?_)) (fun b hb=>Nat.lt_of_lt_of_le (hlt b hb) hg.size)
  obtain⟨_,o,ho,hcell⟩:=hr b e.symm;obtain⟨_,⟨hv,_⟩|⟨g,cap,cur,rfl,_,hg',_⟩⟩:=hA
  ·have h2:v.ownBlock=some b:=hb;rw[hv]at h2;cases h2
  ·have:g=b:=by simpa [Res.foot,Value.ownBlock] using hb
   subst this;rw[hg']at ho;cases ho;cases hcell
 | mp b' es c=>exact hc.elim
 | kn F S =>
  have hS:S W:=hA.2 W (fun _ _=>rfl)
  refine hA.keptF (fun b hb=>hg.block b (hA.1 b hb) (fun e=>?_)) (fun b hb=>Nat.lt_of_lt_of_le (hA.1 b hb) hg.size)
  obtain⟨hBb,o,ho,hcell⟩:=hr b e.symm;rcases hc W hS b hb with h|⟨o',ho',hc'⟩
  ·omega
  ·rw[ho']at ho;cases ho;rw[hc']at hcell;cases hcell
theorem HoldG.knBoth {M:Nat→Prop} {w0 w:World} {l:List Res} (H:HoldG M w0 w l) {i j:Nat} {F G:Nat→Prop} {S T:World→Prop} (hi:At l i (.kn F S)) (hj:At l j (.kn G T)):HoldG M w0 w (l.set i (.kn (fun b=>F b∨G b) (fun V=>S V∧T V))):=by
 have hA:=H.all i _ hi.get;have hB:=H.all j _ hj.get;have hil:i<l.length:=(List.getElem?_eq_some_iff.1 hi.get).1;refine⟨H.keep,fun k r hr=>?_,fun k m r s hkm hr hs=>?_⟩
 ·rw[List.getElem?_set]at hr;split at hr
  ·rename_i e;subst e;simp only[hil,if_true,Option.some.injEq]at hr;subst hr;exact⟨fun b hb=>hb.elim (hA.1 b) (hB.1 b),fun W' hW=>⟨hA.2 W' (fun b hb=>hW b (.inl hb)),hB.2 W' (fun b hb=>hW b (.inr hb))⟩⟩
  ·exact H.all k r hr
 ·rw[List.getElem?_set]at hr hs;split at hr
  ·rename_i e;subst e;simp only[hil,if_true,Option.some.injEq]at hr;subst hr;intro b hb;cases hb
  ·split at hs
   ·rename_i e;subst e;simp only[hil,if_true,Option.some.injEq]at hs;subst hs;intro b hb hf;rcases hf with hf|hf
    ·exact H.apart k i r _ hkm hr hi.get b hb hf
    ·by_cases hkj:k=j
     ·subst hkj;have:=hj.get;rw[this]at hr;cases hr;cases hb
     ·exact H.apart k j r _ hkj hr hj.get b hb hf
   ·exact H.apart k m r s hkm hr hs
end Go.Proofs.YtdoflhjhaciepaaGreat
namespace Go.Proofs.YtdoflhjhaciepaaGreat
open Go.RowKit Go.Shelf
attribute [local go_sem] Oper.semAt_some
theorem IntsR.mono {F G:Nat→Prop} {p:Option Addr} {c:Nat} {xs:List Int} {V:World} (h:IntsR F p c xs V) (hG:∀ b,F b→G b):IntsR G p c xs V:=by
 obtain⟨p',c',e,h1,h2,h0,h3⟩:=h;refine⟨p',c',e,h1,h2,h0,fun j r hr=>?_⟩
 obtain⟨b,off,e2,hb,h4⟩:=h3 j r hr;exact⟨b,off,e2,hG b hb,h4⟩
theorem IntsR.narrow {F:Nat→Prop} {p:Option Addr} {c:Nat} {xs:List Int} {V:World} (h:IntsR F p c xs V) (hn:0<xs.length):∃ b off,p=some ⟨b,off,none⟩∧F b∧IntsR (·=b) p c xs V:=by
 obtain⟨p',c',e,h1,h2,h0,h3⟩:=h;have e':=e;simp only[Value.slice.injEq]at e';obtain⟨rfl,_,rfl⟩:=e';obtain⟨b,off,e2,hb,_⟩:=h3 0 #[.int .i64 xs[0]] (by rw[List.getElem?_map,List.getElem?_eq_getElem hn];rfl)
 refine⟨b,off,e2,hb,p,c,e,h1,h2,h0,fun j r hr=>?_⟩
 obtain⟨b',off',e3,hb',h4⟩:=h3 j r hr;refine⟨b',off',e3,?_,h4⟩;rw[e2]at e3;simp only[Option.some.injEq,Addr.mk.injEq]at e3;exact e3.1.symm
def FW (us:List WV) (b:Nat):Prop:=∃ x ∈ us,∃ o,x.2.2.1=some ⟨b,o,none⟩
def WK (us:List WV) (V:World):Prop:=∀ x ∈ us,IntsR (FW us) x.2.2.1 x.2.2.2 x.2.1 V∧0<x.2.1.length
theorem WK.kept {us:List WV} {V W:World} (h:WK us W) (hV:∀ b,FW us b→V.heap[b]?=W.heap[b]?):WK us V:=fun x hx=>⟨(h x hx).1.kept hV,(h x hx).2⟩
theorem WK.cells {us:List WV} {V:World} (h:WK us V) {b:Nat} (hb:FW us b):∃ o:Obj,V.heap[b]?=some o∧o.isCells=true:=by
 obtain⟨x,hx,o,e⟩:=hb;obtain⟨h1,h2⟩:=h x hx;rw[e]at h1;have:=h1.cell (j:=0) h2;simp only[World.cell?]at this;split at this
 ·rename_i cs _ _ hc;exact⟨_,hc,rfl⟩
 ·cases this
theorem WK.sub {us vs:List WV} {V:World} (h:WK us V) (hs:∀ x ∈ vs,∃ y ∈ us,x.2=y.2):WK vs V:=by
 intro x hx;obtain⟨y,hy,e⟩:=hs x hx;obtain⟨h1,h2⟩:=h y hy;rw[← e]at h1 h2;obtain⟨b,off,e1,_,h3⟩:=h1.narrow h2;exact⟨h3.mono (fun b' hb'=>⟨x,hx,off,by rw[hb',e1]⟩),h2⟩
theorem FW.sub {us vs:List WV} (hs:∀ x ∈ vs,∃ y ∈ us,x.2=y.2) {b:Nat} (h:FW vs b):FW us b:=by
 obtain⟨x,hx,o,e⟩:=h;obtain⟨y,hy,e2⟩:=hs x hx;exact⟨y,hy,o,by rw[← e2];exact e⟩
theorem stay_WK (B:Nat) (us:List WV):StayOk B (.kn (FW us) (WK us)):=fun V h b hb=>.inr (h.cells hb)
theorem WK.ints {us:List WV} {V:World} (h:WK us V) {x:WV} (hx:x ∈ us):IntsR (FW us) x.2.2.1 x.2.2.2 x.2.1 V:=(h x hx).1
theorem At.of_get {α:Type}:∀ {l:List α} {i:Nat} {r:α},l[i]?=some r→At l i r
 | [],i,r,h=>by simp at h
 | x::l,0,r,h=>by simp at h;subst h;exact .zero
 | x::l,i+1,r,h=>.succ (At.of_get (by simpa using h))
section
variable {M:Nat→Prop} {w0 w w':World} {l:List Res}
theorem HoldG.knTo (H:HoldG M w0 w l) {i:Nat} {F G:Nat→Prop} {S T:World→Prop} (hi:At l i (.kn F S)) (hG:∀ b,G b→F b) (hT:S w→T w) (hk:∀ V,T w→(∀ b,G b→V.heap[b]?=w.heap[b]?)→T V):HoldG M w0 w (l.set i (.kn G T)):=by
 have hA:=H.all i _ hi.get;have hil:i<l.length:=(List.getElem?_eq_some_iff.1 hi.get).1;have hT':=hT (hA.2 w (fun _ _=>rfl))
 refine⟨H.keep,fun k r hr=>?_,fun k m r s hkm hr hs=>?_⟩
 ·rw[List.getElem?_set]at hr;split at hr
  ·simp only[Option.some.injEq]at hr;subst hr;exact⟨fun b hb=>hA.1 b (hG b hb),fun W' hW=>hk W' hT' hW⟩
  ·exact H.all k r hr
 ·rw[List.getElem?_set]at hr hs;split at hr
  ·simp only[Option.some.injEq]at hr;subst hr;intro b hb;cases hb
  ·split at hs
   ·rename_i e;subst e;simp only[Option.some.injEq]at hs;subst hs;intro b hb hf;exact H.apart k i r _ hkm hr hi.get b hb (hG b hf)
   ·exact H.apart k m r s hkm hr hs
end
end Go.Proofs.YtdoflhjhaciepaaGreat
namespace Go.Proofs.YtdoflhjhaciepaaGreat
open Go.RowKit Go.Shelf
structure ItInv (ps:List InstD) (L:Str) (i:Nat) (e0:Way) (m0:List Int) (ys0:List WV) (ms:Nat) (td ys us:List WV) (marks:List Int) (n:Nat):Prop where
 run:∃ outs,ys.map plW=ys0.map plW++outs∧waitsP ps L i (fuelP ps) [e0] m0=((waitsP ps L i n (td.reverse.map plW) marks).1,outs++(waitsP ps L i n (td.reverse.map plW) marks).2)
 fuel:3 * unm i marks+td.length<n
 top:n≤fuelP ps
 len:marks.length=ps.length
 todo:∀ x ∈ td,x.1<ps.length∧∃ u ∈ us,x.2=u.2
 got:∀ y ∈ ys,∃ u ∈ us,y.2=u.2
 size:∀ u ∈ us,u.2.1.length=ms
 room:ys.length+unm i marks≤ps.length
namespace ItInv
variable {ps:List InstD} {L:Str} {i:Nat} {e0:Way} {m0:List Int} {ys0:List WV} {ms:Nat} {td ys us:List WV} {marks:List Int} {n:Nat} {e:WV} {x:InstD}
theorem rev (td:List WV) (e:WV):(td++[e]).reverse.map plW=(e.1,e.2.1)::td.reverse.map plW:=by simp[plW]
theorem pos (I:ItInv ps L i e0 m0 ys0 ms (td++[e]) ys us marks n):∃ k,n=k+1:=⟨n - 1,by have:=I.fuel;omega⟩
theorem seen (I:ItInv ps L i e0 m0 ys0 ms (td++[e]) ys us marks n) (h:marks.getD e.1 0=(i:Int)+1):ItInv ps L i e0 m0 ys0 ms td ys us marks (n - 1):=by
 obtain⟨k,rfl⟩:=I.pos;obtain⟨outs,h1,h2⟩:=I.run;have hf:=I.fuel;refine⟨⟨outs,h1,?_⟩,?_,?_,I.len,fun x hx=>I.todo x (List.mem_append_left _ hx),I.got,I.size,I.room⟩
 ·rw[h2,rev];simp only[waitsP,h,if_true,Nat.add_sub_cancel]
 ·simp at hf ⊢;omega
 ·have:=I.top;omega
theorem unm1 (I:ItInv ps L i e0 m0 ys0 ms (td++[e]) ys us marks n) (h:marks.getD e.1 0≠(i:Int)+1):unm i (marks.set e.1 ((i:Int)+1))+1=unm i marks :=
 unm_set (by rw[I.len];exact(I.todo e (by simp)).1) h
theorem next (I:ItInv ps L i e0 m0 ys0 ms (td++[e]) ys us marks n) (h:marks.getD e.1 0≠(i:Int)+1) {us' td':List WV} (hu:∀ u ∈ us,u ∈ us') (hs:∀ u ∈ us',u.2.1.length=ms) (ht:∀ x ∈ td',x.1<ps.length∧∃ u ∈ us',x.2=u.2) (hl:td'.length≤2)
  (hw:∀ k,waitsP ps L i (k+1) ((e.1,e.2.1)::td.reverse.map plW) marks=waitsP ps L i k (td'.reverse.map plW++td.reverse.map plW) (marks.set e.1 ((i:Int)+1))):ItInv ps L i e0 m0 ys0 ms (td++td') ys us' (marks.set e.1 ((i:Int)+1)) (n - 1):=by
 obtain⟨k,rfl⟩:=I.pos;obtain⟨outs,h1,h2⟩:=I.run;have hf:=I.fuel;have hun:=I.unm1 h;refine⟨⟨outs,h1,?_⟩,?_,?_,by rw[List.length_set];exact I.len,fun x hx=>?_,fun y hy=>?_,hs,?_⟩
 ·rw[h2,rev,hw];simp
 ·simp at hf ⊢;omega
 ·have:=I.top;omega
 ·rcases List.mem_append.1 hx with hx|hx
  ·obtain⟨h1,u,hu1,h2⟩:=I.todo x (List.mem_append_left _ hx);exact⟨h1,u,hu u hu1,h2⟩
  ·exact ht x hx
 ·obtain⟨u,hu1,h2⟩:=I.got y hy;exact⟨u,hu u hu1,h2⟩
 ·have:=I.room;omega
theorem known (I:ItInv ps L i e0 m0 ys0 ms (td++[e]) ys us marks n):e.1<ps.length∧∃ u ∈ us,e.2=u.2:=I.todo e (by simp)
theorem split (I:ItInv ps L i e0 m0 ys0 ms (td++[e]) ys us marks n) (h:marks.getD e.1 0≠(i:Int)+1) (hx:ps[e.1]?=some x) (hk:x.kind=2) (hn:0≤x.next∧x.next<ps.length) (ho:0≤x.other∧x.other<ps.length) :
  ItInv ps L i e0 m0 ys0 ms (td++[(x.other.toNat,e.2),(x.next.toNat,e.2)]) ys us (marks.set e.1 ((i:Int)+1)) (n - 1):=by
 have hat:=atI_get hx;refine I.next h (fun _ h=>h) I.size (fun y hy=>?_) (by simp) (fun k=>?_)
 ·simp only[List.mem_cons,List.not_mem_nil,or_false]at hy;rcases hy with rfl|rfl
  ·exact⟨by show x.other.toNat<_;omega,I.known.2⟩
  ·exact⟨by show x.next.toNat<_;omega,I.known.2⟩
 ·simp only[waitsP,if_neg h,hat,hk,if_true];rfl
theorem save (I:ItInv ps L i e0 m0 ys0 ms (td++[e]) ys us marks n) (h:marks.getD e.1 0≠(i:Int)+1) (hx:ps[e.1]?=some x) (hk:x.kind=3) (hn:0≤x.next∧x.next<ps.length) (q:Option Addr) (c:Nat) :
  ItInv ps L i e0 m0 ys0 ms (td++[(x.next.toNat,e.2.1.set x.slot.toNat i,q,c)]) ys (us++[(x.next.toNat,e.2.1.set x.slot.toNat i,q,c)]) (marks.set e.1 ((i:Int)+1)) (n - 1):=by
 have hat:=atI_get hx;obtain⟨u,hu,he⟩:=I.known.2;refine I.next h (fun _ h=>List.mem_append_left _ h) (fun y hy=>?_) (fun y hy=>?_) (by simp) (fun k=>?_)
 ·rcases List.mem_append.1 hy with hy|hy
  ·exact I.size y hy
  ·rw[List.mem_singleton]at hy;subst hy
   show (e.2.1.set _ _).length=ms
   rw[List.length_set,he];exact I.size u hu
 ·rw[List.mem_singleton]at hy;subst hy;exact⟨by show x.next.toNat<_;omega,_,List.mem_append_right _ (List.mem_singleton.2 rfl),rfl⟩
 ·simp only[waitsP,if_neg h,hat,hk,if_true];rfl
theorem spotT (I:ItInv ps L i e0 m0 ys0 ms (td++[e]) ys us marks n) (h:marks.getD e.1 0≠(i:Int)+1) (hx:ps[e.1]?=some x) (hk:x.kind=4) (hn:0≤x.next∧x.next<ps.length) (hs:isSpot x.spot L i=true) :
  ItInv ps L i e0 m0 ys0 ms (td++[(x.next.toNat,e.2)]) ys us (marks.set e.1 ((i:Int)+1)) (n - 1):=by
 have hat:=atI_get hx;refine I.next h (fun _ h=>h) I.size (fun y hy=>?_) (by simp) (fun k=>?_)
 ·rw[List.mem_singleton]at hy;subst hy;exact⟨by show x.next.toNat<_;omega,I.known.2⟩
 ·simp only[waitsP,if_neg h,hat,hk,hs,if_true];rfl
theorem spotF (I:ItInv ps L i e0 m0 ys0 ms (td++[e]) ys us marks n) (h:marks.getD e.1 0≠(i:Int)+1) (hx:ps[e.1]?=some x) (hk:x.kind=4) (hs:isSpot x.spot L i=false) :
  ItInv ps L i e0 m0 ys0 ms td ys us (marks.set e.1 ((i:Int)+1)) (n - 1):=by
 have hat:=atI_get hx
 have:=I.next (td':=[]) h (fun _ h=>h) I.size (fun y hy=>by simp at hy) (by simp) (fun k=>by
  simp only[waitsP,if_neg h,hat,hk,hs,if_true]
  rfl)
 simpa using this
theorem out (I:ItInv ps L i e0 m0 ys0 ms (td++[e]) ys us marks n) (h:marks.getD e.1 0≠(i:Int)+1) (hx:ps[e.1]?=some x) (hk:x.kind=1∨x.kind=5) :
  ItInv ps L i e0 m0 ys0 ms td (ys++[e]) us (marks.set e.1 ((i:Int)+1)) (n - 1):=by
 have hat:=atI_get hx;obtain⟨k,rfl⟩:=I.pos;obtain⟨outs,h1,h2⟩:=I.run;have hf:=I.fuel;have hun:=I.unm1 h;refine⟨⟨outs++[plW e],by rw[List.map_append,h1];simp,?_⟩,?_,?_,by rw[List.length_set];exact I.len,fun x hx=>I.todo x (List.mem_append_left _ hx),fun y hy=>?_,I.size,?_⟩
 ·rw[h2,rev];have e2:¬ x.kind=2:=by omega
  have e3:¬ x.kind=3:=by omega
  have e4:¬ x.kind=4:=by omega
  simp only[waitsP,if_neg h,hat,if_neg e2,if_neg e3,if_neg e4,if_pos hk,Nat.add_sub_cancel,List.append_assoc,List.cons_append,List.nil_append];rfl
 ·simp at hf ⊢;omega
 ·have:=I.top;omega
 ·rcases List.mem_append.1 hy with hy|hy
  ·exact I.got y hy
  ·rw[List.mem_singleton]at hy;subst hy;exact I.known.2
 ·have:=I.room;simp;omega
theorem done (I:ItInv ps L i e0 m0 ys0 ms [] ys us marks n):marks=(waitsP ps L i (fuelP ps) [e0] m0).1∧ys.map plW=ys0.map plW++(waitsP ps L i (fuelP ps) [e0] m0).2:=by
 obtain⟨outs,h1,h2⟩:=I.run;have e1:waitsP ps L i n (([]:List WV).reverse.map plW) marks=(marks,[]):=by cases n<;>rfl
 rw[e1,List.append_nil]at h2;rw[h2];exact⟨rfl,h1⟩
end ItInv
end Go.Proofs.YtdoflhjhaciepaaGreat
namespace Go.Proofs.YtdoflhjhaciepaaGreat
open Go.RowKit
def noDefer (l:List Oper):Bool:=l.all (fun o=>match o.op with|.defer _=>false|_=>true)
theorem wpIn_inRound {k l:Nat} {P:Program} {o:Oper} {a:Act} {w:World} {K:Act→World→Prop} {Q:Exit→Act→World→Prop} (hd:∀ c,o.op≠.defer c) (h:o.wp P a w K Q):o.wpIn (Fence.wide.inRound l) k P a w K Q:=by
 unfold Oper.wp at h;refine⟨fun _ _=>trivial,?_⟩
 rw[show o.semAt (Fence.wide.inRound l).round a.eval=execOp a.eval o from Oper.semAt_some l a.eval o hd]
 generalize (execOp a.eval o).run P w=r at *
 cases r with
 | ok x w' =>
  cases x<;>simp only[Oper.upon,Oper.uponIn]at h ⊢ <;>
   first
    | exact h
    | exact⟨fun h=>by simp[Fence.wide,Fence.inRound]at h,CallsIn.inRound l (callsIn_wide.2 h)⟩
    | exact⟨fun h=>by simp[Fence.wide,Fence.inRound]at h,rowsIn_of_rows (m:=k - 1) h⟩
    | exact h.elim
 | halt x w'=>cases x<;>simp only[Oper.upon,Oper.uponIn]at h ⊢<;>first|exact h|exact h.elim
theorem list_inRound {k l:Nat} {P:Program} {ops:Array Oper} {Q:Exit→Act→World→Prop} (hQ:¬ LetsOut Q):∀ (r:List Oper) (a:Act) (w:World),noDefer r=true→wpList P ops Q r a w→wpListIn (Fence.wide.inRound l) k P ops Q r a w
 | [],_,_,_,h=>h
 | o::r,a,w,hc,h=>by
  simp only[noDefer,List.all_cons,Bool.and_eq_true]at hc;have ih:=list_inRound (k:=k) (l:=l) (P:=P) (ops:=ops) (Q:=Q) hQ r;unfold wpList at h;unfold wpListIn;split at h
  ·rename_i hw;rw[if_pos hw];exact wpIn_inRound (fun c e=>by rw[e]at hc;simp at hc) (Oper.wp_mono (fun a' w' h'=>ih a' w' (by simpa [noDefer] using hc.2) h') (h.resolve_right (fun h=>hQ h.2)))
  ·rename_i hw;rw[if_neg hw];exact⟨fun _ _=>trivial,ih _ _ (by simpa [noDefer] using hc.2) h⟩
theorem wpAnyIn_round {k c:Nat} {P:Program} {l:List Oper} {Q:Exit→Act→World→Prop} (hQ:¬ LetsOut Q) (hc:noDefer l=true):∀ (fuel:Nat) (listed:Array Bool) (a:Act) (w:World),wpAny P .any l.toArray Q fuel listed a w→wpAnyIn (Fence.wide.inRound k) c P .any l.toArray Q fuel listed a w
 | 0,_,_,_,h=>h
 | fuel+1,listed,a,w,h=>by
  refine⟨h.1,fun i hi=>?_⟩
  have h2:=h.2 i hi;have ih:=fun a w=>wpAnyIn_round (k:=k) (c:=c) (P:=P) hQ hc fuel (listed.setIfInBounds i true) a w
  unfold wpOp at h2;unfold wpOpIn
  cases ho:l.toArray[i]? with
  | none =>
   simp only[ho]at h2 ⊢;exact ih _ _ h2
  | some o =>
   simp only[ho]at h2 ⊢;have hno:∀ c,o.op≠.defer c:=by
    intro c e;have hm:o ∈ l:=by
     have:l[i]?=some o:=by simpa using ho
     exact List.mem_of_getElem? this
    have:=List.all_eq_true.1 hc o hm;rw[e]at this;cases this
   split
   ·rename_i hw;rw[if_pos hw]at h2;exact wpIn_inRound hno (Oper.wp_mono (fun a' w' h'=>ih a' w' h') (h2.resolve_right (fun h=>hQ h.2)))
   ·rename_i hw;rw[if_neg hw]at h2;exact⟨fun _ _=>trivial,ih _ _ h2⟩
theorem wpAny_lateD {P:Program} {Q:Exit→Act→World→Prop} {a0:Act} {w0:World} {l:List Oper} (n e:Nat) (Ss:Nat→Value→World→Prop) (D:Nat→Bool)
  (hB:lateB l.toArray n e=true) (hsz:(l.take n).all (fun o=>match o.dst with|some d=>decide (d<a0.tmps.size)|none=>true)=true)
  (hst:∀ i,i<n→∀ v w w',Ss i v w→Below w.heap.size w w'→Ss i v w')
  (hlt:∀ i,i<n→D i=true→∀ v w,Ss i v w→blk v<w.heap.size)
  (hstep:∀ i o,i<n→l[i]?=some o→∀ a w,RCtx (l.take n) Ss a0 w0 o a w→RStep P l.toArray o a w (fun v w'=>Ss i v w'∧(D i=true→w.heap.size≤blk v)))
  (hend:∀ vals w,Below w0.heap.size w0 w→(∀ i,i<n→Ss i (vals i) w)→(∀ i j,i<n→j<n→i≠j→D i=true→D j=true→blk (vals i)≠blk (vals j))→wpList P l.toArray Q (l.drop n) (fillAll (l.take n) 0 vals a0) w)
  (hend2:∀ vals w,Below w0.heap.size w0 w→(∀ i,i<n→i≠e→Ss i (vals i) w)→(∀ i j,i<n→j<n→i≠e→j≠e→i≠j→D i=true→D j=true→blk (vals i)≠blk (vals j)) →
   wpList P l.toArray Q (lateL l n e) (fillBut e (l.take n) 0 vals a0) w) :
  wpAny P .any l.toArray Q l.toArray.size (Array.replicate l.toArray.size false) a0 {w0 with drawn:=w0.drawn+1}:=by
 simp only[lateB,Bool.and_eq_true,decide_eq_true_eq]at hB;obtain⟨⟨⟨⟨⟨⟨⟨hn,hd⟩,haf⟩,hclo⟩,htw⟩,hseq⟩,hord⟩,hen⟩:=hB;have hn':n≤l.length:=by simpa using hn
 have hd':dstsB (l.take n)=true:=hd;have htl:(l.take n).length=n:=by simp;omega
 have key:∀ (rem:List Nat) (f:Nat),rem.length=f→rem.Nodup→∀ (listed:Array Bool) (a:Act) (w:World),HeadInv .any l.toArray n listed →
   (∀ i,i ∈ rem↔(i<n∧listed.getD i true=false))→(∃ vals,a=fill (l.take n) 0 listed vals a0∧(∀ i,i<n→listed.getD i false=true→Ss i (vals i) w)∧∀ i j,i<n→j<n→i≠j→listed.getD i false=true→listed.getD j false=true→D i=true→D j=true→blk (vals i)≠blk (vals j))→Below w0.heap.size w0 w →
   wpAny P .any l.toArray Q (f+(l.toArray.size - n)) listed a w:=by
  intro rem f
  induction f generalizing rem with
  | zero =>
   intro hl _ listed a w inv hrem ⟨vals,ha,hv,hp⟩ hb;have hr:rem=[]:=List.length_eq_zero_iff.1 hl;subst hr;have hall:∀ i,i<n→listed.getD i false=true:=by
    intro i hi;have h1:¬ listed.getD i true=false:=fun h=>by have:=(hrem i).2 ⟨hi,h⟩;simp at this
    have h2:i<listed.size:=by rw[inv.size];omega
    rw[Array.getD_eq_getD_getElem?,Array.getElem?_eq_getElem h2]at h1 ⊢
    simpa using h1
   have hlist:=listed_head hn inv hall;have hw:=hend vals w hb (fun i hi=>hv i hi (hall i hi)) (fun i j hi hj hij=>hp i j hi hj hij (hall i hi) (hall j hj))
   rw[← fill_all (l.take n) 0 listed vals a0 (fun i hi=>by rw[Nat.zero_add];exact hall i (by omega)),← ha]at hw
   rw[Nat.zero_add];have hdl:(l.drop n).length=l.toArray.size - n:=by simp
   rw[← hdl];refine wpAny_of_seq (l.drop n) n listed a w (fun j=>by simp) ?_ hw
   rw[hdl,hlist];exact hseq
  | succ f ih =>
   intro hl hnd listed a w inv hrem ⟨vals,ha,hv,hp⟩ hb;have hex:∃ i,i ∈ rem∧∀ j,j ∈ rem→i≤j:=by
    have:∀ (r:List Nat),r≠[]→∃ i,i ∈ r∧∀ j,j ∈ r→i≤j:=by
     intro r
     induction r with
     | nil=>intro h;exact(h rfl).elim
     | cons x r ihr =>
      intro _
      by_cases hr:r=[]
      ·subst hr;exact⟨x,by simp,by simp⟩
      ·obtain⟨i,hi,hmin⟩:=ihr hr
       by_cases hx:x≤i
       ·exact⟨x,by simp,fun j hj=>by rcases List.mem_cons.1 hj with rfl|hj;exact Nat.le_refl _;exact Nat.le_trans hx (hmin j hj)⟩
       ·exact⟨i,by simp[hi],fun j hj=>by rcases List.mem_cons.1 hj with rfl|hj;omega;exact hmin j hj⟩
    exact this rem (by intro h;subst h;simp at hl)
   have hready:Region.ready .any l.toArray listed≠[]:=by
    obtain⟨i,hi,hmin⟩:=hex;obtain⟨hin,hil⟩:=(hrem i).1 hi;have hlt:i<l.length:=by omega
    have hmem:i ∈ Region.ready .any l.toArray listed:=by
     refine mem_ready.2 ⟨hil,l[i],by simp[hlt],fun e he hbd=>?_⟩
     have h1:=List.all_eq_true.1 haf (l[i],i) (by
      rw[List.mem_zipIdx_iff_getElem?];simp[hin,hlt])
     have h2:=Array.all_eq_true'.1 h1 e he;simp[hbd]at h2;have hj:¬ e.on ∈ rem:=fun h=>by have:=hmin _ h;omega
     have h3:¬ listed.getD e.on true=false:=fun h=>hj ((hrem _).2 ⟨by omega,h⟩)
     have h4:e.on<listed.size:=by rw[inv.size];simp;omega
     rw[Array.getD_eq_getD_getElem?,Array.getElem?_eq_getElem h4]at h3 ⊢
     simpa using h3
    intro h;rw[h]at hmem;simp at hmem
   rw[show f+1+(l.toArray.size - n)=(f+(l.toArray.size - n))+1 from by omega]
   refine⟨fun h=>(hready h).elim,fun i hi=>?_⟩
   obtain⟨hil,o,ho,haft⟩:=mem_ready.1 hi
   by_cases hin:i<n
   case neg =>
    have hisz:i<l.toArray.size:=(Array.getElem?_eq_some_iff.1 ho).1;have hmost:=late_most hclo hn inv;have hin':i=n:=by
     rcases Nat.lt_or_ge n i with h|h
     ·exfalso
      have h1:=List.all_eq_true.1 htw (l[i]'(by simpa using hisz),i) (by
       rw[List.mem_zipIdx_iff_getElem?];simp at hisz;simp[hisz])
      simp only[Bool.or_eq_true,decide_eq_true_eq]at h1;rcases h1 with h1|h1
      ·omega
      ·obtain⟨ed,hed,hb⟩:=List.any_eq_true.1 h1;simp only[Bool.and_eq_true,decide_eq_true_eq]at hb;have ho2:o=l[i]'(by simpa using hisz):=by
        have:=(Array.getElem?_eq_some_iff.1 ho).2;simpa using this.symm
       have h3:=haft ed (by rw[ho2];exact Array.mem_toList_iff.1 hed) hb.1.1
       have h4:=getD_both (inv.tail ed.on hb.1.2 (by omega))
       rw[h3]at h4;cases h4
     ·omega
    subst hin';have hall:∀ k,k<i→k≠e→listed.getD k false=true:=fun k hk hke=>hmost o ho haft k hk hke
    have hone:rem=[e]:=by
     have h1:∀ k ∈ rem,k=e:=by
      intro k hk;obtain⟨hk1,hk2⟩:=(hrem k).1 hk
      by_cases hke:k=e
      ·exact hke
      ·have:=hall k hk1 hke;rw[getD_both hk2]at this;cases this
     cases rem with
     | nil=>simp at hl
     | cons x r =>
      cases r with
      | nil=>rw[h1 x (by simp)]
      | cons y r =>
       have hx:=h1 x (by simp);have hy:=h1 y (by simp)
       rw[hx,hy]at hnd;simp at hnd
    subst hone;have hf:f=0:=by simp at hl;omega
    subst hf;have hel:listed.getD e true=false:=((hrem e).1 (by simp)).2
    have hlist:=listed_but hn hen inv hall hel;have hw:=hend2 vals w hb (fun k hk hke=>hv k hk (hall k hk hke)) (fun k m hk hm hke hme hkm=>hp k m hk hm hkm (hall k hk hke) (hall m hm hme))
    rw[← fill_but e (l.take i) 0 listed vals a0 (fun k hk hke=>by rw[Nat.zero_add]at hke ⊢;exact hall k (by omega) hke) (fun _=>getD_both hel),← ha]at hw
    have hli:l[i]?=some o:=by simpa using ho
    have hl1:(l.drop i).take 1=[o]:=by
     rw[List.drop_eq_getElem_cons (by simpa using hisz)]
     have:l[i]'(by simpa using hisz)=o:=(List.getElem?_eq_some_iff.1 hli).2
     simp[this]
    have hlt':i<l.length:=by simpa using hisz
    have heL:e<l.length:=by omega
    have hl2:(l.drop e).take 1=[l[e]]:=by rw[List.drop_eq_getElem_cons heL,List.take_succ_cons,List.take_zero]
    unfold lateL at hw;rw[hl1,hl2]at hw;have hw2:wpOp P l.toArray Q i (wpList P l.toArray Q ([l[e]]++l.drop (i+1))) a w:=by unfold wpOp;simp only[ho];exact hw
    have hlen:(e::List.range' (i+1) (l.toArray.size - i - 1)).length=0+(l.toArray.size - i):=by simp;omega
    refine wpOp_mono (fun a' w' h'=>?_) hw2
    rw[← hlen];refine wpAny_of_order (e::List.range' (i+1) (l.toArray.size - i - 1)) ([l[e]]++l.drop (i+1)) _ a' w' (by simp;omega) (fun j k hk=>?_) ?_ h'
    ·cases j with
     | zero=>simp at hk;subst hk;simp[heL]
     | succ j =>
      simp only[List.getElem?_cons_succ]at hk;obtain⟨hk1,hk2⟩:=List.getElem?_eq_some_iff.1 hk;simp at hk2;subst hk2;simp
    ·rw[hlist];exact hord
   have ho':l[i]?=some o:=by simpa using ho
   have hot:(l.take n)[i]?=some o:=by rw[List.getElem?_take_of_lt hin];exact ho'
   obtain⟨d,hod⟩:∃ d,o.dst=some d:=by
    have:∀ (r:List Oper) (j:Nat),dstsB r=true→r[j]?=some o→∃ d,o.dst=some d:=by
     intro r
     induction r with
     | nil=>intro j _ h;simp at h
     | cons x r ihr =>
      intro j hdd h;simp only[dstsB,Bool.and_eq_true]at hdd
      cases j with
      | zero=>simp at h;subst h;exact Option.isSome_iff_exists.1 hdd.1.1
      | succ j=>exact ihr j hdd.2 (by simpa using h)
    exact this _ i hd' hot
   have hbd:∀ (j:Nat) (oj:Oper) (dj:Tmp),(l.take n)[j]?=some oj→oj.dst=some dj→dj<a0.tmps.size:=by
    intro j oj dj hj hdj;have:=List.all_eq_true.1 hsz oj (List.mem_of_getElem? hj)
    simpa [hdj] using this
   have hctx:RCtx (l.take n) Ss a0 w0 o a w:=by
    refine⟨hb,fun t ht=>by rw[ha];exact fill_frame _ _ _ _ _ t ht,fun j dj hj hdj=>?_,by rw[ha,fill_size]⟩
    obtain⟨e,he,hbe⟩:=List.any_eq_true.1 hj;simp only[Bool.and_eq_true,beq_iff_eq]at hbe;have hlj:=haft e (Array.mem_toList_iff.1 he) hbe.1;rw[hbe.2]at hlj;obtain⟨oj,hoj,hdj'⟩:=Option.bind_eq_some_iff.1 hdj;have hjn:j<n:=by have:=(List.getElem?_eq_some_iff.1 hoj).1;omega
    rw[ha,fill_at _ 0 listed vals a0 j oj dj hd' hoj hdj' (hbd j oj dj hoj hdj') (by rw[Nat.zero_add];exact hlj),Nat.zero_add]
    exact hv j hjn hlj
   have hstep':=hstep i o hin ho' a w hctx;have hnext:∀ v w',Below w.heap.size w w'→(Ss i v w'∧(D i=true→w.heap.size≤blk v))→wpAny P .any l.toArray Q (f+(l.toArray.size - n)) (listed.setIfInBounds i true) (a.put o.dst v) w':=by
    intro v w' hbw ⟨hsv,hfr⟩;have hmemi:i ∈ rem:=(hrem i).2 ⟨hin,hil⟩;refine ih (rem.erase i) (by rw[List.length_erase_of_mem hmemi,hl];rfl) (hnd.erase i) _ _ w' (inv.set hi hin) (fun j=>?_) ⟨fun j=>if j=i then v else vals j,?_,fun j hj hlj=>?_,fun j k hj hk hjk hlj hlk hDj hDk=>?_⟩ (hb.trans (hbw.mono hb.size))
    ·rw[hnd.mem_erase_iff,hrem j]
     by_cases hji:j=i
     ·subst hji;have hjs:j<listed.size:=by rw[inv.size];simp;omega
      simp[hjs]
     ·rw[getD_set_ne true (fun e=>hji e.symm)]
      simp[hji]
    ·have:=fill_set (l.take n) 0 i listed vals a0 o d v hd' hot hod (by rw[Nat.zero_add];exact hil)
     rw[Nat.zero_add]at this;rw[this,← ha,hod]
    ·by_cases hji:j=i
     ·subst hji;simpa using hsv
     ·show Ss j (if j=i then v else vals j) w'
      rw[if_neg hji];rw[getD_set_ne false (fun e=>hji e.symm)]at hlj
      exact hst j hj _ _ _ (hv j hj hlj) hbw
    ·show blk (if j=i then v else vals j)≠blk (if k=i then v else vals k)
     by_cases hji:j=i
     ·subst hji;rw[if_pos rfl,if_neg (fun e=>hjk e.symm)]
      rw[getD_set_ne false hjk]at hlk;have h1:=hlt k hk hDk _ _ (hv k hk hlk);have h2:=hfr hDj;omega
     ·rw[if_neg hji];rw[getD_set_ne false (fun e=>hji e.symm)]at hlj
      by_cases hki:k=i
      ·subst hki;rw[if_pos rfl];have h1:=hlt j hj hDj _ _ (hv j hj hlj);have h2:=hfr hDk;omega
      ·rw[if_neg hki];rw[getD_set_ne false (fun e=>hki e.symm)]at hlk
       exact hp j k hj hk hjk hlj hlk hDj hDk
   unfold wpOp;simp only[ho];unfold RStep at hstep';split
   ·rename_i hw;rw[if_pos hw]at hstep';refine .inl (wpQ_mono (Oper.wp_mono (fun a' w' ⟨v,e,hbw,hsv⟩=>?_) hstep'))
    subst e;exact hnext v w' hbw hsv
   ·rename_i hw;rw[if_neg hw]at hstep';exact hnext undef w (Below.refl _ w) hstep'
 have h0:=key (List.range n) n (by simp) List.nodup_range (Array.replicate l.toArray.size false) a0 {w0 with drawn:=w0.drawn+1}
  ⟨by simp,fun j oj _ hl=>(by rw[getD_replicate_false]at hl;cases hl),fun t _ ht=>getD_in (by simpa using ht) (getD_replicate_false _ _)⟩
  (fun i=>by
   rw[List.mem_range];constructor
   ·intro h;exact⟨h,getD_in (by simp;omega) (getD_replicate_false _ _)⟩
   ·intro h;exact h.1)
  ⟨fun _=>undef,(fill_none _ _ _ _ _ (fun i=>getD_replicate_false _ _)).symm,fun i _ h=>(by rw[getD_replicate_false]at h;cases h),fun i j _ _ _ h=>(by rw[getD_replicate_false]at h;cases h)⟩
  ((Below.refl _ w0).drew)
 rw[show n+(l.toArray.size - n)=l.toArray.size from by omega]at h0
 exact h0
theorem wpIn_round_late {P:Program} {id k c:Nat} {Q:Exit→Act→World→Prop} {a0:Act} {w0:World} {l:List Oper} (n e:Nat) (L:List (Value→World→Prop)) (D:Nat→Bool)
  (hm:P.follows .mixedOrders=true) (hQ:¬ LetsOut Q) (hc:noDefer l=true) (hB:lateB l.toArray n e=true) (hsz:(l.take n).all (fun o=>match o.dst with|some d=>decide (d<a0.tmps.size)|none=>true)=true)
  (hst:AllStable L) (hlt:∀ i,i<n→D i=true→∀ v w,lookS L i v w→blk v<w.heap.size)
  (hstep:Obl P l (l.take n) L D a0 w0 (l.take n) 0)
  (hend:∀ vals w,Below w0.heap.size w0 w→(∀ i,i<n→lookS L i (vals i) w)→(∀ i j,i<n→j<n→i≠j→D i=true→D j=true→blk (vals i)≠blk (vals j)) →
   wpList P l.toArray Q (l.drop n) (fillAll (l.take n) 0 vals a0) w)
  (hend2:∀ vals w,Below w0.heap.size w0 w→(∀ i,i<n→i≠e→lookS L i (vals i) w)→(∀ i j,i<n→j<n→i≠e→j≠e→i≠j→D i=true→D j=true→blk (vals i)≠blk (vals j)) →
   wpList P l.toArray Q (lateL l n e) (fillBut e (l.take n) 0 vals a0) w) :
  (Code.region id l.toArray true).wpIn (Fence.wide.inRound k) c P Q a0 w0 :=
 wpIn_region_any hm (wpAnyIn_round hQ hc _ _ _ _ (wpAny_lateD n e (lookS L) D hB hsz (fun i _ v w w' h hb=>lookS_stable L i hst v w w' h hb) hlt
  (fun i o hi ho a w hc=>by
   have:=Obl.get (l.take n) 0 hstep i o (by rw[List.getElem?_take_of_lt hi];exact ho) a w hc
   rwa [Nat.zero_add]at this) hend hend2))
def KeepsNC (B:Nat) (W W':World):Prop:=∀ k o,B≤k→W.heap[k]?=some o→o.isCells=false→W'.heap[k]?=some o
theorem KeepsNC.same {B:Nat} {W W':World} (h:KeepsNC B W W') (k:Nat) (o:Obj) (hk:B≤k) (h1:W.heap[k]?=some o) (h2:o.isCells=false):W'.heap[k]?=some o:=h k o hk h1 h2
theorem KeepsNC.refl (B:Nat) (W:World):KeepsNC B W W:=fun _ _ _ h _=>h
theorem KeepsNC.of_below {B:Nat} {W W':World} (h:Below W.heap.size W W'):KeepsNC B W W':=fun k o _ hk _=>(h.block k (Array.getElem?_eq_some_iff.1 hk).1).trans hk
def ncF (B:Nat) (W:World) (b:Nat):Prop:=B≤b∧∃ o:Obj,W.heap[b]?=some o∧o.isCells=false
def ncS (B:Nat) (W V:World):Prop:=∀ b,ncF B W b→V.heap[b]?=W.heap[b]?
theorem ncS.keeps {B:Nat} {W V:World} (h:ncS B W V):KeepsNC B W V:=fun k o hk h1 h2=>(h k ⟨hk,o,h1,h2⟩).trans h1
theorem HoldG.knowNC {M:Nat→Prop} {w0 W:World} {l:List Res} (H:HoldG M w0 W l) (hl:∀ r ∈ l,∀ b es c,r≠.mp b es c) (B:Nat):HoldG M w0 W (l++[.kn (ncF B W) (ncS B W)]):=by
 refine H.know _ _ (fun b hb=>by obtain⟨_,o,h,_⟩:=hb;exact(Array.getElem?_eq_some_iff.1 h).1) (fun i r hi b hp hF=>?_) (fun V hV b hb=>hV b hb)
 obtain⟨_,o,hk,ho⟩:=hF;have hA:=H.all i r hi
 cases r with
 | blk b' cs U=>cases hp;rw[hA.2]at hk;cases hk;cases ho
 | row v e' sz n xs =>
  obtain⟨_,⟨hv,_⟩|⟨g,cap,cur,rfl,_,hg',_⟩⟩:=hA
  ·have h2:v.ownBlock=some b:=hp;rw[hv]at h2;cases h2
  ·have:g=b:=by simpa [Res.place,Value.ownBlock] using hp
   subst this;rw[hg']at hk;cases hk;cases ho
 | mp b' es c=>exact hl _ (List.mem_of_getElem? hi) _ _ _ rfl
 | kn F S=>cases hp
variable {F:Fence} {n:Nat} {P:Program}
def ncEnd (B:Nat) (Y:World→Prop) (W:World):Exit→Act→World→Prop
 | .normal,_,W'=>KeepsNC B W W'∧Y W'
 | _,_,_=>False
theorem wpIn_rangeFunc_nc {σ α:Type} {g:Operand} {ps:Array Tmp} {assign body:Code} {Q:Exit→Act→World→Prop} {a:Act} {w:World}
  (hro:F.round=none) (h1:1≤n) {gf:Nat} {lb:Array Value} (hg:a.eval g=.func (.func gf) #[] lb) (hFg:F.fn gf) (eg:∀ args w,(callFunc gf args).run P w=.ok (.enter gf args) w)
  {encs:α→Array Value} (hps:∀ x,(encs x).size=ps.size)
  (I0 S:World→Prop) (Pn:List PanicEntry→World→Prop) (Yp Yq:σ→α→World→Prop) (Ya:σ→α→Act→World→Prop)
  (st0:Stay w.heap.size I0) (stS:Stay w.heap.size S) (stP:∀ ch,Stay w.heap.size (Pn ch)) (stYq:∀ s x,Stay w.heap.size (Yq s x)) (stYa:∀ s x a,Stay w.heap.size (Ya s x a))
  (hiter:∀ (l:Nat) (B:World→Prop),(∀ W W',KeepsNC w.heap.size W W'→B W→B W') →
   (∀ s x W1,Yp s x W1→B W1→YieldAt F (n - 1 - 1) P l (encs x) W1 fun e W'=>e=.returned (.bool true)∧Yq s x W'∧B W') →
   ∀ W,I0 W→B W→CallsIn F (n - 1) P gf (#[.func (.yield l) #[] #[]]++lb) W fun e W'=>B W'∧((∃ v,e=.returned v∧S W')∨∃ ch,e=.panicked ch∧Pn ch W'))
  (h0:I0 w)
  (hassign:∀ (l:Nat) (s:σ) (x:α) (W:World),Yp s x W →
   assign.wpIn (F.inRound l) (n - 1 - 1) P (Exit.then (fun a1 W1=>KeepsNC w.heap.size W W1∧Ya s x a1 W1) (fun _ _ _=>False)) {tmps:=(ps.zip (encs x)).foldl (fun t (p,v)=>t.setIfInBounds p v) a.tmps,defers:=[]} W)
  (hbody:∀ (l:Nat) (s:σ) (x:α) (a1:Act) (W:World),Ya s x a1 W→body.wpIn (F.inRound l) (n - 1 - 1) P (ncEnd w.heap.size (Yq s x) W) a1 W)
  (hdone:∀ (D:Nat) (W:World),w.heap.size≤D→S W→W.heap[D]?=some (.deferred (some []))→Q .normal {a with defers:={target:=.collected D,args:=#[]}::a.defers} W)
  (hpan:∀ (D:Nat) (ch:List PanicEntry) (W:World),w.heap.size≤D→Pn ch W→W.heap[D]?=some (.deferred (some []))→Q (.panic ch) {a with defers:={target:=.collected D,args:=#[]}::a.defers} W) :
  (Code.rangeFunc g ps assign body).wpIn F n P Q a w:=by
 refine wpIn_rangeFunc ?_
 intro fn hfn;rw[hro];obtain⟨rec,hrec⟩:∃ rec:LoopState→Option Code→Loop,rec=fun st pe=>{state:=st,pending:=pe,fn,tmps:=a.tmps,params:=ps,assign,body,defers:=w.heap.size}:=⟨_,rfl⟩
 obtain⟨W1,hW1⟩:∃ W1,(w.alloc (.deferred (some []))).alloc (.loop (rec .ready none))=W1:=⟨_,rfl⟩;have hL1:W1.heap[w.heap.size+1]?=some (.loop (rec .ready none)):=by
  rw[← hW1];have:=World.alloc_heap_new (w.alloc (.deferred (some []))) (.loop (rec .ready none));rwa [World.size_alloc]at this
 have hK1:W1.heap[w.heap.size]?=some (.deferred (some [])):=by
  rw[← hW1];exact(Below.heap_alloc _ _ _ (by simp)).trans (World.alloc_heap_new w _)
 have hI1:I0 W1:=by rw[← hW1];exact st0.alloc _ (st0.alloc _ h0)
 refine⟨w.heap.size+1,[{target:=.collected w.heap.size,args:=#[]}],W1,{target:=.fn (.func gf) lb,args:=#[.func (.yield (w.heap.size+1)) #[] #[]]},W1,gf,
  #[.func (.yield (w.heap.size+1)) #[] #[]]++lb,W1,?_,?_,?_,?_,fun _=>h1,?_⟩
 ·rw[← hW1,hrec];exact run_enterLoop_outer _ _ _ _ _
 ·simp only[resolve,hg];simp[go_sem]
 ·intro f' hf';simp[Target.leads]at hf';subst hf';exact hFg
 ·simp[invoke,go_sem,eg]
 ·refine(hiter (w.heap.size+1) (fun W=>W.heap[w.heap.size+1]?=some (.loop (rec .ready none))∧W.heap[w.heap.size]?=some (.deferred (some [])))
   (fun W W' hk hB=>⟨hk.same _ _ (by omega) hB.1 rfl,hk.same _ _ (Nat.le_refl _) hB.2 rfl⟩) ?_ W1 hI1 ⟨hL1,hK1⟩).mono ?_
  ·rintro s x W hy ⟨hl,hk⟩;have hlt:w.heap.size+1<W.heap.size:=(Array.getElem?_eq_some_iff.1 hl).1;have hyr:=run_yield (P:=P) (args:=encs x) hl (by rw[hrec];exact hps x)
   rw[hrec]at hyr;refine⟨fn,_,assign,body,hyr,roundIn_of_wpIn hfn (wpIn_mono (hassign (w.heap.size+1) s x W hy) ?_)⟩;rintro e a1 Wa hp
   cases e with
   | normal =>
    obtain⟨hka,hya⟩:=hp;have hla:=hka.same _ _ (by omega) hl rfl
    have hda:=hka.same _ _ (Nat.le_refl _) hk rfl;refine⟨_,run_beginRound hla (by rw[hrec]),?_⟩
    have hlt2:w.heap.size+1<Wa.heap.size:=(Array.getElem?_eq_some_iff.1 hla).1;have hl2:(Wa.putObj (w.heap.size+1) (.loop {rec .ready none with state:=.busy})).heap[w.heap.size+1]?=some (.loop {rec .ready none with state:=.busy}):=World.putObj_heap_same hlt2
    have hk2:(Wa.putObj (w.heap.size+1) (.loop {rec .ready none with state:=.busy})).heap[w.heap.size]?=some (.deferred (some [])):=(World.putObj_heap_other (by omega)).trans hda
    refine wpIn_mono (hbody _ s x a1 _ ((stYa s x a1).putObj _ hya (by omega) hla rfl)) ?_
    rintro e a3 W3 hp
    cases e with
    | normal =>
     obtain⟨hk3,hq3⟩:=hp;have hl3:=hk3.same _ _ (by omega) hl2 rfl
     have hd3:=hk3.same _ _ (Nat.le_refl _) hk2 rfl;have hre:=run_endRound (P:=P) none hl3;rw[hrec]at hre;refine⟨_,_,hre,rfl,(stYq s x).putObj _ hq3 (by omega) hl3 rfl,?_,(World.putObj_heap_other (by omega)).trans hd3⟩
     rw[World.putObj_heap_same (Array.getElem?_eq_some_iff.1 hl3).1,hrec];rfl
    | ret=>exact hp.elim
    | exit id=>exact hp.elim
    | goto t=>exact hp.elim
    | panic ch=>exact hp.elim
    | outgrown=>exact hp.elim
   | ret=>exact hp.elim
   | exit id=>exact hp.elim
   | goto t=>exact hp.elim
   | panic ch=>exact hp.elim
   | outgrown=>exact hp.elim
  ·rintro e W2 ⟨⟨hl,hk⟩,(⟨v,rfl,hS⟩|⟨ch,rfl,hP⟩)⟩
   ·exact⟨none,_,by have:=run_endLoop (P:=P) hl (by rw[hrec];simp);rw[hrec]at this;exact this,hdone _ _ (Nat.le_refl _) (stS.putObj _ hS (by omega) hl rfl) ((World.putObj_heap_other (by omega)).trans hk)⟩
   ·exact hpan _ ch _ (Nat.le_refl _) hP hk
end Go.Proofs.YtdoflhjhaciepaaGreat
namespace Go.Proofs.YtdoflhjhaciepaaGreat
open Go.RowKit
attribute [local go_sem] Oper.semAt_some
section
variable {o:Oper} {a:Act} {w:World} {x y:Operand} {U:TypeId}
theorem run_addK {m n k:Int} (hop:o.op=.binOp .add 3 x y U) (hx:a.eval x=.int .i64 m) (hy:a.eval y=.int .i64 n) (h:m+n=k) (h1 : -9223372036854775808≤k) (h2:k≤9223372036854775807):(execOp a.eval o).run Tryz.prog w=.ok (.value (.int .i64 k)) w:=by
 have e:IntKind.i64.wrap (m+n)=k:=by rw[h,IntKind.wrap_i64];omega
 simp only[execOp,hop,hx,hy];simp[go_sem,e]
theorem run_subK {m n k:Int} (hop:o.op=.binOp .sub 3 x y U) (hx:a.eval x=.int .i64 m) (hy:a.eval y=.int .i64 n) (h:m - n=k) (h1 : -9223372036854775808≤k) (h2:k≤9223372036854775807):(execOp a.eval o).run Tryz.prog w=.ok (.value (.int .i64 k)) w:=by
 have e:IntKind.i64.wrap (m - n)=k:=by rw[h,IntKind.wrap_i64];omega
 simp only[execOp,hop,hx,hy];simp[go_sem,e]
theorem run_eqI {m n:Int} {b:Bool} (hop:o.op=.binOp .eql 3 x y U) (hx:a.eval x=.int .i64 m) (hy:a.eval y=.int .i64 n) (h:(m == n)=b):(execOp a.eval o).run Tryz.prog w=.ok (.value (.bool b)) w:=by
 subst h;simp only[execOp,hop,hx,hy];simp[go_sem]
theorem run_cutS {T:TypeId} {p:Option Addr} {n c m sz:Nat} (hT:Tryz.prog.underlying T=some (.slice (Tryz.prog.elem T))) (hz:∀ w,(sizeOf (Tryz.prog.elem T)).run Tryz.prog w=.ok sz w) (hop:o.op=.slice T x none (some y) none) (hx:a.eval x=.slice p n c) (hy:a.eval y=.int .i64 (m:Int)) (hm:m≤c):(execOp a.eval o).run Tryz.prog w=.ok (.value (.slice p m c)) w:=by
 simp only[execOp,hop,hx,hy,Option.map_some,Option.map_none,Sem.run_bind];rw[run_sliceAt_slice (h:=hT),run_slice_h (ht:=hT) (h0:=by omega) (h2:=by omega),hz]
 simp[Result.andThen,sliced];intro _
 cases p<;>simp[Addr.add]
end
end Go.Proofs.YtdoflhjhaciepaaGreat
namespace Go.Proofs.YtdoflhjhaciepaaGreat
open Go.RowKit Go.Shelf
attribute [local go_sem] Oper.semAt_some
theorem ItInv.other {ps:List InstD} {L:Str} {i:Nat} {e0:Way} {m0:List Int} {ys0:List WV} {ms:Nat} {td ys us:List WV} {marks:List Int} {n:Nat} {e:WV} {x:InstD} (I:ItInv ps L i e0 m0 ys0 ms (td++[e]) ys us marks n) (h:marks.getD e.1 0≠(i:Int)+1) (hx:ps[e.1]?=some x) (h2:x.kind≠2) (h3:x.kind≠3) (h4:x.kind≠4) (h1:x.kind≠1) (h5:x.kind≠5) :
  ItInv ps L i e0 m0 ys0 ms td ys us (marks.set e.1 ((i:Int)+1)) (n - 1):=by
 have hat:=atI_get hx
 have:=I.next (td':=[]) h (fun _ h=>h) I.size (fun y hy=>by simp at hy) (by simp) (fun k=>by
  simp only[waitsP,if_neg h,hat,if_neg h2,if_neg h3,if_neg h4,if_neg (show ¬ (x.kind=1∨x.kind=5) by omega)]
  rfl)
 simpa using this
theorem run_way2S (x y:WV) (W:World):(Instr.buildSlice 50 2 #[(0,.agg (wayC x)),(1,.agg (wayC y))]).run Tryz.prog W=.ok (.slice (some ⟨W.heap.size,0,none⟩) 2 2) (W.alloc (.cells (wayC x++wayC y) 58)):=by kernel_rfl
theorem flatW_put2 (xs:List WV) (x y:WV):flatR (xs.map wayC)++(wayC x++wayC y).toList=flatR ((xs++[x,y]).map wayC):=by
 rw[List.map_append,flatR_append,Array.toList_append];simp[flatR]
def NotedS (n0:Nat) (k:Nat) (xs:List Int) (v:Value) (W:World):Prop:=∃ q c F n1,FreshS n1 (wayC (k,xs,q,c)) 58 v W∧n0≤n1∧IntsR F q c xs W∧∀ b,F b→b<n1∧n0≤b
def NotedV (n0:Nat) (xs:List Int) (v:Value) (W:World):Prop:=∃ q c F,v=.slice q xs.length c∧IntsR F q c xs W∧∀ b,F b→b<W.heap.size∧n0≤b
def NotedW (n0:Nat) (k:Nat) (xs:List Int) (v:Value) (W:World):Prop:=∃ q c F,v=.agg (wayC (k,xs,q,c))∧IntsR F q c xs W∧∀ b,F b→b<W.heap.size∧n0≤b
theorem stable_notedV (n0:Nat) (xs:List Int):Stable (NotedV n0 xs):=fun v w w' ⟨q,c,F,e,h,hF⟩ hb=>⟨q,c,F,e,h.kept (fun b hb'=>hb.block b (hF b hb').1),fun b hb'=>⟨Nat.lt_of_lt_of_le (hF b hb').1 hb.size,(hF b hb').2⟩⟩
theorem stable_notedW (n0 k:Nat) (xs:List Int):Stable (NotedW n0 k xs):=fun v w w' ⟨q,c,F,e,h,hF⟩ hb=>⟨q,c,F,e,h.kept (fun b hb'=>hb.block b (hF b hb').1),fun b hb'=>⟨Nat.lt_of_lt_of_le (hF b hb').1 hb.size,(hF b hb').2⟩⟩
theorem FreshS.lt {n0:Nat} {cs:Array Value} {T:TypeId} {v:Value} {W:World} (h:FreshS n0 cs T v W):n0<W.heap.size:=by
 obtain⟨b,_,h1,h2⟩:=h;have:=(Array.getElem?_eq_some_iff.1 h2).1;omega
theorem stable_notedS (n0 k:Nat) (xs:List Int):Stable (NotedS n0 k xs):=fun v w w' ⟨q,c,F,n1,hs,hn,h,hF⟩ hb=>⟨q,c,F,n1,stable_freshS _ _ _ v w w' hs hb,hn,h.kept (fun b hb'=>hb.block b (by have:=hs.lt;have:=(hF b hb').1;omega)),hF⟩
section
variable {ops:Array Oper} {o:Oper} {a:Act} {w:World} {D:Prop}
theorem rs_notedW {n0:Nat} {x y:Operand} {k:Int} {xs:List Int} (hg:Region.wanted o (yielded ops a.tmps)=true) (hop:o.op=.build 58 #[(0,x),(1,y)]) (hx:a.eval x=.int .i64 k) (hy:NotedV n0 xs (a.eval y) w) (hk:0≤k) (hD:¬ D) :
  RStep Tryz.prog ops o a w (fun v w'=>NotedW n0 k.toNat xs v w'∧(D→w.heap.size≤blk v)):=by
 obtain⟨q,c,F,e,h,hF⟩:=hy;exact rs_val hg (run_wayB (d:=(xs,q,c)) hop hx e hk) (Below.refl _ w) ⟨⟨q,c,F,rfl,h,hF⟩,fun h=>(hD h).elim⟩
theorem rs_notedS {n0 k:Nat} {x:Operand} {xs:List Int} (hg:Region.wanted o (yielded ops a.tmps)=true) (hop:o.op=Op.buildSlice 50 1 #[(0,x)]) (hx:NotedW n0 k xs (a.eval x) w) (hn:n0≤w.heap.size) (hD:¬ D) :
  RStep Tryz.prog ops o a w (fun v w'=>NotedS n0 k xs v w'∧(D→w.heap.size≤blk v)):=by
 obtain⟨q,c,F,e,h,hF⟩:=hx;have hb:Below w.heap.size w (w.alloc (.cells (wayC (k,xs,q,c)) 58)):=(Below.refl _ w).alloc (Nat.le_refl _) _;refine rs_val hg (v:=.slice (some ⟨w.heap.size,0,none⟩) 1 1) (w':=w.alloc (.cells (wayC (k,xs,q,c)) 58)) ?_ hb ⟨⟨q,c,F,w.heap.size,⟨w.heap.size,rfl,Nat.le_refl _,World.alloc_heap_new w _⟩,hn,h.kept (fun b hb'=>hb.block b (hF b hb').1),hF⟩,fun h=>(hD h).elim⟩
 simp only[execOp,hop,List.map_toArray,List.map_cons,List.map_nil,e,Sem.run_bind,run_way1];rfl
end
section
variable {M:Nat→Prop} {w0 w w':World} {l:List Res}
theorem HoldG.knGrowX (H:HoldG M w0 w l) {i:Nat} {us:List WV} (hi:At l i (.kn (FW us) (WK us))) {F:Nat→Prop} {k:Nat} {xs:List Int} {q:Option Addr} {c:Nat} (h:IntsR F q c xs w) (hlt:∀ b,F b→b<w.heap.size) (hap:∀ (j:Nat) (r:Res),l[j]?=some r→∀ b,r.place=some b→¬ F b) (hn:0<xs.length) :
  HoldG M w0 w (l.set i (.kn (FW (us++[(k,xs,q,c)])) (WK (us++[(k,xs,q,c)])))):=by
 have hil:i<l.length:=(List.getElem?_eq_some_iff.1 hi.get).1;have H2:=H.know F (IntsR F q c xs) hlt hap (fun V hV=>h.kept hV)
 have hi2:At (l++[Res.kn F (IntsR F q c xs)]) i (.kn (FW us) (WK us)):=At.of_get (by rw[List.getElem?_append_left hil];exact hi.get)
 have hj2:At (l++[Res.kn F (IntsR F q c xs)]) l.length (.kn F (IntsR F q c xs)):=At.of_get (by rw[List.getElem?_append_right (Nat.le_refl _)];simp)
 have H3:=H2.knBoth hi2 hj2;have hi3:At ((l++[Res.kn F (IntsR F q c xs)]).set i (Res.kn (fun b=>FW us b∨F b) (fun V=>WK us V∧IntsR F q c xs V))) i (Res.kn (fun b=>FW us b∨F b) (fun V=>WK us V∧IntsR F q c xs V)):=At.of_get (by rw[List.getElem?_set,if_pos rfl,if_pos (by simp;omega)])
 obtain⟨b0,off,e0,hF0,hnar⟩:=h.narrow hn
 have H4:=H3.knTo (G:=FW (us++[(k,xs,q,c)])) (T:=WK (us++[(k,xs,q,c)])) hi3 (fun b hb=>by
   obtain⟨x,hx,o,e⟩:=hb;rcases List.mem_append.1 hx with hx|hx
   ·exact .inl ⟨x,hx,o,e⟩
   ·rw[List.mem_singleton]at hx;subst hx;have e':q=some ⟨b,o,none⟩:=e;rw[e0]at e';simp only[Option.some.injEq,Addr.mk.injEq]at e'
    rw[← e'.1];exact .inr hF0)
  (fun hS x hx=>by
   rcases List.mem_append.1 hx with hx|hx
   ·exact⟨(hS.1 x hx).1.mono (fun b ⟨y,hy,o,e⟩=>⟨y,List.mem_append_left _ hy,o,e⟩),(hS.1 x hx).2⟩
   ·rw[List.mem_singleton]at hx;subst hx
    exact⟨hnar.mono (fun b hb=>⟨_,List.mem_append_right _ (List.mem_singleton.2 rfl),off,by rw[hb];exact e0⟩),hn⟩)
  (fun V h hV=>h.kept hV)
 have H5:=H4.take l.length;rw[List.set_set,List.take_set,List.take_left]at H5;exact H5
theorem HoldG.gainNoted (H:HoldG M w0 w l) (hb:Below w.heap.size w w') {i:Nat} {us:List WV} (hi:At l i (.kn (FW us) (WK us))) {k:Nat} {xs:List Int} {v:Value} (h:NotedS w.heap.size k xs v w') (hn:0<xs.length) :
  ∃ b q c,v=.slice (some ⟨b,0,none⟩) 1 1∧(∀ b',FW (us++[(k,xs,q,c)]) b'→FW us b'∨w.heap.size≤b')∧HoldG M w0 w' (l.set i (.kn (FW (us++[(k,xs,q,c)])) (WK (us++[(k,xs,q,c)])))++[.blk b (wayC (k,xs,q,c)) 58]):=by
 obtain⟨q,c,F,n1,⟨b,e,h1,h2⟩,hn1,hI,hF⟩:=h;obtain⟨b',e',H1⟩:=H.gainS2 hb (v:=v) ⟨b,e,Nat.le_trans hn1 h1,h2⟩;subst e;simp only[Value.slice.injEq,Option.some.injEq,Addr.mk.injEq]at e';obtain⟨⟨rfl,_,_⟩,_,_⟩:=e';have hbs:=(Array.getElem?_eq_some_iff.1 h2).1;have hil:i<l.length:=(List.getElem?_eq_some_iff.1 hi.get).1;refine⟨b,q,c,rfl,?_,?_⟩
 ·obtain⟨b0,off,e0,hF0,_⟩:=hI.narrow hn;rintro b' ⟨x,hx,o,e⟩;rcases List.mem_append.1 hx with hx|hx
  ·exact .inl ⟨x,hx,o,e⟩
  ·rw[List.mem_singleton]at hx;subst hx;have e2:q=some ⟨b',o,none⟩:=e;rw[e0]at e2;simp only[Option.some.injEq,Addr.mk.injEq]at e2;rw[← e2.1];exact .inr (hF _ hF0).2
 have H2:=H1.knGrowX (k:=k) (At.of_get (i:=i) (by rw[List.getElem?_append_left hil];exact hi.get)) hI (fun b' h'=>by have:=(hF b' h').1;omega) (fun j r hj b' hp hF'=>by
  rw[List.getElem?_append]at hj;split at hj
  ·have a1:=((H.all j r hj).lt b' hp).2;have a2:=(hF b' hF').2;omega
  ·rcases List.getElem?_eq_some_iff.1 hj with ⟨h3,h4⟩
   simp at h3;simp[h3]at h4;subst h4
   cases hp
   have:=(hF b hF').1
   omega) hn
 rw[List.set_append_left _ _ hil]at H2;exact H2
end
section
variable {k:Nat} {P:Program} {ops:Array Oper} {o:Oper} {rest:List Oper} {a:Act} {w:World} {Q:Exit→Act→World→Prop}
theorem lin_pure {v:Value} (hg:Region.wanted o (yielded ops a.tmps)=true) (hr:(execOp a.eval o).run P w=.ok (.value v) w) (h:wpListIn Fence.wide k P ops Q rest (a.put o.dst v) w):wpListIn Fence.wide k P ops Q (o::rest) a w:=by
 unfold wpListIn;rw[if_pos hg];refine⟨fun _ _=>trivial,?_⟩
 rw[show o.semAt Fence.wide.round a.eval=execOp a.eval o from rfl,hr]
 exact h
theorem lin_yield {l:Nat} {x y:Operand} {ts:Array TypeId} {v:Value} {T:World→Prop} (hg:Region.wanted o (yielded ops a.tmps)=true) (hop:o.op=Op.call {callee:=Callee.value x,args:=#[y],argTypes:=ts})
  (hx:a.eval x=.func (.yield l) #[] #[]) (hy:a.eval y=v) (hY:YieldAt Fence.wide (k - 1) P l #[v] w fun e W'=>e=.returned (.bool true)∧T W') (h:∀ w',T w'→wpListIn Fence.wide k P ops Q rest (a.put o.dst (.bool true)) w'):wpListIn Fence.wide k P ops Q (o::rest) a w:=by
 obtain⟨fn,tmps,assign,body,hyr,hR⟩:=hY;unfold wpListIn;rw[if_pos hg];refine⟨fun _ _=>trivial,?_⟩
 rw[show o.semAt Fence.wide.round a.eval=execOp a.eval o from rfl]
 have hr:(execOp a.eval o).run P w=.ok (.round l fn tmps assign body) w:=by
  simp only[execOp,hop];simp only[resolve,hx,List.map_toArray,List.map_cons,List.map_nil,hy,Sem.run_bind,Sem.run_pure,Result.andThen_ok,invoke];exact hyr
 rw[hr];simp only[Oper.uponIn];refine⟨fun h=>by simp[Fence.wide]at h,hR.mono ?_⟩
 rintro e w' ⟨rfl,hT⟩;exact h w' hT
theorem lin_pure_move {x:Operand} {v:Value} (hop:o.op=.move x) (hx:a.eval x=v):(execOp a.eval o).run P w=.ok (.value v) w:=by
 simp only[execOp,hop,hx];rfl
theorem lin_not {x:Operand} {T:TypeId} {b:Bool} (hop:o.op=.unOp .not T x) (hx:a.eval x=.bool b):(execOp a.eval o).run P w=.ok (.value (.bool (!b))) w:=by
 simp only[execOp,hop,hx];simp[go_sem]
end
theorem one_mach:oneB Tryz.prog 49=true:=by kernel_rfl
def memL (mb:Nat) (lv:Value) (gm mc:Nat) (pp:Option Addr) (cp:Nat) (ps:List InstD) (psl:Option Addr) (csl:Nat) (L:Str) (Fp Fs:Nat→Prop) (nq:Option Addr) (nc:Nat) (ys us:List WV) (marks:List Int):List Res :=
 [.blk mb #[lv,.slice (some ⟨gm,0,none⟩) ps.length mc,.slice pp ps.length cp,.slice psl L.length csl,.slice nq ys.length nc] 54,.row (.slice (some ⟨gm,0,none⟩) ps.length mc) 3 1 ps.length (marks.map (.int .i64)),.row (.slice nq ys.length nc) 58 2 ys.length (flatR (ys.map wayC)),
  .kn Fp (InstsR Fp pp cp ps),.kn Fs (BytesR Fs psl csl L),.kn (FW us) (WK us)]
def itL (mb bA bS bM bI:Nat) (e:WV) (i:Nat) (rF:Nat→Prop) (rS:World→Prop):List Res :=
 [.blk bM #[.pointer (some ⟨mb,0,none⟩)] 49,.blk bA #[.int .i64 e.1] 3,.blk bI #[.int .i64 i] 3,.blk bS #[.slice e.2.2.1 e.2.1.length e.2.2.2] 27,.kn rF rS]
def ItEnd (mb:Nat) (lv:Value) (gm mc:Nat) (pp:Option Addr) (cp:Nat) (ps:List InstD) (psl:Option Addr) (csl:Nat) (L:Str) (Fp Fs:Nat→Prop) (bA bS bM bI:Nat) (e:WV) (i:Nat) (rF:Nat→Prop) (rS:World→Prop) (ms:Nat) (w0:World) (ys0 us0:List WV) (m0:List Int) (W:World):Prop :=
 ∃ nq nc ys us marks n,ItInv ps L i (plW e) m0 ys0 ms [] ys us marks n∧(∀ b,FW us b→FW us0 b∨bM<b)∧Hold w0 W (memL mb lv gm mc pp cp ps psl csl L Fp Fs nq nc ys us marks++itL mb bA bS bM bI e i rF rS)
theorem nat_sub1 (n:Nat):((n+1:Nat):Int) - 1=(n:Int):=by omega
theorem nat_lo (n:Nat):(-9223372036854775808:Int)≤(n:Int):=by omega
theorem nat_hi {n:Nat} (h:n≤1000000):(n:Int)≤9223372036854775807:=by omega
theorem nat_lo1 (n:Nat):(-9223372036854775808:Int)≤(n:Int)+1:=by omega
theorem nat_hi1 {n:Nat} (h:n≤1000):(n:Int)+1≤9223372036854775807:=by omega
theorem flatW_take (xs:List WV) (y:WV):(flatR ((xs++[y]).map wayC)).take (xs.length * 2)=flatR (xs.map wayC):=by
 rw[← flatW_put,List.take_left'];rw[flatR_len (sz:=2) (waysX_size _),List.length_map]
theorem way_room {n m:Nat} (h:n≤1000000) (hm:m≤2):n+m≤maxLen:=by unfold maxLen;omega
theorem way_roomB {n m:Nat} (h:n≤1000000) (hm:m≤2):(n+m) * 32≤140737488355328:=by omega
theorem ints_of {us:List WV} {V:World} (h:WK us V) {e1:WV} (he:∃ u ∈ us,e1.2=u.2):IntsR (FW us) e1.2.2.1 e1.2.2.2 e1.2.1 V:=by
 obtain⟨u,hu,e⟩:=he;rw[e];exact h.ints hu
theorem slot_size {ps:List InstD} {L:Str} {i:Nat} {e0:Way} {m0:List Int} {ys0:List WV} {ms:Nat} {td ys us:List WV} {marks:List Int} {n:Nat} {e:WV} {x:InstD} (I:ItInv ps L i e0 m0 ys0 ms (td++[e]) ys us marks n) (hx:ps[e.1]?=some x) (hms:slotsP ps=ms) (h2:ms≤42):e.2.1.length≤1000000∧x.slot.toNat<e.2.1.length:=by
 obtain⟨u,hu,he⟩:=I.known.2;have h1:=I.size u hu;have h3:=slot_lt hx;rw[he];omega
theorem ext_stay {B:Nat} {b1 b2 b3 b4 b7 b8:Nat} {c1 c2 c3 c4 c7 c8:Array Value} {t1 t2 t3 t4 t7 t8 t5:TypeId} {v:Value} {z n:Nat} {xs:List Value} :
  ∀ r ∈ [Res.blk b1 c1 t1,.blk b2 c2 t2,.blk b3 c3 t3,.blk b4 c4 t4,.row v t5 z n xs,.blk b7 c7 t7,.blk b8 c8 t8],StayOk B r:=by
 intro r hr;simp only[List.mem_cons,List.not_mem_nil,or_false]at hr;rcases hr with rfl|rfl|rfl|rfl|rfl|rfl|rfl<;>trivial
theorem noted_post {n0:Nat} {w w':World} {xs:List Int} {e:Ending} {D:Prop} (hn:n0≤w.heap.size) (hD:¬ D) (h:KnowI w xs e w'∧Below w.heap.size w w'):∃ v,e=.returned v∧Below w.heap.size w w'∧(NotedV n0 xs v w'∧(D→w.heap.size≤blk v)):=by
 obtain⟨⟨q,c,F,e1,h1,h2⟩,hb⟩:=h;exact⟨_,e1,hb,⟨q,c,F,rfl,h1,fun b hb'=>⟨(h2 b hb').1,Nat.le_trans hn (h2 b hb').2⟩⟩,fun h=>(hD h).elim⟩
theorem least_ex {P:Nat→Prop} (h:∃ n,P n):∃ n,P n∧∀ m,P m→n≤m:=by
 obtain⟨n,hn⟩:=h
 induction n using Nat.strongRecOn with
 | _ n ih =>
  by_cases hc:∃ m,m<n∧P m
  ·obtain⟨m,hm,hp⟩:=hc;exact ih m hm hp
  ·exact⟨n,hn,fun m hm=>Classical.byContradiction fun hlt=>hc ⟨m,by omega,hm⟩⟩
open Classical in
noncomputable def leastN (P:Nat→Prop):Nat:=if h:∃ n,P n then (least_ex h).choose else 0
theorem leastN_spec {P:Nat→Prop} (h:∃ n,P n):P (leastN P):=by unfold leastN;rw[dif_pos h];exact(least_ex h).choose_spec.1
theorem leastN_le {P:Nat→Prop} {n:Nat} (h:P n):leastN P≤n:=by unfold leastN;rw[dif_pos ⟨n,h⟩];exact(least_ex ⟨n,h⟩).choose_spec.2 n h
def ItR (mb:Nat) (lv:Value) (gm mc:Nat) (pp:Option Addr) (cp:Nat) (ps:List InstD) (psl:Option Addr) (csl:Nat) (L:Str) (Fp Fs:Nat→Prop) (bA bS bM bI:Nat) (e:WV) (i:Nat) (rF:Nat→Prop) (rS:World→Prop) (ms:Nat) (w0:World) (ys0 us0:List WV) (m0:List Int) (B:World→Prop) (n:Nat) (ix:Value) (wr:World):Prop :=
 ∃ (td ys us:List WV) (marks:List Int) (nq tq:Option Addr) (nc tc:Nat) (nF:Nat→Prop) (nS:World→Prop),ix=.slice tq td.length tc∧Hid (ItInv ps L i (plW e) m0 ys0 ms td ys us marks n)∧Hid (∀ b,FW us b→FW us0 b∨bM<b)∧Hid (∀ V,nS V→B V) ∧
   Hold w0 wr (memL mb lv gm mc pp cp ps psl csl L Fp Fs nq nc ys us marks++itL mb bA bS bM bI e i rF rS++[.row (.slice tq td.length tc) 58 2 td.length (flatR (td.map wayC)),.kn nF nS])
theorem HoldG.ncB {M:Nat→Prop} {w0 W:World} {l:List Res} (H:HoldG M w0 W l) (hl:∀ r ∈ l,∀ b es c,r≠.mp b es c) {B:World→Prop} {base:Nat} (hB:Hid (∀ W W',KeepsNC base W W'→B W→B W')) (hBW:B W):∃ nF nS,Hid (∀ V,nS V→B V)∧HoldG M w0 W (l++[.kn nF nS]) :=
 ⟨_,_,Lib.hid (fun V hV=>hB.out _ _ (ncS.keeps hV) hBW),H.knowNC hl base⟩
theorem vm_waits1 (mb:Nat) (lv:Value) (gm mc:Nat) (pp:Option Addr) (cp:Nat) (ps:List InstD) (psl:Option Addr) (csl:Nat) (L:Str) (Fp Fs:Nat→Prop) (bA bS bM bI:Nat) (e:WV) (i:Nat) (rF:Nat→Prop) (rS:World→Prop) (ms:Nat) (w0:World) (ys0 us0:List WV) (m0:List Int) (k:Nat)
  (hR:rightP ps=true) (hset:∀ x ∈ ps,SetOk x.set) (hL:L.length≤1000) (hn4:ps.length≤4000) (hi:i≤L.length) (hms:slotsP ps=ms) (hms2:ms≤42) (l:Nat) (B:World→Prop) (base:Nat) (hB:∀ W W',KeepsNC base W W'→B W→B W')
  (hw0:w0.heap.size≤base)
  (hY:∀ nq nc ys us marks (x:WV) (ext:List Res) W1,(∃ u ∈ us,x.2=u.2)→(∀ r ∈ ext,StayOk base r)→ys.length<ps.length→Hold w0 W1 (memL mb lv gm mc pp cp ps psl csl L Fp Fs nq nc ys us marks++.kn rF rS::ext)→B W1→YieldAt Fence.wide k Tryz.prog l #[.agg (wayC x)] W1 fun e W'=>e=.returned (.bool true)∧(∃ nq' nc',Hold w0 W' (memL mb lv gm mc pp cp ps psl csl L Fp Fs nq' nc' (ys++[x]) us marks++.kn rF rS::ext))∧B W')
  (W:World) (nq:Option Addr) (nc:Nat) (I0:ItInv ps L i (plW e) m0 ys0 ms [e] ys0 us0 m0 (fuelP ps)) (H:Hold w0 W (memL mb lv gm mc pp cp ps psl csl L Fp Fs nq nc ys0 us0 m0++itL mb bA bS bM bI e i rF rS)) (hB0:B W) :
  CallsIn Fence.wide (k+1) Tryz.prog 75 #[.func (.yield l) #[] #[],.pointer (some ⟨bA,0,none⟩),.pointer (some ⟨bS,0,none⟩),.pointer (some ⟨bM,0,none⟩),.pointer (some ⟨bI,0,none⟩)] W fun r W'=>B W'∧(∃ v,r=.returned v) ∧
   ItEnd mb lv gm mc pp cp ps psl csl L Fp Fs bA bS bM bI e i rF rS ms w0 ys0 us0 m0 W':=by
 have HY:=Lib.hid hY;clear hY;have HB:=Lib.hid hB;clear hB;have HI:=Lib.hid I0;clear I0;obtain⟨iw,hiw,hi0,hi1,hi2⟩:=info_parts info_way;refine callsIn_of_wp Tryz.func75 rfl trivial ?_ rfl;simp only[Tryz.ntmps75,List.size_toArray,List.length_cons,List.length_nil,Nat.reduceAdd,Nat.reduceSub,Array.replicate_succ,Array.replicate_zero,List.push_toArray,List.append_toArray,List.nil_append,List.cons_append]
 rw[wpIn_wide];obtain⟨nF,nS,HN,H2⟩:=H.ncB (by intro r hr b es c e;subst e;simp[memL,itL]at hr) HB hB0
 clear H hB0;have H:=H2;clear H2;simp only[memL,itL,List.cons_append,List.nil_append]at H
 go_step3
 go_wp2_with (first|((with_reducible show @wpList _ _ _ ({dst:=_,op:=Op.build _ _,type:=_,pos:=_,after:=_,guard:=_}::_) _ _);refine bWay ?_)|((with_reducible show @wpList _ _ _ ({dst:=_,op:=Op.buildSlice _ _ _,type:=_,pos:=_,after:=_,guard:=_}::_) _ _);refine own_build wtd_ _ _ _ rfl H (wayC e) 58 (by intro W;simp only[List.map_toArray,List.map_cons,List.map_nil];(try simp only[pe]);exact run_way1 e W) ?_;clear H;intro bt w H;try simp only[List.cons_append,List.nil_append]at H)|((with_reducible refine gL ?_);refine aG H ?_))
 go_step3
 have H2:=H.blkRowN (n:=1) (sz:=2) (i:=12) i_12 (fun h=>h) rfl (by unfold maxLen;omega)
 clear H;have H:=H2.pick [0,1,2,3,4,5,6,7,8,9,10,12,11] (memL mb lv gm mc pp cp ps psl csl L Fp Fs nq nc ys0 us0 m0++itL mb bA bS bM bI e i rF rS++[.row (.slice (some ⟨bt,0,none⟩) [e].length 1) 58 2 [e].length (flatR ([e].map wayC)),.kn nF nS]) (by decide) (by simp only[memL,itL,List.cons_append,List.nil_append];rfl)
 clear H2
 go_wp2_with fail
 obtain⟨R,hR0⟩:∃ R,ItR mb lv gm mc pp cp ps psl csl L Fp Fs bA bS bM bI e i rF rS ms w0 ys0 us0 m0 B=R:=⟨_,rfl⟩;have HR:=Lib.hid hR0;clear hR0
 go_loopw [6] (fun ix wr=>∃ n,Hid (R n ix wr)) (fun ix wr=>leastN (fun n=>Hid (R n ix wr)))
 case atStart =>
  refine⟨fuelP ps,Lib.hid ?_⟩
  rw[← HR.out];exact⟨[e],ys0,us0,m0,nq,some ⟨bt,0,none⟩,nc,1,nF,nS,rfl,HI,Lib.hid (fun b h=>.inl h),HN,H⟩
 case round =>
  clear H HN HI nF nS;obtain⟨n,hn⟩:∃ n,leastN (fun n=>Hid (R n u6 wr))=n:=⟨_,rfl⟩
  have hrn:=leastN_spec hrel;rw[hn]at hrn;have HNN:=Lib.hid hn;clear hrel hn;have hrn:=hrn.out;rw[← HR.out]at hrn;obtain⟨td,ys,us,marks,nq,tq,nc,tc,nF,nS,rfl,HI,HO,HN,H⟩:=hrn;have fin:∀ (td':List WV) (w':World) (nq' tq':Option Addr) (nc' tc':Nat) (ys' us':List WV) (marks':List Int) (nF':Nat→Prop) (nS':World→Prop) (m:Nat),td'.length=m→ItInv ps L i (plW e) m0 ys0 ms td' ys' us' marks' (n - 1)→n≠0→Hid (∀ b,FW us' b→FW us0 b∨bM<b)→Hid (∀ V,nS' V→B V)→Hold w0 w' (memL mb lv gm mc pp cp ps psl csl L Fp Fs nq' nc' ys' us' marks'++itL mb bA bS bM bI e i rF rS++[.row (.slice tq' m tc') 58 2 m (flatR (td'.map wayC)),.kn nF' nS']) →
    (∃ n,Hid (R n (.slice tq' m tc') w'))∧leastN (fun n=>Hid (R n (.slice tq' m tc') w'))<leastN (fun n=>Hid (R n (.slice tq td.length tc) wr)):=by
   intro td' w' nq' tq' nc' tc' ys' us' marks' nF' nS' m hm hI hn0 hO hN hH;subst hm;have hr:R (n - 1) (.slice tq' td'.length tc') w':=by rw[← HR.out];exact⟨td',ys',us',marks',nq',tq',nc',tc',nF',nS',rfl,Lib.hid hI,hO,hN,hH⟩
   refine⟨⟨_,Lib.hid hr⟩,?_⟩
   have:=leastN_le (P:=fun n=>Hid (R n (.slice tq' td'.length tc') w')) (Lib.hid hr)
   have h2:=HNN.out;omega
  have FIN:=Lib.hid fin;clear fin HNN;simp only[memL,itL,List.cons_append,List.nil_append]at H
  by_cases h0:0<td.length
  ·obtain⟨td',e1,rfl⟩:∃ td' e1,td=td'++[e1]:=⟨td.dropLast,td.getLast (by intro h;subst h;simp at h0),(List.dropLast_concat_getLast _).symm⟩
   obtain⟨tn,htn⟩:∃ tn,td'.length=tn:=⟨_,rfl⟩;have hl:(td'++[e1]).length=tn+1:=by rw[List.length_append,htn];rfl
   have htop:tn≤1000000:=by have h1:=HI.out.fuel;have h2:=HI.out.top;unfold fuelP at h2;rw[hl]at h1;omega
   have hsub:((tn+1:Nat):Int) - 1=(tn:Int):=nat_sub1 tn;have hsb1:=nat_lo tn;have hsb2:=nat_hi htop;have HN0:=Lib.hid (show n≠0 by have:=HI.out.fuel;omega)
   have HK:=Lib.hid HI.out.known;have HIL:=Lib.hid (show i≤1000 by omega)
   have HC:=Lib.hid (show (flatR ((td'++[e1]).map wayC)).take (tn * 2)=flatR (td'.map wayC) by rw[← htn];exact flatW_take td' e1)
   have HL:=Lib.hid (show ((td'++[e1]).map wayC).length=tn+1 by rw[List.length_map];exact hl)
   have HX:=Lib.hid (show ((td'++[e1]).map wayC)[tn]?=some (wayC e1) by rw[List.map_append,List.getElem?_append_right (by simp;omega)];simp[htn])
   rw[hl]at H FIN ⊢;have d1:decide ((0:Int)<((tn+1:Nat):Int))=true:=decide_eq_true (Int.natCast_pos.2 (Nat.succ_pos tn));have d2:decide ((0:Int)<(tn:Int)+1)=true:=decide_eq_true (Int.lt_add_one_of_le (Int.natCast_nonneg tn));obtain⟨q2,c2,e2,hc1,hc2,hq2⟩:=H.rowShape (i:=11) i_11;simp only[Value.slice.injEq]at e2;obtain⟨rfl,_,rfl⟩:=e2;obtain⟨gt,rfl⟩:=hq2 (Nat.succ_pos tn);have HTN:=Lib.hid htn;clear hl h0
   go_upto_region 2 with (first|fail)
   refine wp_region_seq 7 [fun v _=>v=.slice (some ⟨gt,0,none⟩) (tn+1) tc,fun v _=>v=.slice (some ⟨gt,0,none⟩) (tn+1) tc,fun v _=>v=.int .i64 ((tn+1:Nat):Int),fun v _=>v=.int .i64 (tn:Nat),fun v _=>v=.pointer (some ⟨gt,tn * 2,none⟩),fun v _=>v=.agg (wayC e1),FreshB wr.heap.size #[.int .i64 0,.slice none 0 0] 58] (fun _=>false) (by kernel_rfl) (by kernel_rfl) (by repeat (first|exact trivial|refine⟨stable_eq _,?_⟩|refine⟨stable_fresh _ _ _,?_⟩)) (fun _ _ h=>by cases h) ?ob ?en
   case ob =>
    refine⟨?_,?_,?_,?_,?_,?_,?_,trivial⟩<;>intro A W h
    ·exact rs_move rfl rfl (h.frame 6 rfl)
    ·exact rs_move rfl rfl (h.frame 6 rfl)
    ·exact rs_len Tryz.underlying50 rfl rfl (h.dep 1 17 rfl rfl)
    ·exact rs_pure rfl (run_subK rfl (h.dep 2 18 rfl rfl) rfl hsub hsb1 hsb2) (by decide)
    ·exact rs_idx (sz:=2) Tryz.underlying50 (fun w=>by kernel_rfl) rfl rfl (h.dep 0 16 rfl rfl) (h.dep 3 19 rfl rfl) (Nat.lt_succ_self _) (Nat.zero_add _) (by decide)
    ·exact rs_pure rfl (run_loadK rfl (h.dep 4 20 rfl rfl) row_Way (wayC_size e1) ((H.call h.below).rowCell (i:=11) i_11 (waysX_size _) HL.out HX.out rfl)) (by decide)
    ·exact rs_fresh rfl rfl (by kernel_rfl) zWay h.below.size (by decide)
   case en =>
    intro vals W hbw hv _;have x6:=hv 6 (by omega);simp only[lookS]at x6
    simp only[fa,Nat.reduceAdd];rw[e_ hv 0,e_ hv 1,e_ hv 2,e_ hv 3,e_ hv 4,e_ hv 5];clear hv
    try simp only[pl]
    try simp only[pl]
    obtain⟨b7,e7,H8⟩:=H.gainB hbw x6;rw[e7];clear x6 e7 H hbw;have H:=H8;clear H8;simp only[List.cons_append,List.nil_append]at H
    go_upto_region 3 with (first|((with_reducible refine gTw ?_);refine aTw H ?_;clear H;intro w H;simp only[List.set_cons_succ,List.set_cons_zero]at H))
    refine wp_region_seq 5 [fun v _=>v=.slice (some ⟨gt,0,none⟩) (tn+1) tc,fun v _=>v=.slice (some ⟨gt,0,none⟩) (tn+1) tc,fun v _=>v=.int .i64 ((tn+1:Nat):Int),fun v _=>v=.int .i64 (tn:Nat),fun v _=>v=.slice (some ⟨gt,0,none⟩) tn tc] (fun _=>false) (by kernel_rfl) (by kernel_rfl) (by repeat (first|exact trivial|refine⟨stable_eq _,?_⟩)) (fun _ _ h=>by cases h) ?ob ?en
    case ob =>
     refine⟨?_,?_,?_,?_,?_,trivial⟩<;>intro A W h
     ·exact rs_move rfl rfl (h.frame 6 rfl)
     ·exact rs_move rfl rfl (h.frame 6 rfl)
     ·exact rs_len Tryz.underlying50 rfl rfl (h.dep 1 23 rfl rfl)
     ·exact rs_pure rfl (run_subK rfl (h.dep 2 24 rfl rfl) rfl hsub hsb1 hsb2) (by decide)
     ·exact rs_pure rfl (run_cutS (T:=50) (sz:=2) (by kernel_rfl) (fun w=>by kernel_rfl) rfl (h.dep 0 22 rfl rfl) (h.dep 3 25 rfl rfl) (Nat.le_of_succ_le hc1)) (by decide)
    case en =>
     intro vals W hbw hv _;simp only[fa,Nat.reduceAdd];rw[e_ hv 0,e_ hv 1,e_ hv 2,e_ hv 3,e_ hv 4];clear hv
     try simp only[pl]
     replace H:=H.call hbw;clear hbw;have H2:=H.cutRow (i:=11) (m:=tn) i_11 (Nat.le_succ tn);rw[HC.out]at H2;clear H;have H:=H2;clear H2;simp only[List.set_cons_succ,List.set_cons_zero]at H
     go_upto_region 4 with fail
     obtain⟨mv,hmv⟩:∃ mv,marks[e1.1]?=some mv:=⟨_,List.getElem?_eq_getElem (by rw[HI.out.len];exact HK.out.1)⟩
     have HMV:=Lib.hid (show (marks.map (Value.int .i64))[e1.1]?=some (.int .i64 mv) by rw[List.getElem?_map,hmv];rfl)
     have HMD:=Lib.hid (show marks.getD e1.1 0=mv by rw[List.getD_eq_getElem?_getD,hmv];rfl)
     clear hmv;obtain⟨bv,hbv⟩:∃ bv,(mv == (i:Int)+1)=bv:=⟨_,rfl⟩;refine wp_region_spec 12 [fun v _=>v=.pointer (some ⟨mb,0,none⟩),fun v _=>v=.pointer (some ⟨mb,0,none⟩),fun v _=>v=.pointer (some ⟨mb,0,none⟩),fun v _=>v=.pointer (some ⟨mb,1,none⟩),fun v _=>v=.slice (some ⟨gm,0,none⟩) ps.length mc,fun v _=>v=.pointer (some ⟨b7,0,none⟩),fun v _=>v=.int .i64 (e1.1:Nat),fun v _=>v=.pointer (some ⟨gm,e1.1,none⟩),fun v _=>v=.int .i64 mv,fun v _=>v=.int .i64 (i:Nat),fun v _=>v=.int .i64 ((i:Int)+1),fun v _=>v=.bool bv] (fun _=>false) (by kernel_rfl) (by kernel_rfl) (by kernel_rfl) (by repeat (first|exact trivial|refine⟨stable_eq _,?_⟩)) (fun _ _ h=>by cases h) ?ob ?en
     case ob =>
      refine⟨?_,?_,?_,?_,?_,?_,?_,?_,?_,?_,?_,?_,trivial⟩<;>intro A W h
      ·exact rs_pure rfl (run_load1K rfl (h.frame 3 rfl) one_mach ((H.call h.below).cell (i:=6) i_6 0)) (by decide)
      ·(have e27:A.eval (.tmp 27)=.pointer (some ⟨mb,0,none⟩):=h.dep 0 27 rfl rfl;refine rs_pure rfl ?_;simp only[execOp,e27];simp[go_sem])
      ·(have e28:A.eval (.tmp 28)=.pointer (some ⟨mb,0,none⟩):=h.dep 1 28 rfl rfl;refine rs_pure rfl ?_;simp only[execOp,e28];simp[go_sem])
      ·(have e29:A.eval (.tmp 29)=.pointer (some ⟨mb,0,none⟩):=h.dep 2 29 rfl rfl;refine rs_pure rfl ?_;simp only[execOp,e29];simp[go_sem])
      ·exact rs_pure rfl (run_load1K rfl (h.dep 3 30 rfl rfl) one_ints ((H.call h.below).cell (i:=0) .zero 1)) (by decide)
      ·(have e7:A.eval (.tmp 7)=.pointer (some ⟨b7,0,none⟩):=h.frame 7 rfl;refine rs_pure rfl ?_;simp only[execOp,e7];simp[go_sem])
      ·exact rs_pure rfl (run_load1K rfl (h.dep 5 32 rfl rfl) one_int (((H.call h.below).cell (i:=13) i_13 0).trans (yg0 e1))) (by decide)
      ·exact rs_idx (sz:=1) Tryz.underlying27 (fun w=>by kernel_rfl) rfl rfl (h.dep 4 31 rfl rfl) (h.dep 6 33 rfl rfl) HK.out.1 (by rw[Nat.zero_add,Nat.mul_one]) (by decide)
      ·exact rs_pure rfl (run_load1K rfl (h.dep 7 34 rfl rfl) one_int ((H.call h.below).row1 (i:=1) i_1 HMV.out)) (by decide)
      ·exact rs_pure rfl (run_load1K rfl (h.frame 4 rfl) one_int ((H.call h.below).cell (i:=8) i_8 0)) (by decide)
      ·exact rs_pure rfl (run_addK rfl (h.dep 9 36 rfl rfl) rfl rfl (nat_lo1 i) (nat_hi1 HIL.out)) (by decide)
      ·exact rs_pure rfl (run_eqI rfl (h.dep 8 35 rfl rfl) (h.dep 10 37 rfl rfl) hbv) (by decide)
     case en =>
      intro vals W hbw hv _;simp only[fa,Nat.reduceAdd];rw[e_ hv 0,e_ hv 1,e_ hv 2,e_ hv 3,e_ hv 4,e_ hv 5,e_ hv 6,e_ hv 7,e_ hv 8,e_ hv 9,e_ hv 10,e_ hv 11];clear hv
      try simp only[pl]
      replace H:=H.call hbw;clear hbw
      cases bv with
      | true =>
       have hbv:=beq_iff_eq.1 hbv;clear d1 d2
       go_wp2_with fail
       exact FIN.out td' _ _ _ _ _ _ _ _ _ _ tn htn (HI.out.seen (HMD.out.trans hbv)) HN0.out HO HN (H.take 13)
      | false =>
       have hbv:=beq_eq_false_iff_ne.1 hbv;have HNE:=Lib.hid (show marks.getD e1.1 0≠(i:Int)+1 by rw[HMD.out];exact hbv)
       have HMS:=Lib.hid (show (marks.map (Value.int .i64)).set e1.1 (.int .i64 ((i:Int)+1))=(marks.set e1.1 ((i:Int)+1)).map (.int .i64) by rw[List.map_set])
       have HML:=Lib.hid (show (marks.map (Value.int .i64)).length=ps.length by rw[List.length_map];exact HI.out.len)
       clear hbv d1 d2
       go_upto_region 5 with fail
       refine wp_region_spec 10 [fun v _=>v=.pointer (some ⟨mb,0,none⟩),fun v _=>v=.pointer (some ⟨mb,0,none⟩),fun v _=>v=.pointer (some ⟨mb,0,none⟩),fun v _=>v=.pointer (some ⟨mb,1,none⟩),fun v _=>v=.slice (some ⟨gm,0,none⟩) ps.length mc,fun v _=>v=.pointer (some ⟨b7,0,none⟩),fun v _=>v=.int .i64 (e1.1:Nat),fun v _=>v=.int .i64 (i:Nat),fun v _=>v=.int .i64 ((i:Int)+1),fun v _=>v=.pointer (some ⟨gm,e1.1,none⟩)] (fun _=>false) (by kernel_rfl) (by kernel_rfl) (by kernel_rfl) (by repeat (first|exact trivial|refine⟨stable_eq _,?_⟩)) (fun _ _ h=>by cases h) ?ob ?en
       case ob =>
        refine⟨?_,?_,?_,?_,?_,?_,?_,?_,?_,?_,trivial⟩<;>intro A W h
        ·exact rs_pure rfl (run_load1K rfl (h.frame 3 rfl) one_mach ((H.call h.below).cell (i:=6) i_6 0)) (by decide)
        ·(have e39:A.eval (.tmp 39)=.pointer (some ⟨mb,0,none⟩):=h.dep 0 39 rfl rfl;refine rs_pure rfl ?_;simp only[execOp,e39];simp[go_sem])
        ·(have e40:A.eval (.tmp 40)=.pointer (some ⟨mb,0,none⟩):=h.dep 1 40 rfl rfl;refine rs_pure rfl ?_;simp only[execOp,e40];simp[go_sem])
        ·(have e41:A.eval (.tmp 41)=.pointer (some ⟨mb,0,none⟩):=h.dep 2 41 rfl rfl;refine rs_pure rfl ?_;simp only[execOp,e41];simp[go_sem])
        ·exact rs_pure rfl (run_load1K rfl (h.dep 3 42 rfl rfl) one_ints ((H.call h.below).cell (i:=0) (.zero) 1)) (by decide)
        ·(have e7:A.eval (.tmp 7)=.pointer (some ⟨b7,0,none⟩):=h.frame 7 rfl;refine rs_pure rfl ?_;simp only[execOp,e7];simp[go_sem])
        ·exact rs_pure rfl (run_load1K rfl (h.dep 5 44 rfl rfl) one_int (((H.call h.below).cell (i:=13) i_13 0).trans (yg0 e1))) (by decide)
        ·exact rs_pure rfl (run_load1K rfl (h.frame 4 rfl) one_int ((H.call h.below).cell (i:=8) i_8 0)) (by decide)
        ·exact rs_pure rfl (run_addK rfl (h.dep 7 46 rfl rfl) rfl rfl (nat_lo1 i) (nat_hi1 HIL.out)) (by decide)
        ·exact rs_idx (sz:=1) Tryz.underlying27 (fun w=>by kernel_rfl) rfl rfl (h.dep 4 43 rfl rfl) (h.dep 6 45 rfl rfl) HK.out.1 (by rw[Nat.zero_add,Nat.mul_one]) (by decide)
       case en =>
        intro vals W hbw hv _;simp only[fa,Nat.reduceAdd];rw[e_ hv 0,e_ hv 1,e_ hv 2,e_ hv 3,e_ hv 4,e_ hv 5,e_ hv 6,e_ hv 7,e_ hv 8,e_ hv 9];clear hv
        try simp only[pl]
        replace H:=H.call hbw;clear hbw
        go_upto_region 6 with (first|((with_reducible refine gT ?_);refine own_storeX wtd_ _ _ _ rfl rfl (v:=.int .i64 ((i:Int)+1)) evd_ H (j:=1) i_1 HML.out (one_size one_int) rfl HK.out.1 ?_;clear H;intro w H;simp only[List.set_cons_succ,List.set_cons_zero]at H))
        rw[HMS.out]at H;obtain⟨x,hx⟩:∃ x,ps[e1.1]?=some x:=⟨_,List.getElem?_eq_getElem HK.out.1⟩;have HX2:=Lib.hid hx;have HRI:=Lib.hid (right_get hR hx);obtain⟨bp,op,hpp⟩:=(H.kn (i:=3) i_3).at (Nat.lt_of_le_of_lt (Nat.zero_le _) HK.out.1);subst hpp;have HCE:=Lib.hid (fun V (h:InstsR Fp (some ⟨bp,op,none⟩) cp ps V)=>(h.cells hx rfl:∀ q,q<9→V.cell? ⟨bp,op+e1.1 * 9+q,none⟩=(instC x)[q]?))
        clear hx;refine wp_region_spec 9 [fun v _=>v=.pointer (some ⟨mb,0,none⟩),fun v _=>v=.pointer (some ⟨mb,0,none⟩),fun v _=>v=.pointer (some ⟨mb,2,none⟩),fun v _=>v=.slice (some ⟨bp,op,none⟩) ps.length cp,fun v _=>v=.pointer (some ⟨b7,0,none⟩),fun v _=>v=.int .i64 (e1.1:Nat),fun v _=>v=.pointer (some ⟨bp,op+e1.1 * 9,none⟩),fun v _=>v=instV x,FreshB w.heap.size (instC {kind:=0}) 43] (fun _=>false) (by kernel_rfl) (by kernel_rfl) (by kernel_rfl) (by repeat (first|exact trivial|refine⟨stable_eq _,?_⟩|refine⟨stable_fresh _ _ _,?_⟩)) (fun _ _ h=>by cases h) ?ob ?en
        case ob =>
         refine⟨?_,?_,?_,?_,?_,?_,?_,?_,?_,trivial⟩<;>intro A W h
         ·exact rs_pure rfl (run_load1K rfl (h.frame 3 rfl) one_mach ((H.call h.below).cell (i:=6) i_6 0)) (by decide)
         ·(have e49:A.eval (.tmp 49)=.pointer (some ⟨mb,0,none⟩):=h.dep 0 49 rfl rfl;refine rs_pure rfl ?_;simp only[execOp,e49];simp[go_sem])
         ·(have e50:A.eval (.tmp 50)=.pointer (some ⟨mb,0,none⟩):=h.dep 1 50 rfl rfl;refine rs_pure rfl ?_;simp only[execOp,e50];simp[go_sem])
         ·exact rs_pure rfl (run_load1K rfl (h.dep 2 51 rfl rfl) one_insts ((H.call h.below).cell (i:=0) (.zero) 2)) (by decide)
         ·(have e7:A.eval (.tmp 7)=.pointer (some ⟨b7,0,none⟩):=h.frame 7 rfl;refine rs_pure rfl ?_;simp only[execOp,e7];simp[go_sem])
         ·exact rs_pure rfl (run_load1K rfl (h.dep 4 53 rfl rfl) one_int (((H.call h.below).cell (i:=13) i_13 0).trans (yg0 e1))) (by decide)
         ·exact rs_idx (sz:=9) Tryz.underlying22 (fun w=>by kernel_rfl) rfl rfl (h.dep 3 52 rfl rfl) (h.dep 5 54 rfl rfl) HK.out.1 rfl (by decide)
         ·exact rs_pure rfl (run_loadK rfl (h.dep 6 55 rfl rfl) row_Inst rfl (HCE.out _ ((H.call h.below).kn (i:=3) i_3))) (by decide)
         ·exact rs_fresh rfl rfl (by kernel_rfl) zInst h.below.size (by decide)
        case en =>
         intro vals W hbw hv _;have x8:=hv 8 (by omega);simp only[lookS]at x8
         simp only[fa,Nat.reduceAdd];rw[e_ hv 0,e_ hv 1,e_ hv 2,e_ hv 3,e_ hv 4,e_ hv 5,e_ hv 6,e_ hv 7];clear hv
         try simp only[pl]
         try simp only[pl]
         obtain⟨b8,e8,H8⟩:=H.gainB hbw x8;rw[e8];clear x8 e8 H hbw;have H:=H8;clear H8;simp only[List.cons_append,List.nil_append]at H
         go_upto_region 8 with (first|(first|((with_reducible refine gTi ?_);refine aTi H ?_;clear H;intro w H;try simp only[nr]at H)|((with_reducible refine gL ?_);refine aGi H ?_)))
         have hnx:=fun h=>right_next HRI.out h
         have HINT:=Lib.hid (fun V (h:WK us V)=>ints_of h HK.out.2)
         by_cases k2:x.kind=2
         ·have hot:=right_other HRI.out k2;have hnx:=hnx (.inr (.inl k2));have d2:(x.kind == 2)=true:=by rw[beq_iff_eq];exact k2
          have k2':=Lib.hid k2;clear k2;have k2:=k2';clear k2'
          go_upto_region 9 with fail
          refine wp_region_seq 11 [fun v _=>v=.slice (some ⟨gt,0,none⟩) tn tc,fun v _=>v=.pointer (some ⟨b8,6,none⟩),fun v _=>v=.int .i64 x.other,fun v _=>v=.pointer (some ⟨b7,1,none⟩),fun v _=>v=.slice e1.2.2.1 e1.2.1.length e1.2.2.2,fun v _=>v=.agg (wayC (x.other.toNat,e1.2)),fun v _=>v=.pointer (some ⟨b8,5,none⟩),fun v _=>v=.int .i64 x.next,fun v _=>v=.pointer (some ⟨b7,1,none⟩),fun v _=>v=.slice e1.2.2.1 e1.2.1.length e1.2.2.2,fun v _=>v=.agg (wayC (x.next.toNat,e1.2))] (fun _=>false) (by kernel_rfl) (by kernel_rfl) (by repeat (first|exact trivial|refine⟨stable_eq _,?_⟩)) (fun _ _ h=>by cases h) ?ob ?en
          case ob =>
           refine⟨?_,?_,?_,?_,?_,?_,?_,?_,?_,?_,?_,trivial⟩<;>intro A W h
           ·exact rs_move rfl rfl (h.frame 6 rfl)
           ·(have e8:A.eval (.tmp 8)=.pointer (some ⟨b8,0,none⟩):=h.frame 8 rfl;refine rs_pure rfl ?_;simp only[execOp,e8];simp[go_sem])
           ·exact rs_pure rfl (run_load1K rfl (h.dep 1 62 rfl rfl) one_int (((H.call h.below).cell (i:=14) i_14 6).trans (ig6 x))) (by decide)
           ·(have e7:A.eval (.tmp 7)=.pointer (some ⟨b7,0,none⟩):=h.frame 7 rfl;refine rs_pure rfl ?_;simp only[execOp,e7];simp[go_sem])
           ·exact rs_pure rfl (run_load1K rfl (h.dep 3 64 rfl rfl) one_ints (((H.call h.below).cell (i:=13) i_13 1).trans (yg1 e1))) (by decide)
           ·exact rs_pure rfl (run_wayB rfl (h.dep 2 63 rfl rfl) (h.dep 4 65 rfl rfl) hot.1) (by decide)
           ·(have e8:A.eval (.tmp 8)=.pointer (some ⟨b8,0,none⟩):=h.frame 8 rfl;refine rs_pure rfl ?_;simp only[execOp,e8];simp[go_sem])
           ·exact rs_pure rfl (run_load1K rfl (h.dep 6 67 rfl rfl) one_int (((H.call h.below).cell (i:=14) i_14 5).trans (ig5 x))) (by decide)
           ·(have e7:A.eval (.tmp 7)=.pointer (some ⟨b7,0,none⟩):=h.frame 7 rfl;refine rs_pure rfl ?_;simp only[execOp,e7];simp[go_sem])
           ·exact rs_pure rfl (run_load1K rfl (h.dep 8 69 rfl rfl) one_ints (((H.call h.below).cell (i:=13) i_13 1).trans (yg1 e1))) (by decide)
           ·exact rs_pure rfl (run_wayB rfl (h.dep 7 68 rfl rfl) (h.dep 9 70 rfl rfl) hnx.1) (by decide)
          case en =>
           intro vals W hbw hv _;simp only[fa,Nat.reduceAdd];rw[e_ hv 0,e_ hv 1,e_ hv 2,e_ hv 3,e_ hv 4,e_ hv 5,e_ hv 6,e_ hv 7,e_ hv 8,e_ hv 9,e_ hv 10];clear hv
           try simp only[pl]
           replace H:=H.call hbw;clear hbw
           go_wp2_with (first|((with_reducible show @wpList _ _ _ ({dst:=_,op:=Op.buildSlice _ _ _,type:=_,pos:=_,after:=_,guard:=_}::_) _ _);refine own_build wtd_ _ _ _ rfl H (wayC (x.other.toNat,e1.2)++wayC (x.next.toNat,e1.2)) 58 (by intro W;simp only[List.map_toArray,List.map_cons,List.map_nil];(try simp only[pe]);exact run_way2S _ _ W) ?_;clear H;intro bt2 w H;simp only[List.cons_append,List.nil_append]at H)|(at_builtin;refine own_append rfl _ _ 50 rfl H (i:=11) (j:=15) evd_ rfl i_11 i_15 Tryz.underlying50 hiw hi0 hi1 hi2 rfl (by decide) rfl rfl (way_room htop (by decide)) (way_roomB htop (by decide)) ?_;clear H;intro v2 w H;simp only[List.set_cons_succ,List.set_cons_zero]at H;(obtain⟨q3,c3,rfl,_,_,_⟩:=H.rowShape (i:=11) i_11))|fail)
           rw[flatW_put2]at H;exact FIN.out (td'++[(x.other.toNat,e1.2),(x.next.toNat,e1.2)]) _ _ _ _ _ _ _ _ _ _ (tn+2) (by rw[List.length_append,htn];rfl) (HI.out.split HNE.out HX2.out k2.out hnx hot) HN0.out HO HN (H.take 13)
         ·have d2:(x.kind == 2)=false:=by rw[beq_eq_false_iff_ne];exact k2
          by_cases k3:x.kind=3
          ·have hsl:=right_slot HRI.out k3;have hnx:=hnx (.inr (.inr (.inl k3)));have d3:(x.kind == 3)=true:=by rw[beq_iff_eq];exact k3
           have HSZ:=Lib.hid (show e1.2.1.length≤1000000∧x.slot.toNat<e1.2.1.length from slot_size HI.out HX2.out hms hms2)
           have k3':=Lib.hid k3;clear k3;have k3:=k3';clear k3'
           go_upto_region 11 with fail
           have hbM:=(Array.getElem?_eq_some_iff.1 (H.blk (i:=6) i_6).2).1;refine wp_region_spec 11 [fun v _=>v=.slice (some ⟨gt,0,none⟩) tn tc,fun v _=>v=.pointer (some ⟨b8,5,none⟩),fun v _=>v=.int .i64 x.next,fun v _=>v=.int .i64 (i:Nat),fun v _=>v=.pointer (some ⟨b8,7,none⟩),fun v _=>v=.int .i64 (x.slot.toNat:Nat),fun v _=>v=.pointer (some ⟨b7,1,none⟩),fun v _=>v=.slice e1.2.2.1 e1.2.1.length e1.2.2.2,NotedV w.heap.size (e1.2.1.set x.slot.toNat (i:Int)),NotedW w.heap.size x.next.toNat (e1.2.1.set x.slot.toNat (i:Int)),NotedS w.heap.size x.next.toNat (e1.2.1.set x.slot.toNat (i:Int))] (fun _=>false) (by kernel_rfl) (by kernel_rfl) (by kernel_rfl) (by repeat (first|exact trivial|refine⟨stable_eq _,?_⟩|refine⟨stable_notedV _ _,?_⟩|refine⟨stable_notedW _ _ _,?_⟩|refine⟨stable_notedS _ _ _,?_⟩)) (fun _ _ h=>by cases h) ?ob ?en
           case ob =>
            refine⟨?_,?_,?_,?_,?_,?_,?_,?_,?_,?_,?_,trivial⟩<;>intro A W h
            ·exact rs_move rfl rfl (h.frame 6 rfl)
            ·(have e8:A.eval (.tmp 8)=.pointer (some ⟨b8,0,none⟩):=h.frame 8 rfl;refine rs_pure rfl ?_;simp only[execOp,e8];simp[go_sem])
            ·exact rs_pure rfl (run_load1K rfl (h.dep 1 77 rfl rfl) one_int (((H.call h.below).cell (i:=14) i_14 5).trans (ig5 x))) (by decide)
            ·exact rs_pure rfl (run_load1K rfl (h.frame 4 rfl) one_int ((H.call h.below).cell (i:=8) i_8 0)) (by decide)
            ·(have e8:A.eval (.tmp 8)=.pointer (some ⟨b8,0,none⟩):=h.frame 8 rfl;refine rs_pure rfl ?_;simp only[execOp,e8];simp[go_sem])
            ·exact rs_pure rfl (run_load1K rfl (h.dep 4 80 rfl rfl) one_int (((H.call h.below).cell (i:=14) i_14 7).trans ((ig7 x).trans (by rw[Int.toNat_of_nonneg hsl.1])))) (by decide)
            ·(have e7:A.eval (.tmp 7)=.pointer (some ⟨b7,0,none⟩):=h.frame 7 rfl;refine rs_pure rfl ?_;simp only[execOp,e7];simp[go_sem])
            ·exact rs_pure rfl (run_load1K rfl (h.dep 6 82 rfl rfl) one_ints (((H.call h.below).cell (i:=13) i_13 1).trans (yg1 e1))) (by decide)
            ·exact rs_calln' rfl rfl (enters_of Tryz.func76 (by kernel_rfl) rfl) (args3 ⟨h.dep 3 79 rfl rfl,h.dep 5 81 rfl rfl,h.dep 7 83 rfl rfl⟩) ((vm_noted i x.slot.toNat _ _ e1.2.1 (FW us) W HSZ.out.1 HSZ.out.2 ((H.call h.below).knlt (i:=5) i_5) (HINT.out _ ((H.call h.below).kn (i:=5) i_5))).mono (fun e w' hh=>noted_post h.below.size (fun h=>by cases h) hh))
            ·exact rs_notedW rfl rfl (h.dep 2 78 rfl rfl) (h.dep 8 84 rfl rfl) hnx.1 (by decide)
            ·exact rs_notedS rfl rfl (h.dep 9 85 rfl rfl) h.below.size (by decide)
           case en =>
            intro vals W hbw hv _;have x8:=hv 8 (by omega);simp only[lookS]at x8
            have x9:=hv 9 (by omega);simp only[lookS]at x9
            have x10:=hv 10 (by omega);simp only[lookS]at x10
            simp only[fa,Nat.reduceAdd];rw[e_ hv 0,e_ hv 1,e_ hv 2,e_ hv 3,e_ hv 4,e_ hv 5,e_ hv 6,e_ hv 7];clear hv
            try simp only[pl]
            try simp only[pl]
            obtain⟨bk,q2,c2,e10,hus,H8⟩:=H.gainNoted hbw (i:=5) i_5 x10 (by rw[List.length_set];exact Nat.lt_of_le_of_lt (Nat.zero_le _) HSZ.out.2)
            rw[e10];clear x8 x9 x10 e10 H hbw;have H:=H8;clear H8;simp only[List.cons_append,List.nil_append,List.set_cons_succ,List.set_cons_zero]at H
            go_wp2_with (first|(at_builtin;refine own_append rfl _ _ 50 rfl H (i:=11) (j:=15) evd_ rfl i_11 i_15 Tryz.underlying50 hiw hi0 hi1 hi2 rfl (by decide) rfl rfl (way_room htop (by decide)) (way_roomB htop (by decide)) ?_;clear H;intro v2 w H;simp only[List.set_cons_succ,List.set_cons_zero]at H;(obtain⟨q3,c3,rfl,_,_,_⟩:=H.rowShape (i:=11) i_11))|fail)
            rw[flatW_put]at H;exact FIN.out (td'++[(x.next.toNat,e1.2.1.set x.slot.toNat (i:Int),q2,c2)]) _ _ _ _ _ _ _ _ _ _ (tn+1) (by rw[List.length_append,htn];rfl) (HI.out.save HNE.out HX2.out k3.out hnx q2 c2) HN0.out (Lib.hid (fun b h=>(hus b h).elim (HO.out b) (fun h=>.inr (Nat.lt_of_lt_of_le hbM h)))) HN (H.take 13)
          ·have d3:(x.kind == 3)=false:=by rw[beq_eq_false_iff_ne];exact k3
           by_cases k4:x.kind=4
           ·have hnx:=hnx (.inr (.inr (.inr k4)));have d4:(x.kind == 4)=true:=by rw[beq_iff_eq];exact k4
            have k4':=Lib.hid k4;clear k4;have k4:=k4';clear k4'
            cases hsp:isSpot x.spot L i with
            | true =>
             have HSP:=Lib.hid (fun V (h1:∀ b,Fs b→b<V.heap.size) (h2:BytesR Fs psl csl L V)=>(by have:=sp_Spot psl csl L Fs V h1 h2 x.spot i;rw[hsp]at this;exact this:Calls Tryz.prog 77 #[.int .i64 x.spot,.slice psl L.length csl,.int .i64 i] V fun e w'=>e=.returned (.bool true)∧Below V.heap.size V w'))
             go_upto_region 13 with fail
             refine wp_region_spec 8 [fun v _=>v=.pointer (some ⟨b8,8,none⟩),fun v _=>v=.int .i64 x.spot,fun v _=>v=.pointer (some ⟨mb,0,none⟩),fun v _=>v=.pointer (some ⟨mb,0,none⟩),fun v _=>v=.pointer (some ⟨mb,3,none⟩),fun v _=>v=.slice psl L.length csl,fun v _=>v=.int .i64 (i:Nat),fun v _=>v=.bool true] (fun _=>false) (by kernel_rfl) (by kernel_rfl) (by kernel_rfl) (by repeat (first|exact trivial|refine⟨stable_eq _,?_⟩)) (fun _ _ h=>by cases h) ?ob ?en
             case ob =>
              refine⟨?_,?_,?_,?_,?_,?_,?_,?_,trivial⟩<;>intro A W h
              ·(have e8:A.eval (.tmp 8)=.pointer (some ⟨b8,0,none⟩):=h.frame 8 rfl;refine rs_pure rfl ?_;simp only[execOp,e8];simp[go_sem])
              ·exact rs_pure rfl (run_load1K rfl (h.dep 0 90 rfl rfl) one_spot (((H.call h.below).cell (i:=14) i_14 8).trans (ig8 x))) (by decide)
              ·exact rs_pure rfl (run_load1K rfl (h.frame 3 rfl) one_mach ((H.call h.below).cell (i:=6) i_6 0)) (by decide)
              ·(have e92:A.eval (.tmp 92)=.pointer (some ⟨mb,0,none⟩):=h.dep 2 92 rfl rfl;refine rs_pure rfl ?_;simp only[execOp,e92];simp[go_sem])
              ·(have e93:A.eval (.tmp 93)=.pointer (some ⟨mb,0,none⟩):=h.dep 3 93 rfl rfl;refine rs_pure rfl ?_;simp only[execOp,e93];simp[go_sem])
              ·exact rs_pure rfl (run_load1K rfl (h.dep 4 94 rfl rfl) one_bytes ((H.call h.below).cell (i:=0) (.zero) 3)) (by decide)
              ·exact rs_pure rfl (run_load1K rfl (h.frame 4 rfl) one_int ((H.call h.below).cell (i:=8) i_8 0)) (by decide)
              ·exact rs_calln rfl rfl (enters_of Tryz.func77 (by kernel_rfl) rfl) (args3 ⟨(h.dep 1 91 rfl rfl),(h.dep 5 95 rfl rfl),(h.dep 6 96 rfl rfl)⟩) (HSP.out W ((H.call h.below).knlt (i:=4) i_4) ((H.call h.below).kn (i:=4) i_4))
             case en =>
              intro vals W hbw hv _;simp only[fa,Nat.reduceAdd];rw[e_ hv 0,e_ hv 1,e_ hv 2,e_ hv 3,e_ hv 4,e_ hv 5,e_ hv 6,e_ hv 7];clear hv
              try simp only[pl]
              try simp only[pl]
              replace H:=H.call hbw;clear hbw
              go_upto_region 14 with fail
              refine wp_region_seq 6 [fun v _=>v=.slice (some ⟨gt,0,none⟩) tn tc,fun v _=>v=.pointer (some ⟨b8,5,none⟩),fun v _=>v=.int .i64 x.next,fun v _=>v=.pointer (some ⟨b7,1,none⟩),fun v _=>v=.slice e1.2.2.1 e1.2.1.length e1.2.2.2,fun v _=>v=.agg (wayC (x.next.toNat,e1.2))] (fun _=>false) (by kernel_rfl) (by kernel_rfl) (by repeat (first|exact trivial|refine⟨stable_eq _,?_⟩)) (fun _ _ h=>by cases h) ?ob ?en
              case ob =>
               refine⟨?_,?_,?_,?_,?_,?_,trivial⟩<;>intro A W h
               ·exact rs_move rfl rfl (h.frame 6 rfl)
               ·(have e8:A.eval (.tmp 8)=.pointer (some ⟨b8,0,none⟩):=h.frame 8 rfl;refine rs_pure rfl ?_;simp only[execOp,e8];simp[go_sem])
               ·exact rs_pure rfl (run_load1K rfl (h.dep 1 99 rfl rfl) one_int (((H.call h.below).cell (i:=14) i_14 5).trans (ig5 x))) (by decide)
               ·(have e7:A.eval (.tmp 7)=.pointer (some ⟨b7,0,none⟩):=h.frame 7 rfl;refine rs_pure rfl ?_;simp only[execOp,e7];simp[go_sem])
               ·exact rs_pure rfl (run_load1K rfl (h.dep 3 101 rfl rfl) one_ints (((H.call h.below).cell (i:=13) i_13 1).trans (yg1 e1))) (by decide)
               ·exact rs_pure rfl (run_wayB rfl (h.dep 2 100 rfl rfl) (h.dep 4 102 rfl rfl) hnx.1) (by decide)
              case en =>
               intro vals W hbw hv _;simp only[fa,Nat.reduceAdd];rw[e_ hv 0,e_ hv 1,e_ hv 2,e_ hv 3,e_ hv 4,e_ hv 5];clear hv
               try simp only[pl]
               replace H:=H.call hbw;clear hbw
               go_wp2_with (first|((with_reducible show @wpList _ _ _ ({dst:=_,op:=Op.buildSlice _ _ _,type:=_,pos:=_,after:=_,guard:=_}::_) _ _);refine own_build wtd_ _ _ _ rfl H (wayC (x.next.toNat,e1.2)) 58 (by intro W;simp only[List.map_toArray,List.map_cons,List.map_nil];(try simp only[pe]);exact run_way1 _ W) ?_;clear H;intro bt2 w H;simp only[List.cons_append,List.nil_append]at H)|(at_builtin;refine own_append rfl _ _ 50 rfl H (i:=11) (j:=15) evd_ rfl i_11 i_15 Tryz.underlying50 hiw hi0 hi1 hi2 rfl (by decide) rfl rfl (way_room htop (by decide)) (way_roomB htop (by decide)) ?_;clear H;intro v2 w H;simp only[List.set_cons_succ,List.set_cons_zero]at H;(obtain⟨q3,c3,rfl,_,_,_⟩:=H.rowShape (i:=11) i_11))|fail)
               rw[flatW_put]at H;exact FIN.out (td'++[(x.next.toNat,e1.2)]) _ _ _ _ _ _ _ _ _ _ (tn+1) (by rw[List.length_append,htn];rfl) (HI.out.spotT HNE.out HX2.out k4.out hnx hsp) HN0.out HO HN (H.take 13)
            | false =>
             have HSP:=Lib.hid (fun V (h1:∀ b,Fs b→b<V.heap.size) (h2:BytesR Fs psl csl L V)=>(by have:=sp_Spot psl csl L Fs V h1 h2 x.spot i;rw[hsp]at this;exact this:Calls Tryz.prog 77 #[.int .i64 x.spot,.slice psl L.length csl,.int .i64 i] V fun e w'=>e=.returned (.bool false)∧Below V.heap.size V w'))
             go_upto_region 13 with fail
             refine wp_region_spec 8 [fun v _=>v=.pointer (some ⟨b8,8,none⟩),fun v _=>v=.int .i64 x.spot,fun v _=>v=.pointer (some ⟨mb,0,none⟩),fun v _=>v=.pointer (some ⟨mb,0,none⟩),fun v _=>v=.pointer (some ⟨mb,3,none⟩),fun v _=>v=.slice psl L.length csl,fun v _=>v=.int .i64 (i:Nat),fun v _=>v=.bool false] (fun _=>false) (by kernel_rfl) (by kernel_rfl) (by kernel_rfl) (by repeat (first|exact trivial|refine⟨stable_eq _,?_⟩)) (fun _ _ h=>by cases h) ?ob ?en
             case ob =>
              refine⟨?_,?_,?_,?_,?_,?_,?_,?_,trivial⟩<;>intro A W h
              ·(have e8:A.eval (.tmp 8)=.pointer (some ⟨b8,0,none⟩):=h.frame 8 rfl;refine rs_pure rfl ?_;simp only[execOp,e8];simp[go_sem])
              ·exact rs_pure rfl (run_load1K rfl (h.dep 0 90 rfl rfl) one_spot (((H.call h.below).cell (i:=14) i_14 8).trans (ig8 x))) (by decide)
              ·exact rs_pure rfl (run_load1K rfl (h.frame 3 rfl) one_mach ((H.call h.below).cell (i:=6) i_6 0)) (by decide)
              ·(have e92:A.eval (.tmp 92)=.pointer (some ⟨mb,0,none⟩):=h.dep 2 92 rfl rfl;refine rs_pure rfl ?_;simp only[execOp,e92];simp[go_sem])
              ·(have e93:A.eval (.tmp 93)=.pointer (some ⟨mb,0,none⟩):=h.dep 3 93 rfl rfl;refine rs_pure rfl ?_;simp only[execOp,e93];simp[go_sem])
              ·exact rs_pure rfl (run_load1K rfl (h.dep 4 94 rfl rfl) one_bytes ((H.call h.below).cell (i:=0) (.zero) 3)) (by decide)
              ·exact rs_pure rfl (run_load1K rfl (h.frame 4 rfl) one_int ((H.call h.below).cell (i:=8) i_8 0)) (by decide)
              ·exact rs_calln rfl rfl (enters_of Tryz.func77 (by kernel_rfl) rfl) (args3 ⟨(h.dep 1 91 rfl rfl),(h.dep 5 95 rfl rfl),(h.dep 6 96 rfl rfl)⟩) (HSP.out W ((H.call h.below).knlt (i:=4) i_4) ((H.call h.below).kn (i:=4) i_4))
             case en =>
              intro vals W hbw hv _;simp only[fa,Nat.reduceAdd];rw[e_ hv 0,e_ hv 1,e_ hv 2,e_ hv 3,e_ hv 4,e_ hv 5,e_ hv 6,e_ hv 7];clear hv
              try simp only[pl]
              try simp only[pl]
              replace H:=H.call hbw;clear hbw
              go_wp2_with fail
              exact FIN.out td' _ _ _ _ _ _ _ _ _ _ tn htn (HI.out.spotF HNE.out HX2.out k4.out hsp) HN0.out HO HN (H.take 13)
           ·have d4:(x.kind == 4)=false:=by rw[beq_eq_false_iff_ne];exact k4
            by_cases k1:x.kind=1
            ·have d1:(x.kind == 1)=true:=by rw[beq_iff_eq];exact k1
             have k15:x.kind=1∨x.kind=5:=.inl k1;have k15':=Lib.hid k15;clear k15 k1 hnx;have k15:=k15';clear k15'
             go_upto_region 17 with fail
             have I2:=Lib.hid (HI.out.out HNE.out HX2.out k15.out);rw[← wpIn_wide (n:=k+1)];refine wpIn_region_lit (lin_pure (v:=.func (.yield l) #[] #[]) rfl (lin_pure_move rfl rfl) (lin_pure rfl (run_loadK rfl rfl row_Way (wayC_size e1) (fun j _=>by rw[Nat.zero_add];exact H.cell (i:=13) i_13 j)) (lin_yield rfl rfl rfl rfl (HY.out nq nc ys us (marks.set e1.1 ((i:Int)+1)) e1 [.blk bM #[.pointer (some ⟨mb,0,none⟩)] 49,.blk bA #[.int .i64 e.1] 3,.blk bI #[.int .i64 i] 3,.blk bS #[.slice e.2.2.1 e.2.1.length e.2.2.2] 27,.row (.slice (some ⟨gt,0,none⟩) tn tc) 58 2 tn (flatR (td'.map wayC)),.blk b7 (wayC e1) 58,.blk b8 (instC x) 43] _ HK.out.2 ext_stay (by have:=I2.out.room;rw[List.length_append]at this;exact Nat.lt_of_lt_of_le (Nat.lt_succ_self _) (Nat.le_trans (Nat.le_add_right _ _) this)) (H.pick [0,1,2,3,4,5,10,6,7,8,9,11,13,14] _ (by decide) rfl) (HN.out _ (H.kn (i:=12) i_12))) ?_)))
             rintro w' ⟨⟨nq',nc',H'⟩,hB'⟩;refine lin_pure (v:=.bool false) rfl (lin_not (b:=true) rfl rfl) (wpListIn_nil ?_);simp only[pl];obtain⟨nF',nS',HN',H2⟩:=H'.ncB (by intro r hr b es c e;subst e;simp[memL]at hr) HB hB'
             clear H H' hB'
             go_wp2_with fail
             exact FIN.out td' _ _ _ _ _ _ _ _ _ _ tn htn I2.out HN0.out HO HN' (H2.pick [0,1,2,3,4,5,7,8,9,10,6,11,14] _ (by decide) rfl)
            ·have d1:(x.kind == 1)=false:=by rw[beq_eq_false_iff_ne];exact k1
             by_cases k5:x.kind=5
             ·have d5:(x.kind == 5)=true:=by rw[beq_iff_eq];exact k5
              have k15:x.kind=1∨x.kind=5:=.inr k5;have k15':=Lib.hid k15;clear k15 k5 hnx;have k15:=k15';clear k15'
              go_upto_region 17 with fail
              have I2:=Lib.hid (HI.out.out HNE.out HX2.out k15.out);rw[← wpIn_wide (n:=k+1)];refine wpIn_region_lit (lin_pure (v:=.func (.yield l) #[] #[]) rfl (lin_pure_move rfl rfl) (lin_pure rfl (run_loadK rfl rfl row_Way (wayC_size e1) (fun j _=>by rw[Nat.zero_add];exact H.cell (i:=13) i_13 j)) (lin_yield rfl rfl rfl rfl (HY.out nq nc ys us (marks.set e1.1 ((i:Int)+1)) e1 [.blk bM #[.pointer (some ⟨mb,0,none⟩)] 49,.blk bA #[.int .i64 e.1] 3,.blk bI #[.int .i64 i] 3,.blk bS #[.slice e.2.2.1 e.2.1.length e.2.2.2] 27,.row (.slice (some ⟨gt,0,none⟩) tn tc) 58 2 tn (flatR (td'.map wayC)),.blk b7 (wayC e1) 58,.blk b8 (instC x) 43] _ HK.out.2 ext_stay (by have:=I2.out.room;rw[List.length_append]at this;exact Nat.lt_of_lt_of_le (Nat.lt_succ_self _) (Nat.le_trans (Nat.le_add_right _ _) this)) (H.pick [0,1,2,3,4,5,10,6,7,8,9,11,13,14] _ (by decide) rfl) (HN.out _ (H.kn (i:=12) i_12))) ?_)))
              rintro w' ⟨⟨nq',nc',H'⟩,hB'⟩;refine lin_pure (v:=.bool false) rfl (lin_not (b:=true) rfl rfl) (wpListIn_nil ?_);simp only[pl];obtain⟨nF',nS',HN',H2⟩:=H'.ncB (by intro r hr b es c e;subst e;simp[memL]at hr) HB hB'
              clear H H' hB'
              go_wp2_with fail
              exact FIN.out td' _ _ _ _ _ _ _ _ _ _ tn htn I2.out HN0.out HO HN' (H2.pick [0,1,2,3,4,5,7,8,9,10,6,11,14] _ (by decide) rfl)
             ·have d5:(x.kind == 5)=false:=by rw[beq_eq_false_iff_ne];exact k5
              have KO:=Lib.hid (HI.out.other HNE.out HX2.out k2 k3 k4 k1 k5)
              go_wp2_with fail
              exact FIN.out td' _ _ _ _ _ _ _ _ _ _ tn htn KO.out HN0.out HO HN (H.take 13)
  ·obtain rfl:td=[]:=List.length_eq_zero_iff.1 (by omega)
   go_wp2_with (first|fail)
   rw[Exit.noGoto_normal]
   go_end0
   refine⟨HN.out _ (H.kn (i:=12) i_12),⟨_,rfl⟩,nq,nc,ys,us,marks,n,HI.out,HO.out,H.take 11⟩
end Go.Proofs.YtdoflhjhaciepaaGreat
namespace Go.Proofs.YtdoflhjhaciepaaGreat
open Go.RowKit
section
variable {M:Nat→Prop} {w0 w w':World} {l l' ls a a' ext:List Res}
theorem HoldG.gainAll (H:HoldG M w0 w l) (K:Hold w w' ls) (hk:∀ r ∈ ls,∀ F S,r≠.kn F S):HoldG M w0 w' (l++ls):=by
 have H':=H.call K.below;have hi:∀ (i:Nat) (r:Res),(l++ls)[i]?=some r→(i<l.length∧l[i]?=some r)∨(l.length≤i∧ls[i - l.length]?=some r):=by
  intro i r h;rw[List.getElem?_append]at h;split at h
  ·exact .inl ⟨by assumption,h⟩
  ·exact .inr ⟨by omega,h⟩
 have hp:∀ (i:Nat) (r:Res),ls[i]?=some r→∀ b,r.foot b→w.heap.size≤b:=by
  intro i r h b hb;have hpl:=place_foot_not (hk r (List.mem_of_getElem? h)) hb;exact((K.all i r h).lt b hpl).1.elim id False.elim
 refine⟨H'.keep,fun i r h=>?_,fun i j r s hij h1 h2=>?_⟩
 ·rcases hi i r h with ⟨_,h⟩|⟨_,h⟩
  ·exact H'.all i r h
  ·have hA:=K.all _ r h;have hl:=hk r (List.mem_of_getElem? h);have hge:=H.keep.size
   cases r with
   | blk b cs T=>exact⟨.inl (Nat.le_trans hge (hA.1.elim id False.elim)),hA.2⟩
   | row v e sz n xs =>
    have h9:w'.ownsRow w.heap.size e sz v n xs:=hA;exact h9.mono hge
   | mp b es c=>exact⟨Nat.le_trans hge hA.1,hA.2⟩
   | kn F S=>exact absurd rfl (hl F S)
 ·rcases hi i r h1 with ⟨_,h1⟩|⟨e1,h1⟩
  ·rcases hi j s h2 with ⟨_,h2⟩|⟨e2,h2⟩
   ·exact H.apart i j r s hij h1 h2
   ·intro b hb hf;have a1:=((H.all i r h1).lt b hb).2;have a2:=hp _ s h2 b hf;omega
  ·rcases hi j s h2 with ⟨_,h2⟩|⟨e2,h2⟩
   ·intro b hb hf;have a1:=hp _ r h1 b (Res.place_foot hb);have a2:=(H.all j s h2).ltf b hf;omega
   ·exact K.apart _ _ r s (by omega) h1 h2
theorem HoldG.ofPairs (hk:KeepBut M w0.heap.size w0 w) (ha:∀ r ∈ l,r.Holds M w0.heap.size w) (hp:l.Pairwise (fun r s=>Apart r s∧Apart s r)):HoldG M w0 w l:=by
 refine⟨hk,fun i r h=>ha r (List.mem_of_getElem? h),fun i j r s hij h1 h2=>?_⟩
 rw[List.pairwise_iff_getElem]at hp;obtain⟨hi,rfl⟩:=List.getElem?_eq_some_iff.1 h1;obtain⟨hj,rfl⟩:=List.getElem?_eq_some_iff.1 h2;rcases Nat.lt_or_gt_of_ne hij with h|h
 ·exact(hp i j hi hj h).1
 ·exact(hp j i hj hi h).2
theorem HoldG.pairs (H:HoldG M w0 w l):l.Pairwise (fun r s=>Apart r s∧Apart s r):=by
 rw[List.pairwise_iff_getElem];intro i j hi hj hij;exact⟨H.apart i j _ _ (by omega) (List.getElem?_eq_getElem hi) (List.getElem?_eq_getElem hj),H.apart j i _ _ (by omega) (List.getElem?_eq_getElem hj) (List.getElem?_eq_getElem hi)⟩
theorem HoldG.permL (H:HoldG M w0 w l) (h:l.Perm l'):HoldG M w0 w l':=by
 refine HoldG.ofPairs H.keep (fun r hr=>?_) ((h.pairwise_iff (fun {x y} hxy=>⟨hxy.2,hxy.1⟩)).1 H.pairs)
 obtain⟨i,hi⟩:=List.getElem?_of_mem (h.mem_iff.2 hr);exact H.all i r hi
theorem HoldG.left (H:HoldG M w0 w (a++ext)):HoldG M w0 w a:=by
 have:=H.take a.length
 rwa [List.take_left']at this
 rfl
theorem HoldG.callL (H:HoldG M w0 w (a++ext)) (T:Turned M w0 w a a' w'):HoldG M w0 w' (a'++ext):=by
 refine H.callIn T (List.range a.length) (List.range' a.length ext.length) ?_ ?_ List.nodup_range' ?_
 ·apply List.ext_getElem?;intro i;rw[List.getElem?_map,List.getElem?_map]
  by_cases h:i<a.length
  ·rw[List.getElem?_range h];simp[List.getElem?_append_left h,List.getElem?_eq_getElem h]
  ·rw[List.getElem?_eq_none (by simp;omega),List.getElem?_eq_none (by omega)];rfl
 ·apply List.ext_getElem?;intro i;rw[List.getElem?_map,List.getElem?_map]
  by_cases h:i<ext.length
  ·rw[List.getElem?_range' h];simp[List.getElem?_append_right,List.getElem?_eq_getElem h]
  ·rw[List.getElem?_eq_none (by simp;omega),List.getElem?_eq_none (by omega)];rfl
 ·intro j hj hj';rw[List.mem_range]at hj;rw[List.mem_range']at hj';obtain⟨i,_,e⟩:=hj';omega
theorem HoldG.knowObj (H:HoldG M w0 w l) (hl:∀ r ∈ l,∀ b es c,r≠.mp b es c) {D:Nat} {o:Obj} (hD:w.heap[D]?=some o) (ho:o.isCells=false):HoldG M w0 w (l++[.kn (·=D) (fun V=>V.heap[D]?=some o)]):=by
 refine H.know _ _ (fun b hb=>by subst hb;exact(Array.getElem?_eq_some_iff.1 hD).1) (fun i r hi b hp hb=>?_) (fun V hV=>(hV D rfl).trans hD)
 subst hb;have hA:=H.all i r hi
 cases r with
 | blk b' cs U=>cases hp;rw[hA.2]at hD;cases hD;cases ho
 | row v e' sz n xs =>
  obtain⟨_,⟨hv,_⟩|⟨g,cap,cur,rfl,_,hg',_⟩⟩:=hA
  ·have h2:v.ownBlock=some b:=hp;rw[hv]at h2;cases h2
  ·have:g=b:=by simpa [Res.place,Value.ownBlock] using hp
   subst this;rw[hg']at hD;cases hD;cases ho
 | mp b' es c=>exact hl _ (List.mem_of_getElem? hi) _ _ _ rfl
 | kn F S=>cases hp
end
def MarksS (Ds:List Nat) (V:World):Prop:=∀ D ∈ Ds,V.heap[D]?=some (.deferred (some []))
def marksD (Ds:List Nat):List Deferred:=Ds.map fun D=>{target:=.collected D,args:=#[]}
theorem leaves_marks {P:Program} {n:Nat} {fn:Func} {tmps:Array Value} {R:Ending→World→Prop} {B:Nat} {I:World→Prop} (hst:Stay B I):∀ (Ds:List Nat) (W:World),I W→Ds.Nodup→(∀ D ∈ Ds,B≤D)→MarksS Ds W →
  (∀ W',I W'→∃ v,(results fn tmps).run P W'=.ok v W'∧R (.returned v) W')→LeavesInM Fence.wide n P fn tmps R (marksD Ds) .returning W
 | [],W,hI,_,_,_,h=>h W hI
 | D::Ds,W,hI,hn,hB,hM,h=>by
  have hK:=hM D (List.mem_cons_self ..);have hBD:=hB D (List.mem_cons_self ..);refine⟨by simp,.inl ⟨D,_,rfl,run_takeDeferred hK,?_⟩⟩
  refine leaves_marks hst Ds _ (hst.putObj (.deferred none) hI hBD hK rfl) (List.nodup_cons.1 hn).2 (fun D' h'=>hB D' (List.mem_cons_of_mem _ h')) (fun D' h'=>?_) h
  have hne:D'≠D:=fun e=>(List.nodup_cons.1 hn).1 (e ▸ h')
  exact(World.putObj_heap_other hne).trans (hM D' (List.mem_cons_of_mem _ h'))
end Go.Proofs.YtdoflhjhaciepaaGreat
namespace Go.Proofs.YtdoflhjhaciepaaGreat
open Go.RowKit Go.Shelf
attribute [local go_sem] Oper.semAt_some
section
variable {p:List InstD} {s:Str}
theorem lead_snoc (i:Nat):∀ (a:List Way) (e:Way) (m:List Int),leadP p s i (a++[e]) m=((waitsP p s i (fuelP p) [e] (leadP p s i a m).1).1,(leadP p s i a m).2++(waitsP p s i (fuelP p) [e] (leadP p s i a m).1).2)
 | [],e,m=>by simp[leadP]
 | x::a,e,m=>by
  simp only[List.cons_append,leadP];rw[lead_snoc i a e];simp
theorem waits_kind (i:Nat):∀ (n:Nat) (l:List Way) (m:List Int),∀ e ∈ (waitsP p s i n l m).2,(atI p e.1).kind=1∨(atI p e.1).kind=5
 | 0,_,_=>fun _ h=>by cases h
 | _+1,[],_=>fun _ h=>by cases h
 | n+1,(k,sl)::r,m=>by
  simp only[waitsP];split
  ·exact waits_kind i n r m
  split
  ·exact waits_kind i n _ _
  split
  ·exact waits_kind i n _ _
  split
  ·split
   ·exact waits_kind i n _ _
   ·exact waits_kind i n _ _
  split
  ·rename_i h;intro e he;rcases List.mem_cons.1 he with rfl|he
   ·exact h
   ·exact waits_kind i n _ _ e he
  ·exact waits_kind i n _ _
theorem lead_kind (i:Nat):∀ (l:List Way) (m:List Int),∀ e ∈ (leadP p s i l m).2,(atI p e.1).kind=1∨(atI p e.1).kind=5
 | [],_=>fun _ h=>by cases h
 | x::r,m=>fun e he=>by
  simp only[leadP]at he;exact(List.mem_append.1 he).elim (waits_kind i _ _ _ e) (lead_kind i r _ e)
end
theorem ItInv.start {ps:List InstD} {L:Str} {i:Nat} {e:WV} {m0:List Int} {ys0 us0:List WV} {ms:Nat} (hlen:m0.length=ps.length) (he:e.1<ps.length∧∃ u ∈ us0,e.2=u.2) (hg:∀ y ∈ ys0,∃ u ∈ us0,y.2=u.2) (hs:∀ u ∈ us0,u.2.1.length=ms) (hr:ys0.length+unm i m0≤ps.length) :
  ItInv ps L i (plW e) m0 ys0 ms [e] ys0 us0 m0 (fuelP ps):=by
 refine⟨⟨[],by simp,by simp⟩,?_,Nat.le_refl _,hlen,fun x hx=>by rw[List.mem_singleton]at hx;subst hx;exact he,hg,hs,hr⟩
 have:=unm_le i m0;simp only[List.length_cons,List.length_nil,fuelP];omega
section
variable {M:Nat→Prop} {w0 w w':World} {l:List Res}
theorem WK.app {us ux:List WV} {V:World} (h1:WK us V) (h2:WK ux V):WK (us++ux) V:=by
 intro x hx;rcases List.mem_append.1 hx with hx|hx
 ·exact⟨(h1 x hx).1.mono (fun b ⟨y,hy,o,e⟩=>⟨y,List.mem_append_left _ hy,o,e⟩),(h1 x hx).2⟩
 ·exact⟨(h2 x hx).1.mono (fun b ⟨y,hy,o,e⟩=>⟨y,List.mem_append_right _ hy,o,e⟩),(h2 x hx).2⟩
theorem FW.app {us ux:List WV} {b:Nat} (h:FW (us++ux) b):FW us b∨FW ux b:=by
 obtain⟨x,hx,o,e⟩:=h;exact(List.mem_append.1 hx).imp (fun hx=>⟨x,hx,o,e⟩) (fun hx=>⟨x,hx,o,e⟩)
theorem HoldG.knApp (H:HoldG M w0 w l) {i j:Nat} {us ux:List WV} (hi:At l i (.kn (FW us) (WK us))) (hj:At l j (.kn (FW ux) (WK ux))):HoldG M w0 w (l.set i (.kn (FW (us++ux)) (WK (us++ux)))):=by
 have hil:i<l.length:=(List.getElem?_eq_some_iff.1 hi.get).1;have H1:=H.knBoth hi hj;have H2:=H1.knTo (i:=i) (F:=fun b=>FW us b∨FW ux b) (S:=fun V=>WK us V∧WK ux V) (G:=FW (us++ux)) (T:=WK (us++ux)) (At.of_get (by rw[List.getElem?_set,if_pos rfl,if_pos hil])) (fun b hb=>hb.app) (fun h=>h.1.app h.2) (fun V h hV=>h.kept hV)
 rwa [List.set_set]at H2
theorem own_boxN {P:Program} {ops:Array Oper} {rest:List Oper} {o:Oper} {a:Act} {Q:Exit→Act→World→Prop} (hg:Region.wanted o (yielded ops a.tmps)=true) (T:TypeId) (x:Operand) (ho:o.op=.box T x) {v:Value} (hx:a.eval x=v) (H:HoldG M w0 w l)
  (h:∀ b w',w.heap.size≤b→HoldG M w0 w' (l++[.blk b v.cells T])→wpList P ops Q rest (a.put o.dst (.pointer (some ⟨b,0,none⟩))) w'):wpList P ops Q (o::rest) a w :=
 wpList_wanted hg fun _ hK=>by
  unfold Oper.wp execOp;simp[ho,hx,Instr.box,newVar,newRow];exact hK _ _ (h _ _ (Nat.le_refl _) (H.alloc _ T))
theorem HoldG.markD (H:HoldG M w0 w l) (hl:∀ r ∈ l,∀ b es c,r≠.mp b es c) {i D:Nat} {Ds:List Nat} (hi:At l i (.kn (· ∈ Ds) (MarksS Ds))) (hD:w.heap[D]?=some (.deferred (some []))) :
  HoldG M w0 w (l.set i (.kn (· ∈ D::Ds) (MarksS (D::Ds)))):=by
 have hil:i<l.length:=(List.getElem?_eq_some_iff.1 hi.get).1;have H1:=H.knowObj hl hD rfl;have H2:=H1.knBoth (i:=i) (j:=l.length) (F:=(· ∈ Ds)) (S:=MarksS Ds) (G:=(·=D)) (T:=fun V=>V.heap[D]?=some (.deferred (some []))) (At.of_get (by rw[List.getElem?_append_left hil];exact hi.get)) (At.of_get (by rw[List.getElem?_append_right (Nat.le_refl _)];simp))
 have H3:=H2.knTo (i:=i) (F:=fun b=>b ∈ Ds∨b=D) (S:=fun V=>MarksS Ds V∧V.heap[D]?=some (.deferred (some []))) (G:=(· ∈ D::Ds)) (T:=MarksS (D::Ds)) (At.of_get (by rw[List.getElem?_set,if_pos rfl,if_pos (by simp;omega)])) (fun b hb=>(List.mem_cons.1 hb).elim (fun h=>.inr h) .inl) (fun h D' h'=>(List.mem_cons.1 h').elim (fun e=>by rw[e];exact h.2) (h.1 D')) (fun V h hV D' h'=>(hV D' h').trans (h D' h'))
 have H4:=H3.take l.length
 rwa [List.set_set,List.take_set,List.take_left]at H4
end
def waitsB (mb bA bS bM bI:Nat) (e:WV) (i:Nat):List Res :=
 [.blk bM #[.pointer (some ⟨mb,0,none⟩)] 49,.blk bA #[.int .i64 e.1] 3,.blk bI #[.int .i64 i] 3,.blk bS #[.slice e.2.2.1 e.2.1.length e.2.2.2] 27]
theorem vm_waits (mb:Nat) (e:WV) (i:Nat) (w0:World) :
  Calls Tryz.prog 35 #[.pointer (some ⟨mb,0,none⟩),.int .i64 e.1,.int .i64 i,.slice e.2.2.1 e.2.1.length e.2.2.2] w0 fun r w'=>∃ bA bS bM bI,r=.returned (.func (.func 75) #[] #[.pointer (some ⟨bA,0,none⟩),.pointer (some ⟨bS,0,none⟩),.pointer (some ⟨bM,0,none⟩),.pointer (some ⟨bI,0,none⟩)])∧Hold w0 w' (waitsB mb bA bS bM bI e i):=by
 have H:=Hold.start w0
 go_enter Tryz.func35,Tryz.ntmps35
 go_wp2_with (first|((first|((with_reducible refine kgA 4 ?_);refine kA 4 H ?_)|((with_reducible refine kgX 4 ?_);(first|refine kS 4 H ?_|refine kB 4 H ?_)));clear H;intro b4 w H;try simp only[nr]at H)|((first|((with_reducible refine kgA 5 ?_);refine kA 5 H ?_)|((with_reducible refine kgX 5 ?_);(first|refine kS 5 H ?_|refine kB 5 H ?_)));clear H;intro b5 w H;try simp only[nr]at H)|((first|((with_reducible refine kgA 6 ?_);refine kA 6 H ?_)|((with_reducible refine kgX 6 ?_);(first|refine kS 6 H ?_|refine kB 6 H ?_)));clear H;intro b6 w H;try simp only[nr]at H)|((first|((with_reducible refine kgA 7 ?_);refine kA 7 H ?_)|((with_reducible refine kgX 7 ?_);(first|refine kS 7 H ?_|refine kB 7 H ?_)));clear H;intro b7 w H;try simp only[nr]at H)|fail)
 go_ret;exact⟨_,_,_,_,rfl,H⟩
theorem Stay.exV {α:Type} {B:Nat} {I:α→World→Prop} (h:∀ x,Stay B (I x)):Stay B (fun W=>∃ x,I x W):=fun W W' row ⟨x,hx⟩ hg hr=>⟨x,h x W W' row hx hg hr⟩
theorem Stay.andV {B:Nat} {p:Prop} {I:World→Prop} (h:Stay B I):Stay B (fun W=>p∧I W):=fun W W' row ⟨h1,h2⟩ hg hr=>⟨h1,h W W' row h2 hg hr⟩
theorem Stay.ofOk {B:Nat} {p:Prop} {I:World→Prop} (h:p→Stay B I):Stay B (fun W=>p∧I W):=fun W W' row ⟨h1,h2⟩ hg hr=>⟨h1,h h1 W W' row h2 hg hr⟩
theorem lit40 (t:Array Value) (h:t.size=40):∃ x0 x1 x2 x3 x4 x5 x6 x7 x8 x9 x10 x11 x12 x13 x14 x15 x16 x17 x18 x19 x20 x21 x22 x23 x24 x25 x26 x27 x28 x29 x30 x31 x32 x33 x34 x35 x36 x37 x38 x39:Value,t=List.toArray (x0::x1::x2::x3::x4::x5::x6::x7::x8::x9::x10::x11::x12::x13::x14::x15::x16::x17::x18::x19::x20::x21::x22::x23::x24::x25::x26::x27::x28::x29::x30::x31::x32::x33::x34::x35::x36::x37::x38::x39::[]):=by
 rw[lit_get t 40 h];exact⟨_,_,_,_,_,_,_,_,_,_,_,_,_,_,_,_,_,_,_,_,_,_,_,_,_,_,_,_,_,_,_,_,_,_,_,_,_,_,_,_,rfl⟩
def leadL (mb gm mc:Nat) (pp:Option Addr) (cp:Nat) (ps:List InstD) (psl:Option Addr) (csl:Nat) (L:Str) (Fp Fs:Nat→Prop) (lv:Value) (zs:List WV) (nv:Value) (ys us:List WV) (marks:List Int):List Res :=
 [.blk mb #[lv,.slice (some ⟨gm,0,none⟩) ps.length mc,.slice pp ps.length cp,.slice psl L.length csl,nv] 54,.row (.slice (some ⟨gm,0,none⟩) ps.length mc) 3 1 ps.length (marks.map (.int .i64)),.row nv 58 2 ys.length (flatR (ys.map wayC)),
  .kn Fp (InstsR Fp pp cp ps),.kn Fs (BytesR Fs psl csl L),.kn (FW us) (WK us),.row lv 58 2 zs.length (flatR (zs.map wayC))]
def LeadB (mb gm mc:Nat) (pp:Option Addr) (cp:Nat) (ps:List InstD) (psl:Option Addr) (csl:Nat) (L:Str) (Fp Fs:Nat→Prop) (lq:Option Addr) (lc:Nat) (xs us:List WV) (m0:List Int) (ms i:Nat) (w0 w:World) (e:Ending) (w':World):Prop :=
 ∃ nq nc ys us' marks',leadP ps L i (xs.map plW) m0=(marks',ys.map plW)∧(∀ y ∈ ys,∃ u ∈ us',y.2=u.2)∧(∀ u ∈ us',u.2.1.length=ms)∧ys.length≤ps.length∧e=.returned (.tuple #[]) ∧
  Turned (fun _=>False) w0 w (leadL mb gm mc pp cp ps psl csl L Fp Fs (.slice lq xs.length lc) xs (.slice none 0 0) [] us m0) (leadL mb gm mc pp cp ps psl csl L Fp Fs (.slice lq 0 lc) [] (.slice nq ys.length nc) ys us' marks') w'
def LeadR (mb b2 gm mc:Nat) (pp:Option Addr) (cp:Nat) (ps:List InstD) (psl:Option Addr) (csl:Nat) (L:Str) (Fp Fs:Nat→Prop) (lq:Option Addr) (lc:Nat) (xs ux:List WV) (m0:List Int) (ms i B:Nat) (w0:World) (rF:Nat→Prop) (rS:World→Prop) (j:Nat) (Ds:List Nat) (w:World):Prop :=
 ∃ nq nc ys us marks,Hid (leadP ps L i ((xs.take j).map plW) m0=(marks,ys.map plW)∧(∀ y ∈ ys,∃ u ∈ us,y.2=u.2)∧(∀ u ∈ us,u.2.1.length=ms)∧marks.length=ps.length∧ys.length+unm i marks≤ps.length∧(∀ b,FW us b→FW ux b∨B≤b)∧Ds.Nodup∧(∀ D ∈ Ds,B≤D)) ∧
  Hold w0 w (memL mb (.slice lq xs.length lc) gm mc pp cp ps psl csl L Fp Fs nq nc ys us marks++[.row (.slice lq xs.length lc) 58 2 xs.length (flatR (xs.map wayC)),.blk b2 #[.pointer (some ⟨mb,0,none⟩)] 49,.kn (FW ux) (WK ux),.kn rF rS,.kn (· ∈ Ds) (MarksS Ds)])
theorem results0 {P:Program} {fn:Func} {tmps:Array Value} {w:World} (h:fn.results=#[]):(results fn tmps).run P w=.ok (.tuple #[]) w:=by simp[results,h]
def tmpN (t:Array Value) (k:Nat):Nat:=match t[k]? with|some v=>(intOf v).toNat|none=>0
theorem sub_lt1 {n j:Nat} (h:j<n):n - (((j+1:Nat):Int)).toNat<n - ((j:Nat):Int).toNat:=by omega
theorem wrap64_succ {n j:Nat} (h:j<n) (hn:n≤1000000):wrap64 ((j:Int)+1)=((j+1:Nat):Int):=by unfold wrap64;omega
theorem tmpN_of (t:Array Value) (k:Nat) (z:Int) (h:t[k]?=some (.int .i64 z)):tmpN t k=z.toNat:=by unfold tmpN;rw[h];rfl
theorem vm_lead (mb gm mc:Nat) (pp:Option Addr) (cp:Nat) (ps:List InstD) (psl:Option Addr) (csl:Nat) (L:Str) (Fp Fs:Nat→Prop) (lq:Option Addr) (lc:Nat) (xs ux:List WV) (m0:List Int) (ms i:Nat) (w0 wS:World)
  (hR:rightP ps=true) (hset:∀ x ∈ ps,SetOk x.set) (hL:L.length≤1000) (hn4:ps.length≤4000) (hi:i≤L.length) (hms:slotsP ps=ms) (hms2:ms≤42)
  (hlen:m0.length=ps.length) (hx:∀ x ∈ xs,x.1<ps.length∧∃ u ∈ ux,x.2=u.2) (hus:∀ u ∈ ux,u.2.1.length=ms) (hxn:xs.length≤1000000)
  (H0:Hold w0 wS (leadL mb gm mc pp cp ps psl csl L Fp Fs (.slice lq xs.length lc) xs (.slice none 0 0) [] ux m0)) :
  Calls Tryz.prog 22 #[.pointer (some ⟨mb,0,none⟩),.int .i64 i] wS (LeadB mb gm mc pp cp ps psl csl L Fp Fs lq lc xs ux m0 ms i w0 wS):=by
 have HW0:=Lib.hid H0.keep.size;have H:=H0.framed;clear H0;obtain⟨rF,hrF⟩:∃ rF,restF wS (leadL mb gm mc pp cp ps psl csl L Fp Fs (.slice lq xs.length lc) xs (.slice none 0 0) [] ux m0)=rF:=⟨_,rfl⟩;obtain⟨rS,hrS⟩:∃ rS,restS wS (leadL mb gm mc pp cp ps psl csl L Fp Fs (.slice lq xs.length lc) xs (.slice none 0 0) [] ux m0)=rS:=⟨_,rfl⟩;rw[hrF,hrS]at H;have hrFB:∀ b,rF b→b<wS.heap.size:=fun b hb=>by rw[← hrF]at hb;exact hb.1
 have HRF:=Lib.hid hrF;clear hrF;have HRS:=Lib.hid hrS;clear hrS;have HRB:=Lib.hid hrFB;clear hrFB;simp only[leadL,List.cons_append,List.nil_append]at H;have HFB:=Lib.hid (show (∀ b,Fp b→b<wS.heap.size)∧(∀ b,Fs b→b<wS.heap.size) from ⟨H.knlt (i:=3) i_3,H.knlt (i:=4) i_4⟩)
 have HX:=Lib.hid hx;clear hx;have HUS:=Lib.hid hus;clear hus;refine calls_of_wide ?_
 refine callsIn_of_wp_marks Tryz.func22 rfl trivial ?_ rfl;simp only[Tryz.ntmps22,List.size_toArray,List.length_cons,List.length_nil,Nat.reduceAdd,Nat.reduceSub,Array.replicate_succ,Array.replicate_zero,List.push_toArray,List.append_toArray,List.nil_append,List.cons_append];rw[wpIn_wide]
 go_wp2_with (first|((with_reducible show @wpList _ _ _ ({dst:=_,op:=Op.box _ _,type:=_,pos:=_,after:=_,guard:=_}::_) _ _);refine own_boxN wtd_ _ _ rfl evd_ H ?_;clear H;intro b2 w hb2 H;simp only[Value.cells,List.cons_append,List.nil_append]at H)|((with_reducible refine gL ?_);(first|refine own_load1 wtd_ _ _ rfl rfl H atd_ one_mach rfl ?_|refine own_load1 wtd_ _ _ rfl rfl H atd_ one_ways rfl ?_))|fail)
 have H2:=H.also (FW ux) (WK ux) (Still.at (i:=5) (S:=WK ux) i_5) (fun V hV=>(H.kn (i:=5) i_5).kept hV)
 have H3:=H2.also (· ∈ ([]:List Nat)) (MarksS []) (fun b hb=>by cases hb) (fun V hV D hD=>by cases hD)
 clear H H2;have H:=H3.pick [0,1,2,3,4,5,6,8,9,7,10] (memL mb (.slice lq xs.length lc) gm mc pp cp ps psl csl L Fp Fs none 0 [] ux m0++[.row (.slice lq xs.length lc) 58 2 xs.length (flatR (xs.map wayC)),.blk b2 #[.pointer (some ⟨mb,0,none⟩)] 49,.kn (FW ux) (WK ux),.kn rF rS,.kn (· ∈ ([]:List Nat)) (MarksS [])]) (by decide) rfl
 clear H3;have HL0:=Lib.hid (show LeadR mb b2 gm mc pp cp ps psl csl L Fp Fs lq lc xs ux m0 ms i wS.heap.size w0 rF rS 0 [] w from ⟨none,0,[],ux,m0,Lib.hid ⟨rfl,(fun y h=>by cases h),HUS.out,hlen,(by have:=unm_le i m0;simp only[List.length_nil];omega),(fun b h=>.inl h),List.nodup_nil,(fun D h=>by cases h)⟩,H⟩)
 clear H;refine wp_loop (fun a' w'=>∃ (t:Array Value) (Ds:List Nat) (j:Nat),a'={tmps:=t,defers:=marksD Ds}∧t.size=40∧t[1]?=some (.int .i64 i)∧t[2]?=some (.pointer (some ⟨b2,0,none⟩))∧t[11]?=some (.slice lq xs.length lc)∧t[12]?=some (.int .i64 xs.length)∧t[13]?=some (.int .i64 j)∧j≤xs.length∧Hid (LeadR mb b2 gm mc pp cp ps psl csl L Fp Fs lq lc xs ux m0 ms i wS.heap.size w0 rF rS j Ds w')) (fun a' w'=>xs.length - tmpN a'.tmps 13) ?start ?round
 case start=>exact⟨_,[],0,rfl,rfl,rfl,rfl,rfl,rfl,rfl,Nat.zero_le _,HL0⟩
 case round =>
  clear HL0;rintro a' w' ⟨t,Ds,j,rfl,ht,e1,e2,e11,e12,e13,hj,HLR⟩;have hl:=lit40 t ht;clear ht;obtain⟨u0,u1,u2,u3,u4,u5,u6,u7,u8,u9,u10,u11,u12,u13,u14,u15,u16,u17,u18,u19,u20,u21,u22,u23,u24,u25,u26,u27,u28,u29,u30,u31,u32,u33,u34,u35,u36,u37,u38,u39,hl⟩:=hl;subst hl;replace e1:some u1=some (.int .i64 i):=e1;replace e2:some u2=some (.pointer (some ⟨b2,0,none⟩)):=e2;replace e11:some u11=some (.slice lq xs.length lc):=e11
  replace e12:some u12=some (.int .i64 xs.length):=e12;replace e13:some u13=some (.int .i64 j):=e13
  cases e1;cases e2;cases e11;cases e12;cases e13
  obtain⟨dl,hdl⟩:∃ dl,marksD Ds=dl:=⟨_,rfl⟩;rw[hdl];have HDL:=Lib.hid hdl;clear hdl;obtain⟨nq,nc,ys,us,marks,HP,H⟩:=HLR.out;clear HLR;simp only[memL,List.cons_append,List.nil_append]at H
  by_cases hlt:j<xs.length
  ·have dj:decide ((j:Int)<(xs.length:Int))=true:=decide_eq_true (by omega)
   have dj2:decide (j<xs.length)=true:=decide_eq_true hlt;obtain⟨n,hn⟩:∃ n,xs.length=n:=⟨_,rfl⟩;obtain⟨e,he⟩:∃ e,xs[j]?=some e:=⟨_,List.getElem?_eq_getElem hlt⟩;have HE:=Lib.hid he;have HXC:=Lib.hid (show (xs.map wayC)[j]?=some (wayC e) by rw[List.getElem?_map,he];rfl)
   have HXL:=Lib.hid (show (xs.map wayC).length=n by rw[List.length_map];exact hn)
   have HN:=Lib.hid hn;rw[hn]at H hlt dj dj2 ⊢;have HJ:=Lib.hid hj;clear hj hn he;obtain⟨q0,c0,e0,_,_,hq0⟩:=H.rowShape (i:=6) i_6;simp only[Value.slice.injEq]at e0;obtain⟨rfl,_,rfl⟩:=e0;obtain⟨lg,rfl⟩:=hq0 (by omega)
   go_upto_region 3 with (first|((with_reducible refine gL ?_);(first|refine own_load1 wtd_ _ _ rfl rfl H atd_ one_mach rfl ?_|refine own_load1 wtd_ _ _ rfl rfl H atd_ one_ways rfl ?_|refine own_load1 wtd_ _ _ rfl rfl H atd_ one_int (yg0 e) ?_|refine own_load1 wtd_ _ _ rfl rfl H atd_ one_ints (yg1 e) ?_))|fail)
   refine wp_region_seq 3 [fun v _=>v=.pointer (some ⟨lg,j * 2,none⟩),fun v _=>v=.agg (wayC e),FreshB w'.heap.size #[.int .i64 0,.slice none 0 0] 58] (fun _=>false) (by kernel_rfl) (by kernel_rfl) ⟨stable_eq _,stable_eq _,stable_fresh _ _ _,trivial⟩ (fun _ _ h=>by cases h) ?ob ?en
   case ob =>
    refine⟨?_,?_,?_,trivial⟩<;>intro A W h
    ·exact rs_idx (sz:=2) Tryz.underlying50 (fun w=>by kernel_rfl) rfl rfl (h.frame 11 rfl) (h.frame 13 rfl) hlt (Nat.zero_add _) (by decide)
    ·exact rs_pure rfl (run_loadK rfl (h.dep 0 15 rfl rfl) row_Way (wayC_size e) ((H.call h.below).rowCell (i:=6) i_6 (waysX_size _) HXL.out HXC.out rfl)) (by decide)
    ·exact rs_fresh rfl rfl (by kernel_rfl) zWay h.below.size (by decide)
   case en =>
    intro vals W hbw hv _;have x2:=hv 2 (by omega);simp only[lookS]at x2
    simp only[fa,Nat.reduceAdd];rw[e_ hv 0,e_ hv 1];clear hv
    try simp only[pl]
    try simp only[pl]
    obtain⟨b5,e5,H8⟩:=H.gainB hbw x2;rw[e5];clear x2 e5 H hbw;have H:=H8;clear H8;simp only[List.cons_append,List.nil_append]at H
    go_wp2_with (first|((with_reducible refine gTw ?_);refine aTw H ?_;clear H;intro w H;simp only[List.set_cons_succ,List.set_cons_zero]at H)|((with_reducible refine gL ?_);(first|refine own_load1 wtd_ _ _ rfl rfl H atd_ one_mach rfl ?_|refine own_load1 wtd_ _ _ rfl rfl H atd_ one_ways rfl ?_|refine own_load1 wtd_ _ _ rfl rfl H atd_ one_int (yg0 e) ?_|refine own_load1 wtd_ _ _ rfl rfl H atd_ one_ints (yg1 e) ?_))|fail)
    refine(vm_waits mb e i _).mono ?_
    rintro r wB ⟨bA,bS,bM,bI,rfl,HB⟩
    go_wp2_with fail
    rename_i hKc hpz;rw[HN.out.symm]at H;have H1:=H.knApp (i:=5) (j:=8) i_5 i_8;simp only[List.set_cons_succ,List.set_cons_zero]at H1;have HM:Hold w0 w (memL mb (.slice (some ⟨lg,0,none⟩) xs.length lc) gm mc pp cp ps psl csl L Fp Fs nq nc ys (us++ux) marks):=H1.take 6;obtain⟨mF,hmF⟩:∃ mF,restF w (memL mb (.slice (some ⟨lg,0,none⟩) xs.length lc) gm mc pp cp ps psl csl L Fp Fs nq nc ys (us++ux) marks)=mF:=⟨_,rfl⟩
    obtain⟨mS,hmS⟩:∃ mS,restS w (memL mb (.slice (some ⟨lg,0,none⟩) xs.length lc) gm mc pp cp ps psl csl L Fp Fs nq nc ys (us++ux) marks)=mS:=⟨_,rfl⟩;have HF:=HM.framed;rw[hmF,hmS]at HF;have hmFB:∀ b,mF b→b<w.heap.size:=fun b hb=>by rw[← hmF]at hb;exact hb.1
    have HG:=HF.gainAll HB (by intro r hr F S e;subst e;simp[waitsB]at hr)
    have HI:Hold w0 wB (memL mb (.slice (some ⟨lg,0,none⟩) xs.length lc) gm mc pp cp ps psl csl L Fp Fs nq nc ys (us++ux) marks++itL mb bA bS bM bI e i mF mS):=HG.pick [0,1,2,3,4,5,7,8,9,10,6] _ (by decide) rfl
    have hbM:w.heap.size≤bM:=(HB.blk (i:=0) .zero).1.elim id False.elim;have hwB:w.heap.size≤wB.heap.size:=HB.below.size;have hw0:w0.heap.size≤wB.heap.size:=HI.keep.size;have hb2:b2<w.heap.size:=(Array.getElem?_eq_some_iff.1 (H1.blk (i:=7) i_7).2).1;have hokE:∀ (ys:List WV) (us:List WV) (marks:List Int) (nq:Option Addr) (nc:Nat) (ext:List Res),(∀ r ∈ ext,StayOk wB.heap.size r)→∀ r ∈ memL mb (.slice (some ⟨lg,0,none⟩) xs.length lc) gm mc pp cp ps psl csl L Fp Fs nq nc ys us marks++.kn mF mS::ext,StayOk wB.heap.size r:=by
     intro ys us marks nq nc ext hext r hr;simp only[memL,List.cons_append,List.nil_append,List.mem_cons]at hr;rcases hr with rfl|rfl|rfl|rfl|rfl|rfl|rfl|hr
     ·trivial
     ·trivial
     ·trivial
     ·exact fun V _ b hb=>.inl (by have:=HFB.out.1 b hb;omega)
     ·exact fun V _ b hb=>.inl (by have:=HFB.out.2 b hb;omega)
     ·exact stay_WK _ _
     ·exact fun V _ b hb=>.inl (by have:=hmFB b hb;omega)
     ·exact hext r hr
    have hokI:∀ (ys:List WV) (us:List WV) (marks:List Int) (nq:Option Addr) (nc:Nat),∀ r ∈ memL mb (.slice (some ⟨lg,0,none⟩) xs.length lc) gm mc pp cp ps psl csl L Fp Fs nq nc ys us marks++itL mb bA bS bM bI e i mF mS,StayOk wB.heap.size r:=by
     intro ys us marks nq nc r hr;refine hokE ys us marks nq nc (waitsB mb bA bS bM bI e i) (fun r hr=>?_) r ?_
     ·simp only[waitsB,List.mem_cons,List.not_mem_nil,or_false]at hr;rcases hr with rfl|rfl|rfl|rfl<;>trivial
     ·simp only[itL,waitsB,List.mem_append,List.mem_cons,List.not_mem_nil,or_false]at hr ⊢;rcases hr with h|h|h|h|h|h
      ·exact .inl h
      ·exact .inr (.inr (.inl h))
      ·exact .inr (.inr (.inr (.inl h)))
      ·exact .inr (.inr (.inr (.inr (.inl h))))
      ·exact .inr (.inr (.inr (.inr (.inr h))))
      ·exact .inr (.inl h)
    obtain⟨p1,p2,p3,p4,p5,p6,p7,p8⟩:=HP.out;have hxe:e ∈ xs:=List.mem_of_getElem? HE.out;have hxe2:=HX.out e hxe;have I0:ItInv ps L i (plW e) marks ys ms [e] ys (us++ux) marks (fuelP ps):=ItInv.start p4 ⟨hxe2.1,by obtain⟨u,hu,h⟩:=hxe2.2;exact⟨u,List.mem_append_right _ hu,h⟩⟩ (fun y hy=>by obtain⟨u,hu,h⟩:=p2 y hy;exact⟨u,List.mem_append_left _ hu,h⟩) (fun u hu=>(List.mem_append.1 hu).elim (p3 u) (HUS.out u)) p5
    rw[← wpIn_wide (n:=9)];refine wpIn_rangeFunc_nc (σ:=List WV × List WV × List Int × List Res) (α:=WV) rfl (by omega) (gf:=75) (lb:=#[.pointer (some ⟨bA,0,none⟩),.pointer (some ⟨bS,0,none⟩),.pointer (some ⟨bM,0,none⟩),.pointer (some ⟨bI,0,none⟩)]) rfl trivial (enters_of Tryz.func75 (by kernel_rfl) rfl) (encs:=fun x=>#[.agg (wayC x)]) (fun _=>rfl)
     (fun W=>Hold w0 W (memL mb (.slice (some ⟨lg,0,none⟩) xs.length lc) gm mc pp cp ps psl csl L Fp Fs nq nc ys (us++ux) marks++itL mb bA bS bM bI e i mF mS))
     (ItEnd mb (.slice (some ⟨lg,0,none⟩) xs.length lc) gm mc pp cp ps psl csl L Fp Fs bA bS bM bI e i mF mS ms w0 ys (us++ux) marks)
     (fun _ _=>False)
     (fun s x W=>((∃ u ∈ s.2.1,x.2=u.2)∧s.1.length<ps.length)∧(∀ r ∈ s.2.2.2,StayOk wB.heap.size r)∧∃ nq nc,Hold w0 W (memL mb (.slice (some ⟨lg,0,none⟩) xs.length lc) gm mc pp cp ps psl csl L Fp Fs nq nc s.1 s.2.1 s.2.2.1++.kn mF mS::s.2.2.2))
     (fun s x W=>(∀ r ∈ s.2.2.2,StayOk wB.heap.size r)∧∃ nq nc,Hold w0 W (memL mb (.slice (some ⟨lg,0,none⟩) xs.length lc) gm mc pp cp ps psl csl L Fp Fs nq nc (s.1++[x]) s.2.1 s.2.2.1++.kn mF mS::s.2.2.2))
     (fun s x a W=>(∀ r ∈ s.2.2.2,StayOk wB.heap.size r)∧∃ nq nc b6 t,(a={tmps:=t,defers:=[]}∧t.size=40∧t[2]?=some (.pointer (some ⟨b2,0,none⟩))∧t[6]?=some (.pointer (some ⟨b6,0,none⟩))∧s.1.length<ps.length)∧Hold w0 W (memL mb (.slice (some ⟨lg,0,none⟩) xs.length lc) gm mc pp cp ps psl csl L Fp Fs nq nc s.1 s.2.1 s.2.2.1++[.kn mF mS,.blk b6 (wayC x) 58]++s.2.2.2))
     (HoldG.stayK (hokI ys (us++ux) marks nq nc) hw0) (Stay.exV fun nq=>Stay.exV fun nc=>Stay.exV fun ys=>Stay.exV fun us=>Stay.exV fun marks=>Stay.exV fun n=>Stay.andV (Stay.andV (HoldG.stayK (hokI ys us marks nq nc) hw0))) (fun _ W W' row h _ _=>h)
     (fun s x=>Stay.ofOk fun h=>Stay.exV fun nq=>Stay.exV fun nc=>HoldG.stayK (hokE _ _ _ _ _ _ h) hw0)
     (fun s x a=>Stay.ofOk fun h=>Stay.exV fun nq=>Stay.exV fun nc=>Stay.exV fun b6=>Stay.exV fun t=>Stay.andV (HoldG.stayK (fun r hr=>by
      rcases List.mem_append.1 hr with hr|hr
      ·rcases List.mem_append.1 hr with hr|hr
       ·exact hokE _ _ _ nq nc [] (fun r hr=>by cases hr) r (List.mem_append_left _ hr)
       ·simp only[List.mem_cons,List.not_mem_nil,or_false]at hr;rcases hr with rfl|rfl
        ·exact fun V _ b hb=>.inl (by have:=hmFB b hb;omega)
        ·trivial
      ·exact h r hr) hw0))
     ?iter HI ?assign ?body ?done ?pan
    case iter =>
     intro l B hB' hY W hI hBW;refine(vm_waits1 mb (.slice (some ⟨lg,0,none⟩) xs.length lc) gm mc pp cp ps psl csl L Fp Fs bA bS bM bI e i mF mS ms w0 ys (us++ux) marks 7 hR hset hL hn4 hi hms hms2 l B wB.heap.size hB' hw0 ?_ W nq nc I0 hI hBW).mono (fun r W' h=>⟨h.1,.inl (by obtain⟨v,hv⟩:=h.2.1;exact⟨v,hv,h.2.2⟩)⟩)
     intro nq1 nc1 ys1 us1 marks1 x ext1 W1 hx hext hlen hH hBW1;exact(hY (ys1,us1,marks1,ext1) x W1 ⟨⟨hx,hlen⟩,hext,nq1,nc1,hH⟩ hBW1).mono (fun e W' h=>⟨h.1,h.2.1.2,h.2.2⟩)
    case assign =>
     rintro l ⟨ys1,us1,marks1,ext1⟩ x W ⟨⟨hx,hlen1⟩,hext,nq1,nc1,HW⟩;simp only[List.zip_toArray,List.foldl_toArray,List.zip_cons_cons,List.zip_nil_right,List.zip_nil_left,List.foldl_cons,List.foldl_nil,List.setIfInBounds_toArray,List.set_cons_succ,List.set_cons_zero];refine wpIn_region_lit (list_inRound (by rintro⟨_,_,h⟩;exact h) _ _ _ rfl ?_)
     clear H HB H1 HM HF HG HI;have H:=Hold.start W
     go_wp2_with (first|((with_reducible refine gTw ?_);refine aTw H ?_;clear H;intro w H;simp only[List.set_cons_succ,List.set_cons_zero]at H)|((first|((with_reducible refine kgA 6 ?_);refine kA 6 H ?_)|((with_reducible refine kgX 6 ?_);(first|refine kS 6 H ?_|refine kB 6 H ?_)));clear H;intro b6 w H;try simp only[nr]at H)|fail)
     refine⟨KeepsNC.of_below H.below,hext,nq1,nc1,?_⟩
     have H2:=HW.gainAll H (by intro r hr F S e;subst e;simp at hr)
     refine H2.permL ?_
     rw[List.append_assoc];exact List.Perm.append_left _ (.cons _ List.perm_append_comm)
    case body =>
     rintro l ⟨ys1,us1,marks1,ext1⟩ x a1 Wb ⟨hext,nq1,nc1,b6,t,⟨rfl,ht,f2,f6,hlen1⟩,HY⟩;have hl:=lit40 t ht;clear ht;obtain⟨v0,v1,v2,v3,v4,v5,v6,v7,v8,v9,v10,v11,v12,v13,v14,v15,v16,v17,v18,v19,v20,v21,v22,v23,v24,v25,v26,v27,v28,v29,v30,v31,v32,v33,v34,v35,v36,v37,v38,v39,hl⟩:=hl;subst hl;replace f2:some v2=some (.pointer (some ⟨b2,0,none⟩)):=f2;replace f6:some v6=some (.pointer (some ⟨b6,0,none⟩)):=f6
     cases f2;cases f6
     have hb2F:restF w (memL mb (.slice (some ⟨lg,0,none⟩) xs.length lc) gm mc pp cp ps psl csl L Fp Fs nq nc ys (us++ux) marks) b2:=by
      refine⟨hb2,fun r hr h=>?_⟩
      obtain⟨k,hk⟩:=List.getElem?_of_mem hr;have hk6:k<6:=(List.getElem?_eq_some_iff.1 hk).1;exact H1.apart k 7 r _ (by omega) (by rw[← hk];match k,hk6 with|0,_=>rfl|1,_=>rfl|2,_=>rfl|3,_=>rfl|4,_=>rfl|5,_=>rfl) rfl b2 h rfl
     have hB2:∀ V,mS V→V.heap[b2]?=some (.cells #[.pointer (some ⟨mb,0,none⟩)] 49 (0,0)):=by
      intro V hV;rw[← hmS]at hV;exact(hV b2 hb2F).trans (H1.blk (i:=7) i_7).2
     clear H HB H1 HM HF HG HI;have HA:=HY.left;obtain⟨rF2,hrF2⟩:∃ zF,restF Wb (memL mb (.slice (some ⟨lg,0,none⟩) xs.length lc) gm mc pp cp ps psl csl L Fp Fs nq1 nc1 ys1 us1 marks1++[.kn mF mS,.blk b6 (wayC x) 58])=zF:=⟨_,rfl⟩;obtain⟨rS2,hrS2⟩:∃ zF,restS Wb (memL mb (.slice (some ⟨lg,0,none⟩) xs.length lc) gm mc pp cp ps psl csl L Fp Fs nq1 nc1 ys1 us1 marks1++[.kn mF mS,.blk b6 (wayC x) 58])=zF:=⟨_,rfl⟩
     have HA2:=HA.framed;rw[hrF2,hrS2]at HA2;have HA3:=HA2.knowNC (by intro r hr b es c e;subst e;simp[memL]at hr) wB.heap.size
     have HMS:=HA3.kn (i:=6) i_6;have hmb2:mF b2:=by rw[← hmF];exact hb2F
     have H:=HA3.also (·=b2) (fun V=>V.cell? ⟨b2,0,none⟩=some (.pointer (some ⟨mb,0,none⟩))) (fun b hb=>Still.at (i:=6) (S:=mS) i_6 b (by rw[hb];exact hmb2)) (fun V hV=>by have:=(hV b2 rfl).trans (hB2 _ HMS);exact cell_of_row V b2 0 _ _ _ this)
     clear HA HA2 HA3;simp only[memL,List.cons_append,List.nil_append]at H;obtain⟨iw,hiw,hi0,hi1,hi2⟩:=info_parts info_way;have hyl:ys1.length+1≤maxLen∧(ys1.length+1) * 32≤140737488355328:=⟨way_room (Nat.le_of_lt (Nat.lt_of_lt_of_le hlen1 (Nat.le_trans hn4 (by decide)))) (by decide),way_roomB (Nat.le_of_lt (Nat.lt_of_lt_of_le hlen1 (Nat.le_trans hn4 (by decide)))) (by decide)⟩
     have HYL:=Lib.hid hyl;clear hyl;refine wpIn_block ?_
     clear dj dj2 hlt;refine wpIn_round_late 7 0 [fun v _=>v=.pointer (some ⟨mb,0,none⟩),fun v _=>v=.pointer (some ⟨mb,0,none⟩),fun v _=>v=.pointer (some ⟨mb,0,none⟩),fun v _=>v=.pointer (some ⟨mb,4,none⟩),fun v _=>v=.slice nq1 ys1.length nc1,fun v _=>v=.agg (wayC x),FreshS Wb.heap.size (wayC x) 58] (fun _=>false) (by kernel_rfl) (by rintro⟨_,_,h⟩;exact h) rfl (by kernel_rfl) (by kernel_rfl) (by repeat (first|exact trivial|refine⟨stable_eq _,?_⟩|refine⟨stable_freshS _ _ _,?_⟩)) (fun _ _ h=>by cases h) ?ob ?en ?en2
     case ob =>
      refine⟨?_,?_,?_,?_,?_,?_,?_,trivial⟩<;>intro A W h
      ·exact rs_pure rfl (run_load1K rfl (h.frame 2 rfl) one_mach ((H.call h.below).kn (i:=10) i_10)) (by decide)
      ·exact rs_pure rfl (run_load1K rfl (h.frame 2 rfl) one_mach ((H.call h.below).kn (i:=10) i_10)) (by decide)
      ·(have e26:A.eval (.tmp 26)=.pointer (some ⟨mb,0,none⟩):=h.dep 1 26 rfl rfl;refine rs_pure rfl ?_;simp only[execOp,e26];(simp[go_sem]<;>first|done|omega|(rw[IntKind.wrap_i64];omega)|(rw[IntKind.wrap_u8];omega)|(rw[IntKind.wrap_u64];omega)))
      ·(have e27:A.eval (.tmp 27)=.pointer (some ⟨mb,0,none⟩):=h.dep 2 27 rfl rfl;refine rs_pure rfl ?_;simp only[execOp,e27];(simp[go_sem]<;>first|done|omega|(rw[IntKind.wrap_i64];omega)|(rw[IntKind.wrap_u8];omega)|(rw[IntKind.wrap_u64];omega)))
      ·exact rs_pure rfl (run_load1K rfl (h.dep 3 28 rfl rfl) one_ways ((H.call h.below).cell (i:=0) .zero 4)) (by decide)
      ·exact rs_pure rfl (run_loadK rfl (h.frame 6 rfl) row_Way (wayC_size x) (fun j _=>by rw[Nat.zero_add];exact(H.call h.below).cell (i:=7) i_7 j)) (by decide)
      ·exact rs_way1 rfl rfl (h.dep 5 30 rfl rfl) h.below.size (by decide)
     case en =>
      intro vals W9 hbw hv _;have x6:=hv 6 (by omega);simp only[lookS]at x6
      simp only[fa,Nat.reduceAdd];rw[e_ hv 0,e_ hv 1,e_ hv 2,e_ hv 3,e_ hv 4,e_ hv 5];clear hv
      try simp only[pl]
      try simp only[pl]
      obtain⟨bk,e6,H8⟩:=H.gainS2 hbw x6;rw[e6];clear x6 e6 H hbw;have H:=H8;clear H8;simp only[List.cons_append,List.nil_append]at H
      go_wp2_with (first|(at_builtin;refine own_append rfl _ _ 50 rfl H (i:=2) (j:=11) evd_ rfl i_2 i_11 Tryz.underlying50 hiw hi0 hi1 hi2 rfl (by decide) rfl rfl HYL.out.1 HYL.out.2 ?_;clear H;intro v2 w H;simp only[List.set_cons_succ,List.set_cons_zero]at H;(obtain⟨q2,c2,rfl,_,_,_⟩:=H.rowShape (i:=2) i_2))|((with_reducible refine gL ?_);refine own_load1K wtd_ _ _ rfl rfl one_mach (H.kn (i:=10) i_10) ?_)|((with_reducible refine gT ?_);refine own_store1 wtd_ _ _ _ rfl rfl evd_ H (i:=0) .zero rfl (by show 4<5;omega) (one_size one_ways) ?_;clear H;intro w H;simp only[List.setIfInBounds_toArray,List.set_cons_succ,List.set_cons_zero]at H)|fail)
      rw[flatW_put,show ys1.length+1=(ys1++[x]).length by simp,← hrF2,← hrS2]at H
      have T:=Turned.of (l2:=memL mb (.slice (some ⟨lg,0,none⟩) xs.length lc) gm mc pp cp ps psl csl L Fp Fs q2 c2 (ys1++[x]) us1 marks1++[.kn mF mS]) H (i:=8) i_8 [0,1,2,3,4,5,6] (by decide) (by decide) rfl (by intro F S hm b hb;refine .inl ⟨.kn F S,?_,hb⟩;simp only[memL,List.cons_append,List.nil_append,List.mem_cons,List.not_mem_nil,or_false,reduceCtorEq,false_or]at hm ⊢;rcases hm with h|h|h|h<;>simp[h])
      have H2:=HY.callL T;rw[List.append_assoc]at H2;exact⟨(H.kn (i:=9) i_9).keeps,hext,q2,c2,H2⟩
     case en2 =>
      intro vals W9 hbw hv _;have v1:vals 1=_:=hv 1 (by omega) (by omega)
      have v2:vals 2=_:=hv 2 (by omega) (by omega)
      have v3:vals 3=_:=hv 3 (by omega) (by omega)
      have v4:vals 4=_:=hv 4 (by omega) (by omega)
      have v5:vals 5=_:=hv 5 (by omega) (by omega)
      have x6:=hv 6 (by omega) (by omega);simp only[lookS]at x6
      simp only[List.take_succ_cons,List.take_zero,List.drop_succ_cons,List.drop_zero,List.drop_nil,List.take_nil,fillBut,lateL,List.cons_append,List.nil_append,Nat.reduceEqDiff,if_true,if_false,reduceCtorEq,Nat.zero_add,Nat.reduceAdd];rw[v1,v2,v3,v4,v5];clear hv v1 v2 v3 v4 v5
      try simp only[pl]
      try simp only[pl]
      obtain⟨bk,e6,H8⟩:=H.gainS2 hbw x6;rw[e6];clear x6 e6 H hbw;have H:=H8;clear H8;simp only[List.cons_append,List.nil_append]at H
      go_wp2_with (first|(at_builtin;refine own_append rfl _ _ 50 rfl H (i:=2) (j:=11) evd_ rfl i_2 i_11 Tryz.underlying50 hiw hi0 hi1 hi2 rfl (by decide) rfl rfl HYL.out.1 HYL.out.2 ?_;clear H;intro v2 w H;simp only[List.set_cons_succ,List.set_cons_zero]at H;(obtain⟨q2,c2,rfl,_,_,_⟩:=H.rowShape (i:=2) i_2))|((with_reducible refine gL ?_);refine own_load1K wtd_ _ _ rfl rfl one_mach (H.kn (i:=10) i_10) ?_)|((with_reducible refine gT ?_);refine own_store1 wtd_ _ _ _ rfl rfl evd_ H (i:=0) .zero rfl (by show 4<5;omega) (one_size one_ways) ?_;clear H;intro w H;simp only[List.setIfInBounds_toArray,List.set_cons_succ,List.set_cons_zero]at H)|fail)
      rw[flatW_put,show ys1.length+1=(ys1++[x]).length by simp,← hrF2,← hrS2]at H
      have T:=Turned.of (l2:=memL mb (.slice (some ⟨lg,0,none⟩) xs.length lc) gm mc pp cp ps psl csl L Fp Fs q2 c2 (ys1++[x]) us1 marks1++[.kn mF mS]) H (i:=8) i_8 [0,1,2,3,4,5,6] (by decide) (by decide) rfl (by intro F S hm b hb;refine .inl ⟨.kn F S,?_,hb⟩;simp only[memL,List.cons_append,List.nil_append,List.mem_cons,List.not_mem_nil,or_false,reduceCtorEq,false_or]at hm ⊢;rcases hm with h|h|h|h<;>simp[h])
      have H2:=HY.callL T;rw[List.append_assoc]at H2;exact⟨(H.kn (i:=9) i_9).keeps,hext,q2,c2,H2⟩
    case done =>
     rintro D W hD ⟨nq',nc',ys',us',marks',n',I,hFW,HW⟩ hK;rw[← hmF,← hmS]at HW;have T:Turned (fun _=>False) w0 w (memL mb (.slice (some ⟨lg,0,none⟩) xs.length lc) gm mc pp cp ps psl csl L Fp Fs nq nc ys (us++ux) marks) (memL mb (.slice (some ⟨lg,0,none⟩) xs.length lc) gm mc pp cp ps psl csl L Fp Fs nq' nc' ys' us' marks') W:=by
      refine Turned.of HW (i:=10) i_10 [0,1,2,3,4,5] (by decide) (by decide) rfl ?_
      intro F S hm b hb;simp only[memL,List.mem_cons,List.not_mem_nil,or_false,reduceCtorEq,false_or,Res.kn.injEq]at hm;rcases hm with ⟨e,_⟩|⟨e,_⟩|⟨e,_⟩<;>rw[e]at hb
      ·exact .inl ⟨.kn Fp (InstsR Fp pp cp ps),by simp[memL],hb⟩
      ·exact .inl ⟨.kn Fs (BytesR Fs psl csl L),by simp[memL],hb⟩
      ·exact(hFW b hb).imp (fun h=>⟨.kn (FW (us++ux)) (WK (us++ux)),by simp[memL],h⟩) (fun h=>by omega)
     have H2:=HoldG.callL (a:=memL mb (.slice (some ⟨lg,0,none⟩) xs.length lc) gm mc pp cp ps psl csl L Fp Fs nq nc ys (us++ux) marks) (ext:=[.row (.slice (some ⟨lg,0,none⟩) xs.length lc) 58 2 xs.length (flatR (xs.map wayC)),.blk b2 #[.pointer (some ⟨mb,0,none⟩)] 49,.kn (FW ux) (WK ux),.kn rF rS,.kn (· ∈ Ds) (MarksS Ds),.blk b5 (wayC e) 58]) H1 T;simp only[memL,List.cons_append,List.nil_append]at H2
     have hMD:∀ D ∈ Ds,D<w.heap.size:=H1.knlt (i:=10) i_10;have H3:=H2.markD (by intro r hr b es c e;subst e;simp at hr) (i:=10) i_10 hK
     simp only[List.set_cons_succ,List.set_cons_zero]at H3;have H4:=H3.take 11
     have hnx:Hid (LeadR mb b2 gm mc pp cp ps psl csl L Fp Fs (some ⟨lg,0,none⟩) lc xs ux m0 ms i wS.heap.size w0 rF rS (j+1) (D::Ds) W):=Lib.hid ⟨nq',nc',ys',us',marks',Lib.hid (by
      obtain⟨d1,d2⟩:=I.done;refine⟨?_,I.got,I.size,I.len,I.room,fun b hb=>?_,List.nodup_cons.2 ⟨fun h=>by have:=hMD D h;omega,p7⟩,fun D' h=>(List.mem_cons.1 h).elim (fun h=>by omega) (p8 D')⟩
      ·have hj1:(xs.take (j+1))=xs.take j++[e]:=by rw[List.take_add_one,HE.out];rfl
       rw[hj1,List.map_append,List.map_cons,List.map_nil,lead_snoc,p1,d1,d2]
      ·rcases hFW b hb with h|h
       ·exact h.app.elim (p6 b) .inl
       ·exact .inr (by omega)),H4⟩
     refine hKc _ _ ?_
     clear H HB H1 HM HF HG HI H2 H3 H4 T I hokE hokI I0 HW
     go_wp2_with fail
     have hn9:n≤1000000:=by rw[← HN.out];exact hxn
     have hw:=wrap64_succ hlt hn9;simp only[hw];refine⟨⟨_,D::Ds,j+1,by rw[← HDL.out];rfl,rfl,rfl,rfl,rfl,rfl,rfl,Nat.succ_le_of_lt hlt,hnx⟩,?_⟩
     rw[tmpN_of _ 13 ((j+1:Nat):Int) rfl,tmpN_of _ 13 (j:Int) rfl];exact sub_lt1 hlt
    case pan=>exact fun D ch W _ h _=>h.elim
  ·have dj:decide ((j:Int)<(xs.length:Int))=false:=decide_eq_false (by omega)
   have dj2:decide (j<xs.length)=false:=decide_eq_false hlt
   go_wp2_with (first|((with_reducible refine gL ?_);(first|refine own_load1 wtd_ _ _ rfl rfl H atd_ one_mach rfl ?_|refine own_load1 wtd_ _ _ rfl rfl H atd_ one_ways rfl ?_))|fail)
   refine(vm_begun mb lq xs.length lc (.slice (some ⟨gm,0,none⟩) ps.length mc) (.slice pp ps.length cp) (.slice psl L.length csl) (.slice nq ys.length nc) (flatR (xs.map wayC)) (H.pick [0,6] _ (by decide) rfl)).mono ?_
   rintro e w ⟨rfl,T⟩;have H2:=H.callIn (l3:=[.row (.slice (some ⟨gm,0,none⟩) ps.length mc) 3 1 ps.length (marks.map (.int .i64)),.row (.slice nq ys.length nc) 58 2 ys.length (flatR (ys.map wayC)),.kn Fp (InstsR Fp pp cp ps),.kn Fs (BytesR Fs psl csl L),.kn (FW us) (WK us),.blk b2 #[.pointer (some ⟨mb,0,none⟩)] 49,.kn (FW ux) (WK ux),.kn rF rS,.kn (· ∈ Ds) (MarksS Ds)]) T [0,6] [1,2,3,4,5,7,8,9,10] rfl rfl (by decide) (by decide)
   clear H T;have H:=H2;clear H2;simp only[List.cons_append,List.nil_append]at H
   go_wp2_with fail
   rw[← HDL.out];obtain⟨p1,p2,p3,p4,p5,p6,p7,p8⟩:=HP.out;have hjn:xs.take j=xs:=List.take_of_length_le (by omega)
   rw[hjn]at p1;have HM:=H.kn (i:=10) i_10;have H2:=H.pick [0,2,3,4,5,6,1,9] (leadL mb gm mc pp cp ps psl csl L Fp Fs (.slice lq 0 lc) [] (.slice nq ys.length nc) ys us marks++[.kn rF rS]) (by decide) rfl
   refine leaves_marks (B:=wS.heap.size) (I:=fun W=>Hold w0 W (leadL mb gm mc pp cp ps psl csl L Fp Fs (.slice lq 0 lc) [] (.slice nq ys.length nc) ys us marks++[.kn rF rS])) (HoldG.stayK (fun r hr=>?_) HW0.out) Ds _ H2 p7 p8 HM ?_
   ·simp only[leadL,List.cons_append,List.nil_append,List.mem_cons,List.not_mem_nil,or_false]at hr;rcases hr with rfl|rfl|rfl|rfl|rfl|rfl|rfl|rfl
    ·trivial
    ·trivial
    ·trivial
    ·exact fun V _ b hb=>.inl (HFB.out.1 b hb)
    ·exact fun V _ b hb=>.inl (HFB.out.2 b hb)
    ·exact stay_WK _ _
    ·trivial
    ·exact fun V _ b hb=>.inl (HRB.out b hb)
   ·intro W' H';refine⟨.tuple #[],results0 rfl,nq,nc,ys,us,marks,p1,p2,p3,by omega,rfl,?_⟩
    rw[← HRF.out,← HRS.out]at H';refine Turned.of H' (i:=7) i_7 [0,1,2,3,4,5,6] (by decide) (by decide) rfl ?_
    intro F S hm b hb;simp only[leadL,List.mem_cons,List.not_mem_nil,or_false,reduceCtorEq,false_or,Res.kn.injEq]at hm;rcases hm with ⟨e,_⟩|⟨e,_⟩|⟨e,_⟩<;>rw[e]at hb
    ·exact .inl ⟨.kn Fp (InstsR Fp pp cp ps),by simp[leadL],hb⟩
    ·exact .inl ⟨.kn Fs (BytesR Fs psl csl L),by simp[leadL],hb⟩
    ·exact(p6 b hb).imp (fun h=>⟨.kn (FW ux) (WK ux),by simp[leadL],h⟩) id
end Go.Proofs.YtdoflhjhaciepaaGreat
namespace Go.Proofs.YtdoflhjhaciepaaGreat
open Go.RowKit
def withinI (n:Nat) (v:Int):Int:=min (max v 0) (n - 1)
def bareP (n:Nat) (x:InstD):InstD × Bool :=
 if x.kind=1 then ({kind:=x.kind,set:=x.set,next:=withinI n x.next},!eqS x.set emptyS)
 else if x.kind=2 then ({kind:=x.kind,next:=withinI n x.next,other:=withinI n x.other},true)
 else if x.kind=3 then ({kind:=x.kind,slot:=min (max x.slot 0) 41,next:=withinI n x.next},true)
 else if x.kind=4 then ({kind:=x.kind,spot:=min (max x.spot 8) 13,next:=withinI n x.next},true)
 else if x.kind=5∨x.kind=6 then ({kind:=x.kind},true)
 else ({kind:=x.kind},false)
def eqI (x y:InstD):Bool:=(x.kind == y.kind)&&(eqS x.set y.set&&((x.next == y.next)&&((x.other == y.other)&&((x.slot == y.slot)&&(x.spot == y.spot)))))
theorem bare_right (n:Nat) (hn:0<n) (x:InstD):((bareP n x).2&&eqI x (bareP n x).1)=rightI n x:=by
 obtain⟨k,s,a,b,c,d⟩:=x;unfold bareP rightI inN withinI eqI;have hs:eqS s s=true:=eqS_refl s;simp only
 by_cases h1:k=1
 ·subst h1;simp only[if_true,hs]
  generalize eqS s emptyS=q
  rw[Bool.eq_iff_iff];cases q<;>simp<;>omega
 by_cases h2:k=2
 ·subst h2;simp only[if_true];simp only[show ¬ (2:Int)=1 by decide,if_false]
  generalize eqS s emptyS=q
  rw[Bool.eq_iff_iff];cases q<;>simp<;>omega
 by_cases h3:k=3
 ·subst h3;simp only[show ¬ (3:Int)=1 by decide,show ¬ (3:Int)=2 by decide,if_false,if_true]
  generalize eqS s emptyS=q
  rw[Bool.eq_iff_iff];cases q<;>simp<;>omega
 by_cases h4:k=4
 ·subst h4;simp only[show ¬ (4:Int)=1 by decide,show ¬ (4:Int)=2 by decide,show ¬ (4:Int)=3 by decide,if_false,if_true]
  generalize eqS s emptyS=q
  rw[Bool.eq_iff_iff];cases q<;>simp<;>omega
 by_cases h5:k=5∨k=6
 ·simp only[if_neg h1,if_neg h2,if_neg h3,if_neg h4,if_pos h5]
  generalize eqS s emptyS=q
  rw[Bool.eq_iff_iff];cases q<;>simp
  intros;constructor<;>(intros;omega)
 ·simp only[if_neg h1,if_neg h2,if_neg h3,if_neg h4,if_neg h5];rfl
end Go.Proofs.YtdoflhjhaciepaaGreat
namespace Go.Proofs.YtdoflhjhaciepaaGreat
open Go.RowKit Go.MapKept
def Sub (d:TypeDesc) (F:Value→Option Value) (es:Array MapEntry):Prop:=∀ e ∈ es.toList,IsKey d e.key∧F e.key=some e.val
def HasK (es:Array MapEntry) (k:Value):Prop:=∃ e ∈ es.toList,e.key=k
section
variable {P:Program} {w:World} {T kt et:TypeId} {d:TypeDesc} {F:Value→Option Value} {es:Array MapEntry} {c mb:Nat}
end
structure RelM (d:TypeDesc) (F:Value→Option Value) (n0:Nat) (w w':World):Prop where
 os:w'.os=w.os
 tape:w'.tape=w.tape
 output:w'.output=w.output
 size:w.heap.size≤w'.heap.size
 block:∀ k,k<w.heap.size→w'.heap[k]?=w.heap[k]?∨(n0≤k∧∃ es c es' c',w.heap[k]?=some (.map es c)∧w'.heap[k]?=some (.map es' c')∧(Sub d F es→Sub d F es'∧∀ x,HasK es x→HasK es' x))
section
variable {d:TypeDesc} {F:Value→Option Value} {n0:Nat}
theorem RelM.refl (w:World):RelM d F n0 w w:=⟨rfl,rfl,rfl,Nat.le_refl _,fun _ _=>.inl rfl⟩
theorem RelM.trans (u v w:World) (h:RelM d F n0 u v) (k:RelM d F n0 v w):RelM d F n0 u w:=by
 refine⟨k.os.trans h.os,k.tape.trans h.tape,k.output.trans h.output,Nat.le_trans h.size k.size,fun i hi=>?_⟩
 rcases h.block i hi with e1|⟨hn,es,c,es',c',e1,e2,e3⟩
 ·rcases k.block i (Nat.lt_of_lt_of_le hi h.size) with e2|⟨hn,es,c,es',c',f1,f2,f3⟩
  ·exact .inl (e2.trans e1)
  ·exact .inr ⟨hn,es,c,es',c',e1 ▸ f1,f2,f3⟩
 ·rcases k.block i (Nat.lt_of_lt_of_le hi h.size) with f1|⟨_,fs,x,fs',x',f1,f2,f3⟩
  ·exact .inr ⟨hn,es,c,es',c',e1,f1.trans e2,e3⟩
  ·rw[e2]at f1;cases f1
   exact .inr ⟨hn,es,c,fs',x',e1,f2,fun hs=>⟨(f3 (e3 hs).1).1,fun y hy=>(f3 (e3 hs).1).2 y ((e3 hs).2 y hy)⟩⟩
theorem RelM.of_below {w w':World} (h:Below w.heap.size w w'):RelM d F n0 w w':=⟨h.os,h.tape,h.output,h.size,fun k hk=>.inl (h.block k hk)⟩
theorem RelM.below {w w':World} (h:RelM d F w.heap.size w w'):Below w.heap.size w w' :=
 ⟨h.os,h.tape,h.output,h.size,fun k hk=>by rcases h.block k hk with e|⟨hn,_⟩;exact e;omega⟩
theorem RelM.cells {w w':World} (h:RelM d F n0 w w') {b:Nat} {cs:Array Value} {T:TypeId} {f:Nat × Nat} (hb:w.heap[b]?=some (.cells cs T f)):w'.heap[b]?=some (.cells cs T f):=by
 rcases h.block b (Array.getElem?_eq_some_iff.1 hb).1 with e|⟨_,es,c,es',c',e,_⟩
 ·exact e.trans hb
 ·rw[hb]at e;cases e
theorem RelM.cell {w w':World} (h:RelM d F n0 w w') {a:Addr} {v:Value} (hb:w.cell? a=some v):w'.cell? a=some v:=by
 rcases h.block a.block (by
  rcases Nat.lt_or_ge a.block w.heap.size with h1|h1
  ·exact h1
  ·unfold World.cell? at hb;simp[Array.getElem?_eq_none h1]at hb) with e|⟨_,es,c,es',c',e,_⟩
 ·unfold World.cell? at hb ⊢;rw[e];exact hb
 ·unfold World.cell? at hb;simp[e]at hb
section
variable {P:Program} {ops:Array Oper} {o:Oper} {a:Act} {w:World} {R:World→World→Prop} {S:Value→World→Prop}
theorem rm_of {t:Tmp} (hd:o.dst=some t) (h:QStep P ops R o a w S):QStep P ops R o a w (fun v w'=>S v w'∧(o.dst=none→v=ghost o a)):=by
 have hn:∀ v:Value,o.dst=none→v=ghost o a:=fun v e=>by rw[hd]at e;cases e
 unfold QStep at h ⊢;split at h
 ·rename_i hw;rw[if_pos hw];exact Oper.wp_mono (fun a' w' ⟨v,e,h1,h2⟩=>⟨v,e,h1,h2,hn v⟩) h
 ·rename_i hw;rw[if_neg hw];exact⟨h,hn _⟩
end
end
end Go.Proofs.YtdoflhjhaciepaaGreat
namespace Go.Proofs.YtdoflhjhaciepaaGreat
open Go.RowKit
structure RelS (b0:Nat) (C:Array Value) (T:TypeId) (w w':World):Prop where
 os:w'.os=w.os
 tape:w'.tape=w.tape
 output:w'.output=w.output
 size:w.heap.size≤w'.heap.size
 old:∀ k,k<w.heap.size→k≠b0→w'.heap[k]?=w.heap[k]?
 at0:w'.heap[b0]?=w.heap[b0]?∨w'.heap[b0]?=some (.cells C T (0,0))∨w.heap.size≤b0
section
variable {b0:Nat} {C:Array Value} {T:TypeId}
theorem RelS.refl (w:World):RelS b0 C T w w:=⟨rfl,rfl,rfl,Nat.le_refl _,fun _ _ _=>rfl,.inl rfl⟩
theorem RelS.trans (u v w:World) (h:RelS b0 C T u v) (k:RelS b0 C T v w):RelS b0 C T u w:=by
 refine⟨k.os.trans h.os,k.tape.trans h.tape,k.output.trans h.output,Nat.le_trans h.size k.size,fun i h1 h2=>(k.old i (Nat.lt_of_lt_of_le h1 h.size) h2).trans (h.old i h1 h2),?_⟩
 have:=h.size;rcases k.at0 with e|e|e
 ·rcases h.at0 with f|f|f
  ·exact .inl (e.trans f)
  ·exact .inr (.inl (e.trans f))
  ·exact .inr (.inr f)
 ·exact .inr (.inl e)
 ·exact .inr (.inr (by omega))
theorem RelS.drew (w:World):RelS b0 C T w {w with drawn:=w.drawn+1}:=⟨rfl,rfl,rfl,Nat.le_refl _,fun _ _ _=>rfl,.inl rfl⟩
theorem RelS.of_below {w w':World} (h:Below w.heap.size w w'):RelS b0 C T w w':=⟨h.os,h.tape,h.output,h.size,fun k hk _=>h.block k hk,by
 by_cases hb:b0<w.heap.size
 ·exact .inl (h.block b0 hb)
 ·exact .inr (.inr (by omega))⟩
def LaidS (b0:Nat) (C:Array Value) (T:TypeId) (v:Value) (w:World):Prop:=v=.pointer (some ⟨b0,0,none⟩)∧w.heap[b0]?=some (.cells C T (0,0))
theorem stable_laidS:StableR (RelS b0 C T) (LaidS b0 C T):=fun v w w' ⟨e,h⟩ hr=>⟨e,by
 have hlt:=(Array.getElem?_eq_some_iff.1 h).1;rcases hr.at0 with f|f|f
 ·exact f.trans h
 ·exact f
 ·omega⟩
theorem HoldG.relS {M:Nat→Prop} {w0 w W:World} {l:List Res} (H:HoldG M w0 w l) {i:Nat} {cs:Array Value} (hi:At l i (.blk b0 cs T)) (hr:RelS b0 C T w W):∃ ds,(ds=cs∨ds=C)∧HoldG M w0 W (l.set i (.blk b0 ds T)):=by
 have hb:=H.blk hi;have hlt:=(Array.getElem?_eq_some_iff.1 hb.2).1;have hg:w.grownBy W (some b0):=⟨hr.os,hr.tape,hr.output,hr.size,fun k h1 h2=>hr.old k h1 (fun e=>h2 (by rw[e]))⟩
 rcases hr.at0 with f|f|f
 ·exact⟨cs,.inl rfl,H.upd hi.get hg ⟨hb.1,f.trans hb.2⟩ (fun _ e=>.inl e)⟩
 ·exact⟨C,.inr rfl,H.upd hi.get hg ⟨hb.1,f⟩ (fun _ e=>.inl e)⟩
 ·omega
theorem HoldG.laidS {M:Nat→Prop} {w0 w W:World} {l:List Res} (H:HoldG M w0 w l) {i:Nat} {cs:Array Value} (hi:At l i (.blk b0 cs T)) (hr:RelS b0 C T w W) {v:Value} (h:LaidS b0 C T v W):HoldG M w0 W (l.set i (.blk b0 C T)) :=
 H.upd hi.get ⟨hr.os,hr.tape,hr.output,hr.size,fun k h1 h2=>hr.old k h1 (fun e=>h2 (by rw[e];rfl))⟩ ⟨(H.blk hi).1,h.2⟩ (fun _ e=>.inl e)
theorem rs_laid {P:Program} {ops:Array Oper} {o:Oper} {a:Act} {w:World} {S:TypeId} {m:Tmp} {y:Operand} (hg:Region.wanted o (yielded ops a.tmps)=true) (hop:o.op=.store S (.tmp m) y) (hdst:o.dst=none) (hm:a.eval (.tmp m)=.pointer (some ⟨b0,0,none⟩)) {cs:Array Value} (hb:w.heap[b0]?=some (.cells cs T (0,0))) (hs:cs.size=C.size) (hy:a.eval y=.agg C) (hT:sizeB P S C.size=true) (h1:C.toList.all (·.oneCell')=true) :
  QStep P ops (RelS b0 C T) o a w (fun v w'=>LaidS b0 C T v w'∧(o.dst=none→v=ghost o a)):=by
 have hth:w.there b0 0 C.size:=fun j hj=>by
  rw[cell_of_row w b0 (0+j) cs T (0,0) hb];simp[World.frozen?,hb];omega
 unfold QStep;rw[if_pos hg];unfold Oper.wp;have hr':(execOp a.eval o).run P w=.ok .skip (w.setCells b0 0 C.toList):=by
  unfold execOp;simp only[hop,hm,hy,Instr.storeAt,Instr.sureAddr,Sem.run_bind,Sem.run_pure,Result.andThen_ok,run_storeVar_mid (P:=P) w b0 0 S C hth (by simpa [sizeB] using hT) (by rw[Array.all_toList]at h1;exact h1)]
 rw[hr'];simp only[Oper.upon];have hg2:=setCells_grown C.toList 0 w b0;have hh:=heap_setCells C.toList 0 w b0 cs T _ hb;rw[setSeg_whole (by omega)]at hh
 refine⟨.pointer (some ⟨b0,0,none⟩),(by rw[hdst];rfl),⟨hg2.os,hg2.tape,hg2.output,hg2.size,fun j hj hne=>hg2.block j hj (fun e=>by cases e;exact hne rfl),.inr (.inl hh)⟩,⟨rfl,hh⟩,fun _=>?_⟩
 unfold ghost ownT;rw[hop];exact hm.symm
end
end Go.Proofs.YtdoflhjhaciepaaGreat
