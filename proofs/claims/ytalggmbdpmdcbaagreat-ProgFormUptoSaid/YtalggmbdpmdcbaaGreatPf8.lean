/-
  Laws of walks, and walks.
-/
import Derived.Test.YtalggmbdpmdcbaaGreatPf6
import Derived.OrdersIn
import Derived.Test.YtalggmbdpmdcbaaGreatPf2
import Derived.RangeFuncLeaves
set_option linter.unusedVariables false
set_option linter.unusedSimpArgs false
set_option maxRecDepth 100000
set_option maxHeartbeats 16000000
namespace Go.Proofs.YtalggmbdpmdcbaaGreat
section
open Go.RowKit
def zIe (md:Region.Mode) (ops:Array Oper):List Nat->Array Bool->Bool
 | [],listed=>(Region.ready md ops listed).isEmpty
 | i::r,listed=>decide (Region.ready md ops listed=[i])&&zIe md ops r (listed.setIfInBounds i true)
theorem zEJ {P:Program} {md:Region.Mode} {ops:Array Oper} {Q:Exit->Act->World->Prop}:∀ (is:List Nat) (os:List Oper) (listed:Array Bool) (a:Act) (w:World),os.length=is.length->(∀ (j i:Nat),is[j]?=some i->ops[i]?=os[j]?) ->
  zIe md ops is listed=true->wpList P ops Q os a w->wpAny P md ops Q is.length listed a w
 | [],os,_,_,_,hl,_,hB,h=>by
  have:os=[]:=List.length_eq_zero_iff.1 hl;subst this;exact⟨by simpa [zIe] using hB,h⟩
 | i::r,[],_,_,_,hl,_,_,_=>by simp at hl
 | i::r,o::os,listed,a,w,hl,hg,hB,h=>by
  have h0:ops[i]?=some o:=by simpa using hg 0 i rfl
  simp only[zIe,Bool.and_eq_true,decide_eq_true_eq]at hB;refine⟨fun h1=>(by rw[hB.1]at h1;cases h1),fun k hk=>?_⟩
  rw[hB.1]at hk;have hik:k=i:=by simpa using hk
  subst hik;have hw:wpOp P ops Q k (wpList P ops Q os) a w:=by unfold wpOp;simp only[h0];exact h
  exact wpOp_mono (fun a' w' h'=>zEJ r os _ a' w' (by simpa using hl) (fun j i hj=>by simpa using hg (j+1) i (by simpa using hj)) hB.2 h') hw
def zDJ (n e g:Nat):Array Bool:=((List.range n).map (fun i=>i != e)++List.replicate g false).toArray
def zPe (ops:Array Oper) (n e:Nat):Bool :=
 (List.range n).all fun i=>i == e || (List.range (n+1)).any fun j=>decide (i<j)&&(j != e)&&(match ops[j]? with|some o=>o.after.toList.any (fun ed=>Region.binds .any ed&&ed.on == i)|none=>false)
def zOv (ops:Array Oper) (n e:Nat):Bool :=
 decide (n<=ops.size)&&zCM (ops.toList.take n) &&
 ((ops.toList.take n).zipIdx.all fun (o,i)=>o.after.all fun e=>!Region.binds .any e || decide (e.on<i)) &&
 zPe ops n e&&(ops.toList.zipIdx.all fun (o,t)=>decide (t<=n) || o.after.toList.any (fun ed=>Region.binds .any ed&&decide (n<=ed.on)&&decide (ed.on<t))) &&
 Region.seqB .any ops (ops.size - n) n (zAs n (ops.size - n)) &&
 zIe .any ops (e::List.range' (n+1) (ops.size - n - 1)) ((zDJ n e (ops.size - n)).setIfInBounds n true)&&decide (e<n)
def zN9 (l:List Oper) (n e:Nat):List Oper:=(l.drop n).take 1++((l.drop e).take 1++l.drop (n+1))
def zFH (e:Nat):List Oper->Nat->(Nat->Value)->Act->Act
 | [],_,_,a=>a
 | o::r,k,vals,a=>zFH e r (k+1) vals (if k=e then a else a.put o.dst (vals k))
theorem zJl (e:Nat):∀ (l:List Oper) (k:Nat) (listed:Array Bool) (vals:Nat->Value) (a:Act),(∀ i,i<l.length->k+i≠e->listed.getD (k+i) false=true)->(k<=e->listed.getD e false=false)->fill l k listed vals a=zFH e l k vals a
 | [],_,_,_,_,_,_=>rfl
 | o::r,k,listed,vals,a,h,h2=>by
  simp only[fill,zFH];have ih:=zJl e r (k+1) listed vals (if k=e then a else a.put o.dst (vals k)) (fun i hi he=>by have:=h (i+1) (by simp;omega) (by omega);rwa [show k+(i+1)=k+1+i from by omega]at this) (fun hk=>h2 (by omega))
  rw[← ih]
  congr 1
  by_cases hke:k=e
  ·subst hke;rw[h2 (Nat.le_refl _),if_pos rfl];rfl
  ·have:=h 0 (by simp) (by simpa using hke)
   rw[Nat.add_zero]at this;rw[this,if_neg hke];rfl
theorem zLK {ops:Array Oper} {n e:Nat} {listed:Array Bool} (hc:zPe ops n e=true) (hn:n<=ops.size) (inv:HeadInv .any ops n listed) (o:Oper) (ho:ops[n]?=some o)
  (ha:∀ e ∈ o.after,Region.binds .any e=true->listed.getD e.on false=true):∀ k,k<n->k≠e->listed.getD k false=true:=by
 have key:∀ d k,n - k=d->k<n->k≠e->listed.getD k false=true:=by
  intro d
  induction d using Nat.strongRecOn with
  | _ d ih =>
   intro k hd hk hke;have h1:=List.all_eq_true.1 hc k (List.mem_range.2 hk);simp only[Bool.or_eq_true,beq_iff_eq]at h1;rcases h1 with h1|h1
   ·exact absurd h1 hke
   ·obtain⟨j,hj,h2⟩:=List.any_eq_true.1 h1;simp only[Bool.and_eq_true,decide_eq_true_eq,bne_iff_ne,ne_eq]at h2;obtain⟨⟨hkj,hje⟩,h3⟩:=h2;have hjn:=List.mem_range.1 hj
    cases hoj:ops[j]? with
    | none=>rw[hoj]at h3;cases h3
    | some oj =>
     rw[hoj]at h3;obtain⟨ed,hed,hb⟩:=List.any_eq_true.1 h3;simp only[Bool.and_eq_true,beq_iff_eq]at hb
     by_cases hjn':j=n
     ·subst hjn';rw[ho]at hoj;cases hoj
      have:=ha ed (Array.mem_toList_iff.1 hed) hb.1
      rwa [hb.2]at this
     ·have hlj:=ih (n - j) (by omega) j rfl (by omega) hje
      have:=inv.closed j oj hoj hlj ed (Array.mem_toList_iff.1 hed) hb.1
      rwa [hb.2]at this
 exact fun k hk hke=>key _ k rfl hk hke
theorem zKy {ops:Array Oper} {n e:Nat} {listed:Array Bool} (hn:n<=ops.size) (he:e<n) (inv:HeadInv .any ops n listed) (h:∀ i,i<n->i≠e->listed.getD i false=true) (h2:listed.getD e true=false):listed=zDJ n e (ops.size - n):=by
 have hs:=inv.size;apply Array.ext
 ·simp[zDJ,hs];omega
 ·intro i h1 h3
  by_cases hi:i<n
  ·by_cases hie:i=e
   ·subst hie;rw[Array.getD_eq_getD_getElem?,Array.getElem?_eq_getElem h1]at h2;simp at h2;rw[h2];simp[zDJ,hi,List.getElem_append]
   ·have:=h i hi hie;rw[Array.getD_eq_getD_getElem?,Array.getElem?_eq_getElem h1]at this;simp at this;rw[this];simp[zDJ,hi,List.getElem_append,hie]
  ·have:=inv.tail i (by omega) (by omega)
   rw[Array.getD_eq_getD_getElem?,Array.getElem?_eq_getElem h1]at this;simp at this;rw[this];simp[zDJ,List.getElem_append,hi]
theorem zGQ {P:Program} {id:Nat} {Q:Exit->Act->World->Prop} {a0:Act} {w0:World} {l:List Oper} (n e:Nat) (Ss:Nat->Value->World->Prop) (D:Nat->Bool)
  (hm:P.follows .mixedOrders=true) (hB:zOv l.toArray n e=true) (hsz:(l.take n).all (fun o=>match o.dst with|some d=>decide (d<a0.tmps.size)|none=>true)=true)
  (hst:∀ i,i<n->∀ v w w',Ss i v w->Below w.heap.size w w'->Ss i v w')
  (hlt:∀ i,i<n->D i=true->∀ v w,Ss i v w->blk v<w.heap.size)
  (hstep:∀ i o,i<n->l[i]?=some o->∀ a w,RCtx (l.take n) Ss a0 w0 o a w->zBZ P l.toArray o a w (fun v w'=>Ss i v w'/\(D i=true->w.heap.size<=blk v)))
  (hend:∀ vals w,Below w0.heap.size w0 w->(∀ i,i<n->Ss i (vals i) w)->(∀ i j,i<n->j<n->i≠j->D i=true->D j=true->blk (vals i)≠blk (vals j))->wpList P l.toArray Q (l.drop n) (zBT (l.take n) 0 vals a0) w)
  (hend2:∀ vals w,Below w0.heap.size w0 w->(∀ i,i<n->i≠e->Ss i (vals i) w)->(∀ i j,i<n->j<n->i≠e->j≠e->i≠j->D i=true->D j=true->blk (vals i)≠blk (vals j)) ->
   wpList P l.toArray Q (zN9 l n e) (zFH e (l.take n) 0 vals a0) w) :
  (Code.region id l.toArray true).wp P Q a0 w0:=by
 simp only[zOv,Bool.and_eq_true,decide_eq_true_eq]at hB;obtain⟨⟨⟨⟨⟨⟨⟨hn,hd⟩,haf⟩,hclo⟩,htw⟩,hseq⟩,hord⟩,hen⟩:=hB;have hn':n<=l.length:=by simpa using hn
 have hd':zCM (l.take n)=true:=hd;have htl:(l.take n).length=n:=by simp;omega
 have key:∀ (rem:List Nat) (f:Nat),rem.length=f->rem.Nodup->∀ (listed:Array Bool) (a:Act) (w:World),HeadInv .any l.toArray n listed ->
   (∀ i,i ∈ rem↔(i<n/\listed.getD i true=false))->(∃ vals,a=fill (l.take n) 0 listed vals a0/\(∀ i,i<n->listed.getD i false=true->Ss i (vals i) w)/\∀ i j,i<n->j<n->i≠j->listed.getD i false=true->listed.getD j false=true->D i=true->D j=true->blk (vals i)≠blk (vals j))->Below w0.heap.size w0 w ->
   wpAny P .any l.toArray Q (f+(l.toArray.size - n)) listed a w:=by
  intro rem f
  induction f generalizing rem with
  | zero =>
   intro hl _ listed a w inv hrem ⟨vals,ha,hv,hp⟩ hb;have hr:rem=[]:=List.length_eq_zero_iff.1 hl;subst hr;have hall:∀ i,i<n->listed.getD i false=true:=by
    intro i hi;have h1:¬ listed.getD i true=false:=fun h=>by have:=(hrem i).2 ⟨hi,h⟩;simp at this
    have h2:i<listed.size:=by rw[inv.size];omega
    rw[Array.getD_eq_getD_getElem?,Array.getElem?_eq_getElem h2]at h1 ⊢
    simpa using h1
   have hlist:=zCQ hn inv hall;have hw:=hend vals w hb (fun i hi=>hv i hi (hall i hi)) (fun i j hi hj hij=>hp i j hi hj hij (hall i hi) (hall j hj))
   rw[← zCz (l.take n) 0 listed vals a0 (fun i hi=>by rw[Nat.zero_add];exact hall i (by omega)),← ha]at hw
   rw[Nat.zero_add];have hdl:(l.drop n).length=l.toArray.size - n:=by simp
   rw[← hdl];refine wpAny_of_seq (l.drop n) n listed a w (fun j=>by simp) ?_ hw
   rw[hdl,hlist];exact hseq
  | succ f ih =>
   intro hl hnd listed a w inv hrem ⟨vals,ha,hv,hp⟩ hb;have hex:∃ i,i ∈ rem/\∀ j,j ∈ rem->i<=j:=by
    have:∀ (r:List Nat),r≠[]->∃ i,i ∈ r/\∀ j,j ∈ r->i<=j:=by
     intro r
     induction r with
     | nil=>intro h;exact(h rfl).elim
     | cons x r ihr =>
      intro _
      by_cases hr:r=[]
      ·subst hr;exact⟨x,by simp,by simp⟩
      ·obtain⟨i,hi,hmin⟩:=ihr hr
       by_cases hx:x<=i
       ·exact⟨x,by simp,fun j hj=>by rcases List.mem_cons.1 hj with rfl|hj;exact Nat.le_refl _;exact Nat.le_trans hx (hmin j hj)⟩
       ·exact⟨i,by simp[hi],fun j hj=>by rcases List.mem_cons.1 hj with rfl|hj;omega;exact hmin j hj⟩
    exact this rem (by intro h;subst h;simp at hl)
   have hready:Region.ready .any l.toArray listed≠[]:=by
    obtain⟨i,hi,hmin⟩:=hex;obtain⟨hin,hil⟩:=(hrem i).1 hi;have hlt:i<l.length:=by omega
    have hmem:i ∈ Region.ready .any l.toArray listed:=by
     refine mem_ready.2 ⟨hil,l[i],by simp[hlt],fun e he hbd=>?_⟩
     have h1:=List.all_eq_true.1 haf (l[i],i) (by
      rw[List.mem_zipIdx_iff_getElem?];simp[hin,hlt])
     have h2:=Array.all_eq_true'.1 h1 e he;simp[hbd]at h2;have hj:¬ e.on ∈ rem:=fun h=>by have:=hmin _ h;omega
     have h3:¬ listed.getD e.on true=false:=fun h=>hj ((hrem _).2 ⟨by omega,h⟩)
     have h4:e.on<listed.size:=by rw[inv.size];simp;omega
     rw[Array.getD_eq_getD_getElem?,Array.getElem?_eq_getElem h4]at h3 ⊢
     simpa using h3
    intro h;rw[h]at hmem;simp at hmem
   rw[show f+1+(l.toArray.size - n)=(f+(l.toArray.size - n))+1 from by omega]
   refine⟨fun h=>(hready h).elim,fun i hi=>?_⟩
   obtain⟨hil,o,ho,haft⟩:=mem_ready.1 hi
   by_cases hin:i<n
   case neg =>
    have hisz:i<l.toArray.size:=(Array.getElem?_eq_some_iff.1 ho).1;have hmost:=zLK hclo hn inv;have hin':i=n:=by
     rcases Nat.lt_or_ge n i with h|h
     ·exfalso
      have h1:=List.all_eq_true.1 htw (l[i]'(by simpa using hisz),i) (by
       rw[List.mem_zipIdx_iff_getElem?];simp at hisz;simp[hisz])
      simp only[Bool.or_eq_true,decide_eq_true_eq]at h1;rcases h1 with h1|h1
      ·omega
      ·obtain⟨ed,hed,hb⟩:=List.any_eq_true.1 h1;simp only[Bool.and_eq_true,decide_eq_true_eq]at hb;have ho2:o=l[i]'(by simpa using hisz):=by
        have:=(Array.getElem?_eq_some_iff.1 ho).2;simpa using this.symm
       have h3:=haft ed (by rw[ho2];exact Array.mem_toList_iff.1 hed) hb.1.1
       have h4:=getD_both (inv.tail ed.on hb.1.2 (by omega))
       rw[h3]at h4;cases h4
     ·omega
    subst hin';have hall:∀ k,k<i->k≠e->listed.getD k false=true:=fun k hk hke=>hmost o ho haft k hk hke
    have hone:rem=[e]:=by
     have h1:∀ k ∈ rem,k=e:=by
      intro k hk;obtain⟨hk1,hk2⟩:=(hrem k).1 hk
      by_cases hke:k=e
      ·exact hke
      ·have:=hall k hk1 hke;rw[getD_both hk2]at this;cases this
     cases rem with
     | nil=>simp at hl
     | cons x r =>
      cases r with
      | nil=>rw[h1 x (by simp)]
      | cons y r =>
       have hx:=h1 x (by simp);have hy:=h1 y (by simp)
       rw[hx,hy]at hnd;simp at hnd
    subst hone;have hf:f=0:=by simp at hl;omega
    subst hf;have hel:listed.getD e true=false:=((hrem e).1 (by simp)).2
    have hlist:=zKy hn hen inv hall hel;have hw:=hend2 vals w hb (fun k hk hke=>hv k hk (hall k hk hke)) (fun k m hk hm hke hme hkm=>hp k m hk hm hkm (hall k hk hke) (hall m hm hme))
    rw[← zJl e (l.take i) 0 listed vals a0 (fun k hk hke=>by rw[Nat.zero_add]at hke ⊢;exact hall k (by omega) hke) (fun _=>getD_both hel),← ha]at hw
    have hli:l[i]?=some o:=by simpa using ho
    have hl1:(l.drop i).take 1=[o]:=by
     rw[List.drop_eq_getElem_cons (by simpa using hisz)]
     have:l[i]'(by simpa using hisz)=o:=(List.getElem?_eq_some_iff.1 hli).2
     simp[this]
    have hlt':i<l.length:=by simpa using hisz
    have heL:e<l.length:=by omega
    have hl2:(l.drop e).take 1=[l[e]]:=by rw[List.drop_eq_getElem_cons heL,List.take_succ_cons,List.take_zero]
    unfold zN9 at hw;rw[hl1,hl2]at hw;have hw2:wpOp P l.toArray Q i (wpList P l.toArray Q ([l[e]]++l.drop (i+1))) a w:=by unfold wpOp;simp only[ho];exact hw
    have hlen:(e::List.range' (i+1) (l.toArray.size - i - 1)).length=0+(l.toArray.size - i):=by simp;omega
    refine wpOp_mono (fun a' w' h'=>?_) hw2
    rw[← hlen];refine zEJ (e::List.range' (i+1) (l.toArray.size - i - 1)) ([l[e]]++l.drop (i+1)) _ a' w' (by simp;omega) (fun j k hk=>?_) ?_ h'
    ·cases j with
     | zero=>simp at hk;subst hk;simp[heL]
     | succ j =>
      simp only[List.getElem?_cons_succ]at hk;obtain⟨hk1,hk2⟩:=List.getElem?_eq_some_iff.1 hk;simp at hk2;subst hk2;simp
    ·rw[hlist];exact hord
   have ho':l[i]?=some o:=by simpa using ho
   have hot:(l.take n)[i]?=some o:=by rw[List.getElem?_take_of_lt hin];exact ho'
   obtain⟨d,hod⟩:∃ d,o.dst=some d:=by
    have:∀ (r:List Oper) (j:Nat),zCM r=true->r[j]?=some o->∃ d,o.dst=some d:=by
     intro r
     induction r with
     | nil=>intro j _ h;simp at h
     | cons x r ihr =>
      intro j hdd h;simp only[zCM,Bool.and_eq_true]at hdd
      cases j with
      | zero=>simp at h;subst h;exact Option.isSome_iff_exists.1 hdd.1.1
      | succ j=>exact ihr j hdd.2 (by simpa using h)
    exact this _ i hd' hot
   have hbd:∀ (j:Nat) (oj:Oper) (dj:Tmp),(l.take n)[j]?=some oj->oj.dst=some dj->dj<a0.tmps.size:=by
    intro j oj dj hj hdj;have:=List.all_eq_true.1 hsz oj (List.mem_of_getElem? hj)
    simpa [hdj] using this
   have hctx:RCtx (l.take n) Ss a0 w0 o a w:=by
    refine⟨hb,fun t ht=>by rw[ha];exact zBo _ _ _ _ _ t ht,fun j dj hj hdj=>?_,by rw[ha,zDM]⟩
    obtain⟨e,he,hbe⟩:=List.any_eq_true.1 hj;simp only[Bool.and_eq_true,beq_iff_eq]at hbe;have hlj:=haft e (Array.mem_toList_iff.1 he) hbe.1;rw[hbe.2]at hlj;obtain⟨oj,hoj,hdj'⟩:=Option.bind_eq_some_iff.1 hdj;have hjn:j<n:=by have:=(List.getElem?_eq_some_iff.1 hoj).1;omega
    rw[ha,zER _ 0 listed vals a0 j oj dj hd' hoj hdj' (hbd j oj dj hoj hdj') (by rw[Nat.zero_add];exact hlj),Nat.zero_add]
    exact hv j hjn hlj
   have hstep':=hstep i o hin ho' a w hctx;have hnext:∀ v w',Below w.heap.size w w'->(Ss i v w'/\(D i=true->w.heap.size<=blk v))->wpAny P .any l.toArray Q (f+(l.toArray.size - n)) (listed.setIfInBounds i true) (a.put o.dst v) w':=by
    intro v w' hbw ⟨hsv,hfr⟩;have hmemi:i ∈ rem:=(hrem i).2 ⟨hin,hil⟩;refine ih (rem.erase i) (by rw[List.length_erase_of_mem hmemi,hl];rfl) (hnd.erase i) _ _ w' (inv.set hi hin) (fun j=>?_) ⟨fun j=>if j=i then v else vals j,?_,fun j hj hlj=>?_,fun j k hj hk hjk hlj hlk hDj hDk=>?_⟩ (hb.trans (hbw.mono hb.size))
    ·rw[hnd.mem_erase_iff,hrem j]
     by_cases hji:j=i
     ·subst hji;have hjs:j<listed.size:=by rw[inv.size];simp;omega
      simp[hjs]
     ·rw[getD_set_ne true (fun e=>hji e.symm)]
      simp[hji]
    ·have:=zDT (l.take n) 0 i listed vals a0 o d v hd' hot hod (by rw[Nat.zero_add];exact hil)
     rw[Nat.zero_add]at this;rw[this,← ha,hod]
    ·by_cases hji:j=i
     ·subst hji;simpa using hsv
     ·show Ss j (if j=i then v else vals j) w'
      rw[if_neg hji];rw[getD_set_ne false (fun e=>hji e.symm)]at hlj
      exact hst j hj _ _ _ (hv j hj hlj) hbw
    ·show blk (if j=i then v else vals j)≠blk (if k=i then v else vals k)
     by_cases hji:j=i
     ·subst hji;rw[if_pos rfl,if_neg (fun e=>hjk e.symm)]
      rw[getD_set_ne false hjk]at hlk;have h1:=hlt k hk hDk _ _ (hv k hk hlk);have h2:=hfr hDj;omega
     ·rw[if_neg hji];rw[getD_set_ne false (fun e=>hji e.symm)]at hlj
      by_cases hki:k=i
      ·subst hki;rw[if_pos rfl];have h1:=hlt j hj hDj _ _ (hv j hj hlj);have h2:=hfr hDk;omega
      ·rw[if_neg hki];rw[getD_set_ne false (fun e=>hki e.symm)]at hlk
       exact hp j k hj hk hjk hlj hlk hDj hDk
   unfold wpOp;simp only[ho];unfold zBZ at hstep';split
   ·rename_i hw;rw[if_pos hw]at hstep';refine .inl (zDW (Oper.wp_mono (fun a' w' ⟨v,e,hbw,hsv⟩=>?_) hstep'))
    subst e;exact hnext v w' hbw hsv
   ·rename_i hw;rw[if_neg hw]at hstep';exact hnext undef w (Below.refl _ w) hstep'
 refine wp_region_any hm ?_
 have h0:=key (List.range n) n (by simp) List.nodup_range (Array.replicate l.toArray.size false) a0 {w0 with drawn:=w0.drawn+1}
  ⟨by simp,fun j oj _ hl=>(by rw[getD_replicate_false]at hl;cases hl),fun t _ ht=>getD_in (by simpa using ht) (getD_replicate_false _ _)⟩
  (fun i=>by
   rw[List.mem_range];constructor
   ·intro h;exact⟨h,getD_in (by simp;omega) (getD_replicate_false _ _)⟩
   ·intro h;exact h.1)
  ⟨fun _=>undef,(zCa _ _ _ _ _ (fun i=>getD_replicate_false _ _)).symm,fun i _ h=>(by rw[getD_replicate_false]at h;cases h),fun i j _ _ _ h=>(by rw[getD_replicate_false]at h;cases h)⟩
  ((Below.refl _ w0).drew)
 rw[show n+(l.toArray.size - n)=l.toArray.size from by omega]at h0
 exact h0
theorem zGh {P:Program} {id:Nat} {Q:Exit->Act->World->Prop} {a0:Act} {w0:World} {l:List Oper} (n e:Nat) (L:List (Value->World->Prop)) (D:Nat->Bool)
  (hm:P.follows .mixedOrders=true) (hB:zOv l.toArray n e=true) (hsz:(l.take n).all (fun o=>match o.dst with|some d=>decide (d<a0.tmps.size)|none=>true)=true)
  (hst:zCF L) (hlt:∀ i,i<n->D i=true->∀ v w,zAe L i v w->blk v<w.heap.size)
  (hstep:Obl P l (l.take n) L D a0 w0 (l.take n) 0)
  (hend:∀ vals w,Below w0.heap.size w0 w->(∀ i,i<n->zAe L i (vals i) w)->(∀ i j,i<n->j<n->i≠j->D i=true->D j=true->blk (vals i)≠blk (vals j)) ->
   wpList P l.toArray Q (l.drop n) (zBT (l.take n) 0 vals a0) w)
  (hend2:∀ vals w,Below w0.heap.size w0 w->(∀ i,i<n->i≠e->zAe L i (vals i) w)->(∀ i j,i<n->j<n->i≠e->j≠e->i≠j->D i=true->D j=true->blk (vals i)≠blk (vals j)) ->
   wpList P l.toArray Q (zN9 l n e) (zFH e (l.take n) 0 vals a0) w) :
  (Code.region id l.toArray true).wp P Q a0 w0 :=
 zGQ n e (zAe L) D hm hB hsz (fun i _ v w w' h hb=>zCC L i hst v w w' h hb) hlt
  (fun i o hi ho a w hc=>by
   have:=Obl.get (l.take n) 0 hstep i o (by rw[List.getElem?_take_of_lt hi];exact ho) a w hc
   rwa [Nat.zero_add]at this) hend hend2
structure RCtxS (l:List Oper) (Ss:Nat->Value->World->Prop) (R:World->World->Prop) (a0:Act) (w0:World) (o:Oper) (a:Act) (w:World):Prop where
 rel:R w0 w
 frame:∀ t,l.any (fun o=>o.dst == some t)=false->a.eval (.tmp t)=a0.eval (.tmp t)
 dep:∀ j d,o.after.toList.any (fun e=>Region.binds .any e&&e.on == j)=true->(l[j]?).bind (·.dst)=some d->Ss j (a.eval (.tmp d)) w
 defers:a.defers=a0.defers
theorem zFy:∀ (l:List Oper) (k:Nat) (listed:Array Bool) (vals:Nat->Value) (a:Act),(fill l k listed vals a).defers=a.defers
 | [],_,_,_,_=>rfl
 | o::r,k,listed,vals,a=>by
  simp only[fill];rw[zFy];split
  ·cases o.dst<;>rfl
  ·rfl
def zFT (P:Program) (ops:Array Oper) (R:World->World->Prop) (Q:Exit->Act->World->Prop) (o:Oper) (a:Act) (w:World) (s:Value->World->Prop):Prop :=
 if Region.wanted o (yielded ops a.tmps) then o.wp P a w (fun a' w'=>∃ v,a'=a.put o.dst v/\R w w'/\s v w') Q else s undef w
def zCx (l:List Oper) (n:Nat) (Sp:List Nat):Bool :=
 Sp.all (fun i=>decide (i<n))&&(List.range (Sp.length - 1)).all (fun k=>match Sp[k]?,Sp[k+1]? with
  | some i,some j=>decide (i<j)&&(match l[j]? with|some o=>o.after.toList.any (fun e=>Region.binds .any e&&e.on == i)|none=>false)
  | _,_=>true)
theorem zEp {l:List Oper} {n:Nat} {Sp:List Nat} (h:zCx l n Sp=true) :
  (∀ (k i:Nat),Sp[k]?=some i->i<n)/\∀ (k i j:Nat) (o:Oper),Sp[k]?=some i->Sp[k+1]?=some j->l[j]?=some o->∃ e,e ∈ o.after/\Region.binds .any e=true/\e.on=i:=by
 simp only[zCx,Bool.and_eq_true]at h;refine⟨fun k i hk=>by have:=List.all_eq_true.1 h.1 i (List.mem_of_getElem? hk);simpa using this,fun k i j o h1 h2 h3=>?_⟩
 have hk:k<Sp.length - 1:=by have:=(List.getElem?_eq_some_iff.1 h2).1;omega
 have:=List.all_eq_true.1 h.2 k (List.mem_range.2 hk);rw[h1,h2]at this;simp only[h3,Bool.and_eq_true]at this;obtain⟨e,he,hb⟩:=List.any_eq_true.1 this.2;simp only[Bool.and_eq_true,beq_iff_eq]at hb;exact⟨e,Array.mem_toList_iff.1 he,hb⟩
theorem zEi {l:List Oper} {n:Nat} {Sp:List Nat} (h:zCx l n Sp=true) {k i j:Nat} (h1:Sp[k]?=some i) (h2:Sp[k+1]?=some j):i<j:=by
 simp only[zCx,Bool.and_eq_true]at h;have hk:k<Sp.length - 1:=by have:=(List.getElem?_eq_some_iff.1 h2).1;omega
 have:=List.all_eq_true.1 h.2 k (List.mem_range.2 hk);rw[h1,h2]at this;simp only[Bool.and_eq_true,decide_eq_true_eq]at this;exact this.1
theorem zFw {l:List Oper} {n:Nat} {Sp:List Nat} (h:zCx l n Sp=true):∀ (d k i j:Nat),Sp[k]?=some i->Sp[k+d+1]?=some j->i<j:=by
 intro d
 induction d with
 | zero=>intro k i j h1 h2;exact zEi h h1 h2
 | succ d ih =>
  intro k i j h1 h2;have hl:=(List.getElem?_eq_some_iff.1 h2).1;have hm:Sp[k+d+1]?=some (Sp[k+d+1]'(by omega)):=List.getElem?_eq_getElem (by omega)
  exact Nat.lt_trans (ih k i _ h1 hm) (zEi h hm h2)
theorem zEM {l:List Oper} {n:Nat} {Sp:List Nat} (h:zCx l n Sp=true) (k m i:Nat) (h1:Sp[k]?=some i) (h2:Sp[m]?=some i):k=m:=by
 rcases Nat.lt_trichotomy k m with hlt|he|hlt
 ·have:=zFw h (m - k - 1) k i i h1 (by rw[show k+(m - k - 1)+1=m from by omega];exact h2);omega
 ·exact he
 ·have:=zFw h (k - m - 1) m i i h2 (by rw[show m+(k - m - 1)+1=k from by omega];exact h1);omega
theorem zFd {P:Program} {id:Nat} {Q:Exit->Act->World->Prop} {a0:Act} {w0:World} {l:List Oper} (R0 R:World->World->Prop) (Sp:List Nat) (St:Nat->World->Prop) (h0R:∀ u v,R0 u v->R u v) (h0S:∀ r u v,St r u->R0 u v->St r v) (hdrew0:∀ w:World,R0 w {w with drawn:=w.drawn+1}) (hrefl0:∀ w,R0 w w) (htrans:∀ u v w,R u v->R v w->R u w) (hrefl:∀ w,R w w) (hdrew:∀ w:World,R w {w with drawn:=w.drawn+1}) (n:Nat) (Ss:Nat->Value->World->Prop)
  (hsp:zCx l n Sp=true) (hst0:St 0 w0) (hm:P.follows .mixedOrders=true) (hB:zGg l.toArray n=true) (hsz:(l.take n).all (fun o=>match o.dst with|some d=>decide (d<a0.tmps.size)|none=>true)=true)
  (hst:∀ i,i<n->∀ v w w',Ss i v w->R w w'->Ss i v w')
  (hstep:∀ i o,i<n->l[i]?=some o->∀ a w,RCtxS (l.take n) Ss R a0 w0 o a w ->
   (Sp.contains i=false->zB3 P l.toArray R0 o a w (Ss i))/\∀ r,Sp[r]?=some i->St r w->zFT P l.toArray R Q o a w (fun v w'=>Ss i v w'/\St (r+1) w'))
  (hend:∀ vals w,R w0 w->(∀ i,i<n->Ss i (vals i) w)->St Sp.length w->wpList P l.toArray Q (l.drop n) (zBT (l.take n) 0 vals a0) w) :
  (Code.region id l.toArray true).wp P Q a0 w0:=by
 simp only[zGg,Bool.and_eq_true,decide_eq_true_eq]at hB;obtain⟨⟨⟨⟨hn,hd⟩,haf⟩,hsink⟩,hseq⟩:=hB;have hn':n<=l.length:=by simpa using hn
 have hspn:∀ (k i:Nat),Sp[k]?=some i->i<n:=fun k i hk=>(zEp hsp).1 k i hk
 have hd':zCM (l.take n)=true:=hd;have htl:(l.take n).length=n:=by simp;omega
 have key:∀ (rem:List Nat) (f:Nat),rem.length=f->rem.Nodup->∀ (listed:Array Bool) (a:Act) (w:World),HeadInv .any l.toArray n listed ->
   (∀ i,i ∈ rem↔(i<n/\listed.getD i true=false))->(∃ vals,a=fill (l.take n) 0 listed vals a0/\(∀ i,i<n->listed.getD i false=true->Ss i (vals i) w))->R w0 w->(∃ r,r<=Sp.length/\St r w/\∀ (k i:Nat),Sp[k]?=some i->(listed.getD i false=true↔k<r)) ->
   wpAny P .any l.toArray Q (f+(l.toArray.size - n)) listed a w:=by
  intro rem f
  induction f generalizing rem with
  | zero =>
   intro hl _ listed a w inv hrem ⟨vals,ha,hv⟩ hb ⟨r,hr1,hr2,hr3⟩;have hr:rem=[]:=List.length_eq_zero_iff.1 hl;subst hr;have hall:∀ i,i<n->listed.getD i false=true:=by
    intro i hi;have h1:¬ listed.getD i true=false:=fun h=>by have:=(hrem i).2 ⟨hi,h⟩;simp at this
    have h2:i<listed.size:=by rw[inv.size];omega
    rw[Array.getD_eq_getD_getElem?,Array.getElem?_eq_getElem h2]at h1 ⊢
    simpa using h1
   have hlist:=zCQ hn inv hall;have hrl:r=Sp.length:=by
    rcases Nat.lt_or_ge r Sp.length with h|h
    ·have:=(hr3 r Sp[r] (by simp[h])).1 (hall _ (hspn r Sp[r] (by simp[h])))
     omega
    ·omega
   subst hrl;have hw:=hend vals w hb (fun i hi=>hv i hi (hall i hi)) hr2
   rw[← zCz (l.take n) 0 listed vals a0 (fun i hi=>by rw[Nat.zero_add];exact hall i (by omega)),← ha]at hw
   rw[Nat.zero_add];have hdl:(l.drop n).length=l.toArray.size - n:=by simp
   rw[← hdl];refine wpAny_of_seq (l.drop n) n listed a w (fun j=>by simp) ?_ hw
   rw[hdl,hlist];exact hseq
  | succ f ih =>
   intro hl hnd listed a w inv hrem ⟨vals,ha,hv⟩ hb ⟨r,hr1,hr2,hr3⟩;have hex:∃ i,i ∈ rem/\∀ j,j ∈ rem->i<=j:=by
    have:∀ (r:List Nat),r≠[]->∃ i,i ∈ r/\∀ j,j ∈ r->i<=j:=by
     intro r
     induction r with
     | nil=>intro h;exact(h rfl).elim
     | cons x r ihr =>
      intro _
      by_cases hr:r=[]
      ·subst hr;exact⟨x,by simp,by simp⟩
      ·obtain⟨i,hi,hmin⟩:=ihr hr
       by_cases hx:x<=i
       ·exact⟨x,by simp,fun j hj=>by rcases List.mem_cons.1 hj with rfl|hj;exact Nat.le_refl _;exact Nat.le_trans hx (hmin j hj)⟩
       ·exact⟨i,by simp[hi],fun j hj=>by rcases List.mem_cons.1 hj with rfl|hj;omega;exact hmin j hj⟩
    exact this rem (by intro h;subst h;simp at hl)
   have hready:Region.ready .any l.toArray listed≠[]:=by
    obtain⟨i,hi,hmin⟩:=hex;obtain⟨hin,hil⟩:=(hrem i).1 hi;have hlt:i<l.length:=by omega
    have hmem:i ∈ Region.ready .any l.toArray listed:=by
     refine mem_ready.2 ⟨hil,l[i],by simp[hlt],fun e he hbd=>?_⟩
     have h1:=List.all_eq_true.1 haf (l[i],i) (by
      rw[List.mem_zipIdx_iff_getElem?];simp[hin,hlt])
     have h2:=Array.all_eq_true'.1 h1 e he;simp[hbd]at h2;have hj:¬ e.on ∈ rem:=fun h=>by have:=hmin _ h;omega
     have h3:¬ listed.getD e.on true=false:=fun h=>hj ((hrem _).2 ⟨by omega,h⟩)
     have h4:e.on<listed.size:=by rw[inv.size];simp;omega
     rw[Array.getD_eq_getD_getElem?,Array.getElem?_eq_getElem h4]at h3 ⊢
     simpa using h3
    intro h;rw[h]at hmem;simp at hmem
   rw[show f+1+(l.toArray.size - n)=(f+(l.toArray.size - n))+1 from by omega]
   refine⟨fun h=>(hready h).elim,fun i hi=>?_⟩
   obtain⟨hil,o,ho,haft⟩:=mem_ready.1 hi;have hin:i<n:=by
    rcases Nat.lt_or_ge i n with h|h
    ·exact h
    ·exfalso
     obtain⟨i',hi',_⟩:=hex;obtain⟨hin',hil'⟩:=(hrem i').1 hi';have hisz:i<l.toArray.size:=(Array.getElem?_eq_some_iff.1 ho).1;simp only[Bool.or_eq_true,decide_eq_true_eq,Bool.and_eq_true]at hsink;rcases hsink with h0|⟨hs,hc⟩
     ·omega
     ·exact tail_waits hs hc (by omega) inv (n - i') i' rfl hin' hil' i h hi
   have ho':l[i]?=some o:=by simpa using ho
   have hot:(l.take n)[i]?=some o:=by rw[List.getElem?_take_of_lt hin];exact ho'
   obtain⟨d,hod⟩:∃ d,o.dst=some d:=by
    have:∀ (r:List Oper) (j:Nat),zCM r=true->r[j]?=some o->∃ d,o.dst=some d:=by
     intro r
     induction r with
     | nil=>intro j _ h;simp at h
     | cons x r ihr =>
      intro j hdd h;simp only[zCM,Bool.and_eq_true]at hdd
      cases j with
      | zero=>simp at h;subst h;exact Option.isSome_iff_exists.1 hdd.1.1
      | succ j=>exact ihr j hdd.2 (by simpa using h)
    exact this _ i hd' hot
   have hbd:∀ (j:Nat) (oj:Oper) (dj:Tmp),(l.take n)[j]?=some oj->oj.dst=some dj->dj<a0.tmps.size:=by
    intro j oj dj hj hdj;have:=List.all_eq_true.1 hsz oj (List.mem_of_getElem? hj)
    simpa [hdj] using this
   have hctx:RCtxS (l.take n) Ss R a0 w0 o a w:=by
    refine⟨hb,fun t ht=>by rw[ha];exact zBo _ _ _ _ _ t ht,fun j dj hj hdj=>?_,by rw[ha,zFy]⟩
    obtain⟨e,he,hbe⟩:=List.any_eq_true.1 hj;simp only[Bool.and_eq_true,beq_iff_eq]at hbe;have hlj:=haft e (Array.mem_toList_iff.1 he) hbe.1;rw[hbe.2]at hlj;obtain⟨oj,hoj,hdj'⟩:=Option.bind_eq_some_iff.1 hdj;have hjn:j<n:=by have:=(List.getElem?_eq_some_iff.1 hoj).1;omega
    rw[ha,zER _ 0 listed vals a0 j oj dj hd' hoj hdj' (hbd j oj dj hoj hdj') (by rw[Nat.zero_add];exact hlj),Nat.zero_add]
    exact hv j hjn hlj
   have hstep':=hstep i o hin ho' a w hctx;have hnext:∀ v w',R w w'->Ss i v w'->(∃ r,r<=Sp.length/\St r w'/\∀ (k j:Nat),Sp[k]?=some j->((listed.setIfInBounds i true).getD j false=true↔k<r))->wpAny P .any l.toArray Q (f+(l.toArray.size - n)) (listed.setIfInBounds i true) (a.put o.dst v) w':=by
    intro v w' hbw hsv hstt;have hmemi:i ∈ rem:=(hrem i).2 ⟨hin,hil⟩;refine ih (rem.erase i) (by rw[List.length_erase_of_mem hmemi,hl];rfl) (hnd.erase i) _ _ w' (inv.set hi hin) (fun j=>?_) ⟨fun j=>if j=i then v else vals j,?_,fun j hj hlj=>?_⟩ (htrans _ _ _ hb hbw) hstt
    ·rw[hnd.mem_erase_iff,hrem j]
     by_cases hji:j=i
     ·subst hji;have hjs:j<listed.size:=by rw[inv.size];simp;omega
      simp[hjs]
     ·rw[getD_set_ne true (fun e=>hji e.symm)]
      simp[hji]
    ·have:=zDT (l.take n) 0 i listed vals a0 o d v hd' hot hod (by rw[Nat.zero_add];exact hil)
     rw[Nat.zero_add]at this;rw[this,← ha,hod]
    ·by_cases hji:j=i
     ·subst hji;simpa using hsv
     ·show Ss j (if j=i then v else vals j) w'
      rw[if_neg hji];rw[getD_set_ne false (fun e=>hji e.symm)]at hlj
      exact hst j hj _ _ _ (hv j hj hlj) hbw
   have hun:listed.getD i false=false:=getD_both hil;have hisz:i<listed.size:=by rw[inv.size];simp;omega
   by_cases hsi:Sp.contains i=true
   case neg =>
    have hsi':Sp.contains i=false:=by simpa using hsi
    have hq:=hstep'.1 hsi';have hne:∀ (k j:Nat),Sp[k]?=some j->j≠i:=fun k j hk e=>by
     subst e;have:Sp.contains j=true:=by simpa using List.mem_of_getElem? hk
     rw[hsi']at this;cases this
    have hstt:∀ w',R0 w w'->(∃ r,r<=Sp.length/\St r w'/\∀ (k j:Nat),Sp[k]?=some j->((listed.setIfInBounds i true).getD j false=true↔k<r)):=fun w' hw' =>
     ⟨r,hr1,h0S _ _ _ hr2 hw',fun k j hk=>by rw[getD_set_ne false (fun e=>hne k j hk e.symm)];exact hr3 k j hk⟩
    unfold wpOp;simp only[ho];unfold zB3 at hq;split
    ·rename_i hw;rw[if_pos hw]at hq;refine .inl (zDW (Oper.wp_mono (fun a' w' ⟨v,e,hbw,hsv⟩=>?_) hq))
     subst e;exact hnext v w' (h0R _ _ hbw) hsv (hstt w' hbw)
    ·rename_i hw;rw[if_neg hw]at hq;exact hnext undef w (hrefl w) hq (hstt w (hrefl0 w))
   obtain⟨ri,hri⟩:=List.mem_iff_getElem?.1 (show i ∈ Sp by simpa using hsi)
   have hrr:r=ri:=by
    have h1:¬ ri<r:=fun h=>by have:=(hr3 ri i hri).2 h;rw[hun]at this;cases this
    rcases Nat.lt_or_ge r ri with h|h
    ·exfalso
     have hril:=(List.getElem?_eq_some_iff.1 hri).1;obtain⟨e,he,hbe⟩:=(zEp hsp).2 (ri - 1) (Sp[ri - 1]'(by omega)) i o (List.getElem?_eq_getElem (by omega)) (by rw[show ri - 1+1=ri from by omega];exact hri) ho'
     have:=haft e he hbe.1;rw[hbe.2]at this;have:=(hr3 (ri - 1) (Sp[ri - 1]'(by omega)) (List.getElem?_eq_getElem (by omega))).1 this
     omega
    ·omega
   subst hrr;have hril:=(List.getElem?_eq_some_iff.1 hri).1;have hq:=hstep'.2 r hri hr2;have hinj:∀ k,Sp[k]?=some i->k=r:=fun k hk=>by
    rcases Nat.lt_trichotomy k r with h|h|h
    ·have:=(hr3 k i hk).2 h;rw[hun]at this;cases this
    ·exact h
    ·exact(zEM hsp k r i hk hri)
   have hstt:∀ w',St (r+1) w'->(∃ r,r<=Sp.length/\St r w'/\∀ (k j:Nat),Sp[k]?=some j->((listed.setIfInBounds i true).getD j false=true↔k<r)):=fun w' hw'=>by
    refine⟨r+1,hril,hw',fun k j hk=>?_⟩
    by_cases hji:j=i
    ·subst hji;have:=hinj k hk;subst this;simp[hisz]
    ·rw[getD_set_ne false (fun e=>hji e.symm),hr3 k j hk]
     have hkr:k≠r:=fun e=>by subst e;rw[hri]at hk;cases hk;exact hji rfl
     omega
   unfold wpOp;simp only[ho];unfold zFT at hq;split
   ·rename_i hw;rw[if_pos hw]at hq;refine .inl (Oper.wp_mono (fun a' w' ⟨v,e,hbw,hsv,hss⟩=>?_) hq)
    subst e;exact hnext v w' hbw hsv (hstt w' hss)
   ·rename_i hw;rw[if_neg hw]at hq;exact hnext undef w (hrefl w) hq.1 (hstt w hq.2)
 refine wp_region_any hm ?_
 have h0:=key (List.range n) n (by simp) List.nodup_range (Array.replicate l.toArray.size false) a0 {w0 with drawn:=w0.drawn+1}
  ⟨by simp,fun j oj _ hl=>(by rw[getD_replicate_false]at hl;cases hl),fun t _ ht=>getD_in (by simpa using ht) (getD_replicate_false _ _)⟩
  (fun i=>by
   rw[List.mem_range];constructor
   ·intro h;exact⟨h,getD_in (by simp;omega) (getD_replicate_false _ _)⟩
   ·intro h;exact h.1)
  ⟨fun _=>undef,(zCa _ _ _ _ _ (fun i=>getD_replicate_false _ _)).symm,fun i _ h=>(by rw[getD_replicate_false]at h;cases h)⟩
  (hdrew w0) ⟨0,Nat.zero_le _,h0S _ _ _ hst0 (hdrew0 w0),fun k i _=>by rw[getD_replicate_false];simp⟩
 rw[show n+(l.toArray.size - n)=l.toArray.size from by omega]at h0
 exact h0
def OblS (P:Program) (Q:Exit->Act->World->Prop) (l hd:List Oper) (R0 R:World->World->Prop) (Sp:List Nat) (St:Nat->World->Prop) (L:List (Value->World->Prop)) (a0:Act) (w0:World):List Oper->Nat->Prop
 | [],_=>True
 | o::r,i=>(match Sp.idxOf? i with
   | none=>∀ a w,RCtxS hd (zAe L) R a0 w0 o a w->zB3 P l.toArray R0 o a w (zAe L i)
   | some r=>∀ a w,RCtxS hd (zAe L) R a0 w0 o a w->St r w->zFT P l.toArray R Q o a w (fun v w'=>zAe L i v w'/\St (r+1) w'))/\OblS P Q l hd R0 R Sp St L a0 w0 r (i+1)
theorem OblS.get {P:Program} {Q:Exit->Act->World->Prop} {l hd:List Oper} {R0 R:World->World->Prop} {Sp:List Nat} {St:Nat->World->Prop} {L:List (Value->World->Prop)} {a0:Act} {w0:World}:∀ (r:List Oper) (k:Nat),OblS P Q l hd R0 R Sp St L a0 w0 r k->∀ i o,r[i]?=some o ->
  (match Sp.idxOf? (k+i) with
   | none=>∀ a w,RCtxS hd (zAe L) R a0 w0 o a w->zB3 P l.toArray R0 o a w (zAe L (k+i))
   | some r=>∀ a w,RCtxS hd (zAe L) R a0 w0 o a w->St r w->zFT P l.toArray R Q o a w (fun v w'=>zAe L (k+i) v w'/\St (r+1) w'))
 | [],_,_,_,_,h=>by simp at h
 | o::r,k,h,0,o',h'=>by simp at h';subst h';exact h.1
 | o::r,k,h,i+1,o',h'=>by
  have:=OblS.get r (k+1) h.2 i o' (by simpa using h')
  rwa [show k+1+i=k+(i+1) from by omega]at this
theorem zBd {P:Program} {id:Nat} {Q:Exit->Act->World->Prop} {a0:Act} {w0:World} {l:List Oper} (R0 R:World->World->Prop) (Sp:List Nat) (St:Nat->World->Prop) (h0R:∀ u v,R0 u v->R u v) (h0S:∀ r u v,St r u->R0 u v->St r v) (hdrew0:∀ w:World,R0 w {w with drawn:=w.drawn+1}) (hrefl0:∀ w,R0 w w)
  (htrans:∀ u v w,R u v->R v w->R u w) (n:Nat) (L:List (Value->World->Prop)) (hst:zEG R L) (hsp:zCx l n Sp=true) (hst0:St 0 w0)
  (hm:P.follows .mixedOrders=true) (hB:zGg l.toArray n=true) (hsz:(l.take n).all (fun o=>match o.dst with|some d=>decide (d<a0.tmps.size)|none=>true)=true)
  (hstep:OblS P Q l (l.take n) R0 R Sp St L a0 w0 (l.take n) 0)
  (hend:∀ vals w,R w0 w->(∀ i,i<n->zAe L i (vals i) w)->St Sp.length w->wpList P l.toArray Q (l.drop n) (zBT (l.take n) 0 vals a0) w) :
  (Code.region id l.toArray true).wp P Q a0 w0 :=
 zFd R0 R Sp St h0R h0S hdrew0 hrefl0 htrans (fun w=>h0R _ _ (hrefl0 w)) (fun w=>h0R _ _ (hdrew0 w)) n (zAe L) hsp hst0 hm hB hsz (fun i _ v w w' h hb=>zDb L i hst v w w' h hb) (fun i o hi ho a w hc=>by
   have:=OblS.get (l.take n) 0 hstep i o (by rw[List.getElem?_take_of_lt hi];exact ho)
   rw[Nat.zero_add]at this;constructor
   ·intro hs;have hno:Sp.idxOf? i=none:=by
     rw[List.idxOf?_eq_none_iff];intro hm;have:Sp.contains i=true:=by simpa using hm
     rw[hs]at this;cases this
    rw[hno]at this;exact this a w hc
   ·intro r hr hSt;have hso:Sp.idxOf? i=some r:=by
     cases hx:Sp.idxOf? i with
     | none=>rw[List.idxOf?_eq_none_iff]at hx;exact absurd (List.mem_of_getElem? hr) hx
     | some r' =>
      have h1:Sp[r']?=some i:=by
       have:=List.idxOf?_eq_some_iff.1 hx;obtain⟨h1,h2,_⟩:=this;simp[h1,h2]
      rw[zEM hsp r' r i h1 hr]
    rw[hso]at this
    exact this a w hc hSt) hend
theorem RCtxS.d {l:List Oper} {Ss:Nat->Value->World->Prop} {R:World->World->Prop} {a0:Act} {w0:World} {o:Oper} {a:Act} {w:World} (h:RCtxS l Ss R a0 w0 o a w) (j d:Nat) (h1:o.after.toList.any (fun e=>Region.binds .any e&&e.on == j)=true:=by exact rfl) (h2:(l[j]?).bind (·.dst)=some d:=by exact rfl):Ss j (a.eval (.tmp d)) w:=h.dep j d h1 h2
theorem RCtxS.f {l:List Oper} {Ss:Nat->Value->World->Prop} {R:World->World->Prop} {a0:Act} {w0:World} {o:Oper} {a:Act} {w:World} (h:RCtxS l Ss R a0 w0 o a w) (t:Nat) (h1:l.any (fun o=>o.dst == some t)=false:=by exact rfl):a.eval (.tmp t)=a0.eval (.tmp t):=h.frame t h1
theorem zEN {m:Nat} {P:Program} {row:String} {args:Array Value} {w:World} {R:Value->World->Prop} (h:Rows P row args w R):RowsIn Fence.wide m P row args w R :=
 fun c cs _=>let ⟨v,w',r,s⟩:=h c cs;⟨v,w',r,stepsIn_wide.2 s⟩
theorem zKS {m:Nat} {P:Program} {o:Oper} {a:Act} {w:World} {K:Act->World->Prop} {Q:Exit->Act->World->Prop} (h:o.wp P a w K Q):o.wpIn Fence.wide m P a w K Q:=by
 unfold Oper.wp at h;refine⟨fun _ _=>trivial,?_⟩
 rw[show o.semAt Fence.wide.round a.eval=execOp a.eval o from rfl]
 generalize (execOp a.eval o).run P w=r at *
 cases r with
 | ok x w' =>
  cases x<;>simp only[Oper.upon,Oper.uponIn]at h ⊢ <;>
   first
    | exact h
    | exact⟨fun h=>by simp[Fence.wide]at h,callsIn_wide.2 h⟩
    | exact⟨fun h=>by simp[Fence.wide]at h,zEN h⟩
    | exact h.elim
 | halt x w'=>cases x<;>simp only[Oper.upon,Oper.uponIn]at h ⊢<;>first|exact h|exact h.elim
def zOP (m:Nat) (P:Program) (ops:Array Oper) (R:World->World->Prop) (Q:Exit->Act->World->Prop) (o:Oper) (a:Act) (w:World) (s:Value->World->Prop):Prop :=
 if Region.wanted o (yielded ops a.tmps) then o.wpIn Fence.wide m P a w (fun a' w'=>∃ v,a'=a.put o.dst v/\R w w'/\s v w') Q else s undef w
def depB (l:List Oper):Nat->Nat->Nat->Bool
 | 0,_,_=>false
 | f+1,i,j=>match l[j]? with
  | some o=>o.after.toList.any (fun e=>Region.binds .any e&&(e.on == i || depB l f i e.on))
  | none=>false
def OblI (m:Nat) (P:Program) (Q:Exit->Act->World->Prop) (l hd:List Oper) (R0 R:World->World->Prop) (Sp:List Nat) (St:Nat->World->Prop) (L:List (Value->World->Prop)) (a0:Act) (w0:World):List Oper->Nat->Prop
 | [],_=>True
 | o::r,i=>(match Sp.idxOf? i with
   | none=>∀ a w,RCtxS hd (zAe L) R a0 w0 o a w->∀ r,St r w->(∀ (k j:Nat),Sp[k]?=some j->depB l l.length i j=true->r<=k)->zB3 P l.toArray R0 o a w (zAe L i)
   | some r=>∀ a w,RCtxS hd (zAe L) R a0 w0 o a w->St r w->zOP m P l.toArray R Q o a w (fun v w'=>zAe L i v w'/\St (r+1) w'))/\OblI m P Q l hd R0 R Sp St L a0 w0 r (i+1)
theorem OblI.get {m:Nat} {P:Program} {Q:Exit->Act->World->Prop} {l hd:List Oper} {R0 R:World->World->Prop} {Sp:List Nat} {St:Nat->World->Prop} {L:List (Value->World->Prop)} {a0:Act} {w0:World}:∀ (r:List Oper) (k:Nat),OblI m P Q l hd R0 R Sp St L a0 w0 r k->∀ i o,r[i]?=some o ->
  (match Sp.idxOf? (k+i) with
   | none=>∀ a w,RCtxS hd (zAe L) R a0 w0 o a w->∀ r,St r w->(∀ (q j:Nat),Sp[q]?=some j->depB l l.length (k+i) j=true->r<=q)->zB3 P l.toArray R0 o a w (zAe L (k+i))
   | some r=>∀ a w,RCtxS hd (zAe L) R a0 w0 o a w->St r w->zOP m P l.toArray R Q o a w (fun v w'=>zAe L (k+i) v w'/\St (r+1) w'))
 | [],_,_,_,_,h=>by simp at h
 | o::r,k,h,0,o',h'=>by simp at h';subst h';exact h.1
 | o::r,k,h,i+1,o',h'=>by
  have:=OblI.get r (k+1) h.2 i o' (by simpa using h')
  rwa [show k+1+i=k+(i+1) from by omega]at this
def Stay (B:Nat) (I:World->Prop):Prop:=∀ W W' row,I W->W.grownBy W' row->(∀ r,row=some r->B<=r/\∃ o:Obj,W.heap[r]?=some o/\o.isCells=false)->I W'
theorem Stay.putObj {B:Nat} {I:World->Prop} (h:Stay B I) {W:World} {l:Nat} {o:Obj} (o':Obj) (hs:I W) (hB:B<=l) (hl:W.heap[l]?=some o) (ho:o.isCells=false):I (W.putObj l o') :=
 h W _ (some l) hs (grownBy_putObj' W l o') (fun r e=>by cases e;exact⟨hB,o,hl,ho⟩)
theorem Stay.alloc {B:Nat} {I:World->Prop} (h:Stay B I) {W:World} (o:Obj) (hs:I W):I (W.alloc o) :=
 h W _ none hs (World.grownBy_alloc W o none) (fun r e=>by cases e)
variable {F:Fence} {n:Nat} {P:Program}
def zCb (w:World) (l:List Res) (b:Nat):Prop:=b<w.heap.size/\∀ r ∈ l,r.place≠some b
def zCl (w:World) (l:List Res) (V:World):Prop:=∀ b,zCb w l b->V.heap[b]?=w.heap[b]?
structure Turned (M:Nat->Prop) (w0 w:World) (l1 l2:List Res) (w':World):Prop where
 hold:HoldG M w0 w' l2
 rest:zCl w l1 w'
 lt:∀ b,zCb w l1 b->b<w'.heap.size
 place:∀ r ∈ l2,∀ b,r.place=some b->(∃ s ∈ l1,s.place=some b)\/w.heap.size<=b
 foot:∀ r ∈ l2,∀ b,r.foot b->(∃ s ∈ l1,s.foot b)\/w.heap.size<=b
theorem Res.Holds.keptF {M:Nat->Prop} {base:Nat} {W W':World} {r:Res} (h:r.Holds M base W) (hk:∀ b,r.foot b->W'.heap[b]?=W.heap[b]?) (hs:∀ b,r.foot b->b<W'.heap.size):r.Holds M base W':=by
 cases r with
 | blk b' cs T=>exact⟨h.1,(hk b' rfl).trans h.2⟩
 | row v e sz n xs =>
  obtain⟨hl,h'|⟨g,cap,cur,rfl,hb,hg,r⟩⟩:=h
  ·exact⟨hl,.inl h'⟩
  ·exact⟨hl,.inr ⟨g,cap,cur,rfl,hb,(hk g rfl).trans hg,r⟩⟩
 | mp b' es c=>exact⟨h.1,(hk b' rfl).trans h.2⟩
 | kn F S=>exact⟨hs,fun W2 h2=>h.2 W2 (fun b hb=>(h2 b hb).trans (hk b hb))⟩
section
variable {M:Nat->Prop} {w0 w w':World} {l l1 l2 l3:List Res}
theorem HoldG.framed (H:HoldG M w0 w l):HoldG M w0 w (l++[.kn (zCb w l) (zCl w l)]) :=
 H.know (zCb w l) (zCl w l) (fun b h=>h.1) (fun i r hi b hp hF=>hF.2 r (List.mem_of_getElem? hi) hp) (fun V hV b hb=>hV b hb)
theorem zEA {js:List Nat} (h:js.map (fun j=>l[j]?)=l1.map some) {k:Nat} {r:Res} (hk:l1[k]?=some r):∃ j,js[k]?=some j/\l[j]?=some r:=by
 have h1:(l1.map some)[k]?=some (some r):=by rw[List.getElem?_map,hk];rfl
 rw[← h,List.getElem?_map]at h1;exact Option.map_eq_some_iff.1 h1
theorem Turned.of {W:World} (H:HoldG M w0 W l) {i:Nat} (hi:At l i (.kn (zCb w l1) (zCl w l1))) (js:List Nat) (hn:js.Nodup) (hij:i ∉ js) (h:js.map (fun j=>l[j]?)=l2.map some)
  (hk:∀ F S,Res.kn F S ∈ l2->∀ b,F b->(∃ s ∈ l1,s.foot b)\/w.heap.size<=b):Turned M w0 w l1 l2 W:=by
 have hp:∀ r ∈ l2,∀ b,r.place=some b->(∃ s ∈ l1,s.place=some b)\/w.heap.size<=b:=by
  intro r hr b hb;obtain⟨k,hk⟩:=List.getElem?_of_mem hr;obtain⟨j,hj,e⟩:=zEA h hk;have hne:j≠i:=fun e=>hij (e ▸ List.mem_of_getElem? hj)
  have ha:=H.apart j i r _ hne e hi.get b hb
  by_cases hlt:b<w.heap.size
  ·refine .inl (Classical.byContradiction fun hno=>ha ⟨hlt,fun s hs hsb=>hno ⟨s,hs,hsb⟩⟩)
  ·exact .inr (by omega)
 refine⟨H.pick js l2 hn h,H.kn hi,H.knlt hi,hp,fun r hr b hb=>?_⟩
 cases r with
 | kn F S=>exact hk F S hr b hb
 | blk b' cs T=>exact(hp _ hr b hb).imp (fun ⟨s,h1,h2⟩=>⟨s,h1,Res.place_foot h2⟩) id
 | row v e sz n xs=>exact(hp _ hr b hb).imp (fun ⟨s,h1,h2⟩=>⟨s,h1,Res.place_foot h2⟩) id
 | mp b' es c=>exact(hp _ hr b hb).imp (fun ⟨s,h1,h2⟩=>⟨s,h1,Res.place_foot h2⟩) id
theorem HoldG.callIn (H:HoldG M w0 w l) (T:Turned M w0 w l1 l2 w') (js ks:List Nat) (h1:js.map (fun j=>l[j]?)=l1.map some) (h3:ks.map (fun j=>l[j]?)=l3.map some) (hn:ks.Nodup) (hd:∀ j ∈ js,j ∉ ks):HoldG M w0 w' (l2++l3):=by
 have A:∀ (k:Nat) (r s:Res),l3[k]?=some r->s ∈ l1->zMh s r/\zMh r s:=by
  intro k r s hk hs;obtain⟨m,hm⟩:=List.getElem?_of_mem hs;obtain⟨j,hj,e⟩:=zEA h1 hm;obtain⟨q,hq,e'⟩:=zEA h3 hk;have hne:j≠q:=fun e=>hd j (List.mem_of_getElem? hj) (e ▸ List.mem_of_getElem? hq)
  exact⟨H.apart j q s r hne e e',H.apart q j r s (Ne.symm hne) e' e⟩
 have B:∀ (k:Nat) (r:Res),l3[k]?=some r->r.Holds M w0.heap.size w:=by
  intro k r hk;obtain⟨q,_,e'⟩:=zEA h3 hk;exact H.all q r e'
 refine⟨T.hold.keep,fun i r hi=>?_,fun i j r s hij hr hs=>?_⟩
 ·rw[List.getElem?_append]at hi;split at hi
  ·exact T.hold.all i r hi
  ·have hr:∀ b,r.foot b->zCb w l1 b:=fun b hb=>⟨(B _ r hi).ltf b hb,fun s hs hsb=>(A _ r s hi hs).1 b hsb hb⟩
   exact(B _ r hi).keptF (fun b hb=>T.rest b (hr b hb)) (fun b hb=>T.lt b (hr b hb))
 ·rw[List.getElem?_append]at hr hs;split at hr
  ·split at hs
   ·exact T.hold.apart i j r s hij hr hs
   ·intro b hb hf;rcases T.place r (List.mem_of_getElem? hr) b hb with ⟨q,hq,hqb⟩|h
    ·exact(A _ s q hs hq).1 b hqb hf
    ·have:=(B _ s hs).ltf b hf;omega
  ·split at hs
   ·intro b hb hf;rcases T.foot s (List.mem_of_getElem? hs) b hf with ⟨q,hq,hqb⟩|h
    ·exact(A _ r q hr hq).2 b hb hqb
    ·have:=((B _ r hr).lt b hb).2;omega
   ·obtain⟨p,hp,e⟩:=zEA h3 hr;obtain⟨q,hq,e'⟩:=zEA h3 hs;refine H.apart p q r s (fun epq=>hij ?_) e e'
    subst epq;obtain⟨a1,a2⟩:=List.getElem?_eq_some_iff.1 hp;obtain⟨b1,b2⟩:=List.getElem?_eq_some_iff.1 hq;have:=(List.getElem_inj hn).1 (a2.trans b2.symm);omega
theorem Turned.below (H:HoldG M w0 w l1) (hb:Below w.heap.size w w'):Turned M w0 w l1 l1 w' :=
 ⟨H.call hb,fun b hb'=>hb.block b hb'.1,fun b hb'=>Nat.lt_of_lt_of_le hb'.1 hb.size,fun r hr b h=>.inl ⟨r,hr,h⟩,fun r hr b h=>.inl ⟨r,hr,h⟩⟩
end
def zLD (B:Nat):Res->Prop
 | .mp _ _ _=>False
 | .kn F S=>∀ V,S V->∀ b,F b->b<B\/∃ o:Obj,V.heap[b]?=some o/\o.isCells=true
 | _=>True
theorem HoldG.stayK {M:Nat->Prop} {w0:World} {l:List Res} {B:Nat} (hl:∀ r ∈ l,zLD B r) (hB:w0.heap.size<=B):Stay B (fun W=>HoldG M w0 W l):=by
 intro W W' row H hg hr;refine⟨H.keep.trans ⟨hg.os,hg.tape,hg.output,hg.size,fun k h1 h2=>hg.block k (Nat.lt_of_lt_of_le h1 H.keep.size) (fun e=>by have:=(hr k e.symm).1;omega)⟩,fun i s hs=>?_,H.apart⟩
 have hA:=H.all i s hs;have hc:=hl s (List.mem_of_getElem? hs)
 cases s with
 | blk b' cs T =>
  refine hA.keptF (fun b hb=>hg.block b ((Array.getElem?_eq_some_iff.1 (by cases hb;exact hA.2)).1) (fun e=>?_)) (fun b hb=>Nat.lt_of_lt_of_le ((Array.getElem?_eq_some_iff.1 (by cases hb;exact hA.2)).1) hg.size)
  obtain⟨_,o,ho,hcell⟩:=hr b e.symm
  cases hb
  rw[hA.2]at ho;cases ho;cases hcell
 | row v e sz n xs =>
  have hlt:∀ b,(Res.row v e sz n xs).foot b->b<W.heap.size:=fun b hb=>(hA.lt b hb).2
  refine hA.keptF (fun b hb=>hg.block b (hlt b hb) (fun e=>?_)) (fun b hb=>Nat.lt_of_lt_of_le (hlt b hb) hg.size)
  obtain⟨_,o,ho,hcell⟩:=hr b e.symm;obtain⟨_,⟨hv,_⟩|⟨g,cap,cur,rfl,_,hg',_⟩⟩:=hA
  ·have h2:v.ownBlock=some b:=hb;rw[hv]at h2;cases h2
  ·have:g=b:=by simpa [Res.foot,Value.ownBlock] using hb
   subst this;rw[hg']at ho;cases ho;cases hcell
 | mp b' es c=>exact hc.elim
 | kn F S =>
  have hS:S W:=hA.2 W (fun _ _=>rfl)
  refine hA.keptF (fun b hb=>hg.block b (hA.1 b hb) (fun e=>?_)) (fun b hb=>Nat.lt_of_lt_of_le (hA.1 b hb) hg.size)
  obtain⟨hBb,o,ho,hcell⟩:=hr b e.symm;rcases hc W hS b hb with h|⟨o',ho',hc'⟩
  ·omega
  ·rw[ho']at ho;cases ho;rw[hc']at hcell;cases hcell
def KeepsNC (B:Nat) (W W':World):Prop:=∀ k o,B<=k->W.heap[k]?=some o->o.isCells=false->W'.heap[k]?=some o
theorem KeepsNC.same {B:Nat} {W W':World} (h:KeepsNC B W W') (k:Nat) (o:Obj) (hk:B<=k) (h1:W.heap[k]?=some o) (h2:o.isCells=false):W'.heap[k]?=some o:=h k o hk h1 h2
theorem KeepsNC.refl (B:Nat) (W:World):KeepsNC B W W:=fun _ _ _ h _=>h
theorem KeepsNC.of_below {B:Nat} {W W':World} (h:Below W.heap.size W W'):KeepsNC B W W':=fun k o _ hk _=>(h.block k (Array.getElem?_eq_some_iff.1 hk).1).trans hk
def ncF (B:Nat) (W:World) (b:Nat):Prop:=B<=b/\∃ o:Obj,W.heap[b]?=some o/\o.isCells=false
def ncS (B:Nat) (W V:World):Prop:=∀ b,ncF B W b->V.heap[b]?=W.heap[b]?
theorem ncS.keeps {B:Nat} {W V:World} (h:ncS B W V):KeepsNC B W V:=fun k o hk h1 h2=>(h k ⟨hk,o,h1,h2⟩).trans h1
theorem HoldG.knowNC {M:Nat->Prop} {w0 W:World} {l:List Res} (H:HoldG M w0 W l) (hl:∀ r ∈ l,∀ b es c,r≠.mp b es c) (B:Nat):HoldG M w0 W (l++[.kn (ncF B W) (ncS B W)]):=by
 refine H.know _ _ (fun b hb=>by obtain⟨_,o,h,_⟩:=hb;exact(Array.getElem?_eq_some_iff.1 h).1) (fun i r hi b hp hF=>?_) (fun V hV b hb=>hV b hb)
 obtain⟨_,o,hk,ho⟩:=hF;have hA:=H.all i r hi
 cases r with
 | blk b' cs U=>cases hp;rw[hA.2]at hk;cases hk;cases ho
 | row v e' sz n xs =>
  obtain⟨_,⟨hv,_⟩|⟨g,cap,cur,rfl,_,hg',_⟩⟩:=hA
  ·have h2:v.ownBlock=some b:=hp;rw[hv]at h2;cases h2
  ·have:g=b:=by simpa [Res.place,Value.ownBlock] using hp
   subst this;rw[hg']at hk;cases hk;cases ho
 | mp b' es c=>exact hl _ (List.mem_of_getElem? hi) _ _ _ rfl
 | kn F S=>cases hp
variable {F:Fence} {n:Nat} {P:Program}
def wpR (P:Program) (c:Code) (Q:Exit->Act->World->Prop) (a:Act) (w:World):Prop :=
 ∀ (b:Frame) (k:List Item) (cs:List Frame),b.roundOf=none->(∃ fn,P.funcs[b.fn]?=some fn) ->
  ∃ e a' w',Q e a' w'/\ArrivesIn (Machine.fenced P Fence.wide) P (lone (b.atR a (.code c::k)) cs w) b k cs e a' w'
section
variable {n:Nat} {P:Program} {Q:Exit->Act->World->Prop} {a:Act} {w:World}
theorem zPg {c:Code} (h:c.wpIn Fence.wide n P Q a w):wpR P c Q a w:=fun b k cs hro _=>h b k cs hro trivial (room_wide _)
theorem zBg {c:Code} (h:c.wp P Q a w):wpR P c Q a w:=zPg (n:=0) (wpIn_wide.2 h)
theorem zBP {x y:Code} (h:wpR P x (Exit.then (wpR P y Q) Q) a w):wpR P (.seq x y) Q a w:=by
 intro b k cs hro hb;have h0:(lone (b.atR a (.code (.seq x y)::k)) cs w).fenced P Fence.wide:=fenced_wide _ _;obtain⟨e,a₁,w₁,hq,harr⟩:=h b (.code y::k) cs hro hb
 cases e with
 | normal =>
  obtain⟨e₂,a₂,w₂,hq₂,harr₂⟩:=hq b k cs hro hb;exact⟨e₂,a₂,w₂,hq₂,.of_steps (.head h0 stepR_seq harr) harr₂⟩
 | exit id=>exact⟨_,a₁,w₁,hq,.of_steps (.one h0 stepR_seq) (.pass (x:=.code y) rfl (fun _ _=>.inl (by simp)) harr)⟩
 | goto l=>exact⟨_,a₁,w₁,hq,.of_steps (.one h0 stepR_seq) (.pass (x:=.code y) rfl (fun _ _=>.inl (by simp)) harr)⟩
 | ret=>exact⟨_,a₁,w₁,hq,.of_steps (.one h0 stepR_seq) (.pass (x:=.code y) rfl (fun _ _=>.inl (by simp)) harr)⟩
 | panic ch=>exact⟨_,a₁,w₁,hq,.of_steps (.one h0 stepR_seq) (.pass (x:=.code y) rfl (fun _ _=>.inl (by simp)) harr)⟩
 | outgrown=>exact⟨_,a₁,w₁,hq,.of_steps (.one h0 stepR_seq) (.pass (x:=.code y) rfl (fun _ _=>.inl (by simp)) harr)⟩
theorem zDp {id:Nat} {c:Code} (h:wpR P c (Exit.inBlock id Q) a w):wpR P (.block id c) Q a w:=by
 intro b k cs hro hb;have h0:(lone (b.atR a (.code (.block id c)::k)) cs w).fenced P Fence.wide:=fenced_wide _ _;obtain⟨e,a₁,w₁,hq,harr⟩:=h b (.inBlock id::k) cs hro hb
 cases e with
 | normal=>exact⟨.normal,a₁,w₁,hq,.head h0 stepR_block (StepsIn.trans harr (.one (fenced_wide _ _) stepR_inBlock))⟩
 | exit id' =>
  by_cases hid:id'=id
  ·simp only[Exit.inBlock,hid,if_true]at hq;exact⟨.normal,a₁,w₁,hq,.head h0 stepR_block (harr.1 k (by simp[exitTo,hid]))⟩
  ·simp only[Exit.inBlock,hid,if_false]at hq;have this:(id == id')=false:=by simp;exact fun h=>hid h.symm
   have hx:exitTo id' (.inBlock id::k)=exitTo id' k:=by simp[exitTo,this]
   exact⟨.exit id',a₁,w₁,hq,fun k' hk=>.head h0 stepR_block (harr.1 k' (by rw[hx];exact hk)),
    fun hr' hk=>let ⟨k₁,h1,h2⟩:=harr.2 hr' (by rw[hx];exact hk);⟨k₁,h1,.head h0 stepR_block h2⟩⟩
 | goto l =>
  have hx:gotoIn l (.inBlock id::k)=gotoIn l k:=by simp[gotoIn]
  exact⟨_,a₁,w₁,hq,fun k' hk=>.head h0 stepR_block (harr.1 k' (by rw[hx];exact hk)),
   fun hr' hk=>let ⟨k₁,h1,h2⟩:=harr.2 hr' (by rw[hx];exact hk);⟨k₁,h1,.head h0 stepR_block h2⟩⟩
 | ret=>exact⟨_,a₁,w₁,hq,.of_steps (.one h0 stepR_block) harr⟩
 | panic ch=>exact⟨_,a₁,w₁,hq,.of_steps (.one h0 stepR_block) harr⟩
 | outgrown=>exact⟨_,a₁,w₁,hq,.of_steps (.one h0 stepR_block) harr⟩
theorem zBv {f:FuncId} {fn:Func} {c:Code} {args:Array Value} {R:Ending->World->Prop} (hf:P.funcs[f]?=some fn) (hb:fn.body=some c)
  (h:wpR P c (bodyPostM Fence.wide n P fn R) {tmps:=args++Array.replicate (fn.ntmps - args.size) undef,defers:=[]} w):CallsIn Fence.wide n P f args w R:=by
 have hF:Fence.wide.fn f:=trivial;refine⟨hF,fun cs hr=>?_⟩
 let b:Frame:={(default:Frame) with fn:=f,kind:=.normal,roundOf:=none}
 have henter:Frame.enter P f args .normal =
   b.atR {tmps:=args++Array.replicate (fn.ntmps - args.size) undef,defers:=[]} [.code c]:=by
  simp[Frame.enter,Frame.atR,hf,hb,b]
 obtain⟨e,a',w',hq,harr⟩:=h b [] cs rfl ⟨fn,hf⟩;rw[← henter]at harr
 cases e with
 | normal =>
  obtain⟨e',w'',fr',hR,hs,hfn,hl⟩:=leaves_stepsInM a'.defers .returning w' {b.atR a' [] with mode:=.returning} cs rfl rfl rfl hf rfl hF hr hq
  exact⟨e',w'',fr',hR,ComesIn.of_steps (StepsIn.trans harr (.one (fenced_calm (fr:=b.atR a' []) hF hr rfl) (stepR_end rfl))) hs,hfn,hl⟩
 | ret =>
  obtain⟨todo,hs₀⟩:=harr.1 rfl;obtain⟨e',w'',fr',hR,hs,hfn,hl⟩:=leaves_stepsInM a'.defers .returning w' {b.atR a' todo with mode:=.returning} cs rfl rfl rfl hf rfl hF hr hq
  exact⟨e',w'',fr',hR,ComesIn.of_steps hs₀ hs,hfn,hl⟩
 | panic chain =>
  obtain⟨todo,hs₀⟩:=harr;obtain⟨e',w'',fr',hR,hs,hfn,hl⟩:=leaves_stepsInM a'.defers (.panicking chain) w' {b.atR a' todo with mode:=.panicking chain} cs rfl rfl rfl hf rfl hF hr hq
  exact⟨e',w'',fr',hR,ComesIn.of_steps hs₀ hs,hfn,hl⟩
 | exit id=>exact hq.elim
 | goto l=>exact hq.elim
 | outgrown=>exact⟨.outgrown,w',b,hq,harr.resolve_left (by simp[b]),rfl,trivial⟩
def zKs (P:Program) (l:Nat) (R:Ending->World->Prop):Exit->Act->World->Prop
 | .panic ch,a,w=>a.defers=[]/\R (.panicked ch) w
 | e,a,w=>roundPost P l R e a w
theorem zFe {l:Nat} {f:FuncId} {fn0:Func} {tmps:Array Value} {assign body:Code} {R:Ending->World->Prop} (hf:P.funcs[f]?=some fn0)
  (h:assign.wpIn (Fence.wide.inRound l) n P (Exit.then (fun a₁ w₁=>∃ w₂,(Instr.beginRound l).run P w₁=.ok () w₂/\body.wpIn (Fence.wide.inRound l) n P (zKs P l R) a₁ w₂) (fun _ _ _=>False))
   {tmps:=tmps,defers:=[]} w) :
  RoundIn Fence.wide n P l f tmps assign body w R:=by
 have hF:Fence.wide.fn f:=trivial;refine⟨hF,fun c cs hr=>?_⟩
 let b:Frame:={(default:Frame) with fn:=f,kind:=.normal,roundOf:=some l}
 have hb0:Frame.round l f tmps assign body .normal=b.atR {tmps:=tmps,defers:=[]} [.code assign,.beginRound,.code body]:=by
  simp[Frame.round,Frame.atR,b]
 have hr':(Fence.wide.inRound l).room ((c::cs).length+1+n):=hr;have hF':(Fence.wide.inRound l).fn b.fn:=hF;obtain⟨e,a₁,w₁,hq,harr⟩:=h b [.beginRound,.code body] (c::cs) rfl hF' hr';rw[← hb0]at harr
 cases e with
 | normal =>
  obtain⟨w₂,hbr,hbody⟩:=hq;have s1:StepsIn (Machine.fenced P (Fence.wide.inRound l)) P (lone (b.atR a₁ [.beginRound,.code body]) (c::cs) w₁) (lone (b.atR a₁ [.code body]) (c::cs) w₂) :=
   .one (fenced_calm (fr:=b.atR a₁ [.beginRound,.code body]) hF' hr' rfl) (stepR_beginRound rfl hbr)
  obtain⟨e₂,a₂,w₃,hq₂,harr₂⟩:=hbody b [] (c::cs) rfl hF' hr'
  cases e₂ with
  | normal =>
   obtain⟨v,w₄,hend,hR⟩:=hq₂;exact⟨.returned v,w₄,hR,(StepsIn.trans harr s1).trans (StepsIn.trans harr₂ (.one (fenced_calm (fr:=b.atR a₂ []) hF' hr' rfl) (stepR_round_end rfl rfl hend)))⟩
  | ret =>
   obtain⟨v,w₄,hend,hR⟩:=hq₂;obtain⟨k₁,hs⟩:=harr₂.2 rfl;exact⟨.returned v,w₄,hR,(StepsIn.trans harr s1).trans (StepsIn.trans hs (.one (fenced_calm (fr:=b.atR a₂ (.code .ret::k₁)) hF' hr' rfl) (stepR_round_ret rfl rfl hend)))⟩
  | exit id =>
   obtain⟨v,w₄,hend,hR⟩:=hq₂;obtain⟨k₁,hk,hs⟩:=harr₂.2 rfl rfl;exact⟨.returned v,w₄,hR,(StepsIn.trans harr s1).trans (StepsIn.trans hs (.one (fenced_calm (fr:=b.atR a₂ (.code (.exit id)::k₁)) hF' hr' rfl) (stepR_round_exit rfl rfl hk hend)))⟩
  | goto t =>
   obtain⟨v,w₄,hend,hR⟩:=hq₂;obtain⟨k₁,hk,hs⟩:=harr₂.2 rfl rfl;exact⟨.returned v,w₄,hR,(StepsIn.trans harr s1).trans (StepsIn.trans hs (.one (fenced_calm (fr:=b.atR a₂ (.code (.goto t)::k₁)) hF' hr' rfl) (stepR_round_goto rfl rfl hk hend)))⟩
  | panic chain =>
   obtain⟨hd,hR⟩:=hq₂;obtain⟨todo,hs⟩:=harr₂;refine⟨.panicked chain,w₃,hR,(StepsIn.trans harr s1).trans (StepsIn.trans hs (.one (fenced_wide _ _) (step_leave_panicked ?_)))⟩;exact⟨rfl,hd,fn0,hf⟩
  | outgrown=>exact hq₂.elim
 | exit id=>exact hq.elim
 | goto t=>exact hq.elim
 | ret=>exact hq.elim
 | panic chain=>exact hq.elim
 | outgrown=>exact hq.elim
theorem zHQ {g:Operand} {ps:Array Tmp} {assign body:Code}
  (h:∀ fn,(∃ f,P.funcs[fn]?=some f)->∃ (l:Nat) (mark:List Deferred) (w₁:World) (d:Deferred) (w₁':World) (f:FuncId) (args:Array Value) (w₂:World),
   (Instr.enterLoop fn a.tmps ps assign body none).run P w=.ok (l,mark) w₁ /\
   (resolve a.eval (rangeCall g l) 0).run P w₁=.ok d w₁' /\
   (invoke d.target d.args).run P w₁'=.ok (.enter f args) w₂ /\
   CallsIn Fence.wide n P f args w₂ (rangePost Fence.wide n P l Q {a with defers:=mark++a.defers})) :
  wpR P (Code.rangeFunc g ps assign body) Q a w:=by
 intro b k cs hro hb;have hr:=room_wide;obtain⟨l,mark,w₁,d,w₁',f,args,w₂,he,hres,hinv,hF,hcall⟩:=h b.fn hb;rw[← hro]at he;have h0:(lone (b.atR a (.code (.rangeFunc g ps assign body)::k)) cs w).fenced P Fence.wide:=fenced_wide _ _;have henter:=stepR_rangeFunc (P:=P) (b:=b) (a:=a) (k:=k) (cs:=cs) (w:=w) he hres hinv;obtain⟨e,w₃,fr,hR,hsteps,hfn,hleave⟩:=hcall (b.atR {a with defers:=mark++a.defers} (.inRangeFunc l::k)::cs) (hr _)
 cases e with
 | outgrown =>
  obtain⟨a₀,w₀,hq⟩:=hR;exact⟨.outgrown,a₀,w₀,hq,.inr (Outgrown.of_steps (.one henter) hsteps)⟩
 | returned v =>
  have hl:(lone fr (b.atR {a with defers:=mark++a.defers} (.inRangeFunc l::k)::cs) w₃).fenced P Fence.wide:=fenced_wide _ _
  obtain⟨jump,w₄,hend,hj⟩:=hR;have sback:StepsIn (Machine.fenced P Fence.wide) P (lone (b.atR a (.code (.rangeFunc g ps assign body)::k)) cs w) (lone (b.atR {a with defers:=mark++a.defers} ((jump.map Item.code).toList++k)) cs w₄):=by
   refine .head h0 henter (StepsIn.trans hsteps (.head hl ?_ (.one (fenced_wide _ _) (stepR_endRangeFunc hend))));rw[← finish_atR_inRangeFunc l v];exact step_leave_returned hleave
  cases jump with
  | none=>exact⟨.normal,_,w₄,hj,sback⟩
  | some c =>
   obtain⟨e',a'',w₅,hq,harr⟩:=hj b k cs hro trivial (hr _);exact⟨e',a'',w₅,hq,.of_steps sback harr⟩
 | panicked chain =>
  have hl:(lone fr (b.atR {a with defers:=mark++a.defers} (.inRangeFunc l::k)::cs) w₃).fenced P Fence.wide:=fenced_wide _ _
  refine⟨.panic chain,_,w₃,hR,.inRangeFunc l::k,.head h0 henter (StepsIn.trans hsteps (.one hl ?_))⟩;rw[← Frame.raise_atR];exact step_leave_panicked hleave
end
def zPz (B:Nat) (Y:Option Code->World->Prop) (X:List PanicEntry->World->Prop) (W:World):Exit->Act->World->Prop
 | .normal,_,W'=>KeepsNC B W W'/\Y none W'
 | .ret,_,W'=>KeepsNC B W W'/\Y (some .ret) W'
 | .exit id,_,W'=>KeepsNC B W W'/\Y (some (.exit id)) W'
 | .goto t,_,W'=>KeepsNC B W W'/\Y (some (.goto t)) W'
 | .panic ch,a,W'=>a.defers=[]/\KeepsNC B W W'/\X ch W'
 | .outgrown,_,_=>False
def zQH (Q:Exit->Act->World->Prop) (a:Act) (W:World):Option Code->Prop
 | none=>Q .normal a W
 | some .ret=>Q .ret a W
 | some (.exit id)=>Q (.exit id) a W
 | some (.goto t)=>Q (.goto t) a W
 | _=>False
theorem zDr {σ α:Type} {n:Nat} {P:Program} {g:Operand} {ps:Array Tmp} {assign body:Code} {Q:Exit->Act->World->Prop} {a:Act} {w:World}
  {gf:Nat} {lb:Array Value} (hg:a.eval g=.func (.func gf) #[] lb) (eg:∀ args w,(callFunc gf args).run P w=.ok (.enter gf args) w)
  {encs:α->Array Value} (hps:∀ x,(encs x).size=ps.size)
  (I0:World->Prop) (S:Option Code->World->Prop) (Pn:List PanicEntry->World->Prop) (Yp:σ->α->World->Prop) (Yq:σ->α->Option Code->World->Prop) (Yx:σ->α->List PanicEntry->World->Prop) (Ya:σ->α->Act->World->Prop)
  (st0:Stay w.heap.size I0) (stS:∀ j,Stay w.heap.size (S j)) (stYq:∀ s x j,Stay w.heap.size (Yq s x j)) (stYa:∀ s x a,Stay w.heap.size (Ya s x a))
  (hiter:∀ (l:Nat) (B:Option Code->World->Prop) (K:World->Prop),(∀ j W W',KeepsNC w.heap.size W W'->B j W->B j W')->(∀ W W',KeepsNC w.heap.size W W'->K W->K W')->(∀ j W,B j W->K W) ->
   (∀ s x W1,Yp s x W1->B none W1->YieldAt Fence.wide (n - 1) P l (encs x) W1 fun e W'=>(∃ j:Option Code,e=.returned (.bool j.isNone)/\Yq s x j W'/\B j W')\/∃ ch,e=.panicked ch/\Yx s x ch W'/\K W') ->
   ∀ W,I0 W->B none W->CallsIn Fence.wide n P gf (#[.func (.yield l) #[] #[]]++lb) W fun e W'=>(∃ v j,e=.returned v/\S j W'/\B j W')\/∃ ch,e=.panicked ch/\Pn ch W'/\K W')
  (h0:I0 w)
  (hassign:∀ (l:Nat) (s:σ) (x:α) (W:World),Yp s x W ->
   assign.wpIn (Fence.wide.inRound l) (n - 1) P (Exit.then (fun a1 W1=>KeepsNC w.heap.size W W1/\Ya s x a1 W1) (fun _ _ _=>False)) {tmps:=(ps.zip (encs x)).foldl (fun t (p,v)=>t.setIfInBounds p v) a.tmps,defers:=[]} W)
  (hbody:∀ (l:Nat) (s:σ) (x:α) (a1:Act) (W:World),Ya s x a1 W->body.wpIn (Fence.wide.inRound l) (n - 1) P (zPz w.heap.size (Yq s x) (Yx s x) W) a1 W)
  (hdone:∀ (D:Nat) (j:Option Code) (W:World),w.heap.size<=D->S j W->W.heap[D]?=some (.deferred (some []))->zQH Q {a with defers:={target:=.collected D,args:=#[]}::a.defers} W j)
  (hpan:∀ (D:Nat) (ch:List PanicEntry) (W:World),w.heap.size<=D->Pn ch W->W.heap[D]?=some (.deferred (some []))->Q (.panic ch) {a with defers:={target:=.collected D,args:=#[]}::a.defers} W) :
  wpR P (Code.rangeFunc g ps assign body) Q a w:=by
 refine zHQ (n:=n) ?_
 intro fn hfn;obtain⟨fn0,hfn⟩:=hfn;obtain⟨rec,hrec⟩:∃ rec:LoopState->Option Code->Loop,rec=fun st pe=>{state:=st,pending:=pe,fn,tmps:=a.tmps,params:=ps,assign,body,defers:=w.heap.size}:=⟨_,rfl⟩
 obtain⟨W1,hW1⟩:∃ W1,(w.alloc (.deferred (some []))).alloc (.loop (rec .ready none))=W1:=⟨_,rfl⟩;have hL1:W1.heap[w.heap.size+1]?=some (.loop (rec .ready none)):=by
  rw[← hW1];have:=World.alloc_heap_new (w.alloc (.deferred (some []))) (.loop (rec .ready none));rwa [World.size_alloc]at this
 have hK1:W1.heap[w.heap.size]?=some (.deferred (some [])):=by
  rw[← hW1];exact(Below.heap_alloc _ _ _ (by simp)).trans (World.alloc_heap_new w _)
 have hI1:I0 W1:=by rw[← hW1];exact st0.alloc _ (st0.alloc _ h0)
 refine⟨w.heap.size+1,[{target:=.collected w.heap.size,args:=#[]}],W1,{target:=.fn (.func gf) lb,args:=#[.func (.yield (w.heap.size+1)) #[] #[]]},W1,gf,
  #[.func (.yield (w.heap.size+1)) #[] #[]]++lb,W1,?_,?_,?_,?_⟩
 ·rw[← hW1,hrec];exact run_enterLoop_outer _ _ _ _ _
 ·simp only[resolve,hg];simp[go_sem]
 ·simp[invoke,go_sem,eg]
 ·refine(hiter (w.heap.size+1) (fun j W=>W.heap[w.heap.size+1]?=some (.loop (rec (if j.isNone then .ready else .done) j))/\W.heap[w.heap.size]?=some (.deferred (some []))) (fun W=>W.heap[w.heap.size]?=some (.deferred (some [])))
   (fun j W W' hk hB=>⟨hk.same _ _ (by omega) hB.1 rfl,hk.same _ _ (Nat.le_refl _) hB.2 rfl⟩) (fun W W' hk hB=>hk.same _ _ (Nat.le_refl _) hB rfl) (fun j W hB=>hB.2) ?_ W1 hI1 ⟨hL1,hK1⟩).mono ?_
  ·rintro s x W hy ⟨hl,hk⟩;have hl:W.heap[w.heap.size+1]?=some (.loop (rec .ready none)):=hl;have hlt:w.heap.size+1<W.heap.size:=(Array.getElem?_eq_some_iff.1 hl).1;have hyr:=run_yield (P:=P) (args:=encs x) hl (by rw[hrec];exact hps x)
   rw[hrec]at hyr;refine⟨fn,_,assign,body,hyr,zFe hfn (wpIn_mono (hassign (w.heap.size+1) s x W hy) ?_)⟩;rintro e a1 Wa hp
   cases e with
   | normal =>
    obtain⟨hka,hya⟩:=hp;have hla:=hka.same _ _ (by omega) hl rfl
    have hda:=hka.same _ _ (Nat.le_refl _) hk rfl;refine⟨_,run_beginRound hla (by rw[hrec]),?_⟩
    have hlt2:w.heap.size+1<Wa.heap.size:=(Array.getElem?_eq_some_iff.1 hla).1;have hl2:(Wa.putObj (w.heap.size+1) (.loop {rec .ready none with state:=.busy})).heap[w.heap.size+1]?=some (.loop {rec .ready none with state:=.busy}):=World.putObj_heap_same hlt2
    have hk2:(Wa.putObj (w.heap.size+1) (.loop {rec .ready none with state:=.busy})).heap[w.heap.size]?=some (.deferred (some [])):=(World.putObj_heap_other (by omega)).trans hda
    refine wpIn_mono (hbody _ s x a1 _ ((stYa s x a1).putObj _ hya (by omega) hla rfl)) ?_
    have key:∀ (j:Option Code) (W3:World),KeepsNC w.heap.size (Wa.putObj (w.heap.size+1) (.loop {rec .ready none with state:=.busy})) W3->Yq s x j W3->∃ v w',(Instr.endRound (w.heap.size+1) j).run P W3=.ok v w'/\((∃ j:Option Code,Ending.returned v=.returned (.bool j.isNone)/\Yq s x j w'/\w'.heap[w.heap.size+1]?=some (.loop (rec (if j.isNone then .ready else .done) j))/\w'.heap[w.heap.size]?=some (.deferred (some [])))\/∃ ch,Ending.returned v=.panicked ch/\Yx s x ch w'/\w'.heap[w.heap.size]?=some (.deferred (some []))):=by
     intro j W3 hk3 hq3;have hl3:=hk3.same _ _ (by omega) hl2 rfl
     have hd3:=hk3.same _ _ (Nat.le_refl _) hk2 rfl;have hre:=run_endRound (P:=P) j hl3;refine⟨_,_,hre,.inl ⟨j,rfl,(stYq s x j).putObj _ hq3 (by omega) hl3 rfl,?_,(World.putObj_heap_other (by omega)).trans hd3⟩⟩
     rw[World.putObj_heap_same (Array.getElem?_eq_some_iff.1 hl3).1,hrec]
    rintro e a3 W3 hp
    cases e with
    | normal=>exact key none W3 hp.1 hp.2
    | ret=>exact key (some .ret) W3 hp.1 hp.2
    | exit id=>exact key (some (.exit id)) W3 hp.1 hp.2
    | goto t=>exact key (some (.goto t)) W3 hp.1 hp.2
    | panic ch=>exact⟨hp.1,.inr ⟨ch,rfl,hp.2.2,hp.2.1.same _ _ (Nat.le_refl _) hk2 rfl⟩⟩
    | outgrown=>exact hp.elim
   | ret=>exact hp.elim
   | exit id=>exact hp.elim
   | goto t=>exact hp.elim
   | panic ch=>exact hp.elim
   | outgrown=>exact hp.elim
  ·rintro e W2 (⟨v,j,rfl,hS,hl,hk⟩|⟨ch,rfl,hP,hk⟩)
   ·have hd:=hdone w.heap.size j _ (Nat.le_refl _) ((stS j).putObj (.loop {rec (if j.isNone then .ready else .done) j with state:=.exhausted}) hS (by omega) hl rfl) ((World.putObj_heap_other (by omega)).trans hk)
    have hend:=run_endLoop (P:=P) hl (by rw[hrec];cases j<;>simp)
    subst hrec;refine⟨j,_,hend,?_⟩
    cases j with
    | none=>exact hd
    | some c =>
     cases c with
     | ret=>exact wpIn_ret hd
     | exit id=>exact wpIn_exit hd
     | goto t=>exact wpIn_goto hd
     | _=>exact hd.elim
   ·exact hpan _ ch _ (Nat.le_refl _) hP hk
def zFG (l:List Oper):Bool:=l.all (fun o=>match o.op with|.defer _=>false|_=>true)
theorem zFa {k l:Nat} {P:Program} {o:Oper} {a:Act} {w:World} {K:Act->World->Prop} {Q:Exit->Act->World->Prop} (hd:∀ c,o.op≠.defer c) (h:o.wp P a w K Q):o.wpIn (Fence.wide.inRound l) k P a w K Q:=by
 unfold Oper.wp at h;refine⟨fun _ _=>trivial,?_⟩
 rw[show o.semAt (Fence.wide.inRound l).round a.eval=execOp a.eval o from Oper.semAt_some l a.eval o hd]
 generalize (execOp a.eval o).run P w=r at *
 cases r with
 | ok x w' =>
  cases x<;>simp only[Oper.upon,Oper.uponIn]at h ⊢ <;>
   first
    | exact h
    | exact⟨fun h=>by simp[Fence.wide,Fence.inRound]at h,CallsIn.inRound l (callsIn_wide.2 h)⟩
    | exact⟨fun h=>by simp[Fence.wide,Fence.inRound]at h,zEN (m:=k - 1) h⟩
    | exact h.elim
 | halt x w'=>cases x<;>simp only[Oper.upon,Oper.uponIn]at h ⊢<;>first|exact h|exact h.elim
theorem zAa {k l:Nat} {P:Program} {ops:Array Oper} {Q:Exit->Act->World->Prop} (hQ:¬ LetsOut Q):∀ (r:List Oper) (a:Act) (w:World),zFG r=true->wpList P ops Q r a w->wpListIn (Fence.wide.inRound l) k P ops Q r a w
 | [],_,_,_,h=>h
 | o::r,a,w,hc,h=>by
  simp only[zFG,List.all_cons,Bool.and_eq_true]at hc;have ih:=zAa (k:=k) (l:=l) (P:=P) (ops:=ops) (Q:=Q) hQ r;unfold wpList at h;unfold wpListIn;split at h
  ·rename_i hw;rw[if_pos hw];exact zFa (fun c e=>by rw[e]at hc;simp at hc) (Oper.wp_mono (fun a' w' h'=>ih a' w' (by simpa [zFG] using hc.2) h') (h.resolve_right (fun h=>hQ h.2)))
  ·rename_i hw;rw[if_neg hw];exact⟨fun _ _=>trivial,ih _ _ (by simpa [zFG] using hc.2) h⟩
theorem zEw {k c:Nat} {P:Program} {l:List Oper} {Q:Exit->Act->World->Prop} (hQ:¬ LetsOut Q) (hc:zFG l=true):∀ (fuel:Nat) (listed:Array Bool) (a:Act) (w:World),wpAny P .any l.toArray Q fuel listed a w->wpAnyIn (Fence.wide.inRound k) c P .any l.toArray Q fuel listed a w
 | 0,_,_,_,h=>h
 | fuel+1,listed,a,w,h=>by
  refine⟨h.1,fun i hi=>?_⟩
  have h2:=h.2 i hi;have ih:=fun a w=>zEw (k:=k) (c:=c) (P:=P) hQ hc fuel (listed.setIfInBounds i true) a w
  unfold wpOp at h2;unfold wpOpIn
  cases ho:l.toArray[i]? with
  | none =>
   simp only[ho]at h2 ⊢;exact ih _ _ h2
  | some o =>
   simp only[ho]at h2 ⊢;have hno:∀ c,o.op≠.defer c:=by
    intro c e;have hm:o ∈ l:=by
     have:l[i]?=some o:=by simpa using ho
     exact List.mem_of_getElem? this
    have:=List.all_eq_true.1 hc o hm;rw[e]at this;cases this
   split
   ·rename_i hw;rw[if_pos hw]at h2;exact zFa hno (Oper.wp_mono (fun a' w' h'=>ih a' w' h') (h2.resolve_right (fun h=>hQ h.2)))
   ·rename_i hw;rw[if_neg hw]at h2;exact⟨fun _ _=>trivial,ih _ _ h2⟩
end
end Go.Proofs.YtalggmbdpmdcbaaGreat
