/-
  Laws of walks, and walks.
-/
import Derived.Test.YtalggmbdpmdcbaaGreatPf8
import Derived.Test.YtalggmbdpmdcbaaGreatPf5
import Derived.Test.YtalggmbdpmdcbaaGreatPf9
import Derived.Test.YtalggmbdpmdcbaaGreatPf7
set_option linter.unusedVariables false
set_option linter.unusedSimpArgs false
set_option maxRecDepth 100000
set_option maxHeartbeats 16000000
namespace Go.Proofs.YtalggmbdpmdcbaaGreat
section
open Go.RowKit
theorem zJO {P:Program} {Q:Exit->Act->World->Prop} {a0:Act} {w0:World} {l:List Oper} (n:Nat) (Ss:Nat->Value->World->Prop) (D:Nat->Bool)
  (hB:zGg l.toArray n=true) (hsz:(l.take n).all (fun o=>match o.dst with|some d=>decide (d<a0.tmps.size)|none=>true)=true)
  (hst:∀ i,i<n->∀ v w w',Ss i v w->Below w.heap.size w w'->Ss i v w')
  (hlt:∀ i,i<n->D i=true->∀ v w,Ss i v w->blk v<w.heap.size)
  (hstep:∀ i o,i<n->l[i]?=some o->∀ a w,RCtx (l.take n) Ss a0 w0 o a w->zBZ P l.toArray o a w (fun v w'=>Ss i v w'/\(D i=true->w.heap.size<=blk v)))
  (hend:∀ vals w,Below w0.heap.size w0 w->(∀ i,i<n->Ss i (vals i) w)->(∀ i j,i<n->j<n->i≠j->D i=true->D j=true->blk (vals i)≠blk (vals j))->wpList P l.toArray Q (l.drop n) (zBT (l.take n) 0 vals a0) w) :
  wpAny P .any l.toArray Q l.toArray.size (Array.replicate l.toArray.size false) a0 {w0 with drawn:=w0.drawn+1}:=by
 simp only[zGg,Bool.and_eq_true,decide_eq_true_eq]at hB;obtain⟨⟨⟨⟨hn,hd⟩,haf⟩,hsink⟩,hseq⟩:=hB;have hn':n<=l.length:=by simpa using hn
 have hd':zCM (l.take n)=true:=hd;have htl:(l.take n).length=n:=by simp;omega
 have key:∀ (rem:List Nat) (f:Nat),rem.length=f->rem.Nodup->∀ (listed:Array Bool) (a:Act) (w:World),HeadInv .any l.toArray n listed ->
   (∀ i,i ∈ rem↔(i<n/\listed.getD i true=false))->(∃ vals,a=fill (l.take n) 0 listed vals a0/\(∀ i,i<n->listed.getD i false=true->Ss i (vals i) w)/\∀ i j,i<n->j<n->i≠j->listed.getD i false=true->listed.getD j false=true->D i=true->D j=true->blk (vals i)≠blk (vals j))->Below w0.heap.size w0 w ->
   wpAny P .any l.toArray Q (f+(l.toArray.size - n)) listed a w:=by
  intro rem f
  induction f generalizing rem with
  | zero =>
   intro hl _ listed a w inv hrem ⟨vals,ha,hv,hp⟩ hb;have hr:rem=[]:=List.length_eq_zero_iff.1 hl;subst hr;have hall:∀ i,i<n->listed.getD i false=true:=by
    intro i hi;have h1:¬ listed.getD i true=false:=fun h=>by have:=(hrem i).2 ⟨hi,h⟩;simp at this
    have h2:i<listed.size:=by rw[inv.size];omega
    rw[Array.getD_eq_getD_getElem?,Array.getElem?_eq_getElem h2]at h1 ⊢
    simpa using h1
   have hlist:=zCQ hn inv hall;have hw:=hend vals w hb (fun i hi=>hv i hi (hall i hi)) (fun i j hi hj hij=>hp i j hi hj hij (hall i hi) (hall j hj))
   rw[← zCz (l.take n) 0 listed vals a0 (fun i hi=>by rw[Nat.zero_add];exact hall i (by omega)),← ha]at hw
   rw[Nat.zero_add];have hdl:(l.drop n).length=l.toArray.size - n:=by simp
   rw[← hdl];refine wpAny_of_seq (l.drop n) n listed a w (fun j=>by simp) ?_ hw
   rw[hdl,hlist];exact hseq
  | succ f ih =>
   intro hl hnd listed a w inv hrem ⟨vals,ha,hv,hp⟩ hb;have hex:∃ i,i ∈ rem/\∀ j,j ∈ rem->i<=j:=by
    have:∀ (r:List Nat),r≠[]->∃ i,i ∈ r/\∀ j,j ∈ r->i<=j:=by
     intro r
     induction r with
     | nil=>intro h;exact(h rfl).elim
     | cons x r ihr =>
      intro _
      by_cases hr:r=[]
      ·subst hr;exact⟨x,by simp,by simp⟩
      ·obtain⟨i,hi,hmin⟩:=ihr hr
       by_cases hx:x<=i
       ·exact⟨x,by simp,fun j hj=>by rcases List.mem_cons.1 hj with rfl|hj;exact Nat.le_refl _;exact Nat.le_trans hx (hmin j hj)⟩
       ·exact⟨i,by simp[hi],fun j hj=>by rcases List.mem_cons.1 hj with rfl|hj;omega;exact hmin j hj⟩
    exact this rem (by intro h;subst h;simp at hl)
   have hready:Region.ready .any l.toArray listed≠[]:=by
    obtain⟨i,hi,hmin⟩:=hex;obtain⟨hin,hil⟩:=(hrem i).1 hi;have hlt:i<l.length:=by omega
    have hmem:i ∈ Region.ready .any l.toArray listed:=by
     refine mem_ready.2 ⟨hil,l[i],by simp[hlt],fun e he hbd=>?_⟩
     have h1:=List.all_eq_true.1 haf (l[i],i) (by
      rw[List.mem_zipIdx_iff_getElem?];simp[hin,hlt])
     have h2:=Array.all_eq_true'.1 h1 e he;simp[hbd]at h2;have hj:¬ e.on ∈ rem:=fun h=>by have:=hmin _ h;omega
     have h3:¬ listed.getD e.on true=false:=fun h=>hj ((hrem _).2 ⟨by omega,h⟩)
     have h4:e.on<listed.size:=by rw[inv.size];simp;omega
     rw[Array.getD_eq_getD_getElem?,Array.getElem?_eq_getElem h4]at h3 ⊢
     simpa using h3
    intro h;rw[h]at hmem;simp at hmem
   rw[show f+1+(l.toArray.size - n)=(f+(l.toArray.size - n))+1 from by omega]
   refine⟨fun h=>(hready h).elim,fun i hi=>?_⟩
   obtain⟨hil,o,ho,haft⟩:=mem_ready.1 hi;have hin:i<n:=by
    rcases Nat.lt_or_ge i n with h|h
    ·exact h
    ·exfalso
     obtain⟨i',hi',_⟩:=hex;obtain⟨hin',hil'⟩:=(hrem i').1 hi';have hisz:i<l.toArray.size:=(Array.getElem?_eq_some_iff.1 ho).1;simp only[Bool.or_eq_true,decide_eq_true_eq,Bool.and_eq_true]at hsink;rcases hsink with h0|⟨hs,hc⟩
     ·omega
     ·exact tail_waits hs hc (by omega) inv (n - i') i' rfl hin' hil' i h hi
   have ho':l[i]?=some o:=by simpa using ho
   have hot:(l.take n)[i]?=some o:=by rw[List.getElem?_take_of_lt hin];exact ho'
   obtain⟨d,hod⟩:∃ d,o.dst=some d:=by
    have:∀ (r:List Oper) (j:Nat),zCM r=true->r[j]?=some o->∃ d,o.dst=some d:=by
     intro r
     induction r with
     | nil=>intro j _ h;simp at h
     | cons x r ihr =>
      intro j hdd h;simp only[zCM,Bool.and_eq_true]at hdd
      cases j with
      | zero=>simp at h;subst h;exact Option.isSome_iff_exists.1 hdd.1.1
      | succ j=>exact ihr j hdd.2 (by simpa using h)
    exact this _ i hd' hot
   have hbd:∀ (j:Nat) (oj:Oper) (dj:Tmp),(l.take n)[j]?=some oj->oj.dst=some dj->dj<a0.tmps.size:=by
    intro j oj dj hj hdj;have:=List.all_eq_true.1 hsz oj (List.mem_of_getElem? hj)
    simpa [hdj] using this
   have hctx:RCtx (l.take n) Ss a0 w0 o a w:=by
    refine⟨hb,fun t ht=>by rw[ha];exact zBo _ _ _ _ _ t ht,fun j dj hj hdj=>?_,by rw[ha,zDM]⟩
    obtain⟨e,he,hbe⟩:=List.any_eq_true.1 hj;simp only[Bool.and_eq_true,beq_iff_eq]at hbe;have hlj:=haft e (Array.mem_toList_iff.1 he) hbe.1;rw[hbe.2]at hlj;obtain⟨oj,hoj,hdj'⟩:=Option.bind_eq_some_iff.1 hdj;have hjn:j<n:=by have:=(List.getElem?_eq_some_iff.1 hoj).1;omega
    rw[ha,zER _ 0 listed vals a0 j oj dj hd' hoj hdj' (hbd j oj dj hoj hdj') (by rw[Nat.zero_add];exact hlj),Nat.zero_add]
    exact hv j hjn hlj
   have hstep':=hstep i o hin ho' a w hctx;have hnext:∀ v w',Below w.heap.size w w'->(Ss i v w'/\(D i=true->w.heap.size<=blk v))->wpAny P .any l.toArray Q (f+(l.toArray.size - n)) (listed.setIfInBounds i true) (a.put o.dst v) w':=by
    intro v w' hbw ⟨hsv,hfr⟩;have hmemi:i ∈ rem:=(hrem i).2 ⟨hin,hil⟩;refine ih (rem.erase i) (by rw[List.length_erase_of_mem hmemi,hl];rfl) (hnd.erase i) _ _ w' (inv.set hi hin) (fun j=>?_) ⟨fun j=>if j=i then v else vals j,?_,fun j hj hlj=>?_,fun j k hj hk hjk hlj hlk hDj hDk=>?_⟩ (hb.trans (hbw.mono hb.size))
    ·rw[hnd.mem_erase_iff,hrem j]
     by_cases hji:j=i
     ·subst hji;have hjs:j<listed.size:=by rw[inv.size];simp;omega
      simp[hjs]
     ·rw[getD_set_ne true (fun e=>hji e.symm)]
      simp[hji]
    ·have:=zDT (l.take n) 0 i listed vals a0 o d v hd' hot hod (by rw[Nat.zero_add];exact hil)
     rw[Nat.zero_add]at this;rw[this,← ha,hod]
    ·by_cases hji:j=i
     ·subst hji;simpa using hsv
     ·show Ss j (if j=i then v else vals j) w'
      rw[if_neg hji];rw[getD_set_ne false (fun e=>hji e.symm)]at hlj
      exact hst j hj _ _ _ (hv j hj hlj) hbw
    ·show blk (if j=i then v else vals j)≠blk (if k=i then v else vals k)
     by_cases hji:j=i
     ·subst hji;rw[if_pos rfl,if_neg (fun e=>hjk e.symm)]
      rw[getD_set_ne false hjk]at hlk;have h1:=hlt k hk hDk _ _ (hv k hk hlk);have h2:=hfr hDj;omega
     ·rw[if_neg hji];rw[getD_set_ne false (fun e=>hji e.symm)]at hlj
      by_cases hki:k=i
      ·subst hki;rw[if_pos rfl];have h1:=hlt j hj hDj _ _ (hv j hj hlj);have h2:=hfr hDk;omega
      ·rw[if_neg hki];rw[getD_set_ne false (fun e=>hki e.symm)]at hlk
       exact hp j k hj hk hjk hlj hlk hDj hDk
   unfold wpOp;simp only[ho];unfold zBZ at hstep';split
   ·rename_i hw;rw[if_pos hw]at hstep';refine .inl (zDW (Oper.wp_mono (fun a' w' ⟨v,e,hbw,hsv⟩=>?_) hstep'))
    subst e;exact hnext v w' hbw hsv
   ·rename_i hw;rw[if_neg hw]at hstep';exact hnext undef w (Below.refl _ w) hstep'
 have h0:=key (List.range n) n (by simp) List.nodup_range (Array.replicate l.toArray.size false) a0 {w0 with drawn:=w0.drawn+1}
  ⟨by simp,fun j oj _ hl=>(by rw[getD_replicate_false]at hl;cases hl),fun t _ ht=>getD_in (by simpa using ht) (getD_replicate_false _ _)⟩
  (fun i=>by
   rw[List.mem_range];constructor
   ·intro h;exact⟨h,getD_in (by simp;omega) (getD_replicate_false _ _)⟩
   ·intro h;exact h.1)
  ⟨fun _=>undef,(zCa _ _ _ _ _ (fun i=>getD_replicate_false _ _)).symm,fun i _ h=>(by rw[getD_replicate_false]at h;cases h),fun i j _ _ _ h=>(by rw[getD_replicate_false]at h;cases h)⟩
  ((Below.refl _ w0).drew)
 rw[show n+(l.toArray.size - n)=l.toArray.size from by omega]at h0
 exact h0
theorem zGM {P:Program} {id k c:Nat} {Q:Exit->Act->World->Prop} {a0:Act} {w0:World} {l:List Oper} (n:Nat) (L:List (Value->World->Prop)) (D:Nat->Bool)
  (hm:P.follows .mixedOrders=true) (hQ:¬ LetsOut Q) (hc:zFG l=true) (hB:zGg l.toArray n=true) (hsz:(l.take n).all (fun o=>match o.dst with|some d=>decide (d<a0.tmps.size)|none=>true)=true)
  (hst:zCF L) (hlt:∀ i,i<n->D i=true->∀ v w,zAe L i v w->blk v<w.heap.size)
  (hstep:Obl P l (l.take n) L D a0 w0 (l.take n) 0)
  (hend:∀ vals w,Below w0.heap.size w0 w->(∀ i,i<n->zAe L i (vals i) w)->(∀ i j,i<n->j<n->i≠j->D i=true->D j=true->blk (vals i)≠blk (vals j)) ->
   wpList P l.toArray Q (l.drop n) (zBT (l.take n) 0 vals a0) w) :
  (Code.region id l.toArray true).wpIn (Fence.wide.inRound k) c P Q a0 w0 :=
 wpIn_region_any hm (zEw hQ hc _ _ _ _ (zJO n (zAe L) D hB hsz (fun i _ v w w' h hb=>zCC L i hst v w w' h hb) hlt
  (fun i o hi ho a w hc=>by
   have:=Obl.get (l.take n) 0 hstep i o (by rw[List.getElem?_take_of_lt hi];exact ho) a w hc
   rwa [Nat.zero_add]at this) hend))
def butS (n:Nat) (S:List Nat) (g:Nat):Array Bool:=((List.range n).map (fun i=>!S.contains i)++List.replicate g false).toArray
def zPd (ops:Array Oper) (n:Nat) (E:List Nat):Bool :=
 (List.range n).all fun i=>E.contains i || (List.range (n+1)).any fun j=>decide (i<j)&&!E.contains j&&(match ops[j]? with|some o=>o.after.toList.any (fun ed=>Region.binds .any ed&&ed.on == i)|none=>false)
def zM4 (ops:Array Oper) (n:Nat) (E:List Nat):Bool :=
 decide (n<=ops.size)&&zCM (ops.toList.take n) &&
 ((ops.toList.take n).zipIdx.all fun (o,i)=>o.after.all fun e=>!Region.binds .any e || decide (e.on<i)) &&
 zPd ops n E&&(ops.toList.zipIdx.all fun (o,t)=>decide (t<=n) || o.after.toList.any (fun ed=>Region.binds .any ed&&decide (n<=ed.on)&&decide (ed.on<t))) &&
 Region.seqB .any ops (ops.size - n) n (zAs n (ops.size - n))&&decide E.Nodup&&E.all (fun e=>decide (e<n))
theorem zKd {ops:Array Oper} {n:Nat} {E:List Nat} {listed:Array Bool} (hc:zPd ops n E=true) (hn:n<=ops.size) (inv:HeadInv .any ops n listed) (o:Oper) (ho:ops[n]?=some o)
  (ha:∀ e ∈ o.after,Region.binds .any e=true->listed.getD e.on false=true):∀ k,k<n->k ∉ E->listed.getD k false=true:=by
 have key:∀ d k,n - k=d->k<n->k ∉ E->listed.getD k false=true:=by
  intro d
  induction d using Nat.strongRecOn with
  | _ d ih =>
   intro k hd hk hke;have h1:=List.all_eq_true.1 hc k (List.mem_range.2 hk);simp only[Bool.or_eq_true,List.contains_iff_mem]at h1;rcases h1 with h1|h1
   ·exact absurd h1 hke
   ·obtain⟨j,hj,h2⟩:=List.any_eq_true.1 h1;simp only[Bool.and_eq_true,decide_eq_true_eq,Bool.not_eq_true',List.contains_eq_mem,decide_eq_false_iff_not]at h2;obtain⟨⟨hkj,hje⟩,h3⟩:=h2;have hjn:=List.mem_range.1 hj
    cases hoj:ops[j]? with
    | none=>rw[hoj]at h3;cases h3
    | some oj =>
     rw[hoj]at h3;obtain⟨ed,hed,hb⟩:=List.any_eq_true.1 h3;simp only[Bool.and_eq_true,beq_iff_eq]at hb
     by_cases hjn':j=n
     ·subst hjn';rw[ho]at hoj;cases hoj
      have:=ha ed (Array.mem_toList_iff.1 hed) hb.1
      rwa [hb.2]at this
     ·have hlj:=ih (n - j) (by omega) j rfl (by omega) hje
      have:=inv.closed j oj hoj hlj ed (Array.mem_toList_iff.1 hed) hb.1
      rwa [hb.2]at this
 exact fun k hk hke=>key _ k rfl hk hke
theorem zJL {P:Program} {Q:Exit->Act->World->Prop} {a0:Act} {w0:World} {l:List Oper} (n:Nat) (E:List Nat) (Ss:Nat->Value->World->Prop) (D:Nat->Bool)
  (hB:zM4 l.toArray n E=true) (hsz:(l.take n).all (fun o=>match o.dst with|some d=>decide (d<a0.tmps.size)|none=>true)=true)
  (hst:∀ i,i<n->∀ v w w',Ss i v w->Below w.heap.size w w'->Ss i v w')
  (hlt:∀ i,i<n->D i=true->∀ v w,Ss i v w->blk v<w.heap.size)
  (hstep:∀ i o,i<n->l[i]?=some o->∀ a w,RCtx (l.take n) Ss a0 w0 o a w->zBZ P l.toArray o a w (fun v w'=>Ss i v w'/\(D i=true->w.heap.size<=blk v)))
  (hend:∀ vals w,Below w0.heap.size w0 w->(∀ i,i<n->Ss i (vals i) w)->(∀ i j,i<n->j<n->i≠j->D i=true->D j=true->blk (vals i)≠blk (vals j))->wpList P l.toArray Q (l.drop n) (zBT (l.take n) 0 vals a0) w)
  (hend2:∀ (S:List Nat) vals w,S.Sublist E->S≠[]->Below w0.heap.size w0 w->(∀ i,i<n->i ∉ S->Ss i (vals i) w) ->
   wpAny P .any l.toArray Q (S.length+(l.toArray.size - n)) (butS n S (l.toArray.size - n)) (fill (l.take n) 0 (butS n S (l.toArray.size - n)) vals a0) w) :
  wpAny P .any l.toArray Q l.toArray.size (Array.replicate l.toArray.size false) a0 {w0 with drawn:=w0.drawn+1}:=by
 simp only[zM4,Bool.and_eq_true,decide_eq_true_eq]at hB;obtain⟨⟨⟨⟨⟨⟨⟨hn,hd⟩,haf⟩,hclo⟩,htw⟩,hseq⟩,hEn⟩,hElt⟩:=hB;have hn':n<=l.length:=by simpa using hn
 have hd':zCM (l.take n)=true:=hd;have htl:(l.take n).length=n:=by simp;omega
 have key:∀ (rem:List Nat) (f:Nat),rem.length=f->rem.Nodup->∀ (listed:Array Bool) (a:Act) (w:World),HeadInv .any l.toArray n listed ->
   (∀ i,i ∈ rem↔(i<n/\listed.getD i true=false))->(∃ vals,a=fill (l.take n) 0 listed vals a0/\(∀ i,i<n->listed.getD i false=true->Ss i (vals i) w)/\∀ i j,i<n->j<n->i≠j->listed.getD i false=true->listed.getD j false=true->D i=true->D j=true->blk (vals i)≠blk (vals j))->Below w0.heap.size w0 w ->
   wpAny P .any l.toArray Q (f+(l.toArray.size - n)) listed a w:=by
  intro rem f
  induction f generalizing rem with
  | zero =>
   intro hl _ listed a w inv hrem ⟨vals,ha,hv,hp⟩ hb;have hr:rem=[]:=List.length_eq_zero_iff.1 hl;subst hr;have hall:∀ i,i<n->listed.getD i false=true:=by
    intro i hi;have h1:¬ listed.getD i true=false:=fun h=>by have:=(hrem i).2 ⟨hi,h⟩;simp at this
    have h2:i<listed.size:=by rw[inv.size];omega
    rw[Array.getD_eq_getD_getElem?,Array.getElem?_eq_getElem h2]at h1 ⊢
    simpa using h1
   have hlist:=zCQ hn inv hall;have hw:=hend vals w hb (fun i hi=>hv i hi (hall i hi)) (fun i j hi hj hij=>hp i j hi hj hij (hall i hi) (hall j hj))
   rw[← zCz (l.take n) 0 listed vals a0 (fun i hi=>by rw[Nat.zero_add];exact hall i (by omega)),← ha]at hw
   rw[Nat.zero_add];have hdl:(l.drop n).length=l.toArray.size - n:=by simp
   rw[← hdl];refine wpAny_of_seq (l.drop n) n listed a w (fun j=>by simp) ?_ hw
   rw[hdl,hlist];exact hseq
  | succ f ih =>
   intro hl hnd listed a w inv hrem ⟨vals,ha,hv,hp⟩ hb
   by_cases hE:∀ k,k<n->k ∉ E->listed.getD k false=true
   case pos =>
    obtain⟨S,hS⟩:∃ S,S=E.filter (fun e=>listed.getD e true == false):=⟨_,rfl⟩
    have hmS:∀ k,k ∈ S↔k<n/\listed.getD k true=false:=by
     intro k;rw[hS,List.mem_filter,beq_iff_eq];constructor
     ·rintro⟨h1,h2⟩;exact⟨of_decide_eq_true (List.all_eq_true.1 hElt k h1),h2⟩
     ·rintro⟨h1,h2⟩;refine⟨Classical.byContradiction fun hno=>?_,h2⟩
      have:=hE k h1 hno;rw[getD_both h2]at this;cases this
    have hSn:S.Nodup:=by rw[hS];exact List.Pairwise.filter _ hEn
    have hlen:rem.length=S.length:=((List.perm_ext_iff_of_nodup hnd hSn).2 (fun k=>by rw[hrem k,hmS k])).length_eq
    have hls:listed=butS n S (l.toArray.size - n):=by
     apply Array.ext
     ·rw[inv.size];simp[butS];omega
     ·intro k h1 h2;rcases Nat.lt_or_ge k n with hk|hk
      ·have hbk:(butS n S (l.toArray.size - n))[k]'h2=!S.contains k:=by
        simp[butS,hk]
       rw[hbk]
       by_cases hks:k ∈ S
       ·have:=((hmS k).1 hks).2;rw[Array.getD_eq_getD_getElem?,Array.getElem?_eq_getElem h1]at this
        simpa [hks] using this
       ·have h3:¬ listed.getD k true=false:=fun h=>hks ((hmS k).2 ⟨hk,h⟩)
        rw[Array.getD_eq_getD_getElem?,Array.getElem?_eq_getElem h1]at h3
        simpa [hks] using h3
      ·have h3:=inv.tail k hk (by rw[← inv.size];exact h1)
       rw[Array.getD_eq_getD_getElem?,Array.getElem?_eq_getElem h1]at h3;have hbk:(butS n S (l.toArray.size - n))[k]'h2=false:=by
        simp[butS,hk]
       rw[hbk]
       simpa using h3
    have hne:S≠[]:=by intro e;rw[e]at hlen;rw[hl]at hlen;simp at hlen
    have:=hend2 S vals w (by rw[hS];exact List.filter_sublist) hne hb (fun i hi hni=>hv i hi (by
     have h3:¬ listed.getD i true=false:=fun h=>hni ((hmS i).2 ⟨hi,h⟩)
     have h4:i<listed.size:=by rw[inv.size];simp;omega
     rw[Array.getD_eq_getD_getElem?,Array.getElem?_eq_getElem h4]at h3 ⊢
     simpa using h3))
    rw[← hls,← ha,← hlen,hl]at this;exact this
   have hex:∃ i,i ∈ rem/\∀ j,j ∈ rem->i<=j:=by
    have:∀ (r:List Nat),r≠[]->∃ i,i ∈ r/\∀ j,j ∈ r->i<=j:=by
     intro r
     induction r with
     | nil=>intro h;exact(h rfl).elim
     | cons x r ihr =>
      intro _
      by_cases hr:r=[]
      ·subst hr;exact⟨x,by simp,by simp⟩
      ·obtain⟨i,hi,hmin⟩:=ihr hr
       by_cases hx:x<=i
       ·exact⟨x,by simp,fun j hj=>by rcases List.mem_cons.1 hj with rfl|hj;exact Nat.le_refl _;exact Nat.le_trans hx (hmin j hj)⟩
       ·exact⟨i,by simp[hi],fun j hj=>by rcases List.mem_cons.1 hj with rfl|hj;omega;exact hmin j hj⟩
    exact this rem (by intro h;subst h;simp at hl)
   have hready:Region.ready .any l.toArray listed≠[]:=by
    obtain⟨i,hi,hmin⟩:=hex;obtain⟨hin,hil⟩:=(hrem i).1 hi;have hlt:i<l.length:=by omega
    have hmem:i ∈ Region.ready .any l.toArray listed:=by
     refine mem_ready.2 ⟨hil,l[i],by simp[hlt],fun e he hbd=>?_⟩
     have h1:=List.all_eq_true.1 haf (l[i],i) (by
      rw[List.mem_zipIdx_iff_getElem?];simp[hin,hlt])
     have h2:=Array.all_eq_true'.1 h1 e he;simp[hbd]at h2;have hj:¬ e.on ∈ rem:=fun h=>by have:=hmin _ h;omega
     have h3:¬ listed.getD e.on true=false:=fun h=>hj ((hrem _).2 ⟨by omega,h⟩)
     have h4:e.on<listed.size:=by rw[inv.size];simp;omega
     rw[Array.getD_eq_getD_getElem?,Array.getElem?_eq_getElem h4]at h3 ⊢
     simpa using h3
    intro h;rw[h]at hmem;simp at hmem
   rw[show f+1+(l.toArray.size - n)=(f+(l.toArray.size - n))+1 from by omega]
   refine⟨fun h=>(hready h).elim,fun i hi=>?_⟩
   obtain⟨hil,o,ho,haft⟩:=mem_ready.1 hi
   by_cases hin:i<n
   case neg =>
    have hisz:i<l.toArray.size:=(Array.getElem?_eq_some_iff.1 ho).1;have hmost:=zKd hclo hn inv;have hin':i=n:=by
     rcases Nat.lt_or_ge n i with h|h
     ·exfalso
      have h1:=List.all_eq_true.1 htw (l[i]'(by simpa using hisz),i) (by
       rw[List.mem_zipIdx_iff_getElem?];simp at hisz;simp[hisz])
      simp only[Bool.or_eq_true,decide_eq_true_eq]at h1;rcases h1 with h1|h1
      ·omega
      ·obtain⟨ed,hed,hb⟩:=List.any_eq_true.1 h1;simp only[Bool.and_eq_true,decide_eq_true_eq]at hb;have ho2:o=l[i]'(by simpa using hisz):=by
        have:=(Array.getElem?_eq_some_iff.1 ho).2;simpa using this.symm
       have h3:=haft ed (by rw[ho2];exact Array.mem_toList_iff.1 hed) hb.1.1
       have h4:=getD_both (inv.tail ed.on hb.1.2 (by omega))
       rw[h3]at h4;cases h4
     ·omega
    subst hin';exact(hE (fun k hk hkE=>hmost o ho haft k hk hkE)).elim
   have ho':l[i]?=some o:=by simpa using ho
   have hot:(l.take n)[i]?=some o:=by rw[List.getElem?_take_of_lt hin];exact ho'
   obtain⟨d,hod⟩:∃ d,o.dst=some d:=by
    have:∀ (r:List Oper) (j:Nat),zCM r=true->r[j]?=some o->∃ d,o.dst=some d:=by
     intro r
     induction r with
     | nil=>intro j _ h;simp at h
     | cons x r ihr =>
      intro j hdd h;simp only[zCM,Bool.and_eq_true]at hdd
      cases j with
      | zero=>simp at h;subst h;exact Option.isSome_iff_exists.1 hdd.1.1
      | succ j=>exact ihr j hdd.2 (by simpa using h)
    exact this _ i hd' hot
   have hbd:∀ (j:Nat) (oj:Oper) (dj:Tmp),(l.take n)[j]?=some oj->oj.dst=some dj->dj<a0.tmps.size:=by
    intro j oj dj hj hdj;have:=List.all_eq_true.1 hsz oj (List.mem_of_getElem? hj)
    simpa [hdj] using this
   have hctx:RCtx (l.take n) Ss a0 w0 o a w:=by
    refine⟨hb,fun t ht=>by rw[ha];exact zBo _ _ _ _ _ t ht,fun j dj hj hdj=>?_,by rw[ha,zDM]⟩
    obtain⟨e,he,hbe⟩:=List.any_eq_true.1 hj;simp only[Bool.and_eq_true,beq_iff_eq]at hbe;have hlj:=haft e (Array.mem_toList_iff.1 he) hbe.1;rw[hbe.2]at hlj;obtain⟨oj,hoj,hdj'⟩:=Option.bind_eq_some_iff.1 hdj;have hjn:j<n:=by have:=(List.getElem?_eq_some_iff.1 hoj).1;omega
    rw[ha,zER _ 0 listed vals a0 j oj dj hd' hoj hdj' (hbd j oj dj hoj hdj') (by rw[Nat.zero_add];exact hlj),Nat.zero_add]
    exact hv j hjn hlj
   have hstep':=hstep i o hin ho' a w hctx;have hnext:∀ v w',Below w.heap.size w w'->(Ss i v w'/\(D i=true->w.heap.size<=blk v))->wpAny P .any l.toArray Q (f+(l.toArray.size - n)) (listed.setIfInBounds i true) (a.put o.dst v) w':=by
    intro v w' hbw ⟨hsv,hfr⟩;have hmemi:i ∈ rem:=(hrem i).2 ⟨hin,hil⟩;refine ih (rem.erase i) (by rw[List.length_erase_of_mem hmemi,hl];rfl) (hnd.erase i) _ _ w' (inv.set hi hin) (fun j=>?_) ⟨fun j=>if j=i then v else vals j,?_,fun j hj hlj=>?_,fun j k hj hk hjk hlj hlk hDj hDk=>?_⟩ (hb.trans (hbw.mono hb.size))
    ·rw[hnd.mem_erase_iff,hrem j]
     by_cases hji:j=i
     ·subst hji;have hjs:j<listed.size:=by rw[inv.size];simp;omega
      simp[hjs]
     ·rw[getD_set_ne true (fun e=>hji e.symm)]
      simp[hji]
    ·have:=zDT (l.take n) 0 i listed vals a0 o d v hd' hot hod (by rw[Nat.zero_add];exact hil)
     rw[Nat.zero_add]at this;rw[this,← ha,hod]
    ·by_cases hji:j=i
     ·subst hji;simpa using hsv
     ·show Ss j (if j=i then v else vals j) w'
      rw[if_neg hji];rw[getD_set_ne false (fun e=>hji e.symm)]at hlj
      exact hst j hj _ _ _ (hv j hj hlj) hbw
    ·show blk (if j=i then v else vals j)≠blk (if k=i then v else vals k)
     by_cases hji:j=i
     ·subst hji;rw[if_pos rfl,if_neg (fun e=>hjk e.symm)]
      rw[getD_set_ne false hjk]at hlk;have h1:=hlt k hk hDk _ _ (hv k hk hlk);have h2:=hfr hDj;omega
     ·rw[if_neg hji];rw[getD_set_ne false (fun e=>hji e.symm)]at hlj
      by_cases hki:k=i
      ·subst hki;rw[if_pos rfl];have h1:=hlt j hj hDj _ _ (hv j hj hlj);have h2:=hfr hDk;omega
      ·rw[if_neg hki];rw[getD_set_ne false (fun e=>hki e.symm)]at hlk
       exact hp j k hj hk hjk hlj hlk hDj hDk
   unfold wpOp;simp only[ho];unfold zBZ at hstep';split
   ·rename_i hw;rw[if_pos hw]at hstep';refine .inl (zDW (Oper.wp_mono (fun a' w' ⟨v,e,hbw,hsv⟩=>?_) hstep'))
    subst e;exact hnext v w' hbw hsv
   ·rename_i hw;rw[if_neg hw]at hstep';exact hnext undef w (Below.refl _ w) hstep'
 have h0:=key (List.range n) n (by simp) List.nodup_range (Array.replicate l.toArray.size false) a0 {w0 with drawn:=w0.drawn+1}
  ⟨by simp,fun j oj _ hl=>(by rw[getD_replicate_false]at hl;cases hl),fun t _ ht=>getD_in (by simpa using ht) (getD_replicate_false _ _)⟩
  (fun i=>by
   rw[List.mem_range];constructor
   ·intro h;exact⟨h,getD_in (by simp;omega) (getD_replicate_false _ _)⟩
   ·intro h;exact h.1)
  ⟨fun _=>undef,(zCa _ _ _ _ _ (fun i=>getD_replicate_false _ _)).symm,fun i _ h=>(by rw[getD_replicate_false]at h;cases h),fun i j _ _ _ h=>(by rw[getD_replicate_false]at h;cases h)⟩
  ((Below.refl _ w0).drew)
 rw[show n+(l.toArray.size - n)=l.toArray.size from by omega]at h0
 exact h0
theorem zDt {P:Program} {id:Nat} {Q:Exit->Act->World->Prop} {a0:Act} {w0:World} {l:List Oper} (n:Nat) (E:List Nat) (L:List (Value->World->Prop)) (D:Nat->Bool)
  (hm:P.follows .mixedOrders=true) (hB:zM4 l.toArray n E=true) (hsz:(l.take n).all (fun o=>match o.dst with|some d=>decide (d<a0.tmps.size)|none=>true)=true)
  (hst:zCF L) (hlt:∀ i,i<n->D i=true->∀ v w,zAe L i v w->blk v<w.heap.size)
  (hstep:Obl P l (l.take n) L D a0 w0 (l.take n) 0)
  (hend:∀ vals w,Below w0.heap.size w0 w->(∀ i,i<n->zAe L i (vals i) w)->(∀ i j,i<n->j<n->i≠j->D i=true->D j=true->blk (vals i)≠blk (vals j)) ->
   wpList P l.toArray Q (l.drop n) (zBT (l.take n) 0 vals a0) w)
  (hend2:∀ (S:List Nat) vals w,S.Sublist E->S≠[]->Below w0.heap.size w0 w->(∀ i,i<n->i ∉ S->zAe L i (vals i) w) ->
   wpAny P .any l.toArray Q (S.length+(l.toArray.size - n)) (butS n S (l.toArray.size - n)) (fill (l.take n) 0 (butS n S (l.toArray.size - n)) vals a0) w) :
  (Code.region id l.toArray true).wp P Q a0 w0 :=
 wp_region_any hm (zJL n E (zAe L) D hB hsz (fun i _ v w w' h hb=>zCC L i hst v w w' h hb) hlt
  (fun i o hi ho a w hc=>by
   have:=Obl.get (l.take n) 0 hstep i o (by rw[List.getElem?_take_of_lt hi];exact ho) a w hc
   rwa [Nat.zero_add]at this) hend hend2)
theorem ev2 {L:List (Value->World->Prop)} {n:Nat} {S:List Nat} {vals:Nat->Value} {w:World} {x:Value} (h:∀ i,i<n->i ∉ S->zAe L i (vals i) w) (i:Nat) (hi:i<n:=by decide) (hS:i ∉ S:=by decide) (he:zAe L i (vals i) w=(vals i=x):=by exact rfl):vals i=x:=he ▸ h i hi hS
end
section
open Go.RowKit Go.Shelf
attribute [local go_sem] Oper.semAt_some
def Half (ys zs:List InstD) (k:Nat):Prop:=zs.length=ys.length/\∀ i,i<ys.length->zs[i]?=if i<k\/ys.length<=i+k then ys[ys.length - 1 - i]? else ys[i]?
theorem Half.start (ys:List InstD):Half ys ys 0:=⟨rfl,fun i hi=>by rw[if_neg (by omega)]⟩
theorem Half.step {ys zs:List InstD} {k m:Nat} {x y:InstD} (h:Half ys zs k) (hm:k+m+1=ys.length) (hk:k<m) (hx:zs[m]?=some x) (hy:zs[k]?=some y):Half ys ((zs.set k x).set m y) (k+1):=by
 obtain⟨h1,h2⟩:=h;refine⟨by simp[h1],fun i hi=>?_⟩
 have hxm:=h2 m (by omega)
 have hyk:=h2 k (by omega)
 rw[if_neg (by omega)]at hxm hyk
 rw[List.getElem?_set,List.getElem?_set]
 by_cases e1:m=i
 ·subst e1;rw[if_pos rfl,if_pos (by simp;omega),if_pos (by omega),show ys.length - 1 - m=k by omega,← hyk,hy]
 ·rw[if_neg e1]
  by_cases e2:k=i
  ·subst e2;rw[if_pos rfl,if_pos (by omega),if_pos (by omega),show ys.length - 1 - k=m by omega,← hxm,hx]
  ·rw[if_neg e2,h2 i hi]
   by_cases e3:i<k\/ys.length<=i+k
   ·rw[if_pos e3,if_pos (by omega)]
   ·rw[if_neg e3,if_neg (by omega)]
theorem Half.fin {ys zs:List InstD} {k m:Nat} (h:Half ys zs k) (hm:k+m+1=ys.length) (hk:m<=k) (hk2:k<=m+1):zs=ys.reverse:=by
 obtain⟨h1,h2⟩:=h;apply List.ext_getElem?;intro i
 by_cases hi:i<ys.length
 ·rw[h2 i hi,List.getElem?_reverse hi]
  by_cases e:i<k\/ys.length<=i+k
  ·rw[if_pos e]
  ·rw[if_neg e];congr 1;omega
 ·rw[List.getElem?_eq_none (by omega),List.getElem?_eq_none (by simp;omega)]
theorem zO8 {S:List Nat} {a b:Nat} (h:S.Sublist [a,b]) (hn:S≠[]):S=[a]\/S=[b]\/S=[a,b]:=by
 cases h with
 | cons _ h=>cases h with
  | cons _ h=>cases h;exact(hn rfl).elim
  | cons_cons _ h=>cases h;exact .inr (.inl rfl)
 | cons_cons _ h=>cases h with
  | cons _ h=>cases h;exact .inl rfl
  | cons_cons _ h=>cases h;exact .inr (.inr rfl)
def zDI (S:List Nat):List Oper->Nat->(Nat->Value)->Act->Act
 | [],_,_,a=>a
 | o::r,k,vals,a=>zDI S r (k+1) vals (if S.contains k then a else a.put o.dst (vals k))
theorem zPL (n:Nat) (S:List Nat) (g i:Nat) (hi:i<n):(butS n S g).getD i false=!S.contains i:=by
 unfold butS;rw[Array.getD_eq_getD_getElem?,List.getElem?_toArray,List.getElem?_append_left (by simpa using hi),List.getElem?_map,List.getElem?_range hi]
 rfl
theorem zBz (n:Nat) (S:List Nat) (g:Nat):∀ (l:List Oper) (k:Nat) (vals:Nat->Value) (a:Act),k+l.length<=n->fill l k (butS n S g) vals a=zDI S l k vals a
 | [],_,_,_,_=>rfl
 | o::r,k,vals,a,h=>by
  simp only[List.length_cons]at h;simp only[fill,zDI];rw[zPL n S g k (by omega),zBz n S g r (k+1) vals _ (by omega)]
  congr 1
  cases S.contains k<;>rfl
theorem zJZ {M:Nat->Prop} {w0 w:World} (g c N:Nat) (ys:List InstD) (l:List Res) (hn:N<=1000000) (h0:0<N) (hN:ys.length=N) (H:HoldG M w0 w (.row (.slice (some ⟨g,0,none⟩) N c) 47 9 N (zAG (ys.map zAJ))::l)) :
  Calls Tryz.prog 60 #[.slice (some ⟨g,0,none⟩) N c] w fun e w'=>e=.returned (.tuple #[])/\HoldG M w0 w' (.row (.slice (some ⟨g,0,none⟩) N c) 47 9 N (zAG (ys.reverse.map zAJ))::l):=by
 have HN:=Lib.hid hN;clear hN;obtain⟨m0,hm0⟩:∃ m0,N=m0+1:=⟨N - 1,by omega⟩
 have HM0:=Lib.hid hm0;clear hm0
 go_enter Tryz.func60,Tryz.ntmps60
 go_wp2_with (first|fail)
 go_loopw [2,3] (fun i j wr=>∃ (k m:Nat) (zs:List InstD),i=.int .i64 k/\j=.int .i64 m/\m<=1000000/\k<=1000000/\Hid (k+m+1=N/\k<=m+1/\Half ys zs k)/\HoldG M w0 wr (.row (.slice (some ⟨g,0,none⟩) N c) 47 9 N (zAG (zs.map zAJ))::l)) (fun i _ _=>N+1 - (intOf i).toNat)
 case atStart=>exact⟨0,m0,ys,rfl,by rw[HM0.out];simp,by have:=HM0.out;omega,by omega,Lib.hid ⟨by rw[HM0.out];omega,by omega,Half.start ys⟩,H⟩
 case round =>
  clear H;obtain⟨k,m,zs,rfl,rfl,hm6,hk6,E,H⟩:=hrel
  by_cases hlt:k<m
  ·have d1:decide ((k:Int)<(m:Int))=true:=by simp;omega
   obtain⟨x,hx⟩:∃ x,zs[m]?=some x:=⟨_,List.getElem?_eq_getElem (by have:=E.out.2.2.1;have:=E.out.1;have:=HN.out;omega)⟩
   obtain⟨y,hy⟩:∃ y,zs[k]?=some y:=⟨_,List.getElem?_eq_getElem (by have:=E.out.2.2.1;have:=E.out.1;have:=HN.out;omega)⟩
   have hzl:(zs.map zAJ).length=N:=by rw[List.length_map,E.out.2.2.1];exact HN.out
   have hmN:m<N:=by have:=E.out.1;omega
   have hkN:k<N:=by have:=E.out.1;omega
   have hrx:(zs.map zAJ)[m]?=some (zAJ x):=by rw[List.getElem?_map,hx];rfl
   have hry:(zs.map zAJ)[k]?=some (zAJ y):=by rw[List.getElem?_map,hy];rfl
   have E2:=Lib.hid (show k+1+(m - 1)+1=N/\k+1<=m - 1+1/\Half ys ((zs.set k x).set m y) (k+1) from ⟨by have:=E.out.1;omega,by omega,E.out.2.2.step (by rw[HN.out];exact E.out.1) hlt hx hy⟩)
   have HZL:=Lib.hid hzl;have HX:=Lib.hid hrx;have HY:=Lib.hid hry;clear hx hy hzl hrx hry
   go_upto_region 3 with (first|fail)
   refine zDt 13 [2,3] [fun v _=>v=.slice (some ⟨g,0,none⟩) N c,fun v _=>v=.int .i64 (k:Int),fun v _=>v=.slice (some ⟨g,0,none⟩) N c,fun v _=>v=.int .i64 (m:Int),fun v _=>v=.slice (some ⟨g,0,none⟩) N c,fun v _=>v=.int .i64 (m:Int),fun v _=>v=.pointer (some ⟨g,m * 9,none⟩),fun v _=>v=.agg (zAJ x),fun v _=>v=.slice (some ⟨g,0,none⟩) N c,fun v _=>v=.int .i64 (k:Int),fun v _=>v=.pointer (some ⟨g,k * 9,none⟩),fun v _=>v=.agg (zAJ y),fun v _=>v=.pointer (some ⟨g,k * 9,none⟩)] (fun _=>false) (by kernel_rfl) (by kernel_rfl) (by kernel_rfl) (by repeat (first|exact trivial|refine⟨zAL _,?_⟩)) (fun _ _ h=>by cases h) ?ob ?en ?en2
   case ob =>
    refine⟨?_,?_,?_,?_,?_,?_,?_,?_,?_,?_,?_,?_,?_,trivial⟩<;>intro A W h
    ·exact zAH rfl rfl (h.f 0)
    ·exact zAH rfl rfl (h.f 2)
    ·exact zAH rfl rfl (h.f 0)
    ·exact zAH rfl rfl (h.f 3)
    ·exact zAH rfl rfl (h.f 0)
    ·exact zAH rfl rfl (h.f 3)
    ·exact zBr (sz:=9) Tryz.underlying32 (fun w=>by kernel_rfl) rfl rfl (h.d 4 18) (h.d 5 19) (by omega) (by omega)
    ·exact zAA rfl (zAb rfl (h.d 6 20) zAj rfl ((H.call h.below).rowCell (i:=0) .zero (zAW _) HZL.out HX.out rfl)) (by decide)
    ·exact zAH rfl rfl (h.f 0)
    ·exact zAH rfl rfl (h.f 2)
    ·exact zBr (sz:=9) Tryz.underlying32 (fun w=>by kernel_rfl) rfl rfl (h.d 8 22) (h.d 9 23) (by omega) (by omega)
    ·exact zAA rfl (zAb rfl (h.d 10 24) zAj rfl ((H.call h.below).rowCell (i:=0) .zero (zAW _) HZL.out HY.out rfl)) (by decide)
    ·exact zBr (sz:=9) Tryz.underlying32 (fun w=>by kernel_rfl) rfl rfl (h.d 0 14) (h.d 1 15) (by omega) (by omega)
   case en =>
    intro vals W hbw hv _;simp only[fa,Nat.reduceAdd];rw[e_ hv 0,e_ hv 1,e_ hv 2,e_ hv 3,e_ hv 4,e_ hv 5,e_ hv 6,e_ hv 7,e_ hv 8,e_ hv 9,e_ hv 10,e_ hv 11,e_ hv 12];clear hv
    try simp only[pl]
    replace H:=H.call hbw;clear hbw
    go_wp2_with (first|((with_reducible refine gTi ?_);refine zBH wtd_ _ _ _ rfl rfl rfl evd_ H (j:=0) .zero (zAW _) (by first|exact HZL.out|simpa using HZL.out) (by with_reducible exact zAr zAj) rfl rfl (by first|exact hkN|exact hmN) ?_;clear H;intro w H;(try simp only[sc]at H);rw[← List.map_set]at H)|fail)
    go_roundw
    case rel=>exact⟨k+1,m - 1,_,by simp,by rw[show (m:Int) - 1=((m - 1:Nat):Int) by omega],by omega,by have:=E.out.1;omega,E2,H⟩
    case measure=>simp[intOf];omega
   case en2 =>
    intro S vals W hS hne hbw hv;replace H:=H.call hbw;clear hbw;rcases zO8 hS hne with rfl|rfl|rfl
    all_goals
     first
      | (rw[zBz 13 _ _ _ _ _ _ (by decide)];simp only[fa,Nat.reduceAdd,zDI];simp (decide:=true) only[if_true,if_false];rw[ev2 hv 0,ev2 hv 1,ev2 hv 3,ev2 hv 4,ev2 hv 5,ev2 hv 6,ev2 hv 7,ev2 hv 8,ev2 hv 9,ev2 hv 10,ev2 hv 11,ev2 hv 12];clear hv;simp only[pl];refine zAw (fuel:=3) 2 13 (by kernel_rfl) rfl rfl rfl rfl ?_ ?_)
      | (rw[zBz 13 _ _ _ _ _ _ (by decide)];simp only[fa,Nat.reduceAdd,zDI];simp (decide:=true) only[if_true,if_false];rw[ev2 hv 0,ev2 hv 1,ev2 hv 2,ev2 hv 4,ev2 hv 5,ev2 hv 6,ev2 hv 7,ev2 hv 8,ev2 hv 9,ev2 hv 10,ev2 hv 11,ev2 hv 12];clear hv;simp only[pl];refine zAw (fuel:=3) 3 13 (by kernel_rfl) rfl rfl rfl rfl ?_ ?_)
      | (rw[zBz 13 _ _ _ _ _ _ (by decide)];simp only[fa,Nat.reduceAdd,zDI];simp (decide:=true) only[if_true,if_false];rw[ev2 hv 0,ev2 hv 1,ev2 hv 4,ev2 hv 5,ev2 hv 6,ev2 hv 7,ev2 hv 8,ev2 hv 9,ev2 hv 10,ev2 hv 11,ev2 hv 12];clear hv;simp only[pl];refine zD0 (fuel:=4) 2 3 13 (by kernel_rfl) rfl rfl rfl rfl rfl rfl ?_ ?_ ?_)
    all_goals
     intro KK hK;simp only[List.getElem_toArray,List.getElem_cons_succ,List.getElem_cons_zero]
     go_wp2_with (first|((with_reducible refine gTi ?_);refine zBH wtd_ _ _ _ rfl rfl rfl evd_ H (j:=0) .zero (zAW _) (by first|exact HZL.out|simpa using HZL.out) (by with_reducible exact zAr zAj) rfl rfl (by first|exact hkN|exact hmN) ?_;clear H;intro w H;(try simp only[sc]at H);rw[← List.map_set]at H)|fail)
     refine hK.out.1 _ _ ?_
    all_goals
     first|(refine zAf (fuel:=2) 2 (by decide +kernel) rfl rfl ?_)|(refine zAf (fuel:=2) 3 (by decide +kernel) rfl rfl ?_)|(refine zAf (fuel:=2) 13 (by decide +kernel) rfl rfl ?_)|(refine zAw (fuel:=3) 2 3 (by decide +kernel) rfl rfl rfl rfl ?_ ?_)|(refine zAw (fuel:=3) 2 13 (by decide +kernel) rfl rfl rfl rfl ?_ ?_)|(refine zAw (fuel:=3) 3 13 (by decide +kernel) rfl rfl rfl rfl ?_ ?_)
    all_goals
     intro KK hK;simp only[List.getElem_toArray,List.getElem_cons_succ,List.getElem_cons_zero]
     go_wp2_with (first|((with_reducible refine gTi ?_);refine zBH wtd_ _ _ _ rfl rfl rfl evd_ H (j:=0) .zero (zAW _) (by first|exact HZL.out|simpa using HZL.out) (by with_reducible exact zAr zAj) rfl rfl (by first|exact hkN|exact hmN) ?_;clear H;intro w H;(try simp only[sc]at H);rw[← List.map_set]at H)|fail)
     refine hK.out.1 _ _ ?_
    all_goals
     first|(refine zAf (fuel:=1) 14 (by decide +kernel) rfl rfl ?_)|(refine zAf (fuel:=2) 2 (by decide +kernel) rfl rfl ?_)|(refine zAf (fuel:=2) 3 (by decide +kernel) rfl rfl ?_)|(refine zAf (fuel:=2) 13 (by decide +kernel) rfl rfl ?_)
    all_goals
     intro KK hK;simp only[List.getElem_toArray,List.getElem_cons_succ,List.getElem_cons_zero]
     go_wp2_with (first|((with_reducible refine gTi ?_);refine zBH wtd_ _ _ _ rfl rfl rfl evd_ H (j:=0) .zero (zAW _) (by first|exact HZL.out|simpa using HZL.out) (by with_reducible exact zAr zAj) rfl rfl (by first|exact hkN|exact hmN) ?_;clear H;intro w H;(try simp only[sc]at H);rw[← List.map_set]at H)|fail)
     refine hK.out.1 _ _ ?_
    all_goals
     first|(refine zAf (fuel:=0) 15 (by decide +kernel) rfl rfl ?_)|(refine zAf (fuel:=1) 14 (by decide +kernel) rfl rfl ?_)
    all_goals
     intro KK hK;simp only[List.getElem_toArray,List.getElem_cons_succ,List.getElem_cons_zero]
     go_wp2_with (first|((with_reducible refine gTi ?_);refine zBH wtd_ _ _ _ rfl rfl rfl evd_ H (j:=0) .zero (zAW _) (by first|exact HZL.out|simpa using HZL.out) (by with_reducible exact zAr zAj) rfl rfl (by first|exact hkN|exact hmN) ?_;clear H;intro w H;(try simp only[sc]at H);rw[← List.map_set]at H)|fail)
     refine hK.out.1 _ _ ?_
    all_goals
     first|(refine zAf (fuel:=0) 15 (by decide +kernel) rfl rfl ?_)|(refine zI7 (by decide +kernel) ?_;go_wp2_with fail;go_roundw;(case rel=>exact⟨k+1,m - 1,_,by simp,by rw[show (m:Int) - 1=((m - 1:Nat):Int) by omega],by omega,by have:=E.out.1;omega,E2,H⟩);(case measure=>simp[intOf];omega))
    all_goals
     intro KK hK;simp only[List.getElem_toArray,List.getElem_cons_succ,List.getElem_cons_zero]
     go_wp2_with (first|((with_reducible refine gTi ?_);refine zBH wtd_ _ _ _ rfl rfl rfl evd_ H (j:=0) .zero (zAW _) (by first|exact HZL.out|simpa using HZL.out) (by with_reducible exact zAr zAj) rfl rfl (by first|exact hkN|exact hmN) ?_;clear H;intro w H;(try simp only[sc]at H);rw[← List.map_set]at H)|fail)
     refine hK.out.1 _ _ ?_
    all_goals
     first|(refine zI7 (by decide +kernel) ?_;go_wp2_with fail;go_roundw;(case rel=>exact⟨k+1,m - 1,_,by simp,by rw[show (m:Int) - 1=((m - 1:Nat):Int) by omega],by omega,by have:=E.out.1;omega,E2,H⟩);(case measure=>simp[intOf];omega))
  ·have d1:decide ((k:Int)<(m:Int))=false:=by simp;omega
   have EZ:zs=ys.reverse:=E.out.2.2.fin (by rw[HN.out];exact E.out.1) (by omega) E.out.2.1
   have EZ:=Lib.hid EZ
   go_wp2_with (first|fail)
   refine⟨rfl,.tuple #[],(by simp[results,Tryz.f60,go_sem]),rfl,?_⟩
   rw[← EZ.out];exact H
theorem zAt {P:Program} {ops:Array Oper} {rest:List Oper} {o:Oper} {a:Act} {w w0:World} {Q:Exit->Act->World->Prop} {l:List Res} {M:Nat->Prop} (hg:Region.wanted o (yielded ops a.tmps)=true) (T:TypeId) (x y:Operand) (ho:o.op=.store T x y) {g i n cap sz:Nat} (hx:a.eval x=.pointer (some ⟨g,i,none⟩)) {v:Value} (hy:a.eval y=v) (H:HoldG M w0 w l) {j:Nat} {e:TypeId} {xs:List Value}
  (hi:At l j (.row (.slice (some ⟨g,0,none⟩) n cap) e sz n xs)) (hT:zCe P T 1=true) (h1:v.oneCell'=true) (hin:i<n * sz)
  (h:∀ w',HoldG M w0 w' (l.set j (.row (.slice (some ⟨g,0,none⟩) n cap) e sz n (xs.set i v)))->wpList P ops Q rest (a.put o.dst undef) w'):wpList P ops Q (o::rest) a w:=by
 exact zAo hg fun _ hK=>by
  obtain⟨hlen,⟨hv',_⟩|⟨g',cap',cur,hv',hb,hg',hn,hc,hsz,ht⟩⟩:=H.all j _ hi.get
  ·cases hv'
  ·cases hv'
   have hs:(⟨g,i,none⟩:Addr).add 0=⟨g,i,none⟩:=by rw[Addr.add_mid];rfl
   have hcell:w.cell? ⟨g,i,none⟩=cur[i]?:=by simp[World.cell?,hg']
   have hfr:w.frozen? ⟨g,i,none⟩=false:=by simp[World.frozen?,hg']
   have hm:n * sz<=cap * sz:=Nat.mul_le_mul_right _ hn;have hisz:i<cur.size:=by omega
   unfold Oper.wp execOp;simp only[ho,hx,hy,Instr.storeAt,Instr.sureAddr,Sem.run_bind,Sem.run_pure,Result.andThen_ok,zCR (P:=P) (w:=w) hT h1 (by rw[hcell];simp[hisz]) hfr hs]
   have hh:=heap_setCell hg' (k:=i) v;refine hK _ _ (h _ (H.upd hi.get (zB7 w g i v) ⟨by rw[List.length_set];exact hlen,.inr ⟨g,cap,_,rfl,hb,hh,hn,hc,?_,?_⟩⟩ (fun _ e=>.inl e)))
   ·simp[hsz]
   ·rw[← ht,Array.toList_setIfInBounds,List.take_set]
theorem zA6 (k:Nat) (v:Value) (x y:InstD) (hk:k<9) (hy:(zAJ x).toList.set k v=(zAJ y).toList):∀ (zs:List InstD) (j:Nat),zs[j]?=some x->(zAG (zs.map zAJ)).set (j * 9+k) v=zAG ((zs.set j y).map zAJ)
 | [],j,h=>by simp at h
 | z::zs,0,h=>by
  obtain rfl:z=x:=by simpa using h
  simp only[zAG,List.map_cons,List.flatten_cons,List.set_cons_zero,Nat.zero_mul,Nat.zero_add];rw[List.set_append_left _ _ (by show k<9;exact hk),hy]
 | z::zs,j+1,h=>by
  have ih:=zA6 k v x y hk hy zs j (by simpa using h)
  simp only[zAG,List.map_cons,List.flatten_cons,List.set_cons_succ]at ih ⊢;rw[List.set_append_right _ _ (by show 9<=_;omega),← ih]
  congr 2
  show (j+1) * 9+k - 9=_
  omega
theorem zDc (x:InstD) (v:Int):(zAJ x).toList.set 5 (.int .i64 v)=(zAJ {x with next:=v}).toList:=rfl
theorem zC2 (x:InstD) (v:Int):(zAJ x).toList.set 6 (.int .i64 v)=(zAJ {x with other:=v}).toList:=rfl
theorem zQK {S:List Nat} {a b c:Nat} (h:S.Sublist [a,b,c]) (hn:S≠[]):S=[a]\/S=[b]\/S=[c]\/S=[a,b]\/S=[a,c]\/S=[b,c]\/S=[a,b,c]:=by
 cases h with
 | cons _ h =>
  rcases zO8 h hn with h|h|h
  ·exact .inr (.inl h)
  ·exact .inr (.inr (.inl h))
  ·exact .inr (.inr (.inr (.inr (.inr (.inl h)))))
 | cons_cons _ h =>
  rename_i S'
  by_cases e:S'=[]
  ·subst e;exact .inl rfl
  ·rcases zO8 h e with h|h|h<;>subst h
   ·exact .inr (.inr (.inr (.inl rfl)))
   ·exact .inr (.inr (.inr (.inr (.inl rfl))))
   ·exact .inr (.inr (.inr (.inr (.inr (.inr rfl)))))
def zDX (m:Nat) (rs:List InstD) (k:Nat):List InstD:=(rs.take k).map (zDP m)++rs.drop k
theorem zIf (m:Nat) (rs:List InstD) (k:Nat):(zDX m rs k).length=rs.length:=by unfold zDX;simp;omega
theorem zLl {m:Nat} {rs:List InstD} {k:Nat} {x:InstD} (h:rs[k]?=some x):(zDX m rs k)[k]?=some x:=by
 have hk:=(List.getElem?_eq_some_iff.1 h).1;unfold zDX;rw[List.getElem?_append_right (by simp;omega),List.getElem?_drop,← h]
 congr 1;simp;omega
theorem zLw {m:Nat} {rs:List InstD} {k:Nat} {x:InstD} (h:rs[k]?=some x):(zDX m rs k).set k (zDP m x)=zDX m rs (k+1):=by
 have hk:=(List.getElem?_eq_some_iff.1 h).1;have h2:=(List.getElem?_eq_some_iff.1 h).2;unfold zDX;rw[List.take_add_one,h,List.drop_eq_getElem_cons hk,h2,List.set_append_right _ _ (by simp;omega),show k - ((rs.take k).map (zDP m)).length=0 by simp;omega]
 simp
theorem zL6 (m:Nat) (rs:List InstD) {k:Nat} (h:rs.length<=k):zDX m rs k=rs.map (zDP m):=by unfold zDX;rw[List.take_of_length_le h,List.drop_of_length_le h,List.append_nil]
theorem zMO {M:Nat->Prop} {w0 w:World} (bc g c N:Nat) (zs:List InstD) (l:List Res) (hn:N<=1000000) (h0:0<N) (hN:zs.length=N) (H:HoldG M w0 w (.row (.slice (some ⟨g,0,none⟩) N c) 47 9 N (zAG (zs.map zAJ))::.blk bc #[.slice (some ⟨g,0,none⟩) N c] 61::l)) :
  Calls Tryz.prog 28 #[.pointer (some ⟨bc,0,none⟩)] w fun e w'=>e=.returned (.slice (some ⟨g,0,none⟩) N c)/\HoldG M w0 w' (.row (.slice (some ⟨g,0,none⟩) N c) 47 9 N (zAG ((zBi zs).map zAJ))::.blk bc #[.slice (some ⟨g,0,none⟩) N c] 61::l):=by
 have hrev:=fun W (H:HoldG M w0 W (.row (.slice (some ⟨g,0,none⟩) N c) 47 9 N (zAG (zs.map zAJ))::.blk bc #[.slice (some ⟨g,0,none⟩) N c] 61::l))=>zJZ g c N zs _ hn h0 hN H
 obtain⟨m,hm⟩:∃ m,N=m+1:=⟨N - 1,by omega⟩
 obtain⟨rs,hrs⟩:∃ rs,zs.reverse=rs:=⟨_,rfl⟩;have ET:zBi zs=rs.map (zDP m):=by unfold zBi;rw[hrs,hN,hm];rfl
 have hrl:rs.length=N:=by rw[← hrs,List.length_reverse,hN]
 rw[hrs]at hrev;rw[ET];have s0:(N:Int) - 1=(m:Int):=by omega
 have HRL:=Lib.hid hrl;have HM:=Lib.hid hm;clear hrs hN ET hrl hm;have hm6:m<=1000000:=by omega
 go_enter Tryz.func28,Tryz.ntmps28
 go_wp2_with (first|((go_at_call 60);refine(hrev _ H).mono (fun e w' hc=>?_);obtain⟨rfl,H2⟩:=hc;clear hrev H;have H:=H2;clear H2)|((with_reducible refine gL ?_);refine aG H ?_))
 go_loopw [22] (fun i wr=>∃ k:Nat,k<=N/\i=.int .i64 k/\HoldG M w0 wr (.row (.slice (some ⟨g,0,none⟩) N c) 47 9 N (zAG ((zDX m rs k).map zAJ))::.blk bc #[.slice (some ⟨g,0,none⟩) N c] 61::l)) (fun i _=>N+1 - (intOf i).toNat)
 case atStart=>exact⟨0,by omega,rfl,H⟩
 case round =>
  clear H;obtain⟨k,hk,rfl,H⟩:=hrel
  by_cases hlt:k<N
  ·have d1:decide ((k:Int)<(N:Int))=true:=by simp;omega
   obtain⟨x,hx⟩:∃ x,rs[k]?=some x:=⟨_,List.getElem?_eq_getElem (by rw[HRL.out];exact hlt)⟩
   have hx2:=zLl (m:=m) hx;have ES:=Lib.hid (zLw (m:=m) hx);have HX:=Lib.hid (show ((zDX m rs k).map zAJ)[k]?=some (zAJ x) by rw[List.getElem?_map,hx2];rfl)
   have HXT:=Lib.hid hx2;have HL:=Lib.hid (show ((zDX m rs k).map zAJ).length=N by rw[List.length_map,zIf,HRL.out])
   obtain⟨nx,hnx⟩:∃ nx,wrap64 ((m:Int) - x.next)=nx:=⟨_,rfl⟩;obtain⟨ox,hox⟩:∃ ox,wrap64 ((m:Int) - x.other)=ox:=⟨_,rfl⟩;have HXT2:=Lib.hid (show ((zDX m rs k).set k {x with next:=nx})[k]?=some {x with next:=nx} by rw[List.getElem?_set,if_pos rfl,if_pos (by rw[zIf,HRL.out];exact hlt)])
   have HNX:=Lib.hid hnx;have HOX:=Lib.hid hox;clear hx hx2 hnx hox
   by_cases k2:x.kind=2
   ·have e2:(x.kind == 2)=true:=by rw[beq_iff_eq];exact k2
    have EQ:=Lib.hid (show (zDX m rs k).set k {x with next:=nx,other:=ox}=zDX m rs (k+1) by rw[← ES.out];congr 1;unfold zDP;rw[HNX.out,HOX.out,k2];rfl)
    clear k2
    go_upto_region 9 with (first|((with_reducible refine gL ?_);refine zAM wtd_ _ _ rfl rfl zAd ((H.rowCell (i:=0) .zero (zAW _) HL.out HX.out rfl 0 (by decide)).trans (ig0 x)) ?_)|((with_reducible refine gL ?_);refine zAM wtd_ _ _ rfl rfl zAC ((H.rowCell (i:=0) .zero (zAW _) HL.out HX.out rfl 5 (by decide)).trans (ig5 x)) ?_)|((with_reducible refine gL ?_);refine zAM wtd_ _ _ rfl rfl zAC ((H.rowCell (i:=0) .zero (zAW _) HL.out HX.out rfl 6 (by decide)).trans (ig6 x)) ?_)|((with_reducible refine gL ?_);refine aG H ?_))
    refine zDt 16 [1,8,13] [fun v _=>v=.pointer (some ⟨g,k * 9,none⟩),fun v _=>v=.pointer (some ⟨g,k * 9,none⟩),fun v _=>v=.int .i64 (m:Int),fun v _=>v=.pointer (some ⟨g,k * 9,none⟩),fun v _=>v=.pointer (some ⟨g,k * 9,none⟩),fun v _=>v=.pointer (some ⟨g,k * 9+5,none⟩),fun v _=>v=.int .i64 x.next,fun v _=>v=.int .i64 nx,fun v _=>v=.int .i64 (m:Int),fun v _=>v=.pointer (some ⟨g,k * 9,none⟩),fun v _=>v=.pointer (some ⟨g,k * 9,none⟩),fun v _=>v=.pointer (some ⟨g,k * 9+6,none⟩),fun v _=>v=.int .i64 x.other,fun v _=>v=.int .i64 ox,fun v _=>v=.pointer (some ⟨g,k * 9,none⟩),fun v _=>v=.pointer (some ⟨g,k * 9+5,none⟩)] (fun _=>false) (by kernel_rfl) (by kernel_rfl) (by kernel_rfl) (by repeat (first|exact trivial|refine⟨zAL _,?_⟩)) (fun _ _ h=>by cases h) ?ob ?en ?en2
    case ob =>
     refine⟨?_,?_,?_,?_,?_,?_,?_,?_,?_,?_,?_,?_,?_,?_,?_,?_,trivial⟩<;>intro A W h
     ·exact zAH rfl rfl (h.f 5)
     ·exact zAH rfl rfl (h.f 5)
     ·exact zAH rfl rfl (h.f 3)
     ·exact zAH rfl rfl (h.f 5)
     ·(have e40:A.eval (.tmp 40)=.pointer (some ⟨g,k * 9,none⟩):=h.d 3 40;refine zAA rfl ?_;simp only[execOp,e40];(simp[go_sem]<;>first|done|omega|(rw[IntKind.wrap_i64];omega)|(rw[IntKind.wrap_u8];omega)|(rw[IntKind.wrap_u64];omega)))
     ·(have e41:A.eval (.tmp 41)=.pointer (some ⟨g,k * 9,none⟩):=h.d 4 41;refine zAA rfl ?_;simp only[execOp,e41];(simp[go_sem]<;>first|done|omega|(rw[IntKind.wrap_i64];omega)|(rw[IntKind.wrap_u8];omega)|(rw[IntKind.wrap_u64];omega)))
     ·exact zAA rfl (zAD rfl (h.d 5 42) zAC (((H.call h.below).rowCell (i:=0) .zero (zAW _) HL.out HX.out rfl 5 (by decide)).trans (ig5 x))) (by decide)
     ·(have e39:A.eval (.tmp 39)=.int .i64 (m:Int):=h.d 2 39;have e43:A.eval (.tmp 43)=.int .i64 x.next:=h.d 6 43;refine zAA rfl ?_;simp only[execOp,e39,e43];(simp[go_sem];rw[IntKind.wrap_i64];have hq:=HNX.out;unfold wrap64 at hq;exact hq))
     ·exact zAH rfl rfl (h.f 3)
     ·exact zAH rfl rfl (h.f 5)
     ·(have e46:A.eval (.tmp 46)=.pointer (some ⟨g,k * 9,none⟩):=h.d 9 46;refine zAA rfl ?_;simp only[execOp,e46];(simp[go_sem]<;>first|done|omega|(rw[IntKind.wrap_i64];omega)|(rw[IntKind.wrap_u8];omega)|(rw[IntKind.wrap_u64];omega)))
     ·(have e47:A.eval (.tmp 47)=.pointer (some ⟨g,k * 9,none⟩):=h.d 10 47;refine zAA rfl ?_;simp only[execOp,e47];(simp[go_sem]<;>first|done|omega|(rw[IntKind.wrap_i64];omega)|(rw[IntKind.wrap_u8];omega)|(rw[IntKind.wrap_u64];omega)))
     ·exact zAA rfl (zAD rfl (h.d 11 48) zAC (((H.call h.below).rowCell (i:=0) .zero (zAW _) HL.out HX.out rfl 6 (by decide)).trans (ig6 x))) (by decide)
     ·(have e45:A.eval (.tmp 45)=.int .i64 (m:Int):=h.d 8 45;have e49:A.eval (.tmp 49)=.int .i64 x.other:=h.d 12 49;refine zAA rfl ?_;simp only[execOp,e45,e49];(simp[go_sem];rw[IntKind.wrap_i64];have hq:=HOX.out;unfold wrap64 at hq;exact hq))
     ·(have e37:A.eval (.tmp 37)=.pointer (some ⟨g,k * 9,none⟩):=h.d 0 37;refine zAA rfl ?_;simp only[execOp,e37];(simp[go_sem]<;>first|done|omega|(rw[IntKind.wrap_i64];omega)|(rw[IntKind.wrap_u8];omega)|(rw[IntKind.wrap_u64];omega)))
     ·(have e51:A.eval (.tmp 51)=.pointer (some ⟨g,k * 9,none⟩):=h.d 14 51;refine zAA rfl ?_;simp only[execOp,e51];(simp[go_sem]<;>first|done|omega|(rw[IntKind.wrap_i64];omega)|(rw[IntKind.wrap_u8];omega)|(rw[IntKind.wrap_u64];omega)))
    case en =>
     intro vals W hbw hv _;simp only[fa,Nat.reduceAdd];rw[e_ hv 0,e_ hv 1,e_ hv 2,e_ hv 3,e_ hv 4,e_ hv 5,e_ hv 6,e_ hv 7,e_ hv 8,e_ hv 9,e_ hv 10,e_ hv 11,e_ hv 12,e_ hv 13,e_ hv 14,e_ hv 15];clear hv
     try simp only[pl]
     replace H:=H.call hbw;clear hbw
     go_wp2_with (first|((with_reducible refine gT ?_);refine zAt wtd_ _ _ _ rfl rfl (v:=.int .i64 nx) rfl H (j:=0) .zero (zAE zAC) rfl (by omega) ?_;clear H;intro w H;simp only[List.set_cons_zero]at H;rw[zA6 5 _ x {x with next:=nx} (by decide) (zDc x nx) _ k HXT.out]at H)|((with_reducible refine gT ?_);refine zAt wtd_ _ _ _ rfl rfl (v:=.int .i64 ox) rfl H (j:=0) .zero (zAE zAC) rfl (by omega) ?_;clear H;intro w H;simp only[List.set_cons_zero]at H;rw[zA6 6 _ {x with next:=nx} {x with next:=nx,other:=ox} (by decide) (zC2 _ ox) _ k HXT2.out,List.set_set]at H)|fail)
     go_roundw
     case rel=>exact⟨k+1,by omega,by simp,by rw[← EQ.out];exact H⟩
     case measure=>simp[intOf];omega
    case en2 =>
     intro S vals W hS hne hbw hv;replace H:=H.call hbw;clear hbw;rcases zQK hS hne with rfl|rfl|rfl|rfl|rfl|rfl|rfl
     all_goals
      first
       | (rw[zBz 16 _ _ _ _ _ _ (by decide)];simp only[fa,Nat.reduceAdd,zDI];simp (decide:=true) only[if_true,if_false];rw[ev2 hv 0,ev2 hv 2,ev2 hv 3,ev2 hv 4,ev2 hv 5,ev2 hv 6,ev2 hv 7,ev2 hv 8,ev2 hv 9,ev2 hv 10,ev2 hv 11,ev2 hv 12,ev2 hv 13,ev2 hv 14,ev2 hv 15];clear hv;simp only[pl];refine zAw (fuel:=4) 1 16 (by kernel_rfl) rfl rfl rfl rfl ?_ ?_)
       | (rw[zBz 16 _ _ _ _ _ _ (by decide)];simp only[fa,Nat.reduceAdd,zDI];simp (decide:=true) only[if_true,if_false];rw[ev2 hv 0,ev2 hv 1,ev2 hv 2,ev2 hv 3,ev2 hv 4,ev2 hv 5,ev2 hv 6,ev2 hv 7,ev2 hv 9,ev2 hv 10,ev2 hv 11,ev2 hv 12,ev2 hv 13,ev2 hv 14,ev2 hv 15];clear hv;simp only[pl];refine zAw (fuel:=4) 8 16 (by kernel_rfl) rfl rfl rfl rfl ?_ ?_)
       | (rw[zBz 16 _ _ _ _ _ _ (by decide)];simp only[fa,Nat.reduceAdd,zDI];simp (decide:=true) only[if_true,if_false];rw[ev2 hv 0,ev2 hv 1,ev2 hv 2,ev2 hv 3,ev2 hv 4,ev2 hv 5,ev2 hv 6,ev2 hv 7,ev2 hv 8,ev2 hv 9,ev2 hv 10,ev2 hv 11,ev2 hv 12,ev2 hv 14,ev2 hv 15];clear hv;simp only[pl];refine zAw (fuel:=4) 13 16 (by kernel_rfl) rfl rfl rfl rfl ?_ ?_)
       | (rw[zBz 16 _ _ _ _ _ _ (by decide)];simp only[fa,Nat.reduceAdd,zDI];simp (decide:=true) only[if_true,if_false];rw[ev2 hv 0,ev2 hv 2,ev2 hv 3,ev2 hv 4,ev2 hv 5,ev2 hv 6,ev2 hv 7,ev2 hv 9,ev2 hv 10,ev2 hv 11,ev2 hv 12,ev2 hv 13,ev2 hv 14,ev2 hv 15];clear hv;simp only[pl];refine zD0 (fuel:=5) 1 8 16 (by kernel_rfl) rfl rfl rfl rfl rfl rfl ?_ ?_ ?_)
       | (rw[zBz 16 _ _ _ _ _ _ (by decide)];simp only[fa,Nat.reduceAdd,zDI];simp (decide:=true) only[if_true,if_false];rw[ev2 hv 0,ev2 hv 2,ev2 hv 3,ev2 hv 4,ev2 hv 5,ev2 hv 6,ev2 hv 7,ev2 hv 8,ev2 hv 9,ev2 hv 10,ev2 hv 11,ev2 hv 12,ev2 hv 14,ev2 hv 15];clear hv;simp only[pl];refine zD0 (fuel:=5) 1 13 16 (by kernel_rfl) rfl rfl rfl rfl rfl rfl ?_ ?_ ?_)
       | (rw[zBz 16 _ _ _ _ _ _ (by decide)];simp only[fa,Nat.reduceAdd,zDI];simp (decide:=true) only[if_true,if_false];rw[ev2 hv 0,ev2 hv 1,ev2 hv 2,ev2 hv 3,ev2 hv 4,ev2 hv 5,ev2 hv 6,ev2 hv 7,ev2 hv 9,ev2 hv 10,ev2 hv 11,ev2 hv 12,ev2 hv 14,ev2 hv 15];clear hv;simp only[pl];refine zAw (fuel:=5) 8 16 (by kernel_rfl) rfl rfl rfl rfl ?_ ?_)
       | (rw[zBz 16 _ _ _ _ _ _ (by decide)];simp only[fa,Nat.reduceAdd,zDI];simp (decide:=true) only[if_true,if_false];rw[ev2 hv 0,ev2 hv 2,ev2 hv 3,ev2 hv 4,ev2 hv 5,ev2 hv 6,ev2 hv 7,ev2 hv 9,ev2 hv 10,ev2 hv 11,ev2 hv 12,ev2 hv 14,ev2 hv 15];clear hv;simp only[pl];refine zD0 (fuel:=6) 1 8 16 (by kernel_rfl) rfl rfl rfl rfl rfl rfl ?_ ?_ ?_)
     all_goals
      intro KK hK;simp only[List.getElem_toArray,List.getElem_cons_succ,List.getElem_cons_zero]
      go_wp2_with (first|((with_reducible refine gT ?_);refine zAt wtd_ _ _ _ rfl rfl (v:=.int .i64 nx) rfl H (j:=0) .zero (zAE zAC) rfl (by omega) ?_;clear H;intro w H;simp only[List.set_cons_zero]at H;rw[zA6 5 _ x {x with next:=nx} (by decide) (zDc x nx) _ k HXT.out]at H)|((with_reducible refine gT ?_);refine zAt wtd_ _ _ _ rfl rfl (v:=.int .i64 ox) rfl H (j:=0) .zero (zAE zAC) rfl (by omega) ?_;clear H;intro w H;simp only[List.set_cons_zero]at H;rw[zA6 6 _ {x with next:=nx} {x with next:=nx,other:=ox} (by decide) (zC2 _ ox) _ k HXT2.out,List.set_set]at H)|((with_reducible show wpList _ _ _ ({dst:=some 50,op:=_,type:=_,pos:=_,after:=_,guard:=_}::_) _ _);refine zAK rfl (v:=.int .i64 ox) (by simp[execOp,go_sem,Act.eval];rw[IntKind.wrap_i64];have hq:=HOX.out;unfold wrap64 at hq;exact hq) ?_)|fail)
      refine hK.out.1 _ _ ?_
     all_goals
      first|(refine zAf (fuel:=3) 1 (by decide +kernel) rfl rfl ?_)|(refine zAf (fuel:=3) 8 (by decide +kernel) rfl rfl ?_)|(refine zAf (fuel:=3) 13 (by decide +kernel) rfl rfl ?_)|(refine zAf (fuel:=3) 16 (by decide +kernel) rfl rfl ?_)|(refine zAf (fuel:=4) 8 (by decide +kernel) rfl rfl ?_)|(refine zAw (fuel:=4) 1 8 (by decide +kernel) rfl rfl rfl rfl ?_ ?_)|(refine zAw (fuel:=4) 1 13 (by decide +kernel) rfl rfl rfl rfl ?_ ?_)|(refine zAw (fuel:=4) 1 16 (by decide +kernel) rfl rfl rfl rfl ?_ ?_)|(refine zAw (fuel:=4) 8 16 (by decide +kernel) rfl rfl rfl rfl ?_ ?_)|(refine zAw (fuel:=4) 13 16 (by decide +kernel) rfl rfl rfl rfl ?_ ?_)|(refine zAw (fuel:=5) 1 8 (by decide +kernel) rfl rfl rfl rfl ?_ ?_)|(refine zAw (fuel:=5) 8 16 (by decide +kernel) rfl rfl rfl rfl ?_ ?_)|(refine zD0 (fuel:=5) 1 13 16 (by decide +kernel) rfl rfl rfl rfl rfl rfl ?_ ?_ ?_)
     all_goals
      intro KK hK;simp only[List.getElem_toArray,List.getElem_cons_succ,List.getElem_cons_zero]
      go_wp2_with (first|((with_reducible refine gT ?_);refine zAt wtd_ _ _ _ rfl rfl (v:=.int .i64 nx) rfl H (j:=0) .zero (zAE zAC) rfl (by omega) ?_;clear H;intro w H;simp only[List.set_cons_zero]at H;rw[zA6 5 _ x {x with next:=nx} (by decide) (zDc x nx) _ k HXT.out]at H)|((with_reducible refine gT ?_);refine zAt wtd_ _ _ _ rfl rfl (v:=.int .i64 ox) rfl H (j:=0) .zero (zAE zAC) rfl (by omega) ?_;clear H;intro w H;simp only[List.set_cons_zero]at H;rw[zA6 6 _ {x with next:=nx} {x with next:=nx,other:=ox} (by decide) (zC2 _ ox) _ k HXT2.out,List.set_set]at H)|((with_reducible show wpList _ _ _ ({dst:=some 50,op:=_,type:=_,pos:=_,after:=_,guard:=_}::_) _ _);refine zAK rfl (v:=.int .i64 ox) (by simp[execOp,go_sem,Act.eval];rw[IntKind.wrap_i64];have hq:=HOX.out;unfold wrap64 at hq;exact hq) ?_)|fail)
      refine hK.out.1 _ _ ?_
     all_goals
      first|(refine zAf (fuel:=2) 17 (by decide +kernel) rfl rfl ?_)|(refine zAf (fuel:=3) 1 (by decide +kernel) rfl rfl ?_)|(refine zAf (fuel:=3) 8 (by decide +kernel) rfl rfl ?_)|(refine zAf (fuel:=3) 13 (by decide +kernel) rfl rfl ?_)|(refine zAf (fuel:=3) 16 (by decide +kernel) rfl rfl ?_)|(refine zAf (fuel:=4) 8 (by decide +kernel) rfl rfl ?_)|(refine zAw (fuel:=4) 1 13 (by decide +kernel) rfl rfl rfl rfl ?_ ?_)|(refine zAw (fuel:=4) 1 16 (by decide +kernel) rfl rfl rfl rfl ?_ ?_)|(refine zAw (fuel:=4) 13 16 (by decide +kernel) rfl rfl rfl rfl ?_ ?_)
     all_goals
      intro KK hK;simp only[List.getElem_toArray,List.getElem_cons_succ,List.getElem_cons_zero]
      go_wp2_with (first|((with_reducible refine gT ?_);refine zAt wtd_ _ _ _ rfl rfl (v:=.int .i64 nx) rfl H (j:=0) .zero (zAE zAC) rfl (by omega) ?_;clear H;intro w H;simp only[List.set_cons_zero]at H;rw[zA6 5 _ x {x with next:=nx} (by decide) (zDc x nx) _ k HXT.out]at H)|((with_reducible refine gT ?_);refine zAt wtd_ _ _ _ rfl rfl (v:=.int .i64 ox) rfl H (j:=0) .zero (zAE zAC) rfl (by omega) ?_;clear H;intro w H;simp only[List.set_cons_zero]at H;rw[zA6 6 _ {x with next:=nx} {x with next:=nx,other:=ox} (by decide) (zC2 _ ox) _ k HXT2.out,List.set_set]at H)|((with_reducible show wpList _ _ _ ({dst:=some 50,op:=_,type:=_,pos:=_,after:=_,guard:=_}::_) _ _);refine zAK rfl (v:=.int .i64 ox) (by simp[execOp,go_sem,Act.eval];rw[IntKind.wrap_i64];have hq:=HOX.out;unfold wrap64 at hq;exact hq) ?_)|fail)
      refine hK.out.1 _ _ ?_
     all_goals
      first|(refine zAf (fuel:=1) 18 (by decide +kernel) rfl rfl ?_)|(refine zAf (fuel:=2) 17 (by decide +kernel) rfl rfl ?_)|(refine zAf (fuel:=3) 1 (by decide +kernel) rfl rfl ?_)|(refine zAf (fuel:=3) 13 (by decide +kernel) rfl rfl ?_)|(refine zAf (fuel:=3) 16 (by decide +kernel) rfl rfl ?_)
     all_goals
      intro KK hK;simp only[List.getElem_toArray,List.getElem_cons_succ,List.getElem_cons_zero]
      go_wp2_with (first|((with_reducible refine gT ?_);refine zAt wtd_ _ _ _ rfl rfl (v:=.int .i64 nx) rfl H (j:=0) .zero (zAE zAC) rfl (by omega) ?_;clear H;intro w H;simp only[List.set_cons_zero]at H;rw[zA6 5 _ x {x with next:=nx} (by decide) (zDc x nx) _ k HXT.out]at H)|((with_reducible refine gT ?_);refine zAt wtd_ _ _ _ rfl rfl (v:=.int .i64 ox) rfl H (j:=0) .zero (zAE zAC) rfl (by omega) ?_;clear H;intro w H;simp only[List.set_cons_zero]at H;rw[zA6 6 _ {x with next:=nx} {x with next:=nx,other:=ox} (by decide) (zC2 _ ox) _ k HXT2.out,List.set_set]at H)|((with_reducible show wpList _ _ _ ({dst:=some 50,op:=_,type:=_,pos:=_,after:=_,guard:=_}::_) _ _);refine zAK rfl (v:=.int .i64 ox) (by simp[execOp,go_sem,Act.eval];rw[IntKind.wrap_i64];have hq:=HOX.out;unfold wrap64 at hq;exact hq) ?_)|fail)
      refine hK.out.1 _ _ ?_
     all_goals
      first|(refine zAf (fuel:=0) 19 (by decide +kernel) rfl rfl ?_)|(refine zAf (fuel:=1) 18 (by decide +kernel) rfl rfl ?_)|(refine zAf (fuel:=2) 17 (by decide +kernel) rfl rfl ?_)
     all_goals
      intro KK hK;simp only[List.getElem_toArray,List.getElem_cons_succ,List.getElem_cons_zero]
      go_wp2_with (first|((with_reducible refine gT ?_);refine zAt wtd_ _ _ _ rfl rfl (v:=.int .i64 nx) rfl H (j:=0) .zero (zAE zAC) rfl (by omega) ?_;clear H;intro w H;simp only[List.set_cons_zero]at H;rw[zA6 5 _ x {x with next:=nx} (by decide) (zDc x nx) _ k HXT.out]at H)|((with_reducible refine gT ?_);refine zAt wtd_ _ _ _ rfl rfl (v:=.int .i64 ox) rfl H (j:=0) .zero (zAE zAC) rfl (by omega) ?_;clear H;intro w H;simp only[List.set_cons_zero]at H;rw[zA6 6 _ {x with next:=nx} {x with next:=nx,other:=ox} (by decide) (zC2 _ ox) _ k HXT2.out,List.set_set]at H)|((with_reducible show wpList _ _ _ ({dst:=some 50,op:=_,type:=_,pos:=_,after:=_,guard:=_}::_) _ _);refine zAK rfl (v:=.int .i64 ox) (by simp[execOp,go_sem,Act.eval];rw[IntKind.wrap_i64];have hq:=HOX.out;unfold wrap64 at hq;exact hq) ?_)|fail)
      refine hK.out.1 _ _ ?_
     all_goals
      first|(refine zAf (fuel:=0) 19 (by decide +kernel) rfl rfl ?_)|(refine zAf (fuel:=1) 18 (by decide +kernel) rfl rfl ?_)|(refine zI7 (by decide +kernel) ?_;go_wp2_with fail;go_roundw;(case rel=>exact⟨k+1,by omega,by simp,by rw[← EQ.out];exact H⟩);(case measure=>simp[intOf];omega))
     all_goals
      intro KK hK;simp only[List.getElem_toArray,List.getElem_cons_succ,List.getElem_cons_zero]
      go_wp2_with (first|((with_reducible refine gT ?_);refine zAt wtd_ _ _ _ rfl rfl (v:=.int .i64 nx) rfl H (j:=0) .zero (zAE zAC) rfl (by omega) ?_;clear H;intro w H;simp only[List.set_cons_zero]at H;rw[zA6 5 _ x {x with next:=nx} (by decide) (zDc x nx) _ k HXT.out]at H)|((with_reducible refine gT ?_);refine zAt wtd_ _ _ _ rfl rfl (v:=.int .i64 ox) rfl H (j:=0) .zero (zAE zAC) rfl (by omega) ?_;clear H;intro w H;simp only[List.set_cons_zero]at H;rw[zA6 6 _ {x with next:=nx} {x with next:=nx,other:=ox} (by decide) (zC2 _ ox) _ k HXT2.out,List.set_set]at H)|((with_reducible show wpList _ _ _ ({dst:=some 50,op:=_,type:=_,pos:=_,after:=_,guard:=_}::_) _ _);refine zAK rfl (v:=.int .i64 ox) (by simp[execOp,go_sem,Act.eval];rw[IntKind.wrap_i64];have hq:=HOX.out;unfold wrap64 at hq;exact hq) ?_)|fail)
      refine hK.out.1 _ _ ?_
     all_goals
      first|(refine zAf (fuel:=0) 19 (by decide +kernel) rfl rfl ?_)|(refine zI7 (by decide +kernel) ?_;go_wp2_with fail;go_roundw;(case rel=>exact⟨k+1,by omega,by simp,by rw[← EQ.out];exact H⟩);(case measure=>simp[intOf];omega))
     all_goals
      intro KK hK;simp only[List.getElem_toArray,List.getElem_cons_succ,List.getElem_cons_zero]
      go_wp2_with (first|((with_reducible refine gT ?_);refine zAt wtd_ _ _ _ rfl rfl (v:=.int .i64 nx) rfl H (j:=0) .zero (zAE zAC) rfl (by omega) ?_;clear H;intro w H;simp only[List.set_cons_zero]at H;rw[zA6 5 _ x {x with next:=nx} (by decide) (zDc x nx) _ k HXT.out]at H)|((with_reducible refine gT ?_);refine zAt wtd_ _ _ _ rfl rfl (v:=.int .i64 ox) rfl H (j:=0) .zero (zAE zAC) rfl (by omega) ?_;clear H;intro w H;simp only[List.set_cons_zero]at H;rw[zA6 6 _ {x with next:=nx} {x with next:=nx,other:=ox} (by decide) (zC2 _ ox) _ k HXT2.out,List.set_set]at H)|((with_reducible show wpList _ _ _ ({dst:=some 50,op:=_,type:=_,pos:=_,after:=_,guard:=_}::_) _ _);refine zAK rfl (v:=.int .i64 ox) (by simp[execOp,go_sem,Act.eval];rw[IntKind.wrap_i64];have hq:=HOX.out;unfold wrap64 at hq;exact hq) ?_)|fail)
      refine hK.out.1 _ _ ?_
     all_goals
      first|(refine zI7 (by decide +kernel) ?_;go_wp2_with fail;go_roundw;(case rel=>exact⟨k+1,by omega,by simp,by rw[← EQ.out];exact H⟩);(case measure=>simp[intOf];omega))
   ·have e2:(x.kind == 2)=false:=by rw[beq_eq_false_iff_ne];exact k2
    have K2:=Lib.hid k2;clear k2
    by_cases kk:x.kind=1\/x.kind=3\/x.kind=4
    ·have EQ:=Lib.hid (show (zDX m rs k).set k {x with next:=nx}=zDX m rs (k+1) by rw[← ES.out];congr 1;unfold zDP;rw[HNX.out,if_pos (by rcases kk with h|h|h<;>rw[h]<;>rfl),e2];rfl)
     obtain⟨q1,hq1⟩:∃ q,(x.kind == 1)=q:=⟨_,rfl⟩;obtain⟨q3,hq3⟩:∃ q,(x.kind == 3)=q:=⟨_,rfl⟩;obtain⟨q4,hq4⟩:∃ q,(x.kind == 4)=q:=⟨_,rfl⟩;have hor:q1=true\/q3=true\/q4=true:=by rw[← hq1,← hq3,← hq4];simpa using kk
     clear kk
     cases q1<;>cases q3<;>cases q4<;>(first|(exact absurd hor (by decide))|skip)
     all_goals
      clear hor
      go_wp2_with (first|((with_reducible refine gL ?_);refine zAM wtd_ _ _ rfl rfl zAd ((H.rowCell (i:=0) .zero (zAW _) HL.out HX.out rfl 0 (by decide)).trans (ig0 x)) ?_)|((with_reducible refine gL ?_);refine zAM wtd_ _ _ rfl rfl zAC ((H.rowCell (i:=0) .zero (zAW _) HL.out HX.out rfl 5 (by decide)).trans (ig5 x)) ?_)|((with_reducible refine gL ?_);refine zAM wtd_ _ _ rfl rfl zAC ((H.rowCell (i:=0) .zero (zAW _) HL.out HX.out rfl 6 (by decide)).trans (ig6 x)) ?_)|((with_reducible refine gT ?_);refine zAt wtd_ _ _ _ rfl rfl (v:=.int .i64 nx) rfl H (j:=0) .zero (zAE zAC) rfl (by omega) ?_;clear H;intro w H;simp only[List.set_cons_zero]at H;rw[zA6 5 _ x {x with next:=nx} (by decide) (zDc x nx) _ k HXT.out]at H)|((with_reducible show wpList _ _ _ ({dst:=some 65,op:=_,type:=_,pos:=_,after:=_,guard:=_}::_) _ _);refine zAK rfl (v:=.int .i64 nx) (by simp[execOp,go_sem,Act.eval];rw[IntKind.wrap_i64];have hq:=HNX.out;unfold wrap64 at hq;exact hq) ?_)|((with_reducible refine gL ?_);refine aG H ?_))
      go_roundw
      case rel=>exact⟨k+1,by omega,by simp,by rw[← EQ.out];exact H⟩
      case measure=>simp[intOf];omega
    ·have k1:(x.kind == 1)=false:=by rw[beq_eq_false_iff_ne];exact fun h=>kk (.inl h)
     have k3:(x.kind == 3)=false:=by rw[beq_eq_false_iff_ne];exact fun h=>kk (.inr (.inl h))
     have k4:(x.kind == 4)=false:=by rw[beq_eq_false_iff_ne];exact fun h=>kk (.inr (.inr h))
     have EQ:=Lib.hid (show zDX m rs k=zDX m rs (k+1) by
      rw[← ES.out,show zDP m x=x by unfold zDP;rw[k1,e2,k3,k4];rfl]
      refine(List.ext_getElem? fun i=>?_)
      rw[List.getElem?_set];split
      ·rename_i e;subst e;rw[HXT.out,if_pos (List.getElem?_eq_some_iff.1 HXT.out).1]
      ·rfl)
     clear kk
     go_wp2_with (first|((with_reducible refine gL ?_);refine zAM wtd_ _ _ rfl rfl zAd ((H.rowCell (i:=0) .zero (zAW _) HL.out HX.out rfl 0 (by decide)).trans (ig0 x)) ?_)|((with_reducible refine gL ?_);refine zAM wtd_ _ _ rfl rfl zAC ((H.rowCell (i:=0) .zero (zAW _) HL.out HX.out rfl 5 (by decide)).trans (ig5 x)) ?_)|((with_reducible refine gL ?_);refine zAM wtd_ _ _ rfl rfl zAC ((H.rowCell (i:=0) .zero (zAW _) HL.out HX.out rfl 6 (by decide)).trans (ig6 x)) ?_)|((with_reducible refine gL ?_);refine aG H ?_))
     go_roundw
     case rel=>exact⟨k+1,by omega,by simp,by rw[← EQ.out];exact H⟩
     case measure=>simp[intOf];omega
  ·have d1:decide ((k:Int)<(N:Int))=false:=by simp;omega
   obtain rfl:k=N:=by omega
   go_wp2_with (first|((with_reducible refine gL ?_);refine aG H ?_))
   refine⟨rfl,_,(by simp[results,Tryz.f28,go_sem]),rfl,?_⟩
   rw[zL6 m rs (by rw[HRL.out];exact Nat.le_refl _)]at H
   exact H
end
end Go.Proofs.YtalggmbdpmdcbaaGreat
