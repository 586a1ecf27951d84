/-
  Laws of walks, and walks.
-/
import Derived.Test.YtphjgfjbiimkjaaGreatEc7
import Derived.Test.YtphjgfjbiimkjaaGreatEc8
import Derived.Test.YtphjgfjbiimkjaaGreatEc4
set_option linter.unusedVariables false
set_option linter.unusedSimpArgs false
set_option maxRecDepth 100000
set_option maxHeartbeats 16000000
namespace Go.Proofs.YtphjgfjbiimkjaaGreat
section
open Go.RowKit
theorem zEW {k c:Nat} {P:Program} {l:List Oper} {Q:Exit->Act->World->Prop} (hQ:¬ LetsOut Q) (hc:zE8 l=true):∀ (fuel:Nat) (listed:Array Bool) (a:Act) (w:World),wpAny P .any l.toArray Q fuel listed a w->wpAnyIn (Fence.wide.inRound k) c P .any l.toArray Q fuel listed a w
 | 0,_,_,_,h=>h
 | fuel+1,listed,a,w,h=>by
  refine⟨h.1,fun i hi=>?_⟩
  have h2:=h.2 i hi;have ih:=fun a w=>zEW (k:=k) (c:=c) (P:=P) hQ hc fuel (listed.setIfInBounds i true) a w
  unfold wpOp at h2;unfold wpOpIn
  cases ho:l.toArray[i]? with
  | none =>
   simp only[ho]at h2 ⊢;exact ih _ _ h2
  | some o =>
   simp only[ho]at h2 ⊢;have hno:∀ c,o.op≠.defer c:=by
    intro c e;have hm:o ∈ l:=by
     have:l[i]?=some o:=by simpa using ho
     exact List.mem_of_getElem? this
    have:=List.all_eq_true.1 hc o hm;rw[e]at this;cases this
   split
   ·rename_i hw;rw[if_pos hw]at h2;exact zFE hno (Oper.wp_mono (fun a' w' h'=>ih a' w' h') (h2.resolve_right (fun h=>hQ h.2)))
   ·rename_i hw;rw[if_neg hw]at h2;exact⟨fun _ _=>trivial,ih _ _ h2⟩
theorem zJI {P:Program} {Q:Exit->Act->World->Prop} {a0:Act} {w0:World} {l:List Oper} (n e:Nat) (Ss:Nat->Value->World->Prop) (D:Nat->Bool)
  (hB:zKk l.toArray n e=true) (hsz:(l.take n).all (fun o=>match o.dst with|some d=>decide (d<a0.tmps.size)|none=>true)=true)
  (hst:∀ i,i<n->∀ v w w',Ss i v w->Below w.heap.size w w'->Ss i v w')
  (hlt:∀ i,i<n->D i=true->∀ v w,Ss i v w->blk v<w.heap.size)
  (hstep:∀ i o,i<n->l[i]?=some o->∀ a w,RCtx (l.take n) Ss a0 w0 o a w->zA4 P l.toArray o a w (fun v w'=>Ss i v w'/\(D i=true->w.heap.size<=blk v)))
  (hend:∀ vals w,Below w0.heap.size w0 w->(∀ i,i<n->Ss i (vals i) w)->(∀ i j,i<n->j<n->i≠j->D i=true->D j=true->blk (vals i)≠blk (vals j))->wpList P l.toArray Q (l.drop n) (zBI (l.take n) 0 vals a0) w)
  (hend2:∀ vals w,Below w0.heap.size w0 w->(∀ i,i<n->i≠e->Ss i (vals i) w)->(∀ i j,i<n->j<n->i≠e->j≠e->i≠j->D i=true->D j=true->blk (vals i)≠blk (vals j)) ->
   wpList P l.toArray Q (zHg l n e) (zCr e (l.take n) 0 vals a0) w) :
  wpAny P .any l.toArray Q l.toArray.size (Array.replicate l.toArray.size false) a0 {w0 with drawn:=w0.drawn+1}:=by
 simp only[zKk,Bool.and_eq_true,decide_eq_true_eq]at hB;obtain⟨⟨⟨⟨⟨⟨⟨hn,hd⟩,haf⟩,hclo⟩,htw⟩,hseq⟩,hord⟩,hen⟩:=hB;have hn':n<=l.length:=by simpa using hn
 have hd':zCe (l.take n)=true:=hd;have htl:(l.take n).length=n:=by simp;omega
 have key:∀ (rem:List Nat) (f:Nat),rem.length=f->rem.Nodup->∀ (listed:Array Bool) (a:Act) (w:World),HeadInv .any l.toArray n listed ->
   (∀ i,i ∈ rem↔(i<n/\listed.getD i true=false))->(∃ vals,a=fill (l.take n) 0 listed vals a0/\(∀ i,i<n->listed.getD i false=true->Ss i (vals i) w)/\∀ i j,i<n->j<n->i≠j->listed.getD i false=true->listed.getD j false=true->D i=true->D j=true->blk (vals i)≠blk (vals j))->Below w0.heap.size w0 w ->
   wpAny P .any l.toArray Q (f+(l.toArray.size - n)) listed a w:=by
  intro rem f
  induction f generalizing rem with
  | zero =>
   intro hl _ listed a w inv hrem ⟨vals,ha,hv,hp⟩ hb;have hr:rem=[]:=List.length_eq_zero_iff.1 hl;subst hr;have hall:∀ i,i<n->listed.getD i false=true:=by
    intro i hi;have h1:¬ listed.getD i true=false:=fun h=>by have:=(hrem i).2 ⟨hi,h⟩;simp at this
    have h2:i<listed.size:=by rw[inv.size];omega
    rw[Array.getD_eq_getD_getElem?,Array.getElem?_eq_getElem h2]at h1 ⊢
    simpa using h1
   have hlist:=zDJ hn inv hall;have hw:=hend vals w hb (fun i hi=>hv i hi (hall i hi)) (fun i j hi hj hij=>hp i j hi hj hij (hall i hi) (hall j hj))
   rw[← zDG (l.take n) 0 listed vals a0 (fun i hi=>by rw[Nat.zero_add];exact hall i (by omega)),← ha]at hw
   rw[Nat.zero_add];have hdl:(l.drop n).length=l.toArray.size - n:=by simp
   rw[← hdl];refine wpAny_of_seq (l.drop n) n listed a w (fun j=>by simp) ?_ hw
   rw[hdl,hlist];exact hseq
  | succ f ih =>
   intro hl hnd listed a w inv hrem ⟨vals,ha,hv,hp⟩ hb;have hex:∃ i,i ∈ rem/\∀ j,j ∈ rem->i<=j:=by
    have:∀ (r:List Nat),r≠[]->∃ i,i ∈ r/\∀ j,j ∈ r->i<=j:=by
     intro r
     induction r with
     | nil=>intro h;exact(h rfl).elim
     | cons x r ihr =>
      intro _
      by_cases hr:r=[]
      ·subst hr;exact⟨x,by simp,by simp⟩
      ·obtain⟨i,hi,hmin⟩:=ihr hr
       by_cases hx:x<=i
       ·exact⟨x,by simp,fun j hj=>by rcases List.mem_cons.1 hj with rfl|hj;exact Nat.le_refl _;exact Nat.le_trans hx (hmin j hj)⟩
       ·exact⟨i,by simp[hi],fun j hj=>by rcases List.mem_cons.1 hj with rfl|hj;omega;exact hmin j hj⟩
    exact this rem (by intro h;subst h;simp at hl)
   have hready:Region.ready .any l.toArray listed≠[]:=by
    obtain⟨i,hi,hmin⟩:=hex;obtain⟨hin,hil⟩:=(hrem i).1 hi;have hlt:i<l.length:=by omega
    have hmem:i ∈ Region.ready .any l.toArray listed:=by
     refine mem_ready.2 ⟨hil,l[i],by simp[hlt],fun e he hbd=>?_⟩
     have h1:=List.all_eq_true.1 haf (l[i],i) (by
      rw[List.mem_zipIdx_iff_getElem?];simp[hin,hlt])
     have h2:=Array.all_eq_true'.1 h1 e he;simp[hbd]at h2;have hj:¬ e.on ∈ rem:=fun h=>by have:=hmin _ h;omega
     have h3:¬ listed.getD e.on true=false:=fun h=>hj ((hrem _).2 ⟨by omega,h⟩)
     have h4:e.on<listed.size:=by rw[inv.size];simp;omega
     rw[Array.getD_eq_getD_getElem?,Array.getElem?_eq_getElem h4]at h3 ⊢
     simpa using h3
    intro h;rw[h]at hmem;simp at hmem
   rw[show f+1+(l.toArray.size - n)=(f+(l.toArray.size - n))+1 from by omega]
   refine⟨fun h=>(hready h).elim,fun i hi=>?_⟩
   obtain⟨hil,o,ho,haft⟩:=mem_ready.1 hi
   by_cases hin:i<n
   case neg =>
    have hisz:i<l.toArray.size:=(Array.getElem?_eq_some_iff.1 ho).1;have hmost:=zIC hclo hn inv;have hin':i=n:=by
     rcases Nat.lt_or_ge n i with h|h
     ·exfalso
      have h1:=List.all_eq_true.1 htw (l[i]'(by simpa using hisz),i) (by
       rw[List.mem_zipIdx_iff_getElem?];simp at hisz;simp[hisz])
      simp only[Bool.or_eq_true,decide_eq_true_eq]at h1;rcases h1 with h1|h1
      ·omega
      ·obtain⟨ed,hed,hb⟩:=List.any_eq_true.1 h1;simp only[Bool.and_eq_true,decide_eq_true_eq]at hb;have ho2:o=l[i]'(by simpa using hisz):=by
        have:=(Array.getElem?_eq_some_iff.1 ho).2;simpa using this.symm
       have h3:=haft ed (by rw[ho2];exact Array.mem_toList_iff.1 hed) hb.1.1
       have h4:=getD_both (inv.tail ed.on hb.1.2 (by omega))
       rw[h3]at h4;cases h4
     ·omega
    subst hin';have hall:∀ k,k<i->k≠e->listed.getD k false=true:=fun k hk hke=>hmost o ho haft k hk hke
    have hone:rem=[e]:=by
     have h1:∀ k ∈ rem,k=e:=by
      intro k hk;obtain⟨hk1,hk2⟩:=(hrem k).1 hk
      by_cases hke:k=e
      ·exact hke
      ·have:=hall k hk1 hke;rw[getD_both hk2]at this;cases this
     cases rem with
     | nil=>simp at hl
     | cons x r =>
      cases r with
      | nil=>rw[h1 x (by simp)]
      | cons y r =>
       have hx:=h1 x (by simp);have hy:=h1 y (by simp)
       rw[hx,hy]at hnd;simp at hnd
    subst hone;have hf:f=0:=by simp at hl;omega
    subst hf;have hel:listed.getD e true=false:=((hrem e).1 (by simp)).2
    have hlist:=zGf hn hen inv hall hel;have hw:=hend2 vals w hb (fun k hk hke=>hv k hk (hall k hk hke)) (fun k m hk hm hke hme hkm=>hp k m hk hm hkm (hall k hk hke) (hall m hm hme))
    rw[← zHx e (l.take i) 0 listed vals a0 (fun k hk hke=>by rw[Nat.zero_add]at hke ⊢;exact hall k (by omega) hke) (fun _=>getD_both hel),← ha]at hw
    have hli:l[i]?=some o:=by simpa using ho
    have hl1:(l.drop i).take 1=[o]:=by
     rw[List.drop_eq_getElem_cons (by simpa using hisz)]
     have:l[i]'(by simpa using hisz)=o:=(List.getElem?_eq_some_iff.1 hli).2
     simp[this]
    have hlt':i<l.length:=by simpa using hisz
    have heL:e<l.length:=by omega
    have hl2:(l.drop e).take 1=[l[e]]:=by rw[List.drop_eq_getElem_cons heL,List.take_succ_cons,List.take_zero]
    unfold zHg at hw;rw[hl1,hl2]at hw;have hw2:wpOp P l.toArray Q i (wpList P l.toArray Q ([l[e]]++l.drop (i+1))) a w:=by unfold wpOp;simp only[ho];exact hw
    have hlen:(e::List.range' (i+1) (l.toArray.size - i - 1)).length=0+(l.toArray.size - i):=by simp;omega
    refine wpOp_mono (fun a' w' h'=>?_) hw2
    rw[← hlen];refine zCq (e::List.range' (i+1) (l.toArray.size - i - 1)) ([l[e]]++l.drop (i+1)) _ a' w' (by simp;omega) (fun j k hk=>?_) ?_ h'
    ·cases j with
     | zero=>simp at hk;subst hk;simp[heL]
     | succ j =>
      simp only[List.getElem?_cons_succ]at hk;obtain⟨hk1,hk2⟩:=List.getElem?_eq_some_iff.1 hk;simp at hk2;subst hk2;simp
    ·rw[hlist];exact hord
   have ho':l[i]?=some o:=by simpa using ho
   have hot:(l.take n)[i]?=some o:=by rw[List.getElem?_take_of_lt hin];exact ho'
   obtain⟨d,hod⟩:∃ d,o.dst=some d:=by
    have:∀ (r:List Oper) (j:Nat),zCe r=true->r[j]?=some o->∃ d,o.dst=some d:=by
     intro r
     induction r with
     | nil=>intro j _ h;simp at h
     | cons x r ihr =>
      intro j hdd h;simp only[zCe,Bool.and_eq_true]at hdd
      cases j with
      | zero=>simp at h;subst h;exact Option.isSome_iff_exists.1 hdd.1.1
      | succ j=>exact ihr j hdd.2 (by simpa using h)
    exact this _ i hd' hot
   have hbd:∀ (j:Nat) (oj:Oper) (dj:Tmp),(l.take n)[j]?=some oj->oj.dst=some dj->dj<a0.tmps.size:=by
    intro j oj dj hj hdj;have:=List.all_eq_true.1 hsz oj (List.mem_of_getElem? hj)
    simpa [hdj] using this
   have hctx:RCtx (l.take n) Ss a0 w0 o a w:=by
    refine⟨hb,fun t ht=>by rw[ha];exact zBX _ _ _ _ _ t ht,fun j dj hj hdj=>?_,by rw[ha,zDW]⟩
    obtain⟨e,he,hbe⟩:=List.any_eq_true.1 hj;simp only[Bool.and_eq_true,beq_iff_eq]at hbe;have hlj:=haft e (Array.mem_toList_iff.1 he) hbe.1;rw[hbe.2]at hlj;obtain⟨oj,hoj,hdj'⟩:=Option.bind_eq_some_iff.1 hdj;have hjn:j<n:=by have:=(List.getElem?_eq_some_iff.1 hoj).1;omega
    rw[ha,zFA _ 0 listed vals a0 j oj dj hd' hoj hdj' (hbd j oj dj hoj hdj') (by rw[Nat.zero_add];exact hlj),Nat.zero_add]
    exact hv j hjn hlj
   have hstep':=hstep i o hin ho' a w hctx;have hnext:∀ v w',Below w.heap.size w w'->(Ss i v w'/\(D i=true->w.heap.size<=blk v))->wpAny P .any l.toArray Q (f+(l.toArray.size - n)) (listed.setIfInBounds i true) (a.put o.dst v) w':=by
    intro v w' hbw ⟨hsv,hfr⟩;have hmemi:i ∈ rem:=(hrem i).2 ⟨hin,hil⟩;refine ih (rem.erase i) (by rw[List.length_erase_of_mem hmemi,hl];rfl) (hnd.erase i) _ _ w' (inv.set hi hin) (fun j=>?_) ⟨fun j=>if j=i then v else vals j,?_,fun j hj hlj=>?_,fun j k hj hk hjk hlj hlk hDj hDk=>?_⟩ (hb.trans (hbw.mono hb.size))
    ·rw[hnd.mem_erase_iff,hrem j]
     by_cases hji:j=i
     ·subst hji;have hjs:j<listed.size:=by rw[inv.size];simp;omega
      simp[hjs]
     ·rw[getD_set_ne true (fun e=>hji e.symm)]
      simp[hji]
    ·have:=zDi (l.take n) 0 i listed vals a0 o d v hd' hot hod (by rw[Nat.zero_add];exact hil)
     rw[Nat.zero_add]at this;rw[this,← ha,hod]
    ·by_cases hji:j=i
     ·subst hji;simpa using hsv
     ·show Ss j (if j=i then v else vals j) w'
      rw[if_neg hji];rw[getD_set_ne false (fun e=>hji e.symm)]at hlj
      exact hst j hj _ _ _ (hv j hj hlj) hbw
    ·show blk (if j=i then v else vals j)≠blk (if k=i then v else vals k)
     by_cases hji:j=i
     ·subst hji;rw[if_pos rfl,if_neg (fun e=>hjk e.symm)]
      rw[getD_set_ne false hjk]at hlk;have h1:=hlt k hk hDk _ _ (hv k hk hlk);have h2:=hfr hDj;omega
     ·rw[if_neg hji];rw[getD_set_ne false (fun e=>hji e.symm)]at hlj
      by_cases hki:k=i
      ·subst hki;rw[if_pos rfl];have h1:=hlt j hj hDj _ _ (hv j hj hlj);have h2:=hfr hDk;omega
      ·rw[if_neg hki];rw[getD_set_ne false (fun e=>hki e.symm)]at hlk
       exact hp j k hj hk hjk hlj hlk hDj hDk
   unfold wpOp;simp only[ho];unfold zA4 at hstep';split
   ·rename_i hw;rw[if_pos hw]at hstep';refine .inl (zDj (Oper.wp_mono (fun a' w' ⟨v,e,hbw,hsv⟩=>?_) hstep'))
    subst e;exact hnext v w' hbw hsv
   ·rename_i hw;rw[if_neg hw]at hstep';exact hnext undef w (Below.refl _ w) hstep'
 have h0:=key (List.range n) n (by simp) List.nodup_range (Array.replicate l.toArray.size false) a0 {w0 with drawn:=w0.drawn+1}
  ⟨by simp,fun j oj _ hl=>(by rw[getD_replicate_false]at hl;cases hl),fun t _ ht=>getD_in (by simpa using ht) (getD_replicate_false _ _)⟩
  (fun i=>by
   rw[List.mem_range];constructor
   ·intro h;exact⟨h,getD_in (by simp;omega) (getD_replicate_false _ _)⟩
   ·intro h;exact h.1)
  ⟨fun _=>undef,(zCh _ _ _ _ _ (fun i=>getD_replicate_false _ _)).symm,fun i _ h=>(by rw[getD_replicate_false]at h;cases h),fun i j _ _ _ h=>(by rw[getD_replicate_false]at h;cases h)⟩
  ((Below.refl _ w0).drew)
 rw[show n+(l.toArray.size - n)=l.toArray.size from by omega]at h0
 exact h0
theorem zGJ {P:Program} {id k c:Nat} {Q:Exit->Act->World->Prop} {a0:Act} {w0:World} {l:List Oper} (n e:Nat) (L:List (Value->World->Prop)) (D:Nat->Bool)
  (hm:P.follows .mixedOrders=true) (hQ:¬ LetsOut Q) (hc:zE8 l=true) (hB:zKk l.toArray n e=true) (hsz:(l.take n).all (fun o=>match o.dst with|some d=>decide (d<a0.tmps.size)|none=>true)=true)
  (hst:zCG L) (hlt:∀ i,i<n->D i=true->∀ v w,zAO L i v w->blk v<w.heap.size)
  (hstep:Obl P l (l.take n) L D a0 w0 (l.take n) 0)
  (hend:∀ vals w,Below w0.heap.size w0 w->(∀ i,i<n->zAO L i (vals i) w)->(∀ i j,i<n->j<n->i≠j->D i=true->D j=true->blk (vals i)≠blk (vals j)) ->
   wpList P l.toArray Q (l.drop n) (zBI (l.take n) 0 vals a0) w)
  (hend2:∀ vals w,Below w0.heap.size w0 w->(∀ i,i<n->i≠e->zAO L i (vals i) w)->(∀ i j,i<n->j<n->i≠e->j≠e->i≠j->D i=true->D j=true->blk (vals i)≠blk (vals j)) ->
   wpList P l.toArray Q (zHg l n e) (zCr e (l.take n) 0 vals a0) w) :
  (Code.region id l.toArray true).wpIn (Fence.wide.inRound k) c P Q a0 w0 :=
 wpIn_region_any hm (zEW hQ hc _ _ _ _ (zJI n e (zAO L) D hB hsz (fun i _ v w w' h hb=>zCF L i hst v w w' h hb) hlt
  (fun i o hi ho a w hc=>by
   have:=Obl.get (l.take n) 0 hstep i o (by rw[List.getElem?_take_of_lt hi];exact ho) a w hc
   rwa [Nat.zero_add]at this) hend hend2))
def KeepsNC (B:Nat) (W W':World):Prop:=∀ k o,B<=k->W.heap[k]?=some o->o.isCells=false->W'.heap[k]?=some o
theorem KeepsNC.same {B:Nat} {W W':World} (h:KeepsNC B W W') (k:Nat) (o:Obj) (hk:B<=k) (h1:W.heap[k]?=some o) (h2:o.isCells=false):W'.heap[k]?=some o:=h k o hk h1 h2
theorem KeepsNC.refl (B:Nat) (W:World):KeepsNC B W W:=fun _ _ _ h _=>h
theorem KeepsNC.of_below {B:Nat} {W W':World} (h:Below W.heap.size W W'):KeepsNC B W W':=fun k o _ hk _=>(h.block k (Array.getElem?_eq_some_iff.1 hk).1).trans hk
def ncF (B:Nat) (W:World) (b:Nat):Prop:=B<=b/\∃ o:Obj,W.heap[b]?=some o/\o.isCells=false
def ncS (B:Nat) (W V:World):Prop:=∀ b,ncF B W b->V.heap[b]?=W.heap[b]?
theorem ncS.keeps {B:Nat} {W V:World} (h:ncS B W V):KeepsNC B W V:=fun k o hk h1 h2=>(h k ⟨hk,o,h1,h2⟩).trans h1
theorem HoldG.knowNC {M:Nat->Prop} {w0 W:World} {l:List Res} (H:HoldG M w0 W l) (hl:∀ r ∈ l,∀ b es c,r≠.mp b es c) (B:Nat):HoldG M w0 W (l++[.kn (ncF B W) (ncS B W)]):=by
 refine H.know _ _ (fun b hb=>by obtain⟨_,o,h,_⟩:=hb;exact(Array.getElem?_eq_some_iff.1 h).1) (fun i r hi b hp hF=>?_) (fun V hV b hb=>hV b hb)
 obtain⟨_,o,hk,ho⟩:=hF;have hA:=H.all i r hi
 cases r with
 | blk b' cs U=>cases hp;rw[hA.2]at hk;cases hk;cases ho
 | row v e' sz n xs =>
  obtain⟨_,⟨hv,_⟩|⟨g,cap,cur,rfl,_,hg',_⟩⟩:=hA
  ·have h2:v.ownBlock=some b:=hp;rw[hv]at h2;cases h2
  ·have:g=b:=by simpa [Res.place,Value.ownBlock] using hp
   subst this;rw[hg']at hk;cases hk;cases ho
 | mp b' es c=>exact hl _ (List.mem_of_getElem? hi) _ _ _ rfl
 | kn F S=>cases hp
variable {F:Fence} {n:Nat} {P:Program}
def zQq (B:Nat) (Y:World->Prop) (W:World):Exit->Act->World->Prop
 | .normal,_,W'=>KeepsNC B W W'/\Y W'
 | _,_,_=>False
theorem zE0 {σ α:Type} {g:Operand} {ps:Array Tmp} {assign body:Code} {Q:Exit->Act->World->Prop} {a:Act} {w:World}
  (hro:F.round=none) (h1:1<=n) {gf:Nat} {lb:Array Value} (hg:a.eval g=.func (.func gf) #[] lb) (hFg:F.fn gf) (eg:∀ args w,(callFunc gf args).run P w=.ok (.enter gf args) w)
  {encs:α->Array Value} (hps:∀ x,(encs x).size=ps.size)
  (I0 S:World->Prop) (Pn:List PanicEntry->World->Prop) (Yp Yq:σ->α->World->Prop) (Ya:σ->α->Act->World->Prop)
  (st0:Stay w.heap.size I0) (stS:Stay w.heap.size S) (stP:∀ ch,Stay w.heap.size (Pn ch)) (stYq:∀ s x,Stay w.heap.size (Yq s x)) (stYa:∀ s x a,Stay w.heap.size (Ya s x a))
  (hiter:∀ (l:Nat) (B:World->Prop),(∀ W W',KeepsNC w.heap.size W W'->B W->B W') ->
   (∀ s x W1,Yp s x W1->B W1->YieldAt F (n - 1 - 1) P l (encs x) W1 fun e W'=>e=.returned (.bool true)/\Yq s x W'/\B W') ->
   ∀ W,I0 W->B W->CallsIn F (n - 1) P gf (#[.func (.yield l) #[] #[]]++lb) W fun e W'=>B W'/\((∃ v,e=.returned v/\S W')\/∃ ch,e=.panicked ch/\Pn ch W'))
  (h0:I0 w)
  (hassign:∀ (l:Nat) (s:σ) (x:α) (W:World),Yp s x W ->
   assign.wpIn (F.inRound l) (n - 1 - 1) P (Exit.then (fun a1 W1=>KeepsNC w.heap.size W W1/\Ya s x a1 W1) (fun _ _ _=>False)) {tmps:=(ps.zip (encs x)).foldl (fun t (p,v)=>t.setIfInBounds p v) a.tmps,defers:=[]} W)
  (hbody:∀ (l:Nat) (s:σ) (x:α) (a1:Act) (W:World),Ya s x a1 W->body.wpIn (F.inRound l) (n - 1 - 1) P (zQq w.heap.size (Yq s x) W) a1 W)
  (hdone:∀ (D:Nat) (W:World),w.heap.size<=D->S W->W.heap[D]?=some (.deferred (some []))->Q .normal {a with defers:={target:=.collected D,args:=#[]}::a.defers} W)
  (hpan:∀ (D:Nat) (ch:List PanicEntry) (W:World),w.heap.size<=D->Pn ch W->W.heap[D]?=some (.deferred (some []))->Q (.panic ch) {a with defers:={target:=.collected D,args:=#[]}::a.defers} W) :
  (Code.rangeFunc g ps assign body).wpIn F n P Q a w:=by
 refine wpIn_rangeFunc ?_
 intro fn hfn;rw[hro];obtain⟨rec,hrec⟩:∃ rec:LoopState->Option Code->Loop,rec=fun st pe=>{state:=st,pending:=pe,fn,tmps:=a.tmps,params:=ps,assign,body,defers:=w.heap.size}:=⟨_,rfl⟩
 obtain⟨W1,hW1⟩:∃ W1,(w.alloc (.deferred (some []))).alloc (.loop (rec .ready none))=W1:=⟨_,rfl⟩;have hL1:W1.heap[w.heap.size+1]?=some (.loop (rec .ready none)):=by
  rw[← hW1];have:=World.alloc_heap_new (w.alloc (.deferred (some []))) (.loop (rec .ready none));rwa [World.size_alloc]at this
 have hK1:W1.heap[w.heap.size]?=some (.deferred (some [])):=by
  rw[← hW1];exact(Below.heap_alloc _ _ _ (by simp)).trans (World.alloc_heap_new w _)
 have hI1:I0 W1:=by rw[← hW1];exact st0.alloc _ (st0.alloc _ h0)
 refine⟨w.heap.size+1,[{target:=.collected w.heap.size,args:=#[]}],W1,{target:=.fn (.func gf) lb,args:=#[.func (.yield (w.heap.size+1)) #[] #[]]},W1,gf,
  #[.func (.yield (w.heap.size+1)) #[] #[]]++lb,W1,?_,?_,?_,?_,fun _=>h1,?_⟩
 ·rw[← hW1,hrec];exact run_enterLoop_outer _ _ _ _ _
 ·simp only[resolve,hg];simp[go_sem]
 ·intro f' hf';simp[Target.leads]at hf';subst hf';exact hFg
 ·simp[invoke,go_sem,eg]
 ·refine(hiter (w.heap.size+1) (fun W=>W.heap[w.heap.size+1]?=some (.loop (rec .ready none))/\W.heap[w.heap.size]?=some (.deferred (some [])))
   (fun W W' hk hB=>⟨hk.same _ _ (by omega) hB.1 rfl,hk.same _ _ (Nat.le_refl _) hB.2 rfl⟩) ?_ W1 hI1 ⟨hL1,hK1⟩).mono ?_
  ·rintro s x W hy ⟨hl,hk⟩;have hlt:w.heap.size+1<W.heap.size:=(Array.getElem?_eq_some_iff.1 hl).1;have hyr:=run_yield (P:=P) (args:=encs x) hl (by rw[hrec];exact hps x)
   rw[hrec]at hyr;refine⟨fn,_,assign,body,hyr,roundIn_of_wpIn hfn (wpIn_mono (hassign (w.heap.size+1) s x W hy) ?_)⟩;rintro e a1 Wa hp
   cases e with
   | normal =>
    obtain⟨hka,hya⟩:=hp;have hla:=hka.same _ _ (by omega) hl rfl
    have hda:=hka.same _ _ (Nat.le_refl _) hk rfl;refine⟨_,run_beginRound hla (by rw[hrec]),?_⟩
    have hlt2:w.heap.size+1<Wa.heap.size:=(Array.getElem?_eq_some_iff.1 hla).1;have hl2:(Wa.putObj (w.heap.size+1) (.loop {rec .ready none with state:=.busy})).heap[w.heap.size+1]?=some (.loop {rec .ready none with state:=.busy}):=World.putObj_heap_same hlt2
    have hk2:(Wa.putObj (w.heap.size+1) (.loop {rec .ready none with state:=.busy})).heap[w.heap.size]?=some (.deferred (some [])):=(World.putObj_heap_other (by omega)).trans hda
    refine wpIn_mono (hbody _ s x a1 _ ((stYa s x a1).putObj _ hya (by omega) hla rfl)) ?_
    rintro e a3 W3 hp
    cases e with
    | normal =>
     obtain⟨hk3,hq3⟩:=hp;have hl3:=hk3.same _ _ (by omega) hl2 rfl
     have hd3:=hk3.same _ _ (Nat.le_refl _) hk2 rfl;have hre:=run_endRound (P:=P) none hl3;rw[hrec]at hre;refine⟨_,_,hre,rfl,(stYq s x).putObj _ hq3 (by omega) hl3 rfl,?_,(World.putObj_heap_other (by omega)).trans hd3⟩
     rw[World.putObj_heap_same (Array.getElem?_eq_some_iff.1 hl3).1,hrec];rfl
    | ret=>exact hp.elim
    | exit id=>exact hp.elim
    | goto t=>exact hp.elim
    | panic ch=>exact hp.elim
    | outgrown=>exact hp.elim
   | ret=>exact hp.elim
   | exit id=>exact hp.elim
   | goto t=>exact hp.elim
   | panic ch=>exact hp.elim
   | outgrown=>exact hp.elim
  ·rintro e W2 ⟨⟨hl,hk⟩,(⟨v,rfl,hS⟩|⟨ch,rfl,hP⟩)⟩
   ·exact⟨none,_,by have:=run_endLoop (P:=P) hl (by rw[hrec];simp);rw[hrec]at this;exact this,hdone _ _ (Nat.le_refl _) (stS.putObj _ hS (by omega) hl rfl) ((World.putObj_heap_other (by omega)).trans hk)⟩
   ·exact hpan _ ch _ (Nat.le_refl _) hP hk
end
section
open Go.RowKit Go.Shelf
attribute [local go_sem] Oper.semAt_some
theorem ItInv.other {ps:List InstD} {L:Str} {i:Nat} {e0:Way} {m0:List Int} {ys0:List WV} {ms:Nat} {td ys us:List WV} {marks:List Int} {n:Nat} {e:WV} {x:InstD} (I:ItInv ps L i e0 m0 ys0 ms (td++[e]) ys us marks n) (h:marks.getD e.1 0≠(i:Int)+1) (hx:ps[e.1]?=some x) (h2:x.kind≠2) (h3:x.kind≠3) (h4:x.kind≠4) (h1:x.kind≠1) (h5:x.kind≠5) :
  ItInv ps L i e0 m0 ys0 ms td ys us (marks.set e.1 ((i:Int)+1)) (n - 1):=by
 have hat:=zBZ hx
 have:=I.next (td':=[]) h (fun _ h=>h) I.size (fun y hy=>by simp at hy) (by simp) (fun k=>by
  simp only[zAa,if_neg h,hat,if_neg h2,if_neg h3,if_neg h4,if_neg (show ¬ (x.kind=1\/x.kind=5) by omega)]
  rfl)
 simpa using this
theorem zL5 (x y:WV) (W:World):(Instr.buildSlice 190 2 #[(0,.agg (wayC x)),(1,.agg (wayC y))]).run Tryz.prog W=.ok (.slice (some ⟨W.heap.size,0,none⟩) 2 2) (W.alloc (.cells (wayC x++wayC y) 197)):=by kernel_rfl
theorem zLI (xs:List WV) (x y:WV):zAW (xs.map wayC)++(wayC x++wayC y).toList=zAW ((xs++[x,y]).map wayC):=by
 rw[List.map_append,zDU,Array.toList_append];simp[zAW]
def zJ6 (n0:Nat) (k:Nat) (xs:List Int) (v:Value) (W:World):Prop:=∃ q c F n1,FreshS n1 (wayC (k,xs,q,c)) 197 v W/\n0<=n1/\IntsR F q c xs W/\∀ b,F b->b<n1/\n0<=b
def zKT (n0:Nat) (xs:List Int) (v:Value) (W:World):Prop:=∃ q c F,v=.slice q xs.length c/\IntsR F q c xs W/\∀ b,F b->b<W.heap.size/\n0<=b
def zJo (n0:Nat) (k:Nat) (xs:List Int) (v:Value) (W:World):Prop:=∃ q c F,v=.agg (wayC (k,xs,q,c))/\IntsR F q c xs W/\∀ b,F b->b<W.heap.size/\n0<=b
theorem zG7 (n0:Nat) (xs:List Int):zC0 (zKT n0 xs):=fun v w w' ⟨q,c,F,e,h,hF⟩ hb=>⟨q,c,F,e,h.kept (fun b hb'=>hb.block b (hF b hb').1),fun b hb'=>⟨Nat.lt_of_lt_of_le (hF b hb').1 hb.size,(hF b hb').2⟩⟩
theorem zHV (n0 k:Nat) (xs:List Int):zC0 (zJo n0 k xs):=fun v w w' ⟨q,c,F,e,h,hF⟩ hb=>⟨q,c,F,e,h.kept (fun b hb'=>hb.block b (hF b hb').1),fun b hb'=>⟨Nat.lt_of_lt_of_le (hF b hb').1 hb.size,(hF b hb').2⟩⟩
theorem FreshS.lt {n0:Nat} {cs:Array Value} {T:TypeId} {v:Value} {W:World} (h:FreshS n0 cs T v W):n0<W.heap.size:=by
 obtain⟨b,_,h1,h2⟩:=h;have:=(Array.getElem?_eq_some_iff.1 h2).1;omega
theorem zHc (n0 k:Nat) (xs:List Int):zC0 (zJ6 n0 k xs):=fun v w w' ⟨q,c,F,n1,hs,hn,h,hF⟩ hb=>⟨q,c,F,n1,zDC _ _ _ v w w' hs hb,hn,h.kept (fun b hb'=>hb.block b (by have:=hs.lt;have:=(hF b hb').1;omega)),hF⟩
section
variable {ops:Array Oper} {o:Oper} {a:Act} {w:World} {D:Prop}
theorem zMq {n0:Nat} {x y:Operand} {k:Int} {xs:List Int} (hg:Region.wanted o (yielded ops a.tmps)=true) (hop:o.op=.build 197 #[(0,x),(1,y)]) (hx:a.eval x=.int .i64 k) (hy:zKT n0 xs (a.eval y) w) (hk:0<=k) (hD:¬ D) :
  zA4 Tryz.prog ops o a w (fun v w'=>zJo n0 k.toNat xs v w'/\(D->w.heap.size<=blk v)):=by
 obtain⟨q,c,F,e,h,hF⟩:=hy;exact zBo hg (zEL (d:=(xs,q,c)) hop hx e hk) (Below.refl _ w) ⟨⟨q,c,F,rfl,h,hF⟩,fun h=>(hD h).elim⟩
theorem zNJ {n0 k:Nat} {x:Operand} {xs:List Int} (hg:Region.wanted o (yielded ops a.tmps)=true) (hop:o.op=Op.buildSlice 190 1 #[(0,x)]) (hx:zJo n0 k xs (a.eval x) w) (hn:n0<=w.heap.size) (hD:¬ D) :
  zA4 Tryz.prog ops o a w (fun v w'=>zJ6 n0 k xs v w'/\(D->w.heap.size<=blk v)):=by
 obtain⟨q,c,F,e,h,hF⟩:=hx;have hb:Below w.heap.size w (w.alloc (.cells (wayC (k,xs,q,c)) 197)):=(Below.refl _ w).alloc (Nat.le_refl _) _;refine zBo hg (v:=.slice (some ⟨w.heap.size,0,none⟩) 1 1) (w':=w.alloc (.cells (wayC (k,xs,q,c)) 197)) ?_ hb ⟨⟨q,c,F,w.heap.size,⟨w.heap.size,rfl,Nat.le_refl _,World.alloc_heap_new w _⟩,hn,h.kept (fun b hb'=>hb.block b (hF b hb').1),hF⟩,fun h=>(hD h).elim⟩
 simp only[execOp,hop,List.map_toArray,List.map_cons,List.map_nil,e,Sem.run_bind,zEV];rfl
end
section
variable {M:Nat->Prop} {w0 w w':World} {l:List Res}
theorem HoldG.knGrowX (H:HoldG M w0 w l) {i:Nat} {us:List WV} (hi:At l i (.kn (FW us) (WK us))) {F:Nat->Prop} {k:Nat} {xs:List Int} {q:Option Addr} {c:Nat} (h:IntsR F q c xs w) (hlt:∀ b,F b->b<w.heap.size) (hap:∀ (j:Nat) (r:Res),l[j]?=some r->∀ b,r.place=some b->¬ F b) (hn:0<xs.length) :
  HoldG M w0 w (l.set i (.kn (FW (us++[(k,xs,q,c)])) (WK (us++[(k,xs,q,c)])))):=by
 have hil:i<l.length:=(List.getElem?_eq_some_iff.1 hi.get).1;have H2:=H.know F (IntsR F q c xs) hlt hap (fun V hV=>h.kept hV)
 have hi2:At (l++[Res.kn F (IntsR F q c xs)]) i (.kn (FW us) (WK us)):=At.of_get (by rw[List.getElem?_append_left hil];exact hi.get)
 have hj2:At (l++[Res.kn F (IntsR F q c xs)]) l.length (.kn F (IntsR F q c xs)):=At.of_get (by rw[List.getElem?_append_right (Nat.le_refl _)];simp)
 have H3:=H2.knBoth hi2 hj2;have hi3:At ((l++[Res.kn F (IntsR F q c xs)]).set i (Res.kn (fun b=>FW us b\/F b) (fun V=>WK us V/\IntsR F q c xs V))) i (Res.kn (fun b=>FW us b\/F b) (fun V=>WK us V/\IntsR F q c xs V)):=At.of_get (by rw[List.getElem?_set,if_pos rfl,if_pos (by simp;omega)])
 obtain⟨b0,off,e0,hF0,hnar⟩:=h.narrow hn
 have H4:=H3.knTo (G:=FW (us++[(k,xs,q,c)])) (T:=WK (us++[(k,xs,q,c)])) hi3 (fun b hb=>by
   obtain⟨x,hx,o,e⟩:=hb;rcases List.mem_append.1 hx with hx|hx
   ·exact .inl ⟨x,hx,o,e⟩
   ·rw[List.mem_singleton]at hx;subst hx;have e':q=some ⟨b,o,none⟩:=e;rw[e0]at e';simp only[Option.some.injEq,Addr.mk.injEq]at e'
    rw[← e'.1];exact .inr hF0)
  (fun hS x hx=>by
   rcases List.mem_append.1 hx with hx|hx
   ·exact⟨(hS.1 x hx).1.mono (fun b ⟨y,hy,o,e⟩=>⟨y,List.mem_append_left _ hy,o,e⟩),(hS.1 x hx).2⟩
   ·rw[List.mem_singleton]at hx;subst hx
    exact⟨hnar.mono (fun b hb=>⟨_,List.mem_append_right _ (List.mem_singleton.2 rfl),off,by rw[hb];exact e0⟩),hn⟩)
  (fun V h hV=>h.kept hV)
 have H5:=H4.take l.length;rw[List.set_set,List.take_set,List.take_left]at H5;exact H5
theorem HoldG.gainNoted (H:HoldG M w0 w l) (hb:Below w.heap.size w w') {i:Nat} {us:List WV} (hi:At l i (.kn (FW us) (WK us))) {k:Nat} {xs:List Int} {v:Value} (h:zJ6 w.heap.size k xs v w') (hn:0<xs.length) :
  ∃ b q c,v=.slice (some ⟨b,0,none⟩) 1 1/\(∀ b',FW (us++[(k,xs,q,c)]) b'->FW us b'\/w.heap.size<=b')/\HoldG M w0 w' (l.set i (.kn (FW (us++[(k,xs,q,c)])) (WK (us++[(k,xs,q,c)])))++[.blk b (wayC (k,xs,q,c)) 197]):=by
 obtain⟨q,c,F,n1,⟨b,e,h1,h2⟩,hn1,hI,hF⟩:=h;obtain⟨b',e',H1⟩:=H.gainS2 hb (v:=v) ⟨b,e,Nat.le_trans hn1 h1,h2⟩;subst e;simp only[Value.slice.injEq,Option.some.injEq,Addr.mk.injEq]at e';obtain⟨⟨rfl,_,_⟩,_,_⟩:=e';have hbs:=(Array.getElem?_eq_some_iff.1 h2).1;have hil:i<l.length:=(List.getElem?_eq_some_iff.1 hi.get).1;refine⟨b,q,c,rfl,?_,?_⟩
 ·obtain⟨b0,off,e0,hF0,_⟩:=hI.narrow hn;rintro b' ⟨x,hx,o,e⟩;rcases List.mem_append.1 hx with hx|hx
  ·exact .inl ⟨x,hx,o,e⟩
  ·rw[List.mem_singleton]at hx;subst hx;have e2:q=some ⟨b',o,none⟩:=e;rw[e0]at e2;simp only[Option.some.injEq,Addr.mk.injEq]at e2;rw[← e2.1];exact .inr (hF _ hF0).2
 have H2:=H1.knGrowX (k:=k) (At.of_get (i:=i) (by rw[List.getElem?_append_left hil];exact hi.get)) hI (fun b' h'=>by have:=(hF b' h').1;omega) (fun j r hj b' hp hF'=>by
  rw[List.getElem?_append]at hj;split at hj
  ·have a1:=((H.all j r hj).lt b' hp).2;have a2:=(hF b' hF').2;omega
  ·rcases List.getElem?_eq_some_iff.1 hj with ⟨h3,h4⟩
   simp at h3;simp[h3]at h4;subst h4
   cases hp
   have:=(hF b hF').1
   omega) hn
 rw[List.set_append_left _ _ hil]at H2;exact H2
end
section
variable {k:Nat} {P:Program} {ops:Array Oper} {o:Oper} {rest:List Oper} {a:Act} {w:World} {Q:Exit->Act->World->Prop}
theorem zDk {v:Value} (hg:Region.wanted o (yielded ops a.tmps)=true) (hr:(execOp a.eval o).run P w=.ok (.value v) w) (h:wpListIn Fence.wide k P ops Q rest (a.put o.dst v) w):wpListIn Fence.wide k P ops Q (o::rest) a w:=by
 unfold wpListIn;rw[if_pos hg];refine⟨fun _ _=>trivial,?_⟩
 rw[show o.semAt Fence.wide.round a.eval=execOp a.eval o from rfl,hr]
 exact h
theorem zIn {l:Nat} {x y:Operand} {ts:Array TypeId} {v:Value} {T:World->Prop} (hg:Region.wanted o (yielded ops a.tmps)=true) (hop:o.op=Op.call {callee:=Callee.value x,args:=#[y],argTypes:=ts})
  (hx:a.eval x=.func (.yield l) #[] #[]) (hy:a.eval y=v) (hY:YieldAt Fence.wide (k - 1) P l #[v] w fun e W'=>e=.returned (.bool true)/\T W') (h:∀ w',T w'->wpListIn Fence.wide k P ops Q rest (a.put o.dst (.bool true)) w'):wpListIn Fence.wide k P ops Q (o::rest) a w:=by
 obtain⟨fn,tmps,assign,body,hyr,hR⟩:=hY;unfold wpListIn;rw[if_pos hg];refine⟨fun _ _=>trivial,?_⟩
 rw[show o.semAt Fence.wide.round a.eval=execOp a.eval o from rfl]
 have hr:(execOp a.eval o).run P w=.ok (.round l fn tmps assign body) w:=by
  simp only[execOp,hop];simp only[resolve,hx,List.map_toArray,List.map_cons,List.map_nil,hy,Sem.run_bind,Sem.run_pure,Result.andThen_ok,invoke];exact hyr
 rw[hr];simp only[Oper.uponIn];refine⟨fun h=>by simp[Fence.wide]at h,hR.mono ?_⟩
 rintro e w' ⟨rfl,hT⟩;exact h w' hT
theorem zEI {x:Operand} {v:Value} (hop:o.op=.move x) (hx:a.eval x=v):(execOp a.eval o).run P w=.ok (.value v) w:=by
 simp only[execOp,hop,hx];rfl
theorem zLU {x:Operand} {T:TypeId} {b:Bool} (hop:o.op=.unOp .not T x) (hx:a.eval x=.bool b):(execOp a.eval o).run P w=.ok (.value (.bool (!b))) w:=by
 simp only[execOp,hop,hx];simp[go_sem]
end
end
end Go.Proofs.YtphjgfjbiimkjaaGreat
