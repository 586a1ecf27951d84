/-
  Laws of walks, and walks.
-/
import Derived.Test.YtalggmbdpmdcbaaGreatPt5
import Derived.Test.YtalggmbdpmdcbaaGreatPt1
import Derived.Test.YtalggmbdpmdcbaaGreatPt2
set_option linter.unusedVariables false
set_option linter.unusedSimpArgs false
set_option maxRecDepth 100000
set_option maxHeartbeats 16000000
namespace Go.Proofs.YtalggmbdpmdcbaaGreat
section
open Go.RowKit
theorem zGZ {P:Program} {id:Nat} {Q:Exit->Act->World->Prop} {a0:Act} {w0:World} {l:List Oper} (n:Nat) (Ss:Nat->Nat->Nat->Value->World->Prop)
  (hm:P.follows .mixedOrders=true) (hB:zF2 l.toArray n=true) (hsz:(l.take n).all (fun o=>match o.dst with|some d=>decide (d<a0.tmps.size)|none=>true)=true)
  (hst:∀ i,i<n->∀ N M v w w',Ss i N M v w->Below w.heap.size w w'->Ss i N M v w')
  (hstep:∀ i o,i<n->l[i]?=some o->∀ a w,RCtx (l.take n) (fun i v w=>∃ N M,Ss i N M v w) a0 w0 o a w->zBU P l.toArray o a w (fun v w'=>Ss i w.heap.size w'.heap.size v w'))
  (hend:∀ (vals:Nat->Value) (iv:Nat->Nat × Nat) w,Below w0.heap.size w0 w->(∀ i,i<n->Ss i (iv i).1 (iv i).2 (vals i) w/\w0.heap.size<=(iv i).1/\(iv i).2<=w.heap.size)->(∀ i j,i<n->j<n->i≠j->(iv i).2<=(iv j).1\/(iv j).2<=(iv i).1)->wpList P l.toArray Q (l.drop n) (zBO (l.take n) 0 vals a0) w) :
  (Code.region id l.toArray true).wp P Q a0 w0:=by
 simp only[zF2,Bool.and_eq_true,decide_eq_true_eq]at hB;obtain⟨⟨⟨⟨hn,hd⟩,haf⟩,hsink⟩,hseq⟩:=hB;have hn':n<=l.length:=by simpa using hn
 have hd':zCP (l.take n)=true:=hd;have htl:(l.take n).length=n:=by simp;omega
 have key:∀ (rem:List Nat) (f:Nat),rem.length=f->rem.Nodup->∀ (listed:Array Bool) (a:Act) (w:World),HeadInv .any l.toArray n listed ->
   (∀ i,i ∈ rem↔(i<n/\listed.getD i true=false))->(∃ (vals:Nat->Value) (iv:Nat->Nat × Nat),a=fill (l.take n) 0 listed vals a0/\(∀ i,i<n->listed.getD i false=true->Ss i (iv i).1 (iv i).2 (vals i) w/\w0.heap.size<=(iv i).1/\(iv i).2<=w.heap.size)/\∀ i j,i<n->j<n->i≠j->listed.getD i false=true->listed.getD j false=true->(iv i).2<=(iv j).1\/(iv j).2<=(iv i).1)->Below w0.heap.size w0 w ->
   wpAny P .any l.toArray Q (f+(l.toArray.size - n)) listed a w:=by
  intro rem f
  induction f generalizing rem with
  | zero =>
   intro hl _ listed a w inv hrem ⟨vals,iv,ha,hv,hp⟩ hb;have hr:rem=[]:=List.length_eq_zero_iff.1 hl;subst hr;have hall:∀ i,i<n->listed.getD i false=true:=by
    intro i hi;have h1:¬ listed.getD i true=false:=fun h=>by have:=(hrem i).2 ⟨hi,h⟩;simp at this
    have h2:i<listed.size:=by rw[inv.size];omega
    rw[Array.getD_eq_getD_getElem?,Array.getElem?_eq_getElem h2]at h1 ⊢
    simpa using h1
   have hlist:=zCc hn inv hall;have hw:=hend vals iv w hb (fun i hi=>hv i hi (hall i hi)) (fun i j hi hj hij=>hp i j hi hj hij (hall i hi) (hall j hj))
   rw[← zC3 (l.take n) 0 listed vals a0 (fun i hi=>by rw[Nat.zero_add];exact hall i (by omega)),← ha]at hw
   rw[Nat.zero_add];have hdl:(l.drop n).length=l.toArray.size - n:=by simp
   rw[← hdl];refine wpAny_of_seq (l.drop n) n listed a w (fun j=>by simp) ?_ hw
   rw[hdl,hlist];exact hseq
  | succ f ih =>
   intro hl hnd listed a w inv hrem ⟨vals,iv,ha,hv,hp⟩ hb;have hex:∃ i,i ∈ rem/\∀ j,j ∈ rem->i<=j:=by
    have:∀ (r:List Nat),r≠[]->∃ i,i ∈ r/\∀ j,j ∈ r->i<=j:=by
     intro r
     induction r with
     | nil=>intro h;exact(h rfl).elim
     | cons x r ihr =>
      intro _
      by_cases hr:r=[]
      ·subst hr;exact⟨x,by simp,by simp⟩
      ·obtain⟨i,hi,hmin⟩:=ihr hr
       by_cases hx:x<=i
       ·exact⟨x,by simp,fun j hj=>by rcases List.mem_cons.1 hj with rfl|hj;exact Nat.le_refl _;exact Nat.le_trans hx (hmin j hj)⟩
       ·exact⟨i,by simp[hi],fun j hj=>by rcases List.mem_cons.1 hj with rfl|hj;omega;exact hmin j hj⟩
    exact this rem (by intro h;subst h;simp at hl)
   have hready:Region.ready .any l.toArray listed≠[]:=by
    obtain⟨i,hi,hmin⟩:=hex;obtain⟨hin,hil⟩:=(hrem i).1 hi;have hlt:i<l.length:=by omega
    have hmem:i ∈ Region.ready .any l.toArray listed:=by
     refine mem_ready.2 ⟨hil,l[i],by simp[hlt],fun e he hbd=>?_⟩
     have h1:=List.all_eq_true.1 haf (l[i],i) (by
      rw[List.mem_zipIdx_iff_getElem?];simp[hin,hlt])
     have h2:=Array.all_eq_true'.1 h1 e he;simp[hbd]at h2;have hj:¬ e.on ∈ rem:=fun h=>by have:=hmin _ h;omega
     have h3:¬ listed.getD e.on true=false:=fun h=>hj ((hrem _).2 ⟨by omega,h⟩)
     have h4:e.on<listed.size:=by rw[inv.size];simp;omega
     rw[Array.getD_eq_getD_getElem?,Array.getElem?_eq_getElem h4]at h3 ⊢
     simpa using h3
    intro h;rw[h]at hmem;simp at hmem
   rw[show f+1+(l.toArray.size - n)=(f+(l.toArray.size - n))+1 from by omega]
   refine⟨fun h=>(hready h).elim,fun i hi=>?_⟩
   obtain⟨hil,o,ho,haft⟩:=mem_ready.1 hi;have hin:i<n:=by
    rcases Nat.lt_or_ge i n with h|h
    ·exact h
    ·exfalso
     obtain⟨i',hi',_⟩:=hex;obtain⟨hin',hil'⟩:=(hrem i').1 hi';have hisz:i<l.toArray.size:=(Array.getElem?_eq_some_iff.1 ho).1;simp only[Bool.or_eq_true,decide_eq_true_eq,Bool.and_eq_true]at hsink;rcases hsink with h0|⟨hs,hc⟩
     ·omega
     ·exact tail_waits hs hc (by omega) inv (n - i') i' rfl hin' hil' i h hi
   have ho':l[i]?=some o:=by simpa using ho
   have hot:(l.take n)[i]?=some o:=by rw[List.getElem?_take_of_lt hin];exact ho'
   obtain⟨d,hod⟩:∃ d,o.dst=some d:=by
    have:∀ (r:List Oper) (j:Nat),zCP r=true->r[j]?=some o->∃ d,o.dst=some d:=by
     intro r
     induction r with
     | nil=>intro j _ h;simp at h
     | cons x r ihr =>
      intro j hdd h;simp only[zCP,Bool.and_eq_true]at hdd
      cases j with
      | zero=>simp at h;subst h;exact Option.isSome_iff_exists.1 hdd.1.1
      | succ j=>exact ihr j hdd.2 (by simpa using h)
    exact this _ i hd' hot
   have hbd:∀ (j:Nat) (oj:Oper) (dj:Tmp),(l.take n)[j]?=some oj->oj.dst=some dj->dj<a0.tmps.size:=by
    intro j oj dj hj hdj;have:=List.all_eq_true.1 hsz oj (List.mem_of_getElem? hj)
    simpa [hdj] using this
   have hctx:RCtx (l.take n) (fun i v w=>∃ N M,Ss i N M v w) a0 w0 o a w:=by
    refine⟨hb,fun t ht=>by rw[ha];exact zBh _ _ _ _ _ t ht,fun j dj hj hdj=>?_,by rw[ha,zDb]⟩
    obtain⟨e,he,hbe⟩:=List.any_eq_true.1 hj;simp only[Bool.and_eq_true,beq_iff_eq]at hbe;have hlj:=haft e (Array.mem_toList_iff.1 he) hbe.1;rw[hbe.2]at hlj;obtain⟨oj,hoj,hdj'⟩:=Option.bind_eq_some_iff.1 hdj;have hjn:j<n:=by have:=(List.getElem?_eq_some_iff.1 hoj).1;omega
    rw[ha,zEA _ 0 listed vals a0 j oj dj hd' hoj hdj' (hbd j oj dj hoj hdj') (by rw[Nat.zero_add];exact hlj),Nat.zero_add]
    exact⟨_,_,(hv j hjn hlj).1⟩
   have hstep':=hstep i o hin ho' a w hctx;have hnext:∀ v w',Below w.heap.size w w'->Ss i w.heap.size w'.heap.size v w'->wpAny P .any l.toArray Q (f+(l.toArray.size - n)) (listed.setIfInBounds i true) (a.put o.dst v) w':=by
    intro v w' hbw hsv;have hmemi:i ∈ rem:=(hrem i).2 ⟨hin,hil⟩;refine ih (rem.erase i) (by rw[List.length_erase_of_mem hmemi,hl];rfl) (hnd.erase i) _ _ w' (inv.set hi hin) (fun j=>?_) ⟨fun j=>if j=i then v else vals j,fun j=>if j=i then (w.heap.size,w'.heap.size) else iv j,?_,fun j hj hlj=>?_,fun j k hj hk hjk hlj hlk=>?_⟩ (hb.trans (hbw.mono hb.size))
    ·rw[hnd.mem_erase_iff,hrem j]
     by_cases hji:j=i
     ·subst hji;have hjs:j<listed.size:=by rw[inv.size];simp;omega
      simp[hjs]
     ·rw[getD_set_ne true (fun e=>hji e.symm)]
      simp[hji]
    ·have:=zDK (l.take n) 0 i listed vals a0 o d v hd' hot hod (by rw[Nat.zero_add];exact hil)
     rw[Nat.zero_add]at this;rw[this,← ha,hod]
    ·by_cases hji:j=i
     ·subst hji;simp only[if_true];exact⟨hsv,hb.size,Nat.le_refl _⟩
     ·simp only[if_neg hji];rw[getD_set_ne false (fun e=>hji e.symm)]at hlj
      obtain⟨h1,h2,h3⟩:=hv j hj hlj;exact⟨hst j hj _ _ _ _ _ h1 hbw,h2,Nat.le_trans h3 hbw.size⟩
    ·by_cases hji:j=i
     ·subst hji;simp only[if_true,if_neg (fun e:k=j=>hjk e.symm)]
      rw[getD_set_ne false hjk]at hlk;exact .inr (hv k hk hlk).2.2
     ·simp only[if_neg hji];rw[getD_set_ne false (fun e=>hji e.symm)]at hlj
      by_cases hki:k=i
      ·subst hki;simp only[if_true];exact .inl (hv j hj hlj).2.2
      ·simp only[if_neg hki];rw[getD_set_ne false (fun e=>hki e.symm)]at hlk
       exact hp j k hj hk hjk hlj hlk
   unfold wpOp;simp only[ho];unfold zBU at hstep';split
   ·rename_i hw;rw[if_pos hw]at hstep';refine .inl (zDN (Oper.wp_mono (fun a' w' ⟨v,e,hbw,hsv⟩=>?_) hstep'))
    subst e;exact hnext v w' hbw hsv
   ·rename_i hw;rw[if_neg hw]at hstep';exact hnext undef w (Below.refl _ w) hstep'
 refine wp_region_any hm ?_
 have h0:=key (List.range n) n (by simp) List.nodup_range (Array.replicate l.toArray.size false) a0 {w0 with drawn:=w0.drawn+1}
  ⟨by simp,fun j oj _ hl=>(by rw[getD_replicate_false]at hl;cases hl),fun t _ ht=>getD_in (by simpa using ht) (getD_replicate_false _ _)⟩
  (fun i=>by
   rw[List.mem_range];constructor
   ·intro h;exact⟨h,getD_in (by simp;omega) (getD_replicate_false _ _)⟩
   ·intro h;exact h.1)
  ⟨fun _=>undef,fun _=>(0,0),(zCS _ _ _ _ _ (fun i=>getD_replicate_false _ _)).symm,fun i _ h=>(by rw[getD_replicate_false]at h;cases h),fun i j _ _ _ h=>(by rw[getD_replicate_false]at h;cases h)⟩
  ((Below.refl _ w0).drew)
 rw[show n+(l.toArray.size - n)=l.toArray.size from by omega]at h0
 exact h0
abbrev zGY:=Nat->Nat->Value->World->Prop
def zE8 (s:zGY):Prop:=∀ N M v w w',s N M v w->Below w.heap.size w w'->s N M v w'
theorem zCr (x:Value):zE8 (fun _ _ v _=>v=x):=fun _ _ _ _ _ h _=>h
def zJY:List zGY->Nat->zGY
 | [],_=>fun _ _ _ _=>True
 | s::_,0=>s
 | _::r,i+1=>zJY r i
def zF9:List zGY->Prop
 | []=>True
 | s::r=>zE8 s/\zF9 r
theorem zGJ:∀ (L:List zGY) (i:Nat),zF9 L->zE8 (zJY L i)
 | [],_,_=>fun _ _ _ _ _ h _=>h
 | _::_,0,h=>h.1
 | _::r,i+1,h=>zGJ r i h.2
def OblT (P:Program) (l hd:List Oper) (L:List zGY) (a0:Act) (w0:World):List Oper->Nat->Prop
 | [],_=>True
 | o::r,i=>(∀ a w,RCtx hd (fun i v w=>∃ N M,zJY L i N M v w) a0 w0 o a w->zBU P l.toArray o a w (fun v w'=>zJY L i w.heap.size w'.heap.size v w'))/\OblT P l hd L a0 w0 r (i+1)
theorem OblT.get {P:Program} {l hd:List Oper} {L:List zGY} {a0:Act} {w0:World}:∀ (r:List Oper) (k:Nat),OblT P l hd L a0 w0 r k->∀ i o,r[i]?=some o ->
  ∀ a w,RCtx hd (fun i v w=>∃ N M,zJY L i N M v w) a0 w0 o a w->zBU P l.toArray o a w (fun v w'=>zJY L (k+i) w.heap.size w'.heap.size v w')
 | [],_,_,_,_,h=>by simp at h
 | o::r,k,h,0,o',h'=>by simp at h';subst h';exact h.1
 | o::r,k,h,i+1,o',h'=>by
  have:=OblT.get r (k+1) h.2 i o' (by simpa using h')
  rwa [show k+1+i=k+(i+1) from by omega]at this
theorem zET {P:Program} {id:Nat} {Q:Exit->Act->World->Prop} {a0:Act} {w0:World} {l:List Oper} (n:Nat) (L:List zGY)
  (hm:P.follows .mixedOrders=true) (hB:zF2 l.toArray n=true) (hsz:(l.take n).all (fun o=>match o.dst with|some d=>decide (d<a0.tmps.size)|none=>true)=true)
  (hst:zF9 L) (hstep:OblT P l (l.take n) L a0 w0 (l.take n) 0)
  (hend:∀ (vals:Nat->Value) (iv:Nat->Nat × Nat) w,Below w0.heap.size w0 w->(∀ i,i<n->zJY L i (iv i).1 (iv i).2 (vals i) w/\w0.heap.size<=(iv i).1/\(iv i).2<=w.heap.size)->(∀ i j,i<n->j<n->i≠j->(iv i).2<=(iv j).1\/(iv j).2<=(iv i).1) ->
   wpList P l.toArray Q (l.drop n) (zBO (l.take n) 0 vals a0) w) :
  (Code.region id l.toArray true).wp P Q a0 w0 :=
 zGZ n (zJY L) hm hB hsz (fun i _ N M v w w' h hb=>zGJ L i hst N M v w w' h hb)
  (fun i o hi ho a w hc=>by
   have:=OblT.get (l.take n) 0 hstep i o (by rw[List.getElem?_take_of_lt hi];exact ho) a w hc
   rwa [Nat.zero_add]at this) hend
section
variable {P:Program} {ops:Array Oper} {o:Oper} {a:Act} {w:World}
end
end
section
open Go.RowKit Go.Shelf
attribute [local go_sem] Oper.semAt_some
section
variable {M:Nat->Prop} {w0 w W:World} {l:List Res}
theorem HoldG.blkRow (H:HoldG M w0 w l) {i b sz:Nat} {cs:Array Value} {T:TypeId} (hi:At l i (.blk b cs T)) (hb:w0.heap.size<=b) (hs:cs.size=sz):HoldG M w0 w (l.set i (.row (.slice (some ⟨b,0,none⟩) 1 1) T sz 1 cs.toList)) :=
 H.upd hi.get ⟨rfl,rfl,rfl,Nat.le_refl _,fun _ _ _=>rfl⟩ ⟨by rw[Array.length_toList,hs,Nat.one_mul],.inr ⟨b,1,cs,rfl,hb,(H.blk hi).2,Nat.le_refl _,by decide,by rw[hs,Nat.one_mul],by rw[Nat.one_mul,← hs];exact List.take_of_length_le (by simp)⟩⟩ (fun _ e=>.inl e)
theorem HoldG.gainRK (H:HoldG M w0 w l) (hbw:Below w.heap.size w W) {b sz:Nat} {cs:Array Value} {T:TypeId} (hb:w.heap.size<=b) (hh:W.heap[b]?=some (.cells cs T (0,0))) (hs:cs.size=sz) {F G:Nat->Prop} {S:World->Prop} (hG:Still l G)
  (hF:∀ z,F z->z<W.heap.size/\(w.heap.size<=z\/G z)) (hbF:¬ F b) (hS:∀ V:World,(∀ z,F z->V.heap[z]?=W.heap[z]?)->S V):HoldG M w0 W (l++[.row (.slice (some ⟨b,0,none⟩) 1 1) T sz 1 cs.toList,.kn F S]):=by
 obtain⟨b',e,H2⟩:=H.gainB hbw ⟨b,rfl,hb,hh⟩
 cases e
 have H3:=H2.know F S (fun z hz=>(hF z hz).1) (fun i r hi z hz hf=>by
  rw[List.getElem?_append]at hi;split at hi
  ·rcases(hF z hf).2 with h|h
   ·have:=((H.all i r hi).lt z hz).2;omega
   ·exact hG.apart H i r hi z hz h
  ·rcases List.getElem?_eq_some_iff.1 hi with ⟨h1,h2⟩
   simp at h1;simp[h1]at h2;subst h2
   cases hz;exact hbF hf) hS
 have hat:At (l++[Res.blk b cs T]++[Res.kn F S]) l.length (.blk b cs T):=by
  have:∀ l:List Res,At (l++[Res.blk b cs T]++[Res.kn F S]) l.length (.blk b cs T):=by
   intro l
   induction l with
   | nil=>exact .zero
   | cons x r ih=>exact .succ ih
  exact this l
 have H4:=H3.blkRow (sz:=sz) hat (Nat.le_trans H.keep.size hb) hs
 simpa using H4
end
theorem zQ4 {xs:List TV} {j:Nat} {x:TV} (h:xs[j]?=some x) (hk:x.1.d.kind=2):catT (xs.map (·.1))=zBj 2:=by
 unfold catT;rw[if_pos];rw[List.any_eq_true];exact⟨x.1,List.mem_map.2 ⟨x,List.mem_of_getElem? h,rfl⟩,by rw[hk];rfl⟩
theorem zPW {xs:List TV} (h:∀ (k:Nat) (x:TV),xs[k]?=some x->x.1.d.kind≠2):catT (xs.map (·.1))=rowN 4 (zBV (xs.map (·.1)) 4 1) (zBj 1):=by
 unfold catT;rw[if_neg];intro hc;obtain⟨t,ht,he⟩:=List.any_eq_true.1 hc;obtain⟨x,hx,rfl⟩:=List.mem_map.1 ht;obtain⟨k,hk⟩:=List.getElem?_of_mem hx;exact h k x hk (by simpa using he)
theorem zIc (p:Option Addr) (n c:Nat) (F:Nat->Prop) (ts:List Tree) (w0:World) (hF:∀ b,F b->b<w0.heap.size) (h:ForestR w0 F p c ts) (hn:n=ts.length) (hsz:zAD ts<=1000000000) :
  Calls Tryz.prog 161 #[.slice p n c] w0 fun e w'=>zB7 w0 F (catT ts) e w'/\Below w0.heap.size w0 w':=by
 obtain⟨xs,h1,h2,rfl⟩:=h.open;have hn':=hn;rw[List.length_map]at hn;rw[← hn]at h1;have hK:Knows F p n c xs w0:=⟨h1,h2⟩;clear h h1 h2;have H:=Hold.knows hF hK;have hc1:=hK.bound.2.1;have hc2:=hK.bound.2.2;have hp:=hK.at;have HN:=Lib.hid hn;have HN2:=Lib.hid hn';clear hn hn' hK
 go_enter Tryz.func161,Tryz.ntmps161
 go_wp2_with (first|((with_reducible refine kg 2 ?_);(first|refine kA 2 H ?_|refine kS 2 H ?_|refine kB 2 H ?_);clear H;intro b2 w H;try simp only[nr]at H)|fail)
 go_loopw [3] (fun ix wr=>∃ j:Nat,j<=n/\ix=.int .i64 j/\Hid (∀ (k:Nat) (x:TV),k<j->xs[k]?=some x->x.1.d.kind≠2)/\Hold w0 wr [.kn F (Knows F p n c xs),.blk b2 (zAO {kind:=0} nilS) 28]) (fun ix _=>n+1 - (intOf ix).toNat)
 case atStart=>exact⟨0,by omega,rfl,Lib.hid (fun k x hk=>by omega),H⟩
 case round =>
  clear H;obtain⟨j,hj,rfl,E,H⟩:=hrel
  by_cases hlt:j<n
  ·have dj:decide ((j:Int)<(n:Int))=true:=by simp;omega
   obtain⟨x,hx⟩:∃ x,xs[j]?=some x:=⟨_,List.getElem?_eq_getElem (by rw[← HN.out];exact hlt)⟩
   obtain⟨b,off,rfl⟩:=hp (by rw[← HN.out];omega)
   have hkind:∀ V,Knows F (some ⟨b,off,none⟩) n c xs V->V.cell? ⟨b,off+j * 10,none⟩=some (.int .i64 x.1.d.kind):=fun V h=>h.cells hx rfl 0 (by omega)
   clear hp
   by_cases hk:x.1.d.kind=2
   ·have dk:(x.1.d.kind == 2)=true:=by rw[beq_iff_eq];exact hk
    have E2:=Lib.hid (zQ4 hx hk);have hno:=fun w=>zIw w
    clear hx hk
    go_wp2_with (first|((with_reducible refine gL ?_);refine zAT wtd_ _ _ rfl rfl zAh (hkind _ (H.kn (i:=0) .zero)) ?_)|((with_reducible refine gT ?_);(refine aT H ?_;clear H;intro w H;try simp only[nr]at H))|((with_reducible refine ch (hno _) H ?_);clear H;intro w H))
    (refine xc Tryz.results161 H ?_)
    refine⟨?_,H.below⟩;rw[E2.out];exact⟨none,0,fun _=>False,rfl,ForestR.nil ..,fun _ h=>h.elim⟩
   ·have dk:(x.1.d.kind == 2)=false:=by rw[beq_eq_false_iff_ne];exact hk
    have E2:=Lib.hid (show ∀ (k:Nat) (y:TV),k<j+1->xs[k]?=some y->y.1.d.kind≠2 from fun k y hk' hy=>by
     by_cases e:k=j
     ·subst e;rw[hx]at hy;cases hy;exact hk
     ·exact E.out k y (by omega) hy)
    clear hx hk
    go_wp2_with (first|((with_reducible refine gL ?_);refine zAT wtd_ _ _ rfl rfl zAh (hkind _ (H.kn (i:=0) .zero)) ?_)|fail)
    go_roundw
    case rel=>exact⟨j+1,by omega,by go_num,E2,H⟩
    case measure=>simp[intOf];omega
  ·have dj:decide ((j:Int)<(n:Int))=false:=by simp;omega
   have E2:=Lib.hid (zPW (fun k x hx=>E.out k x (by have:=(List.getElem?_eq_some_iff.1 hx).1;have:=HN.out;omega) hx))
   have hfl:∀ (w:World) (l:List Res),Hold w0 w l->At l 0 (.kn F (Knows F p n c xs))->Calls Tryz.prog 163 #[.slice p n c,.int .i64 4,.int .i64 1] w fun e w'=>zE9 w F (zBV (xs.map (·.1)) 4 1) e w'/\Below w.heap.size w w':=fun w l h hi=>zLD p n c 4 1 F (xs.map (·.1)) w (h.knlt hi) (by have:=h.kn hi;rw[HN2.out]at this;exact this.forest) HN2.out hsz
   generalize hfs:zBV (xs.map (·.1)) 4 1=fs at E2 hfl
   have hrw:∀ (w:World) (l:List Res) (q:Option Addr) (m:Nat) (F2:Nat->Prop),Hold w0 w l->At l 2 (.kn F2 (fun V=>ForestR V F2 q m fs))->Calls Tryz.prog 162 #[.int .i64 4,.slice q fs.length m,zAQ {kind:=1} nilS] w fun e w'=>zB7 w F2 (rowN 4 fs (zBj 1)) e w'/\Below w.heap.size w w':=fun w l q m F2 h hi=>zJU 4 1 q m fs.length F2 fs w (h.knlt hi) (h.kn hi) rfl
   have hem:=fun w=>zJ8 w
   rw[← E2.out]at hrw;clear hfs
   generalize hct:catT (xs.map (·.1))=ct at hrw
   have HCT:=Lib.hid hct;clear hct E2
   go_wp2_with (first|((with_reducible refine gT ?_);(refine aT H ?_;clear H;intro w H;try simp only[nr]at H))|(go_at_call 163;(with_reducible refine chl (hfl _ _ H .zero) H (Still.at (i:=0) .zero) ?_);clear H;intro q2 c2 F2 w hF2 H;try simp only[nr]at H)|((with_reducible refine ch (hem _) H ?_);clear H;intro w H)|(go_at_call 162;(with_reducible refine cht (hrw _ _ _ _ _ H i_2) H (Still.at (i:=2) i_2) ?_);clear H;intro q3 c3 F3 w hF3 H;try simp only[nr]at H))
   (refine xc Tryz.results161 H ?_)
   refine⟨?_,H.below⟩;rw[HCT.out];exact⟨q3,c3,F3,rfl,(H.all 3 _ rfl).2 _ (fun _ _=>rfl),fun b h=>⟨(H.all 3 _ rfl).1 b h,(hF3 b h).elim .inl (hF2 b)⟩⟩
section
variable {P:Program} {ops:Array Oper} {o:Oper} {a:Act} {w:World}
theorem zGC {v:Value} (hg:Region.wanted o (yielded ops a.tmps)=true) (hr:(execOp a.eval o).run P w=.ok (.value v) w):zBU P ops o a w (fun v' _=>v'=v):=zC7 hg hr (Below.refl _ w) rfl
theorem zNQ {x:Operand} {v:Value} (hg:Region.wanted o (yielded ops a.tmps)=true) (hop:o.op=Op.move x) (hx:a.eval x=v):zBU P ops o a w (fun v' _=>v'=v):=zGC hg (by simp only[execOp,hop,hx];rfl)
def OneT (cs:Array Value) (T:TypeId):zGY:=fun N M v W=>∃ b,v=.slice (some ⟨b,0,none⟩) 1 1/\N<=b/\b<M/\W.heap[b]?=some (.cells cs T (0,0))
theorem zKM (cs:Array Value) (T:TypeId):zE8 (OneT cs T):=fun _ _ _ _ _ ⟨b,e,h1,h2,h3⟩ hb=>⟨b,e,h1,h2,(hb.block b (Array.getElem?_eq_some_iff.1 h3).1).trans h3⟩
def zRp (G:Nat->Prop) (ts:List Tree):zGY:=fun N M v W=>∃ q c F,v=.slice q ts.length c/\ForestR W F q c ts/\∀ z,F z->z<M/\z<W.heap.size/\(N<=z\/G z)
theorem zJb (G:Nat->Prop) (ts:List Tree):zE8 (zRp G ts):=fun _ _ _ _ _ ⟨q,c,F,e,h1,h2⟩ hb=>⟨q,c,F,e,h1.kept (fun z hz=>hb.block z (h2 z hz).2.1),fun z hz=>⟨(h2 z hz).1,Nat.lt_of_lt_of_le (h2 z hz).2.1 hb.size,(h2 z hz).2.2⟩⟩
def zPl (n0:Nat) (G:Nat->Prop) (t:Tree):zGY:=fun _ _ v W=>∃ q c F,v=zAQ t.d (.slice q t.kids.length c)/\ForestR W F q c t.kids/\∀ z,F z->z<W.heap.size/\(n0<=z\/G z)
theorem zGH (n0:Nat) (G:Nat->Prop) (t:Tree):zE8 (zPl n0 G t):=fun _ _ _ _ _ ⟨q,c,F,e,h1,h2⟩ hb=>⟨q,c,F,e,h1.kept (fun z hz=>hb.block z (h2 z hz).1),fun z hz=>⟨Nat.lt_of_lt_of_le (h2 z hz).1 hb.size,(h2 z hz).2⟩⟩
def zQo (n0:Nat) (G:Nat->Prop) (ts:List Tree):zGY:=fun _ _ v W=>∃ q c F,v=.slice q ts.length c/\ForestR W F q c ts/\∀ z,F z->z<W.heap.size/\(n0<=z\/G z)
theorem zI9 (n0:Nat) (G:Nat->Prop) (ts:List Tree):zE8 (zQo n0 G ts):=fun _ _ _ _ _ ⟨q,c,F,e,h1,h2⟩ hb=>⟨q,c,F,e,h1.kept (fun z hz=>hb.block z (h2 z hz).1),fun z hz=>⟨Nat.lt_of_lt_of_le (h2 z hz).1 hb.size,(h2 z hz).2⟩⟩
end
theorem zRt {ops:Array Oper} {o:Oper} {a:Act} {w:World} {x:Operand} {d:NodeD} {s:Value} (hg:Region.wanted o (yielded ops a.tmps)=true) (hop:o.op=Op.buildSlice 26 1 #[(0,x)]) (hx:a.eval x=zAQ d s) :
  zBU Tryz.prog ops o a w (fun v w'=>OneT (zAO d s) 28 w.heap.size w'.heap.size v w'):=by
 refine zC7 hg (v:=.slice (some ⟨w.heap.size,0,none⟩) 1 1) (w':=w.alloc (.cells (zAO d s) 28)) ?_ ((Below.refl _ w).alloc (Nat.le_refl _) _) ⟨w.heap.size,rfl,Nat.le_refl _,by simp,World.alloc_heap_new w _⟩
 simp only[execOp,hop,List.map_toArray,List.map_cons,List.map_nil,hx,Sem.run_bind,zBQ];rfl
theorem zQE {ops:Array Oper} {o:Oper} {a:Act} {w:World} {x:Operand} {n0:Nat} {G:Nat->Prop} {t:Tree} (hn:n0<=w.heap.size) (hg:Region.wanted o (yielded ops a.tmps)=true) (hop:o.op=Op.buildSlice 26 1 #[(0,x)]) (hx:∃ N M,zPl n0 G t N M (a.eval x) w) :
  zBU Tryz.prog ops o a w (fun v w'=>zQo n0 G [t] w.heap.size w'.heap.size v w'):=by
 obtain⟨_,_,q,c,F,e,hf,hF⟩:=hx;have hnew:=World.alloc_heap_new w (.cells (zAO t.d (.slice q t.kids.length c)) 28);refine zC7 hg (v:=.slice (some ⟨w.heap.size,0,none⟩) 1 1) (w':=w.alloc (.cells (zAO t.d (.slice q t.kids.length c)) 28)) ?_ ((Below.refl _ w).alloc (Nat.le_refl _) _) ⟨_,1,fun z=>z=w.heap.size\/F z,rfl,zMy hnew (hf.kept (fun z hz=>((Below.refl w.heap.size w).alloc (Nat.le_refl _) _).block z (hF z hz).1)) (fun _ _=>rfl),fun z hz=>?_⟩
 ·simp only[execOp,hop,List.map_toArray,List.map_cons,List.map_nil,e,Sem.run_bind,zBQ];rfl
 ·rw[World.size_alloc];rcases hz with rfl|hz
  ·exact⟨Nat.lt_succ_self _,.inl hn⟩
  ·exact⟨Nat.lt_succ_of_lt (hF z hz).1,(hF z hz).2⟩
theorem Knows.rd {F:Nat->Prop} {p:Option Addr} {n c:Nat} {xs:List TV} {V:World} (h:Knows F p n c xs V):RdN 10 V F (.slice p n c) (xs.map zAR):=h.1
theorem zLn (r:Array Value) (rows:List (Array Value)):zAE (r::rows)=r.toList++zAE rows:=by simp[zAE]
theorem zLA:∀ (m:Nat) (d:NodeD) (p0:Option Addr) (n0 c0:Nat) (k:Tree) (p:Option Addr) (c:Nat) (F:Nat->Prop) (w0:World),m<=100->zAC k<=2000->(∀ b,F b->b<w0.heap.size)->ForestR w0 F p c k.kids ->
  Calls Tryz.prog 190 #[zAQ d (.slice p0 n0 c0),zAQ k.d (.slice p k.kids.length c),.int .i64 m] w0 fun e w'=>zE9 w0 F (zCV d k m) e w'/\Below w0.heap.size w0 w'
 | 0,d,p0,n0,c0,k,p,c,F,w0,_,_,hF,h=>by
  have H:=Hold.start w0
  go_enter Tryz.func190,Tryz.ntmps190
  go_wp2_with (first|((with_reducible refine gX ?_);(refine bB H ?_;clear H;intro b w H;try simp only[nr]at H)))
  go_ret;exact⟨⟨none,0,fun _=>False,rfl,ForestR.nil ..,fun _ h=>h.elim⟩,H.below⟩
 | m+1,d,p0,n0,c0,k,p,c,F,w0,hm,hk,hF,h=>by
  have IH:=zLA m;obtain⟨i0,hi0,hz0,hz1,hz2⟩:=info_parts zB1;have H:=(Hold.start w0).know F (fun V=>ForestR V F p c k.kids) hF (fun i r h=>by simp at h) (fun V hV=>h.kept hV)
  clear h;simp only[List.nil_append]at H;have hm0:((m:Int)+1 == 0)=false:=by rw[beq_eq_false_iff_ne];omega
  have hm1:IntKind.i64.wrap (m:Int)=(m:Int):=by rw[IntKind.wrap_i64];omega
  have hlr:=zLl d k m;have hsr:=zFf d k m;have hsr2:zAD (zCV d k m)<=1000000:=by
   have h1:m * (zAC k+2)<=100 * 2002:=Nat.mul_le_mul (by omega) (by omega)
   omega
  have hsc:=zES (k::zCV d k m);clear hsr;simp only[zAD]at hsc
  generalize hrs:zCV d k m=rs at hlr hsr2 hsc
  have HRS:=Lib.hid hrs;have hih:∀ W,Hold w0 W [.kn F (fun V=>ForestR V F p c k.kids)]->Calls Tryz.prog 190 #[zAQ d (.slice p0 n0 c0),zAQ k.d (.slice p k.kids.length c),.int .i64 m] W fun e w'=>zE9 W F rs e w'/\Below W.heap.size W w':=fun W h=>hrs ▸ IH d p0 n0 c0 k p c F W (by omega) hk (h.knlt .zero) (h.kn .zero)
  clear IH hrs
  go_enter Tryz.func190,Tryz.ntmps190
  go_upto_region 3 with (first|((with_reducible refine kg 3 ?_);(first|refine kA 3 H ?_|refine kS 3 H ?_|refine kB 3 H ?_);clear H;intro b3 w H;try simp only[nr]at H)|((with_reducible refine kg 4 ?_);(first|refine kA 4 H ?_|refine kS 4 H ?_|refine kB 4 H ?_);clear H;intro b4 w H;try simp only[nr]at H)|fail)
  go_wp2_with fail
  refine zET 7 [fun _ _ v _=>v=zAQ k.d (.slice p k.kids.length c),OneT (zAO k.d (.slice p k.kids.length c)) 28,fun _ _ v _=>v=zAQ d (.slice p0 n0 c0),fun _ _ v _=>v=zAQ k.d (.slice p k.kids.length c),fun _ _ v _=>v=.int .i64 ((m:Int)+1),fun _ _ v _=>v=.int .i64 (m:Int),zRp F rs]
   (by kernel_rfl) (by kernel_rfl) (by kernel_rfl) ⟨zCr _,zKM _ _,zCr _,zCr _,zCr _,zCr _,zJb _ _,trivial⟩ ?ob ?en
  case ob =>
   refine⟨?_,?_,?_,?_,?_,?_,?_,trivial⟩<;>intro A W h
   ·exact zGC rfl (zAV rfl (h.f 4) zAK rfl (fun j _=>by rw[Nat.zero_add];exact(H.call h.below).cell (i:=2) i_2 j))
   ·obtain⟨_,_,e⟩:=h.d 0 10;exact zRt rfl rfl e
   ·exact zGC rfl (zAV rfl (h.f 3) zAK rfl (fun j _=>by rw[Nat.zero_add];exact(H.call h.below).cell (i:=1) i_1 j))
   ·exact zGC rfl (zAV rfl (h.f 4) zAK rfl (fun j _=>by rw[Nat.zero_add];exact(H.call h.below).cell (i:=2) i_2 j))
   ·exact zNQ rfl rfl (h.f 2)
   ·obtain⟨_,_,e⟩:=h.d 4 14;have e':A.eval (.tmp 14)=.int .i64 ((m:Int)+1):=e;exact zGC rfl (by simp only[execOp,e'];simp[go_sem,hm1])
   ·obtain⟨_,_,e1⟩:=h.d 2 12;obtain⟨_,_,e2⟩:=h.d 3 13;obtain⟨_,_,e3⟩:=h.d 5 15;refine zDY rfl rfl (enters_of Tryz.func190 (by kernel_rfl) rfl) (zHD ⟨e1,e2,e3⟩) ((hih W ((H.call h.below).pick [0] _ (by decide) rfl)).mono ?_)
    rintro e w' ⟨⟨q,c2,F2,rfl,hs,hF2⟩,hb⟩;exact⟨_,rfl,hb,q,c2,F2,rfl,hs,fun z hz=>⟨(hF2 z hz).1,(hF2 z hz).1,(hF2 z hz).2⟩⟩
  case en =>
   intro vals iv W hbw hv hiv;have v0:vals 0=zAQ k.d (.slice p k.kids.length c):=(hv 0 (by omega)).1
   have v2:vals 2=zAQ d (.slice p0 n0 c0):=(hv 2 (by omega)).1
   have v3:vals 3=zAQ k.d (.slice p k.kids.length c):=(hv 3 (by omega)).1
   have v4:vals 4=.int .i64 ((m:Int)+1):=(hv 4 (by omega)).1
   have v5:vals 5=.int .i64 (m:Int):=(hv 5 (by omega)).1
   obtain⟨⟨b,e1,hb1,hb2,hh⟩,hb3,hb4⟩:=hv 1 (by omega)
   obtain⟨⟨q,c2,F2,e6,hs,hF2⟩,hq1,hq2⟩:=hv 6 (by omega)
   have hd:=hiv 1 6 (by omega) (by omega) (by omega)
   have hbF:¬ F2 b:=fun hf=>by
    rcases(hF2 b hf).2.2 with h|h
    ·have:=(hF2 b hf).1;omega
    ·have:=H.knlt (i:=0) .zero b h;omega
   obtain⟨xs,hx1,hx2,rfl⟩:=hs.open;have hxl:(xs.map (·.1)).length=xs.length:=List.length_map ..;rw[hxl]at e6 hlr;have hH:=H.gainRK (sz:=10) hbw (by omega:w.heap.size<=b) hh rfl (F:=F2) (G:=F) (S:=Knows F2 q xs.length c2 xs) (Still.at (i:=0) .zero) (fun z hz=>⟨(hF2 z hz).2.1,(hF2 z hz).2.2.imp (fun h=>Nat.le_trans hq1 h) id⟩) hbF (fun V hV=>⟨hx1.kept hV,hx2.kept hV⟩)
   simp only[List.cons_append,List.nil_append]at hH;simp only[fa,Nat.reduceAdd];rw[v0,e1,v2,v3,v4,v5,e6];have hN6:w0.heap.size<=(iv 6).1:=Nat.le_trans H.below.size hq1;clear hv v0 e1 v2 v3 v4 v5 e6 hiv hd hbF hs hx1 hx2 hb1 hb2 hb3 hb4 hh hq1 hq2 H;have H:=hH;clear hH;simp only[pl]
   go_upto_region 4 with (first|(at_builtin;refine zBA rfl _ _ 26 rfl H (i:=3) evd_ evd_ i_3 (Knows.rd (H.kn (i:=4) i_4)) (zBS _) Tryz.underlying26 hi0 hz0 hz1 hz2 rfl (by decide) (zFu _) (by unfold maxLen;omega) (by omega) ?_;clear H;intro v2 w H;try simp only[nr]at H)|fail)
   obtain⟨q',cap',rfl,_,_,_⟩:=H.rowShape (i:=3) i_3;rw[show (zAO k.d (.slice p k.kids.length c)).toList++zAE (xs.map zAR)=zAE ((((k,p,c):TV)::xs).map zAR) from (zLn _ _).symm]at H
   obtain⟨G',hG',H2⟩:=H.rowForest (i:=3) (xs:=((k,p,c):TV)::xs) (K:=fun z=>F z\/F2 z) i_3 (by simp;omega) ((Still.at (i:=0) .zero).or (Still.at (i:=4) i_4)) (fun y hy=>by
    rcases List.mem_cons.1 hy with rfl|hy
    ·exact(H.kn (i:=0) .zero).mono (fun _ h=>.inl h)
    ·exact((H.kn (i:=4) i_4).2 y hy).mono (fun _ h=>.inr h))
   clear H;have H:=H2;clear H2;simp only[List.set_cons_succ,List.set_cons_zero,List.map_cons]at H;have hF2l:∀ z,F2 z->w0.heap.size<=z\/F z:=fun z hz=>(hF2 z hz).2.2.imp (fun h=>Nat.le_trans hN6 h) id
   have hGl:∀ z,G' z->w0.heap.size<=z\/F z:=fun z hz=>(hG' z hz).elim .inl (fun h=>h.elim .inr (hF2l z))
   clear hG' hF2 hF2l hN6 hih hlr;have ES:=Lib.hid (show zAD (k::xs.map (·.1))<=1000000000 by simp only[zAD];omega)
   have ER:=Lib.hid (show zCV d k (m+1)=[zB9 d (catT (k::xs.map (·.1))) 1] by rw[zCV,HRS.out])
   generalize hct:catT (k::xs.map (·.1))=ct at ER
   have HCT:=Lib.hid hct;clear hct hsc hsr2
   go_wp2_with fail
   refine zET 5 [fun _ _ v _=>v=zAQ d (.slice p0 n0 c0),fun _ _ v _=>v=.slice q' (1+xs.length) cap',zPl w.heap.size G' ct,zPl w.heap.size G' (zB9 d ct 1),zQo w.heap.size G' [zB9 d ct 1]]
    (by kernel_rfl) (by kernel_rfl) (by kernel_rfl) ⟨zCr _,zCr _,zGH _ _ _,zGH _ _ _,zI9 _ _ _,trivial⟩ ?ob2 ?en2
   case ob2 =>
    refine⟨?_,?_,?_,?_,?_,trivial⟩<;>intro A W h
    ·exact zGC rfl (zAV rfl (h.f 3) zAK rfl (fun j _=>by rw[Nat.zero_add];exact(H.call h.below).cell (i:=1) i_1 j))
    ·exact zNQ rfl rfl (h.f 7)
    ·obtain⟨_,_,e1⟩:=h.d 1 19;have HW:=H.call h.below;have hc:=zIc q' (1+xs.length) cap' G' (k::xs.map (·.1)) W (HW.knlt (i:=3) i_3) (HW.kn (i:=3) i_3) (by rw[List.length_cons,List.length_map];omega) ES.out
     rw[HCT.out]at hc;refine zDY rfl rfl (enters_of Tryz.func161 (by kernel_rfl) rfl) (zDH e1) (hc.mono ?_)
     rintro e w' ⟨⟨q3,c3,F3,rfl,hs3,hF3⟩,hb⟩;exact⟨_,rfl,hb,q3,c3,F3,rfl,hs3,fun z hz=>⟨(hF3 z hz).1,(hF3 z hz).2.imp (fun hh=>Nat.le_trans h.below.size hh) id⟩⟩
    ·obtain⟨_,_,e0⟩:=h.d 0 18;obtain⟨_,_,q3,c3,F3,e2,hs3,hF3⟩:=h.d 2 20;refine zDY rfl rfl (enters_of Tryz.func189 (by kernel_rfl) rfl) (zHD ⟨e0,e2,rfl⟩) ((zJt d p0 n0 c0 ct q3 c3 1 F3 W (fun z hz=>(hF3 z hz).1) hs3).mono ?_)
     rintro e w' ⟨⟨q4,c4,F4,rfl,hs4,hF4⟩,hb⟩;exact⟨_,rfl,hb,q4,c4,F4,rfl,hs4,fun z hz=>⟨(hF4 z hz).1,(hF4 z hz).2.elim (fun hh=>.inl (Nat.le_trans h.below.size hh)) (fun hh=>(hF3 z hh).2)⟩⟩
    ·exact zQE h.below.size rfl rfl (h.d 3 21)
   case en2 =>
    intro vals iv W2 hbw2 hv hiv;have v0:vals 0=zAQ d (.slice p0 n0 c0):=(hv 0 (by omega)).1
    have v1:vals 1=.slice q' (1+xs.length) cap':=(hv 1 (by omega)).1
    obtain⟨⟨q3,c3,F3,v2,_,_⟩,_,_⟩:=hv 2 (by omega)
    obtain⟨⟨q4,c4,F4,v3,_,_⟩,_,_⟩:=hv 3 (by omega)
    obtain⟨⟨q5,c5,F5,v4,hs5,hF5⟩,_,_⟩:=hv 4 (by omega)
    simp only[fa,Nat.reduceAdd];rw[v0,v1,v2,v3,v4];have H5:=H.call hbw2;have hsz:=H.below.size;clear hv v0 v1 v2 v3 v4 hiv H;simp only[pl]
    go_wp2_with fail
    go_ret;refine⟨?_,H5.below⟩;rw[ER.out];exact⟨q5,c5,F5,rfl,hs5,fun z hz=>⟨(hF5 z hz).1,(hF5 z hz).2.elim (fun hh=>.inl (Nat.le_trans hsz hh)) (hGl z)⟩⟩
end
section
open Go.RowKit
theorem zKX (t:Array Value) (n:Nat) (h:t.size=n):t=((List.range n).map (fun i=>t.getD i undef)).toArray:=by
 subst h;apply Array.ext
 ·simp
 ·intro i h1 h2;simp[h1]
section
variable {P:Program} {ops:Array Oper} {o:Oper} {a:Act} {w:World} {D:Prop}
theorem zR5 {j:Nat} {d:Tmp} {want c b:Bool} {v:Value} (hgd:o.guard=some (j,want)) (hj:(ops[j]?).bind (·.dst)=some d) (hy:a.eval (.tmp d)=bif c then .bool b else undef) (hr:c=true->b=want->(execOp a.eval o).run P w=.ok (.value v) w) (hD:¬ D) :
  zBU P ops o a w (fun v' _=>v'=(bif (c&&(b == want)) then v else undef)/\(D->w.heap.size<=blk v')):=by
 cases c with
 | false =>
  exact zKH (zJZ hgd (zIL hj hy)) ⟨rfl,fun h=>(hD h).elim⟩
 | true =>
  by_cases hb:b=want
  ·subst hb;refine zC7 (zAZ hgd (zAN hj hy)) (hr rfl rfl) (Below.refl _ w) ⟨?_,fun h=>(hD h).elim⟩
   simp
  ·refine zKH (zDC hgd (zAN hj hy) hb) ⟨?_,fun h=>(hD h).elim⟩
   have:(b == want)=false:=by simpa using hb
   simp[this]
abbrev iT (c b want:Bool) (v:Value):Value:=bif c&&(b == want) then v else undef
theorem sy_ {j:Nat} {d:Tmp} {want c b:Bool} {v:Value} (hy:a.eval (.tmp d)=bif c then .bool b else undef) (hr:(c&&(b == want))=true->(execOp a.eval o).run P w=.ok (.value v) w) (hgd:o.guard=some (j,want):=by rfl) (hj:(ops[j]?).bind (·.dst)=some d:=by rfl) (hD:¬ D:=by decide) :
  zBU P ops o a w (fun v' _=>v'=(bif (c&&(b == want)) then v else undef)/\(D->w.heap.size<=blk v')) :=
 zR5 hgd hj hy (fun hc hb=>hr (Bool.and_eq_true_iff.2 ⟨hc,beq_iff_eq.2 hb⟩)) hD
theorem zBJ {x y:Operand} {b q:Bool} (hop:o.op=Op.pick x y (.const (.bool false))) (hx:a.eval x=.bool b) (hy:b=true->a.eval y=.bool q):(execOp a.eval o).run P w=.ok (.value (.bool (b&&q))) w:=by
 cases b with
 | false=>simp only[execOp,hop,hx];rfl
 | true=>simp only[execOp,hop,hx,hy rfl];rfl
theorem zHt {x y:Operand} {b q:Bool} (hop:o.op=Op.pick x (.const (.bool true)) y) (hx:a.eval x=.bool b) (hy:b=false->a.eval y=.bool q):(execOp a.eval o).run P w=.ok (.value (.bool (b || q))) w:=by
 cases b with
 | true=>simp only[execOp,hop,hx];rfl
 | false=>simp only[execOp,hop,hx,hy rfl];rfl
theorem zAl {x:Operand} {v:Value} (hop:o.op=Op.move x\/o.op=Op.assign x) (hx:a.eval x=v):(execOp a.eval o).run P w=.ok (.value v) w:=by
 rcases hop with h|h<;>(simp only[execOp,h,hx];rfl)
theorem zAS {α:Type} {x u v:α} {c:Bool} (h:x=bif c then u else v) (hc:c=true):x=u:=by rw[h,hc];rfl
end
end
end Go.Proofs.YtalggmbdpmdcbaaGreat
