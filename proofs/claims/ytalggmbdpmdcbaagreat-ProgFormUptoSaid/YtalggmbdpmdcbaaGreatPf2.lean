/-
  Laws of walks, and walks.
-/
import Derived.Test.YtalggmbdpmdcbaaGreatPf1
import Derived.Deep.MidRow
import Derived.Deep.CutRange
import Derived.Laws.Slices
import Derived.Laws.Strings2
import Derived.Lib.Strings
set_option linter.unusedVariables false
set_option linter.unusedSimpArgs false
set_option maxRecDepth 100000
set_option maxHeartbeats 16000000
namespace Go.Proofs.YtalggmbdpmdcbaaGreat
section
open Go.RowKit
inductive Res where
 | blk (b:Nat) (cs:Array Value) (T:TypeId)
 | row (v:Value) (e:TypeId) (sz n:Nat) (xs:List Value)
 | mp (b:Nat) (es:Array MapEntry) (clock:Nat)
  | kn (F:Nat->Prop) (S:World->Prop)
def Res.place:Res->Option Nat
 | .blk b _ _=>some b
 | .row v _ _ _ _=>v.ownBlock
 | .mp b _ _=>some b
 | .kn _ _=>none
def Res.foot:Res->Nat->Prop
 | .blk b _ _,k=>some b=some k
 | .row v _ _ _ _,k=>v.ownBlock=some k
 | .mp b _ _,k=>some b=some k
 | .kn F _,k=>F k
theorem Res.place_foot {r:Res} {b:Nat} (h:r.place=some b):r.foot b:=by cases r<;>first|exact h|cases h
def Res.Holds (M:Nat->Prop) (base:Nat) (W:World):Res->Prop
 | .blk b cs T=>(base<=b\/M b)/\W.heap[b]?=some (.cells cs T (0,0))
 | .row v e sz n xs=>W.ownsRow base e sz v n xs
 | .mp b es c=>base<=b/\W.heap[b]?=some (.map es c)
 | .kn F S=>(∀ b,F b->b<W.heap.size)/\∀ W':World,(∀ b,F b->W'.heap[b]?=W.heap[b]?)->S W'
theorem Res.Holds.lt {M:Nat->Prop} {base:Nat} {W:World} {r:Res} (h:r.Holds M base W):∀ b,r.place=some b->(base<=b\/M b)/\b<W.heap.size:=by
 intro b hb
 cases r with
 | blk b' cs T=>cases hb;exact⟨h.1,(Array.getElem?_eq_some_iff.1 h.2).1⟩
 | row v e sz n xs=>exact⟨.inl (World.ownsRow.lt h b hb).1,(World.ownsRow.lt h b hb).2⟩
 | mp b' es c=>cases hb;exact⟨.inl h.1,(Array.getElem?_eq_some_iff.1 h.2).1⟩
 | kn F S=>cases hb
theorem Res.Holds.ltf {M:Nat->Prop} {base:Nat} {W:World} {r:Res} (h:r.Holds M base W):∀ b,r.foot b->b<W.heap.size:=by
 intro b hb
 cases r with
 | kn F S=>exact h.1 b hb
 | _=>exact(h.lt b hb).2
theorem Res.Holds.kept {M:Nat->Prop} {base:Nat} {W W':World} {r:Res} (h:r.Holds M base W) (hk:∀ b,r.foot b->W'.heap[b]?=W.heap[b]?) (hs:W.heap.size<=W'.heap.size):r.Holds M base W':=by
 cases r with
 | blk b' cs T=>exact⟨h.1,(hk b' rfl).trans h.2⟩
 | row v e sz n xs =>
  obtain⟨hl,h'|⟨g,cap,cur,rfl,hb,hg,r⟩⟩:=h
  ·exact⟨hl,.inl h'⟩
  ·exact⟨hl,.inr ⟨g,cap,cur,rfl,hb,(hk g rfl).trans hg,r⟩⟩
 | mp b' es c=>exact⟨h.1,(hk b' rfl).trans h.2⟩
 | kn F S=>exact⟨fun b hb=>Nat.lt_of_lt_of_le (h.1 b hb) hs,fun W2 h2=>h.2 W2 (fun b hb=>(h2 b hb).trans (hk b hb))⟩
def zMh (r s:Res):Prop:=∀ b,r.place=some b->¬ s.foot b
structure HoldG (M:Nat->Prop) (w0 W:World) (l:List Res):Prop where
 keep:KeepBut M w0.heap.size w0 W
 all:∀ (i:Nat) (r:Res),l[i]?=some r->r.Holds M w0.heap.size W
 apart:∀ (i j:Nat) (r s:Res),i≠j->l[i]?=some r->l[j]?=some s->zMh r s
abbrev Hold (w0 W:World) (l:List Res):Prop:=HoldG (fun _=>False) w0 W l
theorem Hold.start (w0:World):Hold w0 w0 []:=⟨KeepBut.refl _ _ _,fun i r h=>by simp at h,fun i j r s _ h=>by simp at h⟩
theorem HoldG.below {w0 W:World} {l:List Res} (H:Hold w0 W l):Below w0.heap.size w0 W:=H.keep.below (Nat.le_refl _) (fun _ _ h=>h)
theorem HoldG.startB {w0:World} {b:Nat} {cs:Array Value} {T:TypeId} (h:w0.heap[b]?=some (.cells cs T (0,0))):HoldG (·=b) w0 w0 [.blk b cs T] :=
 ⟨KeepBut.refl _ _ _,fun i r hr=>by
  match i,hr with
  | 0,hr=>cases hr;exact⟨.inr rfl,h⟩
  | i+1,hr=>simp at hr,fun i j r s hij h1 h2=>by
  match i,j,h1,h2 with
  | 0,0,_,_=>exact absurd rfl hij
  | 0,j+1,_,h2=>simp at h2
  | i+1,_,h1,_=>simp at h1⟩
section
variable {M:Nat->Prop}
theorem HoldG.call {w0 W W':World} {l:List Res} (H:HoldG M w0 W l) (h:Below W.heap.size W W'):HoldG M w0 W' l :=
 ⟨H.keep.trans ((KeepBut.of_below h).mono H.keep.size (fun _ _ m=>m)),fun i r hi=>(H.all i r hi).kept (fun b hb=>h.block b ((H.all i r hi).ltf b hb)) h.size,H.apart⟩
theorem HoldG.take {w0 W:World} {l:List Res} (H:HoldG M w0 W l) (n:Nat):HoldG M w0 W (l.take n) :=
 ⟨H.keep,fun i r h=>H.all i r (by rw[List.getElem?_take]at h;split at h;exact h;cases h),fun i j r s hij h1 h2=>H.apart i j r s hij (by rw[List.getElem?_take]at h1;split at h1;exact h1;cases h1) (by rw[List.getElem?_take]at h2;split at h2;exact h2;cases h2)⟩
theorem HoldG.drew {w0 W:World} {l:List Res} (H:HoldG M w0 W l):HoldG M w0 W.drew l:=H.call (Below.refl _ W).drew
theorem HoldG.upd {w0 W W':World} {l:List Res} (H:HoldG M w0 W l) {i:Nat} {r r':Res} (hi:l[i]?=some r) (hg:W.grownBy W' r.place) (hr:r'.Holds M w0.heap.size W')
  (hp:∀ b,r'.foot b->r.foot b\/W.heap.size<=b) (h0:∀ b,r.foot b->r.place=some b:=by exact fun _ h=>h):HoldG M w0 W' (l.set i r'):=by
 have hil:i<l.length:=(List.getElem?_eq_some_iff.1 hi).1
 refine⟨H.keep.trans ⟨hg.os,hg.tape,hg.output,hg.size,fun k h1 h2=>hg.block k (Nat.lt_of_lt_of_le h1 H.keep.size) (fun e=>by
  rcases((H.all i r hi).lt k e.symm).1 with h|h
  ·omega
  ·exact h2 h)⟩,?_,?_⟩
 ·intro j s hs;rw[List.getElem?_set]at hs;split at hs
  ·rename_i e;subst e;cases hs;exact hr
  ·rename_i hne;refine(H.all j s hs).kept (fun b hb=>hg.block b ((H.all j s hs).ltf b hb) (fun e=>?_)) hg.size
   exact H.apart i j r s hne hi hs b e.symm hb
 ·intro j k s t hjk hs ht;rw[List.getElem?_set]at hs ht;split at hs
  ·rename_i e;subst e;cases hs
   rw[if_neg hjk]at ht;intro b hb hb';rcases hp b (Res.place_foot hb) with h|h
   ·exact H.apart i k r t hjk hi ht b (h0 b h) hb'
   ·have:=(H.all k t ht).ltf b hb';omega
  ·split at ht
   ·rename_i _ e;subst e;cases ht
    intro b hb hb';rcases hp b hb' with h|h
    ·exact H.apart j i s r hjk hs hi b hb h
    ·have:=((H.all j s hs).lt b hb).2;omega
   ·exact H.apart j k s t hjk hs ht
theorem HoldG.add {w0 W W':World} {l:List Res} (H:HoldG M w0 W l) {r:Res} (hg:W.grownBy W' none) (hr:r.Holds M w0.heap.size W') (hp:∀ b,r.foot b->W.heap.size<=b):HoldG M w0 W' (l++[r]):=by
 have hb:Below W.heap.size W W':=(Below.refl _ W).grown hg (Nat.le_refl _) (fun k e=>by cases e)
 have H':=H.call hb;refine⟨H'.keep,?_,?_⟩
 ·intro j s hs;rw[List.getElem?_append]at hs;split at hs
  ·exact H'.all j s hs
  ·rcases List.getElem?_eq_some_iff.1 hs with ⟨h1,h2⟩
   simp at h1;simp[h1]at h2;subst h2;exact hr
 ·intro j k s t hjk hs ht;rw[List.getElem?_append]at hs ht;split at hs
  ·split at ht
   ·exact H.apart j k s t hjk hs ht
   ·rcases List.getElem?_eq_some_iff.1 ht with ⟨h1,h2⟩
    simp at h1;simp[h1]at h2;subst h2;intro b hb1 hb2;have h3:=((H.all j s hs).lt b hb1).2;have:=hp b hb2;omega
  ·rcases List.getElem?_eq_some_iff.1 hs with ⟨h1,h2⟩
   simp at h1;simp[h1]at h2;subst h2;split at ht
   ·intro b hb1 hb2;have h3:=(H.all k t ht).ltf b hb2;have:=hp b (Res.place_foot hb1);omega
   ·rcases List.getElem?_eq_some_iff.1 ht with ⟨h4,h5⟩
    simp at h4;omega
inductive At {α:Type}:List α->Nat->α->Prop where
 | zero {r:α} {l:List α}:At (r::l) 0 r
 | succ {r s:α} {l:List α} {i:Nat} (h:At l i r):At (s::l) (i+1) r
theorem At.get {α:Type} {l:List α} {i:Nat} {r:α} (h:At l i r):l[i]?=some r:=by
 induction h with
 | zero=>rfl
 | succ _ ih=>simpa using ih
theorem HoldG.blk {w0 W:World} {l:List Res} (H:HoldG M w0 W l) {i b:Nat} {cs:Array Value} {T:TypeId} (hi:At l i (.blk b cs T)):(w0.heap.size<=b\/M b)/\W.heap[b]?=some (.cells cs T (0,0)):=H.all i _ hi.get
theorem HoldG.cell {w0 W:World} {l:List Res} (H:HoldG M w0 W l) {i b:Nat} {cs:Array Value} {T:TypeId} (hi:At l i (.blk b cs T)) (k:Nat):W.cell? ⟨b,k,none⟩=cs[k]?:=cell_of_row W b k cs T (0,0) (H.blk hi).2
theorem HoldG.frozen {w0 W:World} {l:List Res} (H:HoldG M w0 W l) {i b:Nat} {cs:Array Value} {T:TypeId} (hi:At l i (.blk b cs T)) (k:Nat):W.frozen? ⟨b,k,none⟩=false:=by
 simp[World.frozen?,(H.blk hi).2]
theorem HoldG.alloc {w0 W:World} {l:List Res} (H:HoldG M w0 W l) (cs:Array Value) (T:TypeId):HoldG M w0 (W.alloc (.cells cs T)) (l++[.blk W.heap.size cs T]) :=
 H.add (World.grownBy_alloc W _ none) ⟨.inl H.keep.size,World.alloc_heap_new W _⟩ (fun b e=>by cases e;exact Nat.le_refl _)
theorem HoldG.callBut {w0 W W':World} {l:List Res} (H:HoldG M w0 W l) {i b:Nat} {cs cs':Array Value} {T:TypeId} (hi:At l i (.blk b cs T)) (hk:KeepBut (·=b) W.heap.size W W') (hb:W'.heap[b]?=some (.cells cs' T (0,0))):HoldG M w0 W' (l.set i (.blk b cs' T)) :=
 H.upd hi.get ⟨hk.os,hk.tape,hk.output,hk.size,fun k h1 h2=>hk.old k h1 (fun e=>h2 (by rw[e];rfl))⟩ ⟨(H.blk hi).1,hb⟩ (fun _ e=>.inl e)
theorem heap_setCell {W:World} {b k:Nat} {cs:Array Value} {T:TypeId} {f:Nat × Nat} (h:W.heap[b]?=some (.cells cs T f)) (v:Value):(W.setCell ⟨b,k,none⟩ v).heap[b]?=some (.cells (cs.setIfInBounds k v) T f):=by
 have hlt:=(Array.getElem?_eq_some_iff.1 h).1;simp only[World.setCell];simp[Array.getElem?_modify,h]
theorem zB7 (W:World) (b k:Nat) (v:Value):W.grownBy (W.setCell ⟨b,k,none⟩ v) (some b):=by
 refine⟨rfl,rfl,rfl,?_,?_⟩
 ·simp[World.setCell]
 ·intro j hj hne;simp[World.setCell,Array.getElem?_modify,show b≠j from fun e=>hne (by rw[e])]
theorem HoldG.setCell {w0 W:World} {l:List Res} (H:HoldG M w0 W l) {i b k:Nat} {cs:Array Value} {T:TypeId} (hi:At l i (.blk b cs T)) (v:Value) :
  HoldG M w0 (W.setCell ⟨b,k,none⟩ v) (l.set i (.blk b (cs.setIfInBounds k v) T)) :=
 H.upd hi.get (zB7 W b k v) ⟨(H.blk hi).1,heap_setCell (H.blk hi).2 v⟩ (fun _ e=>.inl e)
def zBS (cs:Array Value):Nat->List Value->Array Value
 | _,[]=>cs
 | k,v::r=>zBS (cs.setIfInBounds k v) (k+1) r
theorem zE2 {A B C:World} {b:Nat} (h:A.grownBy B (some b)) (k:B.grownBy C (some b)):A.grownBy C (some b) :=
 ⟨k.os.trans h.os,k.tape.trans h.tape,k.output.trans h.output,Nat.le_trans h.size k.size,fun j hj hne=>(k.block j (Nat.lt_of_lt_of_le hj h.size) hne).trans (h.block j hj hne)⟩
theorem zCV:∀ (vs:List Value) (k:Nat) (W:World) (b:Nat),W.grownBy (W.setCells b k vs) (some b)
 | [],_,_,_=>⟨rfl,rfl,rfl,Nat.le_refl _,fun _ _ _=>rfl⟩
 | v::r,k,W,b=>zE2 (zB7 W b k v) (zCV r (k+1) _ b)
theorem zCm:∀ (vs:List Value) (k:Nat) (W:World) (b:Nat) (cs:Array Value) (T:TypeId) (f:Nat × Nat),W.heap[b]?=some (.cells cs T f)->(W.setCells b k vs).heap[b]?=some (.cells (zBS cs k vs) T f)
 | [],_,_,_,_,_,_,h=>h
 | v::r,k,W,b,cs,T,f,h=>zCm r (k+1) _ b _ T f (heap_setCell h v)
theorem HoldG.setCells {w0 W:World} {l:List Res} (H:HoldG M w0 W l) {i b k:Nat} {cs:Array Value} {T:TypeId} (hi:At l i (.blk b cs T)) (vs:List Value) :
  HoldG M w0 (W.setCells b k vs) (l.set i (.blk b (zBS cs k vs) T)) :=
 H.upd hi.get (zCV vs k W b) ⟨(H.blk hi).1,zCm vs k W b cs T _ (H.blk hi).2⟩ (fun _ e=>.inl e)
theorem HoldG.there {w0 W:World} {l:List Res} (H:HoldG M w0 W l) {i b k n:Nat} {cs:Array Value} {T:TypeId} (hi:At l i (.blk b cs T)) (hn:k+n<=cs.size):W.there b k n:=fun j hj=>by
 rw[H.cell hi,H.frozen hi];simp;omega
theorem zOL (l:List Value) (d:List Deferred) (t:Nat):({tmps:=l.toArray,defers:=d}:Act).eval (.tmp t)=l.getD t undef:=by simp[Act.eval]
theorem zB0 (a:Act) (v:Value):a.eval (.const v)=v:=rfl
theorem pe:(∀ (t:Array Value) (d:List Deferred) (i:Nat) (v:Value),({tmps:=t,defers:=d}:Act).put (some i) v={tmps:=t.setIfInBounds i v,defers:=d})/\(∀ (a:Act) (v:Value),a.put none v=a)/\(∀ (a:Value) (l:List Value) (n:Nat),l.toArray.setIfInBounds n a=(l.set n a).toArray)/\(∀ (a b:Value) (l:List Value) (n:Nat),(a::l).set (n+1) b=a::l.set n b)/\(∀ (a b:Value) (l:List Value),(a::l).set 0 b=b::l) /\
  (∀ (l:List Value) (d:List Deferred) (t:Nat),({tmps:=l.toArray,defers:=d}:Act).eval (.tmp t)=l.getD t undef)/\(∀ (a:Act) (v:Value),a.eval (.const v)=v)/\(∀ (a:Act) (g:Nat),a.eval (.global g)=.pointer (some ⟨g,0,none⟩))/\(∀ (a:Act) (f:Nat),a.eval (.func f)=.func (.func f) #[] #[])/\(∀ (a d:Value) (l:List Value) (n:Nat),(a::l).getD (n+1) d=l.getD n d)/\∀ (a d:Value) (l:List Value),(a::l).getD 0 d=a :=
 ⟨fun _ _ _ _=>rfl,fun _ _=>rfl,fun _ _ _=>List.setIfInBounds_toArray ..,fun _ _ _ _=>rfl,fun _ _ _=>rfl,zOL,fun _ _=>rfl,fun _ _=>rfl,fun _ _=>rfl,fun _ _ _ _=>rfl,fun _ _ _=>rfl⟩
theorem zPS (a:Act) (v:Value):a.put none v=a:=rfl
theorem HoldG.rd {w0 W:World} {l:List Res} (H:HoldG M w0 W l) {i b:Nat} {cs:List Value} {T:TypeId} (hi:At l i (.blk b cs.toArray T)) (hn:cs.length<=maxLen):Rd W W.heap.size (.slice (some ⟨b,0,none⟩) cs.length cs.length) cs :=
 .inr ⟨b,0,cs.length,rfl,((H.all i _ hi.get).lt b rfl).2,Nat.le_refl _,hn,fun j hj=>by rw[H.cell hi];simp[hj]⟩
theorem HoldG.rdn {w0 W:World} {l:List Res} (H:HoldG M w0 W l) {i b n:Nat} {cs:List Value} {T:TypeId} (hi:At l i (.blk b cs.toArray T)) (hc:cs.length=n) (hn:n<=maxLen):Rd W W.heap.size (.slice (some ⟨b,0,none⟩) n n) cs:=by
 subst hc;exact H.rd hi hn
end
section
variable {P:Program} {ops:Array Oper} {rest:List Oper} {o:Oper} {a:Act} {w w0:World} {Q:Exit->Act->World->Prop} {l:List Res} {M:Nat->Prop}
def zBx (P:Program) (T:TypeId):Array Value:=(((P.info? T).bind (·.zero)).map (·.cells)).getD #[]
def zCe (P:Program) (T:TypeId) (n:Nat):Bool:=(P.info? T).map (·.size) == some n
def rowB (P:Program) (T:TypeId) (n:Nat):Bool:=zCe P T n&&((P.underlying T).map (·.isRow) == some true)
def oneB (P:Program) (T:TypeId):Bool:=zCe P T 1&&((P.underlying T).map (·.isRow) == some false)
theorem zGy {T n} (h:rowB P T n=true):∃ d,P.underlying T=some d/\d.isRow=true/\(P.info? T).map (·.size)=some n:=by
 simp only[rowB,zCe,Bool.and_eq_true,beq_iff_eq]at h;obtain⟨h1,h2⟩:=h
 cases hu:P.underlying T with
 | none=>simp[hu]at h2
 | some d=>exact⟨d,rfl,by simpa [hu] using h2,h1⟩
theorem zAE {T} (h:oneB P T=true):zCe P T 1=true:=by simp only[oneB,Bool.and_eq_true]at h;exact h.1
theorem zAr {T n} (h:rowB P T n=true):zCe P T n=true:=by simp only[rowB,Bool.and_eq_true]at h;exact h.1
theorem zBc {T:TypeId} (h:oneB P T=true) {ad:Addr} {v:Value} (hc:w.cell? ad=some v):(loadVar T ad).run P w=.ok v w:=by
 simp only[oneB,zCe,Bool.and_eq_true,beq_iff_eq]at h;obtain⟨h1,h2⟩:=h
 cases hu:P.underlying T with
 | none=>simp[hu]at h2
 | some d =>
  have hd:d.isRow=false:=by simpa [hu] using h2
  have hagg:(isAgg T).run P w=.ok false w:=by
   unfold isAgg;rw[Sem.run_bind,run_underlying hu w]
   cases d<;>simp_all
  simp[loadVar,Sem.run_bind,hagg,load,Sem.run,hc]
theorem zCR {T:TypeId} (h:zCe P T 1=true) {ad:Addr} {v:Value} (hv:v.oneCell'=true) (hc:(w.cell? ad).isSome=true) (hf:w.frozen? ad=false) (hs:ad.add 0=ad):(storeVar T ad v).run P w=.ok () (w.setCell ad v):=by
 have hcs:v.cells=#[v]:=by cases v<;>first|rfl|cases hv
 simp only[zCe,beq_iff_eq]at h
 cases hq:P.info? T with
 | none=>simp[hq]at h
 | some i =>
  have hs1:i.size=1:=by simpa [hq] using h
  obtain⟨u,hu⟩:=Option.isSome_iff_exists.1 hc;have hst:(store ad v).run P w=.ok () (w.setCell ad v):=by rw[run_store P w _ v _ hv];simp[hu,hf]
  simp[storeVar,sizeOf,typeInfo,hq,hcs,hs1,storeCells,hs,hst]
theorem zAo (hw:Region.wanted o (yielded ops a.tmps)=true) (h:∀ K:Act->World->Prop,(∀ a w,wpList P ops Q rest a w->K a w)->o.wp P a w K Q):wpList P ops Q (o::rest) a w :=
 wpList_step fun K hK=>by rw[if_pos hw];exact h K hK
theorem zEq (hg:Region.wanted o (yielded ops a.tmps)=true) (T:TypeId) (x:Operand) (ho:o.op=.load T x) {b k:Nat} (hx:a.eval x=.pointer (some ⟨b,k,none⟩)) (H:HoldG M w0 w l) {i:Nat} {cs:Array Value} {U:TypeId} (hi:At l i (.blk b cs U))
  (hT:oneB P T=true) {v:Value} (hv:cs[k]?=some v) (h:wpList P ops Q rest (a.put o.dst v) w):wpList P ops Q (o::rest) a w :=
 zAo hg fun _ hK=>by
  unfold Oper.wp execOp;simp only[ho,hx,Instr.loadAt,Instr.sureAddr,Sem.run_bind,Sem.run_pure,Result.andThen_ok,zBc hT (v:=v) (by rw[H.cell hi];exact hv)]
  exact hK _ _ h
theorem HoldG.run_row {n:Nat} (H:HoldG M w0 w l) {i b k:Nat} {cs vs:Array Value} {U T:TypeId} (hi:At l i (.blk b cs U)) (hT:rowB P T n=true) (hn:vs.size=n) (hv:∀ j,j<n->cs[k+j]?=vs[j]?) :
  (loadVar T ⟨b,k,none⟩).run P w=.ok (.agg vs) w:=by
 obtain⟨d,hu,hd,hs⟩:=zGy hT
 have:=run_loadVar_mid (P:=P) w b k T vs.toList d (fun j v hj=>by
  have hlt:j<n:=by have:=(List.getElem?_eq_some_iff.1 hj).1;simp at this;omega
  rw[H.cell hi,hv j hlt];simpa using hj) hu hd (by rw[hs];simp[hn])
 simpa using this
theorem zGJ (hg:Region.wanted o (yielded ops a.tmps)=true) (T:TypeId) (x:Operand) (ho:o.op=.load T x) {b k:Nat} (hx:a.eval x=.pointer (some ⟨b,k,none⟩)) (H:HoldG M w0 w l) {i:Nat} {cs:Array Value} {U:TypeId} (hi:At l i (.blk b cs U))
  (vs:Array Value) (hT:rowB P T vs.size=true) (hv:cs.extract k (k+vs.size)=vs) (h:wpList P ops Q rest (a.put o.dst (.agg vs)) w):wpList P ops Q (o::rest) a w :=
 zAo hg fun _ hK=>by
  unfold Oper.wp execOp;have hj:∀ j,j<vs.size->cs[k+j]?=vs[j]?:=fun j hj=>by
   have:vs[j]?=(cs.extract k (k+vs.size))[j]?:=by rw[hv]
   rw[this,Array.getElem?_extract,if_pos (by
    have hsz:(cs.extract k (k+vs.size)).size=vs.size:=by rw[hv]
    simp at hsz;omega)]
  simp only[ho,hx,Instr.loadAt,Instr.sureAddr,Sem.run_bind,Sem.run_pure,Result.andThen_ok,H.run_row (T:=T) hi hT rfl hj];exact hK _ _ h
theorem zFk (hg:Region.wanted o (yielded ops a.tmps)=true) (T:TypeId) (x:Operand) (ho:o.op=.load T x) {b:Nat} (hx:a.eval x=.pointer (some ⟨b,0,none⟩)) (H:HoldG M w0 w l) {i:Nat} {cs:Array Value} {U:TypeId} (hi:At l i (.blk b cs U))
  {n:Nat} (hT:rowB P T n=true) (hn:cs.size=n) (h:wpList P ops Q rest (a.put o.dst (.agg cs)) w):wpList P ops Q (o::rest) a w :=
 zAo hg fun _ hK=>by
  unfold Oper.wp execOp;simp only[ho,hx,Instr.loadAt,Instr.sureAddr,Sem.run_bind,Sem.run_pure,Result.andThen_ok,H.run_row (T:=T) hi hT hn (fun j _=>by rw[Nat.zero_add])]
  exact hK _ _ h
theorem zAi (hg:Region.wanted o (yielded ops a.tmps)=true) (T:TypeId) (x y:Operand) (ho:o.op=.store T x y) {b k:Nat} (hx:a.eval x=.pointer (some ⟨b,k,none⟩)) {v:Value} (hy:a.eval y=v) (H:HoldG M w0 w l) {i:Nat} {cs:Array Value} {U:TypeId} (hi:At l i (.blk b cs U))
  (h1:v.oneCell'=true) (hk:k<cs.size) (hT:zCe P T 1=true) (h:∀ w',HoldG M w0 w' (l.set i (.blk b (cs.setIfInBounds k v) U))->wpList P ops Q rest (a.put o.dst undef) w'):wpList P ops Q (o::rest) a w :=
 zAo hg fun _ hK=>by
  unfold Oper.wp execOp;have hs:(⟨b,k,none⟩:Addr).add 0=⟨b,k,none⟩:=by rw[Addr.add_mid];rfl
  simp only[ho,hx,hy,Instr.storeAt,Instr.sureAddr,Sem.run_bind,Sem.run_pure,Result.andThen_ok,zCR (P:=P) (w:=w) hT h1 (by rw[H.cell hi];simp[hk]) (H.frozen hi k) hs]
  exact hK _ _ (h _ (H.setCell hi v))
theorem zFK (hg:Region.wanted o (yielded ops a.tmps)=true) (T:TypeId) (x y:Operand) (ho:o.op=.store T x y) {b k:Nat} (hx:a.eval x=.pointer (some ⟨b,k,none⟩)) {vs:Array Value} (hy:a.eval y=.agg vs) (H:HoldG M w0 w l) {i:Nat} {cs:Array Value} {U:TypeId} (hi:At l i (.blk b cs U))
  {n:Nat} (hT:zCe P T n=true) (hv:vs.size=n) (h1:vs.toList.all (·.oneCell')=true) (hk:k+n<=cs.size) (h:∀ w',HoldG M w0 w' (l.set i (.blk b (zBS cs k vs.toList) U))->wpList P ops Q rest (a.put o.dst undef) w'):wpList P ops Q (o::rest) a w :=
 zAo hg fun _ hK=>by
  unfold Oper.wp execOp;simp only[ho,hx,hy,Instr.storeAt,Instr.sureAddr,Sem.run_bind,Sem.run_pure,Result.andThen_ok,run_storeVar_mid (P:=P) w b k T vs (H.there hi (by omega)) (by subst hv;simpa [zCe] using hT) (by rw[Array.all_toList]at h1;exact h1)]
  exact hK _ _ (h _ (H.setCells hi _))
theorem zDH:∀ (vs:List Value) (cs:Array Value) (k j:Nat),(zBS cs k vs)[j]?=if k<=j/\j<k+vs.length/\j<cs.size then vs[j - k]? else cs[j]?
 | [],cs,k,j=>by simp[zBS];omega
 | v::r,cs,k,j=>by
  rw[zBS,zDH r];simp only[Array.getElem?_setIfInBounds,List.length_cons,Array.size_setIfInBounds]
  by_cases e:k=j
  ·subst e;rw[if_neg (by omega)]
   by_cases h:k<cs.size
   ·simp[h]
   ·simp[h,Array.getElem?_eq_none (Nat.le_of_not_lt h)]
  ·by_cases h:k<=j/\j<k+(r.length+1)/\j<cs.size
   ·rw[if_pos ⟨by omega,by omega,h.2.2⟩,if_pos h]
    rw[show j - k=(j - (k+1))+1 from by omega];simp
   ·rw[if_neg (by omega),if_neg e,if_neg h]
theorem zFX {cs vs:Array Value} (h:vs.size=cs.size):zBS cs 0 vs.toList=vs:=by
 apply Array.ext_getElem?;intro j;rw[zDH];simp only[Nat.zero_le,true_and,Nat.zero_add,Array.length_toList,Nat.sub_zero]
 by_cases e:j<vs.size
 ·rw[if_pos ⟨e,by omega⟩];simp
 ·rw[if_neg (fun h=>e h.1),Array.getElem?_eq_none (by omega),Array.getElem?_eq_none (by omega)]
theorem zDx (hg:Region.wanted o (yielded ops a.tmps)=true) (T:TypeId) (x y:Operand) (ho:o.op=.store T x y) {b:Nat} (hx:a.eval x=.pointer (some ⟨b,0,none⟩)) {vs:Array Value} (hy:a.eval y=.agg vs) (H:HoldG M w0 w l) {i:Nat} {cs:Array Value} {U:TypeId} (hi:At l i (.blk b cs U))
  {n:Nat} (hT:zCe P T n=true) (hv:vs.size=n) (hn:cs.size=n) (h1:vs.toList.all (·.oneCell')=true) (h:∀ w',HoldG M w0 w' (l.set i (.blk b vs U))->wpList P ops Q rest (a.put o.dst undef) w'):wpList P ops Q (o::rest) a w :=
 zFK hg T x y ho hx hy H hi hT hv h1 (by omega) (fun w' H'=>h w' (by rwa [zFX (by omega)]at H'))
theorem zH2 (hg:Region.wanted o (yielded ops a.tmps)=true) (T:TypeId) (ho:o.op=.alloc T) (H:HoldG M w0 w l) (hi:((P.info? T).bind (·.zero)).isSome=true)
  (h:∀ b w',HoldG M w0 w' (l++[.blk b (zBx P T) T])->wpList P ops Q rest (a.put o.dst (.pointer (some ⟨b,0,none⟩))) w'):wpList P ops Q (o::rest) a w :=
 zAo hg fun _ hK=>by
  cases hi1:P.info? T with
  | none=>simp[hi1]at hi
  | some i0 =>
   cases hz:i0.zero with
   | none=>simp[hi1,hz]at hi
   | some z =>
    have hzc:zBx P T=z.cells:=by simp[zBx,hi1,hz]
    unfold Oper.wp execOp;simp[ho,Instr.alloc,zeroValue,typeInfo,hi1,hz,newVar,newRow];rw[hzc]at h;exact hK _ _ (h _ _ (H.alloc _ T))
theorem zIy (hg:Region.wanted o (yielded ops a.tmps)=true) (T:TypeId) (x:Operand) (ho:o.op=.box T x) {v:Value} (hx:a.eval x=v) (H:HoldG M w0 w l)
  (h:∀ b w',HoldG M w0 w' (l++[.blk b v.cells T])->wpList P ops Q rest (a.put o.dst (.pointer (some ⟨b,0,none⟩))) w'):wpList P ops Q (o::rest) a w :=
 zAo hg fun _ hK=>by
  unfold Oper.wp execOp;simp[ho,hx,Instr.box,newVar,newRow];exact hK _ _ (h _ _ (H.alloc _ T))
theorem zAY (hg:Region.wanted o (yielded ops a.tmps)=true) (TS:TypeId) (n:Nat) (parts:Array (Nat × Operand)) (ho:o.op=.buildSlice TS n parts) (H:HoldG M w0 w l) (cs:Array Value) (T:TypeId)
  (hr:∀ W:World,(Instr.buildSlice TS n (parts.map fun (i,x)=>(i,a.eval x))).run P W=.ok (.slice (some ⟨W.heap.size,0,none⟩) n n) (W.alloc (.cells cs T)))
  (h:∀ b w',HoldG M w0 w' (l++[.blk b cs T])->wpList P ops Q rest (a.put o.dst (.slice (some ⟨b,0,none⟩) n n)) w'):wpList P ops Q (o::rest) a w :=
 zAo hg fun _ hK=>by
  unfold Oper.wp execOp;simp only[ho,Sem.run_bind,hr,Result.andThen_ok];exact hK _ _ (h _ _ (H.alloc cs T))
theorem zA8 (hg:o.guard=none) (s x:Operand) (T:TypeId) (ho:o.op=.call {callee:=.builtin .append,args:=#[s,x],argTypes:=#[T,T]}) (H:HoldG M w0 w l) {i j b:Nat} {v:Value} {e:TypeId} {sz n m c:Nat} {xs:List Value} {cs:Array Value} {U:TypeId}
  (hs:a.eval s=v) (hx:a.eval x=.slice (some ⟨b,0,none⟩) m c) (hi:At l i (.row v e sz n xs)) (hj:At l j (.blk b cs U)) {it:TypeInfo} {z:Value} {bytes:Nat}
  (h1:P.underlying T=some (.slice e)) (h2:P.info? e=some it) (h3:it.zero=some z) (h4:it.size=sz) (h5:it.bytes=bytes) (h6:z.cells.size=sz) (h7:0<sz) (hcs:cs.size=m * sz) (h1c:cs.toList.all (·.oneCell')=true)
  (b1:n+m<=maxLen) (b2:(n+m) * bytes<=140737488355328)
  (h:∀ v' w',HoldG M w0 w' (l.set i (.row v' e sz (n+m) (xs++cs.toList)))->wpList P ops Q rest (a.put o.dst v') w'):wpList P ops Q (o::rest) a w:=by
 refine wpList_append_own_at w hg s x T ho w0.heap.size e it z sz bytes h1 h2 h3 h4 h5 h6 h7 v n xs hs (H.all i _ hi.get) ⟨b,0,none⟩ m c cs.toList hx (by simpa using hcs) (fun q u hq=>?_) (fun u hu=>List.all_eq_true.1 h1c u hu) b1 b2 H.keep.size (fun v' w' r1 r2 _ r4=>h v' w' ?_)
 ·rw[Addr.add_mid,H.cell hj]
  simpa using hq
 ·refine H.upd hi.get (by exact r2) r1 (fun b' hb'=>?_)
  rcases r4 with r4|r4
  ·left;show v.ownBlock=some b';rw[← r4];exact hb'
  ·right;have:v'.ownBlock=some b':=hb';rw[r4]at this
   cases this;exact Nat.le_refl _
theorem HoldG.addNil {w0 W:World} {l:List Res} (H:HoldG M w0 W l) (e:TypeId) (sz:Nat):HoldG M w0 W (l++[.row (.slice none 0 0) e sz 0 []]) :=
 H.add ⟨rfl,rfl,rfl,Nat.le_refl _,fun _ _ _=>rfl⟩ (World.ownsRow_nil _ _ _ _) (fun b e=>by cases e)
theorem zAK (hg:Region.wanted o (yielded ops a.tmps)=true) {v:Value} (hr:(execOp a.eval o).run P w=.ok (.value v) w) (h:wpList P ops Q rest (a.put o.dst v) w):wpList P ops Q (o::rest) a w :=
 zAo hg fun _ hK=>by
  unfold Oper.wp;rw[hr];exact hK _ _ h
theorem zKc (hg:Region.wanted o (yielded ops a.tmps)=true) (T:TypeId) (x y:Operand) (ho:o.op=.store T x y) {b:Nat} (hx:a.eval x=.pointer (some ⟨b,0,none⟩)) {s:Nat->Nat} (hy:a.eval y=setV s) (H:HoldG M w0 w l) {i:Nat} {cs:Array Value} {U:TypeId} (hi:At l i (.blk b cs U))
  (hT:zCe P T 4=true) (hn:cs.size=4) (h:∀ w',HoldG M w0 w' (l.set i (.blk b (setC s) U))->wpList P ops Q rest (a.put o.dst undef) w'):wpList P ops Q (o::rest) a w :=
 zDx hg T x y ho hx (vs:=setC s) hy H hi hT rfl hn rfl h
theorem zLW (hg:Region.wanted o (yielded ops a.tmps)=true) (T:TypeId) (x:Operand) (ho:o.op=.load T x) {b:Nat} (hx:a.eval x=.pointer (some ⟨b,0,none⟩)) (H:HoldG M w0 w l) {i:Nat} {s:Nat->Nat} {U:TypeId} (hi:At l i (.blk b (setC s) U))
  (hT:rowB P T 4=true) (h:wpList P ops Q rest (a.put o.dst (setV s)) w):wpList P ops Q (o::rest) a w :=
 zFk hg T x ho hx H hi hT rfl h
theorem zKE (hg:Region.wanted o (yielded ops a.tmps)=true) (T:TypeId) (x:Operand) (ho:o.op=.box T x) {s:Nat->Nat} (hx:a.eval x=setV s) (H:HoldG M w0 w l)
  (h:∀ b w',HoldG M w0 w' (l++[.blk b (setC s) T])->wpList P ops Q rest (a.put o.dst (.pointer (some ⟨b,0,none⟩))) w'):wpList P ops Q (o::rest) a w :=
 zIy hg T x ho hx H h
abbrev Str:=List UInt8
def byt (L:Str) (k:Nat):Nat:=(L.getD k 0).toNat
theorem zJr (L:Str) (k:Nat):byt L k<256:=UInt8.toNat_lt _
theorem nc0 (i:Nat):(i:Int)=((i:Nat):Int):=rfl
theorem nca (i n:Nat):(i:Int)+(n:Int)=((i+n:Nat):Int):=by omega
theorem zHd {o:Oper} {a:Act} {w:World} {T:TypeId} {x ix:Operand} (ho:o.op=.index T x ix) (hT:P.underlying T=some .string) {L:Str} {z:Int} {k:Nat} (hx:a.eval x=.string ⟨L.toArray⟩) (hix:a.eval ix=.int .i64 z) (hz:z=(k:Int))
  (h1:k<L.length):(execOp a.eval o).run P w=.ok (.value (.int .u8 (byt L k))) w:=by
 subst hz;have hs:(⟨L.toArray⟩:ByteArray).size=L.length:=by simp[ByteArray.size]
 simp only[execOp,ho,hx,hix,Sem.run_bind,run_index_string w T _ .i64 _ hT];rw[dif_pos ⟨by omega,by rw[hs];omega⟩]
 have:((⟨L.toArray⟩:ByteArray)[k]'(by rw[hs];exact h1)).toNat=byt L k:=by
  unfold byt;rw[List.getD_eq_getElem?_getD,List.getElem?_eq_getElem h1];rfl
 simp[Result.andThen,this]
theorem zMA (hg:Region.wanted o (yielded ops a.tmps)=true) (T:TypeId) (x ix:Operand) (ho:o.op=.index T x ix) (hT:P.underlying T=some .string) {L:Str} {z:Int} {k:Nat} (hx:a.eval x=.string ⟨L.toArray⟩) (hix:a.eval ix=.int .i64 z) (hz:z=(k:Int))
  (h1:k<L.length) (h:wpList P ops Q rest (a.put o.dst (.int .u8 (byt L k))) w):wpList P ops Q (o::rest) a w :=
 zAK hg (zHd ho hT hx hix hz h1) h
theorem zOa (L:Str) (i j:Nat):(⟨L.toArray⟩:ByteArray).extract i j=⟨((L.take j).drop i).toArray⟩:=by
 apply ByteArray.ext;apply Array.ext';simp[ByteArray.data_extract,List.extract_eq_drop_take']
theorem zMb (hg:Region.wanted o (yielded ops a.tmps)=true) (T:TypeId) (x lo hi:Operand) (ho:o.op=.slice T x (some lo) (some hi) none) (hT:P.underlying T=some .string) {L:Str} {y z:Int} {i j:Nat} (hx:a.eval x=.string ⟨L.toArray⟩) (hlo:a.eval lo=.int .i64 y) (hy:y=(i:Int)) (hhi:a.eval hi=.int .i64 z) (hz:z=(j:Int))
  (h1:i<=j) (h2:j<=L.length) (h:wpList P ops Q rest (a.put o.dst (.string ⟨((L.take j).drop i).toArray⟩)) w):wpList P ops Q (o::rest) a w:=by
 subst hy hz;refine zAK hg ?_ h;have hs:(⟨L.toArray⟩:ByteArray).size=L.length:=by simp[ByteArray.size]
 simp only[execOp,ho,hx,hlo,hhi,Option.map_some,Option.map_none,Sem.run_bind];rw[run_sliceAt_string _ T _ _ _ _ hT,run_slice_string w T _ .i64 .i64 _ _ hT (by omega) (by omega) (by rw[hs];omega),zOa]
 rfl
theorem zOy (hg:Region.wanted o (yielded ops a.tmps)=true) (T:TypeId) (x y:Operand) (U:TypeId) (ho:o.op=.binOp .eql T x y U) {L M:Str} (hx:a.eval x=.string ⟨L.toArray⟩) (hy:a.eval y=.string ⟨M.toArray⟩)
  (hq:∀ w:World,(eqGuard .eql T x y (.string ⟨L.toArray⟩) (.string ⟨M.toArray⟩)).run P w=.ok () w) (h:wpList P ops Q rest (a.put o.dst (.bool (L == M))) w):wpList P ops Q (o::rest) a w:=by
 refine zAK hg ?_ h;simp only[execOp,ho,hx,hy,Sem.run_bind,hq,Result.andThen,binOp_string_eql];simp[Lib.toList_data]
theorem zLU {fn:Func} {R:Ending->World->Prop} {p:Tmp} {T:TypeId} (hres:fn.results=#[.cell p T]) {b:Nat} (hp:a.tmps.getD p undef=.pointer (some ⟨b,0,none⟩)) (H:HoldG M w0 w l) {i:Nat} {cs:Array Value} {U:TypeId} (hi:At l i (.blk b cs U))
  {n:Nat} (hT:rowB P T n=true) (hn:cs.size=n) (hd:a.defers=[]) (h:R (.returned (.agg cs)) w):bodyPost P fn R .ret a w:=by
 refine bodyPost_ret (v:=.agg cs) ?_ hd h;have:=H.run_row (T:=T) (P:=P) hi hT hn (k:=0) (fun j _=>by rw[Nat.zero_add])
 have hp':a.tmps[p]?.getD undef=.pointer (some ⟨b,0,none⟩):=by simpa using hp
 simp[results,hres,hp',asAddr,this]
theorem zEz {fn:Func} {R:Ending->World->Prop} {p q:Tmp} {T:TypeId} (hres:fn.results=#[.cell p T,.tmp q]) {b:Nat} (hp:a.tmps.getD p undef=.pointer (some ⟨b,0,none⟩)) {v:Value} (hq:a.tmps.getD q undef=v) (H:HoldG M w0 w l) {i:Nat} {cs:Array Value} {U:TypeId} (hi:At l i (.blk b cs U))
  {n:Nat} (hT:rowB P T n=true) (hn:cs.size=n) (hd:a.defers=[]) (h:R (.returned (.tuple #[.agg cs,v])) w):bodyPost P fn R .ret a w:=by
 refine bodyPost_ret (v:=.tuple #[.agg cs,v]) ?_ hd h;have:=H.run_row (T:=T) (P:=P) hi hT hn (k:=0) (fun j _=>by rw[Nat.zero_add])
 have hp':a.tmps[p]?.getD undef=.pointer (some ⟨b,0,none⟩):=by simpa using hp
 have hq':a.tmps[q]?.getD undef=v:=by simpa using hq
 simp[results,hres,hp',hq',asAddr,this]
theorem zPM {fn:Func} {R:Ending->World->Prop} {p q r:Tmp} {T:TypeId} (hres:fn.results=#[.cell p T,.tmp q,.tmp r]) {b:Nat} (hp:a.tmps.getD p undef=.pointer (some ⟨b,0,none⟩)) {v u:Value} (hq:a.tmps.getD q undef=v) (hr:a.tmps.getD r undef=u) (H:HoldG M w0 w l) {i:Nat} {cs:Array Value} {U:TypeId} (hi:At l i (.blk b cs U))
  {n:Nat} (hT:rowB P T n=true) (hn:cs.size=n) (hd:a.defers=[]) (h:R (.returned (.tuple #[.agg cs,v,u])) w):bodyPost P fn R .ret a w:=by
 refine bodyPost_ret (v:=.tuple #[.agg cs,v,u]) ?_ hd h;have:=H.run_row (T:=T) (P:=P) hi hT hn (k:=0) (fun j _=>by rw[Nat.zero_add])
 have hp':a.tmps[p]?.getD undef=.pointer (some ⟨b,0,none⟩):=by simpa using hp
 have hq':a.tmps[q]?.getD undef=v:=by simpa using hq
 have hr':a.tmps[r]?.getD undef=u:=by simpa using hr
 simp[results,hres,hp',hq',hr',asAddr,this]
theorem zP6 {fn:Func} {R:Ending->World->Prop} {p:Tmp} {T:TypeId} (hres:fn.results=#[.cell p T]) {b:Nat} (hp:a.tmps.getD p undef=.pointer (some ⟨b,0,none⟩)) (H:HoldG M w0 w l) {i:Nat} {s:Nat->Nat} {U:TypeId} (hi:At l i (.blk b (setC s) U))
  (hT:rowB P T 4=true) (hd:a.defers=[]) (h:R (.returned (setV s)) w):bodyPost P fn R .ret a w:=zLU hres hp H hi hT rfl hd h
theorem zOn {fn:Func} {R:Ending->World->Prop} {p q:Tmp} {T:TypeId} (hres:fn.results=#[.cell p T,.tmp q]) {b:Nat} (hp:a.tmps.getD p undef=.pointer (some ⟨b,0,none⟩)) {v:Value} (hq:a.tmps.getD q undef=v) (H:HoldG M w0 w l) {i:Nat} {s:Nat->Nat} {U:TypeId} (hi:At l i (.blk b (setC s) U))
  (hT:rowB P T 4=true) (hd:a.defers=[]) (h:R (.returned (.tuple #[setV s,v])) w):bodyPost P fn R .ret a w:=zEz hres hp hq H hi hT rfl hd h
theorem reti {k:IntKind} {x y:Int} (h:x=y):Ending.returned (.int k x)=.returned (.int k y):=by rw[h]
theorem retb {x y:Bool} (h:x=y):Ending.returned (.bool x)=.returned (.bool y):=by rw[h]
end
theorem zNE (W:World):(Instr.build 25 #[]).run Tryz.prog W=.ok (setV zAN) W:=by kernel_rfl
theorem zNn {ops:Array Oper} {rest:List Oper} {o:Oper} {a:Act} {w:World} {Q:Exit->Act->World->Prop} (hg:Region.wanted o (yielded ops a.tmps)=true) (ho:o.op=.build 25 #[])
  (h:wpList Tryz.prog ops Q rest (a.put o.dst (setV zAN)) w):wpList Tryz.prog ops Q (o::rest) a w :=
 zAK hg (by simp only[execOp,ho,List.map_toArray,List.map_nil,Sem.run_bind,zNE];rfl) h
theorem wtd_ {ops:Array Oper} {o:Oper} {a:Act} (h:Region.wanted o (yielded ops a.tmps)=true:=by first|rfl|exact zAQ rfl (zAI rfl (by first|rfl|(simp only[pe];rfl)))):Region.wanted o (yielded ops a.tmps)=true:=h
theorem evd_ {a:Act} {x:Operand} {v:Value} (h:a.eval x=v:=by first|(simp only[pe];done)|(simp only[pe];rfl)):a.eval x=v:=h
theorem atd_ {α:Type} {l:List α} {i:Nat} {r:α} (h:At l i r:=by repeat (first|(with_reducible exact At.zero)|apply At.succ)):At l i r:=h
theorem i_1 {α:Type} {a0 r:α} {l:List α}:At (a0::r::l) 1 r:=.succ (.zero)
theorem i_2 {α:Type} {a0 a1 r:α} {l:List α}:At (a0::a1::r::l) 2 r:=.succ (.succ (.zero))
theorem i_3 {α:Type} {a0 a1 a2 r:α} {l:List α}:At (a0::a1::a2::r::l) 3 r:=.succ (.succ (.succ (.zero)))
theorem i_4 {α:Type} {a0 a1 a2 a3 r:α} {l:List α}:At (a0::a1::a2::a3::r::l) 4 r:=.succ (.succ (.succ (.succ (.zero))))
theorem i_5 {α:Type} {a0 a1 a2 a3 a4 r:α} {l:List α}:At (a0::a1::a2::a3::a4::r::l) 5 r:=.succ (.succ (.succ (.succ (.succ (.zero)))))
theorem i_6 {α:Type} {a0 a1 a2 a3 a4 a5 r:α} {l:List α}:At (a0::a1::a2::a3::a4::a5::r::l) 6 r:=.succ (.succ (.succ (.succ (.succ (.succ (.zero))))))
theorem i_7 {α:Type} {a0 a1 a2 a3 a4 a5 a6 r:α} {l:List α}:At (a0::a1::a2::a3::a4::a5::a6::r::l) 7 r:=.succ (.succ (.succ (.succ (.succ (.succ (.succ (.zero)))))))
theorem i_8 {α:Type} {a0 a1 a2 a3 a4 a5 a6 a7 r:α} {l:List α}:At (a0::a1::a2::a3::a4::a5::a6::a7::r::l) 8 r:=.succ (.succ (.succ (.succ (.succ (.succ (.succ (.succ (.zero))))))))
theorem i_9 {α:Type} {a0 a1 a2 a3 a4 a5 a6 a7 a8 r:α} {l:List α}:At (a0::a1::a2::a3::a4::a5::a6::a7::a8::r::l) 9 r:=.succ (.succ (.succ (.succ (.succ (.succ (.succ (.succ (.succ (.zero)))))))))
theorem i_10 {α:Type} {a0 a1 a2 a3 a4 a5 a6 a7 a8 a9 r:α} {l:List α}:At (a0::a1::a2::a3::a4::a5::a6::a7::a8::a9::r::l) 10 r:=.succ (.succ (.succ (.succ (.succ (.succ (.succ (.succ (.succ (.succ (.zero))))))))))
theorem i_11 {α:Type} {a0 a1 a2 a3 a4 a5 a6 a7 a8 a9 a10 r:α} {l:List α}:At (a0::a1::a2::a3::a4::a5::a6::a7::a8::a9::a10::r::l) 11 r:=.succ (.succ (.succ (.succ (.succ (.succ (.succ (.succ (.succ (.succ (.succ (.zero)))))))))))
section
variable {M:Nat->Prop} {w0 W W':World} {l:List Res}
theorem HoldG.kn (H:HoldG M w0 W l) {i:Nat} {F:Nat->Prop} {S:World->Prop} (hi:At l i (.kn F S)):S W:=(H.all i _ hi.get).2 W (fun _ _=>rfl)
theorem HoldG.knlt (H:HoldG M w0 W l) {i:Nat} {F:Nat->Prop} {S:World->Prop} (hi:At l i (.kn F S)):∀ b,F b->b<W.heap.size:=(H.all i _ hi.get).1
theorem HoldG.know (H:HoldG M w0 W l) (F:Nat->Prop) (S:World->Prop) (hlt:∀ b,F b->b<W.heap.size) (hap:∀ (i:Nat) (r:Res),l[i]?=some r->∀ b,r.place=some b->¬ F b)
  (hS:∀ V:World,(∀ b,F b->V.heap[b]?=W.heap[b]?)->S V):HoldG M w0 W (l++[.kn F S]):=by
 refine⟨H.keep,?_,?_⟩
 ·intro j s hs;rw[List.getElem?_append]at hs;split at hs
  ·exact H.all j s hs
  ·rcases List.getElem?_eq_some_iff.1 hs with ⟨h1,h2⟩
   simp at h1;simp[h1]at h2;subst h2;exact⟨hlt,hS⟩
 ·intro j k s t hjk hs ht;rw[List.getElem?_append]at hs ht;split at hs
  ·split at ht
   ·exact H.apart j k s t hjk hs ht
   ·rcases List.getElem?_eq_some_iff.1 ht with ⟨h1,h2⟩
    simp at h1;simp[h1]at h2;subst h2;exact hap j s hs
  ·rcases List.getElem?_eq_some_iff.1 hs with ⟨h1,h2⟩
   simp at h1;simp[h1]at h2;subst h2;intro b h;cases h
def Still (l:List Res) (G:Nat->Prop):Prop:=∀ b,G b->∃ (i:Nat) (r:Res),l[i]?=some r/\r.place=none/\r.foot b
theorem Still.none:Still l (fun _=>False):=fun _ h=>h.elim
theorem Still.at {i:Nat} {F:Nat->Prop} {S:World->Prop} (hi:At l i (.kn F S)):Still l F:=fun b hb=>⟨i,_,hi.get,rfl,hb⟩
theorem Still.or {F G:Nat->Prop} (h:Still l F) (k:Still l G):Still l (fun b=>F b\/G b):=fun b hb=>hb.elim (h b) (k b)
theorem Still.apart (H:HoldG M w0 W l) {G:Nat->Prop} (h:Still l G):∀ (i:Nat) (r:Res),l[i]?=some r->∀ b,r.place=some b->¬ G b:=by
 intro i r hi b hb hg;obtain⟨j,s,hj,hs,hf⟩:=h b hg
 by_cases e:i=j
 ·subst e;rw[hi]at hj;cases hj
  rw[hs]at hb;cases hb
 ·exact H.apart i j r s e hi hj b hb hf
theorem Still.lt (H:HoldG M w0 W l) {G:Nat->Prop} (h:Still l G):∀ b,G b->b<W.heap.size:=fun b hb=>by
 obtain⟨j,s,hj,hs,hf⟩:=h b hb;exact(H.all j s hj).ltf b hf
theorem HoldG.also (H:HoldG M w0 W l) (F:Nat->Prop) (S:World->Prop) (hF:Still l F) (hS:∀ V:World,(∀ b,F b->V.heap[b]?=W.heap[b]?)->S V):HoldG M w0 W (l++[.kn F S]) :=
 H.know F S (hF.lt H) (hF.apart H) hS
theorem HoldG.learn (H:HoldG M w0 W l) (hb:Below W.heap.size W W') {F G:Nat->Prop} {S:World->Prop} (hG:Still l G) (hF:∀ b,F b->b<W'.heap.size/\(W.heap.size<=b\/G b))
  (hS:∀ V:World,(∀ b,F b->V.heap[b]?=W'.heap[b]?)->S V):HoldG M w0 W' (l++[.kn F S]) :=
 (H.call hb).know F S (fun b h=>(hF b h).1) (fun i r hi b hp hf=>by
  rcases(hF b hf).2 with h|h
  ·have:=((H.all i r hi).lt b hp).2;omega
  ·exact hG.apart H i r hi b hp h) hS
theorem HoldG.learnBut (H:HoldG M w0 W l) {i b0:Nat} {cs cs':Array Value} {T:TypeId} (hi:At l i (.blk b0 cs T)) (hk:KeepBut (·=b0) W.heap.size W W') (hb:W'.heap[b0]?=some (.cells cs' T (0,0)))
  {F G:Nat->Prop} {S:World->Prop} (hG:Still l G) (hF:∀ b,F b->b<W'.heap.size/\(W.heap.size<=b\/G b)) (hS:∀ V:World,(∀ b,F b->V.heap[b]?=W'.heap[b]?)->S V):HoldG M w0 W' (l.set i (.blk b0 cs' T)++[.kn F S]) :=
 (H.callBut hi hk hb).know F S (fun b h=>(hF b h).1) (fun j r hj b hp hf=>by
  have:∃ s,l[j]?=some s/\s.place=some b:=by
   rw[List.getElem?_set]at hj;split at hj
   ·rename_i e;subst e;split at hj
    ·cases hj;exact⟨_,hi.get,hp⟩
    ·cases hj
   ·exact⟨r,hj,hp⟩
  obtain⟨s,hs,hsp⟩:=this;rcases(hF b hf).2 with h|h
  ·have:=((H.all j s hs).lt b hsp).2;omega
  ·exact hG.apart H j s hs b hsp h) hS
theorem HoldG.pick (H:HoldG M w0 W l) (js:List Nat) (l':List Res) (hn:js.Nodup) (h:js.map (fun j=>l[j]?)=l'.map some):HoldG M w0 W l':=by
 have hlen:js.length=l'.length:=by simpa using congrArg List.length h
 have key:∀ (i:Nat) (r:Res),l'[i]?=some r->∃ j:Nat,js[i]?=some j/\l[j]?=some r:=by
  intro i r hi;have h1:(l'.map some)[i]?=some (some r):=by rw[List.getElem?_map,hi];rfl
  rw[← h,List.getElem?_map]at h1;obtain⟨j,hj,e⟩:=Option.map_eq_some_iff.1 h1;exact⟨j,hj,e⟩
 refine⟨H.keep,fun i r hi=>?_,fun i k r s hik hi hk=>?_⟩
 ·obtain⟨j,_,e⟩:=key i r hi;exact H.all j r e
 ·obtain⟨j,hj,e⟩:=key i r hi;obtain⟨m,hm,e'⟩:=key k s hk;refine H.apart j m r s (fun ejm=>hik ?_) e e'
  subst ejm;obtain⟨h1,h1'⟩:=List.getElem?_eq_some_iff.1 hj;obtain⟨h2,h2'⟩:=List.getElem?_eq_some_iff.1 hm;exact(List.getElem_inj hn).1 (h1'.trans h2'.symm)
theorem HoldG.rest (H:HoldG M w0 W l) {i:Nat} {r:Res} (hi:At l i r) (S:World->Prop) (hS:∀ V:World,(∀ b,r.foot b->V.heap[b]?=W.heap[b]?)->S V):HoldG M w0 W (l.set i (.kn r.foot S)):=by
 have hil:i<l.length:=(List.getElem?_eq_some_iff.1 hi.get).1;refine⟨H.keep,fun j s hs=>?_,fun j k s t hjk hs ht=>?_⟩
 ·rw[List.getElem?_set]at hs;split at hs
  ·rename_i e;subst e;cases hs
   exact⟨fun b hb=>(H.all i r hi.get).ltf b hb,hS⟩
  ·exact H.all j s hs
 ·rw[List.getElem?_set]at hs ht;split at hs
  ·rename_i e;subst e;cases hs
   intro b hb;cases hb
  ·split at ht
   ·rename_i _ e;subst e;cases ht
    exact H.apart j i s r hjk hs hi.get
   ·exact H.apart j k s t hjk hs ht
end
def RdN (sz:Nat) (W:World) (F:Nat->Prop) (s:Value) (rows:List (Array Value)):Prop :=
 ∃ p cap,s=.slice p rows.length cap/\rows.length<=cap/\cap<=maxLen/\(p=none->cap=0) /\
  ∀ (j:Nat) (r:Array Value),rows[j]?=some r->∃ b off,p=some ⟨b,off,none⟩/\F b/\r.size=sz/\∀ k,k<sz->W.cell? ⟨b,off+j * sz+k,none⟩=r[k]?
theorem RdN.kept {sz:Nat} {W V:World} {F:Nat->Prop} {s:Value} {rows:List (Array Value)} (h:RdN sz W F s rows) (hk:∀ b,F b->V.heap[b]?=W.heap[b]?):RdN sz V F s rows:=by
 obtain⟨p,cap,e,h1,h2,h0,h3⟩:=h;refine⟨p,cap,e,h1,h2,h0,fun j r hj=>?_⟩
 obtain⟨b,off,e1,e2,e3,e4⟩:=h3 j r hj;refine⟨b,off,e1,e2,e3,fun k hk'=>?_⟩
 rw[← e4 k hk'];simp[World.cell?,hk b e2]
theorem RdN.mono {sz:Nat} {W:World} {F G:Nat->Prop} {s:Value} {rows:List (Array Value)} (h:RdN sz W F s rows) (hFG:∀ b,F b->G b):RdN sz W G s rows:=by
 obtain⟨p,cap,e,h1,h2,h0,h3⟩:=h;exact⟨p,cap,e,h1,h2,h0,fun j r hj=>let ⟨b,off,e1,e2,e3⟩:=h3 j r hj;⟨b,off,e1,hFG b e2,e3⟩⟩
theorem RdN.nil (sz:Nat) (W:World) (F:Nat->Prop) (p:Option Addr):RdN sz W F (.slice p 0 0) []:=⟨p,0,rfl,Nat.le_refl _,by simp,fun _=>rfl,fun j r h=>by simp at h⟩
def zAG (rows:List (Array Value)):List Value:=(rows.map Array.toList).flatten
theorem zBI (rows rows':List (Array Value)):zAG (rows++rows')=zAG rows++zAG rows':=by simp[zAG]
theorem zK4 (r:Array Value):zAG [r]=r.toList:=by simp[zAG]
theorem zBF {sz:Nat}:∀ {rows:List (Array Value)},(∀ r ∈ rows,r.size=sz)->(zAG rows).length=rows.length * sz
 | [],_=>by simp[zAG]
 | r::rows,h=>by
  have ih:=zBF (rows:=rows) (fun r hr=>h r (List.mem_cons_of_mem _ hr))
  have h1:=h r (List.mem_cons_self ..);simp only[zAG,List.map_cons,List.flatten_cons,List.length_append,List.length_cons]at *;rw[ih,Array.length_toList,h1,Nat.succ_mul];omega
theorem zCE {sz:Nat}:∀ {rows:List (Array Value)},(∀ r ∈ rows,r.size=sz)->∀ {j:Nat} {r:Array Value} {k:Nat},rows[j]?=some r->k<sz->(zAG rows)[j * sz+k]?=r[k]?
 | [],_,_,_,_,h,_=>by simp at h
 | q::rows,hs,0,r,k,h,hk=>by
  simp at h;subst h;have h1:=hs q (List.mem_cons_self ..);simp only[zAG,List.map_cons,List.flatten_cons];rw[Nat.zero_mul,Nat.zero_add,List.getElem?_append_left (by simp;omega)]
  simp
 | q::rows,hs,j+1,r,k,h,hk=>by
  have h1:=hs q (List.mem_cons_self ..);have ih:=zCE (rows:=rows) (fun r hr=>hs r (List.mem_cons_of_mem _ hr)) (j:=j) (r:=r) (k:=k) (by simpa using h) hk
  simp only[zAG,List.map_cons,List.flatten_cons]at *;rw[Nat.succ_mul,List.getElem?_append_right (by simp;omega),← ih]
  simp only[Array.length_toList,h1]
  congr 1;omega
theorem RdN.of_own {sz:Nat} {w V:World} {base:Nat} {e:TypeId} {v:Value} {n:Nat} {rows:List (Array Value)} (h:w.ownsRow base e sz v n (zAG rows)) (hs:∀ r ∈ rows,r.size=sz) (hl:rows.length=n)
  (hk:∀ b,v.ownBlock=some b->V.heap[b]?=w.heap[b]?):RdN sz V (fun b=>v.ownBlock=some b) v rows:=by
 subst hl;obtain⟨_,⟨rfl,hn⟩|⟨g,cap,cur,rfl,hb,hg,hn,hc,hsz,ht⟩⟩:=h
 ·rw[List.length_eq_zero_iff.1 hn];exact RdN.nil ..
 ·refine⟨_,cap,rfl,hn,hc,(fun h=>by cases h),fun j r hj=>⟨g,0,rfl,rfl,hs r (List.mem_of_getElem? hj),fun k hk'=>?_⟩⟩
  have hg':V.heap[g]?=some (.cells cur e (0,0)):=(hk g rfl).trans hg;have hlt:=(List.getElem?_eq_some_iff.1 hj).1;rw[cell_of_row V g (0+j * sz+k) cur e (0,0) hg',Nat.zero_add,← zCE hs hj hk',← ht,List.getElem?_take,if_pos,Array.getElem?_toList];have:(j+1) * sz<=rows.length * sz:=Nat.mul_le_mul_right _ hlt;rw[Nat.succ_mul]at this;omega
theorem zHR {w:World} {base:Nat} {e:TypeId} {sz:Nat} {v:Value} {n:Nat} {xs:List Value} (h:w.ownsRow base e sz v n xs):∃ q cap,v=.slice q n cap/\(0<n->∃ g,q=some ⟨g,0,none⟩):=by
 obtain⟨_,⟨hv,hn⟩|⟨g,cap,cur,hv,_⟩⟩:=h
 ·exact⟨none,0,by rw[hv,hn],fun h=>by omega⟩
 ·exact⟨_,cap,hv,fun _=>⟨g,rfl⟩⟩
section
variable {P:Program} {ops:Array Oper} {rest:List Oper} {o:Oper} {a:Act} {w w0:World} {Q:Exit->Act->World->Prop} {l:List Res} {M:Nat->Prop}
theorem zJS {T:TypeId} {b k n:Nat} {vs:Array Value} (hT:rowB P T n=true) (hn:vs.size=n) (hv:∀ j,j<n->w.cell? ⟨b,k+j,none⟩=vs[j]?):(loadVar T ⟨b,k,none⟩).run P w=.ok (.agg vs) w:=by
 obtain⟨d,hu,hd,hs⟩:=zGy hT
 have:=run_loadVar_mid (P:=P) w b k T vs.toList d (fun j v hj=>by
  have hlt:j<n:=by have:=(List.getElem?_eq_some_iff.1 hj).1;simp at this;omega
  rw[hv j hlt];simpa using hj) hu hd (by rw[hs];simp[hn])
 simpa using this
theorem zAb {T:TypeId} {x:Operand} (ho:o.op=.load T x) {b k n:Nat} (hx:a.eval x=.pointer (some ⟨b,k,none⟩)) {vs:Array Value} (hT:rowB P T n=true) (hn:vs.size=n) (hv:∀ j,j<n->w.cell? ⟨b,k+j,none⟩=vs[j]?) :
  (execOp a.eval o).run P w=.ok (.value (.agg vs)) w:=by
 unfold execOp;simp only[ho,hx,Instr.loadAt,Instr.sureAddr,Sem.run_bind,Sem.run_pure,Result.andThen_ok,zJS hT hn hv]
theorem zAO (hg:Region.wanted o (yielded ops a.tmps)=true) (T:TypeId) (x:Operand) (ho:o.op=.load T x) {b k n:Nat} (hx:a.eval x=.pointer (some ⟨b,k,none⟩)) {vs:Array Value} (hT:rowB P T n=true) (hn:vs.size=n) (hv:∀ j,j<n->w.cell? ⟨b,k+j,none⟩=vs[j]?)
  (h:wpList P ops Q rest (a.put o.dst (.agg vs)) w):wpList P ops Q (o::rest) a w :=
 zAK hg (zAb ho hx hT hn hv) h
theorem zAD {T:TypeId} {x:Operand} (ho:o.op=.load T x) {ad:Addr} (hx:a.eval x=.pointer (some ad)) (hT:oneB P T=true) {v:Value} (hv:w.cell? ad=some v) :
  (execOp a.eval o).run P w=.ok (.value v) w:=by
 unfold execOp;simp only[ho,hx,Instr.loadAt,Instr.sureAddr,Sem.run_bind,Sem.run_pure,Result.andThen_ok,zBc hT hv]
theorem zAM (hg:Region.wanted o (yielded ops a.tmps)=true) (T:TypeId) (x:Operand) (ho:o.op=.load T x) {ad:Addr} (hx:a.eval x=.pointer (some ad)) (hT:oneB P T=true) {v:Value} (hv:w.cell? ad=some v)
  (h:wpList P ops Q rest (a.put o.dst v) w):wpList P ops Q (o::rest) a w :=
 zAK hg (zAD ho hx hT hv) h
theorem HoldG.rowCell (H:HoldG M w0 w l) {i g n cap sz:Nat} {e:TypeId} {rows:List (Array Value)} (hi:At l i (.row (.slice (some ⟨g,0,none⟩) n cap) e sz n (zAG rows))) (hs:∀ r ∈ rows,r.size=sz) (hl:rows.length=n) {j:Nat} {r:Array Value} (hj:rows[j]?=some r) {q:Nat} (hq:j * sz=q) :
  ∀ k,k<sz->w.cell? ⟨g,q+k,none⟩=r[k]?:=by
 subst hq;intro k hk;have h:=RdN.of_own (V:=w) (H.all i _ hi.get) hs hl (fun _ _=>rfl)
 obtain⟨p,c,e1,_,_,_,h3⟩:=h;obtain⟨b,off,e2,_,_,h4⟩:=h3 j r hj
 cases e1;cases e2
 have:=h4 k hk
 rwa [Nat.zero_add]at this
theorem zLB:∀ (vs:List Value) (cs:Array Value) (k:Nat),(zBS cs k vs).size=cs.size
 | [],_,_=>rfl
 | v::r,cs,k=>by
  show (zBS (cs.setIfInBounds k v) (k+1) r).size=_
  rw[zLB r];simp
theorem zLe {sz:Nat} {rows:List (Array Value)} (hs:∀ r ∈ rows,r.size=sz) {vs:Array Value} (hv:vs.size=sz) {i:Nat} (hi:i<rows.length):(zBS (zAG rows).toArray (i * sz) vs.toList).toList=zAG (rows.set i vs):=by
 have hs':∀ r ∈ rows.set i vs,r.size=sz:=fun r hr=>(List.mem_or_eq_of_mem_set hr).elim (hs r) (fun e=>e ▸ hv)
 have hz:0<sz\/sz=0:=by omega
 apply List.ext_getElem?;intro j;rw[Array.getElem?_toList,zDH];simp only[Array.length_toList,List.size_toArray,List.getElem?_toArray,hv,zBF hs];rcases hz with hz|hz
 ·by_cases hj:j<rows.length * sz
  ·have hd:j=j / sz * sz+j % sz:=by rw[Nat.mul_comm];exact(Nat.div_add_mod j sz).symm
   have hm:j % sz<sz:=Nat.mod_lt _ hz;have hq:j / sz<rows.length:=Nat.div_lt_of_lt_mul (by rw[Nat.mul_comm];exact hj)
   by_cases e:j / sz=i
   ·rw[if_pos ⟨by rw[← e];omega,by rw[← e];omega,hj⟩]
    have h2:=zCE hs' (j:=i) (r:=vs) (k:=j % sz) (by rw[List.getElem?_set];simp[hi]) hm
    rw[show i * sz+j % sz=j from by rw[← e];omega]at h2
    rw[h2,Array.getElem?_toList,show j - i * sz=j % sz from by rw[← e];omega]
   ·rw[if_neg (fun h=>e (by
     have h1:=h.1;have h2:=h.2.1;have a1:i<=j / sz:=(Nat.le_div_iff_mul_le hz).2 h1;have a2:j / sz<i+1:=Nat.div_lt_of_lt_mul (by rw[Nat.mul_comm,Nat.succ_mul];exact h2)
     omega))]
    have hr:rows[j / sz]?=some rows[j / sz]:=List.getElem?_eq_getElem hq;have h1:=zCE hs hr hm;have h2:=zCE hs' (j:=j / sz) (r:=rows[j / sz]) (k:=j % sz) (by rw[List.getElem?_set,if_neg (fun e'=>e e'.symm)];exact hr) hm
    rw[← hd]at h1 h2;rw[h1,h2]
  ·rw[if_neg (fun h=>hj h.2.2),List.getElem?_eq_none (by rw[zBF hs];omega),List.getElem?_eq_none (by rw[zBF hs',List.length_set];omega)]
 ·subst hz;have e1:zAG rows=[]:=List.length_eq_zero_iff.1 (by rw[zBF hs,Nat.mul_zero])
  have e2:zAG (rows.set i vs)=[]:=List.length_eq_zero_iff.1 (by rw[zBF hs',Nat.mul_zero])
  rw[e1,e2];simp
theorem zBH (hg:Region.wanted o (yielded ops a.tmps)=true) (T:TypeId) (x y:Operand) (ho:o.op=.store T x y) {g i sz n cap q:Nat} (hx:a.eval x=.pointer (some ⟨g,q,none⟩)) (hq:i * sz=q) {vs:Array Value} (hy:a.eval y=.agg vs) (H:HoldG M w0 w l) {j:Nat} {e:TypeId} {rows:List (Array Value)}
  (hi:At l j (.row (.slice (some ⟨g,0,none⟩) n cap) e sz n (zAG rows))) (hs:∀ r ∈ rows,r.size=sz) (hl:rows.length=n)
  (hT:zCe P T sz=true) (hv:vs.size=sz) (h1:vs.toList.all (·.oneCell')=true) (hin:i<n) (h:∀ w',HoldG M w0 w' (l.set j (.row (.slice (some ⟨g,0,none⟩) n cap) e sz n (zAG (rows.set i vs))))->wpList P ops Q rest (a.put o.dst undef) w'):wpList P ops Q (o::rest) a w :=
 zAo hg fun _ hK=>by
  subst hq hl;have hs':∀ r ∈ rows.set i vs,r.size=sz:=fun r hr=>(List.mem_or_eq_of_mem_set hr).elim (hs r) (fun e=>e ▸ hv)
  obtain⟨hlen,⟨hv',_⟩|⟨g',cap',cur,hv',hb,hg',hn,hc,hsz,ht⟩⟩:=H.all j _ hi.get
  ·cases hv'
  ·cases hv'
   have hm1:(i+1) * sz<=rows.length * sz:=Nat.mul_le_mul_right _ hin;have hm2:rows.length * sz<=cap * sz:=Nat.mul_le_mul_right _ hn;have hm3:(i+1) * sz=i * sz+sz:=Nat.succ_mul i sz;have hth:w.there g (i * sz) vs.size:=fun q hq=>by
    rw[cell_of_row w g (i * sz+q) cur e (0,0) hg'];simp[World.frozen?,hg'];omega
   unfold Oper.wp execOp;simp only[ho,hx,hy,Instr.storeAt,Instr.sureAddr,Sem.run_bind,Sem.run_pure,Result.andThen_ok,run_storeVar_mid (P:=P) w g (i * sz) T vs hth (by subst hv;simpa [zCe] using hT) (by rw[Array.all_toList]at h1;exact h1)]
   have hh:=zCm vs.toList (i * sz) w g cur e _ hg';refine hK _ _ (h _ (H.upd hi.get (zCV vs.toList (i * sz) w g) ⟨?_,.inr ⟨g,cap,_,rfl,hb,hh,hn,hc,?_,?_⟩⟩ (fun _ e=>.inl e)))
   ·rw[zBF hs',List.length_set]
   ·rw[zLB,hsz]
   ·rw[← zLe hs hv hin];have hfl:(zAG rows).length=rows.length * sz:=zBF hs;apply List.ext_getElem?;intro q;rw[List.getElem?_take,Array.getElem?_toList,Array.getElem?_toList,zDH,zDH];simp only[Array.length_toList,List.size_toArray,List.getElem?_toArray,hfl,hsz];have hcur:q<rows.length * sz->cur[q]?=(zAG rows)[q]?:=fun hq=>by
     rw[← ht,List.getElem?_take,if_pos hq,Array.getElem?_toList]
    by_cases hq:q<rows.length * sz
    ·rw[if_pos hq]
     by_cases hc1:i * sz<=q/\q<i * sz+vs.size/\q<cap * sz
     ·rw[if_pos hc1,if_pos ⟨hc1.1,hc1.2.1,hq⟩]
     ·rw[if_neg hc1,if_neg (fun h'=>hc1 ⟨h'.1,h'.2.1,by omega⟩),hcur hq]
    ·rw[if_neg hq,if_neg (fun h'=>hq h'.2.2),List.getElem?_eq_none (by omega)]
end
theorem zJH {w:World} {base:Nat} {e:TypeId} {sz g n cap m:Nat} {xs:List Value} (h:w.ownsRow base e sz (.slice (some ⟨g,0,none⟩) n cap) n xs) (hm:m<=n):w.ownsRow base e sz (.slice (some ⟨g,0,none⟩) m cap) m (xs.take (m * sz)):=by
 have hmn:m * sz<=n * sz:=Nat.mul_le_mul_right _ hm;obtain⟨hl,⟨hv,_⟩|⟨g',cap',cur,hv,hb,hg,hn,hc,hsz,ht⟩⟩:=h
 ·cases hv
 ·cases hv
  refine⟨by rw[List.length_take];omega,.inr ⟨g,cap,cur,rfl,hb,hg,by omega,hc,hsz,?_⟩⟩
  rw[← ht,List.take_take,Nat.min_eq_left hmn]
section
variable {M:Nat->Prop} {w0 w:World} {l:List Res}
theorem HoldG.cutRow (H:HoldG M w0 w l) {i g n cap m sz:Nat} {e:TypeId} {xs:List Value} (hi:At l i (.row (.slice (some ⟨g,0,none⟩) n cap) e sz n xs)) (hm:m<=n):HoldG M w0 w (l.set i (.row (.slice (some ⟨g,0,none⟩) m cap) e sz m (xs.take (m * sz)))) :=
 H.upd hi.get ⟨rfl,rfl,rfl,Nat.le_refl _,fun _ _ _=>rfl⟩ (zJH (H.all i _ hi.get) hm) (fun _ e=>.inl e)
theorem HoldG.row1 (H:HoldG M w0 w l) {i g n cap:Nat} {e:TypeId} {xs:List Value} (hi:At l i (.row (.slice (some ⟨g,0,none⟩) n cap) e 1 n xs)) {j:Nat} {v:Value} (hj:xs[j]?=some v):w.cell? ⟨g,j,none⟩=some v:=by
 rcases Rd.of_own (H.all i _ hi.get) with ⟨_,h⟩|⟨b,off,cap',e1,_,_,_,h4⟩
 ·subst h;simp at hj
 ·obtain⟨hlt,rfl⟩:=List.getElem?_eq_some_iff.1 hj;injection e1 with e2 e3 e4
  injection e2 with e2
  injection e2 with e2 e5
  subst e2 e5
  simpa using h4 j hlt
theorem HoldG.rowShape (H:HoldG M w0 w l) {i n sz:Nat} {e:TypeId} {v:Value} {xs:List Value} (hi:At l i (.row v e sz n xs)):∃ q cap,v=.slice q n cap/\n<=cap/\cap<=maxLen/\(0<n->∃ g,q=some ⟨g,0,none⟩):=by
 obtain⟨_,⟨hv,hn⟩|⟨g,cap,cur,hv,_,_,hn,hc,_⟩⟩:=H.all i _ hi.get
 ·exact⟨none,0,by rw[hv,hn],by omega,by simp,fun h=>by omega⟩
 ·exact⟨_,cap,hv,hn,hc,fun _=>⟨g,rfl⟩⟩
end
section
variable {M:Nat->Prop} {w0 W:World} {l:List Res}
theorem HoldG.restG (H:HoldG M w0 W l) {i:Nat} {r:Res} (hi:At l i r) (G:Nat->Prop) (S:World->Prop) (hG:∀ b,G b->r.foot b\/∃ (j:Nat) (s:Res),l[j]?=some s/\s.place=none/\s.foot b) (hS:∀ V:World,(∀ b,G b->V.heap[b]?=W.heap[b]?)->S V):HoldG M w0 W (l.set i (.kn G S)):=by
 have hil:i<l.length:=(List.getElem?_eq_some_iff.1 hi.get).1;refine⟨H.keep,fun j s hs=>?_,fun j k s t hjk hs ht=>?_⟩
 ·rw[List.getElem?_set]at hs;split at hs
  ·rename_i e;subst e;cases hs
   refine⟨fun b hb=>?_,hS⟩
   rcases hG b hb with h|⟨j,s,hj,_,h⟩
   ·exact(H.all _ r hi.get).ltf b h
   ·exact(H.all j s hj).ltf b h
  ·exact H.all j s hs
 ·rw[List.getElem?_set]at hs ht;split at hs
  ·rename_i e;subst e;cases hs
   intro b hb;cases hb
  ·rename_i hne;split at ht
   ·rename_i e;subst e;cases ht
    intro b hb hf;rcases hG b hf with h|⟨z,u,hz,hu,h⟩
    ·exact H.apart j i s r hjk hs hi.get b hb h
    ·by_cases e:j=z
     ·subst e;rw[hs]at hz;cases hz;rw[hu]at hb;cases hb
     ·exact H.apart j z s u e hs hz b hb h
   ·exact H.apart j k s t hjk hs ht
end
def zG3:Nat->Nat:=zBn 48 10
def zJ3:Nat->Nat:=zBn 97 26
def zKD:Nat->Nat:=zBn 65 26
def zIV:Nat->Nat:=zFO [zG3,zJ3,zKD]
def zLf:Nat->Nat:=zBn 33 94
def zNK:Nat->Nat:=zFO [zIV,ofS [95]]
def zOG:Nat->Nat:=ofS [9,10,12,13,32]
def namesL:List (Str × (Nat->Nat)) :=
 [([97,108,110,117,109],zIV),([97,108,112,104,97],zFO [zJ3,zKD]),([97,115,99,105,105],zBn 0 128),([98,108,97,110,107],ofS [9,32]),
  ([99,110,116,114,108],zFO [zBn 0 32,ofS [127]]),([100,105,103,105,116],zG3),([103,114,97,112,104],zLf),([108,111,119,101,114],zJ3),
  ([112,114,105,110,116],zBn 32 95),([112,117,110,99,116],zPW [zLf,notS zIV]),([115,112,97,99,101],zFO [zBn 9 5,ofS [32]]),([117,112,112,101,114],zKD),
  ([119,111,114,100],zNK),([120,100,105,103,105,116],zFO [zG3,zBn 97 6,zBn 65 6])]
def zMJ (n:Str):Option (Nat->Nat):=(namesL.find? (fun p=>n == p.1)).map (·.2)
def sortsL:List (Nat × (Nat->Nat)):=[(100,zG3),(119,zNK),(115,zOG),(68,notS zG3),(87,notS zNK),(83,notS zOG)]
def zNZ (c:Nat):Option (Nat->Nat):=(sortsL.find? (fun p=>c == p.1)).map (·.2)
def hexP (c:Nat):Option Nat:=if 48<=c/\c<=57 then some (c - 48) else if 97<=c/\c<=102 then some (c - 87) else if 65<=c/\c<=70 then some (c - 55) else none
def zOC (c:Nat):Option Nat:=if c=110 then some 10 else if c=116 then some 9 else if c=114 then some 13 else if c=102 then some 12 else if c=118 then some 11 else if c=97 then some 7 else none
def escP (L:Str) (i:Nat):Option (Nat × Nat) :=
 if i+1<L.length then
  match zOC (byt L (i+1)) with
  | some b=>some (b,i+2)
  | none =>
   if byt L (i+1)=120 then
    if i+2<L.length then
     match hexP (byt L (i+2)) with
     | none=>none
     | some h =>
      if i+3<L.length then
       match hexP (byt L (i+3)) with
       | none=>none
       | some g=>some (16 * h+g,i+4)
      else none
    else none
   else if 128<=byt L (i+1) then none
   else if hasB zIV (byt L (i+1)) then none
   else some (byt L (i+1),i+2)
 else none
def zJj (L:Str) (i:Nat):Option (Nat × Nat) :=
 if i<L.length then (if byt L i=92 then escP L i else some (byt L i,i+1)) else none
def atP (L:Str) (i:Nat) (t:Str):Bool:=t.isPrefixOf (L.drop i)
def zMd (t:Str):Str->Option Nat
 | []=>if t.isPrefixOf [] then some 0 else none
 | c::l=>if t.isPrefixOf (c::l) then some 0 else (zMd t l).map (·+1)
def zPO (L:Str) (i:Nat):Option (Option ((Nat->Nat) × Nat)) :=
 if atP L i [91,58] then
  match zMd [58,93] (L.drop (i+2)) with
  | none=>none
  | some k =>
   let name:=(L.drop (i+2)).take k
   let neg:=atP name 0 [94]
   match zMJ (if neg then name.drop 1 else name) with
   | none=>some none
   | some s=>some (some (if neg then notS s else s,i+2+k+2))
 else none
def zHf (L:Str) (i:Nat):Option ((Nat->Nat) × Nat) :=
 match zJj L i with
 | none=>none
 | some (lo,k) =>
  if k+1<L.length/\byt L k=45/\byt L (k+1)≠93 then
   match zJj L (k+1) with
   | none=>none
   | some (hi,e)=>if lo<=hi then some (zBn lo (hi+1 - lo),e) else none
  else some (ofS [(lo:Int)],k)
def zOY (L:Str) (i:Nat):Option ((Nat->Nat) × Nat) :=
 match zPO L i with
 | some r=>r
 | none =>
  match (if byt L i=92/\i+1<L.length then zNZ (byt L (i+1)) else none) with
  | some s=>some (s,i+2)
  | none=>zHf L i
def zEZ (L:Str):Nat->Nat->Bool->(Nat->Nat)->Option ((Nat->Nat) × Nat)
 | 0,_,_,_=>none
 | f+1,k,first,S =>
  if first=false/\atP L k [93]=true then some (S,k+1)
  else match zOY L k with
   | none=>none
   | some (t,e)=>zEZ L f e false (zFO [S,t])
structure WordD where
 kind:Nat
 place:Nat
 set:Nat->Nat:=zAN
 neg:Bool:=false
 spot:Nat:=0
 lo:Int:=0
 hi:Int:=0
 lazy:Bool:=false
 on:Bool × Bool × Bool:=(false,false,false)
 off:Bool × Bool × Bool:=(false,false,false)
def zB1 (w:WordD):Array Value:=#[.int .i64 w.kind,.int .i64 w.place,.int .u64 (w.set 0),.int .u64 (w.set 1),.int .u64 (w.set 2),.int .u64 (w.set 3),.bool w.neg,.int .i64 w.spot,.int .i64 w.lo,.int .i64 w.hi,.bool w.lazy,
 .bool w.on.1,.bool w.on.2.1,.bool w.on.2.2,.bool w.off.1,.bool w.off.2.1,.bool w.off.2.2]
abbrev zC3 (w:WordD):Value:=.agg (zB1 w)
theorem wg0 (w:WordD):(zB1 w)[0]?=some (.int .i64 w.kind):=rfl
theorem wg6 (w:WordD):(zB1 w)[6]?=some (.bool w.neg):=rfl
theorem wg7 (w:WordD):(zB1 w)[7]?=some (.int .i64 w.spot):=rfl
theorem wg8 (w:WordD):(zB1 w)[8]?=some (.int .i64 w.lo):=rfl
theorem wg9 (w:WordD):(zB1 w)[9]?=some (.int .i64 w.hi):=rfl
theorem wg10 (w:WordD):(zB1 w)[10]?=some (.bool w.lazy):=rfl
theorem wg11 (w:WordD):(zB1 w)[11]?=some (.bool w.on.1):=rfl
theorem wg12 (w:WordD):(zB1 w)[12]?=some (.bool w.on.2.1):=rfl
theorem wg13 (w:WordD):(zB1 w)[13]?=some (.bool w.on.2.2):=rfl
theorem wg14 (w:WordD):(zB1 w)[14]?=some (.bool w.off.1):=rfl
theorem wg15 (w:WordD):(zB1 w)[15]?=some (.bool w.off.2.1):=rfl
theorem wg16 (w:WordD):(zB1 w)[16]?=some (.bool w.off.2.2):=rfl
def zIs (L:Str) (i:Nat):Option (WordD × Nat) :=
 let neg:=atP L (i+1) [94]
 (zEZ L (L.length+1) (if neg then i+2 else i+1) true zAN).map (fun (S,e)=>({kind:=1,place:=i,set:=S,neg:=neg},e))
def zC6 (L:Str):Nat->Nat->Bool->Bool->WordD->Option (WordD × Nat)
 | 0,_,_,_,_=>none
 | f+1,k,off,opn,w =>
  if k<L.length then
   let c:=byt L k
   if c=105 then zC6 L f (k+1) off true (if off then {w with off:=(true,w.off.2.1,w.off.2.2)} else {w with on:=(true,w.on.2.1,w.on.2.2)})
   else if c=109 then zC6 L f (k+1) off true (if off then {w with off:=(w.off.1,true,w.off.2.2)} else {w with on:=(w.on.1,true,w.on.2.2)})
   else if c=115 then zC6 L f (k+1) off true (if off then {w with off:=(w.off.1,w.off.2.1,true)} else {w with on:=(w.on.1,w.on.2.1,true)})
   else if c=45 then (if off then none else zC6 L f (k+1) true false w)
   else if c=58 then (if opn then some ({w with kind:=7},k+1) else none)
   else if c=41 then (if opn then some ({w with kind:=8},k+1) else none)
   else none
  else none
def zM0 (L:Str) (i:Nat):Option (WordD × Nat):=zC6 L (L.length+1) (i+2) false true {kind:=0,place:=i}
def zJD (c:UInt8):Bool:=decide (48<=c.toNat)&&decide (c.toNat<=57)
def numF (l:Str):Nat:=l.foldl (fun n c=>min (10 * n+(c.toNat - 48)) 101) 0
def zHX (L:Str) (i:Nat):Option (Nat × Nat) :=
 let ds:=(L.drop i).takeWhile zJD
 if ds=[]\/1<ds.length/\byt L i=48 then none else some (numF ds,i+ds.length)
def zJT (L:Str) (i:Nat):Option (Nat × Int × Nat) :=
 match zHX L (i+1) with
 | none=>none
 | some (n,k) =>
  if atP L k [44,125] then some (n,-1,k+2)
  else if atP L k [44] then
   match zHX L (k+1) with
   | none=>none
   | some (m,e)=>if atP L e [125] then some (n,m,e+1) else none
  else if atP L k [125] then some (n,n,k+1) else none
def zA3 (L:Str) (i:Nat) (lo hi:Int) (e:Nat):Except Nat (WordD × Nat) :=
 if 100<lo\/100<hi\/(0<=hi/\hi<lo) then .error 6
 else if atP L e [63] then .ok ({kind:=11,place:=i,lo:=lo,hi:=hi,lazy:=true},e+1)
 else .ok ({kind:=11,place:=i,lo:=lo,hi:=hi},e)
def zQB (c:Nat):Option Nat:=if c=98 then some 12 else if c=66 then some 13 else if c=65 then some 8 else if c=122 then some 9 else none
def zIh (L:Str) (i:Nat):Option (WordD × Nat) :=
 match (if i+1<L.length then zNZ (byt L (i+1)) else none) with
 | some s=>some ({kind:=1,place:=i,set:=s},i+2)
 | none =>
  match (if i+1<L.length then zQB (byt L (i+1)) else none) with
  | some k=>some ({kind:=5,place:=i,spot:=k},i+2)
  | none=>(escP L i).map (fun (b,e)=>({kind:=1,place:=i,set:=ofS [(b:Int)]},e))
def zIW {α:Type}:Option α->Except Nat α
 | some a=>.ok a
 | none=>.error 4
def zI8 (c:Nat):Option Nat:=if c=46 then some 2 else if c=94 then some 3 else if c=36 then some 4 else if c=41 then some 9 else if c=124 then some 10 else none
def zBl (L:Str) (i:Nat):Except Nat (WordD × Nat) :=
 let c:=byt L i
 if c=92 then zIW (zIh L i)
 else if c=91 then zIW (zIs L i)
 else if c=40 then (if atP L (i+1) [63] then zIW (zM0 L i) else .ok ({kind:=6,place:=i},i+1))
 else if c=123 then
  match zJT L i with
  | some (lo,hi,e)=>zA3 L i lo hi e
  | none=>.ok ({kind:=1,place:=i,set:=ofS [123]},i+1)
 else if c=42 then zA3 L i 0 (-1) (i+1)
 else if c=43 then zA3 L i 1 (-1) (i+1)
 else if c=63 then zA3 L i 0 1 (i+1)
 else match zI8 c with
  | some k=>.ok ({kind:=k,place:=i},i+1)
  | none=>.ok ({kind:=1,place:=i,set:=ofS [(c:Int)]},i+1)
def zBV (L:Str):Nat->Nat->Except (Nat × Nat) (List WordD)
 | 0,i=>if i<L.length then .error (i,0) else .ok []
 | f+1,i =>
  if i<L.length then
   match zBl L i with
   | .error e=>.error (i,e)
   | .ok (w,j) =>
    match zBV L f j with
    | .error x=>.error x
    | .ok l=>.ok (w::l)
  else .ok []
def zJ6 (L:Str):Except (Nat × Nat) (List WordD):=zBV L L.length 0
end
end Go.Proofs.YtalggmbdpmdcbaaGreat
