/-
  Laws of walks, and walks.
-/
import Derived.Test.YtphjgfjbiimkjaaGreatEc1
import Derived.Deep.MidRow
import Derived.Deep.CutRange
import Derived.Laws.Slices
import Derived.Laws.Strings2
import Derived.Lib.Strings
set_option linter.unusedVariables false
set_option linter.unusedSimpArgs false
set_option maxRecDepth 100000
set_option maxHeartbeats 16000000
namespace Go.Proofs.YtphjgfjbiimkjaaGreat
section
open Go.RowKit
inductive Res where
 | blk (b:Nat) (cs:Array Value) (T:TypeId)
 | row (v:Value) (e:TypeId) (sz n:Nat) (xs:List Value)
 | mp (b:Nat) (es:Array MapEntry) (clock:Nat)
  | kn (F:Nat->Prop) (S:World->Prop)
def Res.place:Res->Option Nat
 | .blk b _ _=>some b
 | .row v _ _ _ _=>v.ownBlock
 | .mp b _ _=>some b
 | .kn _ _=>none
def Res.foot:Res->Nat->Prop
 | .blk b _ _,k=>some b=some k
 | .row v _ _ _ _,k=>v.ownBlock=some k
 | .mp b _ _,k=>some b=some k
 | .kn F _,k=>F k
theorem Res.place_foot {r:Res} {b:Nat} (h:r.place=some b):r.foot b:=by cases r<;>first|exact h|cases h
def Res.Holds (M:Nat->Prop) (base:Nat) (W:World):Res->Prop
 | .blk b cs T=>(base<=b\/M b)/\W.heap[b]?=some (.cells cs T (0,0))
 | .row v e sz n xs=>W.ownsRow base e sz v n xs
 | .mp b es c=>base<=b/\W.heap[b]?=some (.map es c)
 | .kn F S=>(∀ b,F b->b<W.heap.size)/\∀ W':World,(∀ b,F b->W'.heap[b]?=W.heap[b]?)->S W'
theorem Res.Holds.lt {M:Nat->Prop} {base:Nat} {W:World} {r:Res} (h:r.Holds M base W):∀ b,r.place=some b->(base<=b\/M b)/\b<W.heap.size:=by
 intro b hb
 cases r with
 | blk b' cs T=>cases hb;exact⟨h.1,(Array.getElem?_eq_some_iff.1 h.2).1⟩
 | row v e sz n xs=>exact⟨.inl (World.ownsRow.lt h b hb).1,(World.ownsRow.lt h b hb).2⟩
 | mp b' es c=>cases hb;exact⟨.inl h.1,(Array.getElem?_eq_some_iff.1 h.2).1⟩
 | kn F S=>cases hb
theorem Res.Holds.ltf {M:Nat->Prop} {base:Nat} {W:World} {r:Res} (h:r.Holds M base W):∀ b,r.foot b->b<W.heap.size:=by
 intro b hb
 cases r with
 | kn F S=>exact h.1 b hb
 | _=>exact(h.lt b hb).2
theorem Res.Holds.kept {M:Nat->Prop} {base:Nat} {W W':World} {r:Res} (h:r.Holds M base W) (hk:∀ b,r.foot b->W'.heap[b]?=W.heap[b]?) (hs:W.heap.size<=W'.heap.size):r.Holds M base W':=by
 cases r with
 | blk b' cs T=>exact⟨h.1,(hk b' rfl).trans h.2⟩
 | row v e sz n xs =>
  obtain⟨hl,h'|⟨g,cap,cur,rfl,hb,hg,r⟩⟩:=h
  ·exact⟨hl,.inl h'⟩
  ·exact⟨hl,.inr ⟨g,cap,cur,rfl,hb,(hk g rfl).trans hg,r⟩⟩
 | mp b' es c=>exact⟨h.1,(hk b' rfl).trans h.2⟩
 | kn F S=>exact⟨fun b hb=>Nat.lt_of_lt_of_le (h.1 b hb) hs,fun W2 h2=>h.2 W2 (fun b hb=>(h2 b hb).trans (hk b hb))⟩
def zHj (r s:Res):Prop:=∀ b,r.place=some b->¬ s.foot b
structure HoldG (M:Nat->Prop) (w0 W:World) (l:List Res):Prop where
 keep:KeepBut M w0.heap.size w0 W
 all:∀ (i:Nat) (r:Res),l[i]?=some r->r.Holds M w0.heap.size W
 apart:∀ (i j:Nat) (r s:Res),i≠j->l[i]?=some r->l[j]?=some s->zHj r s
abbrev Hold (w0 W:World) (l:List Res):Prop:=HoldG (fun _=>False) w0 W l
theorem Hold.start (w0:World):Hold w0 w0 []:=⟨KeepBut.refl _ _ _,fun i r h=>by simp at h,fun i j r s _ h=>by simp at h⟩
theorem HoldG.below {w0 W:World} {l:List Res} (H:Hold w0 W l):Below w0.heap.size w0 W:=H.keep.below (Nat.le_refl _) (fun _ _ h=>h)
section
variable {M:Nat->Prop}
theorem HoldG.call {w0 W W':World} {l:List Res} (H:HoldG M w0 W l) (h:Below W.heap.size W W'):HoldG M w0 W' l :=
 ⟨H.keep.trans ((KeepBut.of_below h).mono H.keep.size (fun _ _ m=>m)),fun i r hi=>(H.all i r hi).kept (fun b hb=>h.block b ((H.all i r hi).ltf b hb)) h.size,H.apart⟩
theorem HoldG.take {w0 W:World} {l:List Res} (H:HoldG M w0 W l) (n:Nat):HoldG M w0 W (l.take n) :=
 ⟨H.keep,fun i r h=>H.all i r (by rw[List.getElem?_take]at h;split at h;exact h;cases h),fun i j r s hij h1 h2=>H.apart i j r s hij (by rw[List.getElem?_take]at h1;split at h1;exact h1;cases h1) (by rw[List.getElem?_take]at h2;split at h2;exact h2;cases h2)⟩
theorem HoldG.upd {w0 W W':World} {l:List Res} (H:HoldG M w0 W l) {i:Nat} {r r':Res} (hi:l[i]?=some r) (hg:W.grownBy W' r.place) (hr:r'.Holds M w0.heap.size W')
  (hp:∀ b,r'.foot b->r.foot b\/W.heap.size<=b) (h0:∀ b,r.foot b->r.place=some b:=by exact fun _ h=>h):HoldG M w0 W' (l.set i r'):=by
 have hil:i<l.length:=(List.getElem?_eq_some_iff.1 hi).1
 refine⟨H.keep.trans ⟨hg.os,hg.tape,hg.output,hg.size,fun k h1 h2=>hg.block k (Nat.lt_of_lt_of_le h1 H.keep.size) (fun e=>by
  rcases((H.all i r hi).lt k e.symm).1 with h|h
  ·omega
  ·exact h2 h)⟩,?_,?_⟩
 ·intro j s hs;rw[List.getElem?_set]at hs;split at hs
  ·rename_i e;subst e;cases hs;exact hr
  ·rename_i hne;refine(H.all j s hs).kept (fun b hb=>hg.block b ((H.all j s hs).ltf b hb) (fun e=>?_)) hg.size
   exact H.apart i j r s hne hi hs b e.symm hb
 ·intro j k s t hjk hs ht;rw[List.getElem?_set]at hs ht;split at hs
  ·rename_i e;subst e;cases hs
   rw[if_neg hjk]at ht;intro b hb hb';rcases hp b (Res.place_foot hb) with h|h
   ·exact H.apart i k r t hjk hi ht b (h0 b h) hb'
   ·have:=(H.all k t ht).ltf b hb';omega
  ·split at ht
   ·rename_i _ e;subst e;cases ht
    intro b hb hb';rcases hp b hb' with h|h
    ·exact H.apart j i s r hjk hs hi b hb h
    ·have:=((H.all j s hs).lt b hb).2;omega
   ·exact H.apart j k s t hjk hs ht
theorem HoldG.add {w0 W W':World} {l:List Res} (H:HoldG M w0 W l) {r:Res} (hg:W.grownBy W' none) (hr:r.Holds M w0.heap.size W') (hp:∀ b,r.foot b->W.heap.size<=b):HoldG M w0 W' (l++[r]):=by
 have hb:Below W.heap.size W W':=(Below.refl _ W).grown hg (Nat.le_refl _) (fun k e=>by cases e)
 have H':=H.call hb;refine⟨H'.keep,?_,?_⟩
 ·intro j s hs;rw[List.getElem?_append]at hs;split at hs
  ·exact H'.all j s hs
  ·rcases List.getElem?_eq_some_iff.1 hs with ⟨h1,h2⟩
   simp at h1;simp[h1]at h2;subst h2;exact hr
 ·intro j k s t hjk hs ht;rw[List.getElem?_append]at hs ht;split at hs
  ·split at ht
   ·exact H.apart j k s t hjk hs ht
   ·rcases List.getElem?_eq_some_iff.1 ht with ⟨h1,h2⟩
    simp at h1;simp[h1]at h2;subst h2;intro b hb1 hb2;have h3:=((H.all j s hs).lt b hb1).2;have:=hp b hb2;omega
  ·rcases List.getElem?_eq_some_iff.1 hs with ⟨h1,h2⟩
   simp at h1;simp[h1]at h2;subst h2;split at ht
   ·intro b hb1 hb2;have h3:=(H.all k t ht).ltf b hb2;have:=hp b (Res.place_foot hb1);omega
   ·rcases List.getElem?_eq_some_iff.1 ht with ⟨h4,h5⟩
    simp at h4;omega
inductive At {α:Type}:List α->Nat->α->Prop where
 | zero {r:α} {l:List α}:At (r::l) 0 r
 | succ {r s:α} {l:List α} {i:Nat} (h:At l i r):At (s::l) (i+1) r
theorem At.get {α:Type} {l:List α} {i:Nat} {r:α} (h:At l i r):l[i]?=some r:=by
 induction h with
 | zero=>rfl
 | succ _ ih=>simpa using ih
theorem HoldG.blk {w0 W:World} {l:List Res} (H:HoldG M w0 W l) {i b:Nat} {cs:Array Value} {T:TypeId} (hi:At l i (.blk b cs T)):(w0.heap.size<=b\/M b)/\W.heap[b]?=some (.cells cs T (0,0)):=H.all i _ hi.get
theorem HoldG.cell {w0 W:World} {l:List Res} (H:HoldG M w0 W l) {i b:Nat} {cs:Array Value} {T:TypeId} (hi:At l i (.blk b cs T)) (k:Nat):W.cell? ⟨b,k,none⟩=cs[k]?:=cell_of_row W b k cs T (0,0) (H.blk hi).2
theorem HoldG.frozen {w0 W:World} {l:List Res} (H:HoldG M w0 W l) {i b:Nat} {cs:Array Value} {T:TypeId} (hi:At l i (.blk b cs T)) (k:Nat):W.frozen? ⟨b,k,none⟩=false:=by
 simp[World.frozen?,(H.blk hi).2]
theorem HoldG.alloc {w0 W:World} {l:List Res} (H:HoldG M w0 W l) (cs:Array Value) (T:TypeId):HoldG M w0 (W.alloc (.cells cs T)) (l++[.blk W.heap.size cs T]) :=
 H.add (World.grownBy_alloc W _ none) ⟨.inl H.keep.size,World.alloc_heap_new W _⟩ (fun b e=>by cases e;exact Nat.le_refl _)
theorem heap_setCell {W:World} {b k:Nat} {cs:Array Value} {T:TypeId} {f:Nat × Nat} (h:W.heap[b]?=some (.cells cs T f)) (v:Value):(W.setCell ⟨b,k,none⟩ v).heap[b]?=some (.cells (cs.setIfInBounds k v) T f):=by
 have hlt:=(Array.getElem?_eq_some_iff.1 h).1;simp only[World.setCell];simp[Array.getElem?_modify,h]
theorem zBe (W:World) (b k:Nat) (v:Value):W.grownBy (W.setCell ⟨b,k,none⟩ v) (some b):=by
 refine⟨rfl,rfl,rfl,?_,?_⟩
 ·simp[World.setCell]
 ·intro j hj hne;simp[World.setCell,Array.getElem?_modify,show b≠j from fun e=>hne (by rw[e])]
theorem HoldG.setCell {w0 W:World} {l:List Res} (H:HoldG M w0 W l) {i b k:Nat} {cs:Array Value} {T:TypeId} (hi:At l i (.blk b cs T)) (v:Value) :
  HoldG M w0 (W.setCell ⟨b,k,none⟩ v) (l.set i (.blk b (cs.setIfInBounds k v) T)) :=
 H.upd hi.get (zBe W b k v) ⟨(H.blk hi).1,heap_setCell (H.blk hi).2 v⟩ (fun _ e=>.inl e)
def zCu (cs:Array Value):Nat->List Value->Array Value
 | _,[]=>cs
 | k,v::r=>zCu (cs.setIfInBounds k v) (k+1) r
theorem zEb {A B C:World} {b:Nat} (h:A.grownBy B (some b)) (k:B.grownBy C (some b)):A.grownBy C (some b) :=
 ⟨k.os.trans h.os,k.tape.trans h.tape,k.output.trans h.output,Nat.le_trans h.size k.size,fun j hj hne=>(k.block j (Nat.lt_of_lt_of_le hj h.size) hne).trans (h.block j hj hne)⟩
theorem zBc:∀ (vs:List Value) (k:Nat) (W:World) (b:Nat),W.grownBy (W.setCells b k vs) (some b)
 | [],_,_,_=>⟨rfl,rfl,rfl,Nat.le_refl _,fun _ _ _=>rfl⟩
 | v::r,k,W,b=>zEb (zBe W b k v) (zBc r (k+1) _ b)
theorem zBy:∀ (vs:List Value) (k:Nat) (W:World) (b:Nat) (cs:Array Value) (T:TypeId) (f:Nat × Nat),W.heap[b]?=some (.cells cs T f)->(W.setCells b k vs).heap[b]?=some (.cells (zCu cs k vs) T f)
 | [],_,_,_,_,_,_,h=>h
 | v::r,k,W,b,cs,T,f,h=>zBy r (k+1) _ b _ T f (heap_setCell h v)
theorem HoldG.setCells {w0 W:World} {l:List Res} (H:HoldG M w0 W l) {i b k:Nat} {cs:Array Value} {T:TypeId} (hi:At l i (.blk b cs T)) (vs:List Value) :
  HoldG M w0 (W.setCells b k vs) (l.set i (.blk b (zCu cs k vs) T)) :=
 H.upd hi.get (zBc vs k W b) ⟨(H.blk hi).1,zBy vs k W b cs T _ (H.blk hi).2⟩ (fun _ e=>.inl e)
theorem HoldG.there {w0 W:World} {l:List Res} (H:HoldG M w0 W l) {i b k n:Nat} {cs:Array Value} {T:TypeId} (hi:At l i (.blk b cs T)) (hn:k+n<=cs.size):W.there b k n:=fun j hj=>by
 rw[H.cell hi,H.frozen hi];simp;omega
theorem zQN (l:List Value) (d:List Deferred) (t:Nat):({tmps:=l.toArray,defers:=d}:Act).eval (.tmp t)=l.getD t undef:=by simp[Act.eval]
theorem zFg (a:Act) (v:Value):a.eval (.const v)=v:=rfl
theorem pe:(∀ (t:Array Value) (d:List Deferred) (i:Nat) (v:Value),({tmps:=t,defers:=d}:Act).put (some i) v={tmps:=t.setIfInBounds i v,defers:=d})/\(∀ (a:Act) (v:Value),a.put none v=a)/\(∀ (a:Value) (l:List Value) (n:Nat),l.toArray.setIfInBounds n a=(l.set n a).toArray)/\(∀ (a b:Value) (l:List Value) (n:Nat),(a::l).set (n+1) b=a::l.set n b)/\(∀ (a b:Value) (l:List Value),(a::l).set 0 b=b::l) /\
  (∀ (l:List Value) (d:List Deferred) (t:Nat),({tmps:=l.toArray,defers:=d}:Act).eval (.tmp t)=l.getD t undef)/\(∀ (a:Act) (v:Value),a.eval (.const v)=v)/\(∀ (a:Act) (g:Nat),a.eval (.global g)=.pointer (some ⟨g,0,none⟩))/\(∀ (a:Act) (f:Nat),a.eval (.func f)=.func (.func f) #[] #[])/\(∀ (a d:Value) (l:List Value) (n:Nat),(a::l).getD (n+1) d=l.getD n d)/\∀ (a d:Value) (l:List Value),(a::l).getD 0 d=a :=
 ⟨fun _ _ _ _=>rfl,fun _ _=>rfl,fun _ _ _=>List.setIfInBounds_toArray ..,fun _ _ _ _=>rfl,fun _ _ _=>rfl,zQN,fun _ _=>rfl,fun _ _=>rfl,fun _ _=>rfl,fun _ _ _ _=>rfl,fun _ _ _=>rfl⟩
theorem HoldG.rd {w0 W:World} {l:List Res} (H:HoldG M w0 W l) {i b:Nat} {cs:List Value} {T:TypeId} (hi:At l i (.blk b cs.toArray T)) (hn:cs.length<=maxLen):Rd W W.heap.size (.slice (some ⟨b,0,none⟩) cs.length cs.length) cs :=
 .inr ⟨b,0,cs.length,rfl,((H.all i _ hi.get).lt b rfl).2,Nat.le_refl _,hn,fun j hj=>by rw[H.cell hi];simp[hj]⟩
theorem HoldG.rds {w0 W:World} {l:List Res} (H:HoldG M w0 W l) {i b:Nat} {L:List (Nat->Nat)} {T:TypeId} (hi:At l i (.blk b (rowC L).toArray T)) (hn:L.length<=maxLen):RdS W W.heap.size (.slice (some ⟨b,0,none⟩) L.length L.length) L :=
 .inr ⟨b,0,L.length,rfl,((H.all i _ hi.get).lt b rfl).2,Nat.le_refl _,hn,fun j hj k hk=>by
  rw[H.cell hi];simp only[Nat.zero_add,List.getElem?_toArray]
  exact zJr hj hk⟩
theorem HoldG.rdn {w0 W:World} {l:List Res} (H:HoldG M w0 W l) {i b n:Nat} {cs:List Value} {T:TypeId} (hi:At l i (.blk b cs.toArray T)) (hc:cs.length=n) (hn:n<=maxLen):Rd W W.heap.size (.slice (some ⟨b,0,none⟩) n n) cs:=by
 subst hc;exact H.rd hi hn
theorem HoldG.rdsn {w0 W:World} {l:List Res} (H:HoldG M w0 W l) {i b n:Nat} {L:List (Nat->Nat)} {T:TypeId} (hi:At l i (.blk b (rowC L).toArray T)) (hc:L.length=n) (hn:n<=maxLen):RdS W W.heap.size (.slice (some ⟨b,0,none⟩) n n) L:=by
 subst hc;exact H.rds hi hn
end
section
variable {P:Program} {ops:Array Oper} {rest:List Oper} {o:Oper} {a:Act} {w w0:World} {Q:Exit->Act->World->Prop} {l:List Res} {M:Nat->Prop}
def zBa (P:Program) (T:TypeId):Array Value:=(((P.info? T).bind (·.zero)).map (·.cells)).getD #[]
def zDD (P:Program) (T:TypeId) (n:Nat):Bool:=(P.info? T).map (·.size) == some n
def rowB (P:Program) (T:TypeId) (n:Nat):Bool:=zDD P T n&&((P.underlying T).map (·.isRow) == some true)
def oneB (P:Program) (T:TypeId):Bool:=zDD P T 1&&((P.underlying T).map (·.isRow) == some false)
theorem zGg {T n} (h:rowB P T n=true):∃ d,P.underlying T=some d/\d.isRow=true/\(P.info? T).map (·.size)=some n:=by
 simp only[rowB,zDD,Bool.and_eq_true,beq_iff_eq]at h;obtain⟨h1,h2⟩:=h
 cases hu:P.underlying T with
 | none=>simp[hu]at h2
 | some d=>exact⟨d,rfl,by simpa [hu] using h2,h1⟩
theorem zAD {T} (h:oneB P T=true):zDD P T 1=true:=by simp only[oneB,Bool.and_eq_true]at h;exact h.1
theorem zEX {T n} (h:rowB P T n=true):zDD P T n=true:=by simp only[rowB,Bool.and_eq_true]at h;exact h.1
theorem zCX {T:TypeId} (h:oneB P T=true) {ad:Addr} {v:Value} (hc:w.cell? ad=some v):(loadVar T ad).run P w=.ok v w:=by
 simp only[oneB,zDD,Bool.and_eq_true,beq_iff_eq]at h;obtain⟨h1,h2⟩:=h
 cases hu:P.underlying T with
 | none=>simp[hu]at h2
 | some d =>
  have hd:d.isRow=false:=by simpa [hu] using h2
  have hagg:(isAgg T).run P w=.ok false w:=by
   unfold isAgg;rw[Sem.run_bind,run_underlying hu w]
   cases d<;>simp_all
  simp[loadVar,Sem.run_bind,hagg,load,Sem.run,hc]
theorem zB7 {T:TypeId} (h:zDD P T 1=true) {ad:Addr} {v:Value} (hv:v.oneCell'=true) (hc:(w.cell? ad).isSome=true) (hf:w.frozen? ad=false) (hs:ad.add 0=ad):(storeVar T ad v).run P w=.ok () (w.setCell ad v):=by
 have hcs:v.cells=#[v]:=by cases v<;>first|rfl|cases hv
 simp only[zDD,beq_iff_eq]at h
 cases hq:P.info? T with
 | none=>simp[hq]at h
 | some i =>
  have hs1:i.size=1:=by simpa [hq] using h
  obtain⟨u,hu⟩:=Option.isSome_iff_exists.1 hc;have hst:(store ad v).run P w=.ok () (w.setCell ad v):=by rw[run_store P w _ v _ hv];simp[hu,hf]
  simp[storeVar,sizeOf,typeInfo,hq,hcs,hs1,storeCells,hs,hst]
theorem zAu (hw:Region.wanted o (yielded ops a.tmps)=true) (h:∀ K:Act->World->Prop,(∀ a w,wpList P ops Q rest a w->K a w)->o.wp P a w K Q):wpList P ops Q (o::rest) a w :=
 wpList_step fun K hK=>by rw[if_pos hw];exact h K hK
theorem zAE (hg:Region.wanted o (yielded ops a.tmps)=true) (T:TypeId) (x:Operand) (ho:o.op=.load T x) {b k:Nat} (hx:a.eval x=.pointer (some ⟨b,k,none⟩)) (H:HoldG M w0 w l) {i:Nat} {cs:Array Value} {U:TypeId} (hi:At l i (.blk b cs U))
  (hT:oneB P T=true) {v:Value} (hv:cs[k]?=some v) (h:wpList P ops Q rest (a.put o.dst v) w):wpList P ops Q (o::rest) a w :=
 zAu hg fun _ hK=>by
  unfold Oper.wp execOp;simp only[ho,hx,Instr.loadAt,Instr.sureAddr,Sem.run_bind,Sem.run_pure,Result.andThen_ok,zCX hT (v:=v) (by rw[H.cell hi];exact hv)]
  exact hK _ _ h
theorem HoldG.run_row {n:Nat} (H:HoldG M w0 w l) {i b k:Nat} {cs vs:Array Value} {U T:TypeId} (hi:At l i (.blk b cs U)) (hT:rowB P T n=true) (hn:vs.size=n) (hv:∀ j,j<n->cs[k+j]?=vs[j]?) :
  (loadVar T ⟨b,k,none⟩).run P w=.ok (.agg vs) w:=by
 obtain⟨d,hu,hd,hs⟩:=zGg hT
 have:=run_loadVar_mid (P:=P) w b k T vs.toList d (fun j v hj=>by
  have hlt:j<n:=by have:=(List.getElem?_eq_some_iff.1 hj).1;simp at this;omega
  rw[H.cell hi,hv j hlt];simpa using hj) hu hd (by rw[hs];simp[hn])
 simpa using this
theorem zKI (hg:Region.wanted o (yielded ops a.tmps)=true) (T:TypeId) (x:Operand) (ho:o.op=.load T x) {b:Nat} (hx:a.eval x=.pointer (some ⟨b,0,none⟩)) (H:HoldG M w0 w l) {i:Nat} {cs:Array Value} {U:TypeId} (hi:At l i (.blk b cs U))
  {n:Nat} (hT:rowB P T n=true) (hn:cs.size=n) (h:wpList P ops Q rest (a.put o.dst (.agg cs)) w):wpList P ops Q (o::rest) a w :=
 zAu hg fun _ hK=>by
  unfold Oper.wp execOp;simp only[ho,hx,Instr.loadAt,Instr.sureAddr,Sem.run_bind,Sem.run_pure,Result.andThen_ok,H.run_row (T:=T) hi hT hn (fun j _=>by rw[Nat.zero_add])]
  exact hK _ _ h
theorem zAN (hg:Region.wanted o (yielded ops a.tmps)=true) (T:TypeId) (x y:Operand) (ho:o.op=.store T x y) {b k:Nat} (hx:a.eval x=.pointer (some ⟨b,k,none⟩)) {v:Value} (hy:a.eval y=v) (H:HoldG M w0 w l) {i:Nat} {cs:Array Value} {U:TypeId} (hi:At l i (.blk b cs U))
  (h1:v.oneCell'=true) (hk:k<cs.size) (hT:zDD P T 1=true) (h:∀ w',HoldG M w0 w' (l.set i (.blk b (cs.setIfInBounds k v) U))->wpList P ops Q rest (a.put o.dst undef) w'):wpList P ops Q (o::rest) a w :=
 zAu hg fun _ hK=>by
  unfold Oper.wp execOp;have hs:(⟨b,k,none⟩:Addr).add 0=⟨b,k,none⟩:=by rw[Addr.add_mid];rfl
  simp only[ho,hx,hy,Instr.storeAt,Instr.sureAddr,Sem.run_bind,Sem.run_pure,Result.andThen_ok,zB7 (P:=P) (w:=w) hT h1 (by rw[H.cell hi];simp[hk]) (H.frozen hi k) hs]
  exact hK _ _ (h _ (H.setCell hi v))
theorem zGt (hg:Region.wanted o (yielded ops a.tmps)=true) (T:TypeId) (x y:Operand) (ho:o.op=.store T x y) {b k:Nat} (hx:a.eval x=.pointer (some ⟨b,k,none⟩)) {vs:Array Value} (hy:a.eval y=.agg vs) (H:HoldG M w0 w l) {i:Nat} {cs:Array Value} {U:TypeId} (hi:At l i (.blk b cs U))
  {n:Nat} (hT:zDD P T n=true) (hv:vs.size=n) (h1:vs.toList.all (·.oneCell')=true) (hk:k+n<=cs.size) (h:∀ w',HoldG M w0 w' (l.set i (.blk b (zCu cs k vs.toList) U))->wpList P ops Q rest (a.put o.dst undef) w'):wpList P ops Q (o::rest) a w :=
 zAu hg fun _ hK=>by
  unfold Oper.wp execOp;simp only[ho,hx,hy,Instr.storeAt,Instr.sureAddr,Sem.run_bind,Sem.run_pure,Result.andThen_ok,run_storeVar_mid (P:=P) w b k T vs (H.there hi (by omega)) (by subst hv;simpa [zDD] using hT) (by rw[Array.all_toList]at h1;exact h1)]
  exact hK _ _ (h _ (H.setCells hi _))
theorem zGs:∀ (vs:List Value) (cs:Array Value) (k j:Nat),(zCu cs k vs)[j]?=if k<=j/\j<k+vs.length/\j<cs.size then vs[j - k]? else cs[j]?
 | [],cs,k,j=>by simp[zCu];omega
 | v::r,cs,k,j=>by
  rw[zCu,zGs r];simp only[Array.getElem?_setIfInBounds,List.length_cons,Array.size_setIfInBounds]
  by_cases e:k=j
  ·subst e;rw[if_neg (by omega)]
   by_cases h:k<cs.size
   ·simp[h]
   ·simp[h,Array.getElem?_eq_none (Nat.le_of_not_lt h)]
  ·by_cases h:k<=j/\j<k+(r.length+1)/\j<cs.size
   ·rw[if_pos ⟨by omega,by omega,h.2.2⟩,if_pos h]
    rw[show j - k=(j - (k+1))+1 from by omega];simp
   ·rw[if_neg (by omega),if_neg e,if_neg h]
theorem zFL {cs vs:Array Value} (h:vs.size=cs.size):zCu cs 0 vs.toList=vs:=by
 apply Array.ext_getElem?;intro j;rw[zGs];simp only[Nat.zero_le,true_and,Nat.zero_add,Array.length_toList,Nat.sub_zero]
 by_cases e:j<vs.size
 ·rw[if_pos ⟨e,by omega⟩];simp
 ·rw[if_neg (fun h=>e h.1),Array.getElem?_eq_none (by omega),Array.getElem?_eq_none (by omega)]
theorem zFr (hg:Region.wanted o (yielded ops a.tmps)=true) (T:TypeId) (x y:Operand) (ho:o.op=.store T x y) {b:Nat} (hx:a.eval x=.pointer (some ⟨b,0,none⟩)) {vs:Array Value} (hy:a.eval y=.agg vs) (H:HoldG M w0 w l) {i:Nat} {cs:Array Value} {U:TypeId} (hi:At l i (.blk b cs U))
  {n:Nat} (hT:zDD P T n=true) (hv:vs.size=n) (hn:cs.size=n) (h1:vs.toList.all (·.oneCell')=true) (h:∀ w',HoldG M w0 w' (l.set i (.blk b vs U))->wpList P ops Q rest (a.put o.dst undef) w'):wpList P ops Q (o::rest) a w :=
 zGt hg T x y ho hx hy H hi hT hv h1 (by omega) (fun w' H'=>h w' (by rwa [zFL (by omega)]at H'))
theorem zCa (hg:Region.wanted o (yielded ops a.tmps)=true) (T:TypeId) (ho:o.op=.alloc T) (H:HoldG M w0 w l) (hi:((P.info? T).bind (·.zero)).isSome=true)
  (h:∀ b w',HoldG M w0 w' (l++[.blk b (zBa P T) T])->wpList P ops Q rest (a.put o.dst (.pointer (some ⟨b,0,none⟩))) w'):wpList P ops Q (o::rest) a w :=
 zAu hg fun _ hK=>by
  cases hi1:P.info? T with
  | none=>simp[hi1]at hi
  | some i0 =>
   cases hz:i0.zero with
   | none=>simp[hi1,hz]at hi
   | some z =>
    have hzc:zBa P T=z.cells:=by simp[zBa,hi1,hz]
    unfold Oper.wp execOp;simp[ho,Instr.alloc,zeroValue,typeInfo,hi1,hz,newVar,newRow];rw[hzc]at h;exact hK _ _ (h _ _ (H.alloc _ T))
theorem zIz (hg:Region.wanted o (yielded ops a.tmps)=true) (T:TypeId) (x:Operand) (ho:o.op=.box T x) {v:Value} (hx:a.eval x=v) (H:HoldG M w0 w l)
  (h:∀ b w',HoldG M w0 w' (l++[.blk b v.cells T])->wpList P ops Q rest (a.put o.dst (.pointer (some ⟨b,0,none⟩))) w'):wpList P ops Q (o::rest) a w :=
 zAu hg fun _ hK=>by
  unfold Oper.wp execOp;simp[ho,hx,Instr.box,newVar,newRow];exact hK _ _ (h _ _ (H.alloc _ T))
theorem zAQ (hg:Region.wanted o (yielded ops a.tmps)=true) (TS:TypeId) (n:Nat) (parts:Array (Nat × Operand)) (ho:o.op=.buildSlice TS n parts) (H:HoldG M w0 w l) (cs:Array Value) (T:TypeId)
  (hr:∀ W:World,(Instr.buildSlice TS n (parts.map fun (i,x)=>(i,a.eval x))).run P W=.ok (.slice (some ⟨W.heap.size,0,none⟩) n n) (W.alloc (.cells cs T)))
  (h:∀ b w',HoldG M w0 w' (l++[.blk b cs T])->wpList P ops Q rest (a.put o.dst (.slice (some ⟨b,0,none⟩) n n)) w'):wpList P ops Q (o::rest) a w :=
 zAu hg fun _ hK=>by
  unfold Oper.wp execOp;simp only[ho,Sem.run_bind,hr,Result.andThen_ok];exact hK _ _ (h _ _ (H.alloc cs T))
theorem zAx (hg:o.guard=none) (s x:Operand) (T:TypeId) (ho:o.op=.call {callee:=.builtin .append,args:=#[s,x],argTypes:=#[T,T]}) (H:HoldG M w0 w l) {i j b:Nat} {v:Value} {e:TypeId} {sz n m c:Nat} {xs:List Value} {cs:Array Value} {U:TypeId}
  (hs:a.eval s=v) (hx:a.eval x=.slice (some ⟨b,0,none⟩) m c) (hi:At l i (.row v e sz n xs)) (hj:At l j (.blk b cs U)) {it:TypeInfo} {z:Value} {bytes:Nat}
  (h1:P.underlying T=some (.slice e)) (h2:P.info? e=some it) (h3:it.zero=some z) (h4:it.size=sz) (h5:it.bytes=bytes) (h6:z.cells.size=sz) (h7:0<sz) (hcs:cs.size=m * sz) (h1c:cs.toList.all (·.oneCell')=true)
  (b1:n+m<=maxLen) (b2:(n+m) * bytes<=140737488355328)
  (h:∀ v' w',HoldG M w0 w' (l.set i (.row v' e sz (n+m) (xs++cs.toList)))->wpList P ops Q rest (a.put o.dst v') w'):wpList P ops Q (o::rest) a w:=by
 refine wpList_append_own_at w hg s x T ho w0.heap.size e it z sz bytes h1 h2 h3 h4 h5 h6 h7 v n xs hs (H.all i _ hi.get) ⟨b,0,none⟩ m c cs.toList hx (by simpa using hcs) (fun q u hq=>?_) (fun u hu=>List.all_eq_true.1 h1c u hu) b1 b2 H.keep.size (fun v' w' r1 r2 _ r4=>h v' w' ?_)
 ·rw[Addr.add_mid,H.cell hj]
  simpa using hq
 ·refine H.upd hi.get (by exact r2) r1 (fun b' hb'=>?_)
  rcases r4 with r4|r4
  ·left;show v.ownBlock=some b';rw[← r4];exact hb'
  ·right;have:v'.ownBlock=some b':=hb';rw[r4]at this
   cases this;exact Nat.le_refl _
theorem HoldG.addNil {w0 W:World} {l:List Res} (H:HoldG M w0 W l) (e:TypeId) (sz:Nat):HoldG M w0 W (l++[.row (.slice none 0 0) e sz 0 []]) :=
 H.add ⟨rfl,rfl,rfl,Nat.le_refl _,fun _ _ _=>rfl⟩ (World.ownsRow_nil _ _ _ _) (fun b e=>by cases e)
theorem zAh (hg:Region.wanted o (yielded ops a.tmps)=true) {v:Value} (hr:(execOp a.eval o).run P w=.ok (.value v) w) (h:wpList P ops Q rest (a.put o.dst v) w):wpList P ops Q (o::rest) a w :=
 zAu hg fun _ hK=>by
  unfold Oper.wp;rw[hr];exact hK _ _ h
theorem zKc (hg:Region.wanted o (yielded ops a.tmps)=true) (T:TypeId) (x y:Operand) (ho:o.op=.store T x y) {b:Nat} (hx:a.eval x=.pointer (some ⟨b,0,none⟩)) {s:Nat->Nat} (hy:a.eval y=setV s) (H:HoldG M w0 w l) {i:Nat} {cs:Array Value} {U:TypeId} (hi:At l i (.blk b cs U))
  (hT:zDD P T 4=true) (hn:cs.size=4) (h:∀ w',HoldG M w0 w' (l.set i (.blk b (setC s) U))->wpList P ops Q rest (a.put o.dst undef) w'):wpList P ops Q (o::rest) a w :=
 zFr hg T x y ho hx (vs:=setC s) hy H hi hT rfl hn rfl h
theorem zMW (hg:Region.wanted o (yielded ops a.tmps)=true) (T:TypeId) (x:Operand) (ho:o.op=.load T x) {b:Nat} (hx:a.eval x=.pointer (some ⟨b,0,none⟩)) (H:HoldG M w0 w l) {i:Nat} {s:Nat->Nat} {U:TypeId} (hi:At l i (.blk b (setC s) U))
  (hT:rowB P T 4=true) (h:wpList P ops Q rest (a.put o.dst (setV s)) w):wpList P ops Q (o::rest) a w :=
 zKI hg T x ho hx H hi hT rfl h
theorem zNw (hg:Region.wanted o (yielded ops a.tmps)=true) (T:TypeId) (x:Operand) (ho:o.op=.box T x) {s:Nat->Nat} (hx:a.eval x=setV s) (H:HoldG M w0 w l)
  (h:∀ b w',HoldG M w0 w' (l++[.blk b (setC s) T])->wpList P ops Q rest (a.put o.dst (.pointer (some ⟨b,0,none⟩))) w'):wpList P ops Q (o::rest) a w :=
 zIz hg T x ho hx H h
abbrev Str:=List UInt8
def byt (L:Str) (k:Nat):Nat:=(L.getD k 0).toNat
theorem zKO (L:Str) (k:Nat):byt L k<256:=UInt8.toNat_lt _
theorem zPh (hg:Region.wanted o (yielded ops a.tmps)=true) (T:TypeId) (x y:Operand) (U:TypeId) (ho:o.op=.binOp .eql T x y U) {L M:Str} (hx:a.eval x=.string ⟨L.toArray⟩) (hy:a.eval y=.string ⟨M.toArray⟩)
  (hq:∀ w:World,(eqGuard .eql T x y (.string ⟨L.toArray⟩) (.string ⟨M.toArray⟩)).run P w=.ok () w) (h:wpList P ops Q rest (a.put o.dst (.bool (L == M))) w):wpList P ops Q (o::rest) a w:=by
 refine zAh hg ?_ h;simp only[execOp,ho,hx,hy,Sem.run_bind,hq,Result.andThen,binOp_string_eql];simp[Lib.toList_data]
theorem zNv {fn:Func} {R:Ending->World->Prop} {p:Tmp} {T:TypeId} (hres:fn.results=#[.cell p T]) {b:Nat} (hp:a.tmps.getD p undef=.pointer (some ⟨b,0,none⟩)) (H:HoldG M w0 w l) {i:Nat} {cs:Array Value} {U:TypeId} (hi:At l i (.blk b cs U))
  {n:Nat} (hT:rowB P T n=true) (hn:cs.size=n) (hd:a.defers=[]) (h:R (.returned (.agg cs)) w):bodyPost P fn R .ret a w:=by
 refine bodyPost_ret (v:=.agg cs) ?_ hd h;have:=H.run_row (T:=T) (P:=P) hi hT hn (k:=0) (fun j _=>by rw[Nat.zero_add])
 have hp':a.tmps[p]?.getD undef=.pointer (some ⟨b,0,none⟩):=by simpa using hp
 simp[results,hres,hp',asAddr,this]
theorem zEl {fn:Func} {R:Ending->World->Prop} {p q:Tmp} {T:TypeId} (hres:fn.results=#[.cell p T,.tmp q]) {b:Nat} (hp:a.tmps.getD p undef=.pointer (some ⟨b,0,none⟩)) {v:Value} (hq:a.tmps.getD q undef=v) (H:HoldG M w0 w l) {i:Nat} {cs:Array Value} {U:TypeId} (hi:At l i (.blk b cs U))
  {n:Nat} (hT:rowB P T n=true) (hn:cs.size=n) (hd:a.defers=[]) (h:R (.returned (.tuple #[.agg cs,v])) w):bodyPost P fn R .ret a w:=by
 refine bodyPost_ret (v:=.tuple #[.agg cs,v]) ?_ hd h;have:=H.run_row (T:=T) (P:=P) hi hT hn (k:=0) (fun j _=>by rw[Nat.zero_add])
 have hp':a.tmps[p]?.getD undef=.pointer (some ⟨b,0,none⟩):=by simpa using hp
 have hq':a.tmps[q]?.getD undef=v:=by simpa using hq
 simp[results,hres,hp',hq',asAddr,this]
theorem zPa {fn:Func} {R:Ending->World->Prop} {p q r:Tmp} {T:TypeId} (hres:fn.results=#[.cell p T,.tmp q,.tmp r]) {b:Nat} (hp:a.tmps.getD p undef=.pointer (some ⟨b,0,none⟩)) {v u:Value} (hq:a.tmps.getD q undef=v) (hr:a.tmps.getD r undef=u) (H:HoldG M w0 w l) {i:Nat} {cs:Array Value} {U:TypeId} (hi:At l i (.blk b cs U))
  {n:Nat} (hT:rowB P T n=true) (hn:cs.size=n) (hd:a.defers=[]) (h:R (.returned (.tuple #[.agg cs,v,u])) w):bodyPost P fn R .ret a w:=by
 refine bodyPost_ret (v:=.tuple #[.agg cs,v,u]) ?_ hd h;have:=H.run_row (T:=T) (P:=P) hi hT hn (k:=0) (fun j _=>by rw[Nat.zero_add])
 have hp':a.tmps[p]?.getD undef=.pointer (some ⟨b,0,none⟩):=by simpa using hp
 have hq':a.tmps[q]?.getD undef=v:=by simpa using hq
 have hr':a.tmps[r]?.getD undef=u:=by simpa using hr
 simp[results,hres,hp',hq',hr',asAddr,this]
theorem zQA {fn:Func} {R:Ending->World->Prop} {p:Tmp} {T:TypeId} (hres:fn.results=#[.cell p T]) {b:Nat} (hp:a.tmps.getD p undef=.pointer (some ⟨b,0,none⟩)) (H:HoldG M w0 w l) {i:Nat} {s:Nat->Nat} {U:TypeId} (hi:At l i (.blk b (setC s) U))
  (hT:rowB P T 4=true) (hd:a.defers=[]) (h:R (.returned (setV s)) w):bodyPost P fn R .ret a w:=zNv hres hp H hi hT rfl hd h
theorem zOw {fn:Func} {R:Ending->World->Prop} {p q:Tmp} {T:TypeId} (hres:fn.results=#[.cell p T,.tmp q]) {b:Nat} (hp:a.tmps.getD p undef=.pointer (some ⟨b,0,none⟩)) {v:Value} (hq:a.tmps.getD q undef=v) (H:HoldG M w0 w l) {i:Nat} {s:Nat->Nat} {U:TypeId} (hi:At l i (.blk b (setC s) U))
  (hT:rowB P T 4=true) (hd:a.defers=[]) (h:R (.returned (.tuple #[setV s,v])) w):bodyPost P fn R .ret a w:=zEl hres hp hq H hi hT rfl hd h
theorem reti {k:IntKind} {x y:Int} (h:x=y):Ending.returned (.int k x)=.returned (.int k y):=by rw[h]
end
theorem zCv (s t:Nat->Nat) (W:World):(Instr.buildSlice 270 2 #[(0,setV s),(1,setV t)]).run Tryz.prog W=.ok (.slice (some ⟨W.heap.size,0,none⟩) 2 2) (W.alloc (.cells (rowC [s,t]).toArray 30)):=by
 unfold setV;simp[go_sem];rfl
theorem zLv (s t u:Nat->Nat) (W:World):(Instr.buildSlice 270 3 #[(0,setV s),(1,setV t),(2,setV u)]).run Tryz.prog W=.ok (.slice (some ⟨W.heap.size,0,none⟩) 3 3) (W.alloc (.cells (rowC [s,t,u]).toArray 30)):=by
 unfold setV;simp[go_sem];rfl
theorem zN4 (W:World):(Instr.build 30 #[]).run Tryz.prog W=.ok (setV zAG) W:=by kernel_rfl
theorem zN6 {ops:Array Oper} {rest:List Oper} {o:Oper} {a:Act} {w:World} {Q:Exit->Act->World->Prop} (hg:Region.wanted o (yielded ops a.tmps)=true) (ho:o.op=.build 30 #[])
  (h:wpList Tryz.prog ops Q rest (a.put o.dst (setV zAG)) w):wpList Tryz.prog ops Q (o::rest) a w :=
 zAh hg (by simp only[execOp,ho,List.map_toArray,List.map_nil,Sem.run_bind,zN4];rfl) h
theorem wtd_ {ops:Array Oper} {o:Oper} {a:Act} (h:Region.wanted o (yielded ops a.tmps)=true:=by first|rfl|exact zAT rfl (zAM rfl (by first|rfl|(simp only[pe];rfl)))):Region.wanted o (yielded ops a.tmps)=true:=h
theorem evd_ {a:Act} {x:Operand} {v:Value} (h:a.eval x=v:=by first|(simp only[pe];done)|(simp only[pe];rfl)):a.eval x=v:=h
theorem atd_ {α:Type} {l:List α} {i:Nat} {r:α} (h:At l i r:=by repeat (first|(with_reducible exact At.zero)|apply At.succ)):At l i r:=h
theorem i_1 {α:Type} {a0 r:α} {l:List α}:At (a0::r::l) 1 r:=.succ (.zero)
theorem i_2 {α:Type} {a0 a1 r:α} {l:List α}:At (a0::a1::r::l) 2 r:=.succ (.succ (.zero))
theorem i_3 {α:Type} {a0 a1 a2 r:α} {l:List α}:At (a0::a1::a2::r::l) 3 r:=.succ (.succ (.succ (.zero)))
theorem i_4 {α:Type} {a0 a1 a2 a3 r:α} {l:List α}:At (a0::a1::a2::a3::r::l) 4 r:=.succ (.succ (.succ (.succ (.zero))))
theorem i_5 {α:Type} {a0 a1 a2 a3 a4 r:α} {l:List α}:At (a0::a1::a2::a3::a4::r::l) 5 r:=.succ (.succ (.succ (.succ (.succ (.zero)))))
theorem i_6 {α:Type} {a0 a1 a2 a3 a4 a5 r:α} {l:List α}:At (a0::a1::a2::a3::a4::a5::r::l) 6 r:=.succ (.succ (.succ (.succ (.succ (.succ (.zero))))))
theorem i_7 {α:Type} {a0 a1 a2 a3 a4 a5 a6 r:α} {l:List α}:At (a0::a1::a2::a3::a4::a5::a6::r::l) 7 r:=.succ (.succ (.succ (.succ (.succ (.succ (.succ (.zero)))))))
theorem i_8 {α:Type} {a0 a1 a2 a3 a4 a5 a6 a7 r:α} {l:List α}:At (a0::a1::a2::a3::a4::a5::a6::a7::r::l) 8 r:=.succ (.succ (.succ (.succ (.succ (.succ (.succ (.succ (.zero))))))))
theorem i_9 {α:Type} {a0 a1 a2 a3 a4 a5 a6 a7 a8 r:α} {l:List α}:At (a0::a1::a2::a3::a4::a5::a6::a7::a8::r::l) 9 r:=.succ (.succ (.succ (.succ (.succ (.succ (.succ (.succ (.succ (.zero)))))))))
theorem i_10 {α:Type} {a0 a1 a2 a3 a4 a5 a6 a7 a8 a9 r:α} {l:List α}:At (a0::a1::a2::a3::a4::a5::a6::a7::a8::a9::r::l) 10 r:=.succ (.succ (.succ (.succ (.succ (.succ (.succ (.succ (.succ (.succ (.zero))))))))))
theorem i_11 {α:Type} {a0 a1 a2 a3 a4 a5 a6 a7 a8 a9 a10 r:α} {l:List α}:At (a0::a1::a2::a3::a4::a5::a6::a7::a8::a9::a10::r::l) 11 r:=.succ (.succ (.succ (.succ (.succ (.succ (.succ (.succ (.succ (.succ (.succ (.zero)))))))))))
theorem i_12 {α:Type} {a0 a1 a2 a3 a4 a5 a6 a7 a8 a9 a10 a11 r:α} {l:List α}:At (a0::a1::a2::a3::a4::a5::a6::a7::a8::a9::a10::a11::r::l) 12 r:=.succ (.succ (.succ (.succ (.succ (.succ (.succ (.succ (.succ (.succ (.succ (.succ (.zero))))))))))))
theorem i_13 {α:Type} {a0 a1 a2 a3 a4 a5 a6 a7 a8 a9 a10 a11 a12 r:α} {l:List α}:At (a0::a1::a2::a3::a4::a5::a6::a7::a8::a9::a10::a11::a12::r::l) 13 r:=.succ (.succ (.succ (.succ (.succ (.succ (.succ (.succ (.succ (.succ (.succ (.succ (.succ (.zero)))))))))))))
theorem i_14 {α:Type} {a0 a1 a2 a3 a4 a5 a6 a7 a8 a9 a10 a11 a12 a13 r:α} {l:List α}:At (a0::a1::a2::a3::a4::a5::a6::a7::a8::a9::a10::a11::a12::a13::r::l) 14 r:=.succ (.succ (.succ (.succ (.succ (.succ (.succ (.succ (.succ (.succ (.succ (.succ (.succ (.succ (.zero))))))))))))))
theorem i_15 {α:Type} {a0 a1 a2 a3 a4 a5 a6 a7 a8 a9 a10 a11 a12 a13 a14 r:α} {l:List α}:At (a0::a1::a2::a3::a4::a5::a6::a7::a8::a9::a10::a11::a12::a13::a14::r::l) 15 r:=.succ (.succ (.succ (.succ (.succ (.succ (.succ (.succ (.succ (.succ (.succ (.succ (.succ (.succ (.succ (.zero)))))))))))))))
def zBb:Nat->Nat:=zAn 48 10
def zDw:Nat->Nat:=zAn 97 26
def zD4:Nat->Nat:=zAn 65 26
def zBL:Nat->Nat:=zCi [zBb,zDw,zD4]
def zDL:Nat->Nat:=zAn 33 94
def zHq:Nat->Nat:=zCi [zBL,ofS [95]]
def zOt:Nat->Nat:=ofS [9,10,12,13,32]
def namesL:List (Str × (Nat->Nat)) :=
 [([97,108,110,117,109],zBL),([97,108,112,104,97],zCi [zDw,zD4]),([97,115,99,105,105],zAn 0 128),([98,108,97,110,107],ofS [9,32]),
  ([99,110,116,114,108],zCi [zAn 0 32,ofS [127]]),([100,105,103,105,116],zBb),([103,114,97,112,104],zDL),([108,111,119,101,114],zDw),
  ([112,114,105,110,116],zAn 32 95),([112,117,110,99,116],zJf [zDL,notS zBL]),([115,112,97,99,101],zCi [zAn 9 5,ofS [32]]),([117,112,112,101,114],zD4),
  ([119,111,114,100],zHq),([120,100,105,103,105,116],zCi [zBb,zAn 97 6,zAn 65 6])]
def zEj (n:Str):Option (Nat->Nat):=(namesL.find? (fun p=>n == p.1)).map (·.2)
def sortsL:List (Nat × (Nat->Nat)):=[(100,zBb),(119,zHq),(115,zOt),(68,notS zBb),(87,notS zHq),(83,notS zOt)]
def zFz (c:Nat):Option (Nat->Nat):=(sortsL.find? (fun p=>c == p.1)).map (·.2)
def hexP (c:Nat):Option Nat:=if 48<=c/\c<=57 then some (c - 48) else if 97<=c/\c<=102 then some (c - 87) else if 65<=c/\c<=70 then some (c - 55) else none
structure WordD where
 kind:Nat
 place:Nat
 set:Nat->Nat:=zAG
 neg:Bool:=false
 spot:Nat:=0
 lo:Int:=0
 hi:Int:=0
 lazy:Bool:=false
 on:Bool × Bool × Bool:=(false,false,false)
 off:Bool × Bool × Bool:=(false,false,false)
def zI4 (w:WordD):Array Value:=#[.int .i64 w.kind,.int .i64 w.place,.int .u64 (w.set 0),.int .u64 (w.set 1),.int .u64 (w.set 2),.int .u64 (w.set 3),.bool w.neg,.int .i64 w.spot,.int .i64 w.lo,.int .i64 w.hi,.bool w.lazy,
 .bool w.on.1,.bool w.on.2.1,.bool w.on.2.2,.bool w.off.1,.bool w.off.2.1,.bool w.off.2.2]
theorem zEg:zAb zBb:=zCt _
theorem zGA:zAb zDw:=zCt _
theorem zFt:zAb zD4:=zCt _
theorem zIU:zAb zDL:=zCt _
theorem ok2 {s t:Nat->Nat} (hs:zAb s) (ht:zAb t):∀ x ∈ [s,t],zAb x:=by intro x hx;simp at hx;rcases hx with rfl|rfl<;>assumption
theorem ok3 {s t u:Nat->Nat} (hs:zAb s) (ht:zAb t) (hu:zAb u):∀ x ∈ [s,t,u],zAb x:=by intro x hx;simp at hx;rcases hx with rfl|rfl|rfl<;>assumption
theorem zDT:zAb zBL:=zEY (ok3 zEg zGA zFt)
theorem zNb:zAb zHq:=zEY (ok2 zDT (zCt _))
theorem zEm (lo n:Nat):zAb (zAn lo n):=zCt _
section
variable {P:Program} {ops:Array Oper} {rest:List Oper} {o:Oper} {a:Act} {w w0:World} {Q:Exit->Act->World->Prop} {l:List Res}
end

section
variable {M:Nat->Prop} {w0 W W':World} {l:List Res}
theorem HoldG.kn (H:HoldG M w0 W l) {i:Nat} {F:Nat->Prop} {S:World->Prop} (hi:At l i (.kn F S)):S W:=(H.all i _ hi.get).2 W (fun _ _=>rfl)
theorem HoldG.knlt (H:HoldG M w0 W l) {i:Nat} {F:Nat->Prop} {S:World->Prop} (hi:At l i (.kn F S)):∀ b,F b->b<W.heap.size:=(H.all i _ hi.get).1
theorem HoldG.know (H:HoldG M w0 W l) (F:Nat->Prop) (S:World->Prop) (hlt:∀ b,F b->b<W.heap.size) (hap:∀ (i:Nat) (r:Res),l[i]?=some r->∀ b,r.place=some b->¬ F b)
  (hS:∀ V:World,(∀ b,F b->V.heap[b]?=W.heap[b]?)->S V):HoldG M w0 W (l++[.kn F S]):=by
 refine⟨H.keep,?_,?_⟩
 ·intro j s hs;rw[List.getElem?_append]at hs;split at hs
  ·exact H.all j s hs
  ·rcases List.getElem?_eq_some_iff.1 hs with ⟨h1,h2⟩
   simp at h1;simp[h1]at h2;subst h2;exact⟨hlt,hS⟩
 ·intro j k s t hjk hs ht;rw[List.getElem?_append]at hs ht;split at hs
  ·split at ht
   ·exact H.apart j k s t hjk hs ht
   ·rcases List.getElem?_eq_some_iff.1 ht with ⟨h1,h2⟩
    simp at h1;simp[h1]at h2;subst h2;exact hap j s hs
  ·rcases List.getElem?_eq_some_iff.1 hs with ⟨h1,h2⟩
   simp at h1;simp[h1]at h2;subst h2;intro b h;cases h
def Still (l:List Res) (G:Nat->Prop):Prop:=∀ b,G b->∃ (i:Nat) (r:Res),l[i]?=some r/\r.place=none/\r.foot b
theorem Still.none:Still l (fun _=>False):=fun _ h=>h.elim
theorem Still.at {i:Nat} {F:Nat->Prop} {S:World->Prop} (hi:At l i (.kn F S)):Still l F:=fun b hb=>⟨i,_,hi.get,rfl,hb⟩
theorem Still.apart (H:HoldG M w0 W l) {G:Nat->Prop} (h:Still l G):∀ (i:Nat) (r:Res),l[i]?=some r->∀ b,r.place=some b->¬ G b:=by
 intro i r hi b hb hg;obtain⟨j,s,hj,hs,hf⟩:=h b hg
 by_cases e:i=j
 ·subst e;rw[hi]at hj;cases hj
  rw[hs]at hb;cases hb
 ·exact H.apart i j r s e hi hj b hb hf
theorem Still.lt (H:HoldG M w0 W l) {G:Nat->Prop} (h:Still l G):∀ b,G b->b<W.heap.size:=fun b hb=>by
 obtain⟨j,s,hj,hs,hf⟩:=h b hb;exact(H.all j s hj).ltf b hf
theorem HoldG.also (H:HoldG M w0 W l) (F:Nat->Prop) (S:World->Prop) (hF:Still l F) (hS:∀ V:World,(∀ b,F b->V.heap[b]?=W.heap[b]?)->S V):HoldG M w0 W (l++[.kn F S]) :=
 H.know F S (hF.lt H) (hF.apart H) hS
theorem HoldG.learn (H:HoldG M w0 W l) (hb:Below W.heap.size W W') {F G:Nat->Prop} {S:World->Prop} (hG:Still l G) (hF:∀ b,F b->b<W'.heap.size/\(W.heap.size<=b\/G b))
  (hS:∀ V:World,(∀ b,F b->V.heap[b]?=W'.heap[b]?)->S V):HoldG M w0 W' (l++[.kn F S]) :=
 (H.call hb).know F S (fun b h=>(hF b h).1) (fun i r hi b hp hf=>by
  rcases(hF b hf).2 with h|h
  ·have:=((H.all i r hi).lt b hp).2;omega
  ·exact hG.apart H i r hi b hp h) hS
theorem HoldG.pick (H:HoldG M w0 W l) (js:List Nat) (l':List Res) (hn:js.Nodup) (h:js.map (fun j=>l[j]?)=l'.map some):HoldG M w0 W l':=by
 have hlen:js.length=l'.length:=by simpa using congrArg List.length h
 have key:∀ (i:Nat) (r:Res),l'[i]?=some r->∃ j:Nat,js[i]?=some j/\l[j]?=some r:=by
  intro i r hi;have h1:(l'.map some)[i]?=some (some r):=by rw[List.getElem?_map,hi];rfl
  rw[← h,List.getElem?_map]at h1;obtain⟨j,hj,e⟩:=Option.map_eq_some_iff.1 h1;exact⟨j,hj,e⟩
 refine⟨H.keep,fun i r hi=>?_,fun i k r s hik hi hk=>?_⟩
 ·obtain⟨j,_,e⟩:=key i r hi;exact H.all j r e
 ·obtain⟨j,hj,e⟩:=key i r hi;obtain⟨m,hm,e'⟩:=key k s hk;refine H.apart j m r s (fun ejm=>hik ?_) e e'
  subst ejm;obtain⟨h1,h1'⟩:=List.getElem?_eq_some_iff.1 hj;obtain⟨h2,h2'⟩:=List.getElem?_eq_some_iff.1 hm;exact(List.getElem_inj hn).1 (h1'.trans h2'.symm)
theorem HoldG.rest (H:HoldG M w0 W l) {i:Nat} {r:Res} (hi:At l i r) (S:World->Prop) (hS:∀ V:World,(∀ b,r.foot b->V.heap[b]?=W.heap[b]?)->S V):HoldG M w0 W (l.set i (.kn r.foot S)):=by
 have hil:i<l.length:=(List.getElem?_eq_some_iff.1 hi.get).1;refine⟨H.keep,fun j s hs=>?_,fun j k s t hjk hs ht=>?_⟩
 ·rw[List.getElem?_set]at hs;split at hs
  ·rename_i e;subst e;cases hs
   exact⟨fun b hb=>(H.all i r hi.get).ltf b hb,hS⟩
  ·exact H.all j s hs
 ·rw[List.getElem?_set]at hs ht;split at hs
  ·rename_i e;subst e;cases hs
   intro b hb;cases hb
  ·split at ht
   ·rename_i _ e;subst e;cases ht
    exact H.apart j i s r hjk hs hi.get
   ·exact H.apart j k s t hjk hs ht
end
def RdN (sz:Nat) (W:World) (F:Nat->Prop) (s:Value) (rows:List (Array Value)):Prop :=
 ∃ p cap,s=.slice p rows.length cap/\rows.length<=cap/\cap<=maxLen/\(p=none->cap=0) /\
  ∀ (j:Nat) (r:Array Value),rows[j]?=some r->∃ b off,p=some ⟨b,off,none⟩/\F b/\r.size=sz/\∀ k,k<sz->W.cell? ⟨b,off+j * sz+k,none⟩=r[k]?
theorem RdN.kept {sz:Nat} {W V:World} {F:Nat->Prop} {s:Value} {rows:List (Array Value)} (h:RdN sz W F s rows) (hk:∀ b,F b->V.heap[b]?=W.heap[b]?):RdN sz V F s rows:=by
 obtain⟨p,cap,e,h1,h2,h0,h3⟩:=h;refine⟨p,cap,e,h1,h2,h0,fun j r hj=>?_⟩
 obtain⟨b,off,e1,e2,e3,e4⟩:=h3 j r hj;refine⟨b,off,e1,e2,e3,fun k hk'=>?_⟩
 rw[← e4 k hk'];simp[World.cell?,hk b e2]
theorem RdN.mono {sz:Nat} {W:World} {F G:Nat->Prop} {s:Value} {rows:List (Array Value)} (h:RdN sz W F s rows) (hFG:∀ b,F b->G b):RdN sz W G s rows:=by
 obtain⟨p,cap,e,h1,h2,h0,h3⟩:=h;exact⟨p,cap,e,h1,h2,h0,fun j r hj=>let ⟨b,off,e1,e2,e3⟩:=h3 j r hj;⟨b,off,e1,hFG b e2,e3⟩⟩
theorem RdN.nil (sz:Nat) (W:World) (F:Nat->Prop) (p:Option Addr):RdN sz W F (.slice p 0 0) []:=⟨p,0,rfl,Nat.le_refl _,by simp,fun _=>rfl,fun j r h=>by simp at h⟩
def zAW (rows:List (Array Value)):List Value:=(rows.map Array.toList).flatten
theorem zDU (rows rows':List (Array Value)):zAW (rows++rows')=zAW rows++zAW rows':=by simp[zAW]
theorem zDh {sz:Nat}:∀ {rows:List (Array Value)},(∀ r ∈ rows,r.size=sz)->(zAW rows).length=rows.length * sz
 | [],_=>by simp[zAW]
 | r::rows,h=>by
  have ih:=zDh (rows:=rows) (fun r hr=>h r (List.mem_cons_of_mem _ hr))
  have h1:=h r (List.mem_cons_self ..);simp only[zAW,List.map_cons,List.flatten_cons,List.length_append,List.length_cons]at *;rw[ih,Array.length_toList,h1,Nat.succ_mul];omega
theorem zDP {sz:Nat}:∀ {rows:List (Array Value)},(∀ r ∈ rows,r.size=sz)->∀ {j:Nat} {r:Array Value} {k:Nat},rows[j]?=some r->k<sz->(zAW rows)[j * sz+k]?=r[k]?
 | [],_,_,_,_,h,_=>by simp at h
 | q::rows,hs,0,r,k,h,hk=>by
  simp at h;subst h;have h1:=hs q (List.mem_cons_self ..);simp only[zAW,List.map_cons,List.flatten_cons];rw[Nat.zero_mul,Nat.zero_add,List.getElem?_append_left (by simp;omega)]
  simp
 | q::rows,hs,j+1,r,k,h,hk=>by
  have h1:=hs q (List.mem_cons_self ..);have ih:=zDP (rows:=rows) (fun r hr=>hs r (List.mem_cons_of_mem _ hr)) (j:=j) (r:=r) (k:=k) (by simpa using h) hk
  simp only[zAW,List.map_cons,List.flatten_cons]at *;rw[Nat.succ_mul,List.getElem?_append_right (by simp;omega),← ih]
  simp only[Array.length_toList,h1]
  congr 1;omega
theorem RdN.of_own {sz:Nat} {w V:World} {base:Nat} {e:TypeId} {v:Value} {n:Nat} {rows:List (Array Value)} (h:w.ownsRow base e sz v n (zAW rows)) (hs:∀ r ∈ rows,r.size=sz) (hl:rows.length=n)
  (hk:∀ b,v.ownBlock=some b->V.heap[b]?=w.heap[b]?):RdN sz V (fun b=>v.ownBlock=some b) v rows:=by
 subst hl;obtain⟨_,⟨rfl,hn⟩|⟨g,cap,cur,rfl,hb,hg,hn,hc,hsz,ht⟩⟩:=h
 ·rw[List.length_eq_zero_iff.1 hn];exact RdN.nil ..
 ·refine⟨_,cap,rfl,hn,hc,(fun h=>by cases h),fun j r hj=>⟨g,0,rfl,rfl,hs r (List.mem_of_getElem? hj),fun k hk'=>?_⟩⟩
  have hg':V.heap[g]?=some (.cells cur e (0,0)):=(hk g rfl).trans hg;have hlt:=(List.getElem?_eq_some_iff.1 hj).1;rw[cell_of_row V g (0+j * sz+k) cur e (0,0) hg',Nat.zero_add,← zDP hs hj hk',← ht,List.getElem?_take,if_pos,Array.getElem?_toList];have:(j+1) * sz<=rows.length * sz:=Nat.mul_le_mul_right _ hlt;rw[Nat.succ_mul]at this;omega
section
variable {P:Program} {ops:Array Oper} {rest:List Oper} {o:Oper} {a:Act} {w w0:World} {Q:Exit->Act->World->Prop} {l:List Res} {M:Nat->Prop}
theorem zJZ {T:TypeId} {b k n:Nat} {vs:Array Value} (hT:rowB P T n=true) (hn:vs.size=n) (hv:∀ j,j<n->w.cell? ⟨b,k+j,none⟩=vs[j]?):(loadVar T ⟨b,k,none⟩).run P w=.ok (.agg vs) w:=by
 obtain⟨d,hu,hd,hs⟩:=zGg hT
 have:=run_loadVar_mid (P:=P) w b k T vs.toList d (fun j v hj=>by
  have hlt:j<n:=by have:=(List.getElem?_eq_some_iff.1 hj).1;simp at this;omega
  rw[hv j hlt];simpa using hj) hu hd (by rw[hs];simp[hn])
 simpa using this
theorem zAk {T:TypeId} {x:Operand} (ho:o.op=.load T x) {b k n:Nat} (hx:a.eval x=.pointer (some ⟨b,k,none⟩)) {vs:Array Value} (hT:rowB P T n=true) (hn:vs.size=n) (hv:∀ j,j<n->w.cell? ⟨b,k+j,none⟩=vs[j]?) :
  (execOp a.eval o).run P w=.ok (.value (.agg vs)) w:=by
 unfold execOp;simp only[ho,hx,Instr.loadAt,Instr.sureAddr,Sem.run_bind,Sem.run_pure,Result.andThen_ok,zJZ hT hn hv]
theorem zCW (hg:Region.wanted o (yielded ops a.tmps)=true) (T:TypeId) (x:Operand) (ho:o.op=.load T x) {b k n:Nat} (hx:a.eval x=.pointer (some ⟨b,k,none⟩)) {vs:Array Value} (hT:rowB P T n=true) (hn:vs.size=n) (hv:∀ j,j<n->w.cell? ⟨b,k+j,none⟩=vs[j]?)
  (h:wpList P ops Q rest (a.put o.dst (.agg vs)) w):wpList P ops Q (o::rest) a w :=
 zAh hg (zAk ho hx hT hn hv) h
theorem zAC {T:TypeId} {x:Operand} (ho:o.op=.load T x) {ad:Addr} (hx:a.eval x=.pointer (some ad)) (hT:oneB P T=true) {v:Value} (hv:w.cell? ad=some v) :
  (execOp a.eval o).run P w=.ok (.value v) w:=by
 unfold execOp;simp only[ho,hx,Instr.loadAt,Instr.sureAddr,Sem.run_bind,Sem.run_pure,Result.andThen_ok,zCX hT hv]
theorem zAK (hg:Region.wanted o (yielded ops a.tmps)=true) (T:TypeId) (x:Operand) (ho:o.op=.load T x) {ad:Addr} (hx:a.eval x=.pointer (some ad)) (hT:oneB P T=true) {v:Value} (hv:w.cell? ad=some v)
  (h:wpList P ops Q rest (a.put o.dst v) w):wpList P ops Q (o::rest) a w :=
 zAh hg (zAC ho hx hT hv) h
theorem HoldG.rowCell (H:HoldG M w0 w l) {i g n cap sz:Nat} {e:TypeId} {rows:List (Array Value)} (hi:At l i (.row (.slice (some ⟨g,0,none⟩) n cap) e sz n (zAW rows))) (hs:∀ r ∈ rows,r.size=sz) (hl:rows.length=n) {j:Nat} {r:Array Value} (hj:rows[j]?=some r) {q:Nat} (hq:j * sz=q) :
  ∀ k,k<sz->w.cell? ⟨g,q+k,none⟩=r[k]?:=by
 subst hq;intro k hk;have h:=RdN.of_own (V:=w) (H.all i _ hi.get) hs hl (fun _ _=>rfl)
 obtain⟨p,c,e1,_,_,_,h3⟩:=h;obtain⟨b,off,e2,_,_,h4⟩:=h3 j r hj
 cases e1;cases e2
 have:=h4 k hk
 rwa [Nat.zero_add]at this
end
theorem zJW {w:World} {base:Nat} {e:TypeId} {sz g n cap m:Nat} {xs:List Value} (h:w.ownsRow base e sz (.slice (some ⟨g,0,none⟩) n cap) n xs) (hm:m<=n):w.ownsRow base e sz (.slice (some ⟨g,0,none⟩) m cap) m (xs.take (m * sz)):=by
 have hmn:m * sz<=n * sz:=Nat.mul_le_mul_right _ hm;obtain⟨hl,⟨hv,_⟩|⟨g',cap',cur,hv,hb,hg,hn,hc,hsz,ht⟩⟩:=h
 ·cases hv
 ·cases hv
  refine⟨by rw[List.length_take];omega,.inr ⟨g,cap,cur,rfl,hb,hg,by omega,hc,hsz,?_⟩⟩
  rw[← ht,List.take_take,Nat.min_eq_left hmn]
section
variable {M:Nat->Prop} {w0 w:World} {l:List Res}
theorem HoldG.cutRow (H:HoldG M w0 w l) {i g n cap m sz:Nat} {e:TypeId} {xs:List Value} (hi:At l i (.row (.slice (some ⟨g,0,none⟩) n cap) e sz n xs)) (hm:m<=n):HoldG M w0 w (l.set i (.row (.slice (some ⟨g,0,none⟩) m cap) e sz m (xs.take (m * sz)))) :=
 H.upd hi.get ⟨rfl,rfl,rfl,Nat.le_refl _,fun _ _ _=>rfl⟩ (zJW (H.all i _ hi.get) hm) (fun _ e=>.inl e)
theorem HoldG.row1 (H:HoldG M w0 w l) {i g n cap:Nat} {e:TypeId} {xs:List Value} (hi:At l i (.row (.slice (some ⟨g,0,none⟩) n cap) e 1 n xs)) {j:Nat} {v:Value} (hj:xs[j]?=some v):w.cell? ⟨g,j,none⟩=some v:=by
 rcases Rd.of_own (H.all i _ hi.get) with ⟨_,h⟩|⟨b,off,cap',e1,_,_,_,h4⟩
 ·subst h;simp at hj
 ·obtain⟨hlt,rfl⟩:=List.getElem?_eq_some_iff.1 hj;injection e1 with e2 e3 e4
  injection e2 with e2
  injection e2 with e2 e5
  subst e2 e5
  simpa using h4 j hlt
theorem HoldG.rowShape (H:HoldG M w0 w l) {i n sz:Nat} {e:TypeId} {v:Value} {xs:List Value} (hi:At l i (.row v e sz n xs)):∃ q cap,v=.slice q n cap/\n<=cap/\cap<=maxLen/\(0<n->∃ g,q=some ⟨g,0,none⟩):=by
 obtain⟨_,⟨hv,hn⟩|⟨g,cap,cur,hv,_,_,hn,hc,_⟩⟩:=H.all i _ hi.get
 ·exact⟨none,0,by rw[hv,hn],by omega,by simp,fun h=>by omega⟩
 ·exact⟨_,cap,hv,hn,hc,fun _=>⟨g,rfl⟩⟩
end
section
variable {M:Nat->Prop} {w0 W:World} {l:List Res}
end
structure NodeD where
 kind:Int
 set:Nat->Nat:=zAG
 lo:Int:=0
 hi:Int:=0
 lazy:Bool:=false
 group:Int:=0
inductive Tree where
 | mk (d:NodeD) (kids:List Tree)
def Tree.d:Tree->NodeD|.mk d _=>d
def Tree.kids:Tree->List Tree|.mk _ k=>k
theorem zHK {α:Type} {l:List α} {i:Nat} {x:α} (h:l[i]?=some x):l.take (i+1)=l.take i++[x]:=by
 rw[List.take_add_one,h];rfl
def zMC (d:NodeD) (s:Value):Array Value:=#[.int .i64 d.kind,.int .u64 (d.set 0),.int .u64 (d.set 1),.int .u64 (d.set 2),.int .u64 (d.set 3),s,.int .i64 d.lo,.int .i64 d.hi,.bool d.lazy,.int .i64 d.group]
abbrev nilS:Value:=.slice none 0 0
abbrev TV:=Tree × Option Addr × Nat
abbrev zOT (x:TV):Array Value:=zMC x.1.d (.slice x.2.1 x.1.kids.length x.2.2)
inductive ForestR (W:World) (F:Nat->Prop):Option Addr->Nat->List Tree->Prop where
 | mk (p:Option Addr) (c:Nat) (ts:List Tree) (xs:List TV) (h:RdN 10 W F (.slice p ts.length c) (xs.map zOT)) (hk:∀ x ∈ xs,ForestR W F x.2.1 x.2.2 x.1.kids) (e:ts=xs.map (·.1)):ForestR W F p c ts
theorem ForestR.mono {W:World} {F G:Nat->Prop} {p:Option Addr} {c:Nat} {ts:List Tree} (h:ForestR W F p c ts) (hFG:∀ b,F b->G b):ForestR W G p c ts:=by
 induction h with
 | mk p c ts xs h _ e ih=>exact .mk p c ts xs (h.mono hFG) ih e
theorem ForestR.nil (W:World) (F:Nat->Prop) (p:Option Addr):ForestR W F p 0 []:=.mk _ _ _ [] (RdN.nil ..) (fun _ h=>by cases h) rfl
def ListR (W:World) (F:Nat->Prop) (xs:List TV):Prop:=∀ x ∈ xs,ForestR W F x.2.1 x.2.2 x.1.kids
theorem ListR.mono {W:World} {F G:Nat->Prop} {xs:List TV} (h:ListR W F xs) (hFG:∀ b,F b->G b):ListR W G xs:=fun x hx=>(h x hx).mono hFG
theorem ListR.append {W:World} {F:Nat->Prop} {xs ys:List TV} (h:ListR W F xs) (k:ListR W F ys):ListR W F (xs++ys):=fun x hx=>(List.mem_append.1 hx).elim (h x) (k x)
theorem ListR.nil (W:World) (F:Nat->Prop):ListR W F []:=fun _ h=>by cases h
theorem ListR.one {W:World} {F:Nat->Prop} {t:Tree} {p:Option Addr} {c:Nat} (h:ForestR W F p c t.kids):ListR W F [(t,p,c)]:=fun x hx=>by
 rw[List.mem_singleton]at hx;subst hx;exact h
abbrev zNC:=Bool × Bool × Bool
def zJl (f:zNC):Array Value:=#[.bool f.1,.bool f.2.1,.bool f.2.2]
def zQo (k:Int):Tree:=.mk {kind:=k} []
def spotT (f:zNC) (a b:Int):Tree:=zQo (if f.2.1 then b else a)
end
section
open Go.RowKit Go.Shelf
theorem zAF:oneB Tryz.prog 3=true:=by kernel_rfl
theorem zBd:oneB Tryz.prog 5=true:=by kernel_rfl
theorem zC7:oneB Tryz.prog 4=true:=by kernel_rfl
theorem zI1:oneB Tryz.prog 9=true:=by kernel_rfl
theorem zAo:oneB Tryz.prog 31=true:=by kernel_rfl
theorem zBj:rowB Tryz.prog 30 4=true:=by kernel_rfl
theorem zSet:zBa Tryz.prog 30=setC zAG:=by kernel_rfl
theorem zQj:zBa Tryz.prog 92=zI4 {kind:=0,place:=0}:=by kernel_rfl
theorem zA3:oneB Tryz.prog 27=true:=by kernel_rfl
theorem zAv:oneB Tryz.prog 55=true:=by kernel_rfl
theorem zCI:oneB Tryz.prog 23=true:=by kernel_rfl
theorem zIZ:oneB Tryz.prog 148=true:=by kernel_rfl
theorem zA2:oneB Tryz.prog 25=true:=by kernel_rfl
theorem zQZ:zBa Tryz.prog 39=zMC {kind:=0} nilS:=by kernel_rfl
theorem zQJ:zBa Tryz.prog 44=zJl (false,false,false):=by kernel_rfl
theorem zInt:zBa Tryz.prog 3=#[.int .i64 0]:=by kernel_rfl
theorem zQL:zBa Tryz.prog 40=#[.int .i64 0]:=by kernel_rfl
theorem nrm:zBa Tryz.prog 30=setC zAG/\zBa Tryz.prog 92=zI4 {kind:=0,place:=0}/\zBa Tryz.prog 39=zMC {kind:=0} nilS/\zBa Tryz.prog 44=zJl (false,false,false)/\zBa Tryz.prog 3=#[.int .i64 0]/\zBa Tryz.prog 40=#[.int .i64 0]:=⟨zSet,zQj,zQZ,zQJ,zInt,zQL⟩
theorem nrl {α:Type}:(∀ (a:α) (l r:List α),a::l++r=a::(l++r))/\(∀ l:List α,[]++l=l)/\(∀ l:List α,l++[]=l)/\(∀ (a b:α) (l:List α),(a::l).set 0 b=b::l)/\(∀ (a b:α) (l:List α) (n:Nat),(a::l).set (n+1) b=a::l.set n b)/\∀ (a:α) (l:List α) (n:Nat),l.toArray.setIfInBounds n a=(l.set n a).toArray :=
 ⟨fun _ _ _=>rfl,fun _=>rfl,List.append_nil,fun _ _ _=>rfl,fun _ _ _ _=>rfl,fun _ _ _=>List.setIfInBounds_toArray ..⟩
theorem nr:(zBa Tryz.prog 30=setC zAG/\zBa Tryz.prog 92=zI4 {kind:=0,place:=0}/\zBa Tryz.prog 39=zMC {kind:=0} nilS/\zBa Tryz.prog 44=zJl (false,false,false)/\zBa Tryz.prog 3=#[.int .i64 0]/\zBa Tryz.prog 40=#[.int .i64 0])/\(∀ {α:Type},(∀ (a:α) (l r:List α),a::l++r=a::(l++r))/\(∀ l:List α,[]++l=l)/\(∀ l:List α,l++[]=l)/\(∀ (a b:α) (l:List α),(a::l).set 0 b=b::l)/\(∀ (a b:α) (l:List α) (n:Nat),(a::l).set (n+1) b=a::l.set n b)/\∀ (a:α) (l:List α) (n:Nat),l.toArray.setIfInBounds n a=(l.set n a).toArray)/\(∀ (k:IntKind) (n:Int),(Value.int k n).cells=#[Value.int k n])/\(∀ (b:Bool),(Value.bool b).cells=#[Value.bool b])/\(∀ (s:ByteArray),(Value.string s).cells=#[Value.string s])/\(∀ (p:Option Addr),(Value.pointer p).cells=#[Value.pointer p])/\(∀ (p:Option Addr) (n c:Nat),(Value.slice p n c).cells=#[Value.slice p n c])/\(∀ (r:Option Nat),(Value.map r).cells=#[Value.map r])/\∀ cs:Array Value,(Value.agg cs).cells=cs :=
 ⟨nrm,nrl,fun _ _=>rfl,fun _=>rfl,fun _=>rfl,fun _=>rfl,fun _ _ _=>rfl,fun _=>rfl,fun _=>rfl⟩
theorem ch {M:Nat->Prop} {P:Program} {f:FuncId} {args:Array Value} {w w0:World} {l:List Res} {e0:Ending} {R:Ending->World->Prop} (c:Calls P f args w fun e w'=>e=e0/\Below w.heap.size w w') (H:HoldG M w0 w l)
  (k:∀ w',HoldG M w0 w' l->R e0 w'):Calls P f args w R:=c.mono fun _ w' h=>h.1 ▸ k w' (H.call h.2)
section
variable {M:Nat->Prop} {ops:Array Oper} {dst:Option Tmp} {ty:TypeId} {pos:String} {aft:Array Edge} {grd:Option (Nat × Bool)} {rest:List Oper} {a:Act} {w w0:World} {l:List Res} {Q:Exit->Act->World->Prop}
theorem gT {T:TypeId} {x y:Operand} (h:wpList Tryz.prog ops Q ((⟨dst,.store T x y,ty,pos,aft,grd⟩:Oper)::rest) a w):wpList Tryz.prog ops Q ((⟨dst,.store T x y,ty,pos,aft,grd⟩:Oper)::rest) a w:=h
theorem gL {T:TypeId} {x:Operand} (h:wpList Tryz.prog ops Q ((⟨dst,.load T x,ty,pos,aft,grd⟩:Oper)::rest) a w):wpList Tryz.prog ops Q ((⟨dst,.load T x,ty,pos,aft,grd⟩:Oper)::rest) a w:=h
theorem gX {T:TypeId} {x:Operand} (h:wpList Tryz.prog ops Q ((⟨dst,.box T x,ty,pos,aft,grd⟩:Oper)::rest) a w):wpList Tryz.prog ops Q ((⟨dst,.box T x,ty,pos,aft,grd⟩:Oper)::rest) a w:=h
theorem gA {T:TypeId} (h:wpList Tryz.prog ops Q ((⟨dst,.alloc T,ty,pos,aft,grd⟩:Oper)::rest) a w):wpList Tryz.prog ops Q ((⟨dst,.alloc T,ty,pos,aft,grd⟩:Oper)::rest) a w:=h
theorem gZ {T:TypeId} {parts:Array (Nat × Operand)} (h:wpList Tryz.prog ops Q ((⟨dst,.build T parts,ty,pos,aft,grd⟩:Oper)::rest) a w):wpList Tryz.prog ops Q ((⟨dst,.build T parts,ty,pos,aft,grd⟩:Oper)::rest) a w:=h
theorem gE {T U:TypeId} {x y:Operand} (h:wpList Tryz.prog ops Q ((⟨dst,.binOp .eql T x y U,ty,pos,aft,grd⟩:Oper)::rest) a w):wpList Tryz.prog ops Q ((⟨dst,.binOp .eql T x y U,ty,pos,aft,grd⟩:Oper)::rest) a w:=h
theorem kgX (k:Tmp) {T:TypeId} {x:Operand} (h:wpList Tryz.prog ops Q ((⟨some k,.box T x,ty,pos,aft,grd⟩:Oper)::rest) a w):wpList Tryz.prog ops Q ((⟨some k,.box T x,ty,pos,aft,grd⟩:Oper)::rest) a w:=h
theorem kg (k:Tmp) {p:Op} (h:wpList Tryz.prog ops Q ((⟨some k,p,ty,pos,aft,grd⟩:Oper)::rest) a w):wpList Tryz.prog ops Q ((⟨some k,p,ty,pos,aft,grd⟩:Oper)::rest) a w:=h
theorem kgA (k:Tmp) {T:TypeId} (h:wpList Tryz.prog ops Q ((⟨some k,.alloc T,ty,pos,aft,grd⟩:Oper)::rest) a w):wpList Tryz.prog ops Q ((⟨some k,.alloc T,ty,pos,aft,grd⟩:Oper)::rest) a w:=h
theorem aS (H:HoldG M w0 w l) {T:TypeId} {x y:Operand} {i b:Nat} {cs:Array Value} {U:TypeId} {s:Nat->Nat} (h:∀ w',HoldG M w0 w' (l.set i (.blk b (setC s) U))->wpList Tryz.prog ops Q rest (a.put dst undef) w') (hg:Region.wanted (⟨dst,.store T x y,ty,pos,aft,grd⟩:Oper) (yielded ops a.tmps)=true:=by first|rfl|exact zAT rfl (zAM rfl (by first|rfl|(simp only[pe];rfl)))) (hx:a.eval x=.pointer (some ⟨b,0,none⟩):=by exact rfl) (hy:a.eval y=setV s:=by (try simp only[pe]);with_reducible rfl) (hi:At l i (.blk b cs U):=by repeat (first|(with_reducible exact At.zero)|apply At.succ)) (hT:zDD Tryz.prog T 4=true:=by with_reducible exact zEX zBj) (hn:cs.size=4:=by rfl):wpList Tryz.prog ops Q ((⟨dst,.store T x y,ty,pos,aft,grd⟩:Oper)::rest) a w :=
 zKc hg T x y rfl hx hy H hi hT hn h
theorem aZ  (h:wpList Tryz.prog ops Q rest (a.put dst (setV zAG)) w) (hg:Region.wanted (⟨dst,.build 30 #[],ty,pos,aft,grd⟩:Oper) (yielded ops a.tmps)=true:=by first|rfl|exact zAT rfl (zAM rfl (by first|rfl|(simp only[pe];rfl)))):wpList Tryz.prog ops Q ((⟨dst,.build 30 #[],ty,pos,aft,grd⟩:Oper)::rest) a w :=
 zN6 hg rfl h
theorem aL (H:HoldG M w0 w l) {T:TypeId} {x:Operand} {i b:Nat} {s:Nat->Nat} {U:TypeId} (h:wpList Tryz.prog ops Q rest (a.put dst (setV s)) w) (hg:Region.wanted (⟨dst,.load T x,ty,pos,aft,grd⟩:Oper) (yielded ops a.tmps)=true:=by first|rfl|exact zAT rfl (zAM rfl (by first|rfl|(simp only[pe];rfl)))) (hx:a.eval x=.pointer (some ⟨b,0,none⟩):=by exact rfl) (hi:At l i (.blk b (setC s) U):=by repeat (first|(with_reducible exact At.zero)|apply At.succ)) (hT:rowB Tryz.prog T 4=true:=by with_reducible exact zBj):wpList Tryz.prog ops Q ((⟨dst,.load T x,ty,pos,aft,grd⟩:Oper)::rest) a w :=
 zMW hg T x rfl hx H hi hT h
theorem bA (H:HoldG M w0 w l) {T:TypeId} (h:∀ b w',HoldG M w0 w' (l++[.blk b (zBa Tryz.prog T) T])->wpList Tryz.prog ops Q rest (a.put dst (.pointer (some ⟨b,0,none⟩))) w') (hg:Region.wanted (⟨dst,.alloc T,ty,pos,aft,grd⟩:Oper) (yielded ops a.tmps)=true:=by first|rfl|exact zAT rfl (zAM rfl (by first|rfl|(simp only[pe];rfl)))) (hi:((Tryz.prog.info? T).bind (·.zero)).isSome=true:=by kernel_rfl):wpList Tryz.prog ops Q ((⟨dst,.alloc T,ty,pos,aft,grd⟩:Oper)::rest) a w :=
 zCa hg T rfl H hi h
theorem bB (H:HoldG M w0 w l) {T:TypeId} {x:Operand} {v:Value} (h:∀ b w',HoldG M w0 w' (l++[.blk b v.cells T])->wpList Tryz.prog ops Q rest (a.put dst (.pointer (some ⟨b,0,none⟩))) w') (hg:Region.wanted (⟨dst,.box T x,ty,pos,aft,grd⟩:Oper) (yielded ops a.tmps)=true:=by first|rfl|exact zAT rfl (zAM rfl (by first|rfl|(simp only[pe];rfl)))) (hx:a.eval x=v:=by first|(simp only[pe];done)|(simp only[pe];rfl)):wpList Tryz.prog ops Q ((⟨dst,.box T x,ty,pos,aft,grd⟩:Oper)::rest) a w :=
 zIz hg T x rfl hx H h
theorem kS (k:Tmp) (H:HoldG M w0 w l) {T:TypeId} {x:Operand} {s:Nat->Nat} (h:∀ b w',HoldG M w0 w' (l++[.blk b (setC s) T])->wpList Tryz.prog ops Q rest (a.put (some k) (.pointer (some ⟨b,0,none⟩))) w') (hg:Region.wanted (⟨some k,.box T x,ty,pos,aft,grd⟩:Oper) (yielded ops a.tmps)=true:=by first|rfl|exact zAT rfl (zAM rfl (by first|rfl|(simp only[pe];rfl)))) (hx:a.eval x=setV s:=by (try simp only[pe]);with_reducible rfl):wpList Tryz.prog ops Q ((⟨some k,.box T x,ty,pos,aft,grd⟩:Oper)::rest) a w :=
 zNw hg T x rfl hx H h
theorem kA (k:Tmp) (H:HoldG M w0 w l) {T:TypeId} (h:∀ b w',HoldG M w0 w' (l++[.blk b (zBa Tryz.prog T) T])->wpList Tryz.prog ops Q rest (a.put (some k) (.pointer (some ⟨b,0,none⟩))) w') (hg:Region.wanted (⟨some k,.alloc T,ty,pos,aft,grd⟩:Oper) (yielded ops a.tmps)=true:=by first|rfl|exact zAT rfl (zAM rfl (by first|rfl|(simp only[pe];rfl)))) (hi:((Tryz.prog.info? T).bind (·.zero)).isSome=true:=by kernel_rfl):wpList Tryz.prog ops Q ((⟨some k,.alloc T,ty,pos,aft,grd⟩:Oper)::rest) a w :=
 zCa hg T rfl H hi h
theorem kB (k:Tmp) (H:HoldG M w0 w l) {T:TypeId} {x:Operand} {v:Value} (h:∀ b w',HoldG M w0 w' (l++[.blk b v.cells T])->wpList Tryz.prog ops Q rest (a.put (some k) (.pointer (some ⟨b,0,none⟩))) w') (hg:Region.wanted (⟨some k,.box T x,ty,pos,aft,grd⟩:Oper) (yielded ops a.tmps)=true:=by first|rfl|exact zAT rfl (zAM rfl (by first|rfl|(simp only[pe];rfl)))) (hx:a.eval x=v:=by first|(simp only[pe];done)|(simp only[pe];rfl)):wpList Tryz.prog ops Q ((⟨some k,.box T x,ty,pos,aft,grd⟩:Oper)::rest) a w :=
 zIz hg T x rfl hx H h
theorem aO (H:HoldG M w0 w l) {T:TypeId} {x y:Operand} {i b:Nat} {cs:Array Value} {U:TypeId} {k:Nat} {v:Value} (h:∀ w',HoldG M w0 w' (l.set i (.blk b (cs.setIfInBounds k v) U))->wpList Tryz.prog ops Q rest (a.put dst undef) w') (hg:Region.wanted (⟨dst,.store T x y,ty,pos,aft,grd⟩:Oper) (yielded ops a.tmps)=true:=by first|rfl|exact zAT rfl (zAM rfl (by first|rfl|(simp only[pe];rfl)))) (hx:a.eval x=.pointer (some ⟨b,k,none⟩):=by exact rfl) (hy:a.eval y=v:=by first|(simp only[pe];done)|(simp only[pe];rfl)) (hi:At l i (.blk b cs U):=by repeat (first|(with_reducible exact At.zero)|apply At.succ)) (h1:v.oneCell'=true:=by rfl) (hk:k<cs.size:=by first|(simp;done)|(simp[zI4];done)|(simp[zMC];done)|(simp[zJl];done)) (hT:zDD Tryz.prog T 1=true:=by first|(with_reducible exact zAD one_errno)|(with_reducible exact zAD zAF)|(with_reducible exact zAD zBd)|(with_reducible exact zAD zC7)|(with_reducible exact zAD zI1)|(with_reducible exact zAD zAo)|(with_reducible exact zAD one_u64)|(with_reducible exact zAD one_kids)|(with_reducible exact zAD one_rwords)|(with_reducible exact zAD one_p10)|(with_reducible exact zAD zA3)|(with_reducible exact zAD zAv)|(with_reducible exact zAD zCI)|(with_reducible exact zAD zIZ)|(with_reducible exact zAD zA2)):wpList Tryz.prog ops Q ((⟨dst,.store T x y,ty,pos,aft,grd⟩:Oper)::rest) a w :=
 zAN hg T x y rfl hx hy H hi h1 hk hT h
theorem aG (H:HoldG M w0 w l) {T:TypeId} {x:Operand} {i b:Nat} {cs:Array Value} {U:TypeId} {k:Nat} {v:Value} (h:wpList Tryz.prog ops Q rest (a.put dst v) w) (hg:Region.wanted (⟨dst,.load T x,ty,pos,aft,grd⟩:Oper) (yielded ops a.tmps)=true:=by first|rfl|exact zAT rfl (zAM rfl (by first|rfl|(simp only[pe];rfl)))) (hx:a.eval x=.pointer (some ⟨b,k,none⟩):=by exact rfl) (hi:At l i (.blk b cs U):=by repeat (first|(with_reducible exact At.zero)|apply At.succ)) (hT:oneB Tryz.prog T=true:=by first|(with_reducible exact one_errno)|(with_reducible exact zAF)|(with_reducible exact zBd)|(with_reducible exact zC7)|(with_reducible exact zI1)|(with_reducible exact zAo)|(with_reducible exact one_u64)|(with_reducible exact one_kids)|(with_reducible exact one_rwords)|(with_reducible exact one_p10)|(with_reducible exact zA3)|(with_reducible exact zAv)|(with_reducible exact zCI)|(with_reducible exact zIZ)|(with_reducible exact zA2)) (hv:cs[k]?=some v:=by first|(with_reducible exact wg0 _)|(with_reducible exact wg1 _)|(with_reducible exact wg2 _)|(with_reducible exact wg3 _)|(with_reducible exact wg4 _)|(with_reducible exact wg5 _)|(with_reducible exact wg6 _)|(with_reducible exact wg7 _)|(with_reducible exact wg8 _)|(with_reducible exact wg9 _)|(with_reducible exact wg10 _)|(with_reducible exact wg11 _)|(with_reducible exact wg12 _)|(with_reducible exact wg13 _)|(with_reducible exact wg14 _)|(with_reducible exact wg15 _)|(with_reducible exact wg16 _)|(with_reducible exact fg0 _)|(with_reducible exact fg1 _)|(with_reducible exact fg2 _)|(with_reducible exact ng0 _ _)|(with_reducible exact ng1 _ _)|(with_reducible exact ng2 _ _)|(with_reducible exact ng3 _ _)|(with_reducible exact ng4 _ _)|(with_reducible exact ng5 _ _)|(with_reducible exact ng6 _ _)|(with_reducible exact ng7 _ _)|(with_reducible exact ng8 _ _)|(with_reducible exact ng9 _ _)|rfl):wpList Tryz.prog ops Q ((⟨dst,.load T x,ty,pos,aft,grd⟩:Oper)::rest) a w :=
 zAE hg T x rfl hx H hi hT hv h
theorem aE {T:TypeId} {x y:Operand} {U:TypeId} {L L':Str} (h:wpList Tryz.prog ops Q rest (a.put dst (.bool (L == L'))) w) (hg:Region.wanted (⟨dst,.binOp .eql T x y U,ty,pos,aft,grd⟩:Oper) (yielded ops a.tmps)=true:=by first|rfl|exact zAT rfl (zAM rfl (by first|rfl|(simp only[pe];rfl)))) (hx:a.eval x=.string ⟨L.toArray⟩:=by exact rfl) (hy:a.eval y=.string ⟨L'.toArray⟩:=by exact rfl) (hq:∀ w:World,(eqGuard .eql T x y (.string ⟨L.toArray⟩) (.string ⟨L'.toArray⟩)).run Tryz.prog w=.ok () w:=by exact fun _=>rfl):wpList Tryz.prog ops Q ((⟨dst,.binOp .eql T x y U,ty,pos,aft,grd⟩:Oper)::rest) a w :=
 zPh hg T x y U rfl hx hy hq h
end
section
variable {M:Nat->Prop} {a:Act} {w w0:World} {l:List Res} {fn:Func} {R:Ending->World->Prop} {p q r:Tmp} {T:TypeId} {b i n:Nat} {cs:Array Value} {U:TypeId} {s:Nat->Nat} {v u:Value}
theorem xc (hres:fn.results=#[.cell p T]) (H:HoldG M w0 w l) (h:R (.returned (.agg cs)) w) (hp:a.tmps.getD p undef=.pointer (some ⟨b,0,none⟩):=by exact rfl) (hi:At l i (.blk b cs U):=by repeat (first|(with_reducible exact At.zero)|apply At.succ)) (hT:rowB Tryz.prog T n=true:=by first|(with_reducible exact row_Word)|(with_reducible exact zBj)|(with_reducible exact row_Node)|(with_reducible exact row_Flags)) (hn:cs.size=n:=by rfl) (hd:a.defers=[]:=by exact rfl):bodyPost Tryz.prog fn R .ret a w:=zNv hres hp H hi hT hn hd h
theorem xct (hres:fn.results=#[.cell p T,.tmp q]) (H:HoldG M w0 w l) (h:R (.returned (.tuple #[.agg cs,v])) w) (hp:a.tmps.getD p undef=.pointer (some ⟨b,0,none⟩):=by exact rfl) (hq:a.tmps.getD q undef=v:=by first|rfl|(simp only[pl];rfl)) (hi:At l i (.blk b cs U):=by repeat (first|(with_reducible exact At.zero)|apply At.succ)) (hT:rowB Tryz.prog T n=true:=by first|(with_reducible exact row_Word)|(with_reducible exact zBj)|(with_reducible exact row_Node)|(with_reducible exact row_Flags)) (hn:cs.size=n:=by rfl) (hd:a.defers=[]:=by exact rfl):bodyPost Tryz.prog fn R .ret a w:=zEl hres hp hq H hi hT hn hd h
theorem xctt (hres:fn.results=#[.cell p T,.tmp q,.tmp r]) (H:HoldG M w0 w l) (h:R (.returned (.tuple #[.agg cs,v,u])) w) (hp:a.tmps.getD p undef=.pointer (some ⟨b,0,none⟩):=by exact rfl) (hq:a.tmps.getD q undef=v:=by first|rfl|(simp only[pl];rfl)) (hr:a.tmps.getD r undef=u:=by first|rfl|(simp only[pl];rfl)) (hi:At l i (.blk b cs U):=by repeat (first|(with_reducible exact At.zero)|apply At.succ)) (hT:rowB Tryz.prog T n=true:=by first|(with_reducible exact row_Word)|(with_reducible exact zBj)|(with_reducible exact row_Node)|(with_reducible exact row_Flags)) (hn:cs.size=n:=by rfl) (hd:a.defers=[]:=by exact rfl):bodyPost Tryz.prog fn R .ret a w:=zPa hres hp hq hr H hi hT hn hd h
theorem xcS (hres:fn.results=#[.cell p T]) (H:HoldG M w0 w l) (h:R (.returned (setV s)) w) (hp:a.tmps.getD p undef=.pointer (some ⟨b,0,none⟩):=by exact rfl) (hi:At l i (.blk b (setC s) U):=by repeat (first|(with_reducible exact At.zero)|apply At.succ)) (hT:rowB Tryz.prog T 4=true:=by with_reducible exact zBj) (hd:a.defers=[]:=by exact rfl):bodyPost Tryz.prog fn R .ret a w:=zQA hres hp H hi hT hd h
theorem xctS (hres:fn.results=#[.cell p T,.tmp q]) (H:HoldG M w0 w l) (h:R (.returned (.tuple #[setV s,v])) w) (hp:a.tmps.getD p undef=.pointer (some ⟨b,0,none⟩):=by exact rfl) (hq:a.tmps.getD q undef=v:=by first|rfl|(simp only[pl];rfl)) (hi:At l i (.blk b (setC s) U):=by repeat (first|(with_reducible exact At.zero)|apply At.succ)) (hT:rowB Tryz.prog T 4=true:=by with_reducible exact zBj) (hd:a.defers=[]:=by exact rfl):bodyPost Tryz.prog fn R .ret a w:=zOw hres hp hq H hi hT hd h
end
theorem ca {α:Type}:(∀ (a:α) (l r:List α),a::l++r=a::(l++r))/\∀ l:List α,[]++l=l:=⟨fun _ _ _=>rfl,fun _=>rfl⟩
theorem sc {α:Type}:(∀ (a b:α) (l:List α) (n:Nat),(a::l).set (n+1) b=a::l.set n b)/\∀ (a b:α) (l:List α),(a::l).set 0 b=b::l:=⟨fun _ _ _ _=>rfl,fun _ _ _=>rfl⟩
theorem ml {α β:Type} {f:α->β}:(∀ l:List α,l.toArray.map f=(l.map f).toArray)/\(∀ (a:α) (l:List α),(a::l).map f=f a::l.map f)/\([]:List α).map f=[]:=⟨fun _=>List.map_toArray ..,fun _ _=>rfl,rfl⟩
section
variable {ops:Array Oper} {dst:Option Tmp} {ty:TypeId} {pos:String} {aft:Array Edge} {grd:Option (Nat × Bool)} {rest:List Oper} {a:Act} {w:World} {Q:Exit->Act->World->Prop}
theorem gBS {x0:TypeId} {x1:Nat} {x2:Array (Nat × Operand)} (h:wpList Tryz.prog ops Q ((⟨dst,.buildSlice x0 x1 x2,ty,pos,aft,grd⟩:Oper)::rest) a w):wpList Tryz.prog ops Q ((⟨dst,.buildSlice x0 x1 x2,ty,pos,aft,grd⟩:Oper)::rest) a w:=h
theorem gIA {x0:TypeId} {x1 x2:Operand} (h:wpList Tryz.prog ops Q ((⟨dst,.indexAddr x0 x1 x2,ty,pos,aft,grd⟩:Oper)::rest) a w):wpList Tryz.prog ops Q ((⟨dst,.indexAddr x0 x1 x2,ty,pos,aft,grd⟩:Oper)::rest) a w:=h
theorem gCV {x0 x1:TypeId} {x2:Operand} (h:wpList Tryz.prog ops Q ((⟨dst,.convert x0 x1 x2,ty,pos,aft,grd⟩:Oper)::rest) a w):wpList Tryz.prog ops Q ((⟨dst,.convert x0 x1 x2,ty,pos,aft,grd⟩:Oper)::rest) a w:=h
theorem gSl {x0:TypeId} {x1:Operand} {x2 x3 x4:Option Operand} (h:wpList Tryz.prog ops Q ((⟨dst,.slice x0 x1 x2 x3 x4,ty,pos,aft,grd⟩:Oper)::rest) a w):wpList Tryz.prog ops Q ((⟨dst,.slice x0 x1 x2 x3 x4,ty,pos,aft,grd⟩:Oper)::rest) a w:=h
theorem gMS {x0:TypeId} {x1 x2:Operand} (h:wpList Tryz.prog ops Q ((⟨dst,.makeSlice x0 x1 x2,ty,pos,aft,grd⟩:Oper)::rest) a w):wpList Tryz.prog ops Q ((⟨dst,.makeSlice x0 x1 x2,ty,pos,aft,grd⟩:Oper)::rest) a w:=h
theorem gBd {x0:TypeId} {x1:Array (Nat × Operand)} (h:wpList Tryz.prog ops Q ((⟨dst,.build x0 x1,ty,pos,aft,grd⟩:Oper)::rest) a w):wpList Tryz.prog ops Q ((⟨dst,.build x0 x1,ty,pos,aft,grd⟩:Oper)::rest) a w:=h
end
section
variable {M:Nat->Prop} {ops:Array Oper} {dst:Option Tmp} {ty:TypeId} {pos:String} {aft:Array Edge} {grd:Option (Nat × Bool)} {rest:List Oper} {a:Act} {w w0:World} {l:List Res} {Q:Exit->Act->World->Prop}
theorem qN {x y:Operand} {t:TypeId} {s u:Nat->Nat} {q:Bool} (h:wpList Tryz.prog ops Q rest (a.put dst (.bool (!q))) w) (hg:Region.wanted (⟨dst,.binOp .neq 30 x y t,ty,pos,aft,grd⟩:Oper) (yielded ops a.tmps)=true:=by first|rfl|exact zAT rfl (zAM rfl (by first|rfl|(simp only[pe];rfl)))) (hx:a.eval x=setV s:=by (try simp only[pe]);with_reducible rfl) (hy:a.eval y=setV u:=by (try simp only[pe]);with_reducible rfl) (hq:eqS s u=q:=by first|assumption|rfl):wpList Tryz.prog ops Q ((⟨dst,.binOp .neq 30 x y t,ty,pos,aft,grd⟩:Oper)::rest) a w :=
 zAh hg (by
  have he:=zIg s u w;rw[hq]at he;simp only[execOp,hx,hy];unfold setV
  simp[go_sem,he]) h
end
end
end Go.Proofs.YtphjgfjbiimkjaaGreat
