/-
  Laws of walks, and walks.
-/
import Derived.Test.YtdpcemijdmbpiaaGreatPr1
import Derived.Laws.Slices
set_option linter.unusedVariables false
set_option linter.unusedSimpArgs false
set_option maxRecDepth 100000
set_option maxHeartbeats 16000000
namespace Go.Proofs.YtdpcemijdmbpiaaGreat
section
open Go.RowKit
section
variable {M:Nat→Prop} {w0 W W':World} {l:List Res}
theorem HoldG.kn (H:HoldG M w0 W l) {i:Nat} {F:Nat→Prop} {S:World→Prop} (hi:At l i (.kn F S)):S W:=(H.all i _ hi.get).2 W (fun _ _=>rfl)
theorem HoldG.knlt (H:HoldG M w0 W l) {i:Nat} {F:Nat→Prop} {S:World→Prop} (hi:At l i (.kn F S)):∀ b,F b→b<W.heap.size:=(H.all i _ hi.get).1
theorem HoldG.know (H:HoldG M w0 W l) (F:Nat→Prop) (S:World→Prop) (hlt:∀ b,F b→b<W.heap.size) (hap:∀ (i:Nat) (r:Res),l[i]?=some r→∀ b,r.place=some b→¬ F b)
  (hS:∀ V:World,(∀ b,F b→V.heap[b]?=W.heap[b]?)→S V):HoldG M w0 W (l++[.kn F S]):=by
 refine⟨H.keep,?_,?_⟩
 ·intro j s hs;rw[List.getElem?_append]at hs;split at hs
  ·exact H.all j s hs
  ·rcases List.getElem?_eq_some_iff.1 hs with ⟨h1,h2⟩
   simp at h1;simp[h1]at h2;subst h2;exact⟨hlt,hS⟩
 ·intro j k s t hjk hs ht;rw[List.getElem?_append]at hs ht;split at hs
  ·split at ht
   ·exact H.apart j k s t hjk hs ht
   ·rcases List.getElem?_eq_some_iff.1 ht with ⟨h1,h2⟩
    simp at h1;simp[h1]at h2;subst h2;exact hap j s hs
  ·rcases List.getElem?_eq_some_iff.1 hs with ⟨h1,h2⟩
   simp at h1;simp[h1]at h2;subst h2;intro b h;cases h
def Still (l:List Res) (G:Nat→Prop):Prop:=∀ b,G b→∃ (i:Nat) (r:Res),l[i]?=some r∧r.place=none∧r.foot b
theorem Still.none:Still l (fun _=>False):=fun _ h=>h.elim
theorem Still.at {i:Nat} {F:Nat→Prop} {S:World→Prop} (hi:At l i (.kn F S)):Still l F:=fun b hb=>⟨i,_,hi.get,rfl,hb⟩
theorem Still.apart (H:HoldG M w0 W l) {G:Nat→Prop} (h:Still l G):∀ (i:Nat) (r:Res),l[i]?=some r→∀ b,r.place=some b→¬ G b:=by
 intro i r hi b hb hg;obtain⟨j,s,hj,hs,hf⟩:=h b hg
 by_cases e:i=j
 ·subst e;rw[hi]at hj;cases hj
  rw[hs]at hb;cases hb
 ·exact H.apart i j r s e hi hj b hb hf
theorem Still.lt (H:HoldG M w0 W l) {G:Nat→Prop} (h:Still l G):∀ b,G b→b<W.heap.size:=fun b hb=>by
 obtain⟨j,s,hj,hs,hf⟩:=h b hb;exact(H.all j s hj).ltf b hf
theorem HoldG.learn (H:HoldG M w0 W l) (hb:Below W.heap.size W W') {F G:Nat→Prop} {S:World→Prop} (hG:Still l G) (hF:∀ b,F b→b<W'.heap.size∧(W.heap.size≤b∨G b))
  (hS:∀ V:World,(∀ b,F b→V.heap[b]?=W'.heap[b]?)→S V):HoldG M w0 W' (l++[.kn F S]) :=
 (H.call hb).know F S (fun b h=>(hF b h).1) (fun i r hi b hp hf=>by
  rcases(hF b hf).2 with h|h
  ·have:=((H.all i r hi).lt b hp).2;omega
  ·exact hG.apart H i r hi b hp h) hS
theorem HoldG.pick (H:HoldG M w0 W l) (js:List Nat) (l':List Res) (hn:js.Nodup) (h:js.map (fun j=>l[j]?)=l'.map some):HoldG M w0 W l':=by
 have hlen:js.length=l'.length:=by simpa using congrArg List.length h
 have key:∀ (i:Nat) (r:Res),l'[i]?=some r→∃ j:Nat,js[i]?=some j∧l[j]?=some r:=by
  intro i r hi;have h1:(l'.map some)[i]?=some (some r):=by rw[List.getElem?_map,hi];rfl
  rw[← h,List.getElem?_map]at h1;obtain⟨j,hj,e⟩:=Option.map_eq_some_iff.1 h1;exact⟨j,hj,e⟩
 refine⟨H.keep,fun i r hi=>?_,fun i k r s hik hi hk=>?_⟩
 ·obtain⟨j,_,e⟩:=key i r hi;exact H.all j r e
 ·obtain⟨j,hj,e⟩:=key i r hi;obtain⟨m,hm,e'⟩:=key k s hk;refine H.apart j m r s (fun ejm=>hik ?_) e e'
  subst ejm;obtain⟨h1,h1'⟩:=List.getElem?_eq_some_iff.1 hj;obtain⟨h2,h2'⟩:=List.getElem?_eq_some_iff.1 hm;exact(List.getElem_inj hn).1 (h1'.trans h2'.symm)
end
def RdN (sz:Nat) (W:World) (F:Nat→Prop) (s:Value) (rows:List (Array Value)):Prop :=
 ∃ p cap,s=.slice p rows.length cap∧rows.length≤cap∧cap≤maxLen∧(p=none→cap=0) ∧
  ∀ (j:Nat) (r:Array Value),rows[j]?=some r→∃ b off,p=some ⟨b,off,none⟩∧F b∧r.size=sz∧∀ k,k<sz→W.cell? ⟨b,off+j * sz+k,none⟩=r[k]?
theorem RdN.kept {sz:Nat} {W V:World} {F:Nat→Prop} {s:Value} {rows:List (Array Value)} (h:RdN sz W F s rows) (hk:∀ b,F b→V.heap[b]?=W.heap[b]?):RdN sz V F s rows:=by
 obtain⟨p,cap,e,h1,h2,h0,h3⟩:=h;refine⟨p,cap,e,h1,h2,h0,fun j r hj=>?_⟩
 obtain⟨b,off,e1,e2,e3,e4⟩:=h3 j r hj;refine⟨b,off,e1,e2,e3,fun k hk'=>?_⟩
 rw[← e4 k hk'];simp[World.cell?,hk b e2]
theorem RdN.mono {sz:Nat} {W:World} {F G:Nat→Prop} {s:Value} {rows:List (Array Value)} (h:RdN sz W F s rows) (hFG:∀ b,F b→G b):RdN sz W G s rows:=by
 obtain⟨p,cap,e,h1,h2,h0,h3⟩:=h;exact⟨p,cap,e,h1,h2,h0,fun j r hj=>let ⟨b,off,e1,e2,e3⟩:=h3 j r hj;⟨b,off,e1,hFG b e2,e3⟩⟩
theorem RdN.nil (sz:Nat) (W:World) (F:Nat→Prop) (p:Option Addr):RdN sz W F (.slice p 0 0) []:=⟨p,0,rfl,Nat.le_refl _,by simp,fun _=>rfl,fun j r h=>by simp at h⟩
def flatR (rows:List (Array Value)):List Value:=(rows.map Array.toList).flatten
theorem flatR_append (rows rows':List (Array Value)):flatR (rows++rows')=flatR rows++flatR rows':=by simp[flatR]
theorem flatR_len {sz:Nat}:∀ {rows:List (Array Value)},(∀ r ∈ rows,r.size=sz)→(flatR rows).length=rows.length * sz
 | [],_=>by simp[flatR]
 | r::rows,h=>by
  have ih:=flatR_len (rows:=rows) (fun r hr=>h r (List.mem_cons_of_mem _ hr))
  have h1:=h r (List.mem_cons_self ..);simp only[flatR,List.map_cons,List.flatten_cons,List.length_append,List.length_cons]at *;rw[ih,Array.length_toList,h1,Nat.succ_mul];omega
theorem flatR_get {sz:Nat}:∀ {rows:List (Array Value)},(∀ r ∈ rows,r.size=sz)→∀ {j:Nat} {r:Array Value} {k:Nat},rows[j]?=some r→k<sz→(flatR rows)[j * sz+k]?=r[k]?
 | [],_,_,_,_,h,_=>by simp at h
 | q::rows,hs,0,r,k,h,hk=>by
  simp at h;subst h;have h1:=hs q (List.mem_cons_self ..);simp only[flatR,List.map_cons,List.flatten_cons];rw[Nat.zero_mul,Nat.zero_add,List.getElem?_append_left (by simp;omega)]
  simp
 | q::rows,hs,j+1,r,k,h,hk=>by
  have h1:=hs q (List.mem_cons_self ..);have ih:=flatR_get (rows:=rows) (fun r hr=>hs r (List.mem_cons_of_mem _ hr)) (j:=j) (r:=r) (k:=k) (by simpa using h) hk
  simp only[flatR,List.map_cons,List.flatten_cons]at *;rw[Nat.succ_mul,List.getElem?_append_right (by simp;omega),← ih]
  simp only[Array.length_toList,h1]
  congr 1;omega
theorem RdN.of_own {sz:Nat} {w V:World} {base:Nat} {e:TypeId} {v:Value} {n:Nat} {rows:List (Array Value)} (h:w.ownsRow base e sz v n (flatR rows)) (hs:∀ r ∈ rows,r.size=sz) (hl:rows.length=n)
  (hk:∀ b,v.ownBlock=some b→V.heap[b]?=w.heap[b]?):RdN sz V (fun b=>v.ownBlock=some b) v rows:=by
 subst hl;obtain⟨_,⟨rfl,hn⟩|⟨g,cap,cur,rfl,hb,hg,hn,hc,hsz,ht⟩⟩:=h
 ·rw[List.length_eq_zero_iff.1 hn];exact RdN.nil ..
 ·refine⟨_,cap,rfl,hn,hc,(fun h=>by cases h),fun j r hj=>⟨g,0,rfl,rfl,hs r (List.mem_of_getElem? hj),fun k hk'=>?_⟩⟩
  have hg':V.heap[g]?=some (.cells cur e (0,0)):=(hk g rfl).trans hg;have hlt:=(List.getElem?_eq_some_iff.1 hj).1;rw[cell_of_row V g (0+j * sz+k) cur e (0,0) hg',Nat.zero_add,← flatR_get hs hj hk',← ht,List.getElem?_take,if_pos,Array.getElem?_toList];have:(j+1) * sz≤rows.length * sz:=Nat.mul_le_mul_right _ hlt;rw[Nat.succ_mul]at this;omega
section
variable {P:Program} {ops:Array Oper} {rest:List Oper} {o:Oper} {a:Act} {w w0:World} {Q:Exit→Act→World→Prop} {l:List Res} {M:Nat→Prop}
theorem run_loadRow {T:TypeId} {b k n:Nat} {vs:Array Value} (hT:rowB P T n=true) (hn:vs.size=n) (hv:∀ j,j<n→w.cell? ⟨b,k+j,none⟩=vs[j]?):(loadVar T ⟨b,k,none⟩).run P w=.ok (.agg vs) w:=by
 obtain⟨d,hu,hd,hs⟩:=rowB_parts hT
 have:=run_loadVar_mid (P:=P) w b k T vs.toList d (fun j v hj=>by
  have hlt:j<n:=by have:=(List.getElem?_eq_some_iff.1 hj).1;simp at this;omega
  rw[hv j hlt];simpa using hj) hu hd (by rw[hs];simp[hn])
 simpa using this
theorem run_loadK {T:TypeId} {x:Operand} (ho:o.op=.load T x) {b k n:Nat} (hx:a.eval x=.pointer (some ⟨b,k,none⟩)) {vs:Array Value} (hT:rowB P T n=true) (hn:vs.size=n) (hv:∀ j,j<n→w.cell? ⟨b,k+j,none⟩=vs[j]?) :
  (execOp a.eval o).run P w=.ok (.value (.agg vs)) w:=by
 unfold execOp;simp only[ho,hx,Instr.loadAt,Instr.sureAddr,Sem.run_bind,Sem.run_pure,Result.andThen_ok,run_loadRow hT hn hv]
theorem own_loadK (hg:Region.wanted o (yielded ops a.tmps)=true) (T:TypeId) (x:Operand) (ho:o.op=.load T x) {b k n:Nat} (hx:a.eval x=.pointer (some ⟨b,k,none⟩)) {vs:Array Value} (hT:rowB P T n=true) (hn:vs.size=n) (hv:∀ j,j<n→w.cell? ⟨b,k+j,none⟩=vs[j]?)
  (h:wpList P ops Q rest (a.put o.dst (.agg vs)) w):wpList P ops Q (o::rest) a w :=
 own_pure hg (run_loadK ho hx hT hn hv) h
theorem run_load1K {T:TypeId} {x:Operand} (ho:o.op=.load T x) {ad:Addr} (hx:a.eval x=.pointer (some ad)) (hT:oneB P T=true) {v:Value} (hv:w.cell? ad=some v) :
  (execOp a.eval o).run P w=.ok (.value v) w:=by
 unfold execOp;simp only[ho,hx,Instr.loadAt,Instr.sureAddr,Sem.run_bind,Sem.run_pure,Result.andThen_ok,run_loadVar_one hT hv]
theorem own_load1K (hg:Region.wanted o (yielded ops a.tmps)=true) (T:TypeId) (x:Operand) (ho:o.op=.load T x) {ad:Addr} (hx:a.eval x=.pointer (some ad)) (hT:oneB P T=true) {v:Value} (hv:w.cell? ad=some v)
  (h:wpList P ops Q rest (a.put o.dst v) w):wpList P ops Q (o::rest) a w :=
 own_pure hg (run_load1K ho hx hT hv) h
end
section
variable {M:Nat→Prop} {w0 w:World} {l:List Res}
theorem HoldG.rowShape (H:HoldG M w0 w l) {i n sz:Nat} {e:TypeId} {v:Value} {xs:List Value} (hi:At l i (.row v e sz n xs)):∃ q cap,v=.slice q n cap∧n≤cap∧cap≤maxLen∧(0<n→∃ g,q=some ⟨g,0,none⟩):=by
 obtain⟨_,⟨hv,hn⟩|⟨g,cap,cur,hv,_,_,hn,hc,_⟩⟩:=H.all i _ hi.get
 ·exact⟨none,0,by rw[hv,hn],by omega,by simp,fun h=>by omega⟩
 ·exact⟨_,cap,hv,hn,hc,fun _=>⟨g,rfl⟩⟩
end
section
variable {M:Nat→Prop} {w0 W:World} {l:List Res}
end
structure NodeD where
 kind:Int
 set:Nat→Nat:=emptyS
 lo:Int:=0
 hi:Int:=0
 lazy:Bool:=false
 group:Int:=0
inductive Tree where
 | mk (d:NodeD) (kids:List Tree)
def Tree.d:Tree→NodeD|.mk d _=>d
def Tree.kids:Tree→List Tree|.mk _ k=>k
theorem take_get {α:Type} {l:List α} {i:Nat} {x:α} (h:l[i]?=some x):l.take (i+1)=l.take i++[x]:=by
 rw[List.take_add_one,h];rfl
def nodeC (d:NodeD) (s:Value):Array Value:=#[.int .i64 d.kind,.int .u64 (d.set 0),.int .u64 (d.set 1),.int .u64 (d.set 2),.int .u64 (d.set 3),s,.int .i64 d.lo,.int .i64 d.hi,.bool d.lazy,.int .i64 d.group]
abbrev nilS:Value:=.slice none 0 0
abbrev TV:=Tree × Option Addr × Nat
abbrev nodeX (x:TV):Array Value:=nodeC x.1.d (.slice x.2.1 x.1.kids.length x.2.2)
inductive ForestR (W:World) (F:Nat→Prop):Option Addr→Nat→List Tree→Prop where
 | mk (p:Option Addr) (c:Nat) (ts:List Tree) (xs:List TV) (h:RdN 10 W F (.slice p ts.length c) (xs.map nodeX)) (hk:∀ x ∈ xs,ForestR W F x.2.1 x.2.2 x.1.kids) (e:ts=xs.map (·.1)):ForestR W F p c ts
theorem ForestR.mono {W:World} {F G:Nat→Prop} {p:Option Addr} {c:Nat} {ts:List Tree} (h:ForestR W F p c ts) (hFG:∀ b,F b→G b):ForestR W G p c ts:=by
 induction h with
 | mk p c ts xs h _ e ih=>exact .mk p c ts xs (h.mono hFG) ih e
theorem ForestR.nil (W:World) (F:Nat→Prop) (p:Option Addr):ForestR W F p 0 []:=.mk _ _ _ [] (RdN.nil ..) (fun _ h=>by cases h) rfl
def ListR (W:World) (F:Nat→Prop) (xs:List TV):Prop:=∀ x ∈ xs,ForestR W F x.2.1 x.2.2 x.1.kids
theorem ListR.mono {W:World} {F G:Nat→Prop} {xs:List TV} (h:ListR W F xs) (hFG:∀ b,F b→G b):ListR W G xs:=fun x hx=>(h x hx).mono hFG
theorem ListR.append {W:World} {F:Nat→Prop} {xs ys:List TV} (h:ListR W F xs) (k:ListR W F ys):ListR W F (xs++ys):=fun x hx=>(List.mem_append.1 hx).elim (h x) (k x)
theorem ListR.nil (W:World) (F:Nat→Prop):ListR W F []:=fun _ h=>by cases h
theorem ListR.one {W:World} {F:Nat→Prop} {t:Tree} {p:Option Addr} {c:Nat} (h:ForestR W F p c t.kids):ListR W F [(t,p,c)]:=fun x hx=>by
 rw[List.mem_singleton]at hx;subst hx;exact h
abbrev FlagsD:=Bool × Bool × Bool
def flagsC (f:FlagsD):Array Value:=#[.bool f.1,.bool f.2.1,.bool f.2.2]
end
section
open Go.RowKit Go.Shelf
theorem one_int:oneB Tryz.prog 3=true:=by kernel_rfl
theorem one_spot:oneB Tryz.prog 22=true:=by kernel_rfl
theorem row_Set:rowB Tryz.prog 25 4=true:=by kernel_rfl
theorem zSet:zeroC Tryz.prog 25=setC emptyS:=by kernel_rfl
theorem zWord:zeroC Tryz.prog 260=wordC {kind:=0,place:=0}:=by kernel_rfl
theorem one_ikind:oneB Tryz.prog 48=true:=by kernel_rfl
theorem one_insts:oneB Tryz.prog 32=true:=by kernel_rfl
theorem zNode:zeroC Tryz.prog 28=nodeC {kind:=0} nilS:=by kernel_rfl
theorem zFlags:zeroC Tryz.prog 112=flagsC (false,false,false):=by kernel_rfl
theorem zInt:zeroC Tryz.prog 3=#[.int .i64 0]:=by kernel_rfl
theorem zErrno:zeroC Tryz.prog 33=#[.int .i64 0]:=by kernel_rfl
theorem nrm:zeroC Tryz.prog 25=setC emptyS∧zeroC Tryz.prog 260=wordC {kind:=0,place:=0}∧zeroC Tryz.prog 28=nodeC {kind:=0} nilS∧zeroC Tryz.prog 112=flagsC (false,false,false)∧zeroC Tryz.prog 3=#[.int .i64 0]∧zeroC Tryz.prog 33=#[.int .i64 0]:=⟨zSet,zWord,zNode,zFlags,zInt,zErrno⟩
theorem nrl {α:Type}:(∀ (a:α) (l r:List α),a::l++r=a::(l++r))∧(∀ l:List α,[]++l=l)∧(∀ l:List α,l++[]=l)∧(∀ (a b:α) (l:List α),(a::l).set 0 b=b::l)∧(∀ (a b:α) (l:List α) (n:Nat),(a::l).set (n+1) b=a::l.set n b)∧∀ (a:α) (l:List α) (n:Nat),l.toArray.setIfInBounds n a=(l.set n a).toArray :=
 ⟨fun _ _ _=>rfl,fun _=>rfl,List.append_nil,fun _ _ _=>rfl,fun _ _ _ _=>rfl,fun _ _ _=>List.setIfInBounds_toArray ..⟩
theorem nr:(zeroC Tryz.prog 25=setC emptyS∧zeroC Tryz.prog 260=wordC {kind:=0,place:=0}∧zeroC Tryz.prog 28=nodeC {kind:=0} nilS∧zeroC Tryz.prog 112=flagsC (false,false,false)∧zeroC Tryz.prog 3=#[.int .i64 0]∧zeroC Tryz.prog 33=#[.int .i64 0])∧(∀ {α:Type},(∀ (a:α) (l r:List α),a::l++r=a::(l++r))∧(∀ l:List α,[]++l=l)∧(∀ l:List α,l++[]=l)∧(∀ (a b:α) (l:List α),(a::l).set 0 b=b::l)∧(∀ (a b:α) (l:List α) (n:Nat),(a::l).set (n+1) b=a::l.set n b)∧∀ (a:α) (l:List α) (n:Nat),l.toArray.setIfInBounds n a=(l.set n a).toArray)∧(∀ (k:IntKind) (n:Int),(Value.int k n).cells=#[Value.int k n])∧(∀ (b:Bool),(Value.bool b).cells=#[Value.bool b])∧(∀ (s:ByteArray),(Value.string s).cells=#[Value.string s])∧(∀ (p:Option Addr),(Value.pointer p).cells=#[Value.pointer p])∧(∀ (p:Option Addr) (n c:Nat),(Value.slice p n c).cells=#[Value.slice p n c])∧(∀ (r:Option Nat),(Value.map r).cells=#[Value.map r])∧∀ cs:Array Value,(Value.agg cs).cells=cs :=
 ⟨nrm,nrl,fun _ _=>rfl,fun _=>rfl,fun _=>rfl,fun _=>rfl,fun _ _ _=>rfl,fun _=>rfl,fun _=>rfl⟩
theorem ch {M:Nat→Prop} {P:Program} {f:FuncId} {args:Array Value} {w w0:World} {l:List Res} {e0:Ending} {R:Ending→World→Prop} (c:Calls P f args w fun e w'=>e=e0∧Below w.heap.size w w') (H:HoldG M w0 w l)
  (k:∀ w',HoldG M w0 w' l→R e0 w'):Calls P f args w R:=c.mono fun _ w' h=>h.1 ▸ k w' (H.call h.2)
section
variable {M:Nat→Prop} {ops:Array Oper} {dst:Option Tmp} {ty:TypeId} {pos:String} {aft:Array Edge} {grd:Option (Nat × Bool)} {rest:List Oper} {a:Act} {w w0:World} {l:List Res} {Q:Exit→Act→World→Prop}
theorem gT {T:TypeId} {x y:Operand} (h:wpList Tryz.prog ops Q ((⟨dst,.store T x y,ty,pos,aft,grd⟩:Oper)::rest) a w):wpList Tryz.prog ops Q ((⟨dst,.store T x y,ty,pos,aft,grd⟩:Oper)::rest) a w:=h
theorem gL {T:TypeId} {x:Operand} (h:wpList Tryz.prog ops Q ((⟨dst,.load T x,ty,pos,aft,grd⟩:Oper)::rest) a w):wpList Tryz.prog ops Q ((⟨dst,.load T x,ty,pos,aft,grd⟩:Oper)::rest) a w:=h
theorem gX {T:TypeId} {x:Operand} (h:wpList Tryz.prog ops Q ((⟨dst,.box T x,ty,pos,aft,grd⟩:Oper)::rest) a w):wpList Tryz.prog ops Q ((⟨dst,.box T x,ty,pos,aft,grd⟩:Oper)::rest) a w:=h
theorem gA {T:TypeId} (h:wpList Tryz.prog ops Q ((⟨dst,.alloc T,ty,pos,aft,grd⟩:Oper)::rest) a w):wpList Tryz.prog ops Q ((⟨dst,.alloc T,ty,pos,aft,grd⟩:Oper)::rest) a w:=h
theorem kgX (k:Tmp) {T:TypeId} {x:Operand} (h:wpList Tryz.prog ops Q ((⟨some k,.box T x,ty,pos,aft,grd⟩:Oper)::rest) a w):wpList Tryz.prog ops Q ((⟨some k,.box T x,ty,pos,aft,grd⟩:Oper)::rest) a w:=h
theorem kgA (k:Tmp) {T:TypeId} (h:wpList Tryz.prog ops Q ((⟨some k,.alloc T,ty,pos,aft,grd⟩:Oper)::rest) a w):wpList Tryz.prog ops Q ((⟨some k,.alloc T,ty,pos,aft,grd⟩:Oper)::rest) a w:=h
theorem bA (H:HoldG M w0 w l) {T:TypeId} (h:∀ b w',HoldG M w0 w' (l++[.blk b (zeroC Tryz.prog T) T])→wpList Tryz.prog ops Q rest (a.put dst (.pointer (some ⟨b,0,none⟩))) w') (hg:Region.wanted (⟨dst,.alloc T,ty,pos,aft,grd⟩:Oper) (yielded ops a.tmps)=true:=by first|rfl|exact wanted_g rfl (yielded_of rfl (by first|rfl|(simp only[pe];rfl)))) (hi:((Tryz.prog.info? T).bind (·.zero)).isSome=true:=by kernel_rfl):wpList Tryz.prog ops Q ((⟨dst,.alloc T,ty,pos,aft,grd⟩:Oper)::rest) a w :=
 own_alloc hg T rfl H hi h
theorem bB (H:HoldG M w0 w l) {T:TypeId} {x:Operand} {v:Value} (h:∀ b w',HoldG M w0 w' (l++[.blk b v.cells T])→wpList Tryz.prog ops Q rest (a.put dst (.pointer (some ⟨b,0,none⟩))) w') (hg:Region.wanted (⟨dst,.box T x,ty,pos,aft,grd⟩:Oper) (yielded ops a.tmps)=true:=by first|rfl|exact wanted_g rfl (yielded_of rfl (by first|rfl|(simp only[pe];rfl)))) (hx:a.eval x=v:=by first|(simp only[pe];done)|(simp only[pe];rfl)):wpList Tryz.prog ops Q ((⟨dst,.box T x,ty,pos,aft,grd⟩:Oper)::rest) a w :=
 own_box hg T x rfl hx H h
theorem kA (k:Tmp) (H:HoldG M w0 w l) {T:TypeId} (h:∀ b w',HoldG M w0 w' (l++[.blk b (zeroC Tryz.prog T) T])→wpList Tryz.prog ops Q rest (a.put (some k) (.pointer (some ⟨b,0,none⟩))) w') (hg:Region.wanted (⟨some k,.alloc T,ty,pos,aft,grd⟩:Oper) (yielded ops a.tmps)=true:=by first|rfl|exact wanted_g rfl (yielded_of rfl (by first|rfl|(simp only[pe];rfl)))) (hi:((Tryz.prog.info? T).bind (·.zero)).isSome=true:=by kernel_rfl):wpList Tryz.prog ops Q ((⟨some k,.alloc T,ty,pos,aft,grd⟩:Oper)::rest) a w :=
 own_alloc hg T rfl H hi h
theorem kB (k:Tmp) (H:HoldG M w0 w l) {T:TypeId} {x:Operand} {v:Value} (h:∀ b w',HoldG M w0 w' (l++[.blk b v.cells T])→wpList Tryz.prog ops Q rest (a.put (some k) (.pointer (some ⟨b,0,none⟩))) w') (hg:Region.wanted (⟨some k,.box T x,ty,pos,aft,grd⟩:Oper) (yielded ops a.tmps)=true:=by first|rfl|exact wanted_g rfl (yielded_of rfl (by first|rfl|(simp only[pe];rfl)))) (hx:a.eval x=v:=by first|(simp only[pe];done)|(simp only[pe];rfl)):wpList Tryz.prog ops Q ((⟨some k,.box T x,ty,pos,aft,grd⟩:Oper)::rest) a w :=
 own_box hg T x rfl hx H h
theorem aG (H:HoldG M w0 w l) {T:TypeId} {x:Operand} {i b:Nat} {cs:Array Value} {U:TypeId} {k:Nat} {v:Value} (h:wpList Tryz.prog ops Q rest (a.put dst v) w) (hg:Region.wanted (⟨dst,.load T x,ty,pos,aft,grd⟩:Oper) (yielded ops a.tmps)=true:=by first|rfl|exact wanted_g rfl (yielded_of rfl (by first|rfl|(simp only[pe];rfl)))) (hx:a.eval x=.pointer (some ⟨b,k,none⟩):=by exact rfl) (hi:At l i (.blk b cs U):=by repeat (first|(with_reducible exact At.zero)|apply At.succ)) (hT:oneB Tryz.prog T=true:=by first|(with_reducible exact one_errno)|(with_reducible exact one_int)|(with_reducible exact one_u8)|(with_reducible exact one_bool)|(with_reducible exact one_str)|(with_reducible exact one_spot)|(with_reducible exact one_u64)|(with_reducible exact one_kids)|(with_reducible exact one_rwords)|(with_reducible exact one_p10)|(with_reducible exact one_ikind)|(with_reducible exact one_ints)|(with_reducible exact one_insts)|(with_reducible exact one_bools)|(with_reducible exact one_bytes)) (hv:cs[k]?=some v:=by first|(with_reducible exact wg0 _)|(with_reducible exact wg1 _)|(with_reducible exact wg2 _)|(with_reducible exact wg3 _)|(with_reducible exact wg4 _)|(with_reducible exact wg5 _)|(with_reducible exact wg6 _)|(with_reducible exact wg7 _)|(with_reducible exact wg8 _)|(with_reducible exact wg9 _)|(with_reducible exact wg10 _)|(with_reducible exact wg11 _)|(with_reducible exact wg12 _)|(with_reducible exact wg13 _)|(with_reducible exact wg14 _)|(with_reducible exact wg15 _)|(with_reducible exact wg16 _)|(with_reducible exact fg0 _)|(with_reducible exact fg1 _)|(with_reducible exact fg2 _)|(with_reducible exact ng0 _ _)|(with_reducible exact ng1 _ _)|(with_reducible exact ng2 _ _)|(with_reducible exact ng3 _ _)|(with_reducible exact ng4 _ _)|(with_reducible exact ng5 _ _)|(with_reducible exact ng6 _ _)|(with_reducible exact ng7 _ _)|(with_reducible exact ng8 _ _)|(with_reducible exact ng9 _ _)|rfl):wpList Tryz.prog ops Q ((⟨dst,.load T x,ty,pos,aft,grd⟩:Oper)::rest) a w :=
 own_load1 hg T x rfl hx H hi hT hv h
end
section
variable {M:Nat→Prop} {a:Act} {w w0:World} {l:List Res} {fn:Func} {R:Ending→World→Prop} {p q r:Tmp} {T:TypeId} {b i n:Nat} {cs:Array Value} {U:TypeId} {s:Nat→Nat} {v u:Value}
end
section
variable {ops:Array Oper} {dst:Option Tmp} {ty:TypeId} {pos:String} {aft:Array Edge} {grd:Option (Nat × Bool)} {rest:List Oper} {a:Act} {w:World} {Q:Exit→Act→World→Prop}
end
section
variable {M:Nat→Prop} {ops:Array Oper} {dst:Option Tmp} {ty:TypeId} {pos:String} {aft:Array Edge} {grd:Option (Nat × Bool)} {rest:List Oper} {a:Act} {w w0:World} {l:List Res} {Q:Exit→Act→World→Prop}
end
end
section
open Go.RowKit
section
variable {P:Program} {ops:Array Oper} {o:Oper} {a:Act} {w:World} {D:Prop}
theorem sy_if {j:Nat} {d:Tmp} {want c b:Bool} {v:Value} (hgd:o.guard=some (j,want)) (hj:(ops[j]?).bind (·.dst)=some d) (hy:a.eval (.tmp d)=bif c then .bool b else undef) (hr:c=true→b=want→(execOp a.eval o).run P w=.ok (.value v) w) (hD:¬ D) :
  RStep P ops o a w (fun v' _=>v'=(bif (c&&(b == want)) then v else undef)∧(D→w.heap.size≤blk v')):=by
 cases c with
 | false =>
  exact rs_skip (not_wanted_u hgd (yielded_undef hj hy)) ⟨rfl,fun h=>(hD h).elim⟩
 | true =>
  by_cases hb:b=want
  ·subst hb;refine rs_val (wanted_g hgd (yielded_of hj hy)) (hr rfl rfl) (Below.refl _ w) ⟨?_,fun h=>(hD h).elim⟩
   simp
  ·refine rs_skip (not_wanted_g hgd (yielded_of hj hy) hb) ⟨?_,fun h=>(hD h).elim⟩
   have:(b == want)=false:=by simpa using hb
   simp[this]
abbrev iT (c b want:Bool) (v:Value):Value:=bif c&&(b == want) then v else undef
theorem sy_ {j:Nat} {d:Tmp} {want c b:Bool} {v:Value} (hy:a.eval (.tmp d)=bif c then .bool b else undef) (hr:(c&&(b == want))=true→(execOp a.eval o).run P w=.ok (.value v) w) (hgd:o.guard=some (j,want):=by rfl) (hj:(ops[j]?).bind (·.dst)=some d:=by rfl) (hD:¬ D:=by decide) :
  RStep P ops o a w (fun v' _=>v'=(bif (c&&(b == want)) then v else undef)∧(D→w.heap.size≤blk v')) :=
 sy_if hgd hj hy (fun hc hb=>hr (Bool.and_eq_true_iff.2 ⟨hc,beq_iff_eq.2 hb⟩)) hD
theorem run_and {x y:Operand} {b q:Bool} (hop:o.op=Op.pick x y (.const (.bool false))) (hx:a.eval x=.bool b) (hy:b=true→a.eval y=.bool q):(execOp a.eval o).run P w=.ok (.value (.bool (b&&q))) w:=by
 cases b with
 | false=>simp only[execOp,hop,hx];rfl
 | true=>simp only[execOp,hop,hx,hy rfl];rfl
theorem run_or {x y:Operand} {b q:Bool} (hop:o.op=Op.pick x (.const (.bool true)) y) (hx:a.eval x=.bool b) (hy:b=false→a.eval y=.bool q):(execOp a.eval o).run P w=.ok (.value (.bool (b || q))) w:=by
 cases b with
 | true=>simp only[execOp,hop,hx];rfl
 | false=>simp only[execOp,hop,hx,hy rfl];rfl
theorem run_cp {x:Operand} {v:Value} (hop:o.op=Op.move x∨o.op=Op.assign x) (hx:a.eval x=v):(execOp a.eval o).run P w=.ok (.value v) w:=by
 rcases hop with h|h<;>(simp only[execOp,h,hx];rfl)
theorem bif_at {α:Type} {x u v:α} {c:Bool} (h:x=bif c then u else v) (hc:c=true):x=u:=by rw[h,hc];rfl
end
structure InstD where
 kind:Int
 set:Nat→Nat:=emptyS
 next:Int:=0
 other:Int:=0
 slot:Int:=0
 spot:Int:=0
abbrev Slots:=List Int
abbrev Ent:=Nat × Nat × Slots
abbrev Way:=Nat × Slots
def wordB (b:Nat):Bool:=decide (48≤b)&&decide (b≤57) || decide (97≤b)&&decide (b≤122) || decide (65≤b)&&decide (b≤90) || b == 95
def wordA (s:Str) (i:Int):Bool:=if i<0∨(s.length:Int)≤i then false else wordB (byt s i.toNat)
def isSpot (k:Int) (s:Str) (i:Int):Bool :=
 if i<0∨(s.length:Int)<i then false
 else if k=8 then i == 0
 else if k=9 then i == s.length
 else if k=10 then i == 0 || byt s (i - 1).toNat == 10
 else if k=11 then i == s.length || byt s i.toNat == 10
 else if k=12 then wordA s (i - 1) != wordA s i
 else if k=13 then wordA s (i - 1) == wordA s i
 else false
def inN (n:Nat) (x:Int):Bool:=decide (0≤x)&&decide (x<n)
def rightI (n:Nat) (x:InstD):Bool :=
 if x.kind=1 then !eqS x.set emptyS&&inN n x.next&&(x.other == 0)&&(x.slot == 0)&&(x.spot == 0)
 else if x.kind=2 then eqS x.set emptyS&&inN n x.next&&inN n x.other&&(x.slot == 0)&&(x.spot == 0)
 else if x.kind=3 then eqS x.set emptyS&&inN n x.next&&(x.other == 0)&&inN 42 x.slot&&(x.spot == 0)
 else if x.kind=4 then eqS x.set emptyS&&inN n x.next&&(x.other == 0)&&(x.slot == 0)&&(decide (8≤x.spot)&&decide (x.spot≤13))
 else if x.kind=5∨x.kind=6 then eqS x.set emptyS&&(x.next == 0)&&(x.other == 0)&&(x.slot == 0)&&(x.spot == 0)
 else false
def rightP (p:List InstD):Bool:=decide (1≤p.length)&&decide (p.length≤4000)&&p.all (rightI p.length)
section
variable (p:List InstD) (s:Str)
def atI (k:Nat):InstD:=p.getD k {kind:=6}
def sucE (k i:Nat) (sl:Slots):List Ent :=
 let x:=atI p k
 if x.kind=1 then (if i<s.length∧hasB x.set (byt s i)=true then [(x.next.toNat,i+1,sl)] else [])
 else if x.kind=2 then [(x.next.toNat,i,sl),(x.other.toNat,i,sl)]
 else if x.kind=3 then [(x.next.toNat,i,sl.set x.slot.toNat i)]
 else if x.kind=4 then (if isSpot x.spot s i=true then [(x.next.toNat,i,sl)] else [])
 else []
def upS (S:Nat→Nat→Bool) (k i:Nat):Nat→Nat→Bool:=fun a j=>if a=k∧j=i then true else S a j
inductive Dfs (f:Option Slots):List Ent→(Nat→Nat→Bool)→Option Slots→Prop
 | nil (S):Dfs f [] S f
 | seen (k i sl r S res) (h:S k i=true) (hr:Dfs f r S res):Dfs f ((k,i,sl)::r) S res
 | hit (k i sl r S) (h:S k i=false) (hk:(atI p k).kind=5):Dfs f ((k,i,sl)::r) S (some sl)
 | go (k i sl r S res) (h:S k i=false) (hk:(atI p k).kind≠5) (hr:Dfs f (sucE p s k i sl++r) (upS S k i) res):Dfs f ((k,i,sl)::r) S res
variable {p s}
theorem Dfs.one {f:Option Slots} {st:List Ent} {S:Nat→Nat→Bool} {a b:Option Slots} (h:Dfs p s f st S a) (k:Dfs p s f st S b):a=b:=by
 induction h generalizing b with
 | nil S=>cases k;rfl
 | seen k i sl r S res hs hr ih =>
  cases k with
  | seen _ _ _ _ _ _ _ h=>exact ih h
  | hit _ _ _ _ _ h=>rw[hs]at h;cases h
  | go _ _ _ _ _ _ h=>rw[hs]at h;cases h
 | hit k i sl r S hs hk =>
  cases k with
  | seen _ _ _ _ _ _ h=>rw[hs]at h;cases h
  | hit=>rfl
  | go _ _ _ _ _ _ _ h=>exact absurd hk h
 | go k i sl r S res hs hk hr ih =>
  cases k with
  | seen _ _ _ _ _ _ h=>rw[hs]at h;cases h
  | hit _ _ _ _ _ _ h=>exact absurd h hk
  | go _ _ _ _ _ _ _ _ h=>exact ih h
def Above (i:Nat) (st:List Ent):Prop:=∀ e ∈ st,i≤e.2.1
theorem Above.cons {i:Nat} {e:Ent} {st:List Ent} (h:Above i (e::st)):Above i st:=fun x hx=>h x (List.mem_cons_of_mem _ hx)
theorem Above.append {i:Nat} {a b:List Ent} (h:Above i a) (k:Above i b):Above i (a++b):=fun x hx=>(List.mem_append.1 hx).elim (h x) (k x)
theorem suc_above {k i j:Nat} {sl:Slots} (h:j≤i):Above j (sucE p s k i sl):=by
 intro e he;unfold sucE at he;simp only at he;split at he
 ·split at he
  ·simp at he;subst he;simp;omega
  ·cases he
 split at he
 ·simp at he;rcases he with rfl|rfl<;>simpa
 split at he
 ·simp at he;subst he;simpa
 split at he
 ·split at he
  ·simp at he;subst he;simpa
  ·cases he
 ·cases he
theorem Dfs.frame {f:Option Slots} {st:List Ent} {S T:Nat→Nat→Bool} {res:Option Slots} {i:Nat} (h:Dfs p s f st S res) (ha:Above i st) (hST:∀ k j,i≤j→T k j=S k j):Dfs p s f st T res:=by
 induction h generalizing T with
 | nil S=>exact .nil T
 | seen k j sl r S res hs hr ih=>exact .seen _ _ _ _ _ _ ((hST k j (ha _ (List.mem_cons_self ..))).trans hs) (ih ha.cons hST)
 | hit k j sl r S hs hk=>exact .hit _ _ _ _ _ ((hST k j (ha _ (List.mem_cons_self ..))).trans hs) hk
 | go k j sl r S res hs hk hr ih =>
  have hj:=ha _ (List.mem_cons_self ..);refine .go _ _ _ _ _ _ ((hST k j hj).trans hs) hk (ih ((suc_above hj).append ha.cons) fun a b hb=>?_)
  unfold upS;split
  ·rfl
  ·exact hST a b hb
def at_ (i:Nat) (l:List Way):List Ent:=l.map fun e=>(e.1,i,e.2)
def InW (p:List InstD) (l:List Way):Prop:=∀ e ∈ l,e.1<p.length
theorem InW.cons {e:Way} {l:List Way} (h:e.1<p.length) (k:InW p l):InW p (e::l):=fun x hx=>(List.mem_cons.1 hx).elim (fun e=>e ▸ h) (k x)
theorem InW.append {a b:List Way} (h:InW p a) (k:InW p b):InW p (a++b):=fun x hx=>(List.mem_append.1 hx).elim (h x) (k x)
end
end
section
open Go.RowKit Go.Shelf
def instC (x:InstD):Array Value:=#[.int .i64 x.kind,.int .u64 (x.set 0),.int .u64 (x.set 1),.int .u64 (x.set 2),.int .u64 (x.set 3),.int .i64 x.next,.int .i64 x.other,.int .i64 x.slot,.int .i64 x.spot]
abbrev instV (x:InstD):Value:=.agg (instC x)
theorem ig0 (x:InstD):(instC x)[0]?=some (.int .i64 x.kind):=rfl
theorem ig7 (x:InstD):(instC x)[7]?=some (.int .i64 x.slot):=rfl
theorem instsX_size (xs:List InstD):∀ r ∈ xs.map instC,r.size=9:=by
 intro r hr;obtain⟨x,_,rfl⟩:=List.mem_map.1 hr;rfl
def InstsR (F:Nat→Prop) (p:Option Addr) (c:Nat) (xs:List InstD) (V:World):Prop:=RdN 9 V F (.slice p xs.length c) (xs.map instC)
section
variable {F:Nat→Prop} {p:Option Addr} {n c:Nat} {xs:List InstD} {V W w0:World}
theorem InstsR.kept (h:InstsR F p c xs W) (hV:∀ b,F b→V.heap[b]?=W.heap[b]?):InstsR F p c xs V:=RdN.kept h hV
theorem InstsR.bound (h:InstsR F p c xs W):xs.length≤c∧c≤9223372036854775807:=by
 obtain⟨p',c',e,h1,h2,_⟩:=h;simp only[Value.slice.injEq]at e;obtain⟨rfl,_,rfl⟩:=e;rw[List.length_map]at h1;exact⟨h1,by simpa [maxLen] using h2⟩
theorem InstsR.at (h:InstsR F p c xs W) (hn:0<xs.length):∃ b off,p=some ⟨b,off,none⟩:=by
 obtain⟨p',c',e,_,_,_,h3⟩:=h;simp only[Value.slice.injEq]at e;obtain⟨rfl,_,rfl⟩:=e;obtain⟨b,off,e2,_⟩:=h3 0 (instC xs[0]) (by rw[List.getElem?_map,List.getElem?_eq_getElem hn];rfl)
 exact⟨b,off,e2⟩
theorem InstsR.cells {b off:Nat} (h:InstsR F (some ⟨b,off,none⟩) c xs V) {j:Nat} {x:InstD} (hj:xs[j]?=some x) {q:Nat} (hq:off+j * 9=q):∀ k,k<9→V.cell? ⟨b,q+k,none⟩=(instC x)[k]?:=by
 obtain⟨p,c,e1,_,_,_,h3⟩:=h;obtain⟨b',off',e2,_,_,h4⟩:=h3 j (instC x) (by rw[List.getElem?_map,hj];rfl)
 simp only[Value.slice.injEq]at e1;obtain⟨rfl,_,rfl⟩:=e1
 cases e2;subst hq
 exact h4
theorem Hold.insts (hF:∀ b,F b→b<w0.heap.size) (h:InstsR F p c xs w0):Hold w0 w0 [.kn F (InstsR F p c xs)] :=
 (Hold.start w0).know F (InstsR F p c xs) hF (fun i r h=>by simp at h) (fun V hV=>h.kept hV)
end
theorem row_Inst:rowB Tryz.prog 50 9=true:=by kernel_rfl
theorem zInst:zeroC Tryz.prog 50=instC {kind:=0}:=by kernel_rfl
theorem zInst_size:(zeroC Tryz.prog 50).size=9:=by kernel_rfl
theorem run_sne {o:Oper} {a:Act} {w:World} {x y:Operand} {U:TypeId} {s u:Nat→Nat} (hop:o.op=.binOp .neq 25 x y U) (hx:a.eval x=setV s) (hy:a.eval y=setV u):(execOp a.eval o).run Tryz.prog w=.ok (.value (.bool (!(eqS s u)))) w:=by
 have he:=run_eqSet s u w;simp only[execOp,hop,hx,hy];unfold setV;simp[go_sem,he]
theorem run_setE {o:Oper} {a:Act} {w:World} (hop:o.op=.build 25 #[]):(execOp a.eval o).run Tryz.prog w=.ok (.value (setV emptyS)) w:=by
 have h:(Instr.build 25 #[]).run Tryz.prog w=.ok (setV emptyS) w:=by kernel_rfl
 simp only[execOp,hop,List.map_toArray,List.map_nil,Sem.run_bind,h];rfl
theorem run_lenS {P:Program} {o:Oper} {a:Act} {w:World} {x:Operand} {t e:TypeId} (hu:P.underlying t=some (.slice e)) {p:Option Addr} {n c:Nat} (hop:o.op=Op.call {callee:=Callee.builtin Builtin.len,args:=#[x],argTypes:=#[t]}) (hx:a.eval x=.slice p n c) :
  (execOp a.eval o).run P w=.ok (.value (.int .i64 n)) w:=by
 simp only[execOp,hop,resolve,invoke,builtin,List.map_toArray,List.map_cons,List.map_nil,hx];simp[go_sem,Builtin.len_,run_underlying hu]
section
variable {M:Nat→Prop} {ops:Array Oper} {dst:Option Tmp} {ty:TypeId} {pos:String} {aft:Array Edge} {grd:Option (Nat × Bool)} {rest:List Oper} {a:Act} {w w0:World} {l:List Res} {Q:Exit→Act→World→Prop}
theorem gTi {x y:Operand} (h:wpList Tryz.prog ops Q ((⟨dst,.store 50 x y,ty,pos,aft,grd⟩:Oper)::rest) a w):wpList Tryz.prog ops Q ((⟨dst,.store 50 x y,ty,pos,aft,grd⟩:Oper)::rest) a w:=h
theorem gLi {x:Operand} (h:wpList Tryz.prog ops Q ((⟨dst,.load 50 x,ty,pos,aft,grd⟩:Oper)::rest) a w):wpList Tryz.prog ops Q ((⟨dst,.load 50 x,ty,pos,aft,grd⟩:Oper)::rest) a w:=h
theorem aTi (H:HoldG M w0 w l) {x y:Operand} {i b:Nat} {cs:Array Value} {U:TypeId} {d:InstD} (h:∀ w',HoldG M w0 w' (l.set i (.blk b (instC d) U))→wpList Tryz.prog ops Q rest (a.put dst undef) w') (hg:Region.wanted (⟨dst,.store 50 x y,ty,pos,aft,grd⟩:Oper) (yielded ops a.tmps)=true:=by first|rfl|exact wanted_g rfl (yielded_of rfl (by first|rfl|(simp only[pe];rfl)))) (hx:a.eval x=.pointer (some ⟨b,0,none⟩):=by exact rfl) (hy:a.eval y=instV d:=by first|(simp only[pe];done)|(simp only[pe];rfl)) (hi:At l i (.blk b cs U):=by repeat (first|(with_reducible exact At.zero)|apply At.succ)) (hn:cs.size=9:=by first|(with_reducible exact zInst_size)|rfl):wpList Tryz.prog ops Q ((⟨dst,.store 50 x y,ty,pos,aft,grd⟩:Oper)::rest) a w :=
 own_store hg 50 x y rfl hx hy H hi (row_size row_Inst) rfl hn rfl h
theorem aLi (H:HoldG M w0 w l) {x:Operand} {i b:Nat} {cs:Array Value} {U:TypeId} (h:wpList Tryz.prog ops Q rest (a.put dst (.agg cs)) w) (hg:Region.wanted (⟨dst,.load 50 x,ty,pos,aft,grd⟩:Oper) (yielded ops a.tmps)=true:=by first|rfl|exact wanted_g rfl (yielded_of rfl (by first|rfl|(simp only[pe];rfl)))) (hx:a.eval x=.pointer (some ⟨b,0,none⟩):=by exact rfl) (hi:At l i (.blk b cs U):=by repeat (first|(with_reducible exact At.zero)|apply At.succ)) (hn:cs.size=9:=by first|(with_reducible exact zInst_size)|rfl):wpList Tryz.prog ops Q ((⟨dst,.load 50 x,ty,pos,aft,grd⟩:Oper)::rest) a w :=
 own_load hg 50 x rfl hx H hi row_Inst hn h
theorem aGi (H:HoldG M w0 w l) {T:TypeId} {x:Operand} {i b:Nat} {d:InstD} {U:TypeId} {k:Nat} {v:Value} (h:wpList Tryz.prog ops Q rest (a.put dst v) w) (hg:Region.wanted (⟨dst,.load T x,ty,pos,aft,grd⟩:Oper) (yielded ops a.tmps)=true:=by first|rfl|exact wanted_g rfl (yielded_of rfl (by first|rfl|(simp only[pe];rfl)))) (hx:a.eval x=.pointer (some ⟨b,k,none⟩):=by exact rfl) (hi:At l i (.blk b (instC d) U):=by repeat (first|(with_reducible exact At.zero)|apply At.succ)) (hv:(instC d)[k]?=some v:=by first|(with_reducible exact ig0 _)|(with_reducible exact ig5 _)|(with_reducible exact ig6 _)|(with_reducible exact ig7 _)|(with_reducible exact ig8 _)) (hT:oneB Tryz.prog T=true:=by first|(with_reducible exact one_int)|(with_reducible exact one_ikind)|(with_reducible exact one_spot)):wpList Tryz.prog ops Q ((⟨dst,.load T x,ty,pos,aft,grd⟩:Oper)::rest) a w :=
 own_load1 hg T x rfl hx H hi hT hv h
end
end
section
open Go.ChangeShapes Go.WideShapes Go.ChangeAt Go.RowKit
theorem inst_fields:(Tryz.prog.underlying 50).map (fun d=>match d with|.struct fs=>fs.map (fun f=>(f.type,f.offset))|_=>#[])=some #[(48,0),(25,1),(3,5),(3,6),(3,7),(22,8)]:=by kernel_rfl
theorem inst_struct:∃ fs:Array Field,Tryz.prog.underlying 50=some (.struct fs)∧fs.map (fun f=>(f.type,f.offset))=#[(48,0),(25,1),(3,5),(3,6),(3,7),(22,8)]:=by
 have h:=inst_fields
 cases hu:Tryz.prog.underlying 50 with
 | none=>rw[hu]at h;cases h
 | some d =>
  rw[hu]at h;simp only[Option.map_some,Option.some.injEq]at h
  cases d with
  | struct fs=>exact⟨fs,rfl,h⟩
  | _=>simp at h
theorem open_instcells {H:Type} {enc:TypeId × Value→H} {W:World} {sp:Nat→Bool} {b0 fuel:Nat} {cs:List Value} {x:DataW H × List MemPlace}
  (hf:DataW.trod enc Tryz.prog W b0 sp true fuel 50 cs=some x):∃ d:InstD,cs=(instC d).toList∧SetOk d.set:=by
 obtain⟨fs,hu,hfs⟩:=inst_struct;obtain⟨xs,n,_,_,hl,hlen,hg⟩:=DataW.trod_struct hu hf;have h9:cs.length=9:=by rw[hl];kernel_rfl
 have hsz:fs.size=6:=by have:=congrArg Array.size hfs;simpa using this
 have get:∀ (i:Nat) (t off k:Nat),(#[(48,0),(25,1),(3,5),(3,6),(3,7),(22,8)]:Array (TypeId × Nat))[i]?=some (t,off)→Tryz.prog.cellsOf t=k→∃ y,DataW.trod enc Tryz.prog W b0 sp true n t ((cs.drop off).take k)=some y:=by
  intro i t off k hi hk;rw[← hfs,Array.getElem?_map]at hi;obtain⟨f,hfi,he⟩:=Option.map_eq_some_iff.1 hi;simp only[Prod.mk.injEq]at he;have h1:=hg i f hfi;rw[he.1,he.2,hk]at h1;have hi6:i<xs.length:=by rw[hlen];exact(Array.getElem?_eq_some_iff.1 hfi).1
  exact⟨xs[i],by rw[h1,List.getElem?_eq_getElem hi6]⟩
 obtain⟨y0,g0⟩:=get 0 48 0 1 rfl (by kernel_rfl)
 obtain⟨y1,g1⟩:=get 1 25 1 4 rfl (by kernel_rfl)
 obtain⟨y2,g2⟩:=get 2 3 5 1 rfl (by kernel_rfl)
 obtain⟨y3,g3⟩:=get 3 3 6 1 rfl (by kernel_rfl)
 obtain⟨y4,g4⟩:=get 4 3 7 1 rfl (by kernel_rfl)
 obtain⟨y5,g5⟩:=get 5 22 8 1 rfl (by kernel_rfl)
 obtain⟨k,e0,_,_⟩:=DataW.trod_int Tryz.underlying48 g0;obtain⟨s,e1,hs⟩:=open_setcells g1;obtain⟨n2,e2,_,_⟩:=DataW.trod_int Tryz.underlying3 g2;obtain⟨n3,e3,_,_⟩:=DataW.trod_int Tryz.underlying3 g3;obtain⟨n4,e4,_,_⟩:=DataW.trod_int Tryz.underlying3 g4;obtain⟨n5,e5,_,_⟩:=DataW.trod_int Tryz.underlying22 g5;refine⟨{kind:=k,set:=s,next:=n2,other:=n3,slot:=n4,spot:=n5},?_,hs⟩
 match cs,h9 with
 | [x0,x1,x2,x3,x4,x5,x6,x7,x8],_ =>
  simp[setC]at e0 e1 e2 e3 e4 e5;obtain⟨rfl,rfl,rfl,rfl⟩:=e1;subst e0 e2 e3 e4 e5;rfl
theorem open_insts {H:Type} {enc:TypeId × Value→H} {W:World} {v:Value} {d:DataW H} {p:List MemPlace} (hv:∃ a l c,v=.slice a l c)
  (h:DataW.Trod enc Tryz.prog W 0 (fun _=>true) true 32 v d p) :
  ∃ (ps:List InstD) (q:Option Addr) (c:Nat),v=.slice q ps.length c∧InstsR (fun b=>b<W.heap.size) q c ps W∧∀ x ∈ ps,SetOk x.set:=by
 obtain⟨a0,l0,c0,rfl⟩:=hv;obtain⟨fuel,hf⟩:=h;have hc9:Tryz.prog.cellsOf 50=9:=by kernel_rfl
 rcases Go.Deep.open_slice Tryz.underlying32 hf with ⟨hcs,hx⟩|⟨x,l,c,m,n,D,Pl,hcs,_,hl,hm,hmm,hx,hel⟩
 ·simp[Value.cells]at hcs;obtain⟨rfl,rfl,rfl⟩:=hcs;exact⟨[],none,0,rfl,RdN.nil ..,fun x hx=>by cases hx⟩
 ·simp[Value.cells]at hcs;obtain⟨rfl,rfl,rfl⟩:=hcs;simp only[if_true]at hmm;obtain rfl:=hmm;rw[hc9]at hel
  by_cases hcz:l0=0
  ·subst hcz;exact⟨[],some x,m,rfl,⟨some x,m,rfl,Nat.zero_le _,hm,(fun h=>by cases h),fun j r hr=>by simp at hr⟩,fun x hx=>by cases hx⟩
  ·obtain⟨cs',h1,_⟩:=hel 0 (by omega)
   obtain⟨_,hlen,hc⟩:=World.cells?_some h1;have h0:=hc 0 (by omega)
   rw[Go.Deep.add_add]at h0;obtain⟨b,off,hxe,hb⟩:=addr_plain (by rw[h0];exact List.getElem?_eq_getElem (by omega))
   have hx0:x=⟨b,off,none⟩:=by
    obtain⟨xb,xo,xs⟩:=x;simp only[Addr.add]at hxe;split at hxe<;>simp_all
   subst hx0;have had:∀ j,(⟨b,off,none⟩:Addr).add j=⟨b,off+j,none⟩:=fun j=>by unfold Addr.add;split<;>simp_all
   have hA:∀ i,i<l0→∃ d:InstD,SetOk d.set∧∀ k,k<9→W.cell? ⟨b,off+i * 9+k,none⟩=(instC d)[k]?:=by
    intro i hi;obtain⟨cs2,g1,g2⟩:=hel i (by omega)
    obtain⟨d,rfl,hs⟩:=open_instcells g2;obtain⟨_,_,hc2⟩:=World.cells?_some g1;refine⟨d,hs,fun k hk=>?_⟩
    have:=hc2 k hk;rw[Go.Deep.add_add,had,← Nat.add_assoc]at this;rw[this];simp
   haveI inhI:Inhabited InstD:=⟨{kind:=0}⟩
   obtain⟨F,hF⟩:=Go.Deep.choose_lt (α:=InstD) hA;refine⟨(List.range l0).map F,some ⟨b,off,none⟩,m,by simp,⟨_,m,by simp,by simpa using hl,hm,(fun h=>by cases h),fun j r hr=>⟨b,off,rfl,hb,?_,?_⟩⟩,fun t ht=>?_⟩
   ·rw[List.getElem?_map]at hr;obtain⟨y,_,rfl⟩:=Option.map_eq_some_iff.1 hr;rfl
   ·rw[List.getElem?_map]at hr;obtain⟨y,hy,rfl⟩:=Option.map_eq_some_iff.1 hr;rw[List.getElem?_map]at hy;obtain⟨j',hj',rfl⟩:=Option.map_eq_some_iff.1 hy;obtain⟨hlt,e⟩:=List.getElem?_eq_some_iff.1 hj';simp at hlt e;subst e;exact(hF j hlt).2
   ·obtain⟨j,hj,rfl⟩:=List.mem_map.1 ht;exact(hF j (by simpa using hj)).1
end
section
open Go.RowKit
attribute [local go_sem] Oper.semAt_some
section
variable {o:Oper} {a:Act} {w:World} {x y:Operand} {U:TypeId}
theorem run_subK {m n k:Int} (hop:o.op=.binOp .sub 3 x y U) (hx:a.eval x=.int .i64 m) (hy:a.eval y=.int .i64 n) (h:m - n=k) (h1 : -9223372036854775808≤k) (h2:k≤9223372036854775807):(execOp a.eval o).run Tryz.prog w=.ok (.value (.int .i64 k)) w:=by
 have e:IntKind.i64.wrap (m - n)=k:=by rw[h,IntKind.wrap_i64];omega
 simp only[execOp,hop,hx,hy];simp[go_sem,e]
theorem run_cutS {T:TypeId} {p:Option Addr} {n c m sz:Nat} (hT:Tryz.prog.underlying T=some (.slice (Tryz.prog.elem T))) (hz:∀ w,(sizeOf (Tryz.prog.elem T)).run Tryz.prog w=.ok sz w) (hop:o.op=.slice T x none (some y) none) (hx:a.eval x=.slice p n c) (hy:a.eval y=.int .i64 (m:Int)) (hm:m≤c):(execOp a.eval o).run Tryz.prog w=.ok (.value (.slice p m c)) w:=by
 simp only[execOp,hop,hx,hy,Option.map_some,Option.map_none,Sem.run_bind];rw[run_sliceAt_slice (h:=hT),run_slice_h (ht:=hT) (h0:=by omega) (h2:=by omega),hz]
 simp[Result.andThen,sliced];intro _
 cases p<;>simp[Addr.add]
end
end
section
open Go.RowKit Go.Shelf
attribute [local go_sem] Oper.semAt_some
theorem results_tmp5 {fn:Func} {p q r s t:Tmp} (h:fn.results=#[.tmp p,.tmp q,.tmp r,.tmp s,.tmp t]) (tmps:Array Value) (P:Program) (w:World) :
  (results fn tmps).run P w=.ok (.tuple #[tmps.getD p undef,tmps.getD q undef,tmps.getD r undef,tmps.getD s undef,tmps.getD t undef]) w:=by
 simp[results,h]
def hasV (k:Int):Value:=.tuple #[.bool (k == 1),.bool (k == 1 || k == 2 || k == 3 || k == 4),.bool (k == 2),.bool (k == 3),.bool (k == 4)]
theorem ref_has (k:Int) (w0:World):Calls Tryz.prog 43 #[.int .i64 k] w0 fun e w'=>e=.returned (hasV k)∧Below w0.heap.size w0 w':=by
 have H:=Hold.start w0
 cases h1:k == 1 with
 | true =>
  have E:=Lib.hid (show hasV k=.tuple #[.bool true,.bool true,.bool false,.bool false,.bool false] by rw[beq_iff_eq]at h1;subst h1;rfl)
  go_enter Tryz.func43,Tryz.ntmps43
  go_wp2_with fail
  refine bodyPost_ret (results_tmp5 rfl _ _ _) rfl ?_
  exact⟨by rw[E.out];rfl,H.below⟩
 | false =>
  cases h2:k == 2 with
  | true =>
   have E:=Lib.hid (show hasV k=.tuple #[.bool false,.bool true,.bool true,.bool false,.bool false] by rw[beq_iff_eq]at h2;subst h2;rfl)
   go_enter Tryz.func43,Tryz.ntmps43
   go_wp2_with fail
   refine bodyPost_ret (results_tmp5 rfl _ _ _) rfl ?_
   exact⟨by rw[E.out];rfl,H.below⟩
  | false =>
   cases h3:k == 3 with
   | true =>
    have E:=Lib.hid (show hasV k=.tuple #[.bool false,.bool true,.bool false,.bool true,.bool false] by rw[beq_iff_eq]at h3;subst h3;rfl)
    go_enter Tryz.func43,Tryz.ntmps43
    go_wp2_with fail
    refine bodyPost_ret (results_tmp5 rfl _ _ _) rfl ?_
    exact⟨by rw[E.out];rfl,H.below⟩
   | false =>
    cases h4:k == 4 with
    | true =>
     have E:=Lib.hid (show hasV k=.tuple #[.bool false,.bool true,.bool false,.bool false,.bool true] by rw[beq_iff_eq]at h4;subst h4;rfl)
     go_enter Tryz.func43,Tryz.ntmps43
     go_wp2_with fail
     refine bodyPost_ret (results_tmp5 rfl _ _ _) rfl ?_
     exact⟨by rw[E.out];rfl,H.below⟩
    | false =>
     have E:=Lib.hid (show hasV k=.tuple #[.bool false,.bool false,.bool false,.bool false,.bool false] by unfold hasV;rw[h1,h2,h3,h4];rfl)
     go_enter Tryz.func43,Tryz.ntmps43
     go_wp2_with fail
     refine bodyPost_ret (results_tmp5 rfl _ _ _) rfl ?_
     exact⟨by rw[E.out];rfl,H.below⟩
theorem rightI_tests (n:Nat) (x:InstD):rightI n x=!((((decide ((x.kind)<(1))) || (decide ((6)<(x.kind)))) || ((!(eqS (x.set) (emptyS))) != (x.kind == 1))) ||
  ((((((x.kind == 1 || x.kind == 2 || x.kind == 3 || x.kind == 4)&&((decide ((x.next)<(0))) || (decide (((n:Int))≤(x.next))))) || ((!(x.kind == 1 || x.kind == 2 || x.kind == 3 || x.kind == 4))&&((x.next) != (0)))) || ((x.kind == 2)&&((decide ((x.other)<(0))) || (decide (((n:Int))≤(x.other)))))) || ((!(x.kind == 2))&&((x.other) != (0)))) ||
  (((((x.kind == 3)&&((decide ((x.slot)<(0))) || (decide ((41)<(x.slot))))) || ((!(x.kind == 3))&&((x.slot) != (0)))) || ((x.kind == 4)&&((decide ((x.spot)<(8))) || (decide ((13)<(x.spot)))))) || ((!(x.kind == 4))&&((x.spot) != (0)))))):=by
 obtain⟨k,s,a,b,c,d⟩:=x;simp only;unfold rightI inN
 generalize eqS s emptyS=q
 simp only
 by_cases h1:k=1
 ·subst h1;rw[Bool.eq_iff_iff];cases q<;>simp<;>omega
 by_cases h2:k=2
 ·subst h2;rw[Bool.eq_iff_iff];cases q<;>simp<;>omega
 by_cases h3:k=3
 ·subst h3;rw[Bool.eq_iff_iff];cases q<;>simp<;>omega
 by_cases h4:k=4
 ·subst h4;rw[Bool.eq_iff_iff];cases q<;>simp<;>omega
 by_cases h5:k=5
 ·subst h5;rw[Bool.eq_iff_iff];cases q<;>simp<;>omega
 by_cases h6:k=6
 ·subst h6;rw[Bool.eq_iff_iff];cases q<;>simp<;>omega
 ·rw[Bool.eq_iff_iff];cases q<;>simp[h1,h2,h3,h4,h5,h6]<;>omega
def mostI (p:List InstD):Int:=p.foldl (fun m x=>max m x.slot) 1
def slotsI (p:List InstD):Int:=wrap64 (wrap64 (wrap64 ((mostI p).tdiv 2) * 2)+2)
theorem mostI_take {xs:List InstD} {j:Nat} {x:InstD} (h:xs[j]?=some x):mostI (xs.take (j+1))=max (mostI (xs.take j)) x.slot:=by
 rw[take_get h];simp[mostI]
theorem ref_Slots13 (p:Option Addr) (c:Nat) (xs:List InstD) (F:Nat→Prop) (w0:World) (hF:∀ b,F b→b<w0.heap.size) (h:InstsR F p c xs w0) :
  Calls Tryz.prog 18 #[.slice p xs.length c] w0 fun e w'=>e=.returned (.int .i64 (slotsI xs))∧Below w0.heap.size w0 w':=by
 have hc:=h.bound;have hp:=h.at;have H:=Hold.insts hF h;clear h;obtain⟨n,hn⟩:∃ n,xs.length=n:=⟨_,rfl⟩;rw[hn]at hc hp ⊢;have HN:=Lib.hid hn;clear hn
 go_enter Tryz.func18,Tryz.ntmps18
 go_wp2_with (first|fail)
 go_loopw [3,4] (fun vs ix wr=>∃ (j:Nat),j≤n∧vs=.int .i64 (mostI (xs.take j))∧ix=.int .i64 j∧Hold w0 wr [.kn F (InstsR F p c xs)]) (fun _ ix _=>n+1 - (intOf ix).toNat)
 case atStart=>exact⟨0,by omega,rfl,rfl,H⟩
 case round =>
  clear H;obtain⟨j,hj,rfl,rfl,H⟩:=hrel
  by_cases hlt:j<n
  ·have dj:decide ((j:Int)<(n:Int))=true:=by simp;omega
   obtain⟨x,hx⟩:∃ x,xs[j]?=some x:=⟨_,List.getElem?_eq_getElem (by rw[HN.out];exact hlt)⟩
   obtain⟨b,off,rfl⟩:=hp (by omega)
   have hcell:∀ V,InstsR F (some ⟨b,off,none⟩) c xs V→V.cell? ⟨b,off+j * 9+7,none⟩=some (.int .i64 x.slot):=fun V h=>(h.cells hx rfl 7 (by decide)).trans rfl
   have E:=Lib.hid (mostI_take hx);clear hx hp
   go_wp2_with (first|((with_reducible refine gL ?_);refine own_load1K wtd_ _ _ rfl rfl one_int (hcell _ (H.kn (i:=0) .zero)) ?_)|fail)
   go_roundw
   case rel=>exact⟨j+1,by omega,by rw[E.out,show (if mostI (List.take j xs)<x.slot then x.slot else mostI (List.take j xs))=max (mostI (List.take j xs)) x.slot by omega],by go_num,H⟩
   case measure=>simp[intOf];omega
  ·have hjn:j=n:=by omega
   subst hjn;have dj:decide ((j:Int)<(j:Int))=false:=by simp
   have E:=Lib.hid (show mostI (xs.take j)=mostI xs by rw[List.take_of_length_le (by rw[HN.out];omega)])
   clear hp
   go_wp2_with (first|fail)
   go_ret;exact⟨by unfold slotsI;rw[← E.out];rfl,H.below⟩
theorem right_no {xs:List InstD} {j:Nat} {x:InstD} (hx:xs[j]?=some x) (h:rightI xs.length x=false):rightP xs=false:=by
 have:xs.all (rightI xs.length)=false:=by
  rw[List.all_eq_false];exact⟨x,List.mem_of_getElem? hx,by rw[h];decide⟩
 unfold rightP;rw[this,Bool.and_false]
theorem all_takeI {α:Type} {f:α→Bool} {xs:List α} {j:Nat} {x:α} (hx:xs[j]?=some x) (h:(xs.take j).all f=true) (hf:f x=true):(xs.take (j+1)).all f=true:=by
 rw[take_get hx,List.all_append,h];simp[hf]
theorem ref_Right13 (p:Option Addr) (c:Nat) (xs:List InstD) (F:Nat→Prop) (w0:World) (hF:∀ b,F b→b<w0.heap.size) (h:InstsR F p c xs w0) :
  Calls Tryz.prog 16 #[.slice p xs.length c] w0 fun e w'=>e=.returned (.bool (rightP xs))∧Below w0.heap.size w0 w':=by
 have hc:=h.bound;have hp:=h.at;have H:=Hold.insts hF h;clear h;obtain⟨n,hn⟩:∃ n,xs.length=n:=⟨_,rfl⟩;rw[hn]at hc hp ⊢;have HN:=Lib.hid hn;clear hn
 by_cases h1:n<1
 ·have d1:decide ((n:Int)<1)=true:=by simp;omega
  have E:=Lib.hid (show rightP xs=false by unfold rightP;rw[decide_eq_false (by rw[HN.out];omega),Bool.false_and,Bool.false_and])
  go_enter Tryz.func16,Tryz.ntmps16
  go_wp2_with (first|fail)
  go_ret;exact⟨by rw[E.out];rfl,H.below⟩
 have d1:decide ((n:Int)<1)=false:=by simp;omega
 by_cases h2:4000<n
 ·have d2:decide ((4000:Int)<(n:Int))=true:=by simp;omega
  have E:=Lib.hid (show rightP xs=false by unfold rightP;rw[decide_eq_false (p:=xs.length≤4000) (by rw[HN.out];omega),Bool.and_false,Bool.false_and])
  go_enter Tryz.func16,Tryz.ntmps16
  go_wp2_with (first|fail)
  go_ret;exact⟨by rw[E.out];rfl,H.below⟩
 have d2:decide ((4000:Int)<(n:Int))=false:=by simp;omega
 go_enter Tryz.func16,Tryz.ntmps16
 go_wp2_with (first|fail)
 go_loopw [3] (fun ix wr=>∃ (j:Nat),j≤n∧ix=.int .i64 j∧Hid ((xs.take j).all (rightI n)=true)∧Hold w0 wr [.kn F (InstsR F p c xs)]) (fun ix _=>n+1 - (intOf ix).toNat)
 case atStart=>exact⟨0,by omega,rfl,Lib.hid rfl,H⟩
 case round =>
  clear H;obtain⟨j,hj,rfl,EA,H⟩:=hrel
  by_cases hlt:j<n
  ·have dj:decide ((j:Int)<(n:Int))=true:=by simp;omega
   obtain⟨x,hx⟩:∃ x,xs[j]?=some x:=⟨_,List.getElem?_eq_getElem (by rw[HN.out];exact hlt)⟩
   obtain⟨b,off,rfl⟩:=hp (by omega)
   have hcell:∀ V,InstsR F (some ⟨b,off,none⟩) c xs V→∀ k,k<9→V.cell? ⟨b,off+j * 9+k,none⟩=(instC x)[k]?:=fun V h=>h.cells hx rfl
   have hha:∀ w,Calls Tryz.prog 43 #[.int .i64 x.kind] w fun e w'=>e=.returned (.tuple #[.bool (x.kind == 1),.bool (x.kind == 1 || x.kind == 2 || x.kind == 3 || x.kind == 4),.bool (x.kind == 2),.bool (x.kind == 3),.bool (x.kind == 4)])∧Below w.heap.size w w':=ref_has x.kind
   have ht:=rightI_tests n x
   generalize (x.kind == 1 || x.kind == 2 || x.kind == 3 || x.kind == 4)=b2 at hha ht
   generalize (x.kind == 1)=b1 at hha ht
   generalize (x.kind == 2)=b3 at hha ht
   generalize (x.kind == 3)=b4x at hha ht
   generalize (x.kind == 4)=b5 at hha ht
   obtain⟨q8,h8⟩:∃ q,(((decide ((x.kind)<(1))) || (decide ((6)<(x.kind)))) || ((!(eqS (x.set) (emptyS))) != (b1)))=q:=⟨_,rfl⟩
   obtain⟨q10,h10⟩:∃ q,(((((b2)&&((decide ((x.next)<(0))) || (decide (((n:Int))≤(x.next))))) || ((!(b2))&&((x.next) != (0)))) || ((b3)&&((decide ((x.other)<(0))) || (decide (((n:Int))≤(x.other)))))) || ((!(b3))&&((x.other) != (0))))=q:=⟨_,rfl⟩
   obtain⟨q12,h12⟩:∃ q,(((((b4x)&&((decide ((x.slot)<(0))) || (decide ((41)<(x.slot))))) || ((!(b4x))&&((x.slot) != (0)))) || ((b5)&&((decide ((x.spot)<(8))) || (decide ((13)<(x.spot)))))) || ((!(b5))&&((x.spot) != (0))))=q:=⟨_,rfl⟩
   rw[h8,h10,h12]at ht;have EN:(q8 || (q10 || q12))=true→Hid (rightP xs=false):=fun h=>Lib.hid (right_no hx (by rw[HN.out,ht,h];rfl))
   have EY:(q8 || (q10 || q12))=false→Hid ((xs.take (j+1)).all (rightI n)=true):=fun h=>Lib.hid (all_takeI hx EA.out (by rw[ht,h];rfl))
   clear hx hp ht EA;have h8:=Lib.hid h8;have h10:=Lib.hid h10;have h12:=Lib.hid h12
   go_upto_region 8 with (first|((with_reducible refine gL ?_);refine own_loadK wtd_ _ _ rfl rfl row_Inst rfl (hcell _ (H.kn (i:=0) .zero)) ?_)|((first|((with_reducible refine kgA 4 ?_);refine kA 4 H ?_)|((with_reducible refine kgX 4 ?_);(first|refine kS 4 H ?_|refine kB 4 H ?_)));clear H;intro b4 w H;try simp only[nr]at H)|(first|((with_reducible refine gTi ?_);refine aTi H ?_;clear H;intro w H;try simp only[nr]at H)|((with_reducible refine gL ?_);refine aGi H ?_))|(go_at_call 43;(with_reducible refine ch (hha _) H ?_);clear H;intro w H))
   refine wp_region_seq 16 [fun v _=>v=Value.pointer (some ⟨b4,0,none⟩),fun v _=>v=Value.int .i64 (x.kind),fun v _=>v=Value.bool (decide ((x.kind)<(1))),fun v _=>v=Value.bool (decide ((x.kind)<(1))),fun v _=>v=iT (true) (decide ((x.kind)<(1))) false (.pointer (some ⟨b4,0,none⟩)),fun v _=>v=iT (true) (decide ((x.kind)<(1))) false (.int .i64 (x.kind)),fun v _=>v=iT (true) (decide ((x.kind)<(1))) false (.bool (decide ((6)<(x.kind)))),fun v _=>v=Value.bool ((decide ((x.kind)<(1))) || (decide ((6)<(x.kind)))),fun v _=>v=Value.bool ((decide ((x.kind)<(1))) || (decide ((6)<(x.kind)))),fun v _=>v=iT (true) ((decide ((x.kind)<(1))) || (decide ((6)<(x.kind)))) false (.pointer (some ⟨b4,1,none⟩)),fun v _=>v=iT (true) ((decide ((x.kind)<(1))) || (decide ((6)<(x.kind)))) false (setV (x.set)),fun v _=>v=iT (true) ((decide ((x.kind)<(1))) || (decide ((6)<(x.kind)))) false (setV (emptyS)),fun v _=>v=iT (true) ((decide ((x.kind)<(1))) || (decide ((6)<(x.kind)))) false (.bool (!(eqS (x.set) (emptyS)))),fun v _=>v=iT (true) ((decide ((x.kind)<(1))) || (decide ((6)<(x.kind)))) false (.bool (b1)),fun v _=>v=iT (true) ((decide ((x.kind)<(1))) || (decide ((6)<(x.kind)))) false (.bool ((!(eqS (x.set) (emptyS))) != (b1))),fun v _=>v=Value.bool (((decide ((x.kind)<(1))) || (decide ((6)<(x.kind)))) || ((!(eqS (x.set) (emptyS))) != (b1)))] (fun _=>false) (by kernel_rfl) (by kernel_rfl) (by repeat (first|exact trivial|refine⟨stable_eq _,?_⟩)) (fun _ _ h=>by cases h) ?ob ?en
   case ob =>
    refine⟨?_,?_,?_,?_,?_,?_,?_,?_,?_,?_,?_,?_,?_,?_,?_,?_,trivial⟩<;>intro A W h
    ·exact rs_pure rfl ((by have e:A.eval (.tmp 4)=Value.pointer (some ⟨b4,0,none⟩):=h.frame 4 rfl;simp only[execOp,e];simp[go_sem]))
    ·exact rs_pure rfl (run_load1K rfl (h.dep 0 37 rfl rfl) (by decide +kernel) ((H.call h.below).cell (i:=1) i_1 0))
    ·exact rs_pure rfl ((by have e38:A.eval (.tmp 38)=Value.int .i64 (x.kind):=h.dep 1 38 rfl rfl;simp only[execOp,e38];simp[go_sem]))
    ·exact rs_pure rfl (run_cp (.inl rfl) (h.dep 2 39 rfl rfl))
    ·refine sy_ (h.dep 3 40 rfl rfl) fun hC=>?_;exact(by have e:A.eval (.tmp 4)=Value.pointer (some ⟨b4,0,none⟩):=h.frame 4 rfl;simp only[execOp,e];simp[go_sem])
    ·refine sy_ (h.dep 3 40 rfl rfl) fun hC=>?_;exact run_load1K rfl (bif_at (h.dep 4 41 rfl rfl) hC) (by decide +kernel) ((H.call h.below).cell (i:=1) i_1 0)
    ·refine sy_ (h.dep 3 40 rfl rfl) fun hC=>?_;exact(by have e42:A.eval (.tmp 42)=Value.int .i64 (x.kind):=bif_at (h.dep 5 42 rfl rfl) hC;simp only[execOp,e42];simp[go_sem])
    ·exact rs_pure rfl (run_or rfl (h.dep 3 40 rfl rfl) (fun hb2=>bif_at (h.dep 6 43 rfl rfl) (by (first|(rw[hb2];rfl)|simp[hb2]))))
    ·exact rs_pure rfl (run_cp (.inl rfl) (h.dep 7 44 rfl rfl))
    ·refine sy_ (h.dep 8 45 rfl rfl) fun hC=>?_;exact(by have e:A.eval (.tmp 4)=Value.pointer (some ⟨b4,0,none⟩):=h.frame 4 rfl;simp only[execOp,e];simp[go_sem])
    ·refine sy_ (h.dep 8 45 rfl rfl) fun hC=>?_;exact run_loadK rfl (bif_at (h.dep 9 46 rfl rfl) hC) row_Set rfl (fun j hj=>by have h1:=(H.call h.below).cell (i:=1) i_1 (1+j);rcases j with _|_|_|_|j<;>first|exact h1|omega)
    ·refine sy_ (h.dep 8 45 rfl rfl) fun hC=>?_;exact run_setE rfl
    ·refine sy_ (h.dep 8 45 rfl rfl) fun hC=>?_;exact(run_sne rfl (bif_at (h.dep 10 47 rfl rfl) hC) (bif_at (h.dep 11 48 rfl rfl) hC))
    ·refine sy_ (h.dep 8 45 rfl rfl) fun hC=>?_;exact run_cp (.inl rfl) (h.frame 5 rfl)
    ·refine sy_ (h.dep 8 45 rfl rfl) fun hC=>?_;exact(by have e49:A.eval (.tmp 49)=Value.bool (!(eqS (x.set) (emptyS))):=bif_at (h.dep 12 49 rfl rfl) hC;have e50:A.eval (.tmp 50)=Value.bool (b1):=bif_at (h.dep 13 50 rfl rfl) hC;simp only[execOp,e49,e50];generalize (!(eqS (x.set) (emptyS)))=bp;generalize (b1)=bq;cases bp<;>cases bq<;>simp[go_sem])
    ·exact rs_pure rfl (run_or rfl (h.dep 8 45 rfl rfl) (fun hb2=>bif_at (h.dep 14 51 rfl rfl) (by (first|(rw[hb2];rfl)|simp[hb2]))))
   case en =>
    intro vals W hbw hv _;have v15:vals 15=_:=hv 15 (by omega)
    simp only[fa,Nat.reduceAdd];rw[v15];clear hv v15
    try simp only[pl]
    have H:=H.call hbw;rw[h8.out]
    cases q8 with
    | true =>
     have E:=EN rfl
     go_wp2_with (first|fail)
     go_ret;exact⟨by rw[E.out];rfl,H.below⟩
    | false =>
     go_upto_region 10 with (first|fail)
     refine wp_region_seq 46 [fun v _=>v=Value.bool (b2),fun v _=>v=Value.bool (b2),fun v _=>v=iT (true) (b2) true (.pointer (some ⟨b4,5,none⟩)),fun v _=>v=iT (true) (b2) true (.int .i64 (x.next)),fun v _=>v=iT (true) (b2) true (.bool (decide ((x.next)<(0)))),fun v _=>v=iT (true) (b2) true (.bool (decide ((x.next)<(0)))),fun v _=>v=iT ((true)&&((b2) == true)) (decide ((x.next)<(0))) false (.pointer (some ⟨b4,5,none⟩)),fun v _=>v=iT ((true)&&((b2) == true)) (decide ((x.next)<(0))) false (.int .i64 (x.next)),fun v _=>v=iT ((true)&&((b2) == true)) (decide ((x.next)<(0))) false (.slice (some ⟨b,off,none⟩) n c),fun v _=>v=iT ((true)&&((b2) == true)) (decide ((x.next)<(0))) false (.int .i64 ((n:Int))),fun v _=>v=iT ((true)&&((b2) == true)) (decide ((x.next)<(0))) false (.bool (decide (((n:Int))≤(x.next)))),fun v _=>v=iT (true) (b2) true (.bool ((decide ((x.next)<(0))) || (decide (((n:Int))≤(x.next))))),fun v _=>v=Value.bool ((b2)&&((decide ((x.next)<(0))) || (decide (((n:Int))≤(x.next))))),fun v _=>v=Value.bool ((b2)&&((decide ((x.next)<(0))) || (decide (((n:Int))≤(x.next))))),fun v _=>v=iT (true) ((b2)&&((decide ((x.next)<(0))) || (decide (((n:Int))≤(x.next))))) false (.bool (b2)),fun v _=>v=iT (true) ((b2)&&((decide ((x.next)<(0))) || (decide (((n:Int))≤(x.next))))) false (.bool (!(b2))),fun v _=>v=iT (true) ((b2)&&((decide ((x.next)<(0))) || (decide (((n:Int))≤(x.next))))) false (.bool (!(b2))),fun v _=>v=iT ((true)&&(((b2)&&((decide ((x.next)<(0))) || (decide (((n:Int))≤(x.next))))) == false)) (!(b2)) true (.pointer (some ⟨b4,5,none⟩)),fun v _=>v=iT ((true)&&(((b2)&&((decide ((x.next)<(0))) || (decide (((n:Int))≤(x.next))))) == false)) (!(b2)) true (.int .i64 (x.next)),fun v _=>v=iT ((true)&&(((b2)&&((decide ((x.next)<(0))) || (decide (((n:Int))≤(x.next))))) == false)) (!(b2)) true (.bool ((x.next) != (0))),fun v _=>v=iT (true) ((b2)&&((decide ((x.next)<(0))) || (decide (((n:Int))≤(x.next))))) false (.bool ((!(b2))&&((x.next) != (0)))),fun v _=>v=Value.bool (((b2)&&((decide ((x.next)<(0))) || (decide (((n:Int))≤(x.next))))) || ((!(b2))&&((x.next) != (0)))),fun v _=>v=Value.bool (((b2)&&((decide ((x.next)<(0))) || (decide (((n:Int))≤(x.next))))) || ((!(b2))&&((x.next) != (0)))),fun v _=>v=iT (true) (((b2)&&((decide ((x.next)<(0))) || (decide (((n:Int))≤(x.next))))) || ((!(b2))&&((x.next) != (0)))) false (.bool (b3)),fun v _=>v=iT (true) (((b2)&&((decide ((x.next)<(0))) || (decide (((n:Int))≤(x.next))))) || ((!(b2))&&((x.next) != (0)))) false (.bool (b3)),fun v _=>v=iT ((true)&&((((b2)&&((decide ((x.next)<(0))) || (decide (((n:Int))≤(x.next))))) || ((!(b2))&&((x.next) != (0)))) == false)) (b3) true (.pointer (some ⟨b4,6,none⟩)),fun v _=>v=iT ((true)&&((((b2)&&((decide ((x.next)<(0))) || (decide (((n:Int))≤(x.next))))) || ((!(b2))&&((x.next) != (0)))) == false)) (b3) true (.int .i64 (x.other)),fun v _=>v=iT ((true)&&((((b2)&&((decide ((x.next)<(0))) || (decide (((n:Int))≤(x.next))))) || ((!(b2))&&((x.next) != (0)))) == false)) (b3) true (.bool (decide ((x.other)<(0)))),fun v _=>v=iT ((true)&&((((b2)&&((decide ((x.next)<(0))) || (decide (((n:Int))≤(x.next))))) || ((!(b2))&&((x.next) != (0)))) == false)) (b3) true (.bool (decide ((x.other)<(0)))),fun v _=>v=iT (((true)&&((((b2)&&((decide ((x.next)<(0))) || (decide (((n:Int))≤(x.next))))) || ((!(b2))&&((x.next) != (0)))) == false))&&((b3) == true)) (decide ((x.other)<(0))) false (.pointer (some ⟨b4,6,none⟩)),fun v _=>v=iT (((true)&&((((b2)&&((decide ((x.next)<(0))) || (decide (((n:Int))≤(x.next))))) || ((!(b2))&&((x.next) != (0)))) == false))&&((b3) == true)) (decide ((x.other)<(0))) false (.int .i64 (x.other)),fun v _=>v=iT (((true)&&((((b2)&&((decide ((x.next)<(0))) || (decide (((n:Int))≤(x.next))))) || ((!(b2))&&((x.next) != (0)))) == false))&&((b3) == true)) (decide ((x.other)<(0))) false (.slice (some ⟨b,off,none⟩) n c),fun v _=>v=iT (((true)&&((((b2)&&((decide ((x.next)<(0))) || (decide (((n:Int))≤(x.next))))) || ((!(b2))&&((x.next) != (0)))) == false))&&((b3) == true)) (decide ((x.other)<(0))) false (.int .i64 ((n:Int))),fun v _=>v=iT (((true)&&((((b2)&&((decide ((x.next)<(0))) || (decide (((n:Int))≤(x.next))))) || ((!(b2))&&((x.next) != (0)))) == false))&&((b3) == true)) (decide ((x.other)<(0))) false (.bool (decide (((n:Int))≤(x.other)))),fun v _=>v=iT ((true)&&((((b2)&&((decide ((x.next)<(0))) || (decide (((n:Int))≤(x.next))))) || ((!(b2))&&((x.next) != (0)))) == false)) (b3) true (.bool ((decide ((x.other)<(0))) || (decide (((n:Int))≤(x.other))))),fun v _=>v=iT (true) (((b2)&&((decide ((x.next)<(0))) || (decide (((n:Int))≤(x.next))))) || ((!(b2))&&((x.next) != (0)))) false (.bool ((b3)&&((decide ((x.other)<(0))) || (decide (((n:Int))≤(x.other)))))),fun v _=>v=Value.bool ((((b2)&&((decide ((x.next)<(0))) || (decide (((n:Int))≤(x.next))))) || ((!(b2))&&((x.next) != (0)))) || ((b3)&&((decide ((x.other)<(0))) || (decide (((n:Int))≤(x.other)))))),fun v _=>v=Value.bool ((((b2)&&((decide ((x.next)<(0))) || (decide (((n:Int))≤(x.next))))) || ((!(b2))&&((x.next) != (0)))) || ((b3)&&((decide ((x.other)<(0))) || (decide (((n:Int))≤(x.other)))))),fun v _=>v=iT (true) ((((b2)&&((decide ((x.next)<(0))) || (decide (((n:Int))≤(x.next))))) || ((!(b2))&&((x.next) != (0)))) || ((b3)&&((decide ((x.other)<(0))) || (decide (((n:Int))≤(x.other)))))) false (.bool (b3)),fun v _=>v=iT (true) ((((b2)&&((decide ((x.next)<(0))) || (decide (((n:Int))≤(x.next))))) || ((!(b2))&&((x.next) != (0)))) || ((b3)&&((decide ((x.other)<(0))) || (decide (((n:Int))≤(x.other)))))) false (.bool (!(b3))),fun v _=>v=iT (true) ((((b2)&&((decide ((x.next)<(0))) || (decide (((n:Int))≤(x.next))))) || ((!(b2))&&((x.next) != (0)))) || ((b3)&&((decide ((x.other)<(0))) || (decide (((n:Int))≤(x.other)))))) false (.bool (!(b3))),fun v _=>v=iT ((true)&&(((((b2)&&((decide ((x.next)<(0))) || (decide (((n:Int))≤(x.next))))) || ((!(b2))&&((x.next) != (0)))) || ((b3)&&((decide ((x.other)<(0))) || (decide (((n:Int))≤(x.other)))))) == false)) (!(b3)) true (.pointer (some ⟨b4,6,none⟩)),fun v _=>v=iT ((true)&&(((((b2)&&((decide ((x.next)<(0))) || (decide (((n:Int))≤(x.next))))) || ((!(b2))&&((x.next) != (0)))) || ((b3)&&((decide ((x.other)<(0))) || (decide (((n:Int))≤(x.other)))))) == false)) (!(b3)) true (.int .i64 (x.other)),fun v _=>v=iT ((true)&&(((((b2)&&((decide ((x.next)<(0))) || (decide (((n:Int))≤(x.next))))) || ((!(b2))&&((x.next) != (0)))) || ((b3)&&((decide ((x.other)<(0))) || (decide (((n:Int))≤(x.other)))))) == false)) (!(b3)) true (.bool ((x.other) != (0))),fun v _=>v=iT (true) ((((b2)&&((decide ((x.next)<(0))) || (decide (((n:Int))≤(x.next))))) || ((!(b2))&&((x.next) != (0)))) || ((b3)&&((decide ((x.other)<(0))) || (decide (((n:Int))≤(x.other)))))) false (.bool ((!(b3))&&((x.other) != (0)))),fun v _=>v=Value.bool (((((b2)&&((decide ((x.next)<(0))) || (decide (((n:Int))≤(x.next))))) || ((!(b2))&&((x.next) != (0)))) || ((b3)&&((decide ((x.other)<(0))) || (decide (((n:Int))≤(x.other)))))) || ((!(b3))&&((x.other) != (0))))] (fun _=>false) (by kernel_rfl) (by kernel_rfl) (by repeat (first|exact trivial|refine⟨stable_eq _,?_⟩)) (fun _ _ h=>by cases h) ?ob ?en
     case ob =>
      refine⟨?_,?_,?_,?_,?_,?_,?_,?_,?_,?_,?_,?_,?_,?_,?_,?_,?_,?_,?_,?_,?_,?_,?_,?_,?_,?_,?_,?_,?_,?_,?_,?_,?_,?_,?_,?_,?_,?_,?_,?_,?_,?_,?_,?_,?_,?_,trivial⟩<;>intro A W h
      ·exact rs_pure rfl (run_cp (.inl rfl) (h.frame 6 rfl))
      ·exact rs_pure rfl (run_cp (.inl rfl) (h.dep 0 53 rfl rfl))
      ·refine sy_ (h.dep 1 54 rfl rfl) fun hC=>?_;exact(by have e:A.eval (.tmp 4)=Value.pointer (some ⟨b4,0,none⟩):=h.frame 4 rfl;simp only[execOp,e];simp[go_sem])
      ·refine sy_ (h.dep 1 54 rfl rfl) fun hC=>?_;exact run_load1K rfl (bif_at (h.dep 2 55 rfl rfl) hC) one_int ((H.call h.below).cell (i:=1) i_1 5)
      ·refine sy_ (h.dep 1 54 rfl rfl) fun hC=>?_;exact(by have e56:A.eval (.tmp 56)=Value.int .i64 (x.next):=bif_at (h.dep 3 56 rfl rfl) hC;simp only[execOp,e56];simp[go_sem])
      ·refine sy_ (h.dep 1 54 rfl rfl) fun hC=>?_;exact run_cp (.inl rfl) (bif_at (h.dep 4 57 rfl rfl) hC)
      ·refine sy_ (h.dep 5 58 rfl rfl) fun hC=>?_;exact(by have e:A.eval (.tmp 4)=Value.pointer (some ⟨b4,0,none⟩):=h.frame 4 rfl;simp only[execOp,e];simp[go_sem])
      ·refine sy_ (h.dep 5 58 rfl rfl) fun hC=>?_;exact run_load1K rfl (bif_at (h.dep 6 59 rfl rfl) hC) one_int ((H.call h.below).cell (i:=1) i_1 5)
      ·refine sy_ (h.dep 5 58 rfl rfl) fun hC=>?_;exact run_cp (.inl rfl) (h.frame 0 rfl)
      ·refine sy_ (h.dep 5 58 rfl rfl) fun hC=>?_;exact(run_lenS Tryz.underlying32 rfl (bif_at (h.dep 8 61 rfl rfl) hC))
      ·refine sy_ (h.dep 5 58 rfl rfl) fun hC=>?_;exact(by have e60:A.eval (.tmp 60)=Value.int .i64 (x.next):=bif_at (h.dep 7 60 rfl rfl) hC;have e62:A.eval (.tmp 62)=Value.int .i64 ((n:Int)):=bif_at (h.dep 9 62 rfl rfl) hC;simp only[execOp,e60,e62];simp[go_sem])
      ·refine sy_ (h.dep 1 54 rfl rfl) fun hC=>?_;exact run_or rfl (bif_at (h.dep 5 58 rfl rfl) hC) (fun hb2=>bif_at (h.dep 10 63 rfl rfl) (by (first|(rw[hC,hb2];rfl)|(rw[hb2];rfl)|simp[hb2,hC])))
      ·exact rs_pure rfl (run_and rfl (h.dep 1 54 rfl rfl) (fun hb2=>bif_at (h.dep 11 64 rfl rfl) (by (first|(rw[hb2];rfl)|simp[hb2]))))
      ·exact rs_pure rfl (run_cp (.inl rfl) (h.dep 12 65 rfl rfl))
      ·refine sy_ (h.dep 13 66 rfl rfl) fun hC=>?_;exact run_cp (.inl rfl) (h.frame 6 rfl)
      ·refine sy_ (h.dep 13 66 rfl rfl) fun hC=>?_;exact(by have e:A.eval (.tmp 67)=Value.bool (b2):=bif_at (h.dep 14 67 rfl rfl) hC;simp only[execOp,e];simp[go_sem])
      ·refine sy_ (h.dep 13 66 rfl rfl) fun hC=>?_;exact run_cp (.inl rfl) (bif_at (h.dep 15 68 rfl rfl) hC)
      ·refine sy_ (h.dep 16 69 rfl rfl) fun hC=>?_;exact(by have e:A.eval (.tmp 4)=Value.pointer (some ⟨b4,0,none⟩):=h.frame 4 rfl;simp only[execOp,e];simp[go_sem])
      ·refine sy_ (h.dep 16 69 rfl rfl) fun hC=>?_;exact run_load1K rfl (bif_at (h.dep 17 70 rfl rfl) hC) one_int ((H.call h.below).cell (i:=1) i_1 5)
      ·refine sy_ (h.dep 16 69 rfl rfl) fun hC=>?_;exact(by have e71:A.eval (.tmp 71)=Value.int .i64 (x.next):=bif_at (h.dep 18 71 rfl rfl) hC;simp only[execOp,e71];simp[go_sem])
      ·refine sy_ (h.dep 13 66 rfl rfl) fun hC=>?_;exact run_and rfl (bif_at (h.dep 16 69 rfl rfl) hC) (fun hb2=>bif_at (h.dep 19 72 rfl rfl) (by (first|(rw[hC,hb2];rfl)|(rw[hb2];rfl)|simp[hb2,hC])))
      ·exact rs_pure rfl (run_or rfl (h.dep 13 66 rfl rfl) (fun hb2=>bif_at (h.dep 20 73 rfl rfl) (by (first|(rw[hb2];rfl)|simp[hb2]))))
      ·exact rs_pure rfl (run_cp (.inl rfl) (h.dep 21 74 rfl rfl))
      ·refine sy_ (h.dep 22 75 rfl rfl) fun hC=>?_;exact run_cp (.inl rfl) (h.frame 7 rfl)
      ·refine sy_ (h.dep 22 75 rfl rfl) fun hC=>?_;exact run_cp (.inl rfl) (bif_at (h.dep 23 76 rfl rfl) hC)
      ·refine sy_ (h.dep 24 77 rfl rfl) fun hC=>?_;exact(by have e:A.eval (.tmp 4)=Value.pointer (some ⟨b4,0,none⟩):=h.frame 4 rfl;simp only[execOp,e];simp[go_sem])
      ·refine sy_ (h.dep 24 77 rfl rfl) fun hC=>?_;exact run_load1K rfl (bif_at (h.dep 25 78 rfl rfl) hC) one_int ((H.call h.below).cell (i:=1) i_1 6)
      ·refine sy_ (h.dep 24 77 rfl rfl) fun hC=>?_;exact(by have e79:A.eval (.tmp 79)=Value.int .i64 (x.other):=bif_at (h.dep 26 79 rfl rfl) hC;simp only[execOp,e79];simp[go_sem])
      ·refine sy_ (h.dep 24 77 rfl rfl) fun hC=>?_;exact run_cp (.inl rfl) (bif_at (h.dep 27 80 rfl rfl) hC)
      ·refine sy_ (h.dep 28 81 rfl rfl) fun hC=>?_;exact(by have e:A.eval (.tmp 4)=Value.pointer (some ⟨b4,0,none⟩):=h.frame 4 rfl;simp only[execOp,e];simp[go_sem])
      ·refine sy_ (h.dep 28 81 rfl rfl) fun hC=>?_;exact run_load1K rfl (bif_at (h.dep 29 82 rfl rfl) hC) one_int ((H.call h.below).cell (i:=1) i_1 6)
      ·refine sy_ (h.dep 28 81 rfl rfl) fun hC=>?_;exact run_cp (.inl rfl) (h.frame 0 rfl)
      ·refine sy_ (h.dep 28 81 rfl rfl) fun hC=>?_;exact(run_lenS Tryz.underlying32 rfl (bif_at (h.dep 31 84 rfl rfl) hC))
      ·refine sy_ (h.dep 28 81 rfl rfl) fun hC=>?_;exact(by have e83:A.eval (.tmp 83)=Value.int .i64 (x.other):=bif_at (h.dep 30 83 rfl rfl) hC;have e85:A.eval (.tmp 85)=Value.int .i64 ((n:Int)):=bif_at (h.dep 32 85 rfl rfl) hC;simp only[execOp,e83,e85];simp[go_sem])
      ·refine sy_ (h.dep 24 77 rfl rfl) fun hC=>?_;exact run_or rfl (bif_at (h.dep 28 81 rfl rfl) hC) (fun hb2=>bif_at (h.dep 33 86 rfl rfl) (by (first|(rw[hC,hb2];rfl)|(rw[hb2];rfl)|simp[hb2,hC])))
      ·refine sy_ (h.dep 22 75 rfl rfl) fun hC=>?_;exact run_and rfl (bif_at (h.dep 24 77 rfl rfl) hC) (fun hb2=>bif_at (h.dep 34 87 rfl rfl) (by (first|(rw[hC,hb2];rfl)|(rw[hb2];rfl)|simp[hb2,hC])))
      ·exact rs_pure rfl (run_or rfl (h.dep 22 75 rfl rfl) (fun hb2=>bif_at (h.dep 35 88 rfl rfl) (by (first|(rw[hb2];rfl)|simp[hb2]))))
      ·exact rs_pure rfl (run_cp (.inl rfl) (h.dep 36 89 rfl rfl))
      ·refine sy_ (h.dep 37 90 rfl rfl) fun hC=>?_;exact run_cp (.inl rfl) (h.frame 7 rfl)
      ·refine sy_ (h.dep 37 90 rfl rfl) fun hC=>?_;exact(by have e:A.eval (.tmp 91)=Value.bool (b3):=bif_at (h.dep 38 91 rfl rfl) hC;simp only[execOp,e];simp[go_sem])
      ·refine sy_ (h.dep 37 90 rfl rfl) fun hC=>?_;exact run_cp (.inl rfl) (bif_at (h.dep 39 92 rfl rfl) hC)
      ·refine sy_ (h.dep 40 93 rfl rfl) fun hC=>?_;exact(by have e:A.eval (.tmp 4)=Value.pointer (some ⟨b4,0,none⟩):=h.frame 4 rfl;simp only[execOp,e];simp[go_sem])
      ·refine sy_ (h.dep 40 93 rfl rfl) fun hC=>?_;exact run_load1K rfl (bif_at (h.dep 41 94 rfl rfl) hC) one_int ((H.call h.below).cell (i:=1) i_1 6)
      ·refine sy_ (h.dep 40 93 rfl rfl) fun hC=>?_;exact(by have e95:A.eval (.tmp 95)=Value.int .i64 (x.other):=bif_at (h.dep 42 95 rfl rfl) hC;simp only[execOp,e95];simp[go_sem])
      ·refine sy_ (h.dep 37 90 rfl rfl) fun hC=>?_;exact run_and rfl (bif_at (h.dep 40 93 rfl rfl) hC) (fun hb2=>bif_at (h.dep 43 96 rfl rfl) (by (first|(rw[hC,hb2];rfl)|(rw[hb2];rfl)|simp[hb2,hC])))
      ·exact rs_pure rfl (run_or rfl (h.dep 37 90 rfl rfl) (fun hb2=>bif_at (h.dep 44 97 rfl rfl) (by (first|(rw[hb2];rfl)|simp[hb2]))))
     case en =>
      intro vals W hbw hv _;have v45:vals 45=_:=hv 45 (by omega)
      simp only[fa,Nat.reduceAdd];rw[v45];clear hv v45
      try simp only[pl]
      have H:=H.call hbw;rw[h10.out]
      cases q10 with
      | true =>
       have E:=EN rfl
       go_wp2_with (first|fail)
       go_ret;exact⟨by rw[E.out];rfl,H.below⟩
      | false =>
       go_upto_region 12 with (first|fail)
       refine wp_region_seq 42 [fun v _=>v=Value.bool (b4x),fun v _=>v=Value.bool (b4x),fun v _=>v=iT (true) (b4x) true (.pointer (some ⟨b4,7,none⟩)),fun v _=>v=iT (true) (b4x) true (.int .i64 (x.slot)),fun v _=>v=iT (true) (b4x) true (.bool (decide ((x.slot)<(0)))),fun v _=>v=iT (true) (b4x) true (.bool (decide ((x.slot)<(0)))),fun v _=>v=iT ((true)&&((b4x) == true)) (decide ((x.slot)<(0))) false (.pointer (some ⟨b4,7,none⟩)),fun v _=>v=iT ((true)&&((b4x) == true)) (decide ((x.slot)<(0))) false (.int .i64 (x.slot)),fun v _=>v=iT ((true)&&((b4x) == true)) (decide ((x.slot)<(0))) false (.bool (decide ((41)<(x.slot)))),fun v _=>v=iT (true) (b4x) true (.bool ((decide ((x.slot)<(0))) || (decide ((41)<(x.slot))))),fun v _=>v=Value.bool ((b4x)&&((decide ((x.slot)<(0))) || (decide ((41)<(x.slot))))),fun v _=>v=Value.bool ((b4x)&&((decide ((x.slot)<(0))) || (decide ((41)<(x.slot))))),fun v _=>v=iT (true) ((b4x)&&((decide ((x.slot)<(0))) || (decide ((41)<(x.slot))))) false (.bool (b4x)),fun v _=>v=iT (true) ((b4x)&&((decide ((x.slot)<(0))) || (decide ((41)<(x.slot))))) false (.bool (!(b4x))),fun v _=>v=iT (true) ((b4x)&&((decide ((x.slot)<(0))) || (decide ((41)<(x.slot))))) false (.bool (!(b4x))),fun v _=>v=iT ((true)&&(((b4x)&&((decide ((x.slot)<(0))) || (decide ((41)<(x.slot))))) == false)) (!(b4x)) true (.pointer (some ⟨b4,7,none⟩)),fun v _=>v=iT ((true)&&(((b4x)&&((decide ((x.slot)<(0))) || (decide ((41)<(x.slot))))) == false)) (!(b4x)) true (.int .i64 (x.slot)),fun v _=>v=iT ((true)&&(((b4x)&&((decide ((x.slot)<(0))) || (decide ((41)<(x.slot))))) == false)) (!(b4x)) true (.bool ((x.slot) != (0))),fun v _=>v=iT (true) ((b4x)&&((decide ((x.slot)<(0))) || (decide ((41)<(x.slot))))) false (.bool ((!(b4x))&&((x.slot) != (0)))),fun v _=>v=Value.bool (((b4x)&&((decide ((x.slot)<(0))) || (decide ((41)<(x.slot))))) || ((!(b4x))&&((x.slot) != (0)))),fun v _=>v=Value.bool (((b4x)&&((decide ((x.slot)<(0))) || (decide ((41)<(x.slot))))) || ((!(b4x))&&((x.slot) != (0)))),fun v _=>v=iT (true) (((b4x)&&((decide ((x.slot)<(0))) || (decide ((41)<(x.slot))))) || ((!(b4x))&&((x.slot) != (0)))) false (.bool (b5)),fun v _=>v=iT (true) (((b4x)&&((decide ((x.slot)<(0))) || (decide ((41)<(x.slot))))) || ((!(b4x))&&((x.slot) != (0)))) false (.bool (b5)),fun v _=>v=iT ((true)&&((((b4x)&&((decide ((x.slot)<(0))) || (decide ((41)<(x.slot))))) || ((!(b4x))&&((x.slot) != (0)))) == false)) (b5) true (.pointer (some ⟨b4,8,none⟩)),fun v _=>v=iT ((true)&&((((b4x)&&((decide ((x.slot)<(0))) || (decide ((41)<(x.slot))))) || ((!(b4x))&&((x.slot) != (0)))) == false)) (b5) true (.int .i64 (x.spot)),fun v _=>v=iT ((true)&&((((b4x)&&((decide ((x.slot)<(0))) || (decide ((41)<(x.slot))))) || ((!(b4x))&&((x.slot) != (0)))) == false)) (b5) true (.bool (decide ((x.spot)<(8)))),fun v _=>v=iT ((true)&&((((b4x)&&((decide ((x.slot)<(0))) || (decide ((41)<(x.slot))))) || ((!(b4x))&&((x.slot) != (0)))) == false)) (b5) true (.bool (decide ((x.spot)<(8)))),fun v _=>v=iT (((true)&&((((b4x)&&((decide ((x.slot)<(0))) || (decide ((41)<(x.slot))))) || ((!(b4x))&&((x.slot) != (0)))) == false))&&((b5) == true)) (decide ((x.spot)<(8))) false (.pointer (some ⟨b4,8,none⟩)),fun v _=>v=iT (((true)&&((((b4x)&&((decide ((x.slot)<(0))) || (decide ((41)<(x.slot))))) || ((!(b4x))&&((x.slot) != (0)))) == false))&&((b5) == true)) (decide ((x.spot)<(8))) false (.int .i64 (x.spot)),fun v _=>v=iT (((true)&&((((b4x)&&((decide ((x.slot)<(0))) || (decide ((41)<(x.slot))))) || ((!(b4x))&&((x.slot) != (0)))) == false))&&((b5) == true)) (decide ((x.spot)<(8))) false (.bool (decide ((13)<(x.spot)))),fun v _=>v=iT ((true)&&((((b4x)&&((decide ((x.slot)<(0))) || (decide ((41)<(x.slot))))) || ((!(b4x))&&((x.slot) != (0)))) == false)) (b5) true (.bool ((decide ((x.spot)<(8))) || (decide ((13)<(x.spot))))),fun v _=>v=iT (true) (((b4x)&&((decide ((x.slot)<(0))) || (decide ((41)<(x.slot))))) || ((!(b4x))&&((x.slot) != (0)))) false (.bool ((b5)&&((decide ((x.spot)<(8))) || (decide ((13)<(x.spot)))))),fun v _=>v=Value.bool ((((b4x)&&((decide ((x.slot)<(0))) || (decide ((41)<(x.slot))))) || ((!(b4x))&&((x.slot) != (0)))) || ((b5)&&((decide ((x.spot)<(8))) || (decide ((13)<(x.spot)))))),fun v _=>v=Value.bool ((((b4x)&&((decide ((x.slot)<(0))) || (decide ((41)<(x.slot))))) || ((!(b4x))&&((x.slot) != (0)))) || ((b5)&&((decide ((x.spot)<(8))) || (decide ((13)<(x.spot)))))),fun v _=>v=iT (true) ((((b4x)&&((decide ((x.slot)<(0))) || (decide ((41)<(x.slot))))) || ((!(b4x))&&((x.slot) != (0)))) || ((b5)&&((decide ((x.spot)<(8))) || (decide ((13)<(x.spot)))))) false (.bool (b5)),fun v _=>v=iT (true) ((((b4x)&&((decide ((x.slot)<(0))) || (decide ((41)<(x.slot))))) || ((!(b4x))&&((x.slot) != (0)))) || ((b5)&&((decide ((x.spot)<(8))) || (decide ((13)<(x.spot)))))) false (.bool (!(b5))),fun v _=>v=iT (true) ((((b4x)&&((decide ((x.slot)<(0))) || (decide ((41)<(x.slot))))) || ((!(b4x))&&((x.slot) != (0)))) || ((b5)&&((decide ((x.spot)<(8))) || (decide ((13)<(x.spot)))))) false (.bool (!(b5))),fun v _=>v=iT ((true)&&(((((b4x)&&((decide ((x.slot)<(0))) || (decide ((41)<(x.slot))))) || ((!(b4x))&&((x.slot) != (0)))) || ((b5)&&((decide ((x.spot)<(8))) || (decide ((13)<(x.spot)))))) == false)) (!(b5)) true (.pointer (some ⟨b4,8,none⟩)),fun v _=>v=iT ((true)&&(((((b4x)&&((decide ((x.slot)<(0))) || (decide ((41)<(x.slot))))) || ((!(b4x))&&((x.slot) != (0)))) || ((b5)&&((decide ((x.spot)<(8))) || (decide ((13)<(x.spot)))))) == false)) (!(b5)) true (.int .i64 (x.spot)),fun v _=>v=iT ((true)&&(((((b4x)&&((decide ((x.slot)<(0))) || (decide ((41)<(x.slot))))) || ((!(b4x))&&((x.slot) != (0)))) || ((b5)&&((decide ((x.spot)<(8))) || (decide ((13)<(x.spot)))))) == false)) (!(b5)) true (.bool ((x.spot) != (0))),fun v _=>v=iT (true) ((((b4x)&&((decide ((x.slot)<(0))) || (decide ((41)<(x.slot))))) || ((!(b4x))&&((x.slot) != (0)))) || ((b5)&&((decide ((x.spot)<(8))) || (decide ((13)<(x.spot)))))) false (.bool ((!(b5))&&((x.spot) != (0)))),fun v _=>v=Value.bool (((((b4x)&&((decide ((x.slot)<(0))) || (decide ((41)<(x.slot))))) || ((!(b4x))&&((x.slot) != (0)))) || ((b5)&&((decide ((x.spot)<(8))) || (decide ((13)<(x.spot)))))) || ((!(b5))&&((x.spot) != (0))))] (fun _=>false) (by kernel_rfl) (by kernel_rfl) (by repeat (first|exact trivial|refine⟨stable_eq _,?_⟩)) (fun _ _ h=>by cases h) ?ob ?en
       case ob =>
        refine⟨?_,?_,?_,?_,?_,?_,?_,?_,?_,?_,?_,?_,?_,?_,?_,?_,?_,?_,?_,?_,?_,?_,?_,?_,?_,?_,?_,?_,?_,?_,?_,?_,?_,?_,?_,?_,?_,?_,?_,?_,?_,?_,trivial⟩<;>intro A W h
        ·exact rs_pure rfl (run_cp (.inl rfl) (h.frame 8 rfl))
        ·exact rs_pure rfl (run_cp (.inl rfl) (h.dep 0 99 rfl rfl))
        ·refine sy_ (h.dep 1 100 rfl rfl) fun hC=>?_;exact(by have e:A.eval (.tmp 4)=Value.pointer (some ⟨b4,0,none⟩):=h.frame 4 rfl;simp only[execOp,e];simp[go_sem])
        ·refine sy_ (h.dep 1 100 rfl rfl) fun hC=>?_;exact run_load1K rfl (bif_at (h.dep 2 101 rfl rfl) hC) one_int ((H.call h.below).cell (i:=1) i_1 7)
        ·refine sy_ (h.dep 1 100 rfl rfl) fun hC=>?_;exact(by have e102:A.eval (.tmp 102)=Value.int .i64 (x.slot):=bif_at (h.dep 3 102 rfl rfl) hC;simp only[execOp,e102];simp[go_sem])
        ·refine sy_ (h.dep 1 100 rfl rfl) fun hC=>?_;exact run_cp (.inl rfl) (bif_at (h.dep 4 103 rfl rfl) hC)
        ·refine sy_ (h.dep 5 104 rfl rfl) fun hC=>?_;exact(by have e:A.eval (.tmp 4)=Value.pointer (some ⟨b4,0,none⟩):=h.frame 4 rfl;simp only[execOp,e];simp[go_sem])
        ·refine sy_ (h.dep 5 104 rfl rfl) fun hC=>?_;exact run_load1K rfl (bif_at (h.dep 6 105 rfl rfl) hC) one_int ((H.call h.below).cell (i:=1) i_1 7)
        ·refine sy_ (h.dep 5 104 rfl rfl) fun hC=>?_;exact(by have e106:A.eval (.tmp 106)=Value.int .i64 (x.slot):=bif_at (h.dep 7 106 rfl rfl) hC;simp only[execOp,e106];simp[go_sem])
        ·refine sy_ (h.dep 1 100 rfl rfl) fun hC=>?_;exact run_or rfl (bif_at (h.dep 5 104 rfl rfl) hC) (fun hb2=>bif_at (h.dep 8 107 rfl rfl) (by (first|(rw[hC,hb2];rfl)|(rw[hb2];rfl)|simp[hb2,hC])))
        ·exact rs_pure rfl (run_and rfl (h.dep 1 100 rfl rfl) (fun hb2=>bif_at (h.dep 9 108 rfl rfl) (by (first|(rw[hb2];rfl)|simp[hb2]))))
        ·exact rs_pure rfl (run_cp (.inl rfl) (h.dep 10 109 rfl rfl))
        ·refine sy_ (h.dep 11 110 rfl rfl) fun hC=>?_;exact run_cp (.inl rfl) (h.frame 8 rfl)
        ·refine sy_ (h.dep 11 110 rfl rfl) fun hC=>?_;exact(by have e:A.eval (.tmp 111)=Value.bool (b4x):=bif_at (h.dep 12 111 rfl rfl) hC;simp only[execOp,e];simp[go_sem])
        ·refine sy_ (h.dep 11 110 rfl rfl) fun hC=>?_;exact run_cp (.inl rfl) (bif_at (h.dep 13 112 rfl rfl) hC)
        ·refine sy_ (h.dep 14 113 rfl rfl) fun hC=>?_;exact(by have e:A.eval (.tmp 4)=Value.pointer (some ⟨b4,0,none⟩):=h.frame 4 rfl;simp only[execOp,e];simp[go_sem])
        ·refine sy_ (h.dep 14 113 rfl rfl) fun hC=>?_;exact run_load1K rfl (bif_at (h.dep 15 114 rfl rfl) hC) one_int ((H.call h.below).cell (i:=1) i_1 7)
        ·refine sy_ (h.dep 14 113 rfl rfl) fun hC=>?_;exact(by have e115:A.eval (.tmp 115)=Value.int .i64 (x.slot):=bif_at (h.dep 16 115 rfl rfl) hC;simp only[execOp,e115];simp[go_sem])
        ·refine sy_ (h.dep 11 110 rfl rfl) fun hC=>?_;exact run_and rfl (bif_at (h.dep 14 113 rfl rfl) hC) (fun hb2=>bif_at (h.dep 17 116 rfl rfl) (by (first|(rw[hC,hb2];rfl)|(rw[hb2];rfl)|simp[hb2,hC])))
        ·exact rs_pure rfl (run_or rfl (h.dep 11 110 rfl rfl) (fun hb2=>bif_at (h.dep 18 117 rfl rfl) (by (first|(rw[hb2];rfl)|simp[hb2]))))
        ·exact rs_pure rfl (run_cp (.inl rfl) (h.dep 19 118 rfl rfl))
        ·refine sy_ (h.dep 20 119 rfl rfl) fun hC=>?_;exact run_cp (.inl rfl) (h.frame 9 rfl)
        ·refine sy_ (h.dep 20 119 rfl rfl) fun hC=>?_;exact run_cp (.inl rfl) (bif_at (h.dep 21 120 rfl rfl) hC)
        ·refine sy_ (h.dep 22 121 rfl rfl) fun hC=>?_;exact(by have e:A.eval (.tmp 4)=Value.pointer (some ⟨b4,0,none⟩):=h.frame 4 rfl;simp only[execOp,e];simp[go_sem])
        ·refine sy_ (h.dep 22 121 rfl rfl) fun hC=>?_;exact run_load1K rfl (bif_at (h.dep 23 122 rfl rfl) hC) one_spot ((H.call h.below).cell (i:=1) i_1 8)
        ·refine sy_ (h.dep 22 121 rfl rfl) fun hC=>?_;exact(by have e123:A.eval (.tmp 123)=Value.int .i64 (x.spot):=bif_at (h.dep 24 123 rfl rfl) hC;simp only[execOp,e123];simp[go_sem])
        ·refine sy_ (h.dep 22 121 rfl rfl) fun hC=>?_;exact run_cp (.inl rfl) (bif_at (h.dep 25 124 rfl rfl) hC)
        ·refine sy_ (h.dep 26 125 rfl rfl) fun hC=>?_;exact(by have e:A.eval (.tmp 4)=Value.pointer (some ⟨b4,0,none⟩):=h.frame 4 rfl;simp only[execOp,e];simp[go_sem])
        ·refine sy_ (h.dep 26 125 rfl rfl) fun hC=>?_;exact run_load1K rfl (bif_at (h.dep 27 126 rfl rfl) hC) one_spot ((H.call h.below).cell (i:=1) i_1 8)
        ·refine sy_ (h.dep 26 125 rfl rfl) fun hC=>?_;exact(by have e127:A.eval (.tmp 127)=Value.int .i64 (x.spot):=bif_at (h.dep 28 127 rfl rfl) hC;simp only[execOp,e127];simp[go_sem])
        ·refine sy_ (h.dep 22 121 rfl rfl) fun hC=>?_;exact run_or rfl (bif_at (h.dep 26 125 rfl rfl) hC) (fun hb2=>bif_at (h.dep 29 128 rfl rfl) (by (first|(rw[hC,hb2];rfl)|(rw[hb2];rfl)|simp[hb2,hC])))
        ·refine sy_ (h.dep 20 119 rfl rfl) fun hC=>?_;exact run_and rfl (bif_at (h.dep 22 121 rfl rfl) hC) (fun hb2=>bif_at (h.dep 30 129 rfl rfl) (by (first|(rw[hC,hb2];rfl)|(rw[hb2];rfl)|simp[hb2,hC])))
        ·exact rs_pure rfl (run_or rfl (h.dep 20 119 rfl rfl) (fun hb2=>bif_at (h.dep 31 130 rfl rfl) (by (first|(rw[hb2];rfl)|simp[hb2]))))
        ·exact rs_pure rfl (run_cp (.inl rfl) (h.dep 32 131 rfl rfl))
        ·refine sy_ (h.dep 33 132 rfl rfl) fun hC=>?_;exact run_cp (.inl rfl) (h.frame 9 rfl)
        ·refine sy_ (h.dep 33 132 rfl rfl) fun hC=>?_;exact(by have e:A.eval (.tmp 133)=Value.bool (b5):=bif_at (h.dep 34 133 rfl rfl) hC;simp only[execOp,e];simp[go_sem])
        ·refine sy_ (h.dep 33 132 rfl rfl) fun hC=>?_;exact run_cp (.inl rfl) (bif_at (h.dep 35 134 rfl rfl) hC)
        ·refine sy_ (h.dep 36 135 rfl rfl) fun hC=>?_;exact(by have e:A.eval (.tmp 4)=Value.pointer (some ⟨b4,0,none⟩):=h.frame 4 rfl;simp only[execOp,e];simp[go_sem])
        ·refine sy_ (h.dep 36 135 rfl rfl) fun hC=>?_;exact run_load1K rfl (bif_at (h.dep 37 136 rfl rfl) hC) one_spot ((H.call h.below).cell (i:=1) i_1 8)
        ·refine sy_ (h.dep 36 135 rfl rfl) fun hC=>?_;exact(by have e137:A.eval (.tmp 137)=Value.int .i64 (x.spot):=bif_at (h.dep 38 137 rfl rfl) hC;simp only[execOp,e137];simp[go_sem])
        ·refine sy_ (h.dep 33 132 rfl rfl) fun hC=>?_;exact run_and rfl (bif_at (h.dep 36 135 rfl rfl) hC) (fun hb2=>bif_at (h.dep 39 138 rfl rfl) (by (first|(rw[hC,hb2];rfl)|(rw[hb2];rfl)|simp[hb2,hC])))
        ·exact rs_pure rfl (run_or rfl (h.dep 33 132 rfl rfl) (fun hb2=>bif_at (h.dep 40 139 rfl rfl) (by (first|(rw[hb2];rfl)|simp[hb2]))))
       case en =>
        intro vals W hbw hv _;have v41:vals 41=_:=hv 41 (by omega)
        simp only[fa,Nat.reduceAdd];rw[v41];clear hv v41
        try simp only[pl]
        have H:=H.call hbw;rw[h12.out]
        cases q12 with
        | true =>
         have E:=EN rfl
         go_wp2_with (first|fail)
         go_ret;exact⟨by rw[E.out];rfl,H.below⟩
        | false =>
         have E:=EY rfl
         go_wp2_with (first|fail)
         go_roundw
         case rel=>exact⟨j+1,by omega,by go_num,E,H.pick [0] _ (by decide) rfl⟩
         case measure=>simp[intOf];omega
  ·have hjn:j=n:=by omega
   have dj:decide ((j:Int)<(n:Int))=false:=by simp;omega
   have E:=Lib.hid (show rightP xs=true by
    have h:=EA.out;rw[List.take_of_length_le (by rw[HN.out];omega)]at h
    unfold rightP
    rw[HN.out,h,decide_eq_true (by omega),decide_eq_true (by omega)];rfl)
   clear hp EA hjn
   go_wp2_with (first|fail)
   go_ret;exact⟨by rw[E.out];rfl,H.below⟩
end
end Go.Proofs.YtdpcemijdmbpiaaGreat
