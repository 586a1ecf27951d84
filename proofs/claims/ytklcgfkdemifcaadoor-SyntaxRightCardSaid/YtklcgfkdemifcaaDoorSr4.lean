/-
  Laws of walks, and walks.
-/
import Derived.Test.YtklcgfkdemifcaaDoorSr3
import Derived.Test.YtklcgfkdemifcaaDoorSr2
set_option linter.unusedVariables false
set_option linter.unusedSimpArgs false
set_option maxRecDepth 100000
set_option maxHeartbeats 16000000
namespace Go.Proofs.YtklcgfkdemifcaaDoor
section
open Go.RowKit Go.Shelf
attribute [local go_sem] Oper.semAt_some
def WKnows (F:Nat→Prop) (p:Option Addr) (n c:Nat) (ws:List WordD) (V:World):Prop:=RdN 17 V F (.slice p n c) (ws.map zAg)
section
variable {F:Nat→Prop} {p:Option Addr} {n c:Nat} {ws:List WordD} {V W w0:World}
theorem WKnows.cells {b off:Nat} (h:WKnows F (some ⟨b,off,none⟩) n c ws V) {j:Nat} {d:WordD} (hj:ws[j]?=some d) {q:Nat} (hq:off+j * 17=q):∀ k,k<17→V.cell? ⟨b,q+k,none⟩=(zAg d)[k]?:=by
 obtain⟨p,c,e1,_,_,_,h3⟩:=h;obtain⟨b',off',e2,_,_,h4⟩:=h3 j (zAg d) (by rw[List.getElem?_map,hj];rfl)
 cases e1;cases e2;subst hq
 exact h4
theorem WKnows.kind {b off:Nat} (h:WKnows F (some ⟨b,off,none⟩) n c ws V) {j:Nat} {d:WordD} (hj:ws[j]?=some d):V.cell? ⟨b,off+j * 17,none⟩=some (.int .i64 d.kind):=h.cells hj rfl 0 (by omega)
theorem WKnows.place {b off:Nat} (h:WKnows F (some ⟨b,off,none⟩) n c ws V) {j:Nat} {d:WordD} (hj:ws[j]?=some d):V.cell? ⟨b,off+j * 17+1,none⟩=some (.int .i64 d.place):=h.cells hj rfl 1 (by omega)
theorem WKnows.at (h:WKnows F p n c ws V) (h0:0<ws.length):∃ b off,p=some ⟨b,off,none⟩:=by
 obtain⟨p,c,e1,h1,h2,_,h3⟩:=h
 cases e1
 obtain⟨b,off,e,_⟩:=h3 0 _ (by rw[List.getElem?_map,List.getElem?_eq_getElem h0];rfl)
 exact⟨b,off,e⟩
end
abbrev pC (p:Option Addr) (n c:Nat) (j g:Nat):Array Value:=#[.slice p n c,.int .i64 (j:Int),.int .i64 (g:Int)]
structure AltPre (pb:Nat) (U:TypeId) (FW:Nat→Prop) (p:Option Addr) (n c:Nat) (ws:List WordD) (j g:Nat) (w:World):Prop where
 cells:w.heap[pb]?=some (.cells (pC p n c j g) U (0,0))
 lt:∀ b,FW b→b<w.heap.size
 ne:¬ FW pb
 words:WKnows FW p n c ws w
 ok:∀ d ∈ ws,zAs d.set
 len:n≤1000
 jn:j≤n
 gn:g≤j
section
variable {M:Nat→Prop} {w0 w:World} {l:List Res}
end
end
section
open Go.RowKit
def zI0 (n0:Nat) (cs:Array Value) (T:TypeId) (v:Value) (W:World):Prop:=∃ b,v=pt b 0∧n0≤b∧W.heap[b]?=some (.cells cs T (0,0))
theorem zHp (n0:Nat) (cs:Array Value) (T:TypeId):zDZ (zI0 n0 cs T):=fun v w w' ⟨b,e,h1,h2⟩ hb=>⟨b,e,h1,(hb.block b (Array.getElem?_eq_some_iff.1 h2).1).trans h2⟩
theorem zL9 {P:Program} {ops:Array Oper} {o:Oper} {a:Act} {w:World} {n0:Nat} {T:TypeId} {cs:Array Value} {D:Prop} (hg:Region.wanted o (yielded ops a.tmps)=true) (hop:o.op=Op.alloc T) (hi:((P.info? T).bind (·.zero)).isSome=true) (hz:zB0 P T=cs) (hn:n0≤w.heap.size) (hD:¬ D:=by decide) :
  zBK P ops o a w (fun v w'=>zI0 n0 cs T v w'∧(D→w.heap.size≤blk v)):=by
 subst hz
 cases hi1:P.info? T with
 | none=>simp[hi1]at hi
 | some i0 =>
  cases hz:i0.zero with
  | none=>simp[hi1,hz]at hi
  | some z =>
   have hzc:zB0 P T=z.cells:=by simp[zB0,hi1,hz]
   refine zC1 hg (v:=.pointer (some ⟨w.heap.size,0,none⟩)) (w':=w.alloc (.cells (zB0 P T) T)) ?_ ((Below.refl _ w).alloc (Nat.le_refl _) _) ⟨⟨w.heap.size,rfl,hn,World.alloc_heap_new w _⟩,fun h=>(hD h).elim⟩
   rw[hzc];simp[execOp,hop,Instr.alloc,zeroValue,typeInfo,hi1,hz,newVar,newRow]
theorem HoldG.gainB {M:Nat→Prop} {w0 w w':World} {l:List Res} (H:HoldG M w0 w l) (hb:Below w.heap.size w w') {cs:Array Value} {T:TypeId} {v:Value} (h:zI0 w.heap.size cs T v w'):∃ b,v=pt b 0∧HoldG M w0 w' (l++[.blk b cs T]):=by
 obtain⟨b,e,h1,h2⟩:=h;refine⟨b,e,(H.call hb).keep,?_,?_⟩
 ·intro j s hs;rw[List.getElem?_append]at hs;split at hs
  ·exact(H.call hb).all j s hs
  ·rcases List.getElem?_eq_some_iff.1 hs with ⟨h3,h4⟩
   simp at h3;simp[h3]at h4;subst h4;exact⟨.inl (Nat.le_trans H.keep.size h1),h2⟩
 ·intro j k s t hjk hs ht;rw[List.getElem?_append]at hs ht;split at hs
  ·split at ht
   ·exact H.apart j k s t hjk hs ht
   ·rcases List.getElem?_eq_some_iff.1 ht with ⟨h3,h4⟩
    simp at h3;simp[h3]at h4;subst h4;intro z hz1 hz2;have:=((H.all j s hs).lt z hz1).2;have e:some b=some z:=hz2
    cases e;omega
  ·rcases List.getElem?_eq_some_iff.1 hs with ⟨h3,h4⟩
   simp at h3;simp[h3]at h4;subst h4;split at ht
   ·intro z hz1 hz2;have:=(H.all k t ht).ltf z hz2
    cases hz1;omega
   ·rcases List.getElem?_eq_some_iff.1 ht with ⟨h5,h6⟩
    simp at h5;omega
def zDw (n0:Nat) (cs:Array Value) (T:TypeId) (v:Value) (W:World):Prop:=∃ b,v=.slice (some ⟨b,0,none⟩) 1 1∧n0≤b∧W.heap[b]?=some (.cells cs T (0,0))
theorem zCD (n0:Nat) (cs:Array Value) (T:TypeId):zDZ (zDw n0 cs T):=fun v w w' ⟨b,e,h1,h2⟩ hb=>⟨b,e,h1,(hb.block b (Array.getElem?_eq_some_iff.1 h2).1).trans h2⟩
theorem HoldG.gainS {M:Nat→Prop} {w0 w w':World} {l:List Res} (H:HoldG M w0 w l) (hb:Below w.heap.size w w') {cs:Array Value} {T:TypeId} {v:Value} (h:zDw w.heap.size cs T v w'):∃ b,v=.slice (some ⟨b,0,none⟩) 1 1∧HoldG M w0 w' (l++[.blk b cs T]):=by
 obtain⟨b,e,h1,h2⟩:=h;obtain⟨b',e',H2⟩:=H.gainB hb (v:=.pointer (some ⟨b,0,none⟩)) ⟨b,rfl,h1,h2⟩
 cases e'
 exact⟨b,e,H2⟩
theorem zHs {P:Program} {ops:Array Oper} {o:Oper} {a:Act} {w:World} {n0:Nat} {x:Operand} {TS T:TypeId} {cs:Array Value} {D:Prop} (hg:Region.wanted o (yielded ops a.tmps)=true) (hop:o.op=Op.buildSlice TS 1 #[(0,x)]) (hx:a.eval x=.agg cs)
  (hr:∀ W:World,(Instr.buildSlice TS 1 #[(0,.agg cs)]).run P W=.ok (.slice (some ⟨W.heap.size,0,none⟩) 1 1) (W.alloc (.cells cs T))) (hn:n0≤w.heap.size) (hD:¬ D:=by decide):zBK P ops o a w (fun v w'=>zDw n0 cs T v w'∧(D→w.heap.size≤blk v)):=by
 refine zC1 hg (v:=.slice (some ⟨w.heap.size,0,none⟩) 1 1) (w':=w.alloc (.cells cs T)) ?_ ((Below.refl _ w).alloc (Nat.le_refl _) _) ⟨⟨w.heap.size,rfl,hn,World.alloc_heap_new w _⟩,fun h=>(hD h).elim⟩
 simp only[execOp,hop,List.map_toArray,List.map_cons,List.map_nil,hx,Sem.run_bind,hr];rfl
end
section
open Go.RowKit Go.Shelf
attribute [local go_sem] Oper.semAt_some
theorem zGJ:(Tryd.prog.info? 31).map (fun i=>(i.zero,i.size,i.bytes))=some (some (.agg (zAQ {kind:=0} nilS)),10,96):=by kernel_rfl
section
variable {M:Nat→Prop} {w0 w:World} {l:List Res}
end
section
variable {m:Nat} {f:zAU} {w:WordD} {r:List WordD} {g:Nat} {all items:List Tree}
end
theorem zOm {xs:List TV} {x:TV} {c:Array Value} (h:zAo x=c):zAc (xs.map zAo)++c.toList=zAc ((xs++[x]).map zAo):=by
 rw[List.map_append,zBe,← h];simp[zAc]
end
section
open Go.RowKit
theorem zGs {L:Str}:∀ (f k:Nat) (first:Bool) (S:Nat→Nat) (T:Nat→Nat) (e:Nat),zAs S→zB6 L f k first S=some (T,e)→zAs T
 | 0,_,_,_,_,_,_,h=>by simp[zB6]at h
 | f+1,k,first,S,T,e,hS,h=>by
  unfold zB6 at h;split at h
  ·cases h;exact hS
  ·split at h
   ·cases h
   ·rename_i t e1 hi;exact zGs f e1 false _ T e (zCJ (ok2 hS (zFd hi).2.2)) h
theorem zLG {L:Str} {i:Nat} {d:WordD} {e:Nat} (h:zCZ L i=some (d,e)):zAs d.set:=by
 unfold zCZ at h;obtain⟨⟨S,e1⟩,h1,h2⟩:=Option.map_eq_some_iff.1 h
 cases h2
 exact zGs _ _ _ _ _ _ zBX h1
theorem zF0 {L:Str}:∀ (f k:Nat) (off opn:Bool) (w d:WordD) (e:Nat),zAT L f k off opn w=some (d,e)→d.set=w.set
 | 0,_,_,_,_,_,_,h=>by simp[zAT]at h
 | f+1,k,off,opn,w,d,e,h=>by
  unfold zAT at h;have IH:=fun k off opn w=>zF0 (L:=L) f k off opn w d e
  dsimp only at h
  split at h
  ·split at h
   ·rw[IH _ _ _ _ h];split<;>rfl
   split at h
   ·rw[IH _ _ _ _ h];split<;>rfl
   split at h
   ·rw[IH _ _ _ _ h];split<;>rfl
   split at h
   ·split at h
    ·cases h
    ·exact IH _ _ _ _ h
   split at h
   ·split at h
    ·cases h;rfl
    ·cases h
   split at h
   ·split at h
    ·cases h;rfl
    ·cases h
   ·cases h
  ·cases h
theorem zKX {L:Str} {i:Nat} {d:WordD} {e:Nat} (h:zBw L i=some (d,e)):zAs d.set:=by
 unfold zBw at h;split at h
 ·rename_i s hs
  cases h
  split at hs
  ·exact zJH hs
  ·cases hs
 ·split at h
  ·cases h;exact zBX
  ·obtain⟨⟨b,e1⟩,h1,h2⟩:=Option.map_eq_some_iff.1 h
   cases h2;exact zBv _
theorem zEJ {L:Str} {i:Nat} {lo hi:Int} {k e:Nat} {d:WordD} (h:zAj L i lo hi k=.ok (d,e)):zAs d.set:=by
 unfold zAj at h;split at h
 ·cases h
 ·split at h<;>(cases h;exact zBX)
theorem zDF {α:Type} {o:Option α} {a:α} (h:zBT o=.ok a):o=some a:=by cases o<;>simp[zBT]at h ⊢;exact h
theorem zLo {L:Str} {i:Nat} {d:WordD} {e:Nat} (h:zBc L i=.ok (d,e)):zAs d.set:=by
 unfold zBc at h
 dsimp only at h
 split at h
 ·exact zKX (zDF h)
 split at h
 ·exact zLG (zDF h)
 split at h
 ·split at h
  ·have h:=zDF h;unfold zBU at h;rw[zF0 _ _ _ _ _ _ _ h];exact zBX
  ·cases h;exact zBX
 split at h
 ·split at h
  ·exact zEJ h
  ·cases h;exact zBv _
 split at h
 ·exact zEJ h
 split at h
 ·exact zEJ h
 split at h
 ·exact zEJ h
 split at h
 ·cases h;exact zBX
 ·cases h;exact zBv _
theorem zFt {L:Str}:∀ (f i:Nat) (ws:List WordD),zA9 L f i=.ok ws→∀ d ∈ ws,zAs d.set
 | 0,i,ws,h=>by
  unfold zA9 at h;split at h
  ·cases h
  ·cases h;intro d hd;cases hd
 | f+1,i,ws,h=>by
  unfold zA9 at h;split at h
  ·split at h
   ·cases h
   ·rename_i w j hw;split at h
    ·cases h
    ·rename_i l hl
     cases h
     intro d hd;rcases List.mem_cons.1 hd with rfl|hd
     ·exact zLo hw
     ·exact zFt f j l hl d hd
  ·cases h;intro d hd;cases hd
theorem zEY {L:Str}:∀ (f i:Nat) (ws:List WordD),zA9 L f i=.ok ws→ws.length≤f
 | 0,i,ws,h=>by
  unfold zA9 at h;split at h
  ·cases h
  ·cases h;simp
 | f+1,i,ws,h=>by
  unfold zA9 at h;split at h
  ·split at h
   ·cases h
   ·rename_i w j hw;split at h
    ·cases h
    ·rename_i l hl
     cases h
     have:=zEY f j l hl;simp;omega
  ·cases h;simp
theorem zEo (k:Int) (ts:List Tree):zAl (rowT k ts)≤1+zAO ts:=by
 unfold rowT;split
 ·simp[zDV,zAl,zAO]
 ·simp[zAO]
 ·simp[zAl]
theorem zKZ (d:WordD) (f:zAU):zAl (zCy d f)=1:=by
 have:(zCy d f).kids=[]:=by
  unfold zCy setT zFX zDV
  repeat' split
  all_goals first|rfl|(dsimp only;repeat' split)<;>rfl
 rw[zEj,this];rfl
theorem zGw:∀ (m:Nat) (f:zAU) (r:List WordD) (g:Nat) (all items:List Tree) (t:Tree) (r':List WordD) (g':Nat),zBy m f r g all items=some (t,r',g')→zAl t+3 * r'.length≤3 * r.length+zAO all+zAO items+2
 | 0,f,r,g,all,items,t,r',g',h=>by simp[zBy]at h
 | m+1,f,[],g,all,items,t,r',g',h=>by
  simp only[zBy,Option.some.injEq,Prod.mk.injEq]at h;obtain⟨rfl,rfl,rfl⟩:=h;have a:=zEo 5 (all++[rowT 4 items]);have b:=zEo 4 items;rw[zA2,zCT]at a;simp only[List.length_nil];omega
 | m+1,f,w::r,g,all,items,t,r',g',h=>by
  have IH:=zGw m;unfold zBy at h;split at h
  ·simp only[Option.some.injEq,Prod.mk.injEq]at h;obtain⟨rfl,rfl,rfl⟩:=h;have a:=zEo 5 (all++[rowT 4 items]);have b:=zEo 4 items;rw[zA2,zCT]at a;simp only[List.length_cons];omega
  split at h
  ·have:=IH _ _ _ _ _ _ _ _ h;simp only[List.length_cons];omega
  split at h
  ·have a:=IH _ _ _ _ _ _ _ _ h;have b:=zEo 4 items;rw[zA2,zCT]at a;simp only[List.length_cons,zAO]at *;omega
  split at h
  ·split at h
   ·cases h
   ·rename_i last hl;have a:=IH _ _ _ _ _ _ _ _ h;rcases List.eq_nil_or_concat items with rfl|⟨ys,y,rfl⟩
    ·simp at hl
    ·simp at hl;subst hl;simp only[List.concat_eq_append,List.dropLast_concat,zA2,zCT]at *;have:zAl (repT w y)=1+zAl y:=by simp[repT,zAl,zAO]
     simp only[List.length_cons];omega
  split at h
  ·split at h
   ·rename_i t1 d1 r1 g1 h1;have a:=IH _ _ _ _ _ _ _ _ h1;have b:=IH _ _ _ _ _ _ _ _ h;rw[zA2,zCT]at b;simp only[List.length_cons,zAO]at *;omega
   ·cases h
  split at h
  ·split at h
   ·rename_i t1 d1 r1 g1 h1;have a:=IH _ _ _ _ _ _ _ _ h1;have b:=IH _ _ _ _ _ _ _ _ h;rw[zA2,zCT]at b;have:zAl (zFO (g+1) t1)=1+zAl t1:=by simp[zFO,zAl,zAO]
    simp only[List.length_cons,zAO]at *;omega
   ·cases h
  ·have a:=IH _ _ _ _ _ _ _ _ h;rw[zA2,zCT,zKZ]at a;simp only[List.length_cons];omega
theorem zGv:∀ (m:Nat) (f:zAU) (r:List WordD) (g:Nat) (all items:List Tree) (t:Tree) (r':List WordD) (g':Nat),zBy m f r g all items=some (t,r',g')→r'.length≤r.length
 | 0,f,r,g,all,items,t,r',g',h=>by simp[zBy]at h
 | m+1,f,[],g,all,items,t,r',g',h=>by
  simp only[zBy,Option.some.injEq,Prod.mk.injEq]at h;obtain⟨_,rfl,rfl⟩:=h;exact Nat.le_refl _
 | m+1,f,w::r,g,all,items,t,r',g',h=>by
  have IH:=zGv m;unfold zBy at h;simp only[List.length_cons];split at h
  ·simp only[Option.some.injEq,Prod.mk.injEq]at h;obtain⟨_,rfl,rfl⟩:=h;simp
  split at h
  ·have:=IH _ _ _ _ _ _ _ _ h;omega
  split at h
  ·have:=IH _ _ _ _ _ _ _ _ h;omega
  split at h
  ·split at h
   ·cases h
   ·have:=IH _ _ _ _ _ _ _ _ h;omega
  split at h
  ·split at h
   ·rename_i h1;have:=IH _ _ _ _ _ _ _ _ h1;have:=IH _ _ _ _ _ _ _ _ h;simp only[List.length_cons]at *;omega
   ·cases h
  split at h
  ·split at h
   ·rename_i h1;have:=IH _ _ _ _ _ _ _ _ h1;have:=IH _ _ _ _ _ _ _ _ h;simp only[List.length_cons]at *;omega
   ·cases h
  ·have:=IH _ _ _ _ _ _ _ _ h;omega
theorem zH0:∀ (m:Nat) (r:List WordD) (bare:Bool) (op:List Nat) (f:zAU) (g:Nat) (all items:List Tree),r.length<m→zBF bare op r=none→(bare=false→items≠[]) →
  ∃ t r' g',zBy m f r g all items=some (t,r',g')∧((op=[]∧r'=[])∨(op≠[]∧∃ d r2,r'=d::r2∧zBF false op.dropLast r2=none))
 | 0,r,_,_,_,_,_,_,h,_,_=>by omega
 | m+1,[],bare,op,f,g,all,items,_,hw,_=>by
  refine⟨_,_,_,by simp only[zBy];rfl,.inl ⟨?_,rfl⟩⟩
  simpa [zBF] using hw
 | m+1,w::r,bare,op,f,g,all,items,hm,hw,hi=>by
  have IH:=zH0 m;simp only[List.length_cons]at hm;unfold zBF at hw;split at hw
  ·cases hw
  rename_i hc
  dsimp only at hw
  unfold zBy
  by_cases h9:w.kind=9
  ·rw[if_pos h9];have ho:zBY w=false:=by simp[zBY,h9]
   refine⟨_,_,_,rfl,.inr ⟨fun e=>hc (.inr ⟨h9,e⟩),w,r,rfl,?_⟩⟩
   simpa [ho,h9] using hw
  rw[if_neg h9];rw[if_neg h9]at hw
  by_cases h8:w.kind=8
  ·rw[if_pos h8];have ho:zBY w=false:=by simp[zBY,h8]
   refine IH r true op _ g all items (by omega) (by simpa [ho,h8] using hw) (fun h=>by cases h)
  rw[if_neg h8]
  by_cases h10:w.kind=10
  ·rw[if_pos h10];have ho:zBY w=false:=by simp[zBY,h10]
   exact IH r true op _ g _ [] (by omega) (by simpa [ho,h10] using hw) (fun h=>by cases h)
  rw[if_neg h10]
  by_cases h11:w.kind=11
  ·rw[if_pos h11];have ho:zBY w=false:=by simp[zBY,h11]
   have hb:bare=false:=by
    cases bare with
    | false=>rfl
    | true=>exact(hc (.inl ⟨h11,rfl⟩)).elim
   have hne:=hi hb;rw[List.getLast?_eq_some_getLast hne];exact IH r true op _ g _ _ (by omega) (by simpa [ho,h11] using hw) (fun h=>by cases h)
  rw[if_neg h11];have inner:∀ (f':zAU) (g1:Nat),zBY w=true→∃ t1 d1 r1 g2,zBy m f' r g1 [] []=some (t1,d1::r1,g2)∧zBF false op r1=none∧r1.length<m:=fun f' g1 ho=>by
   obtain⟨t1,r',g2,h1,h2⟩:=IH r true (op++[w.place]) f' g1 [] [] (by omega) (by simpa [ho] using hw) (fun h=>by cases h)
   rcases h2 with ⟨h2,_⟩|⟨_,d1,r1,rfl,h3⟩
   ·simp at h2
   ·refine⟨t1,d1,r1,g2,h1,by simpa using h3,?_⟩
    have:=zGv _ _ _ _ _ _ _ _ _ h1;simp only[List.length_cons]at this;omega
  by_cases h7:w.kind=7
  ·rw[if_pos h7];obtain⟨t1,d1,r1,g2,h1,h2,h3⟩:=inner (zHf f w) g (by simp[zBY,h7])
   rw[h1];exact IH r1 false op f g2 all _ h3 h2 (fun _=>by simp)
  rw[if_neg h7]
  by_cases h6:w.kind=6
  ·rw[if_pos h6];obtain⟨t1,d1,r1,g2,h1,h2,h3⟩:=inner f (g+1) (by simp[zBY,h6])
   rw[h1];exact IH r1 false op f g2 all _ h3 h2 (fun _=>by simp)
  rw[if_neg h6];have ho:zBY w=false:=by simp[zBY,h6,h7]
  have e8:(w.kind == 8)=false:=by simpa using h8
  have e10:(w.kind == 10)=false:=by simpa using h10
  have e11:(w.kind == 11)=false:=by simpa using h11
  exact IH r false op f g all _ (by omega) (by simpa [ho,e8,e10,e11] using hw) (fun _=>by simp)
theorem zGm {ws:List WordD} (f:zAU) (h:zGC ws=none):∃ t g,zBy (ws.length+1) f ws 0 [] []=some (t,[],g):=by
 obtain⟨t,r',g,h1,h2⟩:=zH0 (ws.length+1) ws true [] f 0 [] [] (by omega) h (fun h=>by cases h)
 rcases h2 with ⟨_,rfl⟩|⟨h,_⟩
 ·exact⟨t,g,h1⟩
 ·exact(h rfl).elim
def WordsR (T:TypeId) (base:Nat) (r:Except (Nat × Nat) (List WordD)) (e:Ending) (w':World):Prop:=match r with
 | .ok ws=>∃ v,e=.returned (.tuple #[v,.int .i64 0,.int .i64 0])∧w'.ownsRow base T 17 v ws.length (zHS ws)
 | .error (p,x)=>e=.returned (.tuple #[.slice none 0 0,.int .i64 p,.int .i64 x])
theorem WordsR.ok {T:TypeId} {base:Nat} {r:Except (Nat × Nat) (List WordD)} {v:Value} {w':World} {ws:List WordD} (h:r=.ok ws) (ho:w'.ownsRow base T 17 v ws.length (zHS ws)):WordsR T base r (.returned (.tuple #[v,.int .i64 0,.int .i64 0])) w':=by subst h;exact⟨v,rfl,ho⟩
theorem WordsR.no {T:TypeId} {base:Nat} {r:Except (Nat × Nat) (List WordD)} {w':World} {p x:Nat} (h:r=.error (p,x)):WordsR T base r (.returned (.tuple #[.slice none 0 0,.int .i64 p,.int .i64 x])) w':=by subst h;rfl
def zCt (L:Str):Except (Nat × Nat) (List WordD):=if 1000<L.length then .error (0,3) else zFQ L
def zCK (L:Str) (f:zAU):Except (Nat × Nat) (Tree × Nat) :=
 match zCt L with
 | .error x=>.error x
 | .ok ws =>
  match zGC ws with
  | some a=>.error (a,4)
  | none =>
   match zBy (ws.length+1) f ws 0 [] [] with
   | none=>.error (0,0)
   | some (t,_,g)=>if 20<g∨2000<zAl t then .error (0,7) else if 50<zC8 t then .error (0,5) else .ok (t,g)
def ParseOut (w:World) (r:Except (Nat × Nat) (Tree × Nat)) (e:Ending) (w':World):Prop:=match r with
 | .error (a,x)=>e=.returned (.tuple #[zAa {kind:=0} nilS,.int .i64 0,.int .i64 a,.int .i64 x])
 | .ok (t,g)=>∃ p c F,e=.returned (.tuple #[zAa t.d (.slice p t.kids.length c),.int .i64 g,.int .i64 0,.int .i64 0])∧ForestR w' F p c t.kids∧∀ b,F b→b<w'.heap.size∧w.heap.size≤b
theorem ParseOut.no {w w':World} {r:Except (Nat × Nat) (Tree × Nat)} {a x:Nat} (h:r=.error (a,x)):ParseOut w r (.returned (.tuple #[zAa {kind:=0} nilS,.int .i64 0,.int .i64 a,.int .i64 x])) w':=by subst h;rfl
structure LevP where
 place:Nat
 group:Nat
 behind:zAU
 all:List Tree
 items:List Tree
structure StP where
 last:Nat
 fl:zAU
 groups:Nat
 op:List LevP
def zB8 (k:Nat):Bool:=k == 0 || k == 6 || k == 7 || k == 8 || k == 10 || k == 11
def barL (l:LevP):LevP:={l with all:=l.all++[rowT 4 l.items],items:=[]}
def zId (l:LevP):Tree:=rowT 5 (l.all++[rowT 4 l.items])
def zES (l:LevP):Tree:=if 0<l.group then zFO l.group (zId l) else zId l
def addL (l:LevP) (t:Tree):LevP:={l with items:=l.items++[t]}
def zL0 (l:LevP) (w:WordD) (x:Tree):LevP:={l with items:=l.items.dropLast++[repT w x]}
def zBx (s:StP) (w:WordD):Except Nat StP :=
 match s.op with
 | []=>.error 0
 | l::r =>
  if w.kind=6 then .ok {s with groups:=s.groups+1,op:=⟨w.place,s.groups+1,s.fl,[],[]⟩::l::r}
  else if w.kind=7 then .ok {s with fl:=zHf s.fl w,op:=⟨w.place,0,s.fl,[],[]⟩::l::r}
  else if w.kind=8 then .ok {s with fl:=zHf s.fl w}
  else if w.kind=9 then
   match r with
   | []=>.error w.place
   | l2::r2=>.ok {s with fl:=l.behind,op:=addL l2 (zES l)::r2}
  else if w.kind=10 then .ok {s with op:=barL l::r}
  else if w.kind=11 then
   if zB8 s.last then .error w.place
   else match l.items.getLast? with
    | none=>.error 0
    | some x=>.ok {s with op:=zL0 l w x::r}
  else .ok {s with op:=addL l (zCy w s.fl)::r}
def zCG:StP→List WordD→Except Nat StP
 | s,[]=>.ok s
 | s,w::r=>match zBx s w with
  | .error a=>.error a
  | .ok s'=>zCG {s' with last:=w.kind} r
def zBP:List LevP→List Nat
 | []=>[]
 | [_]=>[]
 | l::l2::r=>zBP (l2::r)++[l.place]
section
variable {s s':StP} {w:WordD} {r:List WordD} {l l2:LevP} {ls:List LevP}
theorem zDf (h:zBx s w=.ok s'):zCG s (w::r)=zCG {s' with last:=w.kind} r:=by simp only[zCG,h]
theorem zIs {a:Nat} (h:zBx s w=.error a):zCG s (w::r)=.error a:=by simp only[zCG,h]
theorem wm_6 (e:s.op=l::ls) (h:w.kind=6):zBx s w=.ok {s with groups:=s.groups+1,op:=⟨w.place,s.groups+1,s.fl,[],[]⟩::l::ls}:=by simp[zBx,e,h]
theorem wm_7 (e:s.op=l::ls) (h:w.kind=7):zBx s w=.ok {s with fl:=zHf s.fl w,op:=⟨w.place,0,s.fl,[],[]⟩::l::ls}:=by simp[zBx,e,h]
theorem wm_8 (e:s.op=l::ls) (h:w.kind=8):zBx s w=.ok {s with fl:=zHf s.fl w}:=by simp[zBx,e,h]
theorem zNk (e:s.op=[l]) (h:w.kind=9):zBx s w=.error w.place:=by simp[zBx,e,h]
theorem wm_9 (e:s.op=l::l2::ls) (h:w.kind=9):zBx s w=.ok {s with fl:=l.behind,op:=addL l2 (zES l)::ls}:=by simp[zBx,e,h]
theorem zNi (e:s.op=l::ls) (h:w.kind=10):zBx s w=.ok {s with op:=barL l::ls}:=by simp[zBx,e,h]
theorem zKx (e:s.op=l::ls) (h:w.kind=11) (hb:zB8 s.last=true):zBx s w=.error w.place:=by simp[zBx,e,h,hb]
theorem zNY (e:s.op=l::ls) (h:w.kind=11) (hb:zB8 s.last=false) {x:Tree} (hx:l.items.getLast?=some x):zBx s w=.ok {s with op:=zL0 l w x::ls}:=by simp[zBx,e,h,hb,hx]
theorem zMK (e:s.op=l::ls) (h6:w.kind≠6) (h7:w.kind≠7) (h8:w.kind≠8) (h9:w.kind≠9) (h10:w.kind≠10) (h11:w.kind≠11):zBx s w=.ok {s with op:=addL l (zCy w s.fl)::ls}:=by simp[zBx,e, *]
end
theorem zDI (l l2:LevP) (r:List LevP):zBP (l::l2::r)=zBP (l2::r)++[l.place]:=rfl
theorem zDp {l l2:LevP} (r:List LevP) (h:l.place=l2.place):zBP (l::r)=zBP (l2::r):=by
 cases r with
 | nil=>rfl
 | cons x r=>simp only[zBP,h]
theorem zNq {w:WordD} (h:w.kind≠0):(zBY w || w.kind == 8 || w.kind == 10 || w.kind == 11)=zB8 w.kind:=by
 have:(w.kind == 0)=false:=by simpa using h
 simp only[zBY,zB8,this,Bool.false_or]
theorem zG1:∀ (r:List WordD) (s:StP) (l:LevP) (ls:List LevP),s.op=l::ls→(∀ w ∈ r,w.kind≠0)→(zB8 s.last=false→l.items≠[]) →
  match zCG s r with
  | .error a=>zBF (zB8 s.last) (zBP s.op) r=some a
  | .ok s'=>∃ l' ls',s'.op=l'::ls'∧zBF (zB8 s.last) (zBP s.op) r=(zBP s'.op).getLast?
 | [],s,l,ls,e,_,_=>⟨l,ls,e,by rw[zBF]⟩
 | w::r,s,l,ls,e,hk,hb=>by
  have hk0:w.kind≠0:=hk w (List.mem_cons_self ..);have hk':∀ x ∈ r,x.kind≠0:=fun x hx=>hk x (List.mem_cons_of_mem _ hx)
  have IH:=zG1 r;have step:∀ (s':StP) (l':LevP) (ls':List LevP),zBx s w=.ok s'→s'.op=l'::ls'→(zB8 w.kind=false→l'.items≠[])→zBF (zB8 s.last) (zBP s.op) (w::r)=zBF (zB8 w.kind) (zBP s'.op) r →
    match zCG s (w::r) with
    | .error a=>zBF (zB8 s.last) (zBP s.op) (w::r)=some a
    | .ok s'=>∃ l' ls',s'.op=l'::ls'∧zBF (zB8 s.last) (zBP s.op) (w::r)=(zBP s'.op).getLast?:=by
   intro s' l' ls' h1 h2 h3 h4;rw[zDf h1,h4];exact IH {s' with last:=w.kind} l' ls' h2 hk' h3
  have go:¬ (w.kind=11∧zB8 s.last=true∨w.kind=9∧zBP s.op=[])→zBF (zB8 s.last) (zBP s.op) (w::r)=zBF (zB8 w.kind) (if w.kind=9 then (if zBY w then zBP s.op++[w.place] else zBP s.op).dropLast else (if zBY w then zBP s.op++[w.place] else zBP s.op)) r:=by
   intro hc;rw[zBF,if_neg hc];simp only[zNq hk0]
  by_cases h6:w.kind=6
  ·refine step _ _ _ (wm_6 e h6) rfl (fun h=>by rw[h6]at h;cases h) ?_
   rw[go (by omega),if_neg (by omega)]
   have ho:zBY w=true:=by simp[zBY,h6]
   rw[ho,if_pos rfl,zDI,e]
  by_cases h7:w.kind=7
  ·refine step _ _ _ (wm_7 e h7) rfl (fun h=>by rw[h7]at h;cases h) ?_
   rw[go (by omega),if_neg (by omega)]
   have ho:zBY w=true:=by simp[zBY,h7]
   rw[ho,if_pos rfl,zDI,e]
  have ho:zBY w=false:=by simp[zBY,h6,h7]
  rw[ho]at go;simp only[Bool.false_eq_true,if_false]at go
  by_cases h8:w.kind=8
  ·refine step _ _ _ (wm_8 e h8) e (fun h=>by rw[h8]at h;cases h) ?_
   rw[go (by omega),if_neg (by omega)]
  by_cases h9:w.kind=9
  ·cases ls with
   | nil =>
    rw[zIs (zNk e h9)]
    show zBF _ _ _=_
    rw[zBF,if_pos (.inr ⟨h9,by rw[e];rfl⟩)]
   | cons l2 ls =>
    refine step _ _ _ (wm_9 e h9) rfl (fun _=>by simp[addL]) ?_
    have hne:zBP s.op≠[]:=by rw[e,zDI];simp
    rw[go (fun h=>h.elim (by omega) (fun h=>hne h.2)),if_pos h9,e,zDI,List.dropLast_concat]
    rw[zDp ls (show l2.place=(addL l2 (zES l)).place from rfl)]
  by_cases h10:w.kind=10
  ·refine step _ _ _ (zNi e h10) rfl (fun h=>by rw[h10]at h;cases h) ?_
   rw[go (by omega),if_neg h9,e,zDp ls (show l.place=(barL l).place from rfl)]
  by_cases h11:w.kind=11
  ·cases hbl:zB8 s.last with
   | true =>
    rw[zIs (zKx e h11 hbl)]
    show zBF _ _ _=_
    rw[zBF,if_pos (.inl ⟨h11,rfl⟩)]
   | false =>
    have hne:=hb hbl;have hx:=List.getLast?_eq_some_getLast hne;rw[hbl]at step go;refine step _ _ _ (zNY e h11 hbl hx) rfl (fun h=>by rw[h11]at h;cases h) ?_
    rw[go (fun h=>h.elim (fun h=>by cases h.2) (fun h=>by omega)),if_neg h9,e,zDp ls (show l.place=(zL0 l w (l.items.getLast hne)).place from rfl)]
  ·refine step _ _ _ (zMK e h6 h7 h8 h9 h10 h11) rfl (fun _=>by simp[addL]) ?_
   rw[go (by omega),if_neg h9,e,zDp ls (show l.place=(addL l (zCy w s.fl)).place from rfl)]
theorem zHk:∀ (m:Nat) (f:zAU) (r:List WordD) (g:Nat) (all items:List Tree) (t:Tree) (r':List WordD) (g':Nat),zBy m f r g all items=some (t,r',g')→∀ (last pl gr:Nat) (bh:zAU) (ls:List LevP) (sf:StP),zCG ⟨last,f,g,⟨pl,gr,bh,all,items⟩::ls⟩ r=.ok sf →
  ∃ last' f' l',zCG ⟨last,f,g,⟨pl,gr,bh,all,items⟩::ls⟩ r=zCG ⟨last',f',g',l'::ls⟩ r'∧l'.place=pl∧l'.group=gr∧l'.behind=bh∧zId l'=t∧∀ d r2,r'=d::r2→d.kind=9
 | 0,f,r,g,all,items,t,r',g',h=>by simp[zBy]at h
 | m+1,f,[],g,all,items,t,r',g',h=>by
  simp only[zBy,Option.some.injEq,Prod.mk.injEq]at h;obtain⟨rfl,rfl,rfl⟩:=h;intro last pl gr bh ls sf hm;exact⟨last,f,_,rfl,rfl,rfl,rfl,rfl,fun d r2 e=>by cases e⟩
 | m+1,f,w::r,g,all,items,t,r',g',h=>by
  have IH:=zHk m;intro last pl gr bh ls sf hm;unfold zBy at h;split at h
  ·rename_i h9;simp only[Option.some.injEq,Prod.mk.injEq]at h;obtain⟨rfl,rfl,rfl⟩:=h;exact⟨last,f,_,rfl,rfl,rfl,rfl,rfl,fun d r2 e=>by cases e;exact h9⟩
  rename_i h9;split at h
  ·rename_i h8;rw[zDf (wm_8 rfl h8)]at hm ⊢;exact IH _ _ _ _ _ _ _ _ h _ _ _ _ _ _ hm
  rename_i h8;split at h
  ·rename_i h10;rw[zDf (zNi rfl h10)]at hm ⊢;exact IH _ _ _ _ _ _ _ _ h _ _ _ _ _ _ hm
  rename_i h10;split at h
  ·rename_i h11;split at h
   ·cases h
   ·rename_i x hx
    cases hb:zB8 last with
    | true=>rw[zIs (zKx rfl h11 hb)]at hm;cases hm
    | false =>
     rw[zDf (zNY rfl h11 hb hx)]at hm ⊢;exact IH _ _ _ _ _ _ _ _ h _ _ _ _ _ _ hm
  rename_i h11;split at h
  ·rename_i h7;split at h
   ·rename_i t1 d1 r1 g1 h1;rw[zDf (wm_7 rfl h7)]at hm ⊢;obtain⟨last1,f1,l1,e1,p1,p2,p3,p4,p5⟩:=IH _ _ _ _ _ _ _ _ h1 _ _ _ _ _ _ hm;rw[e1]at hm ⊢;have h9':=p5 d1 r1 rfl;rw[zDf (wm_9 rfl h9')]at hm ⊢;have hs:zES l1=t1:=by unfold zES;rw[p2,if_neg (by omega),p4]
    rw[hs,p3]at hm ⊢;exact IH _ _ _ _ _ _ _ _ h _ _ _ _ _ _ hm
   ·cases h
  rename_i h7;split at h
  ·rename_i h6;split at h
   ·rename_i t1 d1 r1 g1 h1;rw[zDf (wm_6 rfl h6)]at hm ⊢;obtain⟨last1,f1,l1,e1,p1,p2,p3,p4,p5⟩:=IH _ _ _ _ _ _ _ _ h1 _ _ _ _ _ _ hm;rw[e1]at hm ⊢;have h9':=p5 d1 r1 rfl;rw[zDf (wm_9 rfl h9')]at hm ⊢;have hs:zES l1=zFO (g+1) t1:=by unfold zES;rw[p2,if_pos (by omega),p4]
    rw[hs,p3]at hm ⊢;exact IH _ _ _ _ _ _ _ _ h _ _ _ _ _ _ hm
   ·cases h
  rename_i h6;rw[zDf (zMK rfl h6 h7 h8 h9 h10 h11)]at hm ⊢;exact IH _ _ _ _ _ _ _ _ h _ _ _ _ _ _ hm
def zCe (f:zAU):StP:=⟨0,f,0,[⟨0,0,f,[],[]⟩]⟩
theorem zGq {ws:List WordD} (f:zAU) (hk:∀ w ∈ ws,w.kind≠0):match zCG (zCe f) ws with
  | .error a=>zGC ws=some a
  | .ok s=>∃ l ls,s.op=l::ls∧(ls≠[]→zGC ws=some l.place)∧(ls=[]→zGC ws=none∧zBy (ws.length+1) f ws 0 [] []=some (zId l,[],s.groups)):=by
 have h:=zG1 ws (zCe f) _ _ rfl hk (fun h=>by cases h)
 have e:zBF (zB8 (zCe f).last) (zBP (zCe f).op) ws=zGC ws:=rfl;rw[e]at h
 cases hm:zCG (zCe f) ws with
 | error a=>rw[hm]at h;exact h
 | ok s =>
  rw[hm]at h;obtain⟨l,ls,e1,e2⟩:=h;refine⟨l,ls,e1,fun hne=>?_,fun hn=>?_⟩
  ·rw[e2,e1]
   cases ls with
   | nil=>exact absurd rfl hne
   | cons l2 ls=>rw[zDI];simp
  ·subst hn;have hw:zGC ws=none:=by rw[e2,e1];rfl
   refine⟨hw,?_⟩
   obtain⟨t,g,ht⟩:=zGm f hw;obtain⟨last',f',l',e3,_,_,_,p4,_⟩:=zHk _ _ _ _ _ _ _ _ _ ht 0 0 0 f [] s hm;have e4:zCG (zCe f) ws=.ok ⟨last',f',g,[l']⟩:=e3;rw[hm]at e4
   cases e4
   cases e1
   rw[ht,p4]
def zBN (w:World) (l:List Res) (b:Nat):Prop:=b<w.heap.size∧∀ r ∈ l,r.place≠some b
def zCB (w:World) (l:List Res) (V:World):Prop:=∀ b,zBN w l b→V.heap[b]?=w.heap[b]?
structure Turned (M:Nat→Prop) (w0 w:World) (l1 l2:List Res) (w':World):Prop where
 hold:HoldG M w0 w' l2
 rest:zCB w l1 w'
 lt:∀ b,zBN w l1 b→b<w'.heap.size
 place:∀ r ∈ l2,∀ b,r.place=some b→(∃ s ∈ l1,s.place=some b)∨w.heap.size≤b
 foot:∀ r ∈ l2,∀ b,r.foot b→(∃ s ∈ l1,s.foot b)∨w.heap.size≤b
theorem Res.Holds.keptF {M:Nat→Prop} {base:Nat} {W W':World} {r:Res} (h:r.Holds M base W) (hk:∀ b,r.foot b→W'.heap[b]?=W.heap[b]?) (hs:∀ b,r.foot b→b<W'.heap.size):r.Holds M base W':=by
 cases r with
 | blk b' cs T=>exact⟨h.1,(hk b' rfl).trans h.2⟩
 | row v e sz n xs =>
  obtain⟨hl,h'|⟨g,cap,cur,rfl,hb,hg,r⟩⟩:=h
  ·exact⟨hl,.inl h'⟩
  ·exact⟨hl,.inr ⟨g,cap,cur,rfl,hb,(hk g rfl).trans hg,r⟩⟩
 | mp b' es c=>exact⟨h.1,(hk b' rfl).trans h.2⟩
 | kn F S=>exact⟨hs,fun W2 h2=>h.2 W2 (fun b hb=>(h2 b hb).trans (hk b hb))⟩
section
variable {M:Nat→Prop} {w0 w w':World} {l l1 l2 l3:List Res}
theorem HoldG.framed (H:HoldG M w0 w l):HoldG M w0 w (l++[.kn (zBN w l) (zCB w l)]) :=
 H.know (zBN w l) (zCB w l) (fun b h=>h.1) (fun i r hi b hp hF=>hF.2 r (List.mem_of_getElem? hi) hp) (fun V hV b hb=>hV b hb)
theorem zEG {js:List Nat} (h:js.map (fun j=>l[j]?)=l1.map some) {k:Nat} {r:Res} (hk:l1[k]?=some r):∃ j,js[k]?=some j∧l[j]?=some r:=by
 have h1:(l1.map some)[k]?=some (some r):=by rw[List.getElem?_map,hk];rfl
 rw[← h,List.getElem?_map]at h1;exact Option.map_eq_some_iff.1 h1
theorem Turned.of {W:World} (H:HoldG M w0 W l) {i:Nat} (hi:At l i (.kn (zBN w l1) (zCB w l1))) (js:List Nat) (hn:js.Nodup) (hij:i ∉ js) (h:js.map (fun j=>l[j]?)=l2.map some)
  (hk:∀ F S,Res.kn F S ∈ l2→∀ b,F b→(∃ s ∈ l1,s.foot b)∨w.heap.size≤b):Turned M w0 w l1 l2 W:=by
 have hp:∀ r ∈ l2,∀ b,r.place=some b→(∃ s ∈ l1,s.place=some b)∨w.heap.size≤b:=by
  intro r hr b hb;obtain⟨k,hk⟩:=List.getElem?_of_mem hr;obtain⟨j,hj,e⟩:=zEG h hk;have hne:j≠i:=fun e=>hij (e ▸ List.mem_of_getElem? hj)
  have ha:=H.apart j i r _ hne e hi.get b hb
  by_cases hlt:b<w.heap.size
  ·refine .inl (Classical.byContradiction fun hno=>ha ⟨hlt,fun s hs hsb=>hno ⟨s,hs,hsb⟩⟩)
  ·exact .inr (by omega)
 refine⟨H.pick js l2 hn h,H.kn hi,H.knlt hi,hp,fun r hr b hb=>?_⟩
 cases r with
 | kn F S=>exact hk F S hr b hb
 | blk b' cs T=>exact(hp _ hr b hb).imp (fun ⟨s,h1,h2⟩=>⟨s,h1,Res.place_foot h2⟩) id
 | row v e sz n xs=>exact(hp _ hr b hb).imp (fun ⟨s,h1,h2⟩=>⟨s,h1,Res.place_foot h2⟩) id
 | mp b' es c=>exact(hp _ hr b hb).imp (fun ⟨s,h1,h2⟩=>⟨s,h1,Res.place_foot h2⟩) id
theorem HoldG.callIn (H:HoldG M w0 w l) (T:Turned M w0 w l1 l2 w') (js ks:List Nat) (h1:js.map (fun j=>l[j]?)=l1.map some) (h3:ks.map (fun j=>l[j]?)=l3.map some) (hn:ks.Nodup) (hd:∀ j ∈ js,j ∉ ks):HoldG M w0 w' (l2++l3):=by
 have A:∀ (k:Nat) (r s:Res),l3[k]?=some r→s ∈ l1→zJd s r∧zJd r s:=by
  intro k r s hk hs;obtain⟨m,hm⟩:=List.getElem?_of_mem hs;obtain⟨j,hj,e⟩:=zEG h1 hm;obtain⟨q,hq,e'⟩:=zEG h3 hk;have hne:j≠q:=fun e=>hd j (List.mem_of_getElem? hj) (e ▸ List.mem_of_getElem? hq)
  exact⟨H.apart j q s r hne e e',H.apart q j r s (Ne.symm hne) e' e⟩
 have B:∀ (k:Nat) (r:Res),l3[k]?=some r→r.Holds M w0.heap.size w:=by
  intro k r hk;obtain⟨q,_,e'⟩:=zEG h3 hk;exact H.all q r e'
 refine⟨T.hold.keep,fun i r hi=>?_,fun i j r s hij hr hs=>?_⟩
 ·rw[List.getElem?_append]at hi;split at hi
  ·exact T.hold.all i r hi
  ·have hr:∀ b,r.foot b→zBN w l1 b:=fun b hb=>⟨(B _ r hi).ltf b hb,fun s hs hsb=>(A _ r s hi hs).1 b hsb hb⟩
   exact(B _ r hi).keptF (fun b hb=>T.rest b (hr b hb)) (fun b hb=>T.lt b (hr b hb))
 ·rw[List.getElem?_append]at hr hs;split at hr
  ·split at hs
   ·exact T.hold.apart i j r s hij hr hs
   ·intro b hb hf;rcases T.place r (List.mem_of_getElem? hr) b hb with ⟨q,hq,hqb⟩|h
    ·exact(A _ s q hs hq).1 b hqb hf
    ·have:=(B _ s hs).ltf b hf;omega
  ·split at hs
   ·intro b hb hf;rcases T.foot s (List.mem_of_getElem? hs) b hf with ⟨q,hq,hqb⟩|h
    ·exact(A _ r q hr hq).2 b hb hqb
    ·have:=((B _ r hr).lt b hb).2;omega
   ·obtain⟨p,hp,e⟩:=zEG h3 hr;obtain⟨q,hq,e'⟩:=zEG h3 hs;refine H.apart p q r s (fun epq=>hij ?_) e e'
    subst epq;obtain⟨a1,a2⟩:=List.getElem?_eq_some_iff.1 hp;obtain⟨b1,b2⟩:=List.getElem?_eq_some_iff.1 hq;have:=(List.getElem_inj hn).1 (a2.trans b2.symm);omega
end
structure QCtx (l:List Oper) (Ss:Nat→Value→World→Prop) (R:World→World→Prop) (a0:Act) (w0:World) (i:Nat) (a:Act) (w:World):Prop where
 rel:R w0 w
 frame:∀ t,l.any (fun o=>o.dst == some t)=false→a.eval (.tmp t)=a0.eval (.tmp t)
 dep:∀ j d,decide (j<i)=true→(l[j]?).bind (·.dst)=some d→Ss j (a.eval (.tmp d)) w
def zCF (P:Program) (ops:Array Oper) (R:World→World→Prop) (o:Oper) (a:Act) (w:World) (s:Value→World→Prop):Prop :=
 if Region.wanted o (yielded ops a.tmps) then o.wp P a w (fun a' w'=>∃ v,a'=a.put o.dst v∧R w w'∧s v w') (fun _ _ _=>False) else s undef w
def zDz (R:World→World→Prop) (s:Value→World→Prop):Prop:=∀ v w w',s v w→R w w'→s v w'
theorem zAA {R:World→World→Prop} (x:Value):zDz R (fun v _=>v=x):=fun _ _ _ h _=>h
def zDa (R:World→World→Prop):List (Value→World→Prop)→Prop
 | []=>True
 | s::r=>zDz R s∧zDa R r
theorem zC7 {R:World→World→Prop}:∀ (L:List (Value→World→Prop)) (i:Nat),zDa R L→zDz R (zAq L i)
 | [],_,_=>fun _ _ _ h _=>h
 | _::_,0,h=>h.1
 | _::r,i+1,h=>zC7 r i h.2
section
variable {P:Program} {ops:Array Oper} {o:Oper} {a:Act} {w:World} {R:World→World→Prop}
theorem zOg {v:Value} (hrefl:∀ w,R w w) (h:zBK P ops o a w (fun v' w'=>v'=v∧w'=w)):zCF P ops R o a w (fun v' _=>v'=v):=by
 unfold zBK zIG at h;unfold zCF;split
 ·rename_i hw;rw[if_pos hw]at h;exact Oper.wp_mono (fun a' w' ⟨u,e,_,h1,h2⟩=>⟨u,e,h2 ▸ hrefl w,h1⟩) h
 ·rename_i hw;rw[if_neg hw]at h;exact h.1
theorem zHX {v:Value} (hg:Region.wanted o (yielded ops a.tmps)=false) (hv:v=undef):zCF P ops R o a w (fun v' _=>v'=v):=by
 unfold zCF;rw[if_neg (by rw[hg];decide)];exact hv.symm
theorem zAG {v:Value} (hrefl:∀ w,R w w) (hg:Region.wanted o (yielded ops a.tmps)=true) (hr:(execOp a.eval o).run P w=.ok (.value v) w):zCF P ops R o a w (fun v' _=>v'=v) :=
 zOg hrefl (zC1 hg hr (Below.refl _ w) ⟨rfl,rfl⟩)
theorem zDk {x:Operand} {v:Value} (hrefl:∀ w,R w w) (hg:Region.wanted o (yielded ops a.tmps)=true) (hop:o.op=Op.move x) (hx:a.eval x=v):zCF P ops R o a w (fun v' _=>v'=v):=by
 refine zAG hrefl hg ?_
 simp only[execOp,hop,hx];rfl
theorem zKp {x y z:Operand} {b:Bool} {v:Value} (hrefl:∀ w,R w w) (hg:Region.wanted o (yielded ops a.tmps)=true) (hop:o.op=Op.pick x y z) (hx:a.eval x=.bool b) (hv:(if b then a.eval y else a.eval z)=v):zCF P ops R o a w (fun v' _=>v'=v):=by
 refine zAG hrefl hg ?_
 simp only[execOp,hop,hx];subst hv
 cases b<;>rfl
theorem zAy {f:FuncId} {xs:Array Operand} {ts:Array TypeId} {vs:Array Value} {v:Value} (hg:Region.wanted o (yielded ops a.tmps)=true)
  (hop:o.op=Op.call {callee:=Callee.value (Operand.func f),args:=xs,argTypes:=ts}) (hf:∀ args w,(callFunc f args).run P w=.ok (.enter f args) w) (hx:xs.map a.eval=vs)
  (hc:Calls P f vs w fun e w'=>e=.returned v∧R w w'):zCF P ops R o a w (fun v' _=>v'=v):=by
 unfold zCF;rw[if_pos hg];unfold Oper.wp;have hr:(execOp a.eval o).run P w=.ok (.enter f vs) w:=by
  simp only[execOp,hop];simp[resolve,hx];rw[show a.eval (Operand.func f)=.func (.func f) #[] #[] from rfl]
  simp[Deferred.ofValue,invoke,hf]
 rw[hr];exact hc.mono fun e w' ⟨he,hb⟩=>by subst he;exact⟨v,rfl,hb,rfl⟩
end
theorem QCtx.d {l:List Oper} {Ss:Nat→Value→World→Prop} {R:World→World→Prop} {a0:Act} {w0:World} {i:Nat} {a:Act} {w:World} (h:QCtx l Ss R a0 w0 i a w) (j d:Nat) (h1:decide (j<i)=true:=by exact rfl) (h2:(l[j]?).bind (·.dst)=some d:=by exact rfl):Ss j (a.eval (.tmp d)) w:=h.dep j d h1 h2
theorem QCtx.f {l:List Oper} {Ss:Nat→Value→World→Prop} {R:World→World→Prop} {a0:Act} {w0:World} {i:Nat} {a:Act} {w:World} (h:QCtx l Ss R a0 w0 i a w) (t:Nat) (h1:l.any (fun o=>o.dst == some t)=false:=by exact rfl):a.eval (.tmp t)=a0.eval (.tmp t):=h.frame t h1
structure RCtxR (l:List Oper) (Ss:Nat→Value→World→Prop) (R:World→World→Prop) (a0:Act) (w0:World) (o:Oper) (a:Act) (w:World):Prop where
 rel:R w0 w
 frame:∀ t,l.any (fun o=>o.dst == some t)=false→a.eval (.tmp t)=a0.eval (.tmp t)
 dep:∀ j d,o.after.toList.any (fun e=>Region.binds .any e&&e.on == j)=true→(l[j]?).bind (·.dst)=some d→Ss j (a.eval (.tmp d)) w
theorem RCtxR.d {l:List Oper} {Ss:Nat→Value→World→Prop} {R:World→World→Prop} {a0:Act} {w0:World} {o:Oper} {a:Act} {w:World} (h:RCtxR l Ss R a0 w0 o a w) (j d:Nat) (h1:o.after.toList.any (fun e=>Region.binds .any e&&e.on == j)=true:=by exact rfl) (h2:(l[j]?).bind (·.dst)=some d:=by exact rfl):Ss j (a.eval (.tmp d)) w:=h.dep j d h1 h2
theorem RCtxR.f {l:List Oper} {Ss:Nat→Value→World→Prop} {R:World→World→Prop} {a0:Act} {w0:World} {o:Oper} {a:Act} {w:World} (h:RCtxR l Ss R a0 w0 o a w) (t:Nat) (h1:l.any (fun o=>o.dst == some t)=false:=by exact rfl):a.eval (.tmp t)=a0.eval (.tmp t):=h.frame t h1
def zHG:List Oper→Bool
 | []=>true
 | o::r=>(o.dst.isNone || r.all (fun o'=>o'.dst != o.dst))&&zHG r
def zNj (ops:Array Oper) (n:Nat):Bool :=
 decide (n≤ops.size)&&zHG (ops.toList.take n) &&
 ((ops.toList.take n).zipIdx.all fun (o,i)=>o.after.all fun e=>!Region.binds .any e || decide (e.on<i)) &&
 (decide (n=ops.size) || (Region.sinkB .any ops n&&Region.chainB .any ops n)) &&
 Region.seqB .any ops (ops.size - n) n (zAw n (ops.size - n))
def ownT (o:Oper):Option Tmp:=match o.op with|.insert _ (.tmp d) _ _=>some d|.store _ (.tmp d) _=>some d|_=>none
def zFi (o:Oper) (a:Act):Value:=match ownT o with|some d=>a.eval (.tmp d)|none=>undef
def zLf (l:List Oper) (listed:Nat→Bool) (vals:Nat→Value):Prop :=
 ∀ i o d j oj,l[i]?=some o→o.dst=none→ownT o=some d→l[j]?=some oj→oj.dst=some d→o.after.toList.any (fun e=>Region.binds .any e&&e.on == j)=true→listed i=true→vals i=vals j
theorem zHn:∀ (l:List Oper) (k i:Nat) (listed:Array Bool) (vals:Nat→Value) (a:Act) (o:Oper) (d:Tmp) (v:Value),zHG l=true→l[i]?=some o→o.dst=some d →
  listed.getD (k+i) true=false →
  fill l k (listed.setIfInBounds (k+i) true) (fun j=>if j=k+i then v else vals j) a=(fill l k listed vals a).put (some d) v
 | [],_,_,_,_,_,_,_,_,_,h,_,_=>by simp at h
 | o::r,k,0,listed,vals,a,o',d,v,hd,h,hod,hl=>by
  simp at h;subst h;simp only[zHG,Bool.and_eq_true,Bool.or_eq_true]at hd;obtain⟨hall,hr⟩:=hd;have hne:∀ o' ∈ r,o'.dst≠some d:=by
   intro o' ho' e;rcases hall with h0|hall
   ·rw[hod]at h0;simp at h0
   ·have:=List.all_eq_true.1 hall o' ho';rw[e,hod]at this;simp at this
  have h1:(listed.setIfInBounds k true).getD k false=true:=by
   have hk:k<listed.size:=by
    rcases Nat.lt_or_ge k listed.size with h'|h'
    ·exact h'
    ·simp[Array.getElem?_eq_none h']at hl
   simp[hk]
  have h2:listed.getD k false=false:=getD_both (by simpa using hl)
  simp only[Nat.add_zero,fill,h1,h2,if_true,Bool.false_eq_true,if_false,hod];rw[zHW r (k+1) _ _ a d v hne]
  congr 1
  refine zDU r (k+1) _ _ _ _ a (fun i hi=>⟨?_,by rw[if_neg (by omega)]⟩)
  exact getD_set_ne false (by omega)
 | o::r,k,i+1,listed,vals,a,o',d,v,hd,h,hod,hl=>by
  simp only[zHG,Bool.and_eq_true]at hd;simp only[List.getElem?_cons_succ]at h;have ih:=zHn r (k+1) i listed vals (if listed.getD k false then a.put o.dst (vals k) else a) o' d v hd.2 h hod (by rwa [show k+1+i=k+(i+1) from by omega])
  simp only[fill];rw[show k+(i+1)=k+1+i from by omega,getD_set_ne false (by omega),if_neg (by omega:¬ k=k+1+i)]
  exact ih
theorem zGk:∀ (l:List Oper) (k i:Nat) (listed:Array Bool) (vals:Nat→Value) (a:Act) (o:Oper) (v:Value),l[i]?=some o→o.dst=none →
  listed.getD (k+i) true=false →
  fill l k (listed.setIfInBounds (k+i) true) (fun j=>if j=k+i then v else vals j) a=fill l k listed vals a
 | [],_,_,_,_,_,_,_,h,_,_=>by simp at h
 | o::r,k,0,listed,vals,a,o',v,h,hod,hl=>by
  simp at h;subst h;have h2:listed.getD k false=false:=getD_both (by simpa using hl)
  simp only[Nat.add_zero,fill,h2,hod,Bool.false_eq_true,if_false];have hp:∀ (b:Bool) (u:Value),(if b=true then a.put none u else a)=a:=by intro b u;cases b<;>rfl
  rw[hp];refine zDU r (k+1) _ _ _ _ a (fun i hi=>⟨?_,by rw[if_neg (by omega)]⟩)
  exact getD_set_ne false (by omega)
 | o::r,k,i+1,listed,vals,a,o',v,h,hod,hl=>by
  simp only[List.getElem?_cons_succ]at h;have ih:=zGk r (k+1) i listed vals (if listed.getD k false then a.put o.dst (vals k) else a) o' v h hod (by rwa [show k+1+i=k+(i+1) from by omega])
  simp only[fill];rw[show k+(i+1)=k+1+i from by omega,getD_set_ne false (by omega),if_neg (by omega:¬ k=k+1+i)]
  exact ih
theorem zHF:∀ (l:List Oper) (k:Nat) (listed:Array Bool) (vals:Nat→Value) (a:Act) (j:Nat) (o:Oper) (d:Tmp),zHG l=true→l[j]?=some o→o.dst=some d→d<a.tmps.size →
  listed.getD (k+j) false=true→(fill l k listed vals a).eval (.tmp d)=vals (k+j)
 | [],_,_,_,_,_,_,_,_,h,_,_,_=>by simp at h
 | o::r,k,listed,vals,a,0,o',d,hd,h,hod,hsz,hl=>by
  simp at h;subst h;simp only[zHG,Bool.and_eq_true,Bool.or_eq_true]at hd;obtain⟨hall,hr⟩:=hd;simp only[Nat.add_zero]at hl ⊢;simp only[fill,hl,if_true,hod]
  rw[zBm r (k+1) listed vals _ d (by
   rw[Bool.eq_false_iff];intro hc;obtain⟨o',ho',e⟩:=List.any_eq_true.1 hc;rcases hall with h0|hall
   ·rw[hod]at h0;simp at h0
   ·have:=List.all_eq_true.1 hall o' ho';rw[hod]at this
    simp at e this;exact this e),zEi a d _ hsz]
 | o::r,k,listed,vals,a,j+1,o',d,hd,h,hod,hsz,hl=>by
  simp only[zHG,Bool.and_eq_true]at hd;simp only[fill];rw[show k+(j+1)=k+1+j from by omega]at hl ⊢
  exact zHF r (k+1) listed vals _ j o' d hd.2 (by simpa using h) hod (by split<;>simp[zHM,hsz]) hl
theorem zFW {P:Program} {id:Nat} {Q:Exit→Act→World→Prop} {a0:Act} {w0:World} {l:List Oper} (R:World→World→Prop) (htrans:∀ u v w,R u v→R v w→R u w) (hrefl:∀ w,R w w) (hdrew:∀ w:World,R w {w with drawn:=w.drawn+1}) (n:Nat) (Ss:Nat→Value→World→Prop)
  (hm:P.follows .mixedOrders=true) (hB:zNj l.toArray n=true) (hsz:(l.take n).all (fun o=>match o.dst with|some d=>decide (d<a0.tmps.size)|none=>true)=true)
  (hst:∀ i,i<n→∀ v w w',Ss i v w→R w w'→Ss i v w')
  (hstep:∀ i o,i<n→l[i]?=some o→∀ a w,RCtxR (l.take n) Ss R a0 w0 o a w→zCF P l.toArray R o a w (fun v w'=>Ss i v w'∧(o.dst=none→v=zFi o a)))
  (hend:∀ vals w,R w0 w→(∀ i,i<n→Ss i (vals i) w)→zLf (l.take n) (fun _=>true) vals→wpList P l.toArray Q (l.drop n) (zBI (l.take n) 0 vals a0) w) :
  (Code.region id l.toArray true).wp P Q a0 w0:=by
 simp only[zNj,Bool.and_eq_true,decide_eq_true_eq]at hB;obtain⟨⟨⟨⟨hn,hd⟩,haf⟩,hsink⟩,hseq⟩:=hB;have hn':n≤l.length:=by simpa using hn
 have hd':zHG (l.take n)=true:=hd;have htl:(l.take n).length=n:=by simp;omega
 have key:∀ (rem:List Nat) (f:Nat),rem.length=f→rem.Nodup→∀ (listed:Array Bool) (a:Act) (w:World),HeadInv .any l.toArray n listed →
   (∀ i,i ∈ rem↔(i<n∧listed.getD i true=false))→(∃ vals,a=fill (l.take n) 0 listed vals a0∧(∀ i,i<n→listed.getD i false=true→Ss i (vals i) w)∧zLf (l.take n) (fun i=>listed.getD i false) vals)→R w0 w →
   wpAny P .any l.toArray Q (f+(l.toArray.size - n)) listed a w:=by
  intro rem f
  induction f generalizing rem with
  | zero =>
   intro hl _ listed a w inv hrem ⟨vals,ha,hv,hlk⟩ hb;have hr:rem=[]:=List.length_eq_zero_iff.1 hl;subst hr;have hall:∀ i,i<n→listed.getD i false=true:=by
    intro i hi;have h1:¬ listed.getD i true=false:=fun h=>by have:=(hrem i).2 ⟨hi,h⟩;simp at this
    have h2:i<listed.size:=by rw[inv.size];omega
    rw[Array.getD_eq_getD_getElem?,Array.getElem?_eq_getElem h2]at h1 ⊢
    simpa using h1
   have hlist:=zCk hn inv hall;have hw:=hend vals w hb (fun i hi=>hv i hi (hall i hi)) (fun i oi d j oj h1 h2 h3 h4 h5 h6 _=>hlk i oi d j oj h1 h2 h3 h4 h5 h6 (hall i (by have:=(List.getElem?_eq_some_iff.1 h1).1;omega)))
   rw[← zDP (l.take n) 0 listed vals a0 (fun i hi=>by rw[Nat.zero_add];exact hall i (by omega)),← ha]at hw
   rw[Nat.zero_add];have hdl:(l.drop n).length=l.toArray.size - n:=by simp
   rw[← hdl];refine wpAny_of_seq (l.drop n) n listed a w (fun j=>by simp) ?_ hw
   rw[hdl,hlist];exact hseq
  | succ f ih =>
   intro hl hnd listed a w inv hrem ⟨vals,ha,hv,hlk⟩ hb;have hex:∃ i,i ∈ rem∧∀ j,j ∈ rem→i≤j:=by
    have:∀ (r:List Nat),r≠[]→∃ i,i ∈ r∧∀ j,j ∈ r→i≤j:=by
     intro r
     induction r with
     | nil=>intro h;exact(h rfl).elim
     | cons x r ihr =>
      intro _
      by_cases hr:r=[]
      ·subst hr;exact⟨x,by simp,by simp⟩
      ·obtain⟨i,hi,hmin⟩:=ihr hr
       by_cases hx:x≤i
       ·exact⟨x,by simp,fun j hj=>by rcases List.mem_cons.1 hj with rfl|hj;exact Nat.le_refl _;exact Nat.le_trans hx (hmin j hj)⟩
       ·exact⟨i,by simp[hi],fun j hj=>by rcases List.mem_cons.1 hj with rfl|hj;omega;exact hmin j hj⟩
    exact this rem (by intro h;subst h;simp at hl)
   have hready:Region.ready .any l.toArray listed≠[]:=by
    obtain⟨i,hi,hmin⟩:=hex;obtain⟨hin,hil⟩:=(hrem i).1 hi;have hlt:i<l.length:=by omega
    have hmem:i ∈ Region.ready .any l.toArray listed:=by
     refine mem_ready.2 ⟨hil,l[i],by simp[hlt],fun e he hbd=>?_⟩
     have h1:=List.all_eq_true.1 haf (l[i],i) (by
      rw[List.mem_zipIdx_iff_getElem?];simp[hin,hlt])
     have h2:=Array.all_eq_true'.1 h1 e he;simp[hbd]at h2;have hj:¬ e.on ∈ rem:=fun h=>by have:=hmin _ h;omega
     have h3:¬ listed.getD e.on true=false:=fun h=>hj ((hrem _).2 ⟨by omega,h⟩)
     have h4:e.on<listed.size:=by rw[inv.size];simp;omega
     rw[Array.getD_eq_getD_getElem?,Array.getElem?_eq_getElem h4]at h3 ⊢
     simpa using h3
    intro h;rw[h]at hmem;simp at hmem
   rw[show f+1+(l.toArray.size - n)=(f+(l.toArray.size - n))+1 from by omega]
   refine⟨fun h=>(hready h).elim,fun i hi=>?_⟩
   obtain⟨hil,o,ho,haft⟩:=mem_ready.1 hi;have hin:i<n:=by
    rcases Nat.lt_or_ge i n with h|h
    ·exact h
    ·exfalso
     obtain⟨i',hi',_⟩:=hex;obtain⟨hin',hil'⟩:=(hrem i').1 hi';have hisz:i<l.toArray.size:=(Array.getElem?_eq_some_iff.1 ho).1;simp only[Bool.or_eq_true,decide_eq_true_eq,Bool.and_eq_true]at hsink;rcases hsink with h0|⟨hs,hc⟩
     ·omega
     ·exact tail_waits hs hc (by omega) inv (n - i') i' rfl hin' hil' i h hi
   have ho':l[i]?=some o:=by simpa using ho
   have hot:(l.take n)[i]?=some o:=by rw[List.getElem?_take_of_lt hin];exact ho'
   have hbd:∀ (j:Nat) (oj:Oper) (dj:Tmp),(l.take n)[j]?=some oj→oj.dst=some dj→dj<a0.tmps.size:=by
    intro j oj dj hj hdj;have:=List.all_eq_true.1 hsz oj (List.mem_of_getElem? hj)
    simpa [hdj] using this
   have hctx:RCtxR (l.take n) Ss R a0 w0 o a w:=by
    refine⟨hb,fun t ht=>by rw[ha];exact zBm _ _ _ _ _ t ht,fun j dj hj hdj=>?_⟩
    obtain⟨e,he,hbe⟩:=List.any_eq_true.1 hj;simp only[Bool.and_eq_true,beq_iff_eq]at hbe;have hlj:=haft e (Array.mem_toList_iff.1 he) hbe.1;rw[hbe.2]at hlj;obtain⟨oj,hoj,hdj'⟩:=Option.bind_eq_some_iff.1 hdj;have hjn:j<n:=by have:=(List.getElem?_eq_some_iff.1 hoj).1;omega
    rw[ha,zHF _ 0 listed vals a0 j oj dj hd' hoj hdj' (hbd j oj dj hoj hdj') (by rw[Nat.zero_add];exact hlj),Nat.zero_add]
    exact hv j hjn hlj
   have hstep':=hstep i o hin ho' a w hctx;have hclosed:∀ k ok,l[k]?=some ok→listed.getD k false=true→∀ j,ok.after.toList.any (fun e=>Region.binds .any e&&e.on == j)=true→listed.getD j false=true:=by
    intro k ok hk hlk' j hj;obtain⟨e,he,hbe⟩:=List.any_eq_true.1 hj;simp only[Bool.and_eq_true,beq_iff_eq]at hbe;have:=inv.closed k ok (by simpa using hk) hlk' e (Array.mem_toList_iff.1 he) hbe.1
    rwa [hbe.2]at this
   have hownd:∀ j,o.after.toList.any (fun e=>Region.binds .any e&&e.on == j)=true→listed.getD j false=true:=by
    intro j hj;obtain⟨e,he,hbe⟩:=List.any_eq_true.1 hj;simp only[Bool.and_eq_true,beq_iff_eq]at hbe;have:=haft e (Array.mem_toList_iff.1 he) hbe.1
    rwa [hbe.2]at this
   have hnl:∀ j,listed.getD j false=true→j≠i:=by
    intro j hj e;subst e;rw[getD_both hil]at hj;cases hj
   have hnext:∀ v w',R w w'→Ss i v w'→(o.dst=none→v=zFi o a)→wpAny P .any l.toArray Q (f+(l.toArray.size - n)) (listed.setIfInBounds i true) (a.put o.dst v) w':=by
    intro v w' hbw hsv hgh;have hmemi:i ∈ rem:=(hrem i).2 ⟨hin,hil⟩;refine ih (rem.erase i) (by rw[List.length_erase_of_mem hmemi,hl];rfl) (hnd.erase i) _ _ w' (inv.set hi hin) (fun j=>?_) ⟨fun j=>if j=i then v else vals j,?_,fun j hj hlj=>?_,?_⟩ (htrans _ _ _ hb hbw)
    ·rw[hnd.mem_erase_iff,hrem j]
     by_cases hji:j=i
     ·subst hji;have hjs:j<listed.size:=by rw[inv.size];simp;omega
      simp[hjs]
     ·rw[getD_set_ne true (fun e=>hji e.symm)]
      simp[hji]
    ·cases hod:o.dst with
     | some d =>
      have:=zHn (l.take n) 0 i listed vals a0 o d v hd' hot hod (by rw[Nat.zero_add];exact hil)
      rw[Nat.zero_add]at this;rw[this,← ha]
     | none =>
      have:=zGk (l.take n) 0 i listed vals a0 o v hot hod (by rw[Nat.zero_add];exact hil)
      rw[Nat.zero_add]at this;rw[this,← ha];rfl
    ·by_cases hji:j=i
     ·subst hji;simpa using hsv
     ·show Ss j (if j=i then v else vals j) w'
      rw[if_neg hji];rw[getD_set_ne false (fun e=>hji e.symm)]at hlj
      exact hst j hj _ _ _ (hv j hj hlj) hbw
    ·intro k ok d j oj h1 h2 h3 h4 h5 h6 h7
     show (if k=i then v else vals k)=(if j=i then v else vals j)
     by_cases hki:k=i
     ·subst hki;rw[hot]at h1;cases h1
      have hjl:=hownd j h6;rw[if_pos rfl,if_neg (hnl j hjl),hgh h2];unfold zFi;rw[h3]
      show a.eval (.tmp d)=vals j
      rw[ha,zHF _ 0 listed vals a0 j oj d hd' h4 h5 (hbd j oj d h4 h5) (by rw[Nat.zero_add];exact hjl),Nat.zero_add]
     ·replace h7:(listed.setIfInBounds i true).getD k false=true:=h7;rw[getD_set_ne false (fun e=>hki e.symm)]at h7
      have hkn:k<n:=by have:=(List.getElem?_eq_some_iff.1 h1).1;omega
      have hjl:=hclosed k ok (by rw[← h1,List.getElem?_take_of_lt hkn]) h7 j h6
      rw[if_neg hki,if_neg (hnl j hjl)];exact hlk k ok d j oj h1 h2 h3 h4 h5 h6 h7
   unfold wpOp;simp only[ho];unfold zCF at hstep';split
   ·rename_i hw;rw[if_pos hw]at hstep';refine .inl (zDg (Oper.wp_mono (fun a' w' ⟨v,e,hbw,hsv,hgh⟩=>?_) hstep'))
    subst e;exact hnext v w' hbw hsv hgh
   ·rename_i hw;rw[if_neg hw]at hstep';exact hnext undef w (hrefl w) hstep'.1 hstep'.2
 refine wp_region_any hm ?_
 have h0:=key (List.range n) n (by simp) List.nodup_range (Array.replicate l.toArray.size false) a0 {w0 with drawn:=w0.drawn+1}
  ⟨by simp,fun j oj _ hl=>(by rw[getD_replicate_false]at hl;cases hl),fun t _ ht=>getD_in (by simpa using ht) (getD_replicate_false _ _)⟩
  (fun i=>by
   rw[List.mem_range];constructor
   ·intro h;exact⟨h,getD_in (by simp;omega) (getD_replicate_false _ _)⟩
   ·intro h;exact h.1)
  ⟨fun _=>undef,(zCo _ _ _ _ _ (fun i=>getD_replicate_false _ _)).symm,fun i _ h=>(by rw[getD_replicate_false]at h;cases h),fun _ _ _ _ _ _ _ _ _ _ _ _=>rfl⟩
  (hdrew w0)
 rw[show n+(l.toArray.size - n)=l.toArray.size from by omega]at h0
 exact h0
def OblM (P:Program) (l hd:List Oper) (R:World→World→Prop) (L:List (Value→World→Prop)) (a0:Act) (w0:World):List Oper→Nat→Prop
 | [],_=>True
 | o::r,i=>(∀ a w,RCtxR hd (zAq L) R a0 w0 o a w→zCF P l.toArray R o a w (fun v w'=>zAq L i v w'∧(o.dst=none→v=zFi o a)))∧OblM P l hd R L a0 w0 r (i+1)
theorem OblM.get {P:Program} {l hd:List Oper} {R:World→World→Prop} {L:List (Value→World→Prop)} {a0:Act} {w0:World}:∀ (r:List Oper) (k:Nat),OblM P l hd R L a0 w0 r k→∀ i o,r[i]?=some o →
  ∀ a w,RCtxR hd (zAq L) R a0 w0 o a w→zCF P l.toArray R o a w (fun v w'=>zAq L (k+i) v w'∧(o.dst=none→v=zFi o a))
 | [],_,_,_,_,h=>by simp at h
 | o::r,k,h,0,o',h'=>by simp at h';subst h';exact h.1
 | o::r,k,h,i+1,o',h'=>by
  have:=OblM.get r (k+1) h.2 i o' (by simpa using h')
  rwa [show k+1+i=k+(i+1) from by omega]at this
theorem zBW {P:Program} {id:Nat} {Q:Exit→Act→World→Prop} {a0:Act} {w0:World} {l:List Oper} (R:World→World→Prop) (hrefl:∀ w,R w w) (htrans:∀ u v w,R u v→R v w→R u w) (hdrew:∀ w:World,R w {w with drawn:=w.drawn+1}) (n:Nat) (L:List (Value→World→Prop)) (hst:zDa R L)
  (hm:P.follows .mixedOrders=true) (hB:zNj l.toArray n=true) (hsz:(l.take n).all (fun o=>match o.dst with|some d=>decide (d<a0.tmps.size)|none=>true)=true)
  (hstep:OblM P l (l.take n) R L a0 w0 (l.take n) 0)
  (hend:∀ vals w,R w0 w→(∀ i,i<n→zAq L i (vals i) w)→zLf (l.take n) (fun _=>true) vals→wpList P l.toArray Q (l.drop n) (zBI (l.take n) 0 vals a0) w) :
  (Code.region id l.toArray true).wp P Q a0 w0 :=
 zFW R htrans hrefl hdrew n (zAq L) hm hB hsz (fun i _ v w w' h hb=>zC7 L i hst v w w' h hb) (fun i o hi ho a w hc=>by
   have:=OblM.get (l.take n) 0 hstep i o (by rw[List.getElem?_take_of_lt hi];exact ho) a w hc
   rwa [Nat.zero_add]at this) hend
def zH7 (md:Region.Mode) (ops:Array Oper):List Nat→Array Bool→Bool
 | [],listed=>(Region.ready md ops listed).isEmpty
 | i::r,listed=>decide (Region.ready md ops listed=[i])&&zH7 md ops r (listed.setIfInBounds i true)
theorem zEW {P:Program} {md:Region.Mode} {ops:Array Oper} {Q:Exit→Act→World→Prop}:∀ (is:List Nat) (os:List Oper) (listed:Array Bool) (a:Act) (w:World),os.length=is.length→(∀ (j i:Nat),is[j]?=some i→ops[i]?=os[j]?) →
  zH7 md ops is listed=true→wpList P ops Q os a w→wpAny P md ops Q is.length listed a w
 | [],os,_,_,_,hl,_,hB,h=>by
  have:os=[]:=List.length_eq_zero_iff.1 hl;subst this;exact⟨by simpa [zH7] using hB,h⟩
 | i::r,[],_,_,_,hl,_,_,_=>by simp at hl
 | i::r,o::os,listed,a,w,hl,hg,hB,h=>by
  have h0:ops[i]?=some o:=by simpa using hg 0 i rfl
  simp only[zH7,Bool.and_eq_true,decide_eq_true_eq]at hB;refine⟨fun h1=>(by rw[hB.1]at h1;cases h1),fun k hk=>?_⟩
  rw[hB.1]at hk;have hik:k=i:=by simpa using hk
  subst hik;have hw:wpOp P ops Q k (wpList P ops Q os) a w:=by unfold wpOp;simp only[h0];exact h
  exact wpOp_mono (fun a' w' h'=>zEW r os _ a' w' (by simpa using hl) (fun j i hj=>by simpa using hg (j+1) i (by simpa using hj)) hB.2 h') hw
def zDY (n e g:Nat):Array Bool:=((List.range n).map (fun i=>i != e)++List.replicate g false).toArray
def zOT (ops:Array Oper) (n e:Nat):Bool :=
 (List.range n).all fun i=>i == e || (List.range (n+1)).any fun j=>decide (i<j)&&(j != e)&&(match ops[j]? with|some o=>o.after.toList.any (fun ed=>Region.binds .any ed&&ed.on == i)|none=>false)
def zNP (ops:Array Oper) (n e:Nat):Bool :=
 decide (n≤ops.size)&&zCd (ops.toList.take n) &&
 ((ops.toList.take n).zipIdx.all fun (o,i)=>o.after.all fun e=>!Region.binds .any e || decide (e.on<i)) &&
 zOT ops n e&&(ops.toList.zipIdx.all fun (o,t)=>decide (t≤n) || o.after.toList.any (fun ed=>Region.binds .any ed&&decide (n≤ed.on)&&decide (ed.on<t))) &&
 Region.seqB .any ops (ops.size - n) n (zAw n (ops.size - n)) &&
 zH7 .any ops (e::List.range' (n+1) (ops.size - n - 1)) ((zDY n e (ops.size - n)).setIfInBounds n true)&&decide (e<n)
def zH8 (l:List Oper) (n e:Nat):List Oper:=(l.drop n).take 1++((l.drop e).take 1++l.drop (n+1))
def zDQ (e:Nat):List Oper→Nat→(Nat→Value)→Act→Act
 | [],_,_,a=>a
 | o::r,k,vals,a=>zDQ e r (k+1) vals (if k=e then a else a.put o.dst (vals k))
theorem zJF (e:Nat):∀ (l:List Oper) (k:Nat) (listed:Array Bool) (vals:Nat→Value) (a:Act),(∀ i,i<l.length→k+i≠e→listed.getD (k+i) false=true)→(k≤e→listed.getD e false=false)→fill l k listed vals a=zDQ e l k vals a
 | [],_,_,_,_,_,_=>rfl
 | o::r,k,listed,vals,a,h,h2=>by
  simp only[fill,zDQ];have ih:=zJF e r (k+1) listed vals (if k=e then a else a.put o.dst (vals k)) (fun i hi he=>by have:=h (i+1) (by simp;omega) (by omega);rwa [show k+(i+1)=k+1+i from by omega]at this) (fun hk=>h2 (by omega))
  rw[← ih]
  congr 1
  by_cases hke:k=e
  ·subst hke;rw[h2 (Nat.le_refl _),if_pos rfl];rfl
  ·have:=h 0 (by simp) (by simpa using hke)
   rw[Nat.add_zero]at this;rw[this,if_neg hke];rfl
theorem zLT {ops:Array Oper} {n e:Nat} {listed:Array Bool} (hc:zOT ops n e=true) (hn:n≤ops.size) (inv:HeadInv .any ops n listed) (o:Oper) (ho:ops[n]?=some o)
  (ha:∀ e ∈ o.after,Region.binds .any e=true→listed.getD e.on false=true):∀ k,k<n→k≠e→listed.getD k false=true:=by
 have key:∀ d k,n - k=d→k<n→k≠e→listed.getD k false=true:=by
  intro d
  induction d using Nat.strongRecOn with
  | _ d ih =>
   intro k hd hk hke;have h1:=List.all_eq_true.1 hc k (List.mem_range.2 hk);simp only[Bool.or_eq_true,beq_iff_eq]at h1;rcases h1 with h1|h1
   ·exact absurd h1 hke
   ·obtain⟨j,hj,h2⟩:=List.any_eq_true.1 h1;simp only[Bool.and_eq_true,decide_eq_true_eq,bne_iff_ne,ne_eq]at h2;obtain⟨⟨hkj,hje⟩,h3⟩:=h2;have hjn:=List.mem_range.1 hj
    cases hoj:ops[j]? with
    | none=>rw[hoj]at h3;cases h3
    | some oj =>
     rw[hoj]at h3;obtain⟨ed,hed,hb⟩:=List.any_eq_true.1 h3;simp only[Bool.and_eq_true,beq_iff_eq]at hb
     by_cases hjn':j=n
     ·subst hjn';rw[ho]at hoj;cases hoj
      have:=ha ed (Array.mem_toList_iff.1 hed) hb.1
      rwa [hb.2]at this
     ·have hlj:=ih (n - j) (by omega) j rfl (by omega) hje
      have:=inv.closed j oj hoj hlj ed (Array.mem_toList_iff.1 hed) hb.1
      rwa [hb.2]at this
 exact fun k hk hke=>key _ k rfl hk hke
theorem zJu {ops:Array Oper} {n e:Nat} {listed:Array Bool} (hn:n≤ops.size) (he:e<n) (inv:HeadInv .any ops n listed) (h:∀ i,i<n→i≠e→listed.getD i false=true) (h2:listed.getD e true=false):listed=zDY n e (ops.size - n):=by
 have hs:=inv.size;apply Array.ext
 ·simp[zDY,hs];omega
 ·intro i h1 h3
  by_cases hi:i<n
  ·by_cases hie:i=e
   ·subst hie;rw[Array.getD_eq_getD_getElem?,Array.getElem?_eq_getElem h1]at h2;simp at h2;rw[h2];simp[zDY,hi,List.getElem_append]
   ·have:=h i hi hie;rw[Array.getD_eq_getD_getElem?,Array.getElem?_eq_getElem h1]at this;simp at this;rw[this];simp[zDY,hi,List.getElem_append,hie]
  ·have:=inv.tail i (by omega) (by omega)
   rw[Array.getD_eq_getD_getElem?,Array.getElem?_eq_getElem h1]at this;simp at this;rw[this];simp[zDY,List.getElem_append,hi]
theorem zGA {P:Program} {id:Nat} {Q:Exit→Act→World→Prop} {a0:Act} {w0:World} {l:List Oper} (n e:Nat) (Ss:Nat→Value→World→Prop) (D:Nat→Bool)
  (hm:P.follows .mixedOrders=true) (hB:zNP l.toArray n e=true) (hsz:(l.take n).all (fun o=>match o.dst with|some d=>decide (d<a0.tmps.size)|none=>true)=true)
  (hst:∀ i,i<n→∀ v w w',Ss i v w→Below w.heap.size w w'→Ss i v w')
  (hlt:∀ i,i<n→D i=true→∀ v w,Ss i v w→blk v<w.heap.size)
  (hstep:∀ i o,i<n→l[i]?=some o→∀ a w,RCtx (l.take n) Ss a0 w0 o a w→zBK P l.toArray o a w (fun v w'=>Ss i v w'∧(D i=true→w.heap.size≤blk v)))
  (hend:∀ vals w,Below w0.heap.size w0 w→(∀ i,i<n→Ss i (vals i) w)→(∀ i j,i<n→j<n→i≠j→D i=true→D j=true→blk (vals i)≠blk (vals j))→wpList P l.toArray Q (l.drop n) (zBI (l.take n) 0 vals a0) w)
  (hend2:∀ vals w,Below w0.heap.size w0 w→(∀ i,i<n→i≠e→Ss i (vals i) w)→(∀ i j,i<n→j<n→i≠e→j≠e→i≠j→D i=true→D j=true→blk (vals i)≠blk (vals j)) →
   wpList P l.toArray Q (zH8 l n e) (zDQ e (l.take n) 0 vals a0) w) :
  (Code.region id l.toArray true).wp P Q a0 w0:=by
 simp only[zNP,Bool.and_eq_true,decide_eq_true_eq]at hB;obtain⟨⟨⟨⟨⟨⟨⟨hn,hd⟩,haf⟩,hclo⟩,htw⟩,hseq⟩,hord⟩,hen⟩:=hB;have hn':n≤l.length:=by simpa using hn
 have hd':zCd (l.take n)=true:=hd;have htl:(l.take n).length=n:=by simp;omega
 have key:∀ (rem:List Nat) (f:Nat),rem.length=f→rem.Nodup→∀ (listed:Array Bool) (a:Act) (w:World),HeadInv .any l.toArray n listed →
   (∀ i,i ∈ rem↔(i<n∧listed.getD i true=false))→(∃ vals,a=fill (l.take n) 0 listed vals a0∧(∀ i,i<n→listed.getD i false=true→Ss i (vals i) w)∧∀ i j,i<n→j<n→i≠j→listed.getD i false=true→listed.getD j false=true→D i=true→D j=true→blk (vals i)≠blk (vals j))→Below w0.heap.size w0 w →
   wpAny P .any l.toArray Q (f+(l.toArray.size - n)) listed a w:=by
  intro rem f
  induction f generalizing rem with
  | zero =>
   intro hl _ listed a w inv hrem ⟨vals,ha,hv,hp⟩ hb;have hr:rem=[]:=List.length_eq_zero_iff.1 hl;subst hr;have hall:∀ i,i<n→listed.getD i false=true:=by
    intro i hi;have h1:¬ listed.getD i true=false:=fun h=>by have:=(hrem i).2 ⟨hi,h⟩;simp at this
    have h2:i<listed.size:=by rw[inv.size];omega
    rw[Array.getD_eq_getD_getElem?,Array.getElem?_eq_getElem h2]at h1 ⊢
    simpa using h1
   have hlist:=zCk hn inv hall;have hw:=hend vals w hb (fun i hi=>hv i hi (hall i hi)) (fun i j hi hj hij=>hp i j hi hj hij (hall i hi) (hall j hj))
   rw[← zDP (l.take n) 0 listed vals a0 (fun i hi=>by rw[Nat.zero_add];exact hall i (by omega)),← ha]at hw
   rw[Nat.zero_add];have hdl:(l.drop n).length=l.toArray.size - n:=by simp
   rw[← hdl];refine wpAny_of_seq (l.drop n) n listed a w (fun j=>by simp) ?_ hw
   rw[hdl,hlist];exact hseq
  | succ f ih =>
   intro hl hnd listed a w inv hrem ⟨vals,ha,hv,hp⟩ hb;have hex:∃ i,i ∈ rem∧∀ j,j ∈ rem→i≤j:=by
    have:∀ (r:List Nat),r≠[]→∃ i,i ∈ r∧∀ j,j ∈ r→i≤j:=by
     intro r
     induction r with
     | nil=>intro h;exact(h rfl).elim
     | cons x r ihr =>
      intro _
      by_cases hr:r=[]
      ·subst hr;exact⟨x,by simp,by simp⟩
      ·obtain⟨i,hi,hmin⟩:=ihr hr
       by_cases hx:x≤i
       ·exact⟨x,by simp,fun j hj=>by rcases List.mem_cons.1 hj with rfl|hj;exact Nat.le_refl _;exact Nat.le_trans hx (hmin j hj)⟩
       ·exact⟨i,by simp[hi],fun j hj=>by rcases List.mem_cons.1 hj with rfl|hj;omega;exact hmin j hj⟩
    exact this rem (by intro h;subst h;simp at hl)
   have hready:Region.ready .any l.toArray listed≠[]:=by
    obtain⟨i,hi,hmin⟩:=hex;obtain⟨hin,hil⟩:=(hrem i).1 hi;have hlt:i<l.length:=by omega
    have hmem:i ∈ Region.ready .any l.toArray listed:=by
     refine mem_ready.2 ⟨hil,l[i],by simp[hlt],fun e he hbd=>?_⟩
     have h1:=List.all_eq_true.1 haf (l[i],i) (by
      rw[List.mem_zipIdx_iff_getElem?];simp[hin,hlt])
     have h2:=Array.all_eq_true'.1 h1 e he;simp[hbd]at h2;have hj:¬ e.on ∈ rem:=fun h=>by have:=hmin _ h;omega
     have h3:¬ listed.getD e.on true=false:=fun h=>hj ((hrem _).2 ⟨by omega,h⟩)
     have h4:e.on<listed.size:=by rw[inv.size];simp;omega
     rw[Array.getD_eq_getD_getElem?,Array.getElem?_eq_getElem h4]at h3 ⊢
     simpa using h3
    intro h;rw[h]at hmem;simp at hmem
   rw[show f+1+(l.toArray.size - n)=(f+(l.toArray.size - n))+1 from by omega]
   refine⟨fun h=>(hready h).elim,fun i hi=>?_⟩
   obtain⟨hil,o,ho,haft⟩:=mem_ready.1 hi
   by_cases hin:i<n
   case neg =>
    have hisz:i<l.toArray.size:=(Array.getElem?_eq_some_iff.1 ho).1;have hmost:=zLT hclo hn inv;have hin':i=n:=by
     rcases Nat.lt_or_ge n i with h|h
     ·exfalso
      have h1:=List.all_eq_true.1 htw (l[i]'(by simpa using hisz),i) (by
       rw[List.mem_zipIdx_iff_getElem?];simp at hisz;simp[hisz])
      simp only[Bool.or_eq_true,decide_eq_true_eq]at h1;rcases h1 with h1|h1
      ·omega
      ·obtain⟨ed,hed,hb⟩:=List.any_eq_true.1 h1;simp only[Bool.and_eq_true,decide_eq_true_eq]at hb;have ho2:o=l[i]'(by simpa using hisz):=by
        have:=(Array.getElem?_eq_some_iff.1 ho).2;simpa using this.symm
       have h3:=haft ed (by rw[ho2];exact Array.mem_toList_iff.1 hed) hb.1.1
       have h4:=getD_both (inv.tail ed.on hb.1.2 (by omega))
       rw[h3]at h4;cases h4
     ·omega
    subst hin';have hall:∀ k,k<i→k≠e→listed.getD k false=true:=fun k hk hke=>hmost o ho haft k hk hke
    have hone:rem=[e]:=by
     have h1:∀ k ∈ rem,k=e:=by
      intro k hk;obtain⟨hk1,hk2⟩:=(hrem k).1 hk
      by_cases hke:k=e
      ·exact hke
      ·have:=hall k hk1 hke;rw[getD_both hk2]at this;cases this
     cases rem with
     | nil=>simp at hl
     | cons x r =>
      cases r with
      | nil=>rw[h1 x (by simp)]
      | cons y r =>
       have hx:=h1 x (by simp);have hy:=h1 y (by simp)
       rw[hx,hy]at hnd;simp at hnd
    subst hone;have hf:f=0:=by simp at hl;omega
    subst hf;have hel:listed.getD e true=false:=((hrem e).1 (by simp)).2
    have hlist:=zJu hn hen inv hall hel;have hw:=hend2 vals w hb (fun k hk hke=>hv k hk (hall k hk hke)) (fun k m hk hm hke hme hkm=>hp k m hk hm hkm (hall k hk hke) (hall m hm hme))
    rw[← zJF e (l.take i) 0 listed vals a0 (fun k hk hke=>by rw[Nat.zero_add]at hke ⊢;exact hall k (by omega) hke) (fun _=>getD_both hel),← ha]at hw
    have hli:l[i]?=some o:=by simpa using ho
    have hl1:(l.drop i).take 1=[o]:=by
     rw[List.drop_eq_getElem_cons (by simpa using hisz)]
     have:l[i]'(by simpa using hisz)=o:=(List.getElem?_eq_some_iff.1 hli).2
     simp[this]
    have hlt':i<l.length:=by simpa using hisz
    have heL:e<l.length:=by omega
    have hl2:(l.drop e).take 1=[l[e]]:=by rw[List.drop_eq_getElem_cons heL,List.take_succ_cons,List.take_zero]
    unfold zH8 at hw;rw[hl1,hl2]at hw;have hw2:wpOp P l.toArray Q i (wpList P l.toArray Q ([l[e]]++l.drop (i+1))) a w:=by unfold wpOp;simp only[ho];exact hw
    have hlen:(e::List.range' (i+1) (l.toArray.size - i - 1)).length=0+(l.toArray.size - i):=by simp;omega
    refine wpOp_mono (fun a' w' h'=>?_) hw2
    rw[← hlen];refine zEW (e::List.range' (i+1) (l.toArray.size - i - 1)) ([l[e]]++l.drop (i+1)) _ a' w' (by simp;omega) (fun j k hk=>?_) ?_ h'
    ·cases j with
     | zero=>simp at hk;subst hk;simp[heL]
     | succ j =>
      simp only[List.getElem?_cons_succ]at hk;obtain⟨hk1,hk2⟩:=List.getElem?_eq_some_iff.1 hk;simp at hk2;subst hk2;simp
    ·rw[hlist];exact hord
   have ho':l[i]?=some o:=by simpa using ho
   have hot:(l.take n)[i]?=some o:=by rw[List.getElem?_take_of_lt hin];exact ho'
   obtain⟨d,hod⟩:∃ d,o.dst=some d:=by
    have:∀ (r:List Oper) (j:Nat),zCd r=true→r[j]?=some o→∃ d,o.dst=some d:=by
     intro r
     induction r with
     | nil=>intro j _ h;simp at h
     | cons x r ihr =>
      intro j hdd h;simp only[zCd,Bool.and_eq_true]at hdd
      cases j with
      | zero=>simp at h;subst h;exact Option.isSome_iff_exists.1 hdd.1.1
      | succ j=>exact ihr j hdd.2 (by simpa using h)
    exact this _ i hd' hot
   have hbd:∀ (j:Nat) (oj:Oper) (dj:Tmp),(l.take n)[j]?=some oj→oj.dst=some dj→dj<a0.tmps.size:=by
    intro j oj dj hj hdj;have:=List.all_eq_true.1 hsz oj (List.mem_of_getElem? hj)
    simpa [hdj] using this
   have hctx:RCtx (l.take n) Ss a0 w0 o a w:=by
    refine⟨hb,fun t ht=>by rw[ha];exact zBm _ _ _ _ _ t ht,fun j dj hj hdj=>?_,by rw[ha,zEB]⟩
    obtain⟨e,he,hbe⟩:=List.any_eq_true.1 hj;simp only[Bool.and_eq_true,beq_iff_eq]at hbe;have hlj:=haft e (Array.mem_toList_iff.1 he) hbe.1;rw[hbe.2]at hlj;obtain⟨oj,hoj,hdj'⟩:=Option.bind_eq_some_iff.1 hdj;have hjn:j<n:=by have:=(List.getElem?_eq_some_iff.1 hoj).1;omega
    rw[ha,zEe _ 0 listed vals a0 j oj dj hd' hoj hdj' (hbd j oj dj hoj hdj') (by rw[Nat.zero_add];exact hlj),Nat.zero_add]
    exact hv j hjn hlj
   have hstep':=hstep i o hin ho' a w hctx;have hnext:∀ v w',Below w.heap.size w w'→(Ss i v w'∧(D i=true→w.heap.size≤blk v))→wpAny P .any l.toArray Q (f+(l.toArray.size - n)) (listed.setIfInBounds i true) (a.put o.dst v) w':=by
    intro v w' hbw ⟨hsv,hfr⟩;have hmemi:i ∈ rem:=(hrem i).2 ⟨hin,hil⟩;refine ih (rem.erase i) (by rw[List.length_erase_of_mem hmemi,hl];rfl) (hnd.erase i) _ _ w' (inv.set hi hin) (fun j=>?_) ⟨fun j=>if j=i then v else vals j,?_,fun j hj hlj=>?_,fun j k hj hk hjk hlj hlk hDj hDk=>?_⟩ (hb.trans (hbw.mono hb.size))
    ·rw[hnd.mem_erase_iff,hrem j]
     by_cases hji:j=i
     ·subst hji;have hjs:j<listed.size:=by rw[inv.size];simp;omega
      simp[hjs]
     ·rw[getD_set_ne true (fun e=>hji e.symm)]
      simp[hji]
    ·have:=zDh (l.take n) 0 i listed vals a0 o d v hd' hot hod (by rw[Nat.zero_add];exact hil)
     rw[Nat.zero_add]at this;rw[this,← ha,hod]
    ·by_cases hji:j=i
     ·subst hji;simpa using hsv
     ·show Ss j (if j=i then v else vals j) w'
      rw[if_neg hji];rw[getD_set_ne false (fun e=>hji e.symm)]at hlj
      exact hst j hj _ _ _ (hv j hj hlj) hbw
    ·show blk (if j=i then v else vals j)≠blk (if k=i then v else vals k)
     by_cases hji:j=i
     ·subst hji;rw[if_pos rfl,if_neg (fun e=>hjk e.symm)]
      rw[getD_set_ne false hjk]at hlk;have h1:=hlt k hk hDk _ _ (hv k hk hlk);have h2:=hfr hDj;omega
     ·rw[if_neg hji];rw[getD_set_ne false (fun e=>hji e.symm)]at hlj
      by_cases hki:k=i
      ·subst hki;rw[if_pos rfl];have h1:=hlt j hj hDj _ _ (hv j hj hlj);have h2:=hfr hDk;omega
      ·rw[if_neg hki];rw[getD_set_ne false (fun e=>hki e.symm)]at hlk
       exact hp j k hj hk hjk hlj hlk hDj hDk
   unfold wpOp;simp only[ho];unfold zBK at hstep';split
   ·rename_i hw;rw[if_pos hw]at hstep';refine .inl (zDg (Oper.wp_mono (fun a' w' ⟨v,e,hbw,hsv⟩=>?_) hstep'))
    subst e;exact hnext v w' hbw hsv
   ·rename_i hw;rw[if_neg hw]at hstep';exact hnext undef w (Below.refl _ w) hstep'
 refine wp_region_any hm ?_
 have h0:=key (List.range n) n (by simp) List.nodup_range (Array.replicate l.toArray.size false) a0 {w0 with drawn:=w0.drawn+1}
  ⟨by simp,fun j oj _ hl=>(by rw[getD_replicate_false]at hl;cases hl),fun t _ ht=>getD_in (by simpa using ht) (getD_replicate_false _ _)⟩
  (fun i=>by
   rw[List.mem_range];constructor
   ·intro h;exact⟨h,getD_in (by simp;omega) (getD_replicate_false _ _)⟩
   ·intro h;exact h.1)
  ⟨fun _=>undef,(zCo _ _ _ _ _ (fun i=>getD_replicate_false _ _)).symm,fun i _ h=>(by rw[getD_replicate_false]at h;cases h),fun i j _ _ _ h=>(by rw[getD_replicate_false]at h;cases h)⟩
  ((Below.refl _ w0).drew)
 rw[show n+(l.toArray.size - n)=l.toArray.size from by omega]at h0
 exact h0
theorem zCL {P:Program} {id:Nat} {Q:Exit→Act→World→Prop} {a0:Act} {w0:World} {l:List Oper} (n e:Nat) (L:List (Value→World→Prop)) (D:Nat→Bool)
  (hm:P.follows .mixedOrders=true) (hB:zNP l.toArray n e=true) (hsz:(l.take n).all (fun o=>match o.dst with|some d=>decide (d<a0.tmps.size)|none=>true)=true)
  (hst:zCq L) (hlt:∀ i,i<n→D i=true→∀ v w,zAq L i v w→blk v<w.heap.size)
  (hstep:Obl P l (l.take n) L D a0 w0 (l.take n) 0)
  (hend:∀ vals w,Below w0.heap.size w0 w→(∀ i,i<n→zAq L i (vals i) w)→(∀ i j,i<n→j<n→i≠j→D i=true→D j=true→blk (vals i)≠blk (vals j)) →
   wpList P l.toArray Q (l.drop n) (zBI (l.take n) 0 vals a0) w)
  (hend2:∀ vals w,Below w0.heap.size w0 w→(∀ i,i<n→i≠e→zAq L i (vals i) w)→(∀ i j,i<n→j<n→i≠e→j≠e→i≠j→D i=true→D j=true→blk (vals i)≠blk (vals j)) →
   wpList P l.toArray Q (zH8 l n e) (zDQ e (l.take n) 0 vals a0) w) :
  (Code.region id l.toArray true).wp P Q a0 w0 :=
 zGA n e (zAq L) D hm hB hsz (fun i _ v w w' h hb=>zCu L i hst v w w' h hb) hlt
  (fun i o hi ho a w hc=>by
   have:=Obl.get (l.take n) 0 hstep i o (by rw[List.getElem?_take_of_lt hi];exact ho) a w hc
   rwa [Nat.zero_add]at this) hend hend2
end
end Go.Proofs.YtklcgfkdemifcaaDoor
