/-
  Laws of walks, and walks.
-/
import Derived.Test.YtdoflhjhaciepaaGreatVd1
import Derived.Test.YtdoflhjhaciepaaGreatVd17
set_option linter.unusedVariables false
set_option linter.unusedSimpArgs false
set_option maxRecDepth 100000
set_option maxHeartbeats 16000000
namespace Go.Proofs.YtdoflhjhaciepaaGreat
section
open Go.RowKit
theorem zBn {w w':World} {base:Nat} {e:TypeId} {s:Nat} {v:Value} {n:Nat} {xs:List Value} {row:Option Nat} (h:w.ownsRow base e s v n xs) (hg:w.grownBy w' row) (hr:∀ g,row=some g→v.ownBlock≠some g):w'.ownsRow base e s v n xs:=by
 obtain⟨hl,h'|⟨g,cap,cur,rfl,hb,hgk,r⟩⟩:=h
 ·exact⟨hl,.inl h'⟩
 ·refine⟨hl,.inr ⟨g,cap,cur,rfl,hb,?_,r⟩⟩;exact(hg.block g (Array.getElem?_eq_some_iff.1 hgk).1 (fun e=>hr g e.symm rfl)).trans hgk
theorem zA0 {w:World} {base:Nat} {e:TypeId} {s:Nat} {v:Value} {n:Nat} {xs:List Value} {g:Nat} (h:w.ownsRow base e s v n xs) (hb:v.ownBlock=some g):g<w.heap.size∧base≤g∧∃ cur,w.heap[g]?=some (.cells cur e (0,0)):=by
 obtain⟨_,⟨rfl,_⟩|⟨g',cap,cur,rfl,h1,h2,_⟩⟩:=h
 ·cases hb
 ·simp[Value.ownBlock]at hb;subst hb;exact⟨(Array.getElem?_eq_some_iff.1 h2).1,h1,cur,h2⟩
theorem zMH {w:World} {base:Nat} {e:TypeId} {s g n m c:Nat} {ys:List Value} (h:w.ownsRow base e s (.slice (some ⟨g,0,none⟩) m c) m ys) (hn:n≤m) :
  w.ownsRow base e s (.slice (some ⟨g,0,none⟩) n c) n (ys.take (n * s)):=by
 obtain⟨hl,⟨h',_⟩|⟨g',cap,cur,e1,h1,h2,h3,h4,h5,h6⟩⟩:=h
 ·cases h'
 ·cases e1
  have hle:n * s≤m * s:=Nat.mul_le_mul_right _ hn;refine⟨by rw[List.length_take,hl];omega,.inr ⟨g,c,cur,rfl,h1,h2,by omega,h4,h5,?_⟩⟩
  rw[← h6,List.take_take]
  congr 1
  omega
theorem zO1 {w:World} {base:Nat} {e:TypeId} {s g n m c:Nat} {xs ys:List Value} (h:w.ownsRow base e s (.slice (some ⟨g,0,none⟩) n c) n xs) (h2:w.ownsRow base e s (.slice (some ⟨g,0,none⟩) m c) m ys) (hn:n≤m):xs=ys.take (n * s):=by
 obtain⟨_,⟨h',_⟩|⟨g',cap,cur,e1,_,a2,_,_,_,a6⟩⟩:=h
 ·cases h'
 ·cases e1
  obtain⟨_,⟨h',_⟩|⟨g',cap',cur',e1,_,b2,_,_,_,b6⟩⟩:=h2
  ·cases h'
  ·cases e1
   rw[a2]at b2
   cases b2
   have hle:n * s≤m * s:=Nat.mul_le_mul_right _ hn;rw[← a6,← b6,List.take_take]
   congr 1
   omega
theorem zIk {w:World} {base g n cap s:Nat} {e:TypeId} {xs:List Value} (h:w.ownsRow base e s (.slice (some ⟨g,0,none⟩) n cap) n xs) {k:Nat} (v:Value) :
  (w.setCell ⟨g,k,none⟩ v).ownsRow base e s (.slice (some ⟨g,0,none⟩) n cap) n (xs.set k v):=by
 obtain⟨hl,⟨h',_⟩|⟨g',cap',cur,e1,h1,h2,h3,h4,h5,h6⟩⟩:=h
 ·cases h'
 ·cases e1
  refine⟨by simpa using hl,.inr ⟨g,cap,cur.setIfInBounds k v,rfl,h1,?_,h3,h4,by simpa using h5,?_⟩⟩
  ·obtain⟨hlt,hh⟩:=Array.getElem?_eq_some_iff.1 h2
   show (w.heap.modify g _)[g]?=_
   rw[Array.getElem?_eq_getElem (by rw[Array.size_modify];exact hlt),Array.getElem_modify_self,hh]
   rfl
  ·rw[← h6,Array.toList_setIfInBounds,List.take_set]
theorem zBm (W:World) (g k:Nat) (v:Value):W.grownBy (W.setCell ⟨g,k,none⟩ v) (some g) :=
 ⟨rfl,rfl,rfl,by simp[World.setCell],fun j _ hj=>Below.heap_setCell _ _ _ j (fun e=>hj (by rw[e]))⟩
theorem zBW {w:World} {base g n cap s:Nat} {e:TypeId} {xs:List Value} (h:w.ownsRow base e s (.slice (some ⟨g,0,none⟩) n cap) n xs) {k:Nat} (hk:k<n * s):w.cell? ⟨g,k,none⟩=xs[k]?:=by
 obtain⟨hl,⟨h',_⟩|⟨g',cap',cur,e1,h1,h2,h3,h4,h5,h6⟩⟩:=h
 ·cases h'
 ·cases e1
  rw[cell_of_row w g k _ _ _ h2,← h6,List.getElem?_take_of_lt hk];simp
theorem zEA {w:World} {base g n cap s:Nat} {e:TypeId} {xs:List Value} (h:w.ownsRow base e s (.slice (some ⟨g,0,none⟩) n cap) n xs) (k:Nat):w.frozen? ⟨g,k,none⟩=false:=by
 obtain⟨hl,⟨h',_⟩|⟨g',cap',cur,e1,h1,h2,h3,h4,h5,h6⟩⟩:=h
 ·cases h'
 ·cases e1
  simp[World.frozen?,h2]
def Grow (w w':World) (v v':Value):Prop :=
 (∃ g n m c,v=.slice (some ⟨g,0,none⟩) n c∧v'=.slice (some ⟨g,0,none⟩) m c∧n≤m∧w.grownBy w' (some g))∨((∃ m c,v'=.slice (some ⟨w.heap.size,0,none⟩) m c)∧w.grownBy w' none)
theorem Grow.any {w w':World} {v v':Value} (h:Grow w w' v v'):w.grownBy w' v.ownBlock:=by
 rcases h with ⟨g,n,m,c,rfl,rfl,_,h⟩|⟨_,h⟩
 ·exact h
 ·exact⟨h.os,h.tape,h.output,h.size,fun k hk _=>h.block k hk (by simp)⟩
theorem zHk {P:Program} (w:World) (base:Nat) (t ty e:TypeId) (i:TypeInfo) (z:Value) (size bytes:Nat) (ht:P.underlying t=some (.slice e)) (hi:P.info? e=some i) (hz:i.zero=some z)
  (hsize:i.size=size) (hby:i.bytes=bytes) (hzs:z.cells.size=size) (hsz:0<size)
  (v:Value) (n:Nat) (xs:List Value) (hown:w.ownsRow base e size v n xs)
  (a:Addr) (m c:Nat) (news:List Value) (hl:news.length=m * size) (hnews:∀ j u,news[j]?=some u→w.cell? (a.add j)=some u) (h1:∀ u ∈ news,u.oneCell'=true)
  (h63:n+m≤maxLen) (hbytes:(n+m) * bytes≤140737488355328) (hbase:base≤w.heap.size) (hm:0<m) :
  ∃ v' w',(Builtin.append_ #[t,t] ty #[v,.slice (some a) m c]).run P w=.ok v' w'∧w'.ownsRow base e size v' (n+m) (xs++news)∧Grow w w' v v':=by
 subst hsize;subst hby;have hsmall:n+m≤9223372036854775807:=by simp only[maxLen]at h63;omega
 have hlen:(xs++news).length=(n+m) * i.size:=by rw[List.length_append,hown.1,hl,Nat.add_mul]
 have grown:∀ (old:Nat),old<n+m→∀ (row:Option Nat),
   (w.drew.alloc (.cells (xs.toArray++news.toArray++Builtin.zeroCells z.cells (grownCap w (n+m) old e - (n+m))) e)).ownsRow base e i.size
    (.slice (some ⟨w.heap.size,0,none⟩) (n+m) (grownCap w (n+m) old e)) (n+m) (xs++news) ∧
   w.grownBy (w.drew.alloc (.cells (xs.toArray++news.toArray++Builtin.zeroCells z.cells (grownCap w (n+m) old e - (n+m))) e)) row:=by
  intro old ho row;have hge:=grownCap_ge w (n+m) old e;have hcm:grownCap w (n+m) old e≤maxLen:=grownCap_le_maxLen w (n+m) old e h63;refine⟨⟨hlen,.inr ⟨w.heap.size,_,_,rfl,hbase,heap_alloc_new w.drew _,hge,hcm,?_,?_⟩⟩,⟨rfl,rfl,rfl,by simp,fun k hk _=>heap_alloc_old w.drew _ k hk⟩⟩
  ·simp only[Array.size_append,List.size_toArray,size_zeroCells,hzs,hown.1,hl,← Nat.add_mul]
   congr 1
   omega
  ·simp only[Array.toList_append,List.append_assoc];rw[← List.append_assoc,← hlen];exact List.take_left
 rcases hown.2 with ⟨rfl,rfl⟩|⟨g,cap,cur,rfl,hbg,hg,hnc,hcm,hcs,htake⟩
 ·have hx:xs=[]:=List.eq_nil_of_length_eq_zero (by simpa using hown.1)
  subst hx;have hr:=run_append_nil (P:=P) w t ty e i z ht hi hz a m c news hl hnews (by omega) (by omega) (by have hb:=hbytes;simp only[Nat.zero_add]at hb;omega)
  have hgr:=grown 0 (by omega) none
  simp only[Nat.zero_add,List.nil_append,Array.empty_append]at hgr ⊢;exact⟨_,_,hr,hgr.1,.inr ⟨⟨_,_,rfl⟩,hgr.2⟩⟩
 ·by_cases hroom:n+m≤cap
  ·have hfit:n * i.size+news.length≤cur.size:=by rw[hl,hcs,← Nat.add_mul];exact Nat.mul_le_mul_right _ hroom
   have hr:=run_append_room (P:=P) w t ty e i ht hi g n cap cur hg a m c news hl hnews h1 hroom hfit;refine⟨_,_,hr,⟨hlen,.inr ⟨g,cap,_,rfl,hbg,setRow_heap w g cur _ e _ hg,hroom,hcm,?_,?_⟩⟩,.inl ⟨g,n,n+m,cap,rfl,rfl,by omega,⟨rfl,rfl,rfl,by simp,fun k _ hk=>setRow_other w g k _ (fun e=>hk (by rw[e]))⟩⟩⟩
   ·simp only[List.size_toArray,List.length_append,List.length_take,List.length_drop,Array.length_toList];omega
   ·rw[htake,← hlen];exact List.take_left
  ·have holds:∀ j u,xs[j]?=some u→w.cell? ((⟨g,0,none⟩:Addr).add j)=some u:=hown.cells (g:=g) rfl;have hr:=run_append_grow (P:=P) w t ty e i z ht hi hz ⟨g,0,none⟩ n cap xs hown.1 holds a m c news hl hnews (by omega) (by omega) (growslice_fits (by omega) hbytes)
   have hgr:=grown cap (by omega) none
   exact⟨_,_,hr,hgr.1,.inr ⟨⟨_,_,rfl⟩,hgr.2⟩⟩
theorem zCh {P:Program} (w:World) {ops:Array Oper} {rest:List Oper} {o:Oper} {a:Act} {Q:Exit→Act→World→Prop}
  (hg:o.guard=none) (s x:Operand) (t:TypeId) (hop:o.op=Op.call {callee:=Callee.builtin Builtin.append,args:=#[s,x],argTypes:=#[t,t]})
  (base:Nat) (e:TypeId) (i:TypeInfo) (z:Value) (size bytes:Nat) (h1:P.underlying t=some (.slice e)) (h2:P.info? e=some i) (h3:i.zero=some z) (h4:i.size=size) (h5:i.bytes=bytes) (h6:z.cells.size=size) (h7:0<size)
  (v:Value) (k:Nat) (xs:List Value) (hs:a.eval s=v) (hown:w.ownsRow base e size v k xs) (ad:Addr) (m c:Nat) (news:List Value) (hx:a.eval x=.slice (some ad) m c) (hn:news.length=m * size)
  (hc:∀ j u,news[j]?=some u→w.cell? (ad.add j)=some u) (h1c:∀ u ∈ news,u.oneCell'=true) (b1:k+m≤maxLen) (b2:(k+m) * bytes≤140737488355328) (b3:base≤w.heap.size) (hm:0<m)
  (hK:∀ v' w',w'.ownsRow base e size v' (k+m) (xs++news)→Grow w w' v v'→wpList P ops Q rest (a.put o.dst v') w') :
  wpList P ops Q (o::rest) a w:=by
 refine wpList_plain hg fun K hK'=>?_
 obtain⟨v',w',hr,r1,r2⟩:=zHk (P:=P) w base t o.type e i z size bytes h1 h2 h3 h4 h5 h6 h7 v k xs hown ad m c news hn hc h1c b1 b2 b3 hm;unfold Oper.wp execOp;simp only[hop,resolve,invoke,builtin,Sem.run_bind,Sem.run_pure,Result.andThen_ok,List.map_toArray,List.map_cons,List.map_nil,hs,hx,hr];exact hK' _ _ (hK v' w' r1 r2)
structure Fam (e:TypeId) (sz base:Nat) (w:World) (K:Nat) (V U:Nat→Value) (N M:Nat→Nat) (X Y:Nat→List Value):Prop where
 v:∀ j,j<K→w.ownsRow base e sz (V j) (N j) (X j)
 u:∀ j,j<K→w.ownsRow base e sz (U j) (M j) (Y j)
 link:∀ j,j<K→∀ g n c m d,V j=.slice (some ⟨g,0,none⟩) n c→U j=.slice (some ⟨g,0,none⟩) m d→n≤m∧c=d
 sep:∀ i j,i<K→j<K→i≠j→∀ g,((V i).ownBlock=some g∨(U i).ownBlock=some g)→¬ ((V j).ownBlock=some g∨(U j).ownBlock=some g)
section
variable {e:TypeId} {sz base:Nat} {w:World} {K:Nat} {V U:Nat→Value} {N M:Nat→Nat} {X Y:Nat→List Value}
theorem Fam.reset (h:Fam e sz base w K V U N M X Y):Fam e sz base w K V V N N X X :=
 ⟨h.v,h.v,fun j _ g n c m d h1 h2=>by rw[h1]at h2;cases h2;exact⟨Nat.le_refl _,rfl⟩,fun i j hi hj hij g h1 h2=>h.sep i j hi hj hij g (.inl (h1.elim id id)) (.inl (h2.elim id id))⟩
theorem Fam.grown {w':World} {row:Option Nat} (h:Fam e sz base w K V U N M X Y) (hg:w.grownBy w' row) (hr:∀ g,row=some g→∀ j,j<K→(V j).ownBlock≠some g∧(U j).ownBlock≠some g):Fam e sz base w' K V U N M X Y :=
 ⟨fun j hj=>zBn (h.v j hj) hg (fun g e=>(hr g e j hj).1),fun j hj=>zBn (h.u j hj) hg (fun g e=>(hr g e j hj).2),h.link,h.sep⟩
theorem Fam.below {w':World} (h:Fam e sz base w K V U N M X Y) (hb:Below w.heap.size w w'):Fam e sz base w' K V U N M X Y :=
 ⟨fun j hj=>zBv (h.v j hj) hb,fun j hj=>zBv (h.u j hj) hb,h.link,h.sep⟩
theorem Fam.other (h:Fam e sz base w K V U N M X Y) {g:Nat} {cur:Array Value} {e2:TypeId} {f:Nat × Nat} (hg:w.heap[g]?=some (.cells cur e2 f)) (hne:e≠e2):∀ j,j<K→(V j).ownBlock≠some g∧(U j).ownBlock≠some g:=by
 intro j hj;constructor
 ·intro hb;obtain⟨_,_,cur',h'⟩:=zA0 (h.v j hj) hb;rw[hg]at h';cases h';exact hne rfl
 ·intro hb;obtain⟨_,_,cur',h'⟩:=zA0 (h.u j hj) hb;rw[hg]at h';cases h';exact hne rfl
theorem Fam.append {w':World} {k:Nat} {v':Value} {news:List Value} {m:Nat} (h:Fam e sz base w K V U N M X Y) (hk:k<K) (ho:w'.ownsRow base e sz v' (M k+m) (Y k++news)) (hg:Grow w w' (U k) v') :
  Fam e sz base w' K V (fun j=>if j=k then v' else U j) N (fun j=>if j=k then M k+m else M j) X (fun j=>if j=k then Y k++news else Y j):=by
 have hany:=hg.any;have hoth:∀ j,j<K→j≠k→∀ g,(U k).ownBlock=some g→(V j).ownBlock≠some g∧(U j).ownBlock≠some g:=fun j hj hjk g hb =>
  ⟨fun h1=>h.sep k j hk hj (fun e=>hjk e.symm) g (.inr hb) (.inl h1),fun h1=>h.sep k j hk hj (fun e=>hjk e.symm) g (.inr hb) (.inr h1)⟩
 refine⟨fun j hj=>?_,fun j hj=>?_,fun j hj g n c m' d h1 h2=>?_,fun i j hi hj hij g h1 h2=>?_⟩
 ·by_cases hjk:j=k
  ·subst hjk;rcases hg with ⟨g,n,m',c,hu,rfl,hle,hgr⟩|⟨_,hgr⟩
   ·by_cases hvb:(V j).ownBlock=some g
    ·have hv:=h.v j hj;obtain⟨_,⟨hn,_⟩|⟨g',cap,cur,hv1,_⟩⟩:=id hv
     ·rw[hn]at hvb;cases hvb
     ·rw[hv1]at hvb;simp[Value.ownBlock]at hvb;subst hvb;obtain⟨h3,h4⟩:=h.link j hj _ _ _ _ _ hv1 hu;subst h4;have hu2:=h.u j hj;have hMn:M j=n:=by
       obtain⟨_,⟨e1,_⟩|⟨g1,c1,cur1,e1,_⟩⟩:=id hu2
       ·rw[hu]at e1;cases e1
       ·rw[hu]at e1;cases e1;rfl
      have hm':m'=M j+m:=by
       obtain⟨_,⟨e1,_⟩|⟨g1,c1,cur1,e1,_⟩⟩:=id ho
       ·cases e1
       ·cases e1;rfl
      subst hm';rw[hu,← hMn]at hu2;rw[hv1]at hv ⊢;have hx:=zO1 hv hu2 (by omega)
      have:=zMH ho (n:=N j) (by omega)
      have hlen:=hu2.1;have hle2:N j * sz≤(Y j).length:=by rw[hlen];exact Nat.mul_le_mul_right _ (by omega)
      rw[List.take_append_of_le_length hle2,← hx]at this;exact this
    ·exact zBn (h.v j hj) hgr (fun g' e=>by cases e;exact hvb)
   ·exact zBn (h.v j hj) hgr (fun g e=>by cases e)
  ·exact zBn (h.v j hj) hany (fun g e=>(hoth j hj hjk g e).1)
 ·by_cases hjk:j=k
  ·subst hjk;simpa using ho
  ·simp only[if_neg hjk];exact zBn (h.u j hj) hany (fun g e=>(hoth j hj hjk g e).2)
 ·by_cases hjk:j=k
  ·subst hjk;simp only[if_true]at h2;rcases hg with ⟨g0,n0,m0,c0,hu,hv',hle,_⟩|⟨⟨m1,c1,hv'⟩,_⟩
   ·rw[h2]at hv';cases hv'
    obtain⟨h3,h4⟩:=h.link j hj _ _ _ _ _ h1 hu;exact⟨by omega,h4⟩
   ·exfalso
    rw[h2]at hv';cases hv'
    have:=(zA0 (h.v j hj) (g:=w.heap.size) (by rw[h1];rfl)).1
    omega
  ·simp only[if_neg hjk]at h2;exact h.link j hj g n c m' d h1 h2
 ·-- what is new in row k's blocks: the same block,or a new one
  have hnew:∀ g,v'.ownBlock=some g→(U k).ownBlock=some g∨g=w.heap.size:=fun g hb=>by
   rcases hg with ⟨g0,n0,m0,c0,hu,hv',_,_⟩|⟨⟨m1,c1,hv'⟩,_⟩
   ·rw[hv']at hb;rw[hu];exact .inl hb
   ·rw[hv']at hb;simp[Value.ownBlock]at hb;exact .inr hb.symm
  have hold:∀ j,j<K→∀ g,((V j).ownBlock=some g∨(U j).ownBlock=some g)→g<w.heap.size:=fun j hj g hb=>by
   rcases hb with hb|hb
   ·exact(zA0 (h.v j hj) hb).1
   ·exact(zA0 (h.u j hj) hb).1
  by_cases hik:i=k
  ·subst hik;have hji:j≠i:=fun e=>hij e.symm
   simp only[if_true]at h1;simp only[if_neg hji]at h2;rcases h1 with h1|h1
   ·exact h.sep i j hi hj hij g (.inl h1) h2
   ·rcases hnew g h1 with h3|h3
    ·exact h.sep i j hi hj hij g (.inr h3) h2
    ·have:=hold j hj g h2;omega
  ·simp only[if_neg hik]at h1
   by_cases hjk:j=k
   ·subst hjk;simp only[if_true]at h2;rcases h2 with h2|h2
    ·exact h.sep i j hi hj hij g h1 (.inl h2)
    ·rcases hnew g h2 with h3|h3
     ·exact h.sep i j hi hj hij g h1 (.inr h3)
     ·have:=hold i hi g h1;omega
   ·simp only[if_neg hjk]at h2;exact h.sep i j hi hj hij g h1 h2
theorem Fam.store (h:Fam e sz base w K V V N N X X) {k g i c:Nat} (hk:k<K) (hv:V k=.slice (some ⟨g,0,none⟩) (N k) c) (x:Value) :
  Fam e sz base (w.setCell ⟨g,i,none⟩ x) K V V N N (fun j=>if j=k then (X k).set i x else X j) (fun j=>if j=k then (X k).set i x else X j):=by
 have key:∀ j,j<K→(w.setCell ⟨g,i,none⟩ x).ownsRow base e sz (V j) (N j) (if j=k then (X k).set i x else X j):=by
  intro j hj
  by_cases hjk:j=k
  ·subst hjk;have:=h.v j hj;rw[hv]at this ⊢
   simpa using zIk this (k:=i) x
  ·simp only[if_neg hjk];refine zBn (h.v j hj) (zBm w g i x) (fun g' e hb=>?_)
   cases e
   exact h.sep k j hk hj (fun e=>hjk e.symm) g (.inl (by rw[hv];rfl)) (.inl hb)
 exact⟨key,key,h.link,h.sep⟩
end
end
section
open Go.RowKit Go.Shelf
attribute [local go_sem] Oper.semAt_some
theorem zNr:(Tryz.prog.info? 3).map (fun i=>(i.zero,i.size,i.bytes))=some (some (.int .i64 0),1,8):=by kernel_rfl
def rowV (V:Nat→Value) (K:Nat):List Value:=(List.range K).map V
theorem zE4 {V:Nat→Value} {K k:Nat} (h:k<K):(rowV V K)[k]?=some (V k):=by simp[rowV,h]
def mks (k n:Nat):List Value:=(List.range n).map (fun i:Nat=>.int .i64 (zBM k i))
theorem zLH (k n:Nat):mks k (n+1)=mks k n++[.int .i64 (zBM k n)]:=by simp[mks,List.range_succ]
theorem zQc (k n:Nat):(mks k n).length=n:=by simp[mks]
theorem zKN {k n i:Nat} (h:i<n):(mks k n)[i]?=some (.int .i64 (zBM k i)):=by simp[mks,h]
theorem zLA {k n m:Nat} (h:n≤m):(mks k m).take n=mks k n:=by
 apply List.ext_getElem
 ·simp[mks];omega
 ·intro i h1 h2;simp[mks]
theorem zCE {w:World} {base:Nat} {e:TypeId} {s:Nat} {v:Value} {n:Nat} {xs:List Value} (h:w.ownsRow base e s v n xs):∃ p c,v=.slice p n c:=by
 rcases h.2 with ⟨h1,h'⟩|⟨g,cap,cur,h1,_⟩
 ·exact⟨none,0,by rw[h1,h']⟩
 ·exact⟨_,_,h1⟩
theorem zDU {w:World} {base:Nat} {e:TypeId} {s:Nat} {v:Value} {n:Nat} {xs:List Value} (h:w.ownsRow base e s v n xs) (hn:0<n):∃ g c,v=.slice (some ⟨g,0,none⟩) n c∧base≤g∧g<w.heap.size:=by
 rcases h.2 with ⟨h,h'⟩|⟨g,cap,cur,h,hb,h2,_⟩
 ·omega
 ·exact⟨g,cap,h,hb,(Array.getElem?_eq_some_iff.1 h2).1⟩
theorem zNQ {w:World} {base base':Nat} {e e2:TypeId} {s s2:Nat} {v v2:Value} {n n2:Nat} {xs ys:List Value} (h:w.ownsRow base e s v n xs) (h2:w.ownsRow base' e2 s2 v2 n2 ys) (hne:e≠e2) {g:Nat} (hb:v.ownBlock=some g):v2.ownBlock≠some g:=by
 intro hb2;obtain⟨_,_,c1,e1⟩:=zA0 h hb;obtain⟨_,_,c2,e2'⟩:=zA0 h2 hb2;rw[e1]at e2';cases e2';exact hne rfl
theorem Fam.congr {e:TypeId} {sz base:Nat} {w:World} {K:Nat} {V U U':Nat→Value} {N M M':Nat→Nat} {X Y X' Y':Nat→List Value} (h:Fam e sz base w K V U N M X Y) (h1:∀ j,j<K→U' j=U j) (h2:∀ j,j<K→M' j=M j)
  (h3:∀ j,j<K→X' j=X j) (h4:∀ j,j<K→Y' j=Y j):Fam e sz base w K V U' N M' X' Y' :=
 ⟨fun j hj=>by rw[h3 j hj];exact h.v j hj,fun j hj=>by rw[h1 j hj,h2 j hj,h4 j hj];exact h.u j hj,fun j hj g n c m d a b=>h.link j hj g n c m d a (by rw[← h1 j hj];exact b),
  fun i j hi hj hij g a b=>h.sep i j hi hj hij g (by rw[← h1 i hi];exact a) (by rw[← h1 j hj];exact b)⟩
def Mine (K:Nat) (V:Nat→Value) (b:Nat):Prop:=∃ j,j<K∧(V j).ownBlock=some b
theorem KeepBut.grown' {M:Nat→Prop} {B:Nat} {X W W':World} {row:Option Nat} (h:KeepBut M B X W) (hg:W.grownBy W' row) (hB:B≤W.heap.size) (hr:∀ g,row=some g→M g∨B≤g):KeepBut M B X W' :=
 h.trans ⟨hg.os,hg.tape,hg.output,hg.size,fun k h1 h2=>hg.block k (by omega) (fun e=>by rcases hr k e.symm with h|h;exact h2 h;omega)⟩
structure FSt (base:Nat) (w0:World) (lsv:Value) (K:Nat) (V:Nat→Value) (N:Nat→Nat) (X:Nat→List Value) (w:World):Prop where
 ls:w.ownsRow base 27 1 lsv K (rowV V K)
 fam:Fam 3 1 base w K V V N N X X
 below:KeepBut (Mine K V) w0.heap.size w0 w
 size0:base≤w0.heap.size
theorem FSt.size {base:Nat} {w0:World} {lsv:Value} {K:Nat} {V:Nat→Value} {N:Nat→Nat} {X:Nat→List Value} {w:World} (h:FSt base w0 lsv K V N X w):base≤w.heap.size:=Nat.le_trans h.size0 h.below.size
theorem FSt.up {base:Nat} {w0:World} {lsv:Value} {K:Nat} {V:Nat→Value} {N:Nat→Nat} {X:Nat→List Value} {w w':World} (h:FSt base w0 lsv K V N X w) (hb:Below w.heap.size w w'):FSt base w0 lsv K V N X w' :=
 ⟨zBv h.ls hb,h.fam.below hb,h.below.trans (KeepBut.of_below (hb.mono h.below.size)),h.size0⟩
theorem FSt.store {base:Nat} {w0:World} {lsv:Value} {K:Nat} {V:Nat→Value} {N:Nat→Nat} {X:Nat→List Value} {w:World} (h:FSt base w0 lsv K V N X w) {k g i c:Nat} (hk:k<K) (hv:V k=.slice (some ⟨g,0,none⟩) (N k) c) (x:Value) :
  FSt base w0 lsv K V N (fun j=>if j=k then (X k).set i x else X j) (w.setCell ⟨g,i,none⟩ x):=by
 have hb:(V k).ownBlock=some g:=by rw[hv];rfl
 refine⟨zBn h.ls (zBm w g i x) (fun g' e=>by cases e;exact zNQ (h.fam.v k hk) h.ls (by decide) hb),h.fam.store hk hv x,?_,h.size0⟩
 exact h.below.grown' (zBm w g i x) h.below.size (fun g' e=>by cases e;exact .inl ⟨k,hk,hb⟩)
theorem take_set {L:List Value} {i k:Nat} {x:Value} (h:L.take i=mks k i) (hi:i<L.length) (hx:x=.int .i64 (zBM k i)):(L.set i x).take (i+1)=mks k (i+1):=by
 subst hx;rw[zLH,← h];rw[List.take_succ_eq_append_getElem (by simpa using hi),List.take_set_of_le (Nat.le_refl _)]
 simp
structure GSt (base:Nat) (w0:World) (lsv gsv:Value) (K:Nat) (V U:Nat→Value) (N M:Nat→Nat) (Y:Nat→List Value) (gsl:List Value) (w:World):Prop where
 ls:w.ownsRow base 27 1 lsv K (rowV V K)
 gs:w.ownsRow base 27 1 gsv K gsl
 fam:Fam 3 1 base w K V U N M (fun j=>mks j (N j)) Y
 ne:∀ g,gsv.ownBlock=some g→lsv.ownBlock≠some g
 below:KeepBut (Mine K V) w0.heap.size w0 w
 size0:base≤w0.heap.size
 ub:∀ j,j<K→∀ g,(U j).ownBlock=some g→Mine K V g∨w0.heap.size≤g
 gb:∀ g,gsv.ownBlock=some g→w0.heap.size≤g
section
variable {base:Nat} {w0:World} {lsv gsv:Value} {K:Nat} {V U:Nat→Value} {N M:Nat→Nat} {Y:Nat→List Value} {gsl:List Value} {w w':World}
theorem GSt.up (h:GSt base w0 lsv gsv K V U N M Y gsl w) (hb:Below w.heap.size w w'):GSt base w0 lsv gsv K V U N M Y gsl w' :=
 ⟨zBv h.ls hb,zBv h.gs hb,h.fam.below hb,h.ne,h.below.trans (KeepBut.of_below (hb.mono h.below.size)),h.size0,h.ub,h.gb⟩
theorem GSt.size (h:GSt base w0 lsv gsv K V U N M Y gsl w):base≤w.heap.size:=Nat.le_trans h.size0 h.below.size
theorem GSt.append {k:Nat} {v':Value} {news:List Value} {m:Nat} (h:GSt base w0 lsv gsv K V U N M Y gsl w) (hk:k<K) (ho:w'.ownsRow base 3 1 v' (M k+m) (Y k++news)) (hg:Grow w w' (U k) v') :
  GSt base w0 lsv gsv K V (fun j=>if j=k then v' else U j) N (fun j=>if j=k then M k+m else M j) (fun j=>if j=k then Y k++news else Y j) gsl w':=by
 have hany:=hg.any;refine⟨zBn h.ls hany (fun g e=>zNQ (h.fam.u k hk) h.ls (by decide) e),zBn h.gs hany (fun g e=>zNQ (h.fam.u k hk) h.gs (by decide) e),h.fam.append hk ho hg,h.ne,h.below.grown' hany h.below.size (fun g e=>h.ub k hk g e),h.size0,fun j hj g hb=>?_,h.gb⟩
 by_cases hjk:j=k
 ·subst hjk;simp only[if_true]at hb;rcases hg with ⟨g0,n0,m0,c0,hu,hv',_,_⟩|⟨⟨m1,c1,hv'⟩,_⟩
  ·exact h.ub j hj g (by rw[hu];rw[hv']at hb;exact hb)
  ·rw[hv']at hb;simp[Value.ownBlock]at hb;exact .inr (by have:=h.below.size;omega)
 ·simp only[if_neg hjk]at hb;exact h.ub j hj g hb
theorem GSt.store {k gg c:Nat} (h:GSt base w0 lsv gsv K V U N M Y gsl w) (hv:gsv=.slice (some ⟨gg,0,none⟩) K c) (x:Value) :
  GSt base w0 lsv gsv K V U N M Y (gsl.set k x) (w.setCell ⟨gg,k,none⟩ x):=by
 have hb:gsv.ownBlock=some gg:=by rw[hv];rfl
 obtain⟨_,hbg,cur,hcur⟩:=zA0 h.gs hb;have hgs:=h.gs;rw[hv]at hgs;have hgr:=zBm w gg k x;refine⟨zBn h.ls hgr (fun g e=>by cases e;exact h.ne gg hb),by rw[hv];exact zIk hgs x,h.fam.grown hgr (fun g e=>by cases e;exact h.fam.other hcur (by decide)),h.ne,?_,h.size0,h.ub,h.gb⟩
 exact h.below.grown' hgr h.below.size (fun g e=>by cases e;exact .inr (h.gb gg hb))
theorem GSt.reset (h:GSt base w0 lsv gsv K V U N M Y gsl w):GSt base w0 lsv gsv K V V N N (fun j=>mks j (N j)) gsl w :=
 ⟨h.ls,h.gs,h.fam.reset,h.ne,h.below,h.size0,fun j hj _ hb=>.inl ⟨j,hj,hb⟩,h.gb⟩
end
def Done (U:Nat→Value) (N M:Nat→Nat) (Y:Nat→List Value) (gsl:List Value) (j:Nat):Prop:=gsl[j]?=some (U j)∧M j=N j+64∧(Y j).take (N j)=mks j (N j)
def Full (N:Nat→Nat) (Y:Nat→List Value) (j:Nat):Prop:=Y j=mks j (N j+64)
def zFD (V U:Nat→Value) (N M:Nat→Nat) (Y:Nat→List Value) (j:Nat):Prop:=U j=V j∧M j=N j∧Y j=mks j (N j)
theorem zPj {U:Nat→Value} {N M:Nat→Nat} {Y:Nat→List Value} {gsl:List Value} {j k:Nat} {v:Value} {m:Nat} {y:List Value} (h:Done U N M Y gsl j∧Full N Y j) (hjk:j≠k) :
  Done (fun j=>if j=k then v else U j) N (fun j=>if j=k then m else M j) (fun j=>if j=k then y else Y j) gsl j∧Full N (fun j=>if j=k then y else Y j) j:=by simpa [Done,Full,hjk] using h
theorem zND {U:Nat→Value} {N M:Nat→Nat} {Y:Nat→List Value} {gsl:List Value} {j k:Nat} {v:Value} {m:Nat} {y:List Value} (h:Done U N M Y gsl j) (hjk:j≠k) :
  Done (fun j=>if j=k then v else U j) N (fun j=>if j=k then m else M j) (fun j=>if j=k then y else Y j) gsl j:=by simpa [Done,hjk] using h
theorem zH7 {V U:Nat→Value} {N M:Nat→Nat} {Y:Nat→List Value} {j k:Nat} {v:Value} {m:Nat} {y:List Value} (h:zFD V U N M Y j) (hjk:j≠k) :
  zFD V (fun j=>if j=k then v else U j) N (fun j=>if j=k then m else M j) (fun j=>if j=k then y else Y j) j:=by simpa [zFD,hjk] using h
theorem zK1 {U:Nat→Value} {N M:Nat→Nat} {Y:Nat→List Value} {gsl:List Value} {j k:Nat} {v:Value} (h:Done U N M Y gsl j) (hjk:j≠k):Done U N M Y (gsl.set k v) j :=
 ⟨by rw[List.getElem?_set_ne (fun e=>hjk e.symm)];exact h.1,h.2⟩
theorem zQQ {U:Nat→Value} {N M:Nat→Nat} {Y:Nat→List Value} {gsl:List Value} {k:Nat} (hk:k<gsl.length) (hm:M k=N k+64) (hy:(Y k).take (N k)=mks k (N k)):Done U N M Y (gsl.set k (U k)) k :=
 ⟨by simp[hk],hm,hy⟩
theorem zH5 {base:Nat} {w0 w:World} {lsv gsv:Value} {K:Nat} {V U:Nat→Value} {N M:Nat→Nat} {Y:Nat→List Value} {gsl:List Value} (h:GSt base w0 lsv gsv K V U N M Y gsl w) {k:Nat} (hk:k<K) (hm:M k=N k+64) :
  ∃ gu cu,U k=.slice (some ⟨gu,0,none⟩) (N k+64) cu∧gu<w.heap.size∧∀ i x,i<N k+64→(Y k)[i]?=some x→w.cell? ⟨gu,i,none⟩=some x:=by
 have ho:=h.fam.u k hk;rw[hm]at ho;obtain⟨gu,cu,e,_,h2⟩:=zDU ho (by omega)
 refine⟨gu,cu,e,h2,fun i x hi hx=>?_⟩
 rw[e]at ho;rw[zBW ho (by omega),hx]
theorem zJL {base:Nat} {w0 w:World} {lsv gsv:Value} {K:Nat} {V U:Nat→Value} {N M:Nat→Nat} {Y:Nat→List Value} {gsl:List Value} (h:GSt base w0 lsv gsv K V U N M Y gsl w) {k:Nat} (hk:k<K) (hn:0<N k) :
  ∃ gv cv,V k=.slice (some ⟨gv,0,none⟩) (N k) cv∧gv<w.heap.size∧∀ i,i<N k→w.cell? ⟨gv,i,none⟩=some (.int .i64 (zBM k i)):=by
 have ho:=h.fam.v k hk;obtain⟨gv,cv,e,_,h2⟩:=zDU ho hn;refine⟨gv,cv,e,h2,fun i hi=>?_⟩
 rw[e]at ho;rw[zBW ho (by omega),zKN hi]
theorem zJJ:(Tryz.prog.info? 27).map (fun i=>(i.zero,i.size,i.bytes))=some (some (.slice none 0 0),1,24):=by kernel_rfl
theorem zJ1 (lsv:Value) (K base:Nat) (V:Nat→Value) (N:Nat→Nat) (X:Nat→List Value) (w:World) (hK:K≤1000) (hN:∀ j,j<K→N j≤4194304) (hst:FSt base w lsv K V N X w) :
  Calls Tryz.prog 43 #[lsv] w fun e w'=>e=.returned (.bool true)∧∃ X',FSt base w lsv K V N X' w':=by
 obtain⟨pl,cl,rfl⟩:=zCE hst.ls;have HST:=Lib.hid hst;clear hst;have HN:=Lib.hid hN;clear hN;obtain⟨i0,hi0,hz0,hz1,hz2⟩:=info_parts zNr;obtain⟨i3,hi3,hy0,hy1,hy2⟩:=info_parts zJJ
 go_enter Tryz.func43,Tryz.ntmps43
 go_wp2_with fail
 go_loopw [3,4] (fun n _ wr=>∃ k:Nat,k≤K∧n=.int .i64 k∧Hid (∃ X,FSt base w (.slice pl K cl) K V N X wr∧∀ j,j<k→X j=mks j (N j))) (fun n _ _=>K - (intOf n).toNat)
 case atStart=>exact⟨0,by omega,rfl,X,HST.out,fun j h=>by omega⟩
 case round =>
  clear HST;obtain⟨k,hk,rfl,G⟩:=hrel
  by_cases hlt:k<K
  ·obtain⟨wo,rfl⟩:∃ wo:World,wo=wr:=⟨_,rfl⟩;obtain⟨gl,rfl⟩:∃ gl,pl=some ⟨gl,0,none⟩:=by
    obtain⟨X,h,_⟩:=G.out;obtain⟨g,c,e,_⟩:=zDU h.ls (by omega)
    injection e with e1 _ _;exact⟨g,e1⟩
   obtain⟨pk,ck,hV⟩:∃ pk ck,V k=.slice pk (N k) ck:=by obtain⟨X,h,_⟩:=G.out;exact zCE (h.fam.v k hlt)
   have HV:=Lib.hid hV;clear hV;have hNk:=HN.out k hlt;obtain⟨nk,hnk⟩:∃ nk,N k=nk:=⟨_,rfl⟩;rw[hnk]at hNk HV;have HNK:=Lib.hid hnk;clear hnk
   go_wp2_with fail
   go_loopw [4] (fun n wr=>∃ i:Nat,i≤nk∧n=.int .i64 i∧Hid (∃ X,FSt base w (.slice (some ⟨gl,0,none⟩) K cl) K V N X wr∧(∀ j,j<k→X j=mks j (N j))∧(X k).take i=mks k i)) (fun n _=>nk - (intOf n).toNat)
   case atStart=>obtain⟨X,h1,h2⟩:=G.out;exact⟨0,by omega,rfl,X,h1,h2,by simp[mks]⟩
   case round =>
    clear G;obtain⟨i,hi,rfl,G⟩:=hrel;obtain⟨X,G⟩:∃ X,Hid (FSt base w (.slice (some ⟨gl,0,none⟩) K cl) K V N X wr∧(∀ j,j<k→X j=mks j (N j))∧(X k).take i=mks k i):=by obtain⟨X,h⟩:=G.out;exact⟨X,h⟩
    have hls:wr.cell? ⟨gl,k,none⟩=some (.slice pk nk ck):=by
     rw[zBW G.out.1.ls (by omega),zE4 hlt,HV.out]
    have hglt:gl<wr.heap.size:=(zA0 G.out.1.ls rfl).1
    go_upto_region 5 with fail
    by_cases hil:i<nk
    ·--
     refine ws_ 7 [fun v _=>v=.int .i64 (i:Int),fun v _=>v=.slice (some ⟨gl,0,none⟩) K cl,fun v _=>v=.int .i64 (k:Int),fun v _=>v=.pointer (some ⟨gl,k,none⟩),fun v _=>v=.slice pk nk ck,fun v _=>v=.int .i64 ((nk:Nat):Int),fun v _=>v=.bool true] ?ob ?en
     case ob =>
      refine⟨?_,?_,?_,?_,?_,?_,?_,trivial⟩<;>intro A W h
      ·exact zAB rfl rfl (h.f 4)
      ·exact zAB rfl rfl (h.f 0)
      ·exact zAB rfl rfl (h.f 3)
      ·exact zAo (sz:=1) Tryz.underlying34 (fun w=>by kernel_rfl) rfl rfl (h.d 1 23) (h.d 2 24) (by omega) (by omega)
      ·(have e25:A.eval (.tmp 25)=.pointer (some ⟨gl,k,none⟩):=h.d 3 25;refine zAA rfl ?_;simp only[execOp,e25];(have q:=(h.below.cell (p:=⟨gl,k,none⟩) hglt).trans hls;simp[go_sem,q]))
      ·exact zBb Tryz.underlying27 rfl rfl (h.d 4 26) (by decide)
      ·(have e22:A.eval (.tmp 22)=.int .i64 (i:Int):=h.d 0 22;have e27:A.eval (.tmp 27)=.int .i64 ((nk:Nat):Int):=h.d 5 27;refine zAA rfl ?_;simp only[execOp,e22,e27];(simp[go_sem]<;>omega))
     case en =>
      intro vals W hbw hv _;simp only[fa,Nat.reduceAdd];rw[e_ hv 0,e_ hv 1,e_ hv 2,e_ hv 3,e_ hv 4,e_ hv 5,e_ hv 6];clear hv
      try simp only[pl]
      have G1:=Lib.hid (G.out.1.up hbw);have hls1:=(hbw.cell (p:=⟨gl,k,none⟩) hglt).trans hls;have hgl1:gl<W.heap.size:=(zA0 G1.out.ls rfl).1;clear hbw hls hglt;obtain⟨g,hpk,hg1⟩:∃ g,pk=some ⟨g,0,none⟩∧g<W.heap.size:=by
       have hv:=G1.out.fam.v k hlt;obtain⟨g,c,e,_,h2⟩:=zDU hv (by rw[HNK.out];omega)
       rw[HV.out]at e;injection e with e1 _ _;exact⟨g,e1,h2⟩
      subst hpk
      go_upto_region 7 with fail
      refine wr_ 9 [fun v _=>v=.slice (some ⟨gl,0,none⟩) K cl,fun v _=>v=.int .i64 (k:Int),fun v _=>v=.pointer (some ⟨gl,k,none⟩),fun v _=>v=.slice (some ⟨g,0,none⟩) nk ck,fun v _=>v=.int .i64 (i:Int),fun v _=>v=.int .i64 (k:Int),fun v _=>v=.int .i64 (i:Int),fun v _=>v=.int .i64 (zBM k i),fun v _=>v=.pointer (some ⟨g,i,none⟩)] ?ob ?en
      case ob =>
       refine⟨?_,?_,?_,?_,?_,?_,?_,?_,?_,trivial⟩<;>intro A W h
       ·exact zAB rfl rfl (h.f 0)
       ·exact zAB rfl rfl (h.f 3)
       ·exact zAo (sz:=1) Tryz.underlying34 (fun w=>by kernel_rfl) rfl rfl (h.d 0 31) (h.d 1 32) (by omega) (by omega)
       ·(have e33:A.eval (.tmp 33)=.pointer (some ⟨gl,k,none⟩):=h.d 2 33;refine zAA rfl ?_;simp only[execOp,e33];(have q:=(h.below.cell (p:=⟨gl,k,none⟩) hgl1).trans hls1;simp[go_sem,q]))
       ·exact zAB rfl rfl (h.f 4)
       ·exact zAB rfl rfl (h.f 3)
       ·exact zAB rfl rfl (h.f 4)
       ·exact zAm rfl rfl (enters_of Tryz.func30 (by kernel_rfl) rfl) (zBz ⟨(h.d 5 36),(h.d 6 37)⟩) ((zCo k i W (by omega) (by omega)).mono fun _ _ h=>⟨h.1,h.2 ▸ Below.refl _ _⟩)
       ·exact zAo (sz:=1) Tryz.underlying27 (fun w=>by kernel_rfl) rfl rfl (h.d 3 34) (h.d 4 35) (by omega) (by omega)
      case en =>
       intro vals W2 hbw hv _;simp only[fa,Nat.reduceAdd];rw[e_ hv 0,e_ hv 1,e_ hv 2,e_ hv 3,e_ hv 4,e_ hv 5,e_ hv 6,e_ hv 7,e_ hv 8];clear hv
       try simp only[pl]
       have G2:=Lib.hid (G1.out.up hbw);have hv2:=G2.out.fam.v k hlt;rw[HV.out,HNK.out]at hv2;obtain⟨z,hz⟩:∃ z,W2.cell? ⟨g,i,none⟩=some z:=by have:=zBW hv2 (k:=i) (by omega);rw[this];exact⟨_,List.getElem?_eq_getElem (by have:=hv2.1;omega)⟩
       have hf:=zEA hv2 i;have hl2:=hv2.1;have G3:=Lib.hid (G2.out.store hlt (i:=i) (by rw[HV.out,HNK.out]) (.int .i64 (zBM k i)))
       have hl3:i<(X k).length:=by omega
       clear hv2 hl2 hbw G1 hls1
       go_wp2_with fail
       go_roundw
       case rel=>exact⟨i+1,by omega,by go_num,_,G3.out,fun j hj=>by rw[if_neg (by omega)];exact G.out.2.1 j hj,by simp only[if_true];exact take_set G.out.2.2 hl3 rfl⟩
       case measure=>simp[intOf];omega
    ·--
     refine ws_ 7 [fun v _=>v=.int .i64 (i:Int),fun v _=>v=.slice (some ⟨gl,0,none⟩) K cl,fun v _=>v=.int .i64 (k:Int),fun v _=>v=.pointer (some ⟨gl,k,none⟩),fun v _=>v=.slice pk nk ck,fun v _=>v=.int .i64 ((nk:Nat):Int),fun v _=>v=.bool false] ?ob ?en
     case ob =>
      refine⟨?_,?_,?_,?_,?_,?_,?_,trivial⟩<;>intro A W h
      ·exact zAB rfl rfl (h.f 4)
      ·exact zAB rfl rfl (h.f 0)
      ·exact zAB rfl rfl (h.f 3)
      ·exact zAo (sz:=1) Tryz.underlying34 (fun w=>by kernel_rfl) rfl rfl (h.d 1 23) (h.d 2 24) (by omega) (by omega)
      ·(have e25:A.eval (.tmp 25)=.pointer (some ⟨gl,k,none⟩):=h.d 3 25;refine zAA rfl ?_;simp only[execOp,e25];(have q:=(h.below.cell (p:=⟨gl,k,none⟩) hglt).trans hls;simp[go_sem,q]))
      ·exact zBb Tryz.underlying27 rfl rfl (h.d 4 26) (by decide)
      ·(have e22:A.eval (.tmp 22)=.int .i64 (i:Int):=h.d 0 22;have e27:A.eval (.tmp 27)=.int .i64 ((nk:Nat):Int):=h.d 5 27;refine zAA rfl ?_;simp only[execOp,e22,e27];(simp[go_sem]<;>omega))
     case en =>
      intro vals W hbw hv _;simp only[fa,Nat.reduceAdd];rw[e_ hv 0,e_ hv 1,e_ hv 2,e_ hv 3,e_ hv 4,e_ hv 5,e_ hv 6];clear hv
      try simp only[pl]
      have G1:=Lib.hid (G.out.1.up hbw);have hxk:X k=mks k (N k):=by have h1:=G.out.2.2;have h2:=(G.out.1.fam.v k hlt).1;have h3:i=N k:=(by rw[HNK.out];omega);rw[List.take_of_length_le (by omega)]at h1;rw[h1,h3]
      have HXK:=Lib.hid hxk;clear hxk;clear hbw hls hglt
      go_wp2_with fail
      go_roundw
      case rel=>exact⟨k+1,by omega,by go_num,X,G1.out,fun j hj=>by rcases Nat.lt_or_ge j k with h|h;exact G.out.2.1 j h;rw[show j=k from by omega];exact HXK.out⟩
      case measure=>simp[intOf];omega
  ·obtain rfl:K=k:=by omega
   obtain⟨X,hfs,hX⟩:=G.out;clear G;have hfam:=hfs.fam.congr (X':=fun j=>mks j (N j)) (Y':=fun j=>mks j (N j)) (U':=V) (M':=N) (fun _ _=>rfl) (fun _ _=>rfl) (fun j hj=>(hX j hj).symm) (fun j hj=>(hX j hj).symm)
   have F0:=Lib.hid (And.intro hfs.ls (And.intro hfam (And.intro hfs.below (And.intro hfs.size hfs.size0))));clear hfs hX hfam
   go_wp2_with (at_make;refine wpList_make_full _ rfl _ _ 34 rfl base 27 i3 (.slice none 0 0) 1 Tryz.underlying34 hi3 hy0 hy1 .i64 .i64 _ _ K rfl rfl rfl rfl (by rw[hy2];omega) (by unfold maxLen;omega) F0.out.2.2.2.1 ?_;intro w3 own3 grow3)
   have hgst:GSt base w (.slice pl K cl) (.slice (some ⟨wr.heap.size,0,none⟩) K K) K V V N N (fun j=>mks j (N j)) (madeCells (Value.slice none 0 0).cells (K * 1)).toList w3:=by
    have hb:Below wr.heap.size wr w3:=(Below.refl _ wr).grown grow3 (Nat.le_refl _) (fun k hk=>by cases hk)
    refine⟨zBv F0.out.1 hb,own3,F0.out.2.1.below hb,fun g h1 h2=>?_,F0.out.2.2.1.trans (KeepBut.of_below (hb.mono F0.out.2.2.1.size)),F0.out.2.2.2.2,fun j hj _ h1=>.inl ⟨j,hj,h1⟩,fun g h1=>by simp[Value.ownBlock]at h1;have:=F0.out.2.2.1.size;omega⟩
    have h3:=(zA0 F0.out.1 h2).1;simp[Value.ownBlock]at h1;omega
   generalize (madeCells (Value.slice none 0 0).cells (K * 1)).toList=gsl at hgst
   generalize wr.heap.size=gg at hgst ⊢
   have H0:=Lib.hid hgst;clear hgst own3 grow3 F0
   go_wp2_with fail
   go_loopw [6,7,8] (fun n _ _ wr=>∃ k:Nat,k≤K∧n=.int .i64 k∧Hid (∃ U M Y gsl,GSt base w (.slice pl K cl) (.slice (some ⟨gg,0,none⟩) K K) K V U N M Y gsl wr∧(∀ j,j<k→Done U N M Y gsl j∧Full N Y j)∧∀ j,k≤j→j<K→zFD V U N M Y j)) (fun n _ _ _=>K - (intOf n).toNat)
   case atStart=>exact⟨0,by omega,rfl,V,N,_,gsl,H0.out,fun j h=>by omega,fun j _ _=>⟨rfl,rfl,rfl⟩⟩
   case round =>
    clear H0;obtain⟨k,hk,rfl,G⟩:=hrel
    by_cases hlt:k<K
    ·obtain⟨wo,rfl⟩:∃ wo:World,wo=wr:=⟨_,rfl⟩;obtain⟨gl,rfl⟩:∃ gl,pl=some ⟨gl,0,none⟩:=by
      obtain⟨_,_,_,_,h,_⟩:=G.out;obtain⟨g,c,e,_⟩:=zDU h.ls (by omega)
      injection e with e1 _ _;exact⟨g,e1⟩
     obtain⟨pk,ck,hV⟩:∃ pk ck,V k=.slice pk (N k) ck:=by obtain⟨_,_,_,_,h,_⟩:=G.out;exact zCE (h.fam.v k hlt)
     have HV:=Lib.hid hV;clear hV;have hNk:=HN.out k hlt;obtain⟨nk,hnk⟩:∃ nk,N k=nk:=⟨_,rfl⟩;rw[hnk]at hNk HV;have HNK:=Lib.hid hnk;clear hnk;have hls:wo.cell? ⟨gl,k,none⟩=some (.slice pk nk ck):=by
      obtain⟨_,_,_,_,h,_⟩:=G.out;rw[zBW h.ls (by omega),zE4 hlt,HV.out]
     have hglt:gl<wo.heap.size:=by obtain⟨_,_,_,_,h,_⟩:=G.out;exact(zA0 h.ls rfl).1
     go_upto_region 12 with fail
     refine ws_ 5 [fun v _=>v=.slice (some ⟨gl,0,none⟩) K cl,fun v _=>v=.int .i64 (k:Int),fun v _=>v=.pointer (some ⟨gl,k,none⟩),fun v _=>v=.slice pk nk ck,fun v _=>v=.slice pk nk ck] ?ob ?en
     case ob =>
      refine⟨?_,?_,?_,?_,?_,trivial⟩<;>intro A W h
      ·exact zAB rfl rfl (h.f 0)
      ·exact zAB rfl rfl (h.f 6)
      ·exact zAo (sz:=1) Tryz.underlying34 (fun w=>by kernel_rfl) rfl rfl (h.d 0 49) (h.d 1 50) (by omega) (by omega)
      ·(have e51:A.eval (.tmp 51)=.pointer (some ⟨gl,k,none⟩):=h.d 2 51;refine zAA rfl ?_;simp only[execOp,e51];(have q:=(h.below.cell (p:=⟨gl,k,none⟩) hglt).trans hls;simp[go_sem,q]))
      ·exact zCB rfl rfl (h.d 3 52)
     case en =>
      intro vals W0 hbw hv _;simp only[fa,Nat.reduceAdd];rw[e_ hv 0,e_ hv 1,e_ hv 2,e_ hv 3,e_ hv 4];clear hv
      try simp only[pl]
      have G0:Hid (∃ U M Y gsl,GSt base w (.slice (some ⟨gl,0,none⟩) K cl) (.slice (some ⟨gg,0,none⟩) K K) K V U N M Y gsl W0∧(∀ j,j<k→Done U N M Y gsl j∧Full N Y j)∧(∀ j,k<j→j<K→zFD V U N M Y j)∧U k=.slice pk nk ck∧M k=nk+0∧Y k=mks k (nk+0)):=by
       obtain⟨U,M,Y,gsl,h1,h2,h3⟩:=G.out;obtain⟨a1,a2,a3⟩:=h3 k (Nat.le_refl _) hlt;exact⟨U,M,Y,gsl,h1.up hbw,h2,fun j hj hjK=>h3 j (by omega) hjK,a1.trans HV.out,a2.trans HNK.out,by rw[a3,HNK.out];rfl⟩
      clear G hbw hls hglt
      go_wp2_with fail
      go_loopw [7,8] (fun u n wr=>∃ i:Nat,i≤64∧n=.int .i64 i∧Hid (∃ U M Y gsl,GSt base w (.slice (some ⟨gl,0,none⟩) K cl) (.slice (some ⟨gg,0,none⟩) K K) K V U N M Y gsl wr∧(∀ j,j<k→Done U N M Y gsl j∧Full N Y j)∧(∀ j,k<j→j<K→zFD V U N M Y j)∧U k=u∧M k=nk+i∧Y k=mks k (nk+i))) (fun _ n _=>64 - (intOf n).toNat)
      case atStart=>exact⟨0,by omega,rfl,G0.out⟩
      case round =>
       clear G0;obtain⟨i,hi,rfl,G⟩:=hrel;obtain⟨U,M,Y,gsl,G⟩:∃ U M Y gsl,Hid (GSt base w (.slice (some ⟨gl,0,none⟩) K cl) (.slice (some ⟨gg,0,none⟩) K K) K V U N M Y gsl wr∧(∀ j,j<k→Done U N M Y gsl j∧Full N Y j)∧(∀ j,k<j→j<K→zFD V U N M Y j)∧U k=u7∧M k=nk+i∧Y k=mks k (nk+i)):=by obtain⟨U,M,Y,gsl,h⟩:=G.out;exact⟨U,M,Y,gsl,h⟩
       have hls:wr.cell? ⟨gl,k,none⟩=some (.slice pk nk ck):=by
        rw[zBW G.out.1.ls (by omega),zE4 hlt,HV.out]
       have hglt:gl<wr.heap.size:=(zA0 G.out.1.ls rfl).1
       by_cases hil:i<64
       ·go_upto_region 16 with fail
        refine zCM 11 [fun v _=>v=u7,fun v _=>v=.int .i64 (k:Int),fun v _=>v=.slice (some ⟨gl,0,none⟩) K cl,fun v _=>v=.int .i64 (k:Int),fun v _=>v=.pointer (some ⟨gl,k,none⟩),fun v _=>v=.slice pk nk ck,fun v _=>v=.int .i64 ((nk:Nat):Int),fun v _=>v=.int .i64 (i:Int),fun v _=>v=.int .i64 ((nk+i:Nat):Int),fun v _=>v=.int .i64 (zBM k ((nk+i:Nat):Int)),OneV 3 (.int .i64 (zBM k ((nk+i:Nat):Int)))] (fun _=>false) (by kernel_rfl) (by kernel_rfl) (by repeat (first|exact trivial|refine⟨zAF _,?_⟩|refine⟨zG9 _ _,?_⟩)) (fun _ _ h=>by cases h) ?ob ?en
        case ob =>
         refine⟨?_,?_,?_,?_,?_,?_,?_,?_,?_,?_,?_,trivial⟩<;>intro A W h
         ·exact zAB rfl rfl (h.f 7)
         ·exact zAB rfl rfl (h.f 6)
         ·exact zAB rfl rfl (h.f 0)
         ·exact zAB rfl rfl (h.f 6)
         ·exact zAo (sz:=1) Tryz.underlying34 (fun w=>by kernel_rfl) rfl rfl (h.d 2 59) (h.d 3 60) (by omega) (by omega)
         ·(have e61:A.eval (.tmp 61)=.pointer (some ⟨gl,k,none⟩):=h.d 4 61;refine zAA rfl ?_;simp only[execOp,e61];(have q:=(h.below.cell (p:=⟨gl,k,none⟩) hglt).trans hls;simp[go_sem,q]))
         ·exact zBb Tryz.underlying27 rfl rfl (h.d 5 62) (by decide)
         ·exact zAB rfl rfl (h.f 8)
         ·(have e63:A.eval (.tmp 63)=.int .i64 ((nk:Nat):Int):=h.d 6 63;have e64:A.eval (.tmp 64)=.int .i64 (i:Int):=h.d 7 64;refine zAA rfl ?_;simp only[execOp,e63,e64];(simp[go_sem]<;>(rw[IntKind.wrap_i64];omega)))
         ·exact zAm rfl rfl (enters_of Tryz.func30 (by kernel_rfl) rfl) (zBz ⟨(h.d 1 58),(h.d 8 65)⟩) ((zCo k ((nk+i:Nat):Int) W (by omega) (by omega)).mono fun _ _ h=>⟨h.1,h.2 ▸ Below.refl _ _⟩)
         ·exact zHu rfl rfl (h.d 9 66) (fun W=>by simp[go_sem]) (by decide)
        case en =>
         intro vals W hbw hv _;have x10:=hv 10 (by omega);simp only[zAh]at x10
         simp only[fa,Nat.reduceAdd];rw[e_ hv 0,e_ hv 1,e_ hv 2,e_ hv 3,e_ hv 4,e_ hv 5,e_ hv 6,e_ hv 7,e_ hv 8,e_ hv 9];clear hv
         try simp only[pl]
         obtain⟨gb,e10,s10⟩:=x10;rw[e10];have G1:=G.out.1.up hbw;have hou:=G1.fam.u k hlt;rw[G.out.2.2.2.1,G.out.2.2.2.2.1]at hou;refine zCh W rfl _ _ 27 rfl base 3 i0 _ 1 8 Tryz.underlying27 hi0 hz0 hz1 hz2 rfl (by decide) u7 (nk+i) _ rfl hou ⟨gb,0,none⟩ 1 1 [.int .i64 (zBM k ((nk+i:Nat):Int))] rfl rfl (OneV.news s10) (by simp[Value.oneCell']) (by unfold maxLen;omega) (by omega) G1.size (by decide) ?_
         intro v5 w5 own5 grow5;have G2:=Lib.hid (G1.append (v':=v5) (m:=1) (news:=[.int .i64 (zBM k ((nk+i:Nat):Int))]) hlt (by rw[G.out.2.2.2.2.1];exact own5) (by rw[G.out.2.2.2.1];exact grow5))
         have HY:Hid (Y k++[.int .i64 (zBM k ((nk+i:Nat):Int))]=mks k (nk+(i+1))):=by show _=_;rw[G.out.2.2.2.2.2,← Nat.add_assoc,zLH]
         clear G1 hou own5 grow5 s10 hbw hls hglt
         go_wp2_with fail
         go_roundw
         case rel=>exact⟨i+1,by omega,by go_num,_,_,_,gsl,G2.out,fun j hj=>zPj (G.out.2.1 j hj) (by omega),fun j hj hjK=>zH7 (G.out.2.2.1 j hj hjK) (by omega),by simp,by simp[G.out.2.2.2.2.1,Nat.add_assoc],by simp only[if_true];exact HY.out⟩
         case measure=>simp[intOf];omega
       ·obtain rfl:i=64:=by omega
        obtain⟨pu,cu,rfl⟩:∃ pu cu,u7=.slice pu (nk+64) cu:=by
         have:=G.out.1.fam.u k hlt;rw[G.out.2.2.2.1,G.out.2.2.2.2.1]at this;exact zCE this
        go_upto_region 17 with fail
        refine ws_ 4 [fun v _=>v=.slice (some ⟨gg,0,none⟩) K K,fun v _=>v=.int .i64 (k:Int),fun v _=>v=.slice pu (nk+64) cu,fun v _=>v=.pointer (some ⟨gg,k,none⟩)] ?ob ?en
        case ob =>
         refine⟨?_,?_,?_,?_,trivial⟩<;>intro A W h
         ·exact zAB rfl rfl (h.f 5)
         ·exact zAB rfl rfl (h.f 6)
         ·exact zAB rfl rfl (h.f 7)
         ·exact zAo (sz:=1) Tryz.underlying34 (fun w=>by kernel_rfl) rfl rfl (h.d 0 69) (h.d 1 70) (by omega) (by omega)
        case en =>
         intro vals W3 hbw hv _;simp only[fa,Nat.reduceAdd];rw[e_ hv 0,e_ hv 1,e_ hv 2,e_ hv 3];clear hv
         try simp only[pl]
         have G1:=G.out.1.up hbw;have hgl:=G1.gs.1;obtain⟨z,hz⟩:∃ z,W3.cell? ⟨gg,k,none⟩=some z:=⟨_,(zBW G1.gs (k:=k) (by omega)).trans (List.getElem?_eq_getElem (by omega))⟩
         have hf:=zEA G1.gs k;have hgl2:k<gsl.length:=by omega
         have G2:=Lib.hid (G1.store (k:=k) (gg:=gg) (c:=K) rfl (.slice pu (nk+64) cu));have GU:=Lib.hid G.out.2.2.2;have GD:=Lib.hid G.out.2.1;have GN:=Lib.hid G.out.2.2.1;clear G1 hgl hbw hls hglt G
         go_wp2_with fail
         go_roundw
         case rel=>exact⟨k+1,by omega,by go_num,U,M,Y,_,G2.out,fun j hj=>if hjk:j=k then by subst hjk;rw[← GU.out.1];exact⟨zQQ hgl2 (by rw[GU.out.2.1,HNK.out]) (by rw[GU.out.2.2,HNK.out,zLA (by omega)]),by unfold Full;rw[GU.out.2.2,HNK.out]⟩ else ⟨zK1 (GD.out j (by omega)).1 hjk,(GD.out j (by omega)).2⟩,fun j hj hjK=>GN.out j (by omega) hjK⟩
         case measure=>simp[intOf];omega
    ·obtain rfl:K=k:=by omega
     obtain⟨U,M,Y,gsl,hg,hd,_⟩:=G.out;clear G;obtain⟨wq,rfl⟩:∃ wq:World,wq=wr:=⟨_,rfl⟩;have G:=Lib.hid hg;clear hg;have D:=Lib.hid hd;clear hd
     go_wp2_with fail
     go_loopw [9,10] (fun n _ wr=>∃ k:Nat,k≤K∧n=.int .i64 k∧Hid (Below wq.heap.size wq wr)) (fun n _ _=>K - (intOf n).toNat)
     case atStart=>exact⟨0,by omega,rfl,Below.refl _ _⟩
     case round =>
      obtain⟨k,hk,rfl,B⟩:=hrel
      by_cases hlt:k<K
      ·obtain⟨wo,rfl⟩:∃ wo:World,wo=wr:=⟨_,rfl⟩;obtain⟨gl,rfl⟩:∃ gl,pl=some ⟨gl,0,none⟩:=by
        obtain⟨g,c,e,_⟩:=zDU G.out.ls (by omega)
        injection e with e1 _ _;exact⟨g,e1⟩
       obtain⟨pk,ck,hV⟩:∃ pk ck,V k=.slice pk (N k) ck:=zCE (G.out.fam.v k hlt);obtain⟨gu,cu,hU,hgu,hcu⟩:=zH5 G.out hlt (D.out k hlt).1.2.1;have hbr:=fun h=>zJL G.out hlt h
       have hls:wq.cell? ⟨gl,k,none⟩=some (V k):=by rw[zBW G.out.ls (by omega),zE4 hlt]
       have hgs:wq.cell? ⟨gg,k,none⟩=some (U k):=by rw[zBW G.out.gs (by omega)];exact(D.out k hlt).1.1
       have hglq:gl<wq.heap.size:=(zA0 G.out.ls rfl).1;have hggq:gg<wq.heap.size:=(zA0 G.out.gs rfl).1;have hcu2:∀ i,i<N k+64→wq.cell? ⟨gu,i,none⟩=some (.int .i64 (zBM k i)):=fun i hi=>hcu i _ hi (by rw[(D.out k hlt).2];exact zKN hi)
       have hNk:=HN.out k hlt;rw[hV]at hls hbr;rw[hU]at hgs
       generalize N k=nk at hls hbr hgs hcu2 hNk
       clear hcu hV hU;have HLS:=Lib.hid hls;clear hls;have HGS:=Lib.hid hgs;clear hgs;have HBR:=Lib.hid hbr;clear hbr;have HCU:=Lib.hid hcu2;clear hcu2
       go_wp2_with fail
       go_loopw [10] (fun n wr=>∃ i:Nat,i≤nk+64∧n=.int .i64 i∧Hid (Below wq.heap.size wq wr)) (fun n _=>nk+64 - (intOf n).toNat)
       case atStart=>exact⟨0,by omega,rfl,B.out⟩
       case round =>
        clear B;obtain⟨i,hi,rfl,B⟩:=hrel
        go_upto_region 22 with fail
        by_cases hil:i<nk+64
        ·have cu1:=Lib.hid (HCU.out i hil);refine ws_ 7 [fun v _=>v=.int .i64 (i:Int),fun v _=>v=.slice (some ⟨gg,0,none⟩) K K,fun v _=>v=.int .i64 (k:Int),fun v _=>v=.pointer (some ⟨gg,k,none⟩),fun v _=>v=.slice (some ⟨gu,0,none⟩) (nk+64) cu,fun v _=>v=.int .i64 ((nk+64:Nat):Int),fun v _=>v=.bool true] ?ob ?en
         case ob =>
          refine⟨?_,?_,?_,?_,?_,?_,?_,trivial⟩<;>intro A W h
          ·exact zAB rfl rfl (h.f 10)
          ·exact zAB rfl rfl (h.f 5)
          ·exact zAB rfl rfl (h.f 9)
          ·exact zAo (sz:=1) Tryz.underlying34 (fun w=>by kernel_rfl) rfl rfl (h.d 1 80) (h.d 2 81) (by omega) (by omega)
          ·(have e82:A.eval (.tmp 82)=.pointer (some ⟨gg,k,none⟩):=h.d 3 82;refine zAA rfl ?_;simp only[execOp,e82];(have q:=((B.out.trans (h.below.mono B.out.size)).cell (p:=⟨gg,k,none⟩) hggq).trans HGS.out;simp[go_sem,q]))
          ·exact zBb Tryz.underlying27 rfl rfl (h.d 4 83) (by decide)
          ·(have e79:A.eval (.tmp 79)=.int .i64 (i:Int):=h.d 0 79;have e84:A.eval (.tmp 84)=.int .i64 ((nk+64:Nat):Int):=h.d 5 84;refine zAA rfl ?_;simp only[execOp,e79,e84];(simp[go_sem]<;>omega))
         case en =>
          intro vals W1 hbw hv _;simp only[fa,Nat.reduceAdd];rw[e_ hv 0,e_ hv 1,e_ hv 2,e_ hv 3,e_ hv 4,e_ hv 5,e_ hv 6];clear hv
          try simp only[pl]
          have B1:=Lib.hid (B.out.trans (hbw.mono B.out.size));clear hbw B
          go_upto_region 24 with fail
          by_cases hin:i<nk
          ·obtain⟨gv,cv,hV,hgv,hcv⟩:=HBR.out (by omega)
           injection hV with hV1 _ hV2
           subst hV1 hV2;have cv1:=Lib.hid (hcv i hin);clear hcv;refine wr_ 35 [fun v _=>v=.slice (some ⟨gg,0,none⟩) K K,fun v _=>v=.int .i64 (k:Int),fun v _=>v=.pointer (some ⟨gg,k,none⟩),fun v _=>v=.slice (some ⟨gu,0,none⟩) (nk+64) cu,fun v _=>v=.int .i64 (i:Int),fun v _=>v=.pointer (some ⟨gu,i,none⟩),fun v _=>v=.int .i64 (zBM k i),fun v _=>v=.int .i64 (k:Int),fun v _=>v=.int .i64 (i:Int),fun v _=>v=.int .i64 (zBM k i),fun v _=>v=.bool true,fun v _=>v=.bool false,fun v _=>v=.bool false,fun v _=>v=.int .i64 (i:Int),fun v _=>v=.slice (some ⟨gl,0,none⟩) K cl,fun v _=>v=.int .i64 (k:Int),fun v _=>v=.pointer (some ⟨gl,k,none⟩),fun v _=>v=.slice (some ⟨gv,0,none⟩) nk ck,fun v _=>v=.int .i64 ((nk:Nat):Int),fun v _=>v=.bool true,fun v _=>v=.bool true,fun v _=>v=.slice (some ⟨gl,0,none⟩) K cl,fun v _=>v=.int .i64 (k:Int),fun v _=>v=.pointer (some ⟨gl,k,none⟩),fun v _=>v=.slice (some ⟨gv,0,none⟩) nk ck,fun v _=>v=.int .i64 (i:Int),fun v _=>v=.pointer (some ⟨gv,i,none⟩),fun v _=>v=.int .i64 (zBM k i),fun v _=>v=.int .i64 (k:Int),fun v _=>v=.int .i64 (i:Int),fun v _=>v=.int .i64 (zBM k i),fun v _=>v=.bool true,fun v _=>v=.bool false,fun v _=>v=.bool false,fun v _=>v=.bool false] ?ob ?en
           case ob =>
            refine⟨?_,?_,?_,?_,?_,?_,?_,?_,?_,?_,?_,?_,?_,?_,?_,?_,?_,?_,?_,?_,?_,?_,?_,?_,?_,?_,?_,?_,?_,?_,?_,?_,?_,?_,?_,trivial⟩<;>intro A W h
            ·exact zAB rfl rfl (h.f 5)
            ·exact zAB rfl rfl (h.f 9)
            ·exact zAo (sz:=1) Tryz.underlying34 (fun w=>by kernel_rfl) rfl rfl (h.d 0 88) (h.d 1 89) (by omega) (by omega)
            ·(have e90:A.eval (.tmp 90)=.pointer (some ⟨gg,k,none⟩):=h.d 2 90;refine zAA rfl ?_;simp only[execOp,e90];(have q:=((B1.out.trans (h.below.mono B1.out.size)).cell (p:=⟨gg,k,none⟩) hggq).trans HGS.out;simp[go_sem,q]))
            ·exact zAB rfl rfl (h.f 10)
            ·exact zAo (sz:=1) Tryz.underlying27 (fun w=>by kernel_rfl) rfl rfl (h.d 3 91) (h.d 4 92) (by omega) (by omega)
            ·(have e93:A.eval (.tmp 93)=.pointer (some ⟨gu,i,none⟩):=h.d 5 93;refine zAA rfl ?_;simp only[execOp,e93];(have q:=((B1.out.trans (h.below.mono B1.out.size)).cell (p:=⟨gu,i,none⟩) hgu).trans cu1.out;simp[go_sem,q]))
            ·exact zAB rfl rfl (h.f 9)
            ·exact zAB rfl rfl (h.f 10)
            ·exact zAm rfl rfl (enters_of Tryz.func30 (by kernel_rfl) rfl) (zBz ⟨(h.d 7 95),(h.d 8 96)⟩) ((zCo k i W (by omega) (by omega)).mono fun _ _ h=>⟨h.1,h.2 ▸ Below.refl _ _⟩)
            ·(have e94:A.eval (.tmp 94)=.int .i64 (zBM k i):=h.d 6 94;have e97:A.eval (.tmp 97)=.int .i64 (zBM k i):=h.d 9 97;refine zAA rfl ?_;simp only[execOp,e94,e97];simp[go_sem])
            ·(have e98:A.eval (.tmp 98)=.bool true:=h.d 10 98;refine zAA rfl ?_;simp only[execOp,e98];simp[go_sem])
            ·exact zAB rfl rfl (h.d 11 99)
            ·exact zAB (wg (h.d 12 100)) rfl (h.f 10)
            ·exact zAB (wg (h.d 12 100)) rfl (h.f 0)
            ·exact zAB (wg (h.d 12 100)) rfl (h.f 9)
            ·exact zAo (sz:=1) Tryz.underlying34 (fun w=>by kernel_rfl) (wg (h.d 12 100)) rfl (h.d 14 102) (h.d 15 103) (by omega) (by omega)
            ·(have e104:A.eval (.tmp 104)=.pointer (some ⟨gl,k,none⟩):=h.d 16 104;refine zAA (wg (h.d 12 100)) ?_;simp only[execOp,e104];(have q:=((B1.out.trans (h.below.mono B1.out.size)).cell (p:=⟨gl,k,none⟩) hglq).trans HLS.out;simp[go_sem,q]))
            ·exact zBb Tryz.underlying27 (wg (h.d 12 100)) rfl (h.d 17 105)
            ·(have e101:A.eval (.tmp 101)=.int .i64 (i:Int):=h.d 13 101;have e106:A.eval (.tmp 106)=.int .i64 ((nk:Nat):Int):=h.d 18 106;refine zAA (wg (h.d 12 100)) ?_;simp only[execOp,e101,e106];(simp[go_sem]<;>omega))
            ·exact zAB (wg (h.d 12 100)) rfl (h.d 19 107)
            ·exact zAB (wg (h.d 20 108)) rfl (h.f 0)
            ·exact zAB (wg (h.d 20 108)) rfl (h.f 9)
            ·exact zAo (sz:=1) Tryz.underlying34 (fun w=>by kernel_rfl) (wg (h.d 20 108)) rfl (h.d 21 109) (h.d 22 110) (by omega) (by omega)
            ·(have e111:A.eval (.tmp 111)=.pointer (some ⟨gl,k,none⟩):=h.d 23 111;refine zAA (wg (h.d 20 108)) ?_;simp only[execOp,e111];(have q:=((B1.out.trans (h.below.mono B1.out.size)).cell (p:=⟨gl,k,none⟩) hglq).trans HLS.out;simp[go_sem,q]))
            ·exact zAB (wg (h.d 20 108)) rfl (h.f 10)
            ·exact zAo (sz:=1) Tryz.underlying27 (fun w=>by kernel_rfl) (wg (h.d 20 108)) rfl (h.d 24 112) (h.d 25 113) (by omega) (by omega)
            ·(have e114:A.eval (.tmp 114)=.pointer (some ⟨gv,i,none⟩):=h.d 26 114;refine zAA (wg (h.d 20 108)) ?_;simp only[execOp,e114];(have q:=((B1.out.trans (h.below.mono B1.out.size)).cell (p:=⟨gv,i,none⟩) hgv).trans cv1.out;simp[go_sem,q]))
            ·exact zAB (wg (h.d 20 108)) rfl (h.f 9)
            ·exact zAB (wg (h.d 20 108)) rfl (h.f 10)
            ·exact zAm (wg (h.d 20 108)) rfl (enters_of Tryz.func30 (by kernel_rfl) rfl) (zBz ⟨(h.d 28 116),(h.d 29 117)⟩) ((zCo k i W (by omega) (by omega)).mono fun _ _ h=>⟨h.1,h.2 ▸ Below.refl _ _⟩)
            ·(have e115:A.eval (.tmp 115)=.int .i64 (zBM k i):=h.d 27 115;have e118:A.eval (.tmp 118)=.int .i64 (zBM k i):=h.d 30 118;refine zAA (wg (h.d 20 108)) ?_;simp only[execOp,e115,e118];simp[go_sem])
            ·(have e119:A.eval (.tmp 119)=.bool true:=h.d 31 119;refine zAA (wg (h.d 20 108)) ?_;simp only[execOp,e119];simp[go_sem])
            ·exact zA8 (wg (h.d 12 100)) rfl (h.d 20 108) (h.d 32 120)
            ·exact zA8 rfl rfl (h.d 12 100) (h.d 33 121)
           case en =>
            intro vals W2 hbw hv _;simp only[fa,Nat.reduceAdd];rw[e_ hv 0,e_ hv 1,e_ hv 2,e_ hv 3,e_ hv 4,e_ hv 5,e_ hv 6,e_ hv 7,e_ hv 8,e_ hv 9,e_ hv 10,e_ hv 11,e_ hv 12,e_ hv 13,e_ hv 14,e_ hv 15,e_ hv 16,e_ hv 17,e_ hv 18,e_ hv 19,e_ hv 20,e_ hv 21,e_ hv 22,e_ hv 23,e_ hv 24,e_ hv 25,e_ hv 26,e_ hv 27,e_ hv 28,e_ hv 29,e_ hv 30,e_ hv 31,e_ hv 32,e_ hv 33,e_ hv 34];clear hv
            try simp only[pl]
            have B2:=Lib.hid (B1.out.trans (hbw.mono B1.out.size));clear hbw B1
            go_wp2_with fail
            go_roundw
            case rel=>exact⟨i+1,by omega,by go_num,B2.out⟩
            case measure=>simp[intOf];omega
          ·--
           refine wr_ 35 [fun v _=>v=.slice (some ⟨gg,0,none⟩) K K,fun v _=>v=.int .i64 (k:Int),fun v _=>v=.pointer (some ⟨gg,k,none⟩),fun v _=>v=.slice (some ⟨gu,0,none⟩) (nk+64) cu,fun v _=>v=.int .i64 (i:Int),fun v _=>v=.pointer (some ⟨gu,i,none⟩),fun v _=>v=.int .i64 (zBM k i),fun v _=>v=.int .i64 (k:Int),fun v _=>v=.int .i64 (i:Int),fun v _=>v=.int .i64 (zBM k i),fun v _=>v=.bool true,fun v _=>v=.bool false,fun v _=>v=.bool false,fun v _=>v=.int .i64 (i:Int),fun v _=>v=.slice (some ⟨gl,0,none⟩) K cl,fun v _=>v=.int .i64 (k:Int),fun v _=>v=.pointer (some ⟨gl,k,none⟩),fun v _=>v=.slice pk nk ck,fun v _=>v=.int .i64 ((nk:Nat):Int),fun v _=>v=.bool false,fun v _=>v=.bool false,fun v _=>v=undef,fun v _=>v=undef,fun v _=>v=undef,fun v _=>v=undef,fun v _=>v=undef,fun v _=>v=undef,fun v _=>v=undef,fun v _=>v=undef,fun v _=>v=undef,fun v _=>v=undef,fun v _=>v=undef,fun v _=>v=undef,fun v _=>v=Value.bool false,fun v _=>v=Value.bool false] ?ob ?en
           case ob =>
            refine⟨?_,?_,?_,?_,?_,?_,?_,?_,?_,?_,?_,?_,?_,?_,?_,?_,?_,?_,?_,?_,?_,?_,?_,?_,?_,?_,?_,?_,?_,?_,?_,?_,?_,?_,?_,trivial⟩<;>intro A W h
            ·exact zAB rfl rfl (h.f 5)
            ·exact zAB rfl rfl (h.f 9)
            ·exact zAo (sz:=1) Tryz.underlying34 (fun w=>by kernel_rfl) rfl rfl (h.d 0 88) (h.d 1 89) (by omega) (by omega)
            ·(have e90:A.eval (.tmp 90)=.pointer (some ⟨gg,k,none⟩):=h.d 2 90;refine zAA rfl ?_;simp only[execOp,e90];(have q:=((B1.out.trans (h.below.mono B1.out.size)).cell (p:=⟨gg,k,none⟩) hggq).trans HGS.out;simp[go_sem,q]))
            ·exact zAB rfl rfl (h.f 10)
            ·exact zAo (sz:=1) Tryz.underlying27 (fun w=>by kernel_rfl) rfl rfl (h.d 3 91) (h.d 4 92) (by omega) (by omega)
            ·(have e93:A.eval (.tmp 93)=.pointer (some ⟨gu,i,none⟩):=h.d 5 93;refine zAA rfl ?_;simp only[execOp,e93];(have q:=((B1.out.trans (h.below.mono B1.out.size)).cell (p:=⟨gu,i,none⟩) hgu).trans cu1.out;simp[go_sem,q]))
            ·exact zAB rfl rfl (h.f 9)
            ·exact zAB rfl rfl (h.f 10)
            ·exact zAm rfl rfl (enters_of Tryz.func30 (by kernel_rfl) rfl) (zBz ⟨(h.d 7 95),(h.d 8 96)⟩) ((zCo k i W (by omega) (by omega)).mono fun _ _ h=>⟨h.1,h.2 ▸ Below.refl _ _⟩)
            ·(have e94:A.eval (.tmp 94)=.int .i64 (zBM k i):=h.d 6 94;have e97:A.eval (.tmp 97)=.int .i64 (zBM k i):=h.d 9 97;refine zAA rfl ?_;simp only[execOp,e94,e97];simp[go_sem])
            ·(have e98:A.eval (.tmp 98)=.bool true:=h.d 10 98;refine zAA rfl ?_;simp only[execOp,e98];simp[go_sem])
            ·exact zAB rfl rfl (h.d 11 99)
            ·exact zAB (wg (h.d 12 100)) rfl (h.f 10)
            ·exact zAB (wg (h.d 12 100)) rfl (h.f 0)
            ·exact zAB (wg (h.d 12 100)) rfl (h.f 9)
            ·exact zAo (sz:=1) Tryz.underlying34 (fun w=>by kernel_rfl) (wg (h.d 12 100)) rfl (h.d 14 102) (h.d 15 103) (by omega) (by omega)
            ·(have e104:A.eval (.tmp 104)=.pointer (some ⟨gl,k,none⟩):=h.d 16 104;refine zAA (wg (h.d 12 100)) ?_;simp only[execOp,e104];(have q:=((B1.out.trans (h.below.mono B1.out.size)).cell (p:=⟨gl,k,none⟩) hglq).trans HLS.out;simp[go_sem,q]))
            ·exact zBb Tryz.underlying27 (wg (h.d 12 100)) rfl (h.d 17 105)
            ·(have e101:A.eval (.tmp 101)=.int .i64 (i:Int):=h.d 13 101;have e106:A.eval (.tmp 106)=.int .i64 ((nk:Nat):Int):=h.d 18 106;refine zAA (wg (h.d 12 100)) ?_;simp only[execOp,e101,e106];(simp[go_sem]<;>omega))
            ·exact zAB (wg (h.d 12 100)) rfl (h.d 19 107)
            ·exact rsk (h.d 20 108)
            ·exact rsk (h.d 20 108)
            ·exact rsk (h.d 20 108)
            ·exact rsk (h.d 20 108)
            ·exact rsk (h.d 20 108)
            ·exact rsk (h.d 20 108)
            ·exact rsk (h.d 20 108)
            ·exact rsk (h.d 20 108)
            ·exact rsk (h.d 20 108)
            ·exact rsk (h.d 20 108)
            ·exact rsk (h.d 20 108)
            ·exact rsk (h.d 20 108)
            ·exact zA8 (wg (h.d 12 100)) rfl (h.d 20 108) (rfl)
            ·exact zA8 rfl rfl (h.d 12 100) (h.d 33 121)
           case en =>
            intro vals W2 hbw hv _;simp only[fa,Nat.reduceAdd];rw[e_ hv 0,e_ hv 1,e_ hv 2,e_ hv 3,e_ hv 4,e_ hv 5,e_ hv 6,e_ hv 7,e_ hv 8,e_ hv 9,e_ hv 10,e_ hv 11,e_ hv 12,e_ hv 13,e_ hv 14,e_ hv 15,e_ hv 16,e_ hv 17,e_ hv 18,e_ hv 19,e_ hv 20,e_ hv 21,e_ hv 22,e_ hv 23,e_ hv 24,e_ hv 25,e_ hv 26,e_ hv 27,e_ hv 28,e_ hv 29,e_ hv 30,e_ hv 31,e_ hv 32,e_ hv 33,e_ hv 34];clear hv
            try simp only[pl]
            have B2:=Lib.hid (B1.out.trans (hbw.mono B1.out.size));clear hbw B1
            go_wp2_with fail
            go_roundw
            case rel=>exact⟨i+1,by omega,by go_num,B2.out⟩
            case measure=>simp[intOf];omega
        ·obtain rfl:i=nk+64:=by omega
         refine ws_ 7 [fun v _=>v=.int .i64 ((nk+64:Nat):Int),fun v _=>v=.slice (some ⟨gg,0,none⟩) K K,fun v _=>v=.int .i64 (k:Int),fun v _=>v=.pointer (some ⟨gg,k,none⟩),fun v _=>v=.slice (some ⟨gu,0,none⟩) (nk+64) cu,fun v _=>v=.int .i64 ((nk+64:Nat):Int),fun v _=>v=.bool false] ?ob ?en
         case ob =>
          refine⟨?_,?_,?_,?_,?_,?_,?_,trivial⟩<;>intro A W h
          ·exact zAB rfl rfl (h.f 10)
          ·exact zAB rfl rfl (h.f 5)
          ·exact zAB rfl rfl (h.f 9)
          ·exact zAo (sz:=1) Tryz.underlying34 (fun w=>by kernel_rfl) rfl rfl (h.d 1 80) (h.d 2 81) (by omega) (by omega)
          ·(have e82:A.eval (.tmp 82)=.pointer (some ⟨gg,k,none⟩):=h.d 3 82;refine zAA rfl ?_;simp only[execOp,e82];(have q:=((B.out.trans (h.below.mono B.out.size)).cell (p:=⟨gg,k,none⟩) hggq).trans HGS.out;simp[go_sem,q]))
          ·exact zBb Tryz.underlying27 rfl rfl (h.d 4 83) (by decide)
          ·(have e79:A.eval (.tmp 79)=.int .i64 ((nk+64:Nat):Int):=h.d 0 79;have e84:A.eval (.tmp 84)=.int .i64 ((nk+64:Nat):Int):=h.d 5 84;refine zAA rfl ?_;simp only[execOp,e79,e84];(simp[go_sem]<;>omega))
         case en =>
          intro vals W1 hbw hv _;simp only[fa,Nat.reduceAdd];rw[e_ hv 0,e_ hv 1,e_ hv 2,e_ hv 3,e_ hv 4,e_ hv 5,e_ hv 6];clear hv
          try simp only[pl]
          have B1:=Lib.hid (B.out.trans (hbw.mono B.out.size));clear hbw B
          go_wp2_with fail
          go_roundw
          case rel=>exact⟨k+1,by omega,by go_num,B1.out⟩
          case measure=>simp[intOf];omega
      ·obtain rfl:K=k:=by omega
       have G1:=Lib.hid ((G.out.up B.out).reset);clear G D B
       go_wp2_with fail
       go_loopw [11,12,13] (fun n _ _ wr=>∃ k:Nat,k≤K∧n=.int .i64 k∧Hid (∃ U M Y gsl,GSt base w (.slice pl K cl) (.slice (some ⟨gg,0,none⟩) K K) K V U N M Y gsl wr∧(∀ j,j<k→Done U N M Y gsl j)∧∀ j,k≤j→j<K→zFD V U N M Y j)) (fun n _ _ _=>K - (intOf n).toNat)
       case atStart=>exact⟨0,by omega,rfl,V,N,_,gsl,G1.out,fun j h=>by omega,fun j _ _=>⟨rfl,rfl,rfl⟩⟩
       case round =>
        clear G1;obtain⟨k,hk,rfl,G⟩:=hrel
        by_cases hlt:k<K
        ·obtain⟨wo,rfl⟩:∃ wo:World,wo=wr:=⟨_,rfl⟩;obtain⟨U,M,Y,gsl,G⟩:∃ U M Y gsl,Hid (GSt base w (.slice pl K cl) (.slice (some ⟨gg,0,none⟩) K K) K V U N M Y gsl wo∧(∀ j,j<k→Done U N M Y gsl j)∧∀ j,k≤j→j<K→zFD V U N M Y j):=by obtain⟨U,M,Y,gsl,h⟩:=G.out;exact⟨U,M,Y,gsl,h⟩
         obtain⟨gl,rfl⟩:∃ gl,pl=some ⟨gl,0,none⟩:=by
          obtain⟨g,c,e,_⟩:=zDU G.out.1.ls (by omega)
          injection e with e1 _ _;exact⟨g,e1⟩
         obtain⟨pk,ck,hV⟩:∃ pk ck,V k=.slice pk (N k) ck:=zCE (G.out.1.fam.v k hlt);have HV:=Lib.hid hV;clear hV;have hNk:=HN.out k hlt;obtain⟨nk,hnk⟩:∃ nk,N k=nk:=⟨_,rfl⟩;rw[hnk]at hNk HV;have HNK:=Lib.hid hnk;clear hnk
         go_wp2_with (at_make;refine wpList_make_full _ rfl _ _ 27 rfl wo.heap.size 3 i0 (.int .i64 0) 1 Tryz.underlying27 hi0 hz0 hz1 .i64 .i64 _ _ 64 rfl rfl rfl rfl (by rw[hz2];omega) (by unfold maxLen;omega) (Nat.le_refl _) ?_;intro wm ownm growm)
         have bm:Below wo.heap.size wo wm:=(Below.refl _ wo).grown growm (Nat.le_refl _) (fun k hk=>by cases hk)
         have hL0:∀ u ∈ (madeCells (Value.int .i64 0).cells (64 * 1)).toList,∃ z,u=.int .i64 z:=by intro u hu;simp[madeCells,Value.cells]at hu;obtain⟨a,_,rfl⟩:=hu;exact⟨0,by simp[Nat.mod_one]⟩
         generalize (madeCells (Value.int .i64 0).cells (64 * 1)).toList=L0 at ownm hL0
         have M0:=Lib.hid (And.intro ownm (And.intro hL0 bm));clear ownm hL0 bm growm
         go_wp2_with fail
         go_loopw [13] (fun n wr=>∃ i:Nat,i≤64∧n=.int .i64 i∧Hid (∃ L,wr.ownsRow wo.heap.size 3 1 (.slice (some ⟨wo.heap.size,0,none⟩) 64 64) 64 L∧(∀ u ∈ L,∃ z,u=.int .i64 z)∧Below wo.heap.size wo wr)) (fun n _=>64 - (intOf n).toNat)
         case atStart=>exact⟨0,by omega,rfl,L0,M0.out⟩
         case round =>
          clear M0;obtain⟨i,hi,rfl,B⟩:=hrel;obtain⟨L,B⟩:∃ L,Hid (wr.ownsRow wo.heap.size 3 1 (.slice (some ⟨wo.heap.size,0,none⟩) 64 64) 64 L∧(∀ u ∈ L,∃ z,u=.int .i64 z)∧Below wo.heap.size wo wr):=by obtain⟨L,h⟩:=B.out;exact⟨L,h⟩
          by_cases hil:i<64
          ·go_upto_region 33 with fail
           refine ws_ 9 [fun v _=>v=.slice (some ⟨wo.heap.size,0,none⟩) 64 64,fun v _=>v=.int .i64 (i:Int),fun v _=>v=.int .i64 (k:Int),fun v _=>v=.slice (some ⟨gl,0,none⟩) K cl,fun v _=>v=.int .i64 ((K:Nat):Int),fun v _=>v=.int .i64 ((k+K:Nat):Int),fun v _=>v=.int .i64 (i:Int),fun v _=>v=.int .i64 (zBM ((k+K:Nat):Int) i),fun v _=>v=.pointer (some ⟨wo.heap.size,i,none⟩)] ?ob ?en
           case ob =>
            refine⟨?_,?_,?_,?_,?_,?_,?_,?_,?_,trivial⟩<;>intro A W h
            ·exact zAB rfl rfl (h.f 12)
            ·exact zAB rfl rfl (h.f 13)
            ·exact zAB rfl rfl (h.f 11)
            ·exact zAB rfl rfl (h.f 0)
            ·exact zBb Tryz.underlying34 rfl rfl (h.d 3 137)
            ·(have e136:A.eval (.tmp 136)=.int .i64 (k:Int):=h.d 2 136;have e138:A.eval (.tmp 138)=.int .i64 ((K:Nat):Int):=h.d 4 138;refine zAA rfl ?_;simp only[execOp,e136,e138];(simp[go_sem]<;>(rw[IntKind.wrap_i64];omega)))
            ·exact zAB rfl rfl (h.f 13)
            ·exact zAm rfl rfl (enters_of Tryz.func30 (by kernel_rfl) rfl) (zBz ⟨(h.d 5 139),(h.d 6 140)⟩) ((zCo _ i W (by omega) (by omega)).mono fun _ _ h=>⟨h.1,h.2 ▸ Below.refl _ _⟩)
            ·exact zAo (sz:=1) Tryz.underlying27 (fun w=>by kernel_rfl) rfl rfl (h.d 0 134) (h.d 1 135) (by omega) (by omega)
           case en =>
            intro vals W1 hbw hv _;simp only[fa,Nat.reduceAdd];rw[e_ hv 0,e_ hv 1,e_ hv 2,e_ hv 3,e_ hv 4,e_ hv 5,e_ hv 6,e_ hv 7,e_ hv 8];clear hv
            try simp only[pl]
            have o1:=zBv B.out.1 hbw;have b1:=B.out.2.2.trans (hbw.mono B.out.2.2.size);have hl:=o1.1;obtain⟨z,hz⟩:∃ z,W1.cell? ⟨wo.heap.size,i,none⟩=some z:=⟨_,(zBW o1 (k:=i) (by omega)).trans (List.getElem?_eq_getElem (by omega))⟩
            have hf:=zEA o1 i;have O2:=Lib.hid (zIk o1 (k:=i) (.int .i64 (zBM ((k+K:Nat):Int) i)));have B2:=Lib.hid (b1.setCell (p:=⟨wo.heap.size,i,none⟩) (Nat.le_refl _) (.int .i64 (zBM ((k+K:Nat):Int) i)));clear o1 b1 hl hbw
            go_wp2_with fail
            go_roundw
            case rel=>exact⟨i+1,by omega,by go_num,_,O2.out,fun u hu=>by rcases List.mem_or_eq_of_mem_set hu with h|h;exact B.out.2.1 u h;exact⟨_,h⟩,B2.out⟩
            case measure=>simp[intOf];omega
          ·have G1:=Lib.hid (G.out.1.up B.out.2.2);have hls:wr.cell? ⟨gl,k,none⟩=some (.slice pk nk ck):=by rw[zBW G1.out.ls (by omega),zE4 hlt,HV.out]
           have hglt:gl<wr.heap.size:=(zA0 G1.out.ls rfl).1
           go_upto_region 34 with fail
           refine ws_ 7 [fun v _=>v=.slice (some ⟨gg,0,none⟩) K K,fun v _=>v=.int .i64 (k:Int),fun v _=>v=.slice (some ⟨gl,0,none⟩) K cl,fun v _=>v=.int .i64 (k:Int),fun v _=>v=.pointer (some ⟨gl,k,none⟩),fun v _=>v=.slice pk nk ck,fun v _=>v=.slice (some ⟨wo.heap.size,0,none⟩) 64 64] ?ob ?en
           case ob =>
            refine⟨?_,?_,?_,?_,?_,?_,?_,trivial⟩<;>intro A W h
            ·exact zAB rfl rfl (h.f 5)
            ·exact zAB rfl rfl (h.f 11)
            ·exact zAB rfl rfl (h.f 0)
            ·exact zAB rfl rfl (h.f 11)
            ·exact zAo (sz:=1) Tryz.underlying34 (fun w=>by kernel_rfl) rfl rfl (h.d 2 145) (h.d 3 146) (by omega) (by omega)
            ·(have e147:A.eval (.tmp 147)=.pointer (some ⟨gl,k,none⟩):=h.d 4 147;refine zAA rfl ?_;simp only[execOp,e147];(have q:=(h.below.cell (p:=⟨gl,k,none⟩) hglt).trans hls;simp[go_sem,q]))
            ·exact zAB rfl rfl (h.f 12)
           case en =>
            intro vals W1 hbw hv _;simp only[fa,Nat.reduceAdd];rw[e_ hv 0,e_ hv 1,e_ hv 2,e_ hv 3,e_ hv 4,e_ hv 5,e_ hv 6];clear hv
            try simp only[pl]
            have G2:=G1.out.up hbw;have o2:=zBv B.out.1 hbw;obtain⟨un1,un2,un3⟩:=G.out.2.2 k (Nat.le_refl _) hlt;have hou:=G2.fam.u k hlt;rw[un1,un2,un3,HV.out,HNK.out]at hou;refine zCh W1 rfl _ _ 27 rfl base 3 i0 _ 1 8 Tryz.underlying27 hi0 hz0 hz1 hz2 rfl (by decide) (.slice pk nk ck) nk _ rfl hou ⟨wo.heap.size,0,none⟩ 64 64 L rfl o2.1 (o2.cells (g:=wo.heap.size) rfl) (fun u hu=>by obtain⟨z,rfl⟩:=B.out.2.1 u hu;rfl) (by unfold maxLen;omega) (by omega) G2.size (by decide) ?_
            intro v5 w5 own5 grow5;have G3:=G2.append (v':=v5) (m:=64) (news:=L) hlt (by rw[un2,un3,HNK.out];exact own5) (by rw[un1,HV.out];exact grow5)
            obtain⟨p5,c5,rfl⟩:=zCE own5;have hgl:=G3.gs.1;obtain⟨z,hz⟩:∃ z,w5.cell? ⟨gg,k,none⟩=some z:=⟨_,(zBW G3.gs (k:=k) (by omega)).trans (List.getElem?_eq_getElem (by omega))⟩
            have hf:=zEA G3.gs k;have hgl2:k<gsl.length:=by omega
            have G4:=Lib.hid (G3.store (k:=k) (gg:=gg) (c:=K) rfl (.slice p5 (nk+64) c5));have HD:Hid (∀ j,j<k+1→Done (fun j=>if j=k then .slice p5 (nk+64) c5 else U j) N (fun j=>if j=k then M k+64 else M j) (fun j=>if j=k then Y k++L else Y j) (gsl.set k (.slice p5 (nk+64) c5)) j):=fun j hj=>if hjk:j=k then by subst hjk;exact⟨by simp[hgl2],by simp[un2],by simp only[if_true];rw[un3,List.take_append_of_le_length (by rw[zQc];omega),zLA (by omega)]⟩ else zK1 (zND (G.out.2.1 j (by omega)) hjk) hjk
            have HU:Hid (∀ j,k+1≤j→j<K→zFD V (fun j=>if j=k then .slice p5 (nk+64) c5 else U j) N (fun j=>if j=k then M k+64 else M j) (fun j=>if j=k then Y k++L else Y j) j):=fun j hj hjK=>zH7 (G.out.2.2 j (by omega) hjK) (by omega)
            clear G2 o2 hou un1 un2 un3 own5 grow5 G3 hgl hbw hls hglt G1
            go_wp2_with fail
            go_roundw
            case rel=>exact⟨k+1,by omega,by go_num,_,_,_,_,G4.out,HD.out,HU.out⟩
            case measure=>simp[intOf];omega
        ·obtain rfl:K=k:=by omega
         obtain⟨U,M,Y,gsl,hg,hd,_⟩:=G.out;clear G;obtain⟨wq,rfl⟩:∃ wq:World,wq=wr:=⟨_,rfl⟩;have G:=Lib.hid hg;clear hg;have D:=Lib.hid hd;clear hd
         go_wp2_with fail
         go_loopw [14,15] (fun n _ wr=>∃ k:Nat,k≤K∧n=.int .i64 k∧Hid (Below wq.heap.size wq wr)) (fun n _ _=>K - (intOf n).toNat)
         case atStart=>exact⟨0,by omega,rfl,Below.refl _ _⟩
         case round =>
          obtain⟨k,hk,rfl,B⟩:=hrel
          by_cases hlt:k<K
          ·obtain⟨wo,rfl⟩:∃ wo:World,wo=wr:=⟨_,rfl⟩;obtain⟨gl,rfl⟩:∃ gl,pl=some ⟨gl,0,none⟩:=by
            obtain⟨g,c,e,_⟩:=zDU G.out.ls (by omega)
            injection e with e1 _ _;exact⟨g,e1⟩
           obtain⟨pk,ck,hV⟩:∃ pk ck,V k=.slice pk (N k) ck:=zCE (G.out.fam.v k hlt);obtain⟨gu,cu,hU,hgu,hcu⟩:=zH5 G.out hlt (D.out k hlt).2.1;have hbr:=fun h=>zJL G.out hlt h
           have hls:wq.cell? ⟨gl,k,none⟩=some (V k):=by rw[zBW G.out.ls (by omega),zE4 hlt]
           have hgs:wq.cell? ⟨gg,k,none⟩=some (U k):=by rw[zBW G.out.gs (by omega)];exact(D.out k hlt).1
           have hglq:gl<wq.heap.size:=(zA0 G.out.ls rfl).1;have hggq:gg<wq.heap.size:=(zA0 G.out.gs rfl).1
           have hcu2:∀ i,i<N k→wq.cell? ⟨gu,i,none⟩=some (.int .i64 (zBM k i)):=fun i hi=>hcu i _ (by omega) (by
            have h1:=(D.out k hlt).2.2;have h2:=zKN (k:=k) hi;rw[← h1,List.getElem?_take_of_lt hi]at h2
            exact h2)
           have hNk:=HN.out k hlt;rw[hV]at hls hbr;rw[hU]at hgs
           generalize N k=nk at hls hbr hgs hcu2 hNk
           clear hcu hV hU;have HLS:=Lib.hid hls;clear hls;have HGS:=Lib.hid hgs;clear hgs;have HBR:=Lib.hid hbr;clear hbr;have HCU:=Lib.hid hcu2;clear hcu2
           go_wp2_with fail
           go_loopw [15] (fun n wr=>∃ i:Nat,i≤nk∧n=.int .i64 i∧Hid (Below wq.heap.size wq wr)) (fun n _=>nk - (intOf n).toNat)
           case atStart=>exact⟨0,by omega,rfl,B.out⟩
           case round =>
            clear B;obtain⟨i,hi,rfl,B⟩:=hrel
            go_upto_region 39 with fail
            by_cases hil:i<nk
            ·have cu1:=Lib.hid (HCU.out i hil);obtain⟨gv,cv,hV,hgv,hcv⟩:=HBR.out (by omega)
             injection hV with hV1 _ hV2
             subst hV1 hV2;have cv1:=Lib.hid (hcv i hil);clear hcv;refine ws_ 7 [fun v _=>v=.int .i64 (i:Int),fun v _=>v=.slice (some ⟨gl,0,none⟩) K cl,fun v _=>v=.int .i64 (k:Int),fun v _=>v=.pointer (some ⟨gl,k,none⟩),fun v _=>v=.slice (some ⟨gv,0,none⟩) nk ck,fun v _=>v=.int .i64 ((nk:Nat):Int),fun v _=>v=.bool true] ?ob ?en
             case ob =>
              refine⟨?_,?_,?_,?_,?_,?_,?_,trivial⟩<;>intro A W h
              ·exact zAB rfl rfl (h.f 15)
              ·exact zAB rfl rfl (h.f 0)
              ·exact zAB rfl rfl (h.f 14)
              ·exact zAo (sz:=1) Tryz.underlying34 (fun w=>by kernel_rfl) rfl rfl (h.d 1 159) (h.d 2 160) (by omega) (by omega)
              ·(have e161:A.eval (.tmp 161)=.pointer (some ⟨gl,k,none⟩):=h.d 3 161;refine zAA rfl ?_;simp only[execOp,e161];(have q:=((B.out.trans (h.below.mono B.out.size)).cell (p:=⟨gl,k,none⟩) hglq).trans HLS.out;simp[go_sem,q]))
              ·exact zBb Tryz.underlying27 rfl rfl (h.d 4 162) (by decide)
              ·(have e158:A.eval (.tmp 158)=.int .i64 (i:Int):=h.d 0 158;have e163:A.eval (.tmp 163)=.int .i64 ((nk:Nat):Int):=h.d 5 163;refine zAA rfl ?_;simp only[execOp,e158,e163];(simp[go_sem]<;>omega))
             case en =>
              intro vals W1 hbw hv _;simp only[fa,Nat.reduceAdd];rw[e_ hv 0,e_ hv 1,e_ hv 2,e_ hv 3,e_ hv 4,e_ hv 5,e_ hv 6];clear hv
              try simp only[pl]
              have B1:=Lib.hid (B.out.trans (hbw.mono B.out.size));clear hbw B
              go_upto_region 41 with fail
              refine wr_ 26 [fun v _=>v=.slice (some ⟨gl,0,none⟩) K cl,fun v _=>v=.int .i64 (k:Int),fun v _=>v=.pointer (some ⟨gl,k,none⟩),fun v _=>v=.slice (some ⟨gv,0,none⟩) nk ck,fun v _=>v=.int .i64 (i:Int),fun v _=>v=.pointer (some ⟨gv,i,none⟩),fun v _=>v=.int .i64 (zBM k i),fun v _=>v=.int .i64 (k:Int),fun v _=>v=.int .i64 (i:Int),fun v _=>v=.int .i64 (zBM k i),fun v _=>v=.bool true,fun v _=>v=.bool false,fun v _=>v=.bool false,fun v _=>v=.slice (some ⟨gg,0,none⟩) K K,fun v _=>v=.int .i64 (k:Int),fun v _=>v=.pointer (some ⟨gg,k,none⟩),fun v _=>v=.slice (some ⟨gu,0,none⟩) (nk+64) cu,fun v _=>v=.int .i64 (i:Int),fun v _=>v=.pointer (some ⟨gu,i,none⟩),fun v _=>v=.int .i64 (zBM k i),fun v _=>v=.int .i64 (k:Int),fun v _=>v=.int .i64 (i:Int),fun v _=>v=.int .i64 (zBM k i),fun v _=>v=.bool true,fun v _=>v=.bool false,fun v _=>v=.bool false] ?ob ?en
              case ob =>
               refine⟨?_,?_,?_,?_,?_,?_,?_,?_,?_,?_,?_,?_,?_,?_,?_,?_,?_,?_,?_,?_,?_,?_,?_,?_,?_,?_,trivial⟩<;>intro A W h
               ·exact zAB rfl rfl (h.f 0)
               ·exact zAB rfl rfl (h.f 14)
               ·exact zAo (sz:=1) Tryz.underlying34 (fun w=>by kernel_rfl) rfl rfl (h.d 0 167) (h.d 1 168) (by omega) (by omega)
               ·(have e169:A.eval (.tmp 169)=.pointer (some ⟨gl,k,none⟩):=h.d 2 169;refine zAA rfl ?_;simp only[execOp,e169];(have q:=((B1.out.trans (h.below.mono B1.out.size)).cell (p:=⟨gl,k,none⟩) hglq).trans HLS.out;simp[go_sem,q]))
               ·exact zAB rfl rfl (h.f 15)
               ·exact zAo (sz:=1) Tryz.underlying27 (fun w=>by kernel_rfl) rfl rfl (h.d 3 170) (h.d 4 171) (by omega) (by omega)
               ·(have e172:A.eval (.tmp 172)=.pointer (some ⟨gv,i,none⟩):=h.d 5 172;refine zAA rfl ?_;simp only[execOp,e172];(have q:=((B1.out.trans (h.below.mono B1.out.size)).cell (p:=⟨gv,i,none⟩) hgv).trans cv1.out;simp[go_sem,q]))
               ·exact zAB rfl rfl (h.f 14)
               ·exact zAB rfl rfl (h.f 15)
               ·exact zAm rfl rfl (enters_of Tryz.func30 (by kernel_rfl) rfl) (zBz ⟨(h.d 7 174),(h.d 8 175)⟩) ((zCo k i W (by omega) (by omega)).mono fun _ _ h=>⟨h.1,h.2 ▸ Below.refl _ _⟩)
               ·(have e173:A.eval (.tmp 173)=.int .i64 (zBM k i):=h.d 6 173;have e176:A.eval (.tmp 176)=.int .i64 (zBM k i):=h.d 9 176;refine zAA rfl ?_;simp only[execOp,e173,e176];simp[go_sem])
               ·(have e177:A.eval (.tmp 177)=.bool true:=h.d 10 177;refine zAA rfl ?_;simp only[execOp,e177];simp[go_sem])
               ·exact zAB rfl rfl (h.d 11 178)
               ·exact zAB (wg (h.d 12 179)) rfl (h.f 5)
               ·exact zAB (wg (h.d 12 179)) rfl (h.f 14)
               ·exact zAo (sz:=1) Tryz.underlying34 (fun w=>by kernel_rfl) (wg (h.d 12 179)) rfl (h.d 13 180) (h.d 14 181) (by omega) (by omega)
               ·(have e182:A.eval (.tmp 182)=.pointer (some ⟨gg,k,none⟩):=h.d 15 182;refine zAA (wg (h.d 12 179)) ?_;simp only[execOp,e182];(have q:=((B1.out.trans (h.below.mono B1.out.size)).cell (p:=⟨gg,k,none⟩) hggq).trans HGS.out;simp[go_sem,q]))
               ·exact zAB (wg (h.d 12 179)) rfl (h.f 15)
               ·exact zAo (sz:=1) Tryz.underlying27 (fun w=>by kernel_rfl) (wg (h.d 12 179)) rfl (h.d 16 183) (h.d 17 184) (by omega) (by omega)
               ·(have e185:A.eval (.tmp 185)=.pointer (some ⟨gu,i,none⟩):=h.d 18 185;refine zAA (wg (h.d 12 179)) ?_;simp only[execOp,e185];(have q:=((B1.out.trans (h.below.mono B1.out.size)).cell (p:=⟨gu,i,none⟩) hgu).trans cu1.out;simp[go_sem,q]))
               ·exact zAB (wg (h.d 12 179)) rfl (h.f 14)
               ·exact zAB (wg (h.d 12 179)) rfl (h.f 15)
               ·exact zAm (wg (h.d 12 179)) rfl (enters_of Tryz.func30 (by kernel_rfl) rfl) (zBz ⟨(h.d 20 187),(h.d 21 188)⟩) ((zCo k i W (by omega) (by omega)).mono fun _ _ h=>⟨h.1,h.2 ▸ Below.refl _ _⟩)
               ·(have e186:A.eval (.tmp 186)=.int .i64 (zBM k i):=h.d 19 186;have e189:A.eval (.tmp 189)=.int .i64 (zBM k i):=h.d 22 189;refine zAA (wg (h.d 12 179)) ?_;simp only[execOp,e186,e189];simp[go_sem])
               ·(have e190:A.eval (.tmp 190)=.bool true:=h.d 23 190;refine zAA (wg (h.d 12 179)) ?_;simp only[execOp,e190];simp[go_sem])
               ·exact zA8 rfl rfl (h.d 12 179) (h.d 24 191)
              case en =>
               intro vals W2 hbw hv _;simp only[fa,Nat.reduceAdd];rw[e_ hv 0,e_ hv 1,e_ hv 2,e_ hv 3,e_ hv 4,e_ hv 5,e_ hv 6,e_ hv 7,e_ hv 8,e_ hv 9,e_ hv 10,e_ hv 11,e_ hv 12,e_ hv 13,e_ hv 14,e_ hv 15,e_ hv 16,e_ hv 17,e_ hv 18,e_ hv 19,e_ hv 20,e_ hv 21,e_ hv 22,e_ hv 23,e_ hv 24,e_ hv 25];clear hv
               try simp only[pl]
               have B2:=Lib.hid (B1.out.trans (hbw.mono B1.out.size));clear hbw B1
               go_wp2_with fail
               go_roundw
               case rel=>exact⟨i+1,by omega,by go_num,B2.out⟩
               case measure=>simp[intOf];omega
            ·obtain rfl:i=nk:=by omega
             refine ws_ 7 [fun v _=>v=.int .i64 (i:Int),fun v _=>v=.slice (some ⟨gl,0,none⟩) K cl,fun v _=>v=.int .i64 (k:Int),fun v _=>v=.pointer (some ⟨gl,k,none⟩),fun v _=>v=.slice pk i ck,fun v _=>v=.int .i64 ((i:Nat):Int),fun v _=>v=.bool false] ?ob ?en
             case ob =>
              refine⟨?_,?_,?_,?_,?_,?_,?_,trivial⟩<;>intro A W h
              ·exact zAB rfl rfl (h.f 15)
              ·exact zAB rfl rfl (h.f 0)
              ·exact zAB rfl rfl (h.f 14)
              ·exact zAo (sz:=1) Tryz.underlying34 (fun w=>by kernel_rfl) rfl rfl (h.d 1 159) (h.d 2 160) (by omega) (by omega)
              ·(have e161:A.eval (.tmp 161)=.pointer (some ⟨gl,k,none⟩):=h.d 3 161;refine zAA rfl ?_;simp only[execOp,e161];(have q:=((B.out.trans (h.below.mono B.out.size)).cell (p:=⟨gl,k,none⟩) hglq).trans HLS.out;simp[go_sem,q]))
              ·exact zBb Tryz.underlying27 rfl rfl (h.d 4 162) (by decide)
              ·(have e158:A.eval (.tmp 158)=.int .i64 (i:Int):=h.d 0 158;have e163:A.eval (.tmp 163)=.int .i64 ((i:Nat):Int):=h.d 5 163;refine zAA rfl ?_;simp only[execOp,e158,e163];(simp[go_sem]<;>omega))
             case en =>
              intro vals W1 hbw hv _;simp only[fa,Nat.reduceAdd];rw[e_ hv 0,e_ hv 1,e_ hv 2,e_ hv 3,e_ hv 4,e_ hv 5,e_ hv 6];clear hv
              try simp only[pl]
              have B1:=Lib.hid (B.out.trans (hbw.mono B.out.size));clear hbw B
              go_wp2_with fail
              go_roundw
              case rel=>exact⟨k+1,by omega,by go_num,B1.out⟩
              case measure=>simp[intOf];omega
          ·obtain rfl:K=k:=by omega
           go_wp2
           go_ret;exact⟨rfl,_,⟨(G.out.up B.out).ls,(G.out.up B.out).reset.fam,(G.out.up B.out).below,G.out.size0⟩⟩
end
end Go.Proofs.YtdoflhjhaciepaaGreat
