/-
  Laws of walks, and walks.
-/
import Derived.Test.YtalggmbdpmdcbaaGreatPt1
import Derived.Test.YtalggmbdpmdcbaaGreatPt2
import Derived.Test.YtalggmbdpmdcbaaGreatPt16
set_option linter.unusedVariables false
set_option linter.unusedSimpArgs false
set_option maxRecDepth 100000
set_option maxHeartbeats 16000000
namespace Go.Proofs.YtalggmbdpmdcbaaGreat
section
open Go.RowKit
theorem zB4 {w w':World} {base:Nat} {e:TypeId} {s:Nat} {v:Value} {n:Nat} {xs:List Value} {row:Option Nat} (h:w.ownsRow base e s v n xs) (hg:w.grownBy w' row) (hr:∀ g,row=some g->v.ownBlock≠some g):w'.ownsRow base e s v n xs:=by
 obtain⟨hl,h'|⟨g,cap,cur,rfl,hb,hgk,r⟩⟩:=h
 ·exact⟨hl,.inl h'⟩
 ·refine⟨hl,.inr ⟨g,cap,cur,rfl,hb,?_,r⟩⟩;exact(hg.block g (Array.getElem?_eq_some_iff.1 hgk).1 (fun e=>hr g e.symm rfl)).trans hgk
theorem zA8 {w:World} {base:Nat} {e:TypeId} {s:Nat} {v:Value} {n:Nat} {xs:List Value} {g:Nat} (h:w.ownsRow base e s v n xs) (hb:v.ownBlock=some g):g<w.heap.size/\base<=g/\∃ cur,w.heap[g]?=some (.cells cur e (0,0)):=by
 obtain⟨_,⟨rfl,_⟩|⟨g',cap,cur,rfl,h1,h2,_⟩⟩:=h
 ·cases hb
 ·simp[Value.ownBlock]at hb;subst hb;exact⟨(Array.getElem?_eq_some_iff.1 h2).1,h1,cur,h2⟩
theorem zMH {w:World} {base:Nat} {e:TypeId} {s g n m c:Nat} {ys:List Value} (h:w.ownsRow base e s (.slice (some ⟨g,0,none⟩) m c) m ys) (hn:n<=m) :
  w.ownsRow base e s (.slice (some ⟨g,0,none⟩) n c) n (ys.take (n * s)):=by
 obtain⟨hl,⟨h',_⟩|⟨g',cap,cur,e1,h1,h2,h3,h4,h5,h6⟩⟩:=h
 ·cases h'
 ·cases e1
  have hle:n * s<=m * s:=Nat.mul_le_mul_right _ hn;refine⟨by rw[List.length_take,hl];omega,.inr ⟨g,c,cur,rfl,h1,h2,by omega,h4,h5,?_⟩⟩
  rw[← h6,List.take_take]
  congr 1
  omega
theorem zPB {w:World} {base:Nat} {e:TypeId} {s g n m c:Nat} {xs ys:List Value} (h:w.ownsRow base e s (.slice (some ⟨g,0,none⟩) n c) n xs) (h2:w.ownsRow base e s (.slice (some ⟨g,0,none⟩) m c) m ys) (hn:n<=m):xs=ys.take (n * s):=by
 obtain⟨_,⟨h',_⟩|⟨g',cap,cur,e1,_,a2,_,_,_,a6⟩⟩:=h
 ·cases h'
 ·cases e1
  obtain⟨_,⟨h',_⟩|⟨g',cap',cur',e1,_,b2,_,_,_,b6⟩⟩:=h2
  ·cases h'
  ·cases e1
   rw[a2]at b2
   cases b2
   have hle:n * s<=m * s:=Nat.mul_le_mul_right _ hn;rw[← a6,← b6,List.take_take]
   congr 1
   omega
theorem zPe {w:World} {base g n cap s:Nat} {e:TypeId} {xs:List Value} (h:w.ownsRow base e s (.slice (some ⟨g,0,none⟩) n cap) n xs) {k:Nat} (v:Value) :
  (w.setCell ⟨g,k,none⟩ v).ownsRow base e s (.slice (some ⟨g,0,none⟩) n cap) n (xs.set k v):=by
 obtain⟨hl,⟨h',_⟩|⟨g',cap',cur,e1,h1,h2,h3,h4,h5,h6⟩⟩:=h
 ·cases h'
 ·cases e1
  refine⟨by simpa using hl,.inr ⟨g,cap,cur.setIfInBounds k v,rfl,h1,?_,h3,h4,by simpa using h5,?_⟩⟩
  ·obtain⟨hlt,hh⟩:=Array.getElem?_eq_some_iff.1 h2
   show (w.heap.modify g _)[g]?=_
   rw[Array.getElem?_eq_getElem (by rw[Array.size_modify];exact hlt),Array.getElem_modify_self,hh]
   rfl
  ·rw[← h6,Array.toList_setIfInBounds,List.take_set]
theorem zEK (W:World) (g k:Nat) (v:Value):W.grownBy (W.setCell ⟨g,k,none⟩ v) (some g) :=
 ⟨rfl,rfl,rfl,by simp[World.setCell],fun j _ hj=>Below.heap_setCell _ _ _ j (fun e=>hj (by rw[e]))⟩
theorem zBz {w:World} {base g n cap s:Nat} {e:TypeId} {xs:List Value} (h:w.ownsRow base e s (.slice (some ⟨g,0,none⟩) n cap) n xs) {k:Nat} (hk:k<n * s):w.cell? ⟨g,k,none⟩=xs[k]?:=by
 obtain⟨hl,⟨h',_⟩|⟨g',cap',cur,e1,h1,h2,h3,h4,h5,h6⟩⟩:=h
 ·cases h'
 ·cases e1
  rw[cell_of_row w g k _ _ _ h2,← h6,List.getElem?_take_of_lt hk];simp
theorem zG6 {w:World} {base g n cap s:Nat} {e:TypeId} {xs:List Value} (h:w.ownsRow base e s (.slice (some ⟨g,0,none⟩) n cap) n xs) (k:Nat):w.frozen? ⟨g,k,none⟩=false:=by
 obtain⟨hl,⟨h',_⟩|⟨g',cap',cur,e1,h1,h2,h3,h4,h5,h6⟩⟩:=h
 ·cases h'
 ·cases e1
  simp[World.frozen?,h2]
def Grow (w w':World) (v v':Value):Prop :=
 (∃ g n m c,v=.slice (some ⟨g,0,none⟩) n c/\v'=.slice (some ⟨g,0,none⟩) m c/\n<=m/\w.grownBy w' (some g))\/((∃ m c,v'=.slice (some ⟨w.heap.size,0,none⟩) m c)/\w.grownBy w' none)
theorem Grow.any {w w':World} {v v':Value} (h:Grow w w' v v'):w.grownBy w' v.ownBlock:=by
 rcases h with ⟨g,n,m,c,rfl,rfl,_,h⟩|⟨_,h⟩
 ·exact h
 ·exact⟨h.os,h.tape,h.output,h.size,fun k hk _=>h.block k hk (by simp)⟩
theorem zHf {P:Program} (w:World) (base:Nat) (t ty e:TypeId) (i:TypeInfo) (z:Value) (size bytes:Nat) (ht:P.underlying t=some (.slice e)) (hi:P.info? e=some i) (hz:i.zero=some z)
  (hsize:i.size=size) (hby:i.bytes=bytes) (hzs:z.cells.size=size) (hsz:0<size)
  (v:Value) (n:Nat) (xs:List Value) (hown:w.ownsRow base e size v n xs)
  (a:Addr) (m c:Nat) (news:List Value) (hl:news.length=m * size) (hnews:∀ j u,news[j]?=some u->w.cell? (a.add j)=some u) (h1:∀ u ∈ news,u.oneCell'=true)
  (h63:n+m<=maxLen) (hbytes:(n+m) * bytes<=140737488355328) (hbase:base<=w.heap.size) (hm:0<m) :
  ∃ v' w',(Builtin.append_ #[t,t] ty #[v,.slice (some a) m c]).run P w=.ok v' w'/\w'.ownsRow base e size v' (n+m) (xs++news)/\Grow w w' v v':=by
 subst hsize;subst hby;have hsmall:n+m<=9223372036854775807:=by simp only[maxLen]at h63;omega
 have hlen:(xs++news).length=(n+m) * i.size:=by rw[List.length_append,hown.1,hl,Nat.add_mul]
 have grown:∀ (old:Nat),old<n+m->∀ (row:Option Nat),
   (w.drew.alloc (.cells (xs.toArray++news.toArray++Builtin.zeroCells z.cells (grownCap w (n+m) old e - (n+m))) e)).ownsRow base e i.size
    (.slice (some ⟨w.heap.size,0,none⟩) (n+m) (grownCap w (n+m) old e)) (n+m) (xs++news) /\
   w.grownBy (w.drew.alloc (.cells (xs.toArray++news.toArray++Builtin.zeroCells z.cells (grownCap w (n+m) old e - (n+m))) e)) row:=by
  intro old ho row;have hge:=grownCap_ge w (n+m) old e;have hcm:grownCap w (n+m) old e<=maxLen:=grownCap_le_maxLen w (n+m) old e h63;refine⟨⟨hlen,.inr ⟨w.heap.size,_,_,rfl,hbase,heap_alloc_new w.drew _,hge,hcm,?_,?_⟩⟩,⟨rfl,rfl,rfl,by simp,fun k hk _=>heap_alloc_old w.drew _ k hk⟩⟩
  ·simp only[Array.size_append,List.size_toArray,size_zeroCells,hzs,hown.1,hl,← Nat.add_mul]
   congr 1
   omega
  ·simp only[Array.toList_append,List.append_assoc];rw[← List.append_assoc,← hlen];exact List.take_left
 rcases hown.2 with ⟨rfl,rfl⟩|⟨g,cap,cur,rfl,hbg,hg,hnc,hcm,hcs,htake⟩
 ·have hx:xs=[]:=List.eq_nil_of_length_eq_zero (by simpa using hown.1)
  subst hx;have hr:=run_append_nil (P:=P) w t ty e i z ht hi hz a m c news hl hnews (by omega) (by omega) (by have hb:=hbytes;simp only[Nat.zero_add]at hb;omega)
  have hgr:=grown 0 (by omega) none
  simp only[Nat.zero_add,List.nil_append,Array.empty_append]at hgr ⊢;exact⟨_,_,hr,hgr.1,.inr ⟨⟨_,_,rfl⟩,hgr.2⟩⟩
 ·by_cases hroom:n+m<=cap
  ·have hfit:n * i.size+news.length<=cur.size:=by rw[hl,hcs,← Nat.add_mul];exact Nat.mul_le_mul_right _ hroom
   have hr:=run_append_room (P:=P) w t ty e i ht hi g n cap cur hg a m c news hl hnews h1 hroom hfit;refine⟨_,_,hr,⟨hlen,.inr ⟨g,cap,_,rfl,hbg,setRow_heap w g cur _ e _ hg,hroom,hcm,?_,?_⟩⟩,.inl ⟨g,n,n+m,cap,rfl,rfl,by omega,⟨rfl,rfl,rfl,by simp,fun k _ hk=>setRow_other w g k _ (fun e=>hk (by rw[e]))⟩⟩⟩
   ·simp only[List.size_toArray,List.length_append,List.length_take,List.length_drop,Array.length_toList];omega
   ·rw[htake,← hlen];exact List.take_left
  ·have holds:∀ j u,xs[j]?=some u->w.cell? ((⟨g,0,none⟩:Addr).add j)=some u:=hown.cells (g:=g) rfl;have hr:=run_append_grow (P:=P) w t ty e i z ht hi hz ⟨g,0,none⟩ n cap xs hown.1 holds a m c news hl hnews (by omega) (by omega) (growslice_fits (by omega) hbytes)
   have hgr:=grown cap (by omega) none
   exact⟨_,_,hr,hgr.1,.inr ⟨⟨_,_,rfl⟩,hgr.2⟩⟩
theorem zCx {P:Program} (w:World) {ops:Array Oper} {rest:List Oper} {o:Oper} {a:Act} {Q:Exit->Act->World->Prop}
  (hg:o.guard=none) (s x:Operand) (t:TypeId) (hop:o.op=Op.call {callee:=Callee.builtin Builtin.append,args:=#[s,x],argTypes:=#[t,t]})
  (base:Nat) (e:TypeId) (i:TypeInfo) (z:Value) (size bytes:Nat) (h1:P.underlying t=some (.slice e)) (h2:P.info? e=some i) (h3:i.zero=some z) (h4:i.size=size) (h5:i.bytes=bytes) (h6:z.cells.size=size) (h7:0<size)
  (v:Value) (k:Nat) (xs:List Value) (hs:a.eval s=v) (hown:w.ownsRow base e size v k xs) (ad:Addr) (m c:Nat) (news:List Value) (hx:a.eval x=.slice (some ad) m c) (hn:news.length=m * size)
  (hc:∀ j u,news[j]?=some u->w.cell? (ad.add j)=some u) (h1c:∀ u ∈ news,u.oneCell'=true) (b1:k+m<=maxLen) (b2:(k+m) * bytes<=140737488355328) (b3:base<=w.heap.size) (hm:0<m)
  (hK:∀ v' w',w'.ownsRow base e size v' (k+m) (xs++news)->Grow w w' v v'->wpList P ops Q rest (a.put o.dst v') w') :
  wpList P ops Q (o::rest) a w:=by
 refine wpList_plain hg fun K hK'=>?_
 obtain⟨v',w',hr,r1,r2⟩:=zHf (P:=P) w base t o.type e i z size bytes h1 h2 h3 h4 h5 h6 h7 v k xs hown ad m c news hn hc h1c b1 b2 b3 hm;unfold Oper.wp execOp;simp only[hop,resolve,invoke,builtin,Sem.run_bind,Sem.run_pure,Result.andThen_ok,List.map_toArray,List.map_cons,List.map_nil,hs,hx,hr];exact hK' _ _ (hK v' w' r1 r2)
structure Fam (e:TypeId) (sz base:Nat) (w:World) (K:Nat) (V U:Nat->Value) (N M:Nat->Nat) (X Y:Nat->List Value):Prop where
 v:∀ j,j<K->w.ownsRow base e sz (V j) (N j) (X j)
 u:∀ j,j<K->w.ownsRow base e sz (U j) (M j) (Y j)
 link:∀ j,j<K->∀ g n c m d,V j=.slice (some ⟨g,0,none⟩) n c->U j=.slice (some ⟨g,0,none⟩) m d->n<=m/\c=d
 sep:∀ i j,i<K->j<K->i≠j->∀ g,((V i).ownBlock=some g\/(U i).ownBlock=some g)->¬ ((V j).ownBlock=some g\/(U j).ownBlock=some g)
section
variable {e:TypeId} {sz base:Nat} {w:World} {K:Nat} {V U:Nat->Value} {N M:Nat->Nat} {X Y:Nat->List Value}
theorem Fam.reset (h:Fam e sz base w K V U N M X Y):Fam e sz base w K V V N N X X :=
 ⟨h.v,h.v,fun j _ g n c m d h1 h2=>by rw[h1]at h2;cases h2;exact⟨Nat.le_refl _,rfl⟩,fun i j hi hj hij g h1 h2=>h.sep i j hi hj hij g (.inl (h1.elim id id)) (.inl (h2.elim id id))⟩
theorem Fam.grown {w':World} {row:Option Nat} (h:Fam e sz base w K V U N M X Y) (hg:w.grownBy w' row) (hr:∀ g,row=some g->∀ j,j<K->(V j).ownBlock≠some g/\(U j).ownBlock≠some g):Fam e sz base w' K V U N M X Y :=
 ⟨fun j hj=>zB4 (h.v j hj) hg (fun g e=>(hr g e j hj).1),fun j hj=>zB4 (h.u j hj) hg (fun g e=>(hr g e j hj).2),h.link,h.sep⟩
theorem Fam.below {w':World} (h:Fam e sz base w K V U N M X Y) (hb:Below w.heap.size w w'):Fam e sz base w' K V U N M X Y :=
 ⟨fun j hj=>zCD (h.v j hj) hb,fun j hj=>zCD (h.u j hj) hb,h.link,h.sep⟩
theorem Fam.other (h:Fam e sz base w K V U N M X Y) {g:Nat} {cur:Array Value} {e2:TypeId} {f:Nat × Nat} (hg:w.heap[g]?=some (.cells cur e2 f)) (hne:e≠e2):∀ j,j<K->(V j).ownBlock≠some g/\(U j).ownBlock≠some g:=by
 intro j hj;constructor
 ·intro hb;obtain⟨_,_,cur',h'⟩:=zA8 (h.v j hj) hb;rw[hg]at h';cases h';exact hne rfl
 ·intro hb;obtain⟨_,_,cur',h'⟩:=zA8 (h.u j hj) hb;rw[hg]at h';cases h';exact hne rfl
theorem Fam.append {w':World} {k:Nat} {v':Value} {news:List Value} {m:Nat} (h:Fam e sz base w K V U N M X Y) (hk:k<K) (ho:w'.ownsRow base e sz v' (M k+m) (Y k++news)) (hg:Grow w w' (U k) v') :
  Fam e sz base w' K V (fun j=>if j=k then v' else U j) N (fun j=>if j=k then M k+m else M j) X (fun j=>if j=k then Y k++news else Y j):=by
 have hany:=hg.any;have hoth:∀ j,j<K->j≠k->∀ g,(U k).ownBlock=some g->(V j).ownBlock≠some g/\(U j).ownBlock≠some g:=fun j hj hjk g hb =>
  ⟨fun h1=>h.sep k j hk hj (fun e=>hjk e.symm) g (.inr hb) (.inl h1),fun h1=>h.sep k j hk hj (fun e=>hjk e.symm) g (.inr hb) (.inr h1)⟩
 refine⟨fun j hj=>?_,fun j hj=>?_,fun j hj g n c m' d h1 h2=>?_,fun i j hi hj hij g h1 h2=>?_⟩
 ·by_cases hjk:j=k
  ·subst hjk;rcases hg with ⟨g,n,m',c,hu,rfl,hle,hgr⟩|⟨_,hgr⟩
   ·by_cases hvb:(V j).ownBlock=some g
    ·have hv:=h.v j hj;obtain⟨_,⟨hn,_⟩|⟨g',cap,cur,hv1,_⟩⟩:=id hv
     ·rw[hn]at hvb;cases hvb
     ·rw[hv1]at hvb;simp[Value.ownBlock]at hvb;subst hvb;obtain⟨h3,h4⟩:=h.link j hj _ _ _ _ _ hv1 hu;subst h4;have hu2:=h.u j hj;have hMn:M j=n:=by
       obtain⟨_,⟨e1,_⟩|⟨g1,c1,cur1,e1,_⟩⟩:=id hu2
       ·rw[hu]at e1;cases e1
       ·rw[hu]at e1;cases e1;rfl
      have hm':m'=M j+m:=by
       obtain⟨_,⟨e1,_⟩|⟨g1,c1,cur1,e1,_⟩⟩:=id ho
       ·cases e1
       ·cases e1;rfl
      subst hm';rw[hu,← hMn]at hu2;rw[hv1]at hv ⊢;have hx:=zPB hv hu2 (by omega)
      have:=zMH ho (n:=N j) (by omega)
      have hlen:=hu2.1;have hle2:N j * sz<=(Y j).length:=by rw[hlen];exact Nat.mul_le_mul_right _ (by omega)
      rw[List.take_append_of_le_length hle2,← hx]at this;exact this
    ·exact zB4 (h.v j hj) hgr (fun g' e=>by cases e;exact hvb)
   ·exact zB4 (h.v j hj) hgr (fun g e=>by cases e)
  ·exact zB4 (h.v j hj) hany (fun g e=>(hoth j hj hjk g e).1)
 ·by_cases hjk:j=k
  ·subst hjk;simpa using ho
  ·simp only[if_neg hjk];exact zB4 (h.u j hj) hany (fun g e=>(hoth j hj hjk g e).2)
 ·by_cases hjk:j=k
  ·subst hjk;simp only[if_true]at h2;rcases hg with ⟨g0,n0,m0,c0,hu,hv',hle,_⟩|⟨⟨m1,c1,hv'⟩,_⟩
   ·rw[h2]at hv';cases hv'
    obtain⟨h3,h4⟩:=h.link j hj _ _ _ _ _ h1 hu;exact⟨by omega,h4⟩
   ·exfalso
    rw[h2]at hv';cases hv'
    have:=(zA8 (h.v j hj) (g:=w.heap.size) (by rw[h1];rfl)).1
    omega
  ·simp only[if_neg hjk]at h2;exact h.link j hj g n c m' d h1 h2
 ·-- what is new in row k's blocks: the same block,or a new one
  have hnew:∀ g,v'.ownBlock=some g->(U k).ownBlock=some g\/g=w.heap.size:=fun g hb=>by
   rcases hg with ⟨g0,n0,m0,c0,hu,hv',_,_⟩|⟨⟨m1,c1,hv'⟩,_⟩
   ·rw[hv']at hb;rw[hu];exact .inl hb
   ·rw[hv']at hb;simp[Value.ownBlock]at hb;exact .inr hb.symm
  have hold:∀ j,j<K->∀ g,((V j).ownBlock=some g\/(U j).ownBlock=some g)->g<w.heap.size:=fun j hj g hb=>by
   rcases hb with hb|hb
   ·exact(zA8 (h.v j hj) hb).1
   ·exact(zA8 (h.u j hj) hb).1
  by_cases hik:i=k
  ·subst hik;have hji:j≠i:=fun e=>hij e.symm
   simp only[if_true]at h1;simp only[if_neg hji]at h2;rcases h1 with h1|h1
   ·exact h.sep i j hi hj hij g (.inl h1) h2
   ·rcases hnew g h1 with h3|h3
    ·exact h.sep i j hi hj hij g (.inr h3) h2
    ·have:=hold j hj g h2;omega
  ·simp only[if_neg hik]at h1
   by_cases hjk:j=k
   ·subst hjk;simp only[if_true]at h2;rcases h2 with h2|h2
    ·exact h.sep i j hi hj hij g h1 (.inl h2)
    ·rcases hnew g h2 with h3|h3
     ·exact h.sep i j hi hj hij g h1 (.inr h3)
     ·have:=hold i hi g h1;omega
   ·simp only[if_neg hjk]at h2;exact h.sep i j hi hj hij g h1 h2
end
def zEy (sz:Nat) (X:List Value) (i:Nat) (vs:List Value):List Value:=X.take (i * sz)++vs++X.drop (i * sz+sz)
theorem zMF {sz n i:Nat} {X vs:List Value} (hX:X.length=n * sz) (hv:vs.length=sz) (hi:i<n):(zEy sz X i vs).length=n * sz:=by
 have h1:(i+1) * sz<=n * sz:=Nat.mul_le_mul_right _ hi;have h2:(i+1) * sz=i * sz+sz:=Nat.succ_mul i sz;simp[zEy];omega
theorem zMM {sz n i:Nat} {X vs:List Value} (hX:X.length=n * sz) (hv:vs.length=sz) (hi:i<n) (q:Nat):(zEy sz X i vs)[q]?=if i * sz<=q/\q<i * sz+sz then vs[q - i * sz]? else X[q]?:=by
 have h1:(i+1) * sz<=n * sz:=Nat.mul_le_mul_right _ hi;have h2:(i+1) * sz=i * sz+sz:=Nat.succ_mul i sz;unfold zEy;rw[List.append_assoc]
 by_cases hq:q<i * sz
 ·rw[if_neg (by omega),List.getElem?_append_left (by simp;omega),List.getElem?_take_of_lt hq]
 ·rw[List.getElem?_append_right (by simp;omega)]
  have hl:(X.take (i * sz)).length=i * sz:=by simp;omega
  rw[hl]
  by_cases hq2:q<i * sz+sz
  ·rw[if_pos ⟨by omega,hq2⟩,List.getElem?_append_left (by omega)]
  ·rw[if_neg (by omega),List.getElem?_append_right (by omega),List.getElem?_drop]
   congr 1;omega
theorem zKy {sz n i:Nat} {X vs:List Value} (hX:X.length=n * sz) (hv:vs.length=sz) (hi:i<n):(zEy sz X i vs).take ((i+1) * sz)=X.take (i * sz)++vs:=by
 have h1:(i+1) * sz<=n * sz:=Nat.mul_le_mul_right _ hi;have h2:(i+1) * sz=i * sz+sz:=Nat.succ_mul i sz;unfold zEy;rw[List.take_append_of_le_length (by simp;omega),List.take_of_length_le (by simp;omega)]
theorem zJk {P:Program} {ops:Array Oper} {rest:List Oper} {o:Oper} {a:Act} {w:World} {Q:Exit->Act->World->Prop} (hg:Region.wanted o (yielded ops a.tmps)=true) (T:TypeId) (x y:Operand) (ho:o.op=.store T x y) {base g i sz n cap q:Nat} (hx:a.eval x=.pointer (some ⟨g,q,none⟩)) (hq:i * sz=q) {vs:Array Value} (hy:a.eval y=.agg vs) {e:TypeId} {xs:List Value}
  (hown:w.ownsRow base e sz (.slice (some ⟨g,0,none⟩) n cap) n xs) (hT:zCu P T sz=true) (hv:vs.size=sz) (h1:vs.toList.all (·.oneCell')=true) (hin:i<n)
  (h:∀ w',w.grownBy w' (some g)->w'.ownsRow base e sz (.slice (some ⟨g,0,none⟩) n cap) n (zEy sz xs i vs.toList)->wpList P ops Q rest (a.put o.dst undef) w'):wpList P ops Q (o::rest) a w :=
 zAw hg fun _ hK=>by
  subst hq;obtain⟨hlen,⟨hv',_⟩|⟨g',cap',cur,hv',hb,hg',hn,hc,hsz,ht⟩⟩:=hown
  ·cases hv'
  ·cases hv'
   have hm1:(i+1) * sz<=n * sz:=Nat.mul_le_mul_right _ hin;have hm2:n * sz<=cap * sz:=Nat.mul_le_mul_right _ hn;have hm3:(i+1) * sz=i * sz+sz:=Nat.succ_mul i sz;have hth:w.there g (i * sz) vs.size:=fun q hq=>by
    rw[cell_of_row w g (i * sz+q) cur e (0,0) hg'];simp[World.frozen?,hg'];omega
   have hvl:vs.toList.length=sz:=by simpa using hv
   unfold Oper.wp execOp;simp only[ho,hx,hy,Instr.storeAt,Instr.sureAddr,Sem.run_bind,Sem.run_pure,Result.andThen_ok,run_storeVar_mid (P:=P) w g (i * sz) T vs hth (by subst hv;simpa [zCu] using hT) (by rw[Array.all_toList]at h1;exact h1)]
   have hh:=zCj vs.toList (i * sz) w g cur e _ hg';refine hK _ _ (h _ (zCT vs.toList (i * sz) w g) ⟨zMF hlen hvl hin,.inr ⟨g,cap,_,rfl,hb,hh,hn,hc,?_,?_⟩⟩)
   ·rw[zKP,hsz]
   ·apply List.ext_getElem?;intro q;rw[zMM hlen hvl hin,List.getElem?_take,Array.getElem?_toList,zDR];have hcur:q<n * sz->cur[q]?=xs[q]?:=fun hq=>by
     rw[← ht,List.getElem?_take,if_pos hq,Array.getElem?_toList]
    by_cases hq:q<n * sz
    ·rw[if_pos hq]
     by_cases hc1:i * sz<=q/\q<i * sz+sz
     ·rw[if_pos hc1,if_pos (by rw[hvl,hsz];exact⟨hc1.1,hc1.2,by omega⟩)]
     ·rw[if_neg hc1,if_neg (by rw[hvl];exact fun h'=>hc1 ⟨h'.1,h'.2.1⟩),hcur hq]
    ·rw[if_neg hq,if_neg (by omega),List.getElem?_eq_none (by omega)]
section
variable {e:TypeId} {sz base:Nat} {w:World} {K:Nat} {V U:Nat->Value} {N M:Nat->Nat} {X Y:Nat->List Value}
theorem Fam.put (h:Fam e sz base w K V V N N X X) {w':World} {k g:Nat} {X':List Value} (hk:k<K) (hb:(V k).ownBlock=some g) (hg:w.grownBy w' (some g)) (ho:w'.ownsRow base e sz (V k) (N k) X') :
  Fam e sz base w' K V V N N (fun j=>if j=k then X' else X j) (fun j=>if j=k then X' else X j):=by
 have key:∀ j,j<K->w'.ownsRow base e sz (V j) (N j) (if j=k then X' else X j):=by
  intro j hj
  by_cases hjk:j=k
  ·subst hjk;simpa using ho
  ·simp only[if_neg hjk];refine zB4 (h.v j hj) hg (fun g' e hb'=>?_)
   cases e
   exact h.sep k j hk hj (fun e=>hjk e.symm) g (.inl hb) (.inl hb')
 exact⟨key,key,h.link,h.sep⟩
end
end
section
open Go.RowKit Go.Shelf
attribute [local go_sem] Oper.semAt_some
def zC8 (k i:Int):InstD:={kind:=0,next:=zI8 k i}
theorem zDE (k i:Int) (w0:World) (hk:0<=k/\k<=1000000) (hi:0<=i/\i<=1000000000000):Calls Tryz.prog 124 #[.int .i64 k,.int .i64 i] w0 (Rt (zAm (zC8 k i)) w0):=by
 have H:=Hold.start w0;have hm:=fun w=>(zLW k i w hk hi).mono (R':=fun e w'=>e=.returned (.int .i64 (zI8 k i))/\Below w.heap.size w w') (fun e w' h=>⟨h.1,by rw[← h.2];exact Below.refl _ _⟩)
 obtain⟨mk,hmk⟩:∃ mk,zI8 k i=mk:=⟨_,rfl⟩;rw[hmk]at hm;have HM:=Lib.hid hmk;clear hmk
 go_enter Tryz.func124,Tryz.ntmps124
 go_wp2_with (first|((with_reducible refine gBd ?_);refine bMkI ?_)|((with_reducible refine ch (hm _) H ?_);clear H;intro w H)|((with_reducible refine kg 4 ?_);(first|refine kA 4 H ?_|refine kS 4 H ?_|refine kB 4 H ?_);clear H;intro b4 w H;try simp only[nr]at H)|((with_reducible refine gTi ?_);refine aTi H ?_;clear H;intro w H;try simp only[nr]at H))
 refine zHi Tryz.results124 rfl H (i:=0) .zero zAg rfl rfl ?_
 exact⟨by unfold zC8;rw[HM.out],H.below⟩
end
end Go.Proofs.YtalggmbdpmdcbaaGreat
