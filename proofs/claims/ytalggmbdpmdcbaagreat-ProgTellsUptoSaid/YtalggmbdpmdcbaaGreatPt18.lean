/-
  Laws of walks, and walks.
-/
import Derived.Test.YtalggmbdpmdcbaaGreatPt17
import Derived.Test.YtalggmbdpmdcbaaGreatPt12
import Derived.Test.YtalggmbdpmdcbaaGreatPt14
set_option linter.unusedVariables false
set_option linter.unusedSimpArgs false
set_option maxRecDepth 100000
set_option maxHeartbeats 16000000
namespace Go.Proofs.YtalggmbdpmdcbaaGreat
section
open Go.RowKit Go.Shelf
attribute [local go_sem] Oper.semAt_some
def rowV (V:Nat->Value) (K:Nat):List Value:=(List.range K).map V
theorem zEe {V:Nat->Value} {K k:Nat} (h:k<K):(rowV V K)[k]?=some (V k):=by simp[rowV,h]
def zK0 (k n:Nat):List InstD:=(List.range n).map (fun i:Nat=>zC8 k i)
def mks (k n:Nat):List Value:=zAE ((zK0 k n).map zAL)
theorem zN5 (k n:Nat):(zK0 k n).length=n:=by simp[zK0]
theorem zLL (k n:Nat):mks k (n+1)=mks k n++(zAL (zC8 k n)).toList:=by
 unfold mks zK0;rw[List.range_succ,List.map_append,List.map_append,zAo];simp[zAE]
theorem zQx (k n:Nat):(mks k n).length=n * 9:=by unfold mks;rw[zBN (zAX _),List.length_map,zN5]
theorem zKa {k n i q:Nat} (h:i<n) (hq:q<9):(mks k n)[i * 9+q]?=(zAL (zC8 k i))[q]?:=zCU (zAX _) (by simp[zK0,h]) hq
theorem zK7 {k n m:Nat} (h:n<=m):(mks k m).take (n * 9)=mks k n:=by
 unfold mks;rw[zFx n (zAX _),← List.map_take]
 congr 2
 unfold zK0;rw[← List.map_take,List.take_range,Nat.min_eq_left h]
theorem zCY {w:World} {base:Nat} {e:TypeId} {s:Nat} {v:Value} {n:Nat} {xs:List Value} (h:w.ownsRow base e s v n xs):∃ p c,v=.slice p n c:=by
 rcases h.2 with ⟨h1,h'⟩|⟨g,cap,cur,h1,_⟩
 ·exact⟨none,0,by rw[h1,h']⟩
 ·exact⟨_,_,h1⟩
theorem zDh {w:World} {base:Nat} {e:TypeId} {s:Nat} {v:Value} {n:Nat} {xs:List Value} (h:w.ownsRow base e s v n xs) (hn:0<n):∃ g c,v=.slice (some ⟨g,0,none⟩) n c/\base<=g/\g<w.heap.size:=by
 rcases h.2 with ⟨h,h'⟩|⟨g,cap,cur,h,hb,h2,_⟩
 ·omega
 ·exact⟨g,cap,h,hb,(Array.getElem?_eq_some_iff.1 h2).1⟩
theorem zNb {w:World} {base base':Nat} {e e2:TypeId} {s s2:Nat} {v v2:Value} {n n2:Nat} {xs ys:List Value} (h:w.ownsRow base e s v n xs) (h2:w.ownsRow base' e2 s2 v2 n2 ys) (hne:e≠e2) {g:Nat} (hb:v.ownBlock=some g):v2.ownBlock≠some g:=by
 intro hb2;obtain⟨_,_,c1,e1⟩:=zA8 h hb;obtain⟨_,_,c2,e2'⟩:=zA8 h2 hb2;rw[e1]at e2';cases e2';exact hne rfl
theorem Fam.congr {e:TypeId} {sz base:Nat} {w:World} {K:Nat} {V U U':Nat->Value} {N M M':Nat->Nat} {X Y X' Y':Nat->List Value} (h:Fam e sz base w K V U N M X Y) (h1:∀ j,j<K->U' j=U j) (h2:∀ j,j<K->M' j=M j)
  (h3:∀ j,j<K->X' j=X j) (h4:∀ j,j<K->Y' j=Y j):Fam e sz base w K V U' N M' X' Y' :=
 ⟨fun j hj=>by rw[h3 j hj];exact h.v j hj,fun j hj=>by rw[h1 j hj,h2 j hj,h4 j hj];exact h.u j hj,fun j hj g n c m d a b=>h.link j hj g n c m d a (by rw[← h1 j hj];exact b),
  fun i j hi hj hij g a b=>h.sep i j hi hj hij g (by rw[← h1 i hi];exact a) (by rw[← h1 j hj];exact b)⟩
def Mine (K:Nat) (V:Nat->Value) (b:Nat):Prop:=∃ j,j<K/\(V j).ownBlock=some b
theorem KeepBut.grown' {M:Nat->Prop} {B:Nat} {X W W':World} {row:Option Nat} (h:KeepBut M B X W) (hg:W.grownBy W' row) (hB:B<=W.heap.size) (hr:∀ g,row=some g->M g\/B<=g):KeepBut M B X W' :=
 h.trans ⟨hg.os,hg.tape,hg.output,hg.size,fun k h1 h2=>hg.block k (by omega) (fun e=>by rcases hr k e.symm with h|h;exact h2 h;omega)⟩
structure FSt (base:Nat) (w0:World) (lsv:Value) (K:Nat) (V:Nat->Value) (N:Nat->Nat) (X:Nat->List Value) (w:World):Prop where
 ls:w.ownsRow base 32 1 lsv K (rowV V K)
 fam:Fam 47 9 base w K V V N N X X
 below:KeepBut (Mine K V) w0.heap.size w0 w
 size0:base<=w0.heap.size
theorem FSt.size {base:Nat} {w0:World} {lsv:Value} {K:Nat} {V:Nat->Value} {N:Nat->Nat} {X:Nat->List Value} {w:World} (h:FSt base w0 lsv K V N X w):base<=w.heap.size:=Nat.le_trans h.size0 h.below.size
theorem FSt.up {base:Nat} {w0:World} {lsv:Value} {K:Nat} {V:Nat->Value} {N:Nat->Nat} {X:Nat->List Value} {w w':World} (h:FSt base w0 lsv K V N X w) (hb:Below w.heap.size w w'):FSt base w0 lsv K V N X w' :=
 ⟨zCD h.ls hb,h.fam.below hb,h.below.trans (KeepBut.of_below (hb.mono h.below.size)),h.size0⟩
theorem FSt.put {base:Nat} {w0:World} {lsv:Value} {K:Nat} {V:Nat->Value} {N:Nat->Nat} {X:Nat->List Value} {w w':World} (h:FSt base w0 lsv K V N X w) {k g c:Nat} {X':List Value} (hk:k<K) (hv:V k=.slice (some ⟨g,0,none⟩) (N k) c) (hg:w.grownBy w' (some g)) (ho:w'.ownsRow base 47 9 (V k) (N k) X') :
  FSt base w0 lsv K V N (fun j=>if j=k then X' else X j) w':=by
 have hb:(V k).ownBlock=some g:=by rw[hv];rfl
 refine⟨zB4 h.ls hg (fun g' e=>by cases e;exact zNb (h.fam.v k hk) h.ls (by decide) hb),h.fam.put hk hb hg ho,?_,h.size0⟩
 exact h.below.grown' hg h.below.size (fun g' e=>by cases e;exact .inl ⟨k,hk,hb⟩)
theorem zPV {L:List Value} {i k n:Nat} (hl:L.length=n * 9) (h:L.take (i * 9)=mks k i) (hi:i<n):(zEy 9 L i (zAL (zC8 k i)).toList).take ((i+1) * 9)=mks k (i+1):=by
 rw[zKy hl rfl hi,h,zLL]
theorem zMJ {w:World} {g:Nat} {d:InstD} (h:w.heap[g]?=some (.cells (zAL d) 47 (0,0))):∀ (j:Nat) u,(zAL d).toList[j]?=some u->w.cell? ((⟨g,0,none⟩:Addr).add j)=some u:=by
 intro j u hj;rw[Addr.add_mid,Nat.zero_add,cell_of_row w g j _ _ _ h,← hj,Array.getElem?_toList]
theorem zJC (d:InstD):∀ u ∈ (zAL d).toList,u.oneCell'=true:=by
 intro u hu;have:(zAL d).toList.all (·.oneCell')=true:=rfl;exact List.all_eq_true.1 this u hu
structure GSt (base:Nat) (w0:World) (lsv gsv:Value) (K:Nat) (V U:Nat->Value) (N M:Nat->Nat) (Y:Nat->List Value) (gsl:List Value) (w:World):Prop where
 ls:w.ownsRow base 32 1 lsv K (rowV V K)
 gs:w.ownsRow base 32 1 gsv K gsl
 fam:Fam 47 9 base w K V U N M (fun j=>mks j (N j)) Y
 ne:∀ g,gsv.ownBlock=some g->lsv.ownBlock≠some g
 below:KeepBut (Mine K V) w0.heap.size w0 w
 size0:base<=w0.heap.size
 ub:∀ j,j<K->∀ g,(U j).ownBlock=some g->Mine K V g\/w0.heap.size<=g
 gb:∀ g,gsv.ownBlock=some g->w0.heap.size<=g
section
variable {base:Nat} {w0:World} {lsv gsv:Value} {K:Nat} {V U:Nat->Value} {N M:Nat->Nat} {Y:Nat->List Value} {gsl:List Value} {w w':World}
theorem GSt.up (h:GSt base w0 lsv gsv K V U N M Y gsl w) (hb:Below w.heap.size w w'):GSt base w0 lsv gsv K V U N M Y gsl w' :=
 ⟨zCD h.ls hb,zCD h.gs hb,h.fam.below hb,h.ne,h.below.trans (KeepBut.of_below (hb.mono h.below.size)),h.size0,h.ub,h.gb⟩
theorem GSt.size (h:GSt base w0 lsv gsv K V U N M Y gsl w):base<=w.heap.size:=Nat.le_trans h.size0 h.below.size
theorem GSt.append {k:Nat} {v':Value} {news:List Value} {m:Nat} (h:GSt base w0 lsv gsv K V U N M Y gsl w) (hk:k<K) (ho:w'.ownsRow base 47 9 v' (M k+m) (Y k++news)) (hg:Grow w w' (U k) v') :
  GSt base w0 lsv gsv K V (fun j=>if j=k then v' else U j) N (fun j=>if j=k then M k+m else M j) (fun j=>if j=k then Y k++news else Y j) gsl w':=by
 have hany:=hg.any;refine⟨zB4 h.ls hany (fun g e=>zNb (h.fam.u k hk) h.ls (by decide) e),zB4 h.gs hany (fun g e=>zNb (h.fam.u k hk) h.gs (by decide) e),h.fam.append hk ho hg,h.ne,h.below.grown' hany h.below.size (fun g e=>h.ub k hk g e),h.size0,fun j hj g hb=>?_,h.gb⟩
 by_cases hjk:j=k
 ·subst hjk;simp only[if_true]at hb;rcases hg with ⟨g0,n0,m0,c0,hu,hv',_,_⟩|⟨⟨m1,c1,hv'⟩,_⟩
  ·exact h.ub j hj g (by rw[hu];rw[hv']at hb;exact hb)
  ·rw[hv']at hb;simp[Value.ownBlock]at hb;exact .inr (by have:=h.below.size;omega)
 ·simp only[if_neg hjk]at hb;exact h.ub j hj g hb
theorem GSt.store {k gg c:Nat} (h:GSt base w0 lsv gsv K V U N M Y gsl w) (hv:gsv=.slice (some ⟨gg,0,none⟩) K c) (x:Value) :
  GSt base w0 lsv gsv K V U N M Y (gsl.set k x) (w.setCell ⟨gg,k,none⟩ x):=by
 have hb:gsv.ownBlock=some gg:=by rw[hv];rfl
 obtain⟨_,hbg,cur,hcur⟩:=zA8 h.gs hb;have hgs:=h.gs;rw[hv]at hgs;have hgr:=zEK w gg k x;refine⟨zB4 h.ls hgr (fun g e=>by cases e;exact h.ne gg hb),by rw[hv];exact zPe hgs x,h.fam.grown hgr (fun g e=>by cases e;exact h.fam.other hcur (by decide)),h.ne,?_,h.size0,h.ub,h.gb⟩
 exact h.below.grown' hgr h.below.size (fun g e=>by cases e;exact .inr (h.gb gg hb))
theorem GSt.reset (h:GSt base w0 lsv gsv K V U N M Y gsl w):GSt base w0 lsv gsv K V V N N (fun j=>mks j (N j)) gsl w :=
 ⟨h.ls,h.gs,h.fam.reset,h.ne,h.below,h.size0,fun j hj _ hb=>.inl ⟨j,hj,hb⟩,h.gb⟩
end
def Done (U:Nat->Value) (N M:Nat->Nat) (Y:Nat->List Value) (gsl:List Value) (j:Nat):Prop:=gsl[j]?=some (U j)/\M j=N j+64/\(Y j).take (N j * 9)=mks j (N j)
def Full (N:Nat->Nat) (Y:Nat->List Value) (j:Nat):Prop:=Y j=mks j (N j+64)
def zE2 (V U:Nat->Value) (N M:Nat->Nat) (Y:Nat->List Value) (j:Nat):Prop:=U j=V j/\M j=N j/\Y j=mks j (N j)
theorem zO8 {U:Nat->Value} {N M:Nat->Nat} {Y:Nat->List Value} {gsl:List Value} {j k:Nat} {v:Value} {m:Nat} {y:List Value} (h:Done U N M Y gsl j/\Full N Y j) (hjk:j≠k) :
  Done (fun j=>if j=k then v else U j) N (fun j=>if j=k then m else M j) (fun j=>if j=k then y else Y j) gsl j/\Full N (fun j=>if j=k then y else Y j) j:=by simpa [Done,Full,hjk] using h
theorem zOn {U:Nat->Value} {N M:Nat->Nat} {Y:Nat->List Value} {gsl:List Value} {j k:Nat} {v:Value} {m:Nat} {y:List Value} (h:Done U N M Y gsl j) (hjk:j≠k) :
  Done (fun j=>if j=k then v else U j) N (fun j=>if j=k then m else M j) (fun j=>if j=k then y else Y j) gsl j:=by simpa [Done,hjk] using h
theorem zHr {V U:Nat->Value} {N M:Nat->Nat} {Y:Nat->List Value} {j k:Nat} {v:Value} {m:Nat} {y:List Value} (h:zE2 V U N M Y j) (hjk:j≠k) :
  zE2 V (fun j=>if j=k then v else U j) N (fun j=>if j=k then m else M j) (fun j=>if j=k then y else Y j) j:=by simpa [zE2,hjk] using h
theorem zLQ {U:Nat->Value} {N M:Nat->Nat} {Y:Nat->List Value} {gsl:List Value} {j k:Nat} {v:Value} (h:Done U N M Y gsl j) (hjk:j≠k):Done U N M Y (gsl.set k v) j :=
 ⟨by rw[List.getElem?_set_ne (fun e=>hjk e.symm)];exact h.1,h.2⟩
theorem zQI {U:Nat->Value} {N M:Nat->Nat} {Y:Nat->List Value} {gsl:List Value} {k:Nat} (hk:k<gsl.length) (hm:M k=N k+64) (hy:(Y k).take (N k * 9)=mks k (N k)):Done U N M Y (gsl.set k (U k)) k :=
 ⟨by simp[hk],hm,hy⟩
theorem zH5 {base:Nat} {w0 w:World} {lsv gsv:Value} {K:Nat} {V U:Nat->Value} {N M:Nat->Nat} {Y:Nat->List Value} {gsl:List Value} (h:GSt base w0 lsv gsv K V U N M Y gsl w) {k:Nat} (hk:k<K) (hm:M k=N k+64) :
  ∃ gu cu,U k=.slice (some ⟨gu,0,none⟩) (N k+64) cu/\gu<w.heap.size/\∀ q,q<(N k+64) * 9->w.cell? ⟨gu,q,none⟩=(Y k)[q]?:=by
 have ho:=h.fam.u k hk;rw[hm]at ho;obtain⟨gu,cu,e,_,h2⟩:=zDh ho (by omega)
 refine⟨gu,cu,e,h2,fun q hq=>?_⟩
 rw[e]at ho;exact zBz ho hq
theorem zI7 {base:Nat} {w0 w:World} {lsv gsv:Value} {K:Nat} {V U:Nat->Value} {N M:Nat->Nat} {Y:Nat->List Value} {gsl:List Value} (h:GSt base w0 lsv gsv K V U N M Y gsl w) {k:Nat} (hk:k<K) (hn:0<N k) :
  ∃ gv cv,V k=.slice (some ⟨gv,0,none⟩) (N k) cv/\gv<w.heap.size/\∀ i,i<N k->∀ q,q<9->w.cell? ⟨gv,i * 9+q,none⟩=(zAL (zC8 k i))[q]?:=by
 have ho:=h.fam.v k hk;obtain⟨gv,cv,e,_,h2⟩:=zDh ho hn;refine⟨gv,cv,e,h2,fun i hi q hq=>?_⟩
 rw[e]at ho;rw[zBz ho (by omega),zKa hi hq]
theorem zNj:∀ u ∈ (madeCells (zAm {kind:=0}).cells (64 * 9)).toList,u.oneCell'=true:=by
 have:(madeCells (zAm {kind:=0}).cells (64 * 9)).toList.all (·.oneCell')=true:=by decide +kernel
 exact fun u hu=>List.all_eq_true.1 this u hu
theorem zKG {X vs:List Value} {i:Nat} (h1:∀ u ∈ X,u.oneCell'=true) (h2:∀ u ∈ vs,u.oneCell'=true):∀ u ∈ zEy 9 X i vs,u.oneCell'=true:=fun u hu=>by
 unfold zEy at hu;rcases List.mem_append.1 hu with hu|hu
 ·rcases List.mem_append.1 hu with hu|hu
  ·exact h1 u (List.mem_of_mem_take hu)
  ·exact h2 u hu
 ·exact h1 u (List.mem_of_mem_drop hu)
theorem zGp:(Tryz.prog.info? 32).map (fun i=>(i.zero,i.size,i.bytes))=some (some (.slice none 0 0),1,24):=by kernel_rfl
theorem zIs (lsv:Value) (K base:Nat) (V:Nat->Value) (N:Nat->Nat) (X:Nat->List Value) (w:World) (hK:K<=1000) (hN:∀ j,j<K->N j<=4194304) (hst:FSt base w lsv K V N X w) :
  Calls Tryz.prog 74 #[lsv] w fun e w'=>e=.returned (.bool true)/\∃ X',FSt base w lsv K V N X' w':=by
 obtain⟨pl,cl,rfl⟩:=zCY hst.ls;have HST:=Lib.hid hst;clear hst;have HN:=Lib.hid hN;clear hN;obtain⟨i0,hi0,hz0,hz1,hz2⟩:=info_parts zFc;obtain⟨i3,hi3,hy0,hy1,hy2⟩:=info_parts zGp
 go_enter Tryz.func74,Tryz.ntmps74
 go_wp2_with fail
 go_loopw [3,4] (fun n _ wr=>∃ k:Nat,k<=K/\n=.int .i64 k/\Hid (∃ X,FSt base w (.slice pl K cl) K V N X wr/\∀ j,j<k->X j=mks j (N j))) (fun n _ _=>K - (intOf n).toNat)
 case atStart=>exact⟨0,by omega,rfl,X,HST.out,fun j h=>by omega⟩
 case round =>
  clear HST;obtain⟨k,hk,rfl,G⟩:=hrel
  by_cases hlt:k<K
  ·obtain⟨wo,rfl⟩:∃ wo:World,wo=wr:=⟨_,rfl⟩;obtain⟨gl,rfl⟩:∃ gl,pl=some ⟨gl,0,none⟩:=by
    obtain⟨X,h,_⟩:=G.out;obtain⟨g,c,e,_⟩:=zDh h.ls (by omega)
    injection e with e1 _ _;exact⟨g,e1⟩
   obtain⟨pk,ck,hV⟩:∃ pk ck,V k=.slice pk (N k) ck:=by obtain⟨X,h,_⟩:=G.out;exact zCY (h.fam.v k hlt)
   have HV:=Lib.hid hV;clear hV;have hNk:=HN.out k hlt;obtain⟨nk,hnk⟩:∃ nk,N k=nk:=⟨_,rfl⟩;rw[hnk]at hNk HV;have HNK:=Lib.hid hnk;clear hnk
   go_wp2_with fail
   go_loopw [4] (fun n wr=>∃ i:Nat,i<=nk/\n=.int .i64 i/\Hid (∃ X,FSt base w (.slice (some ⟨gl,0,none⟩) K cl) K V N X wr/\(∀ j,j<k->X j=mks j (N j))/\(X k).take (i * 9)=mks k i)) (fun n _=>nk - (intOf n).toNat)
   case atStart=>obtain⟨X,h1,h2⟩:=G.out;exact⟨0,by omega,rfl,X,h1,h2,by simp[mks,zK0,zAE]⟩
   case round =>
    clear G;obtain⟨i,hi,rfl,G⟩:=hrel;obtain⟨X,G⟩:∃ X,Hid (FSt base w (.slice (some ⟨gl,0,none⟩) K cl) K V N X wr/\(∀ j,j<k->X j=mks j (N j))/\(X k).take (i * 9)=mks k i):=by obtain⟨X,h⟩:=G.out;exact⟨X,h⟩
    have hls:wr.cell? ⟨gl,k,none⟩=some (.slice pk nk ck):=by
     rw[zBz G.out.1.ls (by omega),zEe hlt,HV.out]
    have hglt:gl<wr.heap.size:=(zA8 G.out.1.ls rfl).1
    go_upto_region 5 with fail
    by_cases hil:i<nk
    ·--
     refine ws_ 7 [fun v _=>v=.int .i64 (i:Int),fun v _=>v=.slice (some ⟨gl,0,none⟩) K cl,fun v _=>v=.int .i64 (k:Int),fun v _=>v=.pointer (some ⟨gl,k,none⟩),fun v _=>v=.slice pk nk ck,fun v _=>v=.int .i64 ((nk:Nat):Int),fun v _=>v=.bool true] ?ob ?en
     case ob =>
      refine⟨?_,?_,?_,?_,?_,?_,?_,trivial⟩<;>intro A W h
      ·exact zAB rfl rfl (h.f 4)
      ·exact zAB rfl rfl (h.f 0)
      ·exact zAB rfl rfl (h.f 3)
      ·exact zA2 (sz:=1) Tryz.underlying39 (fun w=>by kernel_rfl) rfl rfl (h.d 1 23) (h.d 2 24) (by omega) (by omega)
      ·(have e25:A.eval (.tmp 25)=.pointer (some ⟨gl,k,none⟩):=h.d 3 25;refine zAA rfl ?_;simp only[execOp,e25];(have q:=(h.below.cell (p:=⟨gl,k,none⟩) hglt).trans hls;simp[go_sem,q]))
      ·exact zDV Tryz.underlying32 rfl rfl (h.d 4 26) (by decide)
      ·(have e22:A.eval (.tmp 22)=.int .i64 (i:Int):=h.d 0 22;have e27:A.eval (.tmp 27)=.int .i64 ((nk:Nat):Int):=h.d 5 27;refine zAA rfl ?_;simp only[execOp,e22,e27];(simp[go_sem]<;>omega))
     case en =>
      intro vals W hbw hv _;simp only[fa,Nat.reduceAdd];rw[e_ hv 0,e_ hv 1,e_ hv 2,e_ hv 3,e_ hv 4,e_ hv 5,e_ hv 6];clear hv
      try simp only[pl]
      have G1:=Lib.hid (G.out.1.up hbw);have hls1:=(hbw.cell (p:=⟨gl,k,none⟩) hglt).trans hls;have hgl1:gl<W.heap.size:=(zA8 G1.out.ls rfl).1;clear hbw hls hglt;obtain⟨g,hpk,hg1⟩:∃ g,pk=some ⟨g,0,none⟩/\g<W.heap.size:=by
       have hv:=G1.out.fam.v k hlt;obtain⟨g,c,e,_,h2⟩:=zDh hv (by rw[HNK.out];omega)
       rw[HV.out]at e;injection e with e1 _ _;exact⟨g,e1,h2⟩
      subst hpk
      go_upto_region 7 with fail
      refine wr_ 9 [fun v _=>v=.slice (some ⟨gl,0,none⟩) K cl,fun v _=>v=.int .i64 (k:Int),fun v _=>v=.pointer (some ⟨gl,k,none⟩),fun v _=>v=.slice (some ⟨g,0,none⟩) nk ck,fun v _=>v=.int .i64 (i:Int),fun v _=>v=.int .i64 (k:Int),fun v _=>v=.int .i64 (i:Int),fun v _=>v=zAm (zC8 k i),fun v _=>v=.pointer (some ⟨g,i * 9,none⟩)] ?ob ?en
      case ob =>
       refine⟨?_,?_,?_,?_,?_,?_,?_,?_,?_,trivial⟩<;>intro A W h
       ·exact zAB rfl rfl (h.f 0)
       ·exact zAB rfl rfl (h.f 3)
       ·exact zA2 (sz:=1) Tryz.underlying39 (fun w=>by kernel_rfl) rfl rfl (h.d 0 31) (h.d 1 32) (by omega) (by omega)
       ·(have e33:A.eval (.tmp 33)=.pointer (some ⟨gl,k,none⟩):=h.d 2 33;refine zAA rfl ?_;simp only[execOp,e33];(have q:=(h.below.cell (p:=⟨gl,k,none⟩) hgl1).trans hls1;simp[go_sem,q]))
       ·exact zAB rfl rfl (h.f 4)
       ·exact zAB rfl rfl (h.f 3)
       ·exact zAB rfl rfl (h.f 4)
       ·exact zBm rfl rfl (enters_of Tryz.func124 (by kernel_rfl) rfl) (zFI ⟨(h.d 5 36),(h.d 6 37)⟩) (zDE k i W (by omega) (by omega))
       ·exact zA2 (sz:=9) Tryz.underlying32 (fun w=>by kernel_rfl) rfl rfl (h.d 3 34) (h.d 4 35) (by omega) (by omega)
      case en =>
       intro vals W2 hbw hv _;simp only[fa,Nat.reduceAdd];rw[e_ hv 0,e_ hv 1,e_ hv 2,e_ hv 3,e_ hv 4,e_ hv 5,e_ hv 6,e_ hv 7,e_ hv 8];clear hv
       try simp only[pl]
       have G2:=Lib.hid (G1.out.up hbw);have hv2:=G2.out.fam.v k hlt;rw[HV.out,HNK.out]at hv2;have hl3:(X k).length=nk * 9:=hv2.1;refine zJk rfl 47 _ _ rfl (i:=i) rfl rfl rfl hv2 (by with_reducible exact zAu zAg) rfl rfl hil ?_
       intro w5 hg5 ho5;have G3:=Lib.hid (G2.out.put hlt (by rw[HV.out,HNK.out]) hg5 (by rw[HV.out,HNK.out];exact ho5))
       clear hv2 hg5 ho5 hbw G1 hls1
       go_wp2_with fail
       go_roundw
       case rel=>exact⟨i+1,by omega,by go_num,_,G3.out,fun j hj=>by rw[if_neg (by omega)];exact G.out.2.1 j hj,by simp only[if_true];exact zPV hl3 G.out.2.2 hil⟩
       case measure=>simp[intOf];omega
    ·--
     refine ws_ 7 [fun v _=>v=.int .i64 (i:Int),fun v _=>v=.slice (some ⟨gl,0,none⟩) K cl,fun v _=>v=.int .i64 (k:Int),fun v _=>v=.pointer (some ⟨gl,k,none⟩),fun v _=>v=.slice pk nk ck,fun v _=>v=.int .i64 ((nk:Nat):Int),fun v _=>v=.bool false] ?ob ?en
     case ob =>
      refine⟨?_,?_,?_,?_,?_,?_,?_,trivial⟩<;>intro A W h
      ·exact zAB rfl rfl (h.f 4)
      ·exact zAB rfl rfl (h.f 0)
      ·exact zAB rfl rfl (h.f 3)
      ·exact zA2 (sz:=1) Tryz.underlying39 (fun w=>by kernel_rfl) rfl rfl (h.d 1 23) (h.d 2 24) (by omega) (by omega)
      ·(have e25:A.eval (.tmp 25)=.pointer (some ⟨gl,k,none⟩):=h.d 3 25;refine zAA rfl ?_;simp only[execOp,e25];(have q:=(h.below.cell (p:=⟨gl,k,none⟩) hglt).trans hls;simp[go_sem,q]))
      ·exact zDV Tryz.underlying32 rfl rfl (h.d 4 26) (by decide)
      ·(have e22:A.eval (.tmp 22)=.int .i64 (i:Int):=h.d 0 22;have e27:A.eval (.tmp 27)=.int .i64 ((nk:Nat):Int):=h.d 5 27;refine zAA rfl ?_;simp only[execOp,e22,e27];(simp[go_sem]<;>omega))
     case en =>
      intro vals W hbw hv _;simp only[fa,Nat.reduceAdd];rw[e_ hv 0,e_ hv 1,e_ hv 2,e_ hv 3,e_ hv 4,e_ hv 5,e_ hv 6];clear hv
      try simp only[pl]
      have G1:=Lib.hid (G.out.1.up hbw);have hxk:X k=mks k (N k):=by have h1:=G.out.2.2;have h2:=(G.out.1.fam.v k hlt).1;have h3:i=N k:=(by rw[HNK.out];omega);rw[h3,List.take_of_length_le (by omega)]at h1;rw[h1]
      have HXK:=Lib.hid hxk;clear hxk;clear hbw hls hglt
      go_wp2_with fail
      go_roundw
      case rel=>exact⟨k+1,by omega,by go_num,X,G1.out,fun j hj=>by rcases Nat.lt_or_ge j k with h|h;exact G.out.2.1 j h;rw[show j=k from by omega];exact HXK.out⟩
      case measure=>simp[intOf];omega
  ·obtain rfl:K=k:=by omega
   obtain⟨X,hfs,hX⟩:=G.out;clear G;have hfam:=hfs.fam.congr (X':=fun j=>mks j (N j)) (Y':=fun j=>mks j (N j)) (U':=V) (M':=N) (fun _ _=>rfl) (fun _ _=>rfl) (fun j hj=>(hX j hj).symm) (fun j hj=>(hX j hj).symm)
   have F0:=Lib.hid (And.intro hfs.ls (And.intro hfam (And.intro hfs.below (And.intro hfs.size hfs.size0))));clear hfs hX hfam
   go_wp2_with (at_make;refine wpList_make_full _ rfl _ _ 39 rfl base 32 i3 (.slice none 0 0) 1 Tryz.underlying39 hi3 hy0 hy1 .i64 .i64 _ _ K rfl rfl rfl rfl (by rw[hy2];omega) (by unfold maxLen;omega) F0.out.2.2.2.1 ?_;intro w3 own3 grow3)
   have hgst:GSt base w (.slice pl K cl) (.slice (some ⟨wr.heap.size,0,none⟩) K K) K V V N N (fun j=>mks j (N j)) (madeCells (Value.slice none 0 0).cells (K * 1)).toList w3:=by
    have hb:Below wr.heap.size wr w3:=(Below.refl _ wr).grown grow3 (Nat.le_refl _) (fun k hk=>by cases hk)
    refine⟨zCD F0.out.1 hb,own3,F0.out.2.1.below hb,fun g h1 h2=>?_,F0.out.2.2.1.trans (KeepBut.of_below (hb.mono F0.out.2.2.1.size)),F0.out.2.2.2.2,fun j hj _ h1=>.inl ⟨j,hj,h1⟩,fun g h1=>by simp[Value.ownBlock]at h1;have:=F0.out.2.2.1.size;omega⟩
    have h3:=(zA8 F0.out.1 h2).1;simp[Value.ownBlock]at h1;omega
   generalize (madeCells (Value.slice none 0 0).cells (K * 1)).toList=gsl at hgst
   generalize wr.heap.size=gg at hgst ⊢
   have H0:=Lib.hid hgst;clear hgst own3 grow3 F0
   go_wp2_with fail
   go_loopw [6,7,8] (fun n _ _ wr=>∃ k:Nat,k<=K/\n=.int .i64 k/\Hid (∃ U M Y gsl,GSt base w (.slice pl K cl) (.slice (some ⟨gg,0,none⟩) K K) K V U N M Y gsl wr/\(∀ j,j<k->Done U N M Y gsl j/\Full N Y j)/\∀ j,k<=j->j<K->zE2 V U N M Y j)) (fun n _ _ _=>K - (intOf n).toNat)
   case atStart=>exact⟨0,by omega,rfl,V,N,_,gsl,H0.out,fun j h=>by omega,fun j _ _=>⟨rfl,rfl,rfl⟩⟩
   case round =>
    clear H0;obtain⟨k,hk,rfl,G⟩:=hrel
    by_cases hlt:k<K
    ·obtain⟨wo,rfl⟩:∃ wo:World,wo=wr:=⟨_,rfl⟩;obtain⟨gl,rfl⟩:∃ gl,pl=some ⟨gl,0,none⟩:=by
      obtain⟨_,_,_,_,h,_⟩:=G.out;obtain⟨g,c,e,_⟩:=zDh h.ls (by omega)
      injection e with e1 _ _;exact⟨g,e1⟩
     obtain⟨pk,ck,hV⟩:∃ pk ck,V k=.slice pk (N k) ck:=by obtain⟨_,_,_,_,h,_⟩:=G.out;exact zCY (h.fam.v k hlt)
     have HV:=Lib.hid hV;clear hV;have hNk:=HN.out k hlt;obtain⟨nk,hnk⟩:∃ nk,N k=nk:=⟨_,rfl⟩;rw[hnk]at hNk HV;have HNK:=Lib.hid hnk;clear hnk;have hls:wo.cell? ⟨gl,k,none⟩=some (.slice pk nk ck):=by
      obtain⟨_,_,_,_,h,_⟩:=G.out;rw[zBz h.ls (by omega),zEe hlt,HV.out]
     have hglt:gl<wo.heap.size:=by obtain⟨_,_,_,_,h,_⟩:=G.out;exact(zA8 h.ls rfl).1
     go_upto_region 12 with fail
     refine ws_ 5 [fun v _=>v=.slice (some ⟨gl,0,none⟩) K cl,fun v _=>v=.int .i64 (k:Int),fun v _=>v=.pointer (some ⟨gl,k,none⟩),fun v _=>v=.slice pk nk ck,fun v _=>v=.slice pk nk ck] ?ob ?en
     case ob =>
      refine⟨?_,?_,?_,?_,?_,trivial⟩<;>intro A W h
      ·exact zAB rfl rfl (h.f 0)
      ·exact zAB rfl rfl (h.f 6)
      ·exact zA2 (sz:=1) Tryz.underlying39 (fun w=>by kernel_rfl) rfl rfl (h.d 0 49) (h.d 1 50) (by omega) (by omega)
      ·(have e51:A.eval (.tmp 51)=.pointer (some ⟨gl,k,none⟩):=h.d 2 51;refine zAA rfl ?_;simp only[execOp,e51];(have q:=(h.below.cell (p:=⟨gl,k,none⟩) hglt).trans hls;simp[go_sem,q]))
      ·exact zB2 rfl rfl (h.d 3 52)
     case en =>
      intro vals W0 hbw hv _;simp only[fa,Nat.reduceAdd];rw[e_ hv 0,e_ hv 1,e_ hv 2,e_ hv 3,e_ hv 4];clear hv
      try simp only[pl]
      have G0:Hid (∃ U M Y gsl,GSt base w (.slice (some ⟨gl,0,none⟩) K cl) (.slice (some ⟨gg,0,none⟩) K K) K V U N M Y gsl W0/\(∀ j,j<k->Done U N M Y gsl j/\Full N Y j)/\(∀ j,k<j->j<K->zE2 V U N M Y j)/\U k=.slice pk nk ck/\M k=nk+0/\Y k=mks k (nk+0)):=by
       obtain⟨U,M,Y,gsl,h1,h2,h3⟩:=G.out;obtain⟨a1,a2,a3⟩:=h3 k (Nat.le_refl _) hlt;exact⟨U,M,Y,gsl,h1.up hbw,h2,fun j hj hjK=>h3 j (by omega) hjK,a1.trans HV.out,a2.trans HNK.out,by rw[a3,HNK.out];rfl⟩
      clear G hbw hls hglt
      go_wp2_with fail
      go_loopw [7,8] (fun u n wr=>∃ i:Nat,i<=64/\n=.int .i64 i/\Hid (∃ U M Y gsl,GSt base w (.slice (some ⟨gl,0,none⟩) K cl) (.slice (some ⟨gg,0,none⟩) K K) K V U N M Y gsl wr/\(∀ j,j<k->Done U N M Y gsl j/\Full N Y j)/\(∀ j,k<j->j<K->zE2 V U N M Y j)/\U k=u/\M k=nk+i/\Y k=mks k (nk+i))) (fun _ n _=>64 - (intOf n).toNat)
      case atStart=>exact⟨0,by omega,rfl,G0.out⟩
      case round =>
       clear G0;obtain⟨i,hi,rfl,G⟩:=hrel;obtain⟨U,M,Y,gsl,G⟩:∃ U M Y gsl,Hid (GSt base w (.slice (some ⟨gl,0,none⟩) K cl) (.slice (some ⟨gg,0,none⟩) K K) K V U N M Y gsl wr/\(∀ j,j<k->Done U N M Y gsl j/\Full N Y j)/\(∀ j,k<j->j<K->zE2 V U N M Y j)/\U k=u7/\M k=nk+i/\Y k=mks k (nk+i)):=by obtain⟨U,M,Y,gsl,h⟩:=G.out;exact⟨U,M,Y,gsl,h⟩
       have hls:wr.cell? ⟨gl,k,none⟩=some (.slice pk nk ck):=by
        rw[zBz G.out.1.ls (by omega),zEe hlt,HV.out]
       have hglt:gl<wr.heap.size:=(zA8 G.out.1.ls rfl).1
       by_cases hil:i<64
       ·go_upto_region 16 with fail
        refine zBw 11 [fun v _=>v=u7,fun v _=>v=.int .i64 (k:Int),fun v _=>v=.slice (some ⟨gl,0,none⟩) K cl,fun v _=>v=.int .i64 (k:Int),fun v _=>v=.pointer (some ⟨gl,k,none⟩),fun v _=>v=.slice pk nk ck,fun v _=>v=.int .i64 ((nk:Nat):Int),fun v _=>v=.int .i64 (i:Int),fun v _=>v=.int .i64 ((nk+i:Nat):Int),fun v _=>v=zAm (zC8 k ((nk+i:Nat):Int)),zCk 0 (zAL (zC8 k ((nk+i:Nat):Int))) 47] (fun _=>false) (by kernel_rfl) (by kernel_rfl) (by repeat (first|exact trivial|refine⟨zAJ _,?_⟩|refine⟨zA3 _ _ _,?_⟩)) (fun _ _ h=>by cases h) ?ob ?en
        case ob =>
         refine⟨?_,?_,?_,?_,?_,?_,?_,?_,?_,?_,?_,trivial⟩<;>intro A W h
         ·exact zAB rfl rfl (h.f 7)
         ·exact zAB rfl rfl (h.f 6)
         ·exact zAB rfl rfl (h.f 0)
         ·exact zAB rfl rfl (h.f 6)
         ·exact zA2 (sz:=1) Tryz.underlying39 (fun w=>by kernel_rfl) rfl rfl (h.d 2 59) (h.d 3 60) (by omega) (by omega)
         ·(have e61:A.eval (.tmp 61)=.pointer (some ⟨gl,k,none⟩):=h.d 4 61;refine zAA rfl ?_;simp only[execOp,e61];(have q:=(h.below.cell (p:=⟨gl,k,none⟩) hglt).trans hls;simp[go_sem,q]))
         ·exact zDV Tryz.underlying32 rfl rfl (h.d 5 62) (by decide)
         ·exact zAB rfl rfl (h.f 8)
         ·(have e63:A.eval (.tmp 63)=.int .i64 ((nk:Nat):Int):=h.d 6 63;have e64:A.eval (.tmp 64)=.int .i64 (i:Int):=h.d 7 64;refine zAA rfl ?_;simp only[execOp,e63,e64];(simp[go_sem]<;>(rw[IntKind.wrap_i64];omega)))
         ·exact zBm rfl rfl (enters_of Tryz.func124 (by kernel_rfl) rfl) (zFI ⟨(h.d 1 58),(h.d 8 65)⟩) (zDE k ((nk+i:Nat):Int) W (by omega) (by omega))
         ·exact zCX rfl rfl (h.d 9 66) (Nat.zero_le _) (by decide)
        case en =>
         intro vals W hbw hv _;have x10:=hv 10 (by omega);simp only[zAn]at x10
         simp only[fa,Nat.reduceAdd];rw[e_ hv 0,e_ hv 1,e_ hv 2,e_ hv 3,e_ hv 4,e_ hv 5,e_ hv 6,e_ hv 7,e_ hv 8,e_ hv 9];clear hv
         try simp only[pl]
         obtain⟨gb,e10,_,s10⟩:=x10;rw[e10];have G1:=G.out.1.up hbw;have hou:=G1.fam.u k hlt;rw[G.out.2.2.2.1,G.out.2.2.2.2.1]at hou;refine zCx W rfl _ _ 32 rfl base 47 i0 _ 9 72 Tryz.underlying32 hi0 hz0 hz1 hz2 rfl (by decide) u7 (nk+i) _ rfl hou ⟨gb,0,none⟩ 1 1 (zAL (zC8 k ((nk+i:Nat):Int))).toList rfl rfl (zMJ s10) (zJC _) (by unfold maxLen;omega) (by omega) G1.size (by decide) ?_
         intro v5 w5 own5 grow5;have G2:=Lib.hid (G1.append (v':=v5) (m:=1) (news:=(zAL (zC8 k ((nk+i:Nat):Int))).toList) hlt (by rw[G.out.2.2.2.2.1];exact own5) (by rw[G.out.2.2.2.1];exact grow5))
         have HY:Hid (Y k++(zAL (zC8 k ((nk+i:Nat):Int))).toList=mks k (nk+(i+1))):=by show _=_;rw[G.out.2.2.2.2.2,← Nat.add_assoc,zLL]
         clear G1 hou own5 grow5 s10 hbw hls hglt
         go_wp2_with fail
         go_roundw
         case rel=>exact⟨i+1,by omega,by go_num,_,_,_,gsl,G2.out,fun j hj=>zO8 (G.out.2.1 j hj) (by omega),fun j hj hjK=>zHr (G.out.2.2.1 j hj hjK) (by omega),by simp,by simp[G.out.2.2.2.2.1,Nat.add_assoc],by simp only[if_true];exact HY.out⟩
         case measure=>simp[intOf];omega
       ·obtain rfl:i=64:=by omega
        obtain⟨pu,cu,rfl⟩:∃ pu cu,u7=.slice pu (nk+64) cu:=by
         have:=G.out.1.fam.u k hlt;rw[G.out.2.2.2.1,G.out.2.2.2.2.1]at this;exact zCY this
        go_upto_region 17 with fail
        refine ws_ 4 [fun v _=>v=.slice (some ⟨gg,0,none⟩) K K,fun v _=>v=.int .i64 (k:Int),fun v _=>v=.slice pu (nk+64) cu,fun v _=>v=.pointer (some ⟨gg,k,none⟩)] ?ob ?en
        case ob =>
         refine⟨?_,?_,?_,?_,trivial⟩<;>intro A W h
         ·exact zAB rfl rfl (h.f 5)
         ·exact zAB rfl rfl (h.f 6)
         ·exact zAB rfl rfl (h.f 7)
         ·exact zA2 (sz:=1) Tryz.underlying39 (fun w=>by kernel_rfl) rfl rfl (h.d 0 69) (h.d 1 70) (by omega) (by omega)
        case en =>
         intro vals W3 hbw hv _;simp only[fa,Nat.reduceAdd];rw[e_ hv 0,e_ hv 1,e_ hv 2,e_ hv 3];clear hv
         try simp only[pl]
         have G1:=G.out.1.up hbw;have hgl:=G1.gs.1;obtain⟨z,hz⟩:∃ z,W3.cell? ⟨gg,k,none⟩=some z:=⟨_,(zBz G1.gs (k:=k) (by omega)).trans (List.getElem?_eq_getElem (by omega))⟩
         have hf:=zG6 G1.gs k;have hgl2:k<gsl.length:=by omega
         have G2:=Lib.hid (G1.store (k:=k) (gg:=gg) (c:=K) rfl (.slice pu (nk+64) cu));have GU:=Lib.hid G.out.2.2.2;have GD:=Lib.hid G.out.2.1;have GN:=Lib.hid G.out.2.2.1;clear G1 hgl hbw hls hglt G
         go_wp2_with fail
         go_roundw
         case rel=>exact⟨k+1,by omega,by go_num,U,M,Y,_,G2.out,fun j hj=>if hjk:j=k then by subst hjk;rw[← GU.out.1];exact⟨zQI hgl2 (by rw[GU.out.2.1,HNK.out]) (by rw[GU.out.2.2,HNK.out,zK7 (by omega)]),by unfold Full;rw[GU.out.2.2,HNK.out]⟩ else ⟨zLQ (GD.out j (by omega)).1 hjk,(GD.out j (by omega)).2⟩,fun j hj hjK=>GN.out j (by omega) hjK⟩
         case measure=>simp[intOf];omega
    ·obtain rfl:K=k:=by omega
     obtain⟨U,M,Y,gsl,hg,hd,_⟩:=G.out;clear G;obtain⟨wq,rfl⟩:∃ wq:World,wq=wr:=⟨_,rfl⟩;have G:=Lib.hid hg;clear hg;have D:=Lib.hid hd;clear hd
     go_wp2_with fail
     go_loopw [9,10] (fun n _ wr=>∃ k:Nat,k<=K/\n=.int .i64 k/\Hid (Below wq.heap.size wq wr)) (fun n _ _=>K - (intOf n).toNat)
     case atStart=>exact⟨0,by omega,rfl,Below.refl _ _⟩
     case round =>
      obtain⟨k,hk,rfl,B⟩:=hrel
      by_cases hlt:k<K
      ·obtain⟨wo,rfl⟩:∃ wo:World,wo=wr:=⟨_,rfl⟩;obtain⟨gl,rfl⟩:∃ gl,pl=some ⟨gl,0,none⟩:=by
        obtain⟨g,c,e,_⟩:=zDh G.out.ls (by omega)
        injection e with e1 _ _;exact⟨g,e1⟩
       obtain⟨pk,ck,hV⟩:∃ pk ck,V k=.slice pk (N k) ck:=zCY (G.out.fam.v k hlt);obtain⟨gu,cu,hU,hgu,hcu⟩:=zH5 G.out hlt (D.out k hlt).1.2.1;have hbr:=fun h=>zI7 G.out hlt h
       have hls:wq.cell? ⟨gl,k,none⟩=some (V k):=by rw[zBz G.out.ls (by omega),zEe hlt]
       have hgs:wq.cell? ⟨gg,k,none⟩=some (U k):=by rw[zBz G.out.gs (by omega)];exact(D.out k hlt).1.1
       have hglq:gl<wq.heap.size:=(zA8 G.out.ls rfl).1;have hggq:gg<wq.heap.size:=(zA8 G.out.gs rfl).1;have hcu2:∀ i,i<N k+64->∀ q,q<9->wq.cell? ⟨gu,i * 9+q,none⟩=(zAL (zC8 k i))[q]?:=fun i hi q hq=>by rw[hcu _ (by omega),(D.out k hlt).2];exact zKa hi hq
       have hNk:=HN.out k hlt;rw[hV]at hls hbr;rw[hU]at hgs
       generalize N k=nk at hls hbr hgs hcu2 hNk
       clear hcu hV hU;have HLS:=Lib.hid hls;clear hls;have HGS:=Lib.hid hgs;clear hgs;have HBR:=Lib.hid hbr;clear hbr;have HCU:=Lib.hid hcu2;clear hcu2
       go_wp2_with fail
       go_loopw [10] (fun n wr=>∃ i:Nat,i<=nk+64/\n=.int .i64 i/\Hid (Below wq.heap.size wq wr)) (fun n _=>nk+64 - (intOf n).toNat)
       case atStart=>exact⟨0,by omega,rfl,B.out⟩
       case round =>
        clear B;obtain⟨i,hi,rfl,B⟩:=hrel
        go_upto_region 22 with fail
        by_cases hil:i<nk+64
        ·have cu1:=Lib.hid (HCU.out i hil);refine ws_ 7 [fun v _=>v=.int .i64 (i:Int),fun v _=>v=.slice (some ⟨gg,0,none⟩) K K,fun v _=>v=.int .i64 (k:Int),fun v _=>v=.pointer (some ⟨gg,k,none⟩),fun v _=>v=.slice (some ⟨gu,0,none⟩) (nk+64) cu,fun v _=>v=.int .i64 ((nk+64:Nat):Int),fun v _=>v=.bool true] ?ob ?en
         case ob =>
          refine⟨?_,?_,?_,?_,?_,?_,?_,trivial⟩<;>intro A W h
          ·exact zAB rfl rfl (h.f 10)
          ·exact zAB rfl rfl (h.f 5)
          ·exact zAB rfl rfl (h.f 9)
          ·exact zA2 (sz:=1) Tryz.underlying39 (fun w=>by kernel_rfl) rfl rfl (h.d 1 80) (h.d 2 81) (by omega) (by omega)
          ·(have e82:A.eval (.tmp 82)=.pointer (some ⟨gg,k,none⟩):=h.d 3 82;refine zAA rfl ?_;simp only[execOp,e82];(have q:=((B.out.trans (h.below.mono B.out.size)).cell (p:=⟨gg,k,none⟩) hggq).trans HGS.out;simp[go_sem,q]))
          ·exact zDV Tryz.underlying32 rfl rfl (h.d 4 83) (by decide)
          ·(have e79:A.eval (.tmp 79)=.int .i64 (i:Int):=h.d 0 79;have e84:A.eval (.tmp 84)=.int .i64 ((nk+64:Nat):Int):=h.d 5 84;refine zAA rfl ?_;simp only[execOp,e79,e84];(simp[go_sem]<;>omega))
         case en =>
          intro vals W1 hbw hv _;simp only[fa,Nat.reduceAdd];rw[e_ hv 0,e_ hv 1,e_ hv 2,e_ hv 3,e_ hv 4,e_ hv 5,e_ hv 6];clear hv
          try simp only[pl]
          have B1:=Lib.hid (B.out.trans (hbw.mono B.out.size));clear hbw B
          go_upto_region 24 with fail
          by_cases hin:i<nk
          ·obtain⟨gv,cv,hV,hgv,hcv⟩:=HBR.out (by omega)
           injection hV with hV1 _ hV2
           subst hV1 hV2;have cv1:=Lib.hid (hcv i hin);clear hcv;refine wr_ 35 [fun v _=>v=.slice (some ⟨gg,0,none⟩) K K,fun v _=>v=.int .i64 (k:Int),fun v _=>v=.pointer (some ⟨gg,k,none⟩),fun v _=>v=.slice (some ⟨gu,0,none⟩) (nk+64) cu,fun v _=>v=.int .i64 (i:Int),fun v _=>v=.pointer (some ⟨gu,i * 9,none⟩),fun v _=>v=zAm (zC8 k i),fun v _=>v=.int .i64 (k:Int),fun v _=>v=.int .i64 (i:Int),fun v _=>v=zAm (zC8 k i),fun v _=>v=.bool true,fun v _=>v=.bool false,fun v _=>v=.bool false,fun v _=>v=.int .i64 (i:Int),fun v _=>v=.slice (some ⟨gl,0,none⟩) K cl,fun v _=>v=.int .i64 (k:Int),fun v _=>v=.pointer (some ⟨gl,k,none⟩),fun v _=>v=.slice (some ⟨gv,0,none⟩) nk ck,fun v _=>v=.int .i64 ((nk:Nat):Int),fun v _=>v=.bool true,fun v _=>v=.bool true,fun v _=>v=.slice (some ⟨gl,0,none⟩) K cl,fun v _=>v=.int .i64 (k:Int),fun v _=>v=.pointer (some ⟨gl,k,none⟩),fun v _=>v=.slice (some ⟨gv,0,none⟩) nk ck,fun v _=>v=.int .i64 (i:Int),fun v _=>v=.pointer (some ⟨gv,i * 9,none⟩),fun v _=>v=zAm (zC8 k i),fun v _=>v=.int .i64 (k:Int),fun v _=>v=.int .i64 (i:Int),fun v _=>v=zAm (zC8 k i),fun v _=>v=.bool true,fun v _=>v=.bool false,fun v _=>v=.bool false,fun v _=>v=.bool false] ?ob ?en
           case ob =>
            refine⟨?_,?_,?_,?_,?_,?_,?_,?_,?_,?_,?_,?_,?_,?_,?_,?_,?_,?_,?_,?_,?_,?_,?_,?_,?_,?_,?_,?_,?_,?_,?_,?_,?_,?_,?_,trivial⟩<;>intro A W h
            ·exact zAB rfl rfl (h.f 5)
            ·exact zAB rfl rfl (h.f 9)
            ·exact zA2 (sz:=1) Tryz.underlying39 (fun w=>by kernel_rfl) rfl rfl (h.d 0 88) (h.d 1 89) (by omega) (by omega)
            ·(have e90:A.eval (.tmp 90)=.pointer (some ⟨gg,k,none⟩):=h.d 2 90;refine zAA rfl ?_;simp only[execOp,e90];(have q:=((B1.out.trans (h.below.mono B1.out.size)).cell (p:=⟨gg,k,none⟩) hggq).trans HGS.out;simp[go_sem,q]))
            ·exact zAB rfl rfl (h.f 10)
            ·exact zA2 (sz:=9) Tryz.underlying32 (fun w=>by kernel_rfl) rfl rfl (h.d 3 91) (h.d 4 92) (by omega) (by omega)
            ·exact zAA rfl (zAV rfl (h.d 5 93) zAg rfl (fun q hq=>((B1.out.trans (h.below.mono B1.out.size)).cell (p:=⟨gu,i * 9+q,none⟩) hgu).trans (cu1.out q hq))) (by decide)
            ·exact zAB rfl rfl (h.f 9)
            ·exact zAB rfl rfl (h.f 10)
            ·exact zBm rfl rfl (enters_of Tryz.func124 (by kernel_rfl) rfl) (zFI ⟨(h.d 7 95),(h.d 8 96)⟩) (zDE k i W (by omega) (by omega))
            ·exact zAA rfl (zDU rfl (h.d 6 94) (h.d 9 97)) (by decide)
            ·(have e98:A.eval (.tmp 98)=.bool true:=h.d 10 98;refine zAA rfl ?_;simp only[execOp,e98];simp[go_sem])
            ·exact zAB rfl rfl (h.d 11 99)
            ·exact zAB (wg (h.d 12 100)) rfl (h.f 10)
            ·exact zAB (wg (h.d 12 100)) rfl (h.f 0)
            ·exact zAB (wg (h.d 12 100)) rfl (h.f 9)
            ·exact zA2 (sz:=1) Tryz.underlying39 (fun w=>by kernel_rfl) (wg (h.d 12 100)) rfl (h.d 14 102) (h.d 15 103) (by omega) (by omega)
            ·(have e104:A.eval (.tmp 104)=.pointer (some ⟨gl,k,none⟩):=h.d 16 104;refine zAA (wg (h.d 12 100)) ?_;simp only[execOp,e104];(have q:=((B1.out.trans (h.below.mono B1.out.size)).cell (p:=⟨gl,k,none⟩) hglq).trans HLS.out;simp[go_sem,q]))
            ·exact zDV Tryz.underlying32 (wg (h.d 12 100)) rfl (h.d 17 105)
            ·(have e101:A.eval (.tmp 101)=.int .i64 (i:Int):=h.d 13 101;have e106:A.eval (.tmp 106)=.int .i64 ((nk:Nat):Int):=h.d 18 106;refine zAA (wg (h.d 12 100)) ?_;simp only[execOp,e101,e106];(simp[go_sem]<;>omega))
            ·exact zAB (wg (h.d 12 100)) rfl (h.d 19 107)
            ·exact zAB (wg (h.d 20 108)) rfl (h.f 0)
            ·exact zAB (wg (h.d 20 108)) rfl (h.f 9)
            ·exact zA2 (sz:=1) Tryz.underlying39 (fun w=>by kernel_rfl) (wg (h.d 20 108)) rfl (h.d 21 109) (h.d 22 110) (by omega) (by omega)
            ·(have e111:A.eval (.tmp 111)=.pointer (some ⟨gl,k,none⟩):=h.d 23 111;refine zAA (wg (h.d 20 108)) ?_;simp only[execOp,e111];(have q:=((B1.out.trans (h.below.mono B1.out.size)).cell (p:=⟨gl,k,none⟩) hglq).trans HLS.out;simp[go_sem,q]))
            ·exact zAB (wg (h.d 20 108)) rfl (h.f 10)
            ·exact zA2 (sz:=9) Tryz.underlying32 (fun w=>by kernel_rfl) (wg (h.d 20 108)) rfl (h.d 24 112) (h.d 25 113) (by omega) (by omega)
            ·exact zAA (wg (h.d 20 108)) (zAV rfl (h.d 26 114) zAg rfl (fun q hq=>((B1.out.trans (h.below.mono B1.out.size)).cell (p:=⟨gv,i * 9+q,none⟩) hgv).trans (cv1.out q hq))) (by decide)
            ·exact zAB (wg (h.d 20 108)) rfl (h.f 9)
            ·exact zAB (wg (h.d 20 108)) rfl (h.f 10)
            ·exact zBm (wg (h.d 20 108)) rfl (enters_of Tryz.func124 (by kernel_rfl) rfl) (zFI ⟨(h.d 28 116),(h.d 29 117)⟩) (zDE k i W (by omega) (by omega))
            ·exact zAA (wg (h.d 20 108)) (zDU rfl (h.d 27 115) (h.d 30 118)) (by decide)
            ·(have e119:A.eval (.tmp 119)=.bool true:=h.d 31 119;refine zAA (wg (h.d 20 108)) ?_;simp only[execOp,e119];simp[go_sem])
            ·exact zDS (wg (h.d 12 100)) rfl (h.d 20 108) (h.d 32 120)
            ·exact zDS rfl rfl (h.d 12 100) (h.d 33 121)
           case en =>
            intro vals W2 hbw hv _;simp only[fa,Nat.reduceAdd];rw[e_ hv 0,e_ hv 1,e_ hv 2,e_ hv 3,e_ hv 4,e_ hv 5,e_ hv 6,e_ hv 7,e_ hv 8,e_ hv 9,e_ hv 10,e_ hv 11,e_ hv 12,e_ hv 13,e_ hv 14,e_ hv 15,e_ hv 16,e_ hv 17,e_ hv 18,e_ hv 19,e_ hv 20,e_ hv 21,e_ hv 22,e_ hv 23,e_ hv 24,e_ hv 25,e_ hv 26,e_ hv 27,e_ hv 28,e_ hv 29,e_ hv 30,e_ hv 31,e_ hv 32,e_ hv 33,e_ hv 34];clear hv
            try simp only[pl]
            have B2:=Lib.hid (B1.out.trans (hbw.mono B1.out.size));clear hbw B1
            go_wp2_with fail
            go_roundw
            case rel=>exact⟨i+1,by omega,by go_num,B2.out⟩
            case measure=>simp[intOf];omega
          ·--
           refine wr_ 35 [fun v _=>v=.slice (some ⟨gg,0,none⟩) K K,fun v _=>v=.int .i64 (k:Int),fun v _=>v=.pointer (some ⟨gg,k,none⟩),fun v _=>v=.slice (some ⟨gu,0,none⟩) (nk+64) cu,fun v _=>v=.int .i64 (i:Int),fun v _=>v=.pointer (some ⟨gu,i * 9,none⟩),fun v _=>v=zAm (zC8 k i),fun v _=>v=.int .i64 (k:Int),fun v _=>v=.int .i64 (i:Int),fun v _=>v=zAm (zC8 k i),fun v _=>v=.bool true,fun v _=>v=.bool false,fun v _=>v=.bool false,fun v _=>v=.int .i64 (i:Int),fun v _=>v=.slice (some ⟨gl,0,none⟩) K cl,fun v _=>v=.int .i64 (k:Int),fun v _=>v=.pointer (some ⟨gl,k,none⟩),fun v _=>v=.slice pk nk ck,fun v _=>v=.int .i64 ((nk:Nat):Int),fun v _=>v=.bool false,fun v _=>v=.bool false,fun v _=>v=undef,fun v _=>v=undef,fun v _=>v=undef,fun v _=>v=undef,fun v _=>v=undef,fun v _=>v=undef,fun v _=>v=undef,fun v _=>v=undef,fun v _=>v=undef,fun v _=>v=undef,fun v _=>v=undef,fun v _=>v=undef,fun v _=>v=Value.bool false,fun v _=>v=Value.bool false] ?ob ?en
           case ob =>
            refine⟨?_,?_,?_,?_,?_,?_,?_,?_,?_,?_,?_,?_,?_,?_,?_,?_,?_,?_,?_,?_,?_,?_,?_,?_,?_,?_,?_,?_,?_,?_,?_,?_,?_,?_,?_,trivial⟩<;>intro A W h
            ·exact zAB rfl rfl (h.f 5)
            ·exact zAB rfl rfl (h.f 9)
            ·exact zA2 (sz:=1) Tryz.underlying39 (fun w=>by kernel_rfl) rfl rfl (h.d 0 88) (h.d 1 89) (by omega) (by omega)
            ·(have e90:A.eval (.tmp 90)=.pointer (some ⟨gg,k,none⟩):=h.d 2 90;refine zAA rfl ?_;simp only[execOp,e90];(have q:=((B1.out.trans (h.below.mono B1.out.size)).cell (p:=⟨gg,k,none⟩) hggq).trans HGS.out;simp[go_sem,q]))
            ·exact zAB rfl rfl (h.f 10)
            ·exact zA2 (sz:=9) Tryz.underlying32 (fun w=>by kernel_rfl) rfl rfl (h.d 3 91) (h.d 4 92) (by omega) (by omega)
            ·exact zAA rfl (zAV rfl (h.d 5 93) zAg rfl (fun q hq=>((B1.out.trans (h.below.mono B1.out.size)).cell (p:=⟨gu,i * 9+q,none⟩) hgu).trans (cu1.out q hq))) (by decide)
            ·exact zAB rfl rfl (h.f 9)
            ·exact zAB rfl rfl (h.f 10)
            ·exact zBm rfl rfl (enters_of Tryz.func124 (by kernel_rfl) rfl) (zFI ⟨(h.d 7 95),(h.d 8 96)⟩) (zDE k i W (by omega) (by omega))
            ·exact zAA rfl (zDU rfl (h.d 6 94) (h.d 9 97)) (by decide)
            ·(have e98:A.eval (.tmp 98)=.bool true:=h.d 10 98;refine zAA rfl ?_;simp only[execOp,e98];simp[go_sem])
            ·exact zAB rfl rfl (h.d 11 99)
            ·exact zAB (wg (h.d 12 100)) rfl (h.f 10)
            ·exact zAB (wg (h.d 12 100)) rfl (h.f 0)
            ·exact zAB (wg (h.d 12 100)) rfl (h.f 9)
            ·exact zA2 (sz:=1) Tryz.underlying39 (fun w=>by kernel_rfl) (wg (h.d 12 100)) rfl (h.d 14 102) (h.d 15 103) (by omega) (by omega)
            ·(have e104:A.eval (.tmp 104)=.pointer (some ⟨gl,k,none⟩):=h.d 16 104;refine zAA (wg (h.d 12 100)) ?_;simp only[execOp,e104];(have q:=((B1.out.trans (h.below.mono B1.out.size)).cell (p:=⟨gl,k,none⟩) hglq).trans HLS.out;simp[go_sem,q]))
            ·exact zDV Tryz.underlying32 (wg (h.d 12 100)) rfl (h.d 17 105)
            ·(have e101:A.eval (.tmp 101)=.int .i64 (i:Int):=h.d 13 101;have e106:A.eval (.tmp 106)=.int .i64 ((nk:Nat):Int):=h.d 18 106;refine zAA (wg (h.d 12 100)) ?_;simp only[execOp,e101,e106];(simp[go_sem]<;>omega))
            ·exact zAB (wg (h.d 12 100)) rfl (h.d 19 107)
            ·exact rsk (h.d 20 108)
            ·exact rsk (h.d 20 108)
            ·exact rsk (h.d 20 108)
            ·exact rsk (h.d 20 108)
            ·exact rsk (h.d 20 108)
            ·exact rsk (h.d 20 108)
            ·exact rsk (h.d 20 108)
            ·exact rsk (h.d 20 108)
            ·exact rsk (h.d 20 108)
            ·exact rsk (h.d 20 108)
            ·exact rsk (h.d 20 108)
            ·exact rsk (h.d 20 108)
            ·exact zDS (wg (h.d 12 100)) rfl (h.d 20 108) (rfl)
            ·exact zDS rfl rfl (h.d 12 100) (h.d 33 121)
           case en =>
            intro vals W2 hbw hv _;simp only[fa,Nat.reduceAdd];rw[e_ hv 0,e_ hv 1,e_ hv 2,e_ hv 3,e_ hv 4,e_ hv 5,e_ hv 6,e_ hv 7,e_ hv 8,e_ hv 9,e_ hv 10,e_ hv 11,e_ hv 12,e_ hv 13,e_ hv 14,e_ hv 15,e_ hv 16,e_ hv 17,e_ hv 18,e_ hv 19,e_ hv 20,e_ hv 21,e_ hv 22,e_ hv 23,e_ hv 24,e_ hv 25,e_ hv 26,e_ hv 27,e_ hv 28,e_ hv 29,e_ hv 30,e_ hv 31,e_ hv 32,e_ hv 33,e_ hv 34];clear hv
            try simp only[pl]
            have B2:=Lib.hid (B1.out.trans (hbw.mono B1.out.size));clear hbw B1
            go_wp2_with fail
            go_roundw
            case rel=>exact⟨i+1,by omega,by go_num,B2.out⟩
            case measure=>simp[intOf];omega
        ·obtain rfl:i=nk+64:=by omega
         refine ws_ 7 [fun v _=>v=.int .i64 ((nk+64:Nat):Int),fun v _=>v=.slice (some ⟨gg,0,none⟩) K K,fun v _=>v=.int .i64 (k:Int),fun v _=>v=.pointer (some ⟨gg,k,none⟩),fun v _=>v=.slice (some ⟨gu,0,none⟩) (nk+64) cu,fun v _=>v=.int .i64 ((nk+64:Nat):Int),fun v _=>v=.bool false] ?ob ?en
         case ob =>
          refine⟨?_,?_,?_,?_,?_,?_,?_,trivial⟩<;>intro A W h
          ·exact zAB rfl rfl (h.f 10)
          ·exact zAB rfl rfl (h.f 5)
          ·exact zAB rfl rfl (h.f 9)
          ·exact zA2 (sz:=1) Tryz.underlying39 (fun w=>by kernel_rfl) rfl rfl (h.d 1 80) (h.d 2 81) (by omega) (by omega)
          ·(have e82:A.eval (.tmp 82)=.pointer (some ⟨gg,k,none⟩):=h.d 3 82;refine zAA rfl ?_;simp only[execOp,e82];(have q:=((B.out.trans (h.below.mono B.out.size)).cell (p:=⟨gg,k,none⟩) hggq).trans HGS.out;simp[go_sem,q]))
          ·exact zDV Tryz.underlying32 rfl rfl (h.d 4 83) (by decide)
          ·(have e79:A.eval (.tmp 79)=.int .i64 ((nk+64:Nat):Int):=h.d 0 79;have e84:A.eval (.tmp 84)=.int .i64 ((nk+64:Nat):Int):=h.d 5 84;refine zAA rfl ?_;simp only[execOp,e79,e84];(simp[go_sem]<;>omega))
         case en =>
          intro vals W1 hbw hv _;simp only[fa,Nat.reduceAdd];rw[e_ hv 0,e_ hv 1,e_ hv 2,e_ hv 3,e_ hv 4,e_ hv 5,e_ hv 6];clear hv
          try simp only[pl]
          have B1:=Lib.hid (B.out.trans (hbw.mono B.out.size));clear hbw B
          go_wp2_with fail
          go_roundw
          case rel=>exact⟨k+1,by omega,by go_num,B1.out⟩
          case measure=>simp[intOf];omega
      ·obtain rfl:K=k:=by omega
       have G1:=Lib.hid ((G.out.up B.out).reset);clear G D B
       go_wp2_with fail
       go_loopw [11,12,13] (fun n _ _ wr=>∃ k:Nat,k<=K/\n=.int .i64 k/\Hid (∃ U M Y gsl,GSt base w (.slice pl K cl) (.slice (some ⟨gg,0,none⟩) K K) K V U N M Y gsl wr/\(∀ j,j<k->Done U N M Y gsl j)/\∀ j,k<=j->j<K->zE2 V U N M Y j)) (fun n _ _ _=>K - (intOf n).toNat)
       case atStart=>exact⟨0,by omega,rfl,V,N,_,gsl,G1.out,fun j h=>by omega,fun j _ _=>⟨rfl,rfl,rfl⟩⟩
       case round =>
        clear G1;obtain⟨k,hk,rfl,G⟩:=hrel
        by_cases hlt:k<K
        ·obtain⟨wo,rfl⟩:∃ wo:World,wo=wr:=⟨_,rfl⟩;obtain⟨U,M,Y,gsl,G⟩:∃ U M Y gsl,Hid (GSt base w (.slice pl K cl) (.slice (some ⟨gg,0,none⟩) K K) K V U N M Y gsl wo/\(∀ j,j<k->Done U N M Y gsl j)/\∀ j,k<=j->j<K->zE2 V U N M Y j):=by obtain⟨U,M,Y,gsl,h⟩:=G.out;exact⟨U,M,Y,gsl,h⟩
         obtain⟨gl,rfl⟩:∃ gl,pl=some ⟨gl,0,none⟩:=by
          obtain⟨g,c,e,_⟩:=zDh G.out.1.ls (by omega)
          injection e with e1 _ _;exact⟨g,e1⟩
         obtain⟨pk,ck,hV⟩:∃ pk ck,V k=.slice pk (N k) ck:=zCY (G.out.1.fam.v k hlt);have HV:=Lib.hid hV;clear hV;have hNk:=HN.out k hlt;obtain⟨nk,hnk⟩:∃ nk,N k=nk:=⟨_,rfl⟩;rw[hnk]at hNk HV;have HNK:=Lib.hid hnk;clear hnk
         go_wp2_with (at_make;refine wpList_make_full _ rfl _ _ 32 rfl wo.heap.size 47 i0 (zAm {kind:=0}) 9 Tryz.underlying32 hi0 hz0 hz1 .i64 .i64 _ _ 64 rfl rfl rfl rfl (by rw[hz2];omega) (by unfold maxLen;omega) (Nat.le_refl _) ?_;intro wm ownm growm)
         have bm:Below wo.heap.size wo wm:=(Below.refl _ wo).grown growm (Nat.le_refl _) (fun k hk=>by cases hk)
         have hL0:∀ u ∈ (madeCells (zAm {kind:=0}).cells (64 * 9)).toList,u.oneCell'=true:=zNj
         generalize (madeCells (zAm {kind:=0}).cells (64 * 9)).toList=L0 at ownm hL0
         have M0:=Lib.hid (And.intro ownm (And.intro hL0 bm));clear ownm hL0 bm growm
         go_wp2_with fail
         go_loopw [13] (fun n wr=>∃ i:Nat,i<=64/\n=.int .i64 i/\Hid (∃ L,wr.ownsRow wo.heap.size 47 9 (.slice (some ⟨wo.heap.size,0,none⟩) 64 64) 64 L/\(∀ u ∈ L,u.oneCell'=true)/\Below wo.heap.size wo wr)) (fun n _=>64 - (intOf n).toNat)
         case atStart=>exact⟨0,by omega,rfl,L0,M0.out⟩
         case round =>
          clear M0;obtain⟨i,hi,rfl,B⟩:=hrel;obtain⟨L,B⟩:∃ L,Hid (wr.ownsRow wo.heap.size 47 9 (.slice (some ⟨wo.heap.size,0,none⟩) 64 64) 64 L/\(∀ u ∈ L,u.oneCell'=true)/\Below wo.heap.size wo wr):=by obtain⟨L,h⟩:=B.out;exact⟨L,h⟩
          by_cases hil:i<64
          ·go_upto_region 33 with fail
           refine ws_ 9 [fun v _=>v=.slice (some ⟨wo.heap.size,0,none⟩) 64 64,fun v _=>v=.int .i64 (i:Int),fun v _=>v=.int .i64 (k:Int),fun v _=>v=.slice (some ⟨gl,0,none⟩) K cl,fun v _=>v=.int .i64 ((K:Nat):Int),fun v _=>v=.int .i64 ((k+K:Nat):Int),fun v _=>v=.int .i64 (i:Int),fun v _=>v=zAm (zC8 ((k+K:Nat):Int) i),fun v _=>v=.pointer (some ⟨wo.heap.size,i * 9,none⟩)] ?ob ?en
           case ob =>
            refine⟨?_,?_,?_,?_,?_,?_,?_,?_,?_,trivial⟩<;>intro A W h
            ·exact zAB rfl rfl (h.f 12)
            ·exact zAB rfl rfl (h.f 13)
            ·exact zAB rfl rfl (h.f 11)
            ·exact zAB rfl rfl (h.f 0)
            ·exact zDV Tryz.underlying39 rfl rfl (h.d 3 137)
            ·(have e136:A.eval (.tmp 136)=.int .i64 (k:Int):=h.d 2 136;have e138:A.eval (.tmp 138)=.int .i64 ((K:Nat):Int):=h.d 4 138;refine zAA rfl ?_;simp only[execOp,e136,e138];(simp[go_sem]<;>(rw[IntKind.wrap_i64];omega)))
            ·exact zAB rfl rfl (h.f 13)
            ·exact zBm rfl rfl (enters_of Tryz.func124 (by kernel_rfl) rfl) (zFI ⟨(h.d 5 139),(h.d 6 140)⟩) (zDE _ i W (by omega) (by omega))
            ·exact zA2 (sz:=9) Tryz.underlying32 (fun w=>by kernel_rfl) rfl rfl (h.d 0 134) (h.d 1 135) (by omega) (by omega)
           case en =>
            intro vals W1 hbw hv _;simp only[fa,Nat.reduceAdd];rw[e_ hv 0,e_ hv 1,e_ hv 2,e_ hv 3,e_ hv 4,e_ hv 5,e_ hv 6,e_ hv 7,e_ hv 8];clear hv
            try simp only[pl]
            have o1:=zCD B.out.1 hbw;have b1:=B.out.2.2.trans (hbw.mono B.out.2.2.size);refine zJk rfl 47 _ _ rfl (i:=i) rfl rfl rfl o1 (by with_reducible exact zAu zAg) rfl rfl hil ?_
            intro w5 hg5 ho5;have O2:=Lib.hid ho5;have B2:=Lib.hid (b1.grown hg5 b1.size (fun k hk=>by cases hk;exact Nat.le_refl _))
            clear o1 b1 hbw hg5 ho5
            go_wp2_with fail
            go_roundw
            case rel=>exact⟨i+1,by omega,by go_num,_,O2.out,fun u hu=>zKG B.out.2.1 (zJC _) u hu,B2.out⟩
            case measure=>simp[intOf];omega
          ·have G1:=Lib.hid (G.out.1.up B.out.2.2);have hls:wr.cell? ⟨gl,k,none⟩=some (.slice pk nk ck):=by rw[zBz G1.out.ls (by omega),zEe hlt,HV.out]
           have hglt:gl<wr.heap.size:=(zA8 G1.out.ls rfl).1
           go_upto_region 34 with fail
           refine ws_ 7 [fun v _=>v=.slice (some ⟨gg,0,none⟩) K K,fun v _=>v=.int .i64 (k:Int),fun v _=>v=.slice (some ⟨gl,0,none⟩) K cl,fun v _=>v=.int .i64 (k:Int),fun v _=>v=.pointer (some ⟨gl,k,none⟩),fun v _=>v=.slice pk nk ck,fun v _=>v=.slice (some ⟨wo.heap.size,0,none⟩) 64 64] ?ob ?en
           case ob =>
            refine⟨?_,?_,?_,?_,?_,?_,?_,trivial⟩<;>intro A W h
            ·exact zAB rfl rfl (h.f 5)
            ·exact zAB rfl rfl (h.f 11)
            ·exact zAB rfl rfl (h.f 0)
            ·exact zAB rfl rfl (h.f 11)
            ·exact zA2 (sz:=1) Tryz.underlying39 (fun w=>by kernel_rfl) rfl rfl (h.d 2 145) (h.d 3 146) (by omega) (by omega)
            ·(have e147:A.eval (.tmp 147)=.pointer (some ⟨gl,k,none⟩):=h.d 4 147;refine zAA rfl ?_;simp only[execOp,e147];(have q:=(h.below.cell (p:=⟨gl,k,none⟩) hglt).trans hls;simp[go_sem,q]))
            ·exact zAB rfl rfl (h.f 12)
           case en =>
            intro vals W1 hbw hv _;simp only[fa,Nat.reduceAdd];rw[e_ hv 0,e_ hv 1,e_ hv 2,e_ hv 3,e_ hv 4,e_ hv 5,e_ hv 6];clear hv
            try simp only[pl]
            have G2:=G1.out.up hbw;have o2:=zCD B.out.1 hbw;obtain⟨un1,un2,un3⟩:=G.out.2.2 k (Nat.le_refl _) hlt;have hou:=G2.fam.u k hlt;rw[un1,un2,un3,HV.out,HNK.out]at hou;refine zCx W1 rfl _ _ 32 rfl base 47 i0 _ 9 72 Tryz.underlying32 hi0 hz0 hz1 hz2 rfl (by decide) (.slice pk nk ck) nk _ rfl hou ⟨wo.heap.size,0,none⟩ 64 64 L rfl o2.1 (o2.cells (g:=wo.heap.size) rfl) B.out.2.1 (by unfold maxLen;omega) (by omega) G2.size (by decide) ?_
            intro v5 w5 own5 grow5;have G3:=G2.append (v':=v5) (m:=64) (news:=L) hlt (by rw[un2,un3,HNK.out];exact own5) (by rw[un1,HV.out];exact grow5)
            obtain⟨p5,c5,rfl⟩:=zCY own5;have hgl:=G3.gs.1;obtain⟨z,hz⟩:∃ z,w5.cell? ⟨gg,k,none⟩=some z:=⟨_,(zBz G3.gs (k:=k) (by omega)).trans (List.getElem?_eq_getElem (by omega))⟩
            have hf:=zG6 G3.gs k;have hgl2:k<gsl.length:=by omega
            have G4:=Lib.hid (G3.store (k:=k) (gg:=gg) (c:=K) rfl (.slice p5 (nk+64) c5));have HD:Hid (∀ j,j<k+1->Done (fun j=>if j=k then .slice p5 (nk+64) c5 else U j) N (fun j=>if j=k then M k+64 else M j) (fun j=>if j=k then Y k++L else Y j) (gsl.set k (.slice p5 (nk+64) c5)) j):=fun j hj=>if hjk:j=k then by subst hjk;exact⟨by simp[hgl2],by simp[un2],by simp only[if_true];rw[un3,List.take_append_of_le_length (by rw[zQx];omega),zK7 (by omega)]⟩ else zLQ (zOn (G.out.2.1 j (by omega)) hjk) hjk
            have HU:Hid (∀ j,k+1<=j->j<K->zE2 V (fun j=>if j=k then .slice p5 (nk+64) c5 else U j) N (fun j=>if j=k then M k+64 else M j) (fun j=>if j=k then Y k++L else Y j) j):=fun j hj hjK=>zHr (G.out.2.2 j (by omega) hjK) (by omega)
            clear G2 o2 hou un1 un2 un3 own5 grow5 G3 hgl hbw hls hglt G1
            go_wp2_with fail
            go_roundw
            case rel=>exact⟨k+1,by omega,by go_num,_,_,_,_,G4.out,HD.out,HU.out⟩
            case measure=>simp[intOf];omega
        ·obtain rfl:K=k:=by omega
         obtain⟨U,M,Y,gsl,hg,hd,_⟩:=G.out;clear G;obtain⟨wq,rfl⟩:∃ wq:World,wq=wr:=⟨_,rfl⟩;have G:=Lib.hid hg;clear hg;have D:=Lib.hid hd;clear hd
         go_wp2_with fail
         go_loopw [14,15] (fun n _ wr=>∃ k:Nat,k<=K/\n=.int .i64 k/\Hid (Below wq.heap.size wq wr)) (fun n _ _=>K - (intOf n).toNat)
         case atStart=>exact⟨0,by omega,rfl,Below.refl _ _⟩
         case round =>
          obtain⟨k,hk,rfl,B⟩:=hrel
          by_cases hlt:k<K
          ·obtain⟨wo,rfl⟩:∃ wo:World,wo=wr:=⟨_,rfl⟩;obtain⟨gl,rfl⟩:∃ gl,pl=some ⟨gl,0,none⟩:=by
            obtain⟨g,c,e,_⟩:=zDh G.out.ls (by omega)
            injection e with e1 _ _;exact⟨g,e1⟩
           obtain⟨pk,ck,hV⟩:∃ pk ck,V k=.slice pk (N k) ck:=zCY (G.out.fam.v k hlt);obtain⟨gu,cu,hU,hgu,hcu⟩:=zH5 G.out hlt (D.out k hlt).2.1;have hbr:=fun h=>zI7 G.out hlt h
           have hls:wq.cell? ⟨gl,k,none⟩=some (V k):=by rw[zBz G.out.ls (by omega),zEe hlt]
           have hgs:wq.cell? ⟨gg,k,none⟩=some (U k):=by rw[zBz G.out.gs (by omega)];exact(D.out k hlt).1
           have hglq:gl<wq.heap.size:=(zA8 G.out.ls rfl).1;have hggq:gg<wq.heap.size:=(zA8 G.out.gs rfl).1;have hcu2:∀ i,i<N k->∀ q,q<9->wq.cell? ⟨gu,i * 9+q,none⟩=(zAL (zC8 k i))[q]?:=fun i hi q hq=>by
            have h1:=(D.out k hlt).2.2;have h2:=zKa (k:=k) hi hq;rw[← h1,List.getElem?_take_of_lt (by omega)]at h2
            rw[hcu _ (by omega)];exact h2
           have hNk:=HN.out k hlt;rw[hV]at hls hbr;rw[hU]at hgs
           generalize N k=nk at hls hbr hgs hcu2 hNk
           clear hcu hV hU;have HLS:=Lib.hid hls;clear hls;have HGS:=Lib.hid hgs;clear hgs;have HBR:=Lib.hid hbr;clear hbr;have HCU:=Lib.hid hcu2;clear hcu2
           go_wp2_with fail
           go_loopw [15] (fun n wr=>∃ i:Nat,i<=nk/\n=.int .i64 i/\Hid (Below wq.heap.size wq wr)) (fun n _=>nk - (intOf n).toNat)
           case atStart=>exact⟨0,by omega,rfl,B.out⟩
           case round =>
            clear B;obtain⟨i,hi,rfl,B⟩:=hrel
            go_upto_region 39 with fail
            by_cases hil:i<nk
            ·have cu1:=Lib.hid (HCU.out i hil);obtain⟨gv,cv,hV,hgv,hcv⟩:=HBR.out (by omega)
             injection hV with hV1 _ hV2
             subst hV1 hV2;have cv1:=Lib.hid (hcv i hil);clear hcv;refine ws_ 7 [fun v _=>v=.int .i64 (i:Int),fun v _=>v=.slice (some ⟨gl,0,none⟩) K cl,fun v _=>v=.int .i64 (k:Int),fun v _=>v=.pointer (some ⟨gl,k,none⟩),fun v _=>v=.slice (some ⟨gv,0,none⟩) nk ck,fun v _=>v=.int .i64 ((nk:Nat):Int),fun v _=>v=.bool true] ?ob ?en
             case ob =>
              refine⟨?_,?_,?_,?_,?_,?_,?_,trivial⟩<;>intro A W h
              ·exact zAB rfl rfl (h.f 15)
              ·exact zAB rfl rfl (h.f 0)
              ·exact zAB rfl rfl (h.f 14)
              ·exact zA2 (sz:=1) Tryz.underlying39 (fun w=>by kernel_rfl) rfl rfl (h.d 1 159) (h.d 2 160) (by omega) (by omega)
              ·(have e161:A.eval (.tmp 161)=.pointer (some ⟨gl,k,none⟩):=h.d 3 161;refine zAA rfl ?_;simp only[execOp,e161];(have q:=((B.out.trans (h.below.mono B.out.size)).cell (p:=⟨gl,k,none⟩) hglq).trans HLS.out;simp[go_sem,q]))
              ·exact zDV Tryz.underlying32 rfl rfl (h.d 4 162) (by decide)
              ·(have e158:A.eval (.tmp 158)=.int .i64 (i:Int):=h.d 0 158;have e163:A.eval (.tmp 163)=.int .i64 ((nk:Nat):Int):=h.d 5 163;refine zAA rfl ?_;simp only[execOp,e158,e163];(simp[go_sem]<;>omega))
             case en =>
              intro vals W1 hbw hv _;simp only[fa,Nat.reduceAdd];rw[e_ hv 0,e_ hv 1,e_ hv 2,e_ hv 3,e_ hv 4,e_ hv 5,e_ hv 6];clear hv
              try simp only[pl]
              have B1:=Lib.hid (B.out.trans (hbw.mono B.out.size));clear hbw B
              go_upto_region 41 with fail
              refine wr_ 26 [fun v _=>v=.slice (some ⟨gl,0,none⟩) K cl,fun v _=>v=.int .i64 (k:Int),fun v _=>v=.pointer (some ⟨gl,k,none⟩),fun v _=>v=.slice (some ⟨gv,0,none⟩) nk ck,fun v _=>v=.int .i64 (i:Int),fun v _=>v=.pointer (some ⟨gv,i * 9,none⟩),fun v _=>v=zAm (zC8 k i),fun v _=>v=.int .i64 (k:Int),fun v _=>v=.int .i64 (i:Int),fun v _=>v=zAm (zC8 k i),fun v _=>v=.bool true,fun v _=>v=.bool false,fun v _=>v=.bool false,fun v _=>v=.slice (some ⟨gg,0,none⟩) K K,fun v _=>v=.int .i64 (k:Int),fun v _=>v=.pointer (some ⟨gg,k,none⟩),fun v _=>v=.slice (some ⟨gu,0,none⟩) (nk+64) cu,fun v _=>v=.int .i64 (i:Int),fun v _=>v=.pointer (some ⟨gu,i * 9,none⟩),fun v _=>v=zAm (zC8 k i),fun v _=>v=.int .i64 (k:Int),fun v _=>v=.int .i64 (i:Int),fun v _=>v=zAm (zC8 k i),fun v _=>v=.bool true,fun v _=>v=.bool false,fun v _=>v=.bool false] ?ob ?en
              case ob =>
               refine⟨?_,?_,?_,?_,?_,?_,?_,?_,?_,?_,?_,?_,?_,?_,?_,?_,?_,?_,?_,?_,?_,?_,?_,?_,?_,?_,trivial⟩<;>intro A W h
               ·exact zAB rfl rfl (h.f 0)
               ·exact zAB rfl rfl (h.f 14)
               ·exact zA2 (sz:=1) Tryz.underlying39 (fun w=>by kernel_rfl) rfl rfl (h.d 0 167) (h.d 1 168) (by omega) (by omega)
               ·(have e169:A.eval (.tmp 169)=.pointer (some ⟨gl,k,none⟩):=h.d 2 169;refine zAA rfl ?_;simp only[execOp,e169];(have q:=((B1.out.trans (h.below.mono B1.out.size)).cell (p:=⟨gl,k,none⟩) hglq).trans HLS.out;simp[go_sem,q]))
               ·exact zAB rfl rfl (h.f 15)
               ·exact zA2 (sz:=9) Tryz.underlying32 (fun w=>by kernel_rfl) rfl rfl (h.d 3 170) (h.d 4 171) (by omega) (by omega)
               ·exact zAA rfl (zAV rfl (h.d 5 172) zAg rfl (fun q hq=>((B1.out.trans (h.below.mono B1.out.size)).cell (p:=⟨gv,i * 9+q,none⟩) hgv).trans (cv1.out q hq))) (by decide)
               ·exact zAB rfl rfl (h.f 14)
               ·exact zAB rfl rfl (h.f 15)
               ·exact zBm rfl rfl (enters_of Tryz.func124 (by kernel_rfl) rfl) (zFI ⟨(h.d 7 174),(h.d 8 175)⟩) (zDE k i W (by omega) (by omega))
               ·exact zAA rfl (zDU rfl (h.d 6 173) (h.d 9 176)) (by decide)
               ·(have e177:A.eval (.tmp 177)=.bool true:=h.d 10 177;refine zAA rfl ?_;simp only[execOp,e177];simp[go_sem])
               ·exact zAB rfl rfl (h.d 11 178)
               ·exact zAB (wg (h.d 12 179)) rfl (h.f 5)
               ·exact zAB (wg (h.d 12 179)) rfl (h.f 14)
               ·exact zA2 (sz:=1) Tryz.underlying39 (fun w=>by kernel_rfl) (wg (h.d 12 179)) rfl (h.d 13 180) (h.d 14 181) (by omega) (by omega)
               ·(have e182:A.eval (.tmp 182)=.pointer (some ⟨gg,k,none⟩):=h.d 15 182;refine zAA (wg (h.d 12 179)) ?_;simp only[execOp,e182];(have q:=((B1.out.trans (h.below.mono B1.out.size)).cell (p:=⟨gg,k,none⟩) hggq).trans HGS.out;simp[go_sem,q]))
               ·exact zAB (wg (h.d 12 179)) rfl (h.f 15)
               ·exact zA2 (sz:=9) Tryz.underlying32 (fun w=>by kernel_rfl) (wg (h.d 12 179)) rfl (h.d 16 183) (h.d 17 184) (by omega) (by omega)
               ·exact zAA (wg (h.d 12 179)) (zAV rfl (h.d 18 185) zAg rfl (fun q hq=>((B1.out.trans (h.below.mono B1.out.size)).cell (p:=⟨gu,i * 9+q,none⟩) hgu).trans (cu1.out q hq))) (by decide)
               ·exact zAB (wg (h.d 12 179)) rfl (h.f 14)
               ·exact zAB (wg (h.d 12 179)) rfl (h.f 15)
               ·exact zBm (wg (h.d 12 179)) rfl (enters_of Tryz.func124 (by kernel_rfl) rfl) (zFI ⟨(h.d 20 187),(h.d 21 188)⟩) (zDE k i W (by omega) (by omega))
               ·exact zAA (wg (h.d 12 179)) (zDU rfl (h.d 19 186) (h.d 22 189)) (by decide)
               ·(have e190:A.eval (.tmp 190)=.bool true:=h.d 23 190;refine zAA (wg (h.d 12 179)) ?_;simp only[execOp,e190];simp[go_sem])
               ·exact zDS rfl rfl (h.d 12 179) (h.d 24 191)
              case en =>
               intro vals W2 hbw hv _;simp only[fa,Nat.reduceAdd];rw[e_ hv 0,e_ hv 1,e_ hv 2,e_ hv 3,e_ hv 4,e_ hv 5,e_ hv 6,e_ hv 7,e_ hv 8,e_ hv 9,e_ hv 10,e_ hv 11,e_ hv 12,e_ hv 13,e_ hv 14,e_ hv 15,e_ hv 16,e_ hv 17,e_ hv 18,e_ hv 19,e_ hv 20,e_ hv 21,e_ hv 22,e_ hv 23,e_ hv 24,e_ hv 25];clear hv
               try simp only[pl]
               have B2:=Lib.hid (B1.out.trans (hbw.mono B1.out.size));clear hbw B1
               go_wp2_with fail
               go_roundw
               case rel=>exact⟨i+1,by omega,by go_num,B2.out⟩
               case measure=>simp[intOf];omega
            ·obtain rfl:i=nk:=by omega
             refine ws_ 7 [fun v _=>v=.int .i64 (i:Int),fun v _=>v=.slice (some ⟨gl,0,none⟩) K cl,fun v _=>v=.int .i64 (k:Int),fun v _=>v=.pointer (some ⟨gl,k,none⟩),fun v _=>v=.slice pk i ck,fun v _=>v=.int .i64 ((i:Nat):Int),fun v _=>v=.bool false] ?ob ?en
             case ob =>
              refine⟨?_,?_,?_,?_,?_,?_,?_,trivial⟩<;>intro A W h
              ·exact zAB rfl rfl (h.f 15)
              ·exact zAB rfl rfl (h.f 0)
              ·exact zAB rfl rfl (h.f 14)
              ·exact zA2 (sz:=1) Tryz.underlying39 (fun w=>by kernel_rfl) rfl rfl (h.d 1 159) (h.d 2 160) (by omega) (by omega)
              ·(have e161:A.eval (.tmp 161)=.pointer (some ⟨gl,k,none⟩):=h.d 3 161;refine zAA rfl ?_;simp only[execOp,e161];(have q:=((B.out.trans (h.below.mono B.out.size)).cell (p:=⟨gl,k,none⟩) hglq).trans HLS.out;simp[go_sem,q]))
              ·exact zDV Tryz.underlying32 rfl rfl (h.d 4 162) (by decide)
              ·(have e158:A.eval (.tmp 158)=.int .i64 (i:Int):=h.d 0 158;have e163:A.eval (.tmp 163)=.int .i64 ((i:Nat):Int):=h.d 5 163;refine zAA rfl ?_;simp only[execOp,e158,e163];(simp[go_sem]<;>omega))
             case en =>
              intro vals W1 hbw hv _;simp only[fa,Nat.reduceAdd];rw[e_ hv 0,e_ hv 1,e_ hv 2,e_ hv 3,e_ hv 4,e_ hv 5,e_ hv 6];clear hv
              try simp only[pl]
              have B1:=Lib.hid (B.out.trans (hbw.mono B.out.size));clear hbw B
              go_wp2_with fail
              go_roundw
              case rel=>exact⟨k+1,by omega,by go_num,B1.out⟩
              case measure=>simp[intOf];omega
          ·obtain rfl:K=k:=by omega
           go_wp2
           go_ret;exact⟨rfl,_,⟨(G.out.up B.out).ls,(G.out.up B.out).reset.fam,(G.out.up B.out).below,G.out.size0⟩⟩
end
end Go.Proofs.YtalggmbdpmdcbaaGreat
