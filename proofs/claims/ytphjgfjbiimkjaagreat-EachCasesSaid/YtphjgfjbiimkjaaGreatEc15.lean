/-
  Laws of walks, and walks.
-/
import Derived.Test.YtphjgfjbiimkjaaGreatEc14
set_option linter.unusedVariables false
set_option linter.unusedSimpArgs false
set_option maxRecDepth 100000
set_option maxHeartbeats 16000000
namespace Go.Proofs.YtphjgfjbiimkjaaGreat
section
open Go.RowKit Go.Shelf
attribute [local go_sem] Oper.semAt_some
def rowV (V:Nat->Value) (K:Nat):List Value:=(List.range K).map V
theorem zDl {V:Nat->Value} {K k:Nat} (h:k<K):(rowV V K)[k]?=some (V k):=by simp[rowV,h]
def mks (k n:Nat):List Value:=(List.range n).map (fun i:Nat=>.int .i64 (zA6 k i))
theorem zKY (k n:Nat):mks k (n+1)=mks k n++[.int .i64 (zA6 k n)]:=by simp[mks,List.range_succ]
theorem zPM (k n:Nat):(mks k n).length=n:=by simp[mks]
theorem zJN {k n i:Nat} (h:i<n):(mks k n)[i]?=some (.int .i64 (zA6 k i)):=by simp[mks,h]
theorem zJs {k n m:Nat} (h:n<=m):(mks k m).take n=mks k n:=by
 apply List.ext_getElem
 ·simp[mks];omega
 ·intro i h1 h2;simp[mks]
theorem zBf {w:World} {base:Nat} {e:TypeId} {s:Nat} {v:Value} {n:Nat} {xs:List Value} (h:w.ownsRow base e s v n xs):∃ p c,v=.slice p n c:=by
 rcases h.2 with ⟨h1,h'⟩|⟨g,cap,cur,h1,_⟩
 ·exact⟨none,0,by rw[h1,h']⟩
 ·exact⟨_,_,h1⟩
theorem zCp {w:World} {base:Nat} {e:TypeId} {s:Nat} {v:Value} {n:Nat} {xs:List Value} (h:w.ownsRow base e s v n xs) (hn:0<n):∃ g c,v=.slice (some ⟨g,0,none⟩) n c/\base<=g/\g<w.heap.size:=by
 rcases h.2 with ⟨h,h'⟩|⟨g,cap,cur,h,hb,h2,_⟩
 ·omega
 ·exact⟨g,cap,h,hb,(Array.getElem?_eq_some_iff.1 h2).1⟩
theorem zMw {w:World} {base base':Nat} {e e2:TypeId} {s s2:Nat} {v v2:Value} {n n2:Nat} {xs ys:List Value} (h:w.ownsRow base e s v n xs) (h2:w.ownsRow base' e2 s2 v2 n2 ys) (hne:e≠e2) {g:Nat} (hb:v.ownBlock=some g):v2.ownBlock≠some g:=by
 intro hb2;obtain⟨_,_,c1,e1⟩:=zAm h hb;obtain⟨_,_,c2,e2'⟩:=zAm h2 hb2;rw[e1]at e2';cases e2';exact hne rfl
theorem Fam.congr {e:TypeId} {sz base:Nat} {w:World} {K:Nat} {V U U':Nat->Value} {N M M':Nat->Nat} {X Y X' Y':Nat->List Value} (h:Fam e sz base w K V U N M X Y) (h1:∀ j,j<K->U' j=U j) (h2:∀ j,j<K->M' j=M j)
  (h3:∀ j,j<K->X' j=X j) (h4:∀ j,j<K->Y' j=Y j):Fam e sz base w K V U' N M' X' Y' :=
 ⟨fun j hj=>by rw[h3 j hj];exact h.v j hj,fun j hj=>by rw[h1 j hj,h2 j hj,h4 j hj];exact h.u j hj,fun j hj g n c m d a b=>h.link j hj g n c m d a (by rw[← h1 j hj];exact b),
  fun i j hi hj hij g a b=>h.sep i j hi hj hij g (by rw[← h1 i hi];exact a) (by rw[← h1 j hj];exact b)⟩
def Mine (K:Nat) (V:Nat->Value) (b:Nat):Prop:=∃ j,j<K/\(V j).ownBlock=some b
theorem KeepBut.grown' {M:Nat->Prop} {B:Nat} {X W W':World} {row:Option Nat} (h:KeepBut M B X W) (hg:W.grownBy W' row) (hB:B<=W.heap.size) (hr:∀ g,row=some g->M g\/B<=g):KeepBut M B X W' :=
 h.trans ⟨hg.os,hg.tape,hg.output,hg.size,fun k h1 h2=>hg.block k (by omega) (fun e=>by rcases hr k e.symm with h|h;exact h2 h;omega)⟩
structure FSt (base:Nat) (w0:World) (lsv:Value) (K:Nat) (V:Nat->Value) (N:Nat->Nat) (X:Nat->List Value) (w:World):Prop where
 ls:w.ownsRow base 55 1 lsv K (rowV V K)
 fam:Fam 3 1 base w K V V N N X X
 below:KeepBut (Mine K V) w0.heap.size w0 w
 size0:base<=w0.heap.size
theorem FSt.size {base:Nat} {w0:World} {lsv:Value} {K:Nat} {V:Nat->Value} {N:Nat->Nat} {X:Nat->List Value} {w:World} (h:FSt base w0 lsv K V N X w):base<=w.heap.size:=Nat.le_trans h.size0 h.below.size
theorem FSt.up {base:Nat} {w0:World} {lsv:Value} {K:Nat} {V:Nat->Value} {N:Nat->Nat} {X:Nat->List Value} {w w':World} (h:FSt base w0 lsv K V N X w) (hb:Below w.heap.size w w'):FSt base w0 lsv K V N X w' :=
 ⟨zBT h.ls hb,h.fam.below hb,h.below.trans (KeepBut.of_below (hb.mono h.below.size)),h.size0⟩
theorem FSt.store {base:Nat} {w0:World} {lsv:Value} {K:Nat} {V:Nat->Value} {N:Nat->Nat} {X:Nat->List Value} {w:World} (h:FSt base w0 lsv K V N X w) {k g i c:Nat} (hk:k<K) (hv:V k=.slice (some ⟨g,0,none⟩) (N k) c) (x:Value) :
  FSt base w0 lsv K V N (fun j=>if j=k then (X k).set i x else X j) (w.setCell ⟨g,i,none⟩ x):=by
 have hb:(V k).ownBlock=some g:=by rw[hv];rfl
 refine⟨zBO h.ls (zBN w g i x) (fun g' e=>by cases e;exact zMw (h.fam.v k hk) h.ls (by decide) hb),h.fam.store hk hv x,?_,h.size0⟩
 exact h.below.grown' (zBN w g i x) h.below.size (fun g' e=>by cases e;exact .inl ⟨k,hk,hb⟩)
theorem take_set {L:List Value} {i k:Nat} {x:Value} (h:L.take i=mks k i) (hi:i<L.length) (hx:x=.int .i64 (zA6 k i)):(L.set i x).take (i+1)=mks k (i+1):=by
 subst hx;rw[zKY,← h];rw[List.take_succ_eq_append_getElem (by simpa using hi),List.take_set_of_le (Nat.le_refl _)]
 simp
structure GSt (base:Nat) (w0:World) (lsv gsv:Value) (K:Nat) (V U:Nat->Value) (N M:Nat->Nat) (Y:Nat->List Value) (gsl:List Value) (w:World):Prop where
 ls:w.ownsRow base 55 1 lsv K (rowV V K)
 gs:w.ownsRow base 55 1 gsv K gsl
 fam:Fam 3 1 base w K V U N M (fun j=>mks j (N j)) Y
 ne:∀ g,gsv.ownBlock=some g->lsv.ownBlock≠some g
 below:KeepBut (Mine K V) w0.heap.size w0 w
 size0:base<=w0.heap.size
 ub:∀ j,j<K->∀ g,(U j).ownBlock=some g->Mine K V g\/w0.heap.size<=g
 gb:∀ g,gsv.ownBlock=some g->w0.heap.size<=g
section
variable {base:Nat} {w0:World} {lsv gsv:Value} {K:Nat} {V U:Nat->Value} {N M:Nat->Nat} {Y:Nat->List Value} {gsl:List Value} {w w':World}
theorem GSt.up (h:GSt base w0 lsv gsv K V U N M Y gsl w) (hb:Below w.heap.size w w'):GSt base w0 lsv gsv K V U N M Y gsl w' :=
 ⟨zBT h.ls hb,zBT h.gs hb,h.fam.below hb,h.ne,h.below.trans (KeepBut.of_below (hb.mono h.below.size)),h.size0,h.ub,h.gb⟩
theorem GSt.size (h:GSt base w0 lsv gsv K V U N M Y gsl w):base<=w.heap.size:=Nat.le_trans h.size0 h.below.size
theorem GSt.append {k:Nat} {v':Value} {news:List Value} {m:Nat} (h:GSt base w0 lsv gsv K V U N M Y gsl w) (hk:k<K) (ho:w'.ownsRow base 3 1 v' (M k+m) (Y k++news)) (hg:Grow w w' (U k) v') :
  GSt base w0 lsv gsv K V (fun j=>if j=k then v' else U j) N (fun j=>if j=k then M k+m else M j) (fun j=>if j=k then Y k++news else Y j) gsl w':=by
 have hany:=hg.any;refine⟨zBO h.ls hany (fun g e=>zMw (h.fam.u k hk) h.ls (by decide) e),zBO h.gs hany (fun g e=>zMw (h.fam.u k hk) h.gs (by decide) e),h.fam.append hk ho hg,h.ne,h.below.grown' hany h.below.size (fun g e=>h.ub k hk g e),h.size0,fun j hj g hb=>?_,h.gb⟩
 by_cases hjk:j=k
 ·subst hjk;simp only[if_true]at hb;rcases hg with ⟨g0,n0,m0,c0,hu,hv',_,_⟩|⟨⟨m1,c1,hv'⟩,_⟩
  ·exact h.ub j hj g (by rw[hu];rw[hv']at hb;exact hb)
  ·rw[hv']at hb;simp[Value.ownBlock]at hb;exact .inr (by have:=h.below.size;omega)
 ·simp only[if_neg hjk]at hb;exact h.ub j hj g hb
theorem GSt.store {k gg c:Nat} (h:GSt base w0 lsv gsv K V U N M Y gsl w) (hv:gsv=.slice (some ⟨gg,0,none⟩) K c) (x:Value) :
  GSt base w0 lsv gsv K V U N M Y (gsl.set k x) (w.setCell ⟨gg,k,none⟩ x):=by
 have hb:gsv.ownBlock=some gg:=by rw[hv];rfl
 obtain⟨_,hbg,cur,hcur⟩:=zAm h.gs hb;have hgs:=h.gs;rw[hv]at hgs;have hgr:=zBN w gg k x;refine⟨zBO h.ls hgr (fun g e=>by cases e;exact h.ne gg hb),by rw[hv];exact zHZ hgs x,h.fam.grown hgr (fun g e=>by cases e;exact h.fam.other hcur (by decide)),h.ne,?_,h.size0,h.ub,h.gb⟩
 exact h.below.grown' hgr h.below.size (fun g e=>by cases e;exact .inr (h.gb gg hb))
theorem GSt.reset (h:GSt base w0 lsv gsv K V U N M Y gsl w):GSt base w0 lsv gsv K V V N N (fun j=>mks j (N j)) gsl w :=
 ⟨h.ls,h.gs,h.fam.reset,h.ne,h.below,h.size0,fun j hj _ hb=>.inl ⟨j,hj,hb⟩,h.gb⟩
end
def Done (U:Nat->Value) (N M:Nat->Nat) (Y:Nat->List Value) (gsl:List Value) (j:Nat):Prop:=gsl[j]?=some (U j)/\M j=N j+64/\(Y j).take (N j)=mks j (N j)
def Full (N:Nat->Nat) (Y:Nat->List Value) (j:Nat):Prop:=Y j=mks j (N j+64)
def zD2 (V U:Nat->Value) (N M:Nat->Nat) (Y:Nat->List Value) (j:Nat):Prop:=U j=V j/\M j=N j/\Y j=mks j (N j)
theorem zOG {U:Nat->Value} {N M:Nat->Nat} {Y:Nat->List Value} {gsl:List Value} {j k:Nat} {v:Value} {m:Nat} {y:List Value} (h:Done U N M Y gsl j/\Full N Y j) (hjk:j≠k) :
  Done (fun j=>if j=k then v else U j) N (fun j=>if j=k then m else M j) (fun j=>if j=k then y else Y j) gsl j/\Full N (fun j=>if j=k then y else Y j) j:=by simpa [Done,Full,hjk] using h
theorem zMM {U:Nat->Value} {N M:Nat->Nat} {Y:Nat->List Value} {gsl:List Value} {j k:Nat} {v:Value} {m:Nat} {y:List Value} (h:Done U N M Y gsl j) (hjk:j≠k) :
  Done (fun j=>if j=k then v else U j) N (fun j=>if j=k then m else M j) (fun j=>if j=k then y else Y j) gsl j:=by simpa [Done,hjk] using h
theorem zGz {V U:Nat->Value} {N M:Nat->Nat} {Y:Nat->List Value} {j k:Nat} {v:Value} {m:Nat} {y:List Value} (h:zD2 V U N M Y j) (hjk:j≠k) :
  zD2 V (fun j=>if j=k then v else U j) N (fun j=>if j=k then m else M j) (fun j=>if j=k then y else Y j) j:=by simpa [zD2,hjk] using h
theorem zKS {U:Nat->Value} {N M:Nat->Nat} {Y:Nat->List Value} {gsl:List Value} {j k:Nat} {v:Value} (h:Done U N M Y gsl j) (hjk:j≠k):Done U N M Y (gsl.set k v) j :=
 ⟨by rw[List.getElem?_set_ne (fun e=>hjk e.symm)];exact h.1,h.2⟩
theorem zPB {U:Nat->Value} {N M:Nat->Nat} {Y:Nat->List Value} {gsl:List Value} {k:Nat} (hk:k<gsl.length) (hm:M k=N k+64) (hy:(Y k).take (N k)=mks k (N k)):Done U N M Y (gsl.set k (U k)) k :=
 ⟨by simp[hk],hm,hy⟩
theorem zGi {base:Nat} {w0 w:World} {lsv gsv:Value} {K:Nat} {V U:Nat->Value} {N M:Nat->Nat} {Y:Nat->List Value} {gsl:List Value} (h:GSt base w0 lsv gsv K V U N M Y gsl w) {k:Nat} (hk:k<K) (hm:M k=N k+64) :
  ∃ gu cu,U k=.slice (some ⟨gu,0,none⟩) (N k+64) cu/\gu<w.heap.size/\∀ i x,i<N k+64->(Y k)[i]?=some x->w.cell? ⟨gu,i,none⟩=some x:=by
 have ho:=h.fam.u k hk;rw[hm]at ho;obtain⟨gu,cu,e,_,h2⟩:=zCp ho (by omega)
 refine⟨gu,cu,e,h2,fun i x hi hx=>?_⟩
 rw[e]at ho;rw[zBD ho (by omega),hx]
theorem zIS {base:Nat} {w0 w:World} {lsv gsv:Value} {K:Nat} {V U:Nat->Value} {N M:Nat->Nat} {Y:Nat->List Value} {gsl:List Value} (h:GSt base w0 lsv gsv K V U N M Y gsl w) {k:Nat} (hk:k<K) (hn:0<N k) :
  ∃ gv cv,V k=.slice (some ⟨gv,0,none⟩) (N k) cv/\gv<w.heap.size/\∀ i,i<N k->w.cell? ⟨gv,i,none⟩=some (.int .i64 (zA6 k i)):=by
 have ho:=h.fam.v k hk;obtain⟨gv,cv,e,_,h2⟩:=zCp ho hn;refine⟨gv,cv,e,h2,fun i hi=>?_⟩
 rw[e]at ho;rw[zBD ho (by omega),zJN hi]
theorem zIf:(Tryz.prog.info? 55).map (fun i=>(i.zero,i.size,i.bytes))=some (some (.slice none 0 0),1,24):=by kernel_rfl
theorem zIb (lsv:Value) (K base:Nat) (V:Nat->Value) (N:Nat->Nat) (X:Nat->List Value) (w:World) (hK:K<=1000) (hN:∀ j,j<K->N j<=4194304) (hst:FSt base w lsv K V N X w) :
  Calls Tryz.prog 80 #[lsv] w fun e w'=>e=.returned (.bool true)/\∃ X',FSt base w lsv K V N X' w':=by
 obtain⟨pl,cl,rfl⟩:=zBf hst.ls;have HST:=Lib.hid hst;clear hst;have HN:=Lib.hid hN;clear hN;obtain⟨i0,hi0,hz0,hz1,hz2⟩:=info_parts zM3;obtain⟨i3,hi3,hy0,hy1,hy2⟩:=info_parts zIf
 go_enter Tryz.func80,Tryz.ntmps80
 go_wp2_with fail
 go_loopw [3,4] (fun n _ wr=>∃ k:Nat,k<=K/\n=.int .i64 k/\Hid (∃ X,FSt base w (.slice pl K cl) K V N X wr/\∀ j,j<k->X j=mks j (N j))) (fun n _ _=>K - (intOf n).toNat)
 case atStart=>exact⟨0,by omega,rfl,X,HST.out,fun j h=>by omega⟩
 case round =>
  clear HST;obtain⟨k,hk,rfl,G⟩:=hrel
  by_cases hlt:k<K
  ·obtain⟨wo,rfl⟩:∃ wo:World,wo=wr:=⟨_,rfl⟩;obtain⟨gl,rfl⟩:∃ gl,pl=some ⟨gl,0,none⟩:=by
    obtain⟨X,h,_⟩:=G.out;obtain⟨g,c,e,_⟩:=zCp h.ls (by omega)
    injection e with e1 _ _;exact⟨g,e1⟩
   obtain⟨pk,ck,hV⟩:∃ pk ck,V k=.slice pk (N k) ck:=by obtain⟨X,h,_⟩:=G.out;exact zBf (h.fam.v k hlt)
   have HV:=Lib.hid hV;clear hV;have hNk:=HN.out k hlt;obtain⟨nk,hnk⟩:∃ nk,N k=nk:=⟨_,rfl⟩;rw[hnk]at hNk HV;have HNK:=Lib.hid hnk;clear hnk
   go_wp2_with fail
   go_loopw [4] (fun n wr=>∃ i:Nat,i<=nk/\n=.int .i64 i/\Hid (∃ X,FSt base w (.slice (some ⟨gl,0,none⟩) K cl) K V N X wr/\(∀ j,j<k->X j=mks j (N j))/\(X k).take i=mks k i)) (fun n _=>nk - (intOf n).toNat)
   case atStart=>obtain⟨X,h1,h2⟩:=G.out;exact⟨0,by omega,rfl,X,h1,h2,by simp[mks]⟩
   case round =>
    clear G;obtain⟨i,hi,rfl,G⟩:=hrel;obtain⟨X,G⟩:∃ X,Hid (FSt base w (.slice (some ⟨gl,0,none⟩) K cl) K V N X wr/\(∀ j,j<k->X j=mks j (N j))/\(X k).take i=mks k i):=by obtain⟨X,h⟩:=G.out;exact⟨X,h⟩
    have hls:wr.cell? ⟨gl,k,none⟩=some (.slice pk nk ck):=by
     rw[zBD G.out.1.ls (by omega),zDl hlt,HV.out]
    have hglt:gl<wr.heap.size:=(zAm G.out.1.ls rfl).1
    go_upto_region 5 with fail
    by_cases hil:i<nk
    ·--
     refine ws_ 7 [fun v _=>v=.int .i64 (i:Int),fun v _=>v=.slice (some ⟨gl,0,none⟩) K cl,fun v _=>v=.int .i64 (k:Int),fun v _=>v=.pointer (some ⟨gl,k,none⟩),fun v _=>v=.slice pk nk ck,fun v _=>v=.int .i64 ((nk:Nat):Int),fun v _=>v=.bool true] ?ob ?en
     case ob =>
      refine⟨?_,?_,?_,?_,?_,?_,?_,trivial⟩<;>intro A W h
      ·exact zAB rfl rfl (h.f 4)
      ·exact zAB rfl rfl (h.f 0)
      ·exact zAB rfl rfl (h.f 3)
      ·exact zAU (sz:=1) Tryz.underlying47 (fun w=>by kernel_rfl) rfl rfl (h.d 1 23) (h.d 2 24) (by omega) (by omega)
      ·(have e25:A.eval (.tmp 25)=.pointer (some ⟨gl,k,none⟩):=h.d 3 25;refine zAA rfl ?_;simp only[execOp,e25];(have q:=(h.below.cell (p:=⟨gl,k,none⟩) hglt).trans hls;simp[go_sem,q]))
      ·exact zBB Tryz.underlying55 rfl rfl (h.d 4 26) (by decide)
      ·(have e22:A.eval (.tmp 22)=.int .i64 (i:Int):=h.d 0 22;have e27:A.eval (.tmp 27)=.int .i64 ((nk:Nat):Int):=h.d 5 27;refine zAA rfl ?_;simp only[execOp,e22,e27];(simp[go_sem]<;>omega))
     case en =>
      intro vals W hbw hv _;simp only[fa,Nat.reduceAdd];rw[e_ hv 0,e_ hv 1,e_ hv 2,e_ hv 3,e_ hv 4,e_ hv 5,e_ hv 6];clear hv
      try simp only[pl]
      have G1:=Lib.hid (G.out.1.up hbw);have hls1:=(hbw.cell (p:=⟨gl,k,none⟩) hglt).trans hls;have hgl1:gl<W.heap.size:=(zAm G1.out.ls rfl).1;clear hbw hls hglt;obtain⟨g,hpk,hg1⟩:∃ g,pk=some ⟨g,0,none⟩/\g<W.heap.size:=by
       have hv:=G1.out.fam.v k hlt;obtain⟨g,c,e,_,h2⟩:=zCp hv (by rw[HNK.out];omega)
       rw[HV.out]at e;injection e with e1 _ _;exact⟨g,e1,h2⟩
      subst hpk
      go_upto_region 7 with fail
      refine wr_ 9 [fun v _=>v=.slice (some ⟨gl,0,none⟩) K cl,fun v _=>v=.int .i64 (k:Int),fun v _=>v=.pointer (some ⟨gl,k,none⟩),fun v _=>v=.slice (some ⟨g,0,none⟩) nk ck,fun v _=>v=.int .i64 (i:Int),fun v _=>v=.int .i64 (k:Int),fun v _=>v=.int .i64 (i:Int),fun v _=>v=.int .i64 (zA6 k i),fun v _=>v=.pointer (some ⟨g,i,none⟩)] ?ob ?en
      case ob =>
       refine⟨?_,?_,?_,?_,?_,?_,?_,?_,?_,trivial⟩<;>intro A W h
       ·exact zAB rfl rfl (h.f 0)
       ·exact zAB rfl rfl (h.f 3)
       ·exact zAU (sz:=1) Tryz.underlying47 (fun w=>by kernel_rfl) rfl rfl (h.d 0 31) (h.d 1 32) (by omega) (by omega)
       ·(have e33:A.eval (.tmp 33)=.pointer (some ⟨gl,k,none⟩):=h.d 2 33;refine zAA rfl ?_;simp only[execOp,e33];(have q:=(h.below.cell (p:=⟨gl,k,none⟩) hgl1).trans hls1;simp[go_sem,q]))
       ·exact zAB rfl rfl (h.f 4)
       ·exact zAB rfl rfl (h.f 3)
       ·exact zAB rfl rfl (h.f 4)
       ·exact zAc rfl rfl (enters_of Tryz.func48 (by kernel_rfl) rfl) (zBm ⟨(h.d 5 36),(h.d 6 37)⟩) ((zCE k i W (by omega) (by omega)).mono fun _ _ h=>⟨h.1,h.2 ▸ Below.refl _ _⟩)
       ·exact zAU (sz:=1) Tryz.underlying55 (fun w=>by kernel_rfl) rfl rfl (h.d 3 34) (h.d 4 35) (by omega) (by omega)
      case en =>
       intro vals W2 hbw hv _;simp only[fa,Nat.reduceAdd];rw[e_ hv 0,e_ hv 1,e_ hv 2,e_ hv 3,e_ hv 4,e_ hv 5,e_ hv 6,e_ hv 7,e_ hv 8];clear hv
       try simp only[pl]
       have G2:=Lib.hid (G1.out.up hbw);have hv2:=G2.out.fam.v k hlt;rw[HV.out,HNK.out]at hv2;obtain⟨z,hz⟩:∃ z,W2.cell? ⟨g,i,none⟩=some z:=by have:=zBD hv2 (k:=i) (by omega);rw[this];exact⟨_,List.getElem?_eq_getElem (by have:=hv2.1;omega)⟩
       have hf:=zC5 hv2 i;have hl2:=hv2.1;have G3:=Lib.hid (G2.out.store hlt (i:=i) (by rw[HV.out,HNK.out]) (.int .i64 (zA6 k i)))
       have hl3:i<(X k).length:=by omega
       clear hv2 hl2 hbw G1 hls1
       go_wp2_with fail
       go_roundw
       case rel=>exact⟨i+1,by omega,by go_num,_,G3.out,fun j hj=>by rw[if_neg (by omega)];exact G.out.2.1 j hj,by simp only[if_true];exact take_set G.out.2.2 hl3 rfl⟩
       case measure=>simp[intOf];omega
    ·--
     refine ws_ 7 [fun v _=>v=.int .i64 (i:Int),fun v _=>v=.slice (some ⟨gl,0,none⟩) K cl,fun v _=>v=.int .i64 (k:Int),fun v _=>v=.pointer (some ⟨gl,k,none⟩),fun v _=>v=.slice pk nk ck,fun v _=>v=.int .i64 ((nk:Nat):Int),fun v _=>v=.bool false] ?ob ?en
     case ob =>
      refine⟨?_,?_,?_,?_,?_,?_,?_,trivial⟩<;>intro A W h
      ·exact zAB rfl rfl (h.f 4)
      ·exact zAB rfl rfl (h.f 0)
      ·exact zAB rfl rfl (h.f 3)
      ·exact zAU (sz:=1) Tryz.underlying47 (fun w=>by kernel_rfl) rfl rfl (h.d 1 23) (h.d 2 24) (by omega) (by omega)
      ·(have e25:A.eval (.tmp 25)=.pointer (some ⟨gl,k,none⟩):=h.d 3 25;refine zAA rfl ?_;simp only[execOp,e25];(have q:=(h.below.cell (p:=⟨gl,k,none⟩) hglt).trans hls;simp[go_sem,q]))
      ·exact zBB Tryz.underlying55 rfl rfl (h.d 4 26) (by decide)
      ·(have e22:A.eval (.tmp 22)=.int .i64 (i:Int):=h.d 0 22;have e27:A.eval (.tmp 27)=.int .i64 ((nk:Nat):Int):=h.d 5 27;refine zAA rfl ?_;simp only[execOp,e22,e27];(simp[go_sem]<;>omega))
     case en =>
      intro vals W hbw hv _;simp only[fa,Nat.reduceAdd];rw[e_ hv 0,e_ hv 1,e_ hv 2,e_ hv 3,e_ hv 4,e_ hv 5,e_ hv 6];clear hv
      try simp only[pl]
      have G1:=Lib.hid (G.out.1.up hbw);have hxk:X k=mks k (N k):=by have h1:=G.out.2.2;have h2:=(G.out.1.fam.v k hlt).1;have h3:i=N k:=(by rw[HNK.out];omega);rw[List.take_of_length_le (by omega)]at h1;rw[h1,h3]
      have HXK:=Lib.hid hxk;clear hxk;clear hbw hls hglt
      go_wp2_with fail
      go_roundw
      case rel=>exact⟨k+1,by omega,by go_num,X,G1.out,fun j hj=>by rcases Nat.lt_or_ge j k with h|h;exact G.out.2.1 j h;rw[show j=k from by omega];exact HXK.out⟩
      case measure=>simp[intOf];omega
  ·obtain rfl:K=k:=by omega
   obtain⟨X,hfs,hX⟩:=G.out;clear G;have hfam:=hfs.fam.congr (X':=fun j=>mks j (N j)) (Y':=fun j=>mks j (N j)) (U':=V) (M':=N) (fun _ _=>rfl) (fun _ _=>rfl) (fun j hj=>(hX j hj).symm) (fun j hj=>(hX j hj).symm)
   have F0:=Lib.hid (And.intro hfs.ls (And.intro hfam (And.intro hfs.below (And.intro hfs.size hfs.size0))));clear hfs hX hfam
   go_wp2_with (at_make;refine wpList_make_full _ rfl _ _ 47 rfl base 55 i3 (.slice none 0 0) 1 Tryz.underlying47 hi3 hy0 hy1 .i64 .i64 _ _ K rfl rfl rfl rfl (by rw[hy2];omega) (by unfold maxLen;omega) F0.out.2.2.2.1 ?_;intro w3 own3 grow3)
   have hgst:GSt base w (.slice pl K cl) (.slice (some ⟨wr.heap.size,0,none⟩) K K) K V V N N (fun j=>mks j (N j)) (madeCells (Value.slice none 0 0).cells (K * 1)).toList w3:=by
    have hb:Below wr.heap.size wr w3:=(Below.refl _ wr).grown grow3 (Nat.le_refl _) (fun k hk=>by cases hk)
    refine⟨zBT F0.out.1 hb,own3,F0.out.2.1.below hb,fun g h1 h2=>?_,F0.out.2.2.1.trans (KeepBut.of_below (hb.mono F0.out.2.2.1.size)),F0.out.2.2.2.2,fun j hj _ h1=>.inl ⟨j,hj,h1⟩,fun g h1=>by simp[Value.ownBlock]at h1;have:=F0.out.2.2.1.size;omega⟩
    have h3:=(zAm F0.out.1 h2).1;simp[Value.ownBlock]at h1;omega
   generalize (madeCells (Value.slice none 0 0).cells (K * 1)).toList=gsl at hgst
   generalize wr.heap.size=gg at hgst ⊢
   have H0:=Lib.hid hgst;clear hgst own3 grow3 F0
   go_wp2_with fail
   go_loopw [6,7,8] (fun n _ _ wr=>∃ k:Nat,k<=K/\n=.int .i64 k/\Hid (∃ U M Y gsl,GSt base w (.slice pl K cl) (.slice (some ⟨gg,0,none⟩) K K) K V U N M Y gsl wr/\(∀ j,j<k->Done U N M Y gsl j/\Full N Y j)/\∀ j,k<=j->j<K->zD2 V U N M Y j)) (fun n _ _ _=>K - (intOf n).toNat)
   case atStart=>exact⟨0,by omega,rfl,V,N,_,gsl,H0.out,fun j h=>by omega,fun j _ _=>⟨rfl,rfl,rfl⟩⟩
   case round =>
    clear H0;obtain⟨k,hk,rfl,G⟩:=hrel
    by_cases hlt:k<K
    ·obtain⟨wo,rfl⟩:∃ wo:World,wo=wr:=⟨_,rfl⟩;obtain⟨gl,rfl⟩:∃ gl,pl=some ⟨gl,0,none⟩:=by
      obtain⟨_,_,_,_,h,_⟩:=G.out;obtain⟨g,c,e,_⟩:=zCp h.ls (by omega)
      injection e with e1 _ _;exact⟨g,e1⟩
     obtain⟨pk,ck,hV⟩:∃ pk ck,V k=.slice pk (N k) ck:=by obtain⟨_,_,_,_,h,_⟩:=G.out;exact zBf (h.fam.v k hlt)
     have HV:=Lib.hid hV;clear hV;have hNk:=HN.out k hlt;obtain⟨nk,hnk⟩:∃ nk,N k=nk:=⟨_,rfl⟩;rw[hnk]at hNk HV;have HNK:=Lib.hid hnk;clear hnk;have hls:wo.cell? ⟨gl,k,none⟩=some (.slice pk nk ck):=by
      obtain⟨_,_,_,_,h,_⟩:=G.out;rw[zBD h.ls (by omega),zDl hlt,HV.out]
     have hglt:gl<wo.heap.size:=by obtain⟨_,_,_,_,h,_⟩:=G.out;exact(zAm h.ls rfl).1
     go_upto_region 12 with fail
     refine ws_ 5 [fun v _=>v=.slice (some ⟨gl,0,none⟩) K cl,fun v _=>v=.int .i64 (k:Int),fun v _=>v=.pointer (some ⟨gl,k,none⟩),fun v _=>v=.slice pk nk ck,fun v _=>v=.slice pk nk ck] ?ob ?en
     case ob =>
      refine⟨?_,?_,?_,?_,?_,trivial⟩<;>intro A W h
      ·exact zAB rfl rfl (h.f 0)
      ·exact zAB rfl rfl (h.f 6)
      ·exact zAU (sz:=1) Tryz.underlying47 (fun w=>by kernel_rfl) rfl rfl (h.d 0 49) (h.d 1 50) (by omega) (by omega)
      ·(have e51:A.eval (.tmp 51)=.pointer (some ⟨gl,k,none⟩):=h.d 2 51;refine zAA rfl ?_;simp only[execOp,e51];(have q:=(h.below.cell (p:=⟨gl,k,none⟩) hglt).trans hls;simp[go_sem,q]))
      ·exact zCK rfl rfl (h.d 3 52)
     case en =>
      intro vals W0 hbw hv _;simp only[fa,Nat.reduceAdd];rw[e_ hv 0,e_ hv 1,e_ hv 2,e_ hv 3,e_ hv 4];clear hv
      try simp only[pl]
      have G0:Hid (∃ U M Y gsl,GSt base w (.slice (some ⟨gl,0,none⟩) K cl) (.slice (some ⟨gg,0,none⟩) K K) K V U N M Y gsl W0/\(∀ j,j<k->Done U N M Y gsl j/\Full N Y j)/\(∀ j,k<j->j<K->zD2 V U N M Y j)/\U k=.slice pk nk ck/\M k=nk+0/\Y k=mks k (nk+0)):=by
       obtain⟨U,M,Y,gsl,h1,h2,h3⟩:=G.out;obtain⟨a1,a2,a3⟩:=h3 k (Nat.le_refl _) hlt;exact⟨U,M,Y,gsl,h1.up hbw,h2,fun j hj hjK=>h3 j (by omega) hjK,a1.trans HV.out,a2.trans HNK.out,by rw[a3,HNK.out];rfl⟩
      clear G hbw hls hglt
      go_wp2_with fail
      go_loopw [7,8] (fun u n wr=>∃ i:Nat,i<=64/\n=.int .i64 i/\Hid (∃ U M Y gsl,GSt base w (.slice (some ⟨gl,0,none⟩) K cl) (.slice (some ⟨gg,0,none⟩) K K) K V U N M Y gsl wr/\(∀ j,j<k->Done U N M Y gsl j/\Full N Y j)/\(∀ j,k<j->j<K->zD2 V U N M Y j)/\U k=u/\M k=nk+i/\Y k=mks k (nk+i))) (fun _ n _=>64 - (intOf n).toNat)
      case atStart=>exact⟨0,by omega,rfl,G0.out⟩
      case round =>
       clear G0;obtain⟨i,hi,rfl,G⟩:=hrel;obtain⟨U,M,Y,gsl,G⟩:∃ U M Y gsl,Hid (GSt base w (.slice (some ⟨gl,0,none⟩) K cl) (.slice (some ⟨gg,0,none⟩) K K) K V U N M Y gsl wr/\(∀ j,j<k->Done U N M Y gsl j/\Full N Y j)/\(∀ j,k<j->j<K->zD2 V U N M Y j)/\U k=u7/\M k=nk+i/\Y k=mks k (nk+i)):=by obtain⟨U,M,Y,gsl,h⟩:=G.out;exact⟨U,M,Y,gsl,h⟩
       have hls:wr.cell? ⟨gl,k,none⟩=some (.slice pk nk ck):=by
        rw[zBD G.out.1.ls (by omega),zDl hlt,HV.out]
       have hglt:gl<wr.heap.size:=(zAm G.out.1.ls rfl).1
       by_cases hil:i<64
       ·go_upto_region 16 with fail
        refine zB1 11 [fun v _=>v=u7,fun v _=>v=.int .i64 (k:Int),fun v _=>v=.slice (some ⟨gl,0,none⟩) K cl,fun v _=>v=.int .i64 (k:Int),fun v _=>v=.pointer (some ⟨gl,k,none⟩),fun v _=>v=.slice pk nk ck,fun v _=>v=.int .i64 ((nk:Nat):Int),fun v _=>v=.int .i64 (i:Int),fun v _=>v=.int .i64 ((nk+i:Nat):Int),fun v _=>v=.int .i64 (zA6 k ((nk+i:Nat):Int)),OneV 3 (.int .i64 (zA6 k ((nk+i:Nat):Int)))] (fun _=>false) (by kernel_rfl) (by kernel_rfl) (by repeat (first|exact trivial|refine⟨zAI _,?_⟩|refine⟨zF9 _ _,?_⟩)) (fun _ _ h=>by cases h) ?ob ?en
        case ob =>
         refine⟨?_,?_,?_,?_,?_,?_,?_,?_,?_,?_,?_,trivial⟩<;>intro A W h
         ·exact zAB rfl rfl (h.f 7)
         ·exact zAB rfl rfl (h.f 6)
         ·exact zAB rfl rfl (h.f 0)
         ·exact zAB rfl rfl (h.f 6)
         ·exact zAU (sz:=1) Tryz.underlying47 (fun w=>by kernel_rfl) rfl rfl (h.d 2 59) (h.d 3 60) (by omega) (by omega)
         ·(have e61:A.eval (.tmp 61)=.pointer (some ⟨gl,k,none⟩):=h.d 4 61;refine zAA rfl ?_;simp only[execOp,e61];(have q:=(h.below.cell (p:=⟨gl,k,none⟩) hglt).trans hls;simp[go_sem,q]))
         ·exact zBB Tryz.underlying55 rfl rfl (h.d 5 62) (by decide)
         ·exact zAB rfl rfl (h.f 8)
         ·(have e63:A.eval (.tmp 63)=.int .i64 ((nk:Nat):Int):=h.d 6 63;have e64:A.eval (.tmp 64)=.int .i64 (i:Int):=h.d 7 64;refine zAA rfl ?_;simp only[execOp,e63,e64];(simp[go_sem]<;>(rw[IntKind.wrap_i64];omega)))
         ·exact zAc rfl rfl (enters_of Tryz.func48 (by kernel_rfl) rfl) (zBm ⟨(h.d 1 58),(h.d 8 65)⟩) ((zCE k ((nk+i:Nat):Int) W (by omega) (by omega)).mono fun _ _ h=>⟨h.1,h.2 ▸ Below.refl _ _⟩)
         ·exact zGm rfl rfl (h.d 9 66) (fun W=>by simp[go_sem]) (by decide)
        case en =>
         intro vals W hbw hv _;have x10:=hv 10 (by omega);simp only[zAO]at x10
         simp only[fa,Nat.reduceAdd];rw[e_ hv 0,e_ hv 1,e_ hv 2,e_ hv 3,e_ hv 4,e_ hv 5,e_ hv 6,e_ hv 7,e_ hv 8,e_ hv 9];clear hv
         try simp only[pl]
         obtain⟨gb,e10,s10⟩:=x10;rw[e10];have G1:=G.out.1.up hbw;have hou:=G1.fam.u k hlt;rw[G.out.2.2.2.1,G.out.2.2.2.2.1]at hou;refine zB8 W rfl _ _ 55 rfl base 3 i0 _ 1 8 Tryz.underlying55 hi0 hz0 hz1 hz2 rfl (by decide) u7 (nk+i) _ rfl hou ⟨gb,0,none⟩ 1 1 [.int .i64 (zA6 k ((nk+i:Nat):Int))] rfl rfl (OneV.news s10) (by simp[Value.oneCell']) (by unfold maxLen;omega) (by omega) G1.size (by decide) ?_
         intro v5 w5 own5 grow5;have G2:=Lib.hid (G1.append (v':=v5) (m:=1) (news:=[.int .i64 (zA6 k ((nk+i:Nat):Int))]) hlt (by rw[G.out.2.2.2.2.1];exact own5) (by rw[G.out.2.2.2.1];exact grow5))
         have HY:Hid (Y k++[.int .i64 (zA6 k ((nk+i:Nat):Int))]=mks k (nk+(i+1))):=by show _=_;rw[G.out.2.2.2.2.2,← Nat.add_assoc,zKY]
         clear G1 hou own5 grow5 s10 hbw hls hglt
         go_wp2_with fail
         go_roundw
         case rel=>exact⟨i+1,by omega,by go_num,_,_,_,gsl,G2.out,fun j hj=>zOG (G.out.2.1 j hj) (by omega),fun j hj hjK=>zGz (G.out.2.2.1 j hj hjK) (by omega),by simp,by simp[G.out.2.2.2.2.1,Nat.add_assoc],by simp only[if_true];exact HY.out⟩
         case measure=>simp[intOf];omega
       ·obtain rfl:i=64:=by omega
        obtain⟨pu,cu,rfl⟩:∃ pu cu,u7=.slice pu (nk+64) cu:=by
         have:=G.out.1.fam.u k hlt;rw[G.out.2.2.2.1,G.out.2.2.2.2.1]at this;exact zBf this
        go_upto_region 17 with fail
        refine ws_ 4 [fun v _=>v=.slice (some ⟨gg,0,none⟩) K K,fun v _=>v=.int .i64 (k:Int),fun v _=>v=.slice pu (nk+64) cu,fun v _=>v=.pointer (some ⟨gg,k,none⟩)] ?ob ?en
        case ob =>
         refine⟨?_,?_,?_,?_,trivial⟩<;>intro A W h
         ·exact zAB rfl rfl (h.f 5)
         ·exact zAB rfl rfl (h.f 6)
         ·exact zAB rfl rfl (h.f 7)
         ·exact zAU (sz:=1) Tryz.underlying47 (fun w=>by kernel_rfl) rfl rfl (h.d 0 69) (h.d 1 70) (by omega) (by omega)
        case en =>
         intro vals W3 hbw hv _;simp only[fa,Nat.reduceAdd];rw[e_ hv 0,e_ hv 1,e_ hv 2,e_ hv 3];clear hv
         try simp only[pl]
         have G1:=G.out.1.up hbw;have hgl:=G1.gs.1;obtain⟨z,hz⟩:∃ z,W3.cell? ⟨gg,k,none⟩=some z:=⟨_,(zBD G1.gs (k:=k) (by omega)).trans (List.getElem?_eq_getElem (by omega))⟩
         have hf:=zC5 G1.gs k;have hgl2:k<gsl.length:=by omega
         have G2:=Lib.hid (G1.store (k:=k) (gg:=gg) (c:=K) rfl (.slice pu (nk+64) cu));have GU:=Lib.hid G.out.2.2.2;have GD:=Lib.hid G.out.2.1;have GN:=Lib.hid G.out.2.2.1;clear G1 hgl hbw hls hglt G
         go_wp2_with fail
         go_roundw
         case rel=>exact⟨k+1,by omega,by go_num,U,M,Y,_,G2.out,fun j hj=>if hjk:j=k then by subst hjk;rw[← GU.out.1];exact⟨zPB hgl2 (by rw[GU.out.2.1,HNK.out]) (by rw[GU.out.2.2,HNK.out,zJs (by omega)]),by unfold Full;rw[GU.out.2.2,HNK.out]⟩ else ⟨zKS (GD.out j (by omega)).1 hjk,(GD.out j (by omega)).2⟩,fun j hj hjK=>GN.out j (by omega) hjK⟩
         case measure=>simp[intOf];omega
    ·obtain rfl:K=k:=by omega
     obtain⟨U,M,Y,gsl,hg,hd,_⟩:=G.out;clear G;obtain⟨wq,rfl⟩:∃ wq:World,wq=wr:=⟨_,rfl⟩;have G:=Lib.hid hg;clear hg;have D:=Lib.hid hd;clear hd
     go_wp2_with fail
     go_loopw [9,10] (fun n _ wr=>∃ k:Nat,k<=K/\n=.int .i64 k/\Hid (Below wq.heap.size wq wr)) (fun n _ _=>K - (intOf n).toNat)
     case atStart=>exact⟨0,by omega,rfl,Below.refl _ _⟩
     case round =>
      obtain⟨k,hk,rfl,B⟩:=hrel
      by_cases hlt:k<K
      ·obtain⟨wo,rfl⟩:∃ wo:World,wo=wr:=⟨_,rfl⟩;obtain⟨gl,rfl⟩:∃ gl,pl=some ⟨gl,0,none⟩:=by
        obtain⟨g,c,e,_⟩:=zCp G.out.ls (by omega)
        injection e with e1 _ _;exact⟨g,e1⟩
       obtain⟨pk,ck,hV⟩:∃ pk ck,V k=.slice pk (N k) ck:=zBf (G.out.fam.v k hlt);obtain⟨gu,cu,hU,hgu,hcu⟩:=zGi G.out hlt (D.out k hlt).1.2.1;have hbr:=fun h=>zIS G.out hlt h
       have hls:wq.cell? ⟨gl,k,none⟩=some (V k):=by rw[zBD G.out.ls (by omega),zDl hlt]
       have hgs:wq.cell? ⟨gg,k,none⟩=some (U k):=by rw[zBD G.out.gs (by omega)];exact(D.out k hlt).1.1
       have hglq:gl<wq.heap.size:=(zAm G.out.ls rfl).1;have hggq:gg<wq.heap.size:=(zAm G.out.gs rfl).1;have hcu2:∀ i,i<N k+64->wq.cell? ⟨gu,i,none⟩=some (.int .i64 (zA6 k i)):=fun i hi=>hcu i _ hi (by rw[(D.out k hlt).2];exact zJN hi)
       have hNk:=HN.out k hlt;rw[hV]at hls hbr;rw[hU]at hgs
       generalize N k=nk at hls hbr hgs hcu2 hNk
       clear hcu hV hU;have HLS:=Lib.hid hls;clear hls;have HGS:=Lib.hid hgs;clear hgs;have HBR:=Lib.hid hbr;clear hbr;have HCU:=Lib.hid hcu2;clear hcu2
       go_wp2_with fail
       go_loopw [10] (fun n wr=>∃ i:Nat,i<=nk+64/\n=.int .i64 i/\Hid (Below wq.heap.size wq wr)) (fun n _=>nk+64 - (intOf n).toNat)
       case atStart=>exact⟨0,by omega,rfl,B.out⟩
       case round =>
        clear B;obtain⟨i,hi,rfl,B⟩:=hrel
        go_upto_region 22 with fail
        by_cases hil:i<nk+64
        ·have cu1:=Lib.hid (HCU.out i hil);refine ws_ 7 [fun v _=>v=.int .i64 (i:Int),fun v _=>v=.slice (some ⟨gg,0,none⟩) K K,fun v _=>v=.int .i64 (k:Int),fun v _=>v=.pointer (some ⟨gg,k,none⟩),fun v _=>v=.slice (some ⟨gu,0,none⟩) (nk+64) cu,fun v _=>v=.int .i64 ((nk+64:Nat):Int),fun v _=>v=.bool true] ?ob ?en
         case ob =>
          refine⟨?_,?_,?_,?_,?_,?_,?_,trivial⟩<;>intro A W h
          ·exact zAB rfl rfl (h.f 10)
          ·exact zAB rfl rfl (h.f 5)
          ·exact zAB rfl rfl (h.f 9)
          ·exact zAU (sz:=1) Tryz.underlying47 (fun w=>by kernel_rfl) rfl rfl (h.d 1 80) (h.d 2 81) (by omega) (by omega)
          ·(have e82:A.eval (.tmp 82)=.pointer (some ⟨gg,k,none⟩):=h.d 3 82;refine zAA rfl ?_;simp only[execOp,e82];(have q:=((B.out.trans (h.below.mono B.out.size)).cell (p:=⟨gg,k,none⟩) hggq).trans HGS.out;simp[go_sem,q]))
          ·exact zBB Tryz.underlying55 rfl rfl (h.d 4 83) (by decide)
          ·(have e79:A.eval (.tmp 79)=.int .i64 (i:Int):=h.d 0 79;have e84:A.eval (.tmp 84)=.int .i64 ((nk+64:Nat):Int):=h.d 5 84;refine zAA rfl ?_;simp only[execOp,e79,e84];(simp[go_sem]<;>omega))
         case en =>
          intro vals W1 hbw hv _;simp only[fa,Nat.reduceAdd];rw[e_ hv 0,e_ hv 1,e_ hv 2,e_ hv 3,e_ hv 4,e_ hv 5,e_ hv 6];clear hv
          try simp only[pl]
          have B1:=Lib.hid (B.out.trans (hbw.mono B.out.size));clear hbw B
          go_upto_region 24 with fail
          by_cases hin:i<nk
          ·obtain⟨gv,cv,hV,hgv,hcv⟩:=HBR.out (by omega)
           injection hV with hV1 _ hV2
           subst hV1 hV2;have cv1:=Lib.hid (hcv i hin);clear hcv;refine wr_ 35 [fun v _=>v=.slice (some ⟨gg,0,none⟩) K K,fun v _=>v=.int .i64 (k:Int),fun v _=>v=.pointer (some ⟨gg,k,none⟩),fun v _=>v=.slice (some ⟨gu,0,none⟩) (nk+64) cu,fun v _=>v=.int .i64 (i:Int),fun v _=>v=.pointer (some ⟨gu,i,none⟩),fun v _=>v=.int .i64 (zA6 k i),fun v _=>v=.int .i64 (k:Int),fun v _=>v=.int .i64 (i:Int),fun v _=>v=.int .i64 (zA6 k i),fun v _=>v=.bool true,fun v _=>v=.bool false,fun v _=>v=.bool false,fun v _=>v=.int .i64 (i:Int),fun v _=>v=.slice (some ⟨gl,0,none⟩) K cl,fun v _=>v=.int .i64 (k:Int),fun v _=>v=.pointer (some ⟨gl,k,none⟩),fun v _=>v=.slice (some ⟨gv,0,none⟩) nk ck,fun v _=>v=.int .i64 ((nk:Nat):Int),fun v _=>v=.bool true,fun v _=>v=.bool true,fun v _=>v=.slice (some ⟨gl,0,none⟩) K cl,fun v _=>v=.int .i64 (k:Int),fun v _=>v=.pointer (some ⟨gl,k,none⟩),fun v _=>v=.slice (some ⟨gv,0,none⟩) nk ck,fun v _=>v=.int .i64 (i:Int),fun v _=>v=.pointer (some ⟨gv,i,none⟩),fun v _=>v=.int .i64 (zA6 k i),fun v _=>v=.int .i64 (k:Int),fun v _=>v=.int .i64 (i:Int),fun v _=>v=.int .i64 (zA6 k i),fun v _=>v=.bool true,fun v _=>v=.bool false,fun v _=>v=.bool false,fun v _=>v=.bool false] ?ob ?en
           case ob =>
            refine⟨?_,?_,?_,?_,?_,?_,?_,?_,?_,?_,?_,?_,?_,?_,?_,?_,?_,?_,?_,?_,?_,?_,?_,?_,?_,?_,?_,?_,?_,?_,?_,?_,?_,?_,?_,trivial⟩<;>intro A W h
            ·exact zAB rfl rfl (h.f 5)
            ·exact zAB rfl rfl (h.f 9)
            ·exact zAU (sz:=1) Tryz.underlying47 (fun w=>by kernel_rfl) rfl rfl (h.d 0 88) (h.d 1 89) (by omega) (by omega)
            ·(have e90:A.eval (.tmp 90)=.pointer (some ⟨gg,k,none⟩):=h.d 2 90;refine zAA rfl ?_;simp only[execOp,e90];(have q:=((B1.out.trans (h.below.mono B1.out.size)).cell (p:=⟨gg,k,none⟩) hggq).trans HGS.out;simp[go_sem,q]))
            ·exact zAB rfl rfl (h.f 10)
            ·exact zAU (sz:=1) Tryz.underlying55 (fun w=>by kernel_rfl) rfl rfl (h.d 3 91) (h.d 4 92) (by omega) (by omega)
            ·(have e93:A.eval (.tmp 93)=.pointer (some ⟨gu,i,none⟩):=h.d 5 93;refine zAA rfl ?_;simp only[execOp,e93];(have q:=((B1.out.trans (h.below.mono B1.out.size)).cell (p:=⟨gu,i,none⟩) hgu).trans cu1.out;simp[go_sem,q]))
            ·exact zAB rfl rfl (h.f 9)
            ·exact zAB rfl rfl (h.f 10)
            ·exact zAc rfl rfl (enters_of Tryz.func48 (by kernel_rfl) rfl) (zBm ⟨(h.d 7 95),(h.d 8 96)⟩) ((zCE k i W (by omega) (by omega)).mono fun _ _ h=>⟨h.1,h.2 ▸ Below.refl _ _⟩)
            ·(have e94:A.eval (.tmp 94)=.int .i64 (zA6 k i):=h.d 6 94;have e97:A.eval (.tmp 97)=.int .i64 (zA6 k i):=h.d 9 97;refine zAA rfl ?_;simp only[execOp,e94,e97];simp[go_sem])
            ·(have e98:A.eval (.tmp 98)=.bool true:=h.d 10 98;refine zAA rfl ?_;simp only[execOp,e98];simp[go_sem])
            ·exact zAB rfl rfl (h.d 11 99)
            ·exact zAB (wg (h.d 12 100)) rfl (h.f 10)
            ·exact zAB (wg (h.d 12 100)) rfl (h.f 0)
            ·exact zAB (wg (h.d 12 100)) rfl (h.f 9)
            ·exact zAU (sz:=1) Tryz.underlying47 (fun w=>by kernel_rfl) (wg (h.d 12 100)) rfl (h.d 14 102) (h.d 15 103) (by omega) (by omega)
            ·(have e104:A.eval (.tmp 104)=.pointer (some ⟨gl,k,none⟩):=h.d 16 104;refine zAA (wg (h.d 12 100)) ?_;simp only[execOp,e104];(have q:=((B1.out.trans (h.below.mono B1.out.size)).cell (p:=⟨gl,k,none⟩) hglq).trans HLS.out;simp[go_sem,q]))
            ·exact zBB Tryz.underlying55 (wg (h.d 12 100)) rfl (h.d 17 105)
            ·(have e101:A.eval (.tmp 101)=.int .i64 (i:Int):=h.d 13 101;have e106:A.eval (.tmp 106)=.int .i64 ((nk:Nat):Int):=h.d 18 106;refine zAA (wg (h.d 12 100)) ?_;simp only[execOp,e101,e106];(simp[go_sem]<;>omega))
            ·exact zAB (wg (h.d 12 100)) rfl (h.d 19 107)
            ·exact zAB (wg (h.d 20 108)) rfl (h.f 0)
            ·exact zAB (wg (h.d 20 108)) rfl (h.f 9)
            ·exact zAU (sz:=1) Tryz.underlying47 (fun w=>by kernel_rfl) (wg (h.d 20 108)) rfl (h.d 21 109) (h.d 22 110) (by omega) (by omega)
            ·(have e111:A.eval (.tmp 111)=.pointer (some ⟨gl,k,none⟩):=h.d 23 111;refine zAA (wg (h.d 20 108)) ?_;simp only[execOp,e111];(have q:=((B1.out.trans (h.below.mono B1.out.size)).cell (p:=⟨gl,k,none⟩) hglq).trans HLS.out;simp[go_sem,q]))
            ·exact zAB (wg (h.d 20 108)) rfl (h.f 10)
            ·exact zAU (sz:=1) Tryz.underlying55 (fun w=>by kernel_rfl) (wg (h.d 20 108)) rfl (h.d 24 112) (h.d 25 113) (by omega) (by omega)
            ·(have e114:A.eval (.tmp 114)=.pointer (some ⟨gv,i,none⟩):=h.d 26 114;refine zAA (wg (h.d 20 108)) ?_;simp only[execOp,e114];(have q:=((B1.out.trans (h.below.mono B1.out.size)).cell (p:=⟨gv,i,none⟩) hgv).trans cv1.out;simp[go_sem,q]))
            ·exact zAB (wg (h.d 20 108)) rfl (h.f 9)
            ·exact zAB (wg (h.d 20 108)) rfl (h.f 10)
            ·exact zAc (wg (h.d 20 108)) rfl (enters_of Tryz.func48 (by kernel_rfl) rfl) (zBm ⟨(h.d 28 116),(h.d 29 117)⟩) ((zCE k i W (by omega) (by omega)).mono fun _ _ h=>⟨h.1,h.2 ▸ Below.refl _ _⟩)
            ·(have e115:A.eval (.tmp 115)=.int .i64 (zA6 k i):=h.d 27 115;have e118:A.eval (.tmp 118)=.int .i64 (zA6 k i):=h.d 30 118;refine zAA (wg (h.d 20 108)) ?_;simp only[execOp,e115,e118];simp[go_sem])
            ·(have e119:A.eval (.tmp 119)=.bool true:=h.d 31 119;refine zAA (wg (h.d 20 108)) ?_;simp only[execOp,e119];simp[go_sem])
            ·exact zAy (wg (h.d 12 100)) rfl (h.d 20 108) (h.d 32 120)
            ·exact zAy rfl rfl (h.d 12 100) (h.d 33 121)
           case en =>
            intro vals W2 hbw hv _;simp only[fa,Nat.reduceAdd];rw[e_ hv 0,e_ hv 1,e_ hv 2,e_ hv 3,e_ hv 4,e_ hv 5,e_ hv 6,e_ hv 7,e_ hv 8,e_ hv 9,e_ hv 10,e_ hv 11,e_ hv 12,e_ hv 13,e_ hv 14,e_ hv 15,e_ hv 16,e_ hv 17,e_ hv 18,e_ hv 19,e_ hv 20,e_ hv 21,e_ hv 22,e_ hv 23,e_ hv 24,e_ hv 25,e_ hv 26,e_ hv 27,e_ hv 28,e_ hv 29,e_ hv 30,e_ hv 31,e_ hv 32,e_ hv 33,e_ hv 34];clear hv
            try simp only[pl]
            have B2:=Lib.hid (B1.out.trans (hbw.mono B1.out.size));clear hbw B1
            go_wp2_with fail
            go_roundw
            case rel=>exact⟨i+1,by omega,by go_num,B2.out⟩
            case measure=>simp[intOf];omega
          ·--
           refine wr_ 35 [fun v _=>v=.slice (some ⟨gg,0,none⟩) K K,fun v _=>v=.int .i64 (k:Int),fun v _=>v=.pointer (some ⟨gg,k,none⟩),fun v _=>v=.slice (some ⟨gu,0,none⟩) (nk+64) cu,fun v _=>v=.int .i64 (i:Int),fun v _=>v=.pointer (some ⟨gu,i,none⟩),fun v _=>v=.int .i64 (zA6 k i),fun v _=>v=.int .i64 (k:Int),fun v _=>v=.int .i64 (i:Int),fun v _=>v=.int .i64 (zA6 k i),fun v _=>v=.bool true,fun v _=>v=.bool false,fun v _=>v=.bool false,fun v _=>v=.int .i64 (i:Int),fun v _=>v=.slice (some ⟨gl,0,none⟩) K cl,fun v _=>v=.int .i64 (k:Int),fun v _=>v=.pointer (some ⟨gl,k,none⟩),fun v _=>v=.slice pk nk ck,fun v _=>v=.int .i64 ((nk:Nat):Int),fun v _=>v=.bool false,fun v _=>v=.bool false,fun v _=>v=undef,fun v _=>v=undef,fun v _=>v=undef,fun v _=>v=undef,fun v _=>v=undef,fun v _=>v=undef,fun v _=>v=undef,fun v _=>v=undef,fun v _=>v=undef,fun v _=>v=undef,fun v _=>v=undef,fun v _=>v=undef,fun v _=>v=Value.bool false,fun v _=>v=Value.bool false] ?ob ?en
           case ob =>
            refine⟨?_,?_,?_,?_,?_,?_,?_,?_,?_,?_,?_,?_,?_,?_,?_,?_,?_,?_,?_,?_,?_,?_,?_,?_,?_,?_,?_,?_,?_,?_,?_,?_,?_,?_,?_,trivial⟩<;>intro A W h
            ·exact zAB rfl rfl (h.f 5)
            ·exact zAB rfl rfl (h.f 9)
            ·exact zAU (sz:=1) Tryz.underlying47 (fun w=>by kernel_rfl) rfl rfl (h.d 0 88) (h.d 1 89) (by omega) (by omega)
            ·(have e90:A.eval (.tmp 90)=.pointer (some ⟨gg,k,none⟩):=h.d 2 90;refine zAA rfl ?_;simp only[execOp,e90];(have q:=((B1.out.trans (h.below.mono B1.out.size)).cell (p:=⟨gg,k,none⟩) hggq).trans HGS.out;simp[go_sem,q]))
            ·exact zAB rfl rfl (h.f 10)
            ·exact zAU (sz:=1) Tryz.underlying55 (fun w=>by kernel_rfl) rfl rfl (h.d 3 91) (h.d 4 92) (by omega) (by omega)
            ·(have e93:A.eval (.tmp 93)=.pointer (some ⟨gu,i,none⟩):=h.d 5 93;refine zAA rfl ?_;simp only[execOp,e93];(have q:=((B1.out.trans (h.below.mono B1.out.size)).cell (p:=⟨gu,i,none⟩) hgu).trans cu1.out;simp[go_sem,q]))
            ·exact zAB rfl rfl (h.f 9)
            ·exact zAB rfl rfl (h.f 10)
            ·exact zAc rfl rfl (enters_of Tryz.func48 (by kernel_rfl) rfl) (zBm ⟨(h.d 7 95),(h.d 8 96)⟩) ((zCE k i W (by omega) (by omega)).mono fun _ _ h=>⟨h.1,h.2 ▸ Below.refl _ _⟩)
            ·(have e94:A.eval (.tmp 94)=.int .i64 (zA6 k i):=h.d 6 94;have e97:A.eval (.tmp 97)=.int .i64 (zA6 k i):=h.d 9 97;refine zAA rfl ?_;simp only[execOp,e94,e97];simp[go_sem])
            ·(have e98:A.eval (.tmp 98)=.bool true:=h.d 10 98;refine zAA rfl ?_;simp only[execOp,e98];simp[go_sem])
            ·exact zAB rfl rfl (h.d 11 99)
            ·exact zAB (wg (h.d 12 100)) rfl (h.f 10)
            ·exact zAB (wg (h.d 12 100)) rfl (h.f 0)
            ·exact zAB (wg (h.d 12 100)) rfl (h.f 9)
            ·exact zAU (sz:=1) Tryz.underlying47 (fun w=>by kernel_rfl) (wg (h.d 12 100)) rfl (h.d 14 102) (h.d 15 103) (by omega) (by omega)
            ·(have e104:A.eval (.tmp 104)=.pointer (some ⟨gl,k,none⟩):=h.d 16 104;refine zAA (wg (h.d 12 100)) ?_;simp only[execOp,e104];(have q:=((B1.out.trans (h.below.mono B1.out.size)).cell (p:=⟨gl,k,none⟩) hglq).trans HLS.out;simp[go_sem,q]))
            ·exact zBB Tryz.underlying55 (wg (h.d 12 100)) rfl (h.d 17 105)
            ·(have e101:A.eval (.tmp 101)=.int .i64 (i:Int):=h.d 13 101;have e106:A.eval (.tmp 106)=.int .i64 ((nk:Nat):Int):=h.d 18 106;refine zAA (wg (h.d 12 100)) ?_;simp only[execOp,e101,e106];(simp[go_sem]<;>omega))
            ·exact zAB (wg (h.d 12 100)) rfl (h.d 19 107)
            ·exact rsk (h.d 20 108)
            ·exact rsk (h.d 20 108)
            ·exact rsk (h.d 20 108)
            ·exact rsk (h.d 20 108)
            ·exact rsk (h.d 20 108)
            ·exact rsk (h.d 20 108)
            ·exact rsk (h.d 20 108)
            ·exact rsk (h.d 20 108)
            ·exact rsk (h.d 20 108)
            ·exact rsk (h.d 20 108)
            ·exact rsk (h.d 20 108)
            ·exact rsk (h.d 20 108)
            ·exact zAy (wg (h.d 12 100)) rfl (h.d 20 108) (rfl)
            ·exact zAy rfl rfl (h.d 12 100) (h.d 33 121)
           case en =>
            intro vals W2 hbw hv _;simp only[fa,Nat.reduceAdd];rw[e_ hv 0,e_ hv 1,e_ hv 2,e_ hv 3,e_ hv 4,e_ hv 5,e_ hv 6,e_ hv 7,e_ hv 8,e_ hv 9,e_ hv 10,e_ hv 11,e_ hv 12,e_ hv 13,e_ hv 14,e_ hv 15,e_ hv 16,e_ hv 17,e_ hv 18,e_ hv 19,e_ hv 20,e_ hv 21,e_ hv 22,e_ hv 23,e_ hv 24,e_ hv 25,e_ hv 26,e_ hv 27,e_ hv 28,e_ hv 29,e_ hv 30,e_ hv 31,e_ hv 32,e_ hv 33,e_ hv 34];clear hv
            try simp only[pl]
            have B2:=Lib.hid (B1.out.trans (hbw.mono B1.out.size));clear hbw B1
            go_wp2_with fail
            go_roundw
            case rel=>exact⟨i+1,by omega,by go_num,B2.out⟩
            case measure=>simp[intOf];omega
        ·obtain rfl:i=nk+64:=by omega
         refine ws_ 7 [fun v _=>v=.int .i64 ((nk+64:Nat):Int),fun v _=>v=.slice (some ⟨gg,0,none⟩) K K,fun v _=>v=.int .i64 (k:Int),fun v _=>v=.pointer (some ⟨gg,k,none⟩),fun v _=>v=.slice (some ⟨gu,0,none⟩) (nk+64) cu,fun v _=>v=.int .i64 ((nk+64:Nat):Int),fun v _=>v=.bool false] ?ob ?en
         case ob =>
          refine⟨?_,?_,?_,?_,?_,?_,?_,trivial⟩<;>intro A W h
          ·exact zAB rfl rfl (h.f 10)
          ·exact zAB rfl rfl (h.f 5)
          ·exact zAB rfl rfl (h.f 9)
          ·exact zAU (sz:=1) Tryz.underlying47 (fun w=>by kernel_rfl) rfl rfl (h.d 1 80) (h.d 2 81) (by omega) (by omega)
          ·(have e82:A.eval (.tmp 82)=.pointer (some ⟨gg,k,none⟩):=h.d 3 82;refine zAA rfl ?_;simp only[execOp,e82];(have q:=((B.out.trans (h.below.mono B.out.size)).cell (p:=⟨gg,k,none⟩) hggq).trans HGS.out;simp[go_sem,q]))
          ·exact zBB Tryz.underlying55 rfl rfl (h.d 4 83) (by decide)
          ·(have e79:A.eval (.tmp 79)=.int .i64 ((nk+64:Nat):Int):=h.d 0 79;have e84:A.eval (.tmp 84)=.int .i64 ((nk+64:Nat):Int):=h.d 5 84;refine zAA rfl ?_;simp only[execOp,e79,e84];(simp[go_sem]<;>omega))
         case en =>
          intro vals W1 hbw hv _;simp only[fa,Nat.reduceAdd];rw[e_ hv 0,e_ hv 1,e_ hv 2,e_ hv 3,e_ hv 4,e_ hv 5,e_ hv 6];clear hv
          try simp only[pl]
          have B1:=Lib.hid (B.out.trans (hbw.mono B.out.size));clear hbw B
          go_wp2_with fail
          go_roundw
          case rel=>exact⟨k+1,by omega,by go_num,B1.out⟩
          case measure=>simp[intOf];omega
      ·obtain rfl:K=k:=by omega
       have G1:=Lib.hid ((G.out.up B.out).reset);clear G D B
       go_wp2_with fail
       go_loopw [11,12,13] (fun n _ _ wr=>∃ k:Nat,k<=K/\n=.int .i64 k/\Hid (∃ U M Y gsl,GSt base w (.slice pl K cl) (.slice (some ⟨gg,0,none⟩) K K) K V U N M Y gsl wr/\(∀ j,j<k->Done U N M Y gsl j)/\∀ j,k<=j->j<K->zD2 V U N M Y j)) (fun n _ _ _=>K - (intOf n).toNat)
       case atStart=>exact⟨0,by omega,rfl,V,N,_,gsl,G1.out,fun j h=>by omega,fun j _ _=>⟨rfl,rfl,rfl⟩⟩
       case round =>
        clear G1;obtain⟨k,hk,rfl,G⟩:=hrel
        by_cases hlt:k<K
        ·obtain⟨wo,rfl⟩:∃ wo:World,wo=wr:=⟨_,rfl⟩;obtain⟨U,M,Y,gsl,G⟩:∃ U M Y gsl,Hid (GSt base w (.slice pl K cl) (.slice (some ⟨gg,0,none⟩) K K) K V U N M Y gsl wo/\(∀ j,j<k->Done U N M Y gsl j)/\∀ j,k<=j->j<K->zD2 V U N M Y j):=by obtain⟨U,M,Y,gsl,h⟩:=G.out;exact⟨U,M,Y,gsl,h⟩
         obtain⟨gl,rfl⟩:∃ gl,pl=some ⟨gl,0,none⟩:=by
          obtain⟨g,c,e,_⟩:=zCp G.out.1.ls (by omega)
          injection e with e1 _ _;exact⟨g,e1⟩
         obtain⟨pk,ck,hV⟩:∃ pk ck,V k=.slice pk (N k) ck:=zBf (G.out.1.fam.v k hlt);have HV:=Lib.hid hV;clear hV;have hNk:=HN.out k hlt;obtain⟨nk,hnk⟩:∃ nk,N k=nk:=⟨_,rfl⟩;rw[hnk]at hNk HV;have HNK:=Lib.hid hnk;clear hnk
         go_wp2_with (at_make;refine wpList_make_full _ rfl _ _ 55 rfl wo.heap.size 3 i0 (.int .i64 0) 1 Tryz.underlying55 hi0 hz0 hz1 .i64 .i64 _ _ 64 rfl rfl rfl rfl (by rw[hz2];omega) (by unfold maxLen;omega) (Nat.le_refl _) ?_;intro wm ownm growm)
         have bm:Below wo.heap.size wo wm:=(Below.refl _ wo).grown growm (Nat.le_refl _) (fun k hk=>by cases hk)
         have hL0:∀ u ∈ (madeCells (Value.int .i64 0).cells (64 * 1)).toList,∃ z,u=.int .i64 z:=by intro u hu;simp[madeCells,Value.cells]at hu;obtain⟨a,_,rfl⟩:=hu;exact⟨0,by simp[Nat.mod_one]⟩
         generalize (madeCells (Value.int .i64 0).cells (64 * 1)).toList=L0 at ownm hL0
         have M0:=Lib.hid (And.intro ownm (And.intro hL0 bm));clear ownm hL0 bm growm
         go_wp2_with fail
         go_loopw [13] (fun n wr=>∃ i:Nat,i<=64/\n=.int .i64 i/\Hid (∃ L,wr.ownsRow wo.heap.size 3 1 (.slice (some ⟨wo.heap.size,0,none⟩) 64 64) 64 L/\(∀ u ∈ L,∃ z,u=.int .i64 z)/\Below wo.heap.size wo wr)) (fun n _=>64 - (intOf n).toNat)
         case atStart=>exact⟨0,by omega,rfl,L0,M0.out⟩
         case round =>
          clear M0;obtain⟨i,hi,rfl,B⟩:=hrel;obtain⟨L,B⟩:∃ L,Hid (wr.ownsRow wo.heap.size 3 1 (.slice (some ⟨wo.heap.size,0,none⟩) 64 64) 64 L/\(∀ u ∈ L,∃ z,u=.int .i64 z)/\Below wo.heap.size wo wr):=by obtain⟨L,h⟩:=B.out;exact⟨L,h⟩
          by_cases hil:i<64
          ·go_upto_region 33 with fail
           refine ws_ 9 [fun v _=>v=.slice (some ⟨wo.heap.size,0,none⟩) 64 64,fun v _=>v=.int .i64 (i:Int),fun v _=>v=.int .i64 (k:Int),fun v _=>v=.slice (some ⟨gl,0,none⟩) K cl,fun v _=>v=.int .i64 ((K:Nat):Int),fun v _=>v=.int .i64 ((k+K:Nat):Int),fun v _=>v=.int .i64 (i:Int),fun v _=>v=.int .i64 (zA6 ((k+K:Nat):Int) i),fun v _=>v=.pointer (some ⟨wo.heap.size,i,none⟩)] ?ob ?en
           case ob =>
            refine⟨?_,?_,?_,?_,?_,?_,?_,?_,?_,trivial⟩<;>intro A W h
            ·exact zAB rfl rfl (h.f 12)
            ·exact zAB rfl rfl (h.f 13)
            ·exact zAB rfl rfl (h.f 11)
            ·exact zAB rfl rfl (h.f 0)
            ·exact zBB Tryz.underlying47 rfl rfl (h.d 3 137)
            ·(have e136:A.eval (.tmp 136)=.int .i64 (k:Int):=h.d 2 136;have e138:A.eval (.tmp 138)=.int .i64 ((K:Nat):Int):=h.d 4 138;refine zAA rfl ?_;simp only[execOp,e136,e138];(simp[go_sem]<;>(rw[IntKind.wrap_i64];omega)))
            ·exact zAB rfl rfl (h.f 13)
            ·exact zAc rfl rfl (enters_of Tryz.func48 (by kernel_rfl) rfl) (zBm ⟨(h.d 5 139),(h.d 6 140)⟩) ((zCE _ i W (by omega) (by omega)).mono fun _ _ h=>⟨h.1,h.2 ▸ Below.refl _ _⟩)
            ·exact zAU (sz:=1) Tryz.underlying55 (fun w=>by kernel_rfl) rfl rfl (h.d 0 134) (h.d 1 135) (by omega) (by omega)
           case en =>
            intro vals W1 hbw hv _;simp only[fa,Nat.reduceAdd];rw[e_ hv 0,e_ hv 1,e_ hv 2,e_ hv 3,e_ hv 4,e_ hv 5,e_ hv 6,e_ hv 7,e_ hv 8];clear hv
            try simp only[pl]
            have o1:=zBT B.out.1 hbw;have b1:=B.out.2.2.trans (hbw.mono B.out.2.2.size);have hl:=o1.1;obtain⟨z,hz⟩:∃ z,W1.cell? ⟨wo.heap.size,i,none⟩=some z:=⟨_,(zBD o1 (k:=i) (by omega)).trans (List.getElem?_eq_getElem (by omega))⟩
            have hf:=zC5 o1 i;have O2:=Lib.hid (zHZ o1 (k:=i) (.int .i64 (zA6 ((k+K:Nat):Int) i)));have B2:=Lib.hid (b1.setCell (p:=⟨wo.heap.size,i,none⟩) (Nat.le_refl _) (.int .i64 (zA6 ((k+K:Nat):Int) i)));clear o1 b1 hl hbw
            go_wp2_with fail
            go_roundw
            case rel=>exact⟨i+1,by omega,by go_num,_,O2.out,fun u hu=>by rcases List.mem_or_eq_of_mem_set hu with h|h;exact B.out.2.1 u h;exact⟨_,h⟩,B2.out⟩
            case measure=>simp[intOf];omega
          ·have G1:=Lib.hid (G.out.1.up B.out.2.2);have hls:wr.cell? ⟨gl,k,none⟩=some (.slice pk nk ck):=by rw[zBD G1.out.ls (by omega),zDl hlt,HV.out]
           have hglt:gl<wr.heap.size:=(zAm G1.out.ls rfl).1
           go_upto_region 34 with fail
           refine ws_ 7 [fun v _=>v=.slice (some ⟨gg,0,none⟩) K K,fun v _=>v=.int .i64 (k:Int),fun v _=>v=.slice (some ⟨gl,0,none⟩) K cl,fun v _=>v=.int .i64 (k:Int),fun v _=>v=.pointer (some ⟨gl,k,none⟩),fun v _=>v=.slice pk nk ck,fun v _=>v=.slice (some ⟨wo.heap.size,0,none⟩) 64 64] ?ob ?en
           case ob =>
            refine⟨?_,?_,?_,?_,?_,?_,?_,trivial⟩<;>intro A W h
            ·exact zAB rfl rfl (h.f 5)
            ·exact zAB rfl rfl (h.f 11)
            ·exact zAB rfl rfl (h.f 0)
            ·exact zAB rfl rfl (h.f 11)
            ·exact zAU (sz:=1) Tryz.underlying47 (fun w=>by kernel_rfl) rfl rfl (h.d 2 145) (h.d 3 146) (by omega) (by omega)
            ·(have e147:A.eval (.tmp 147)=.pointer (some ⟨gl,k,none⟩):=h.d 4 147;refine zAA rfl ?_;simp only[execOp,e147];(have q:=(h.below.cell (p:=⟨gl,k,none⟩) hglt).trans hls;simp[go_sem,q]))
            ·exact zAB rfl rfl (h.f 12)
           case en =>
            intro vals W1 hbw hv _;simp only[fa,Nat.reduceAdd];rw[e_ hv 0,e_ hv 1,e_ hv 2,e_ hv 3,e_ hv 4,e_ hv 5,e_ hv 6];clear hv
            try simp only[pl]
            have G2:=G1.out.up hbw;have o2:=zBT B.out.1 hbw;obtain⟨un1,un2,un3⟩:=G.out.2.2 k (Nat.le_refl _) hlt;have hou:=G2.fam.u k hlt;rw[un1,un2,un3,HV.out,HNK.out]at hou;refine zB8 W1 rfl _ _ 55 rfl base 3 i0 _ 1 8 Tryz.underlying55 hi0 hz0 hz1 hz2 rfl (by decide) (.slice pk nk ck) nk _ rfl hou ⟨wo.heap.size,0,none⟩ 64 64 L rfl o2.1 (o2.cells (g:=wo.heap.size) rfl) (fun u hu=>by obtain⟨z,rfl⟩:=B.out.2.1 u hu;rfl) (by unfold maxLen;omega) (by omega) G2.size (by decide) ?_
            intro v5 w5 own5 grow5;have G3:=G2.append (v':=v5) (m:=64) (news:=L) hlt (by rw[un2,un3,HNK.out];exact own5) (by rw[un1,HV.out];exact grow5)
            obtain⟨p5,c5,rfl⟩:=zBf own5;have hgl:=G3.gs.1;obtain⟨z,hz⟩:∃ z,w5.cell? ⟨gg,k,none⟩=some z:=⟨_,(zBD G3.gs (k:=k) (by omega)).trans (List.getElem?_eq_getElem (by omega))⟩
            have hf:=zC5 G3.gs k;have hgl2:k<gsl.length:=by omega
            have G4:=Lib.hid (G3.store (k:=k) (gg:=gg) (c:=K) rfl (.slice p5 (nk+64) c5));have HD:Hid (∀ j,j<k+1->Done (fun j=>if j=k then .slice p5 (nk+64) c5 else U j) N (fun j=>if j=k then M k+64 else M j) (fun j=>if j=k then Y k++L else Y j) (gsl.set k (.slice p5 (nk+64) c5)) j):=fun j hj=>if hjk:j=k then by subst hjk;exact⟨by simp[hgl2],by simp[un2],by simp only[if_true];rw[un3,List.take_append_of_le_length (by rw[zPM];omega),zJs (by omega)]⟩ else zKS (zMM (G.out.2.1 j (by omega)) hjk) hjk
            have HU:Hid (∀ j,k+1<=j->j<K->zD2 V (fun j=>if j=k then .slice p5 (nk+64) c5 else U j) N (fun j=>if j=k then M k+64 else M j) (fun j=>if j=k then Y k++L else Y j) j):=fun j hj hjK=>zGz (G.out.2.2 j (by omega) hjK) (by omega)
            clear G2 o2 hou un1 un2 un3 own5 grow5 G3 hgl hbw hls hglt G1
            go_wp2_with fail
            go_roundw
            case rel=>exact⟨k+1,by omega,by go_num,_,_,_,_,G4.out,HD.out,HU.out⟩
            case measure=>simp[intOf];omega
        ·obtain rfl:K=k:=by omega
         obtain⟨U,M,Y,gsl,hg,hd,_⟩:=G.out;clear G;obtain⟨wq,rfl⟩:∃ wq:World,wq=wr:=⟨_,rfl⟩;have G:=Lib.hid hg;clear hg;have D:=Lib.hid hd;clear hd
         go_wp2_with fail
         go_loopw [14,15] (fun n _ wr=>∃ k:Nat,k<=K/\n=.int .i64 k/\Hid (Below wq.heap.size wq wr)) (fun n _ _=>K - (intOf n).toNat)
         case atStart=>exact⟨0,by omega,rfl,Below.refl _ _⟩
         case round =>
          obtain⟨k,hk,rfl,B⟩:=hrel
          by_cases hlt:k<K
          ·obtain⟨wo,rfl⟩:∃ wo:World,wo=wr:=⟨_,rfl⟩;obtain⟨gl,rfl⟩:∃ gl,pl=some ⟨gl,0,none⟩:=by
            obtain⟨g,c,e,_⟩:=zCp G.out.ls (by omega)
            injection e with e1 _ _;exact⟨g,e1⟩
           obtain⟨pk,ck,hV⟩:∃ pk ck,V k=.slice pk (N k) ck:=zBf (G.out.fam.v k hlt);obtain⟨gu,cu,hU,hgu,hcu⟩:=zGi G.out hlt (D.out k hlt).2.1;have hbr:=fun h=>zIS G.out hlt h
           have hls:wq.cell? ⟨gl,k,none⟩=some (V k):=by rw[zBD G.out.ls (by omega),zDl hlt]
           have hgs:wq.cell? ⟨gg,k,none⟩=some (U k):=by rw[zBD G.out.gs (by omega)];exact(D.out k hlt).1
           have hglq:gl<wq.heap.size:=(zAm G.out.ls rfl).1;have hggq:gg<wq.heap.size:=(zAm G.out.gs rfl).1
           have hcu2:∀ i,i<N k->wq.cell? ⟨gu,i,none⟩=some (.int .i64 (zA6 k i)):=fun i hi=>hcu i _ (by omega) (by
            have h1:=(D.out k hlt).2.2;have h2:=zJN (k:=k) hi;rw[← h1,List.getElem?_take_of_lt hi]at h2
            exact h2)
           have hNk:=HN.out k hlt;rw[hV]at hls hbr;rw[hU]at hgs
           generalize N k=nk at hls hbr hgs hcu2 hNk
           clear hcu hV hU;have HLS:=Lib.hid hls;clear hls;have HGS:=Lib.hid hgs;clear hgs;have HBR:=Lib.hid hbr;clear hbr;have HCU:=Lib.hid hcu2;clear hcu2
           go_wp2_with fail
           go_loopw [15] (fun n wr=>∃ i:Nat,i<=nk/\n=.int .i64 i/\Hid (Below wq.heap.size wq wr)) (fun n _=>nk - (intOf n).toNat)
           case atStart=>exact⟨0,by omega,rfl,B.out⟩
           case round =>
            clear B;obtain⟨i,hi,rfl,B⟩:=hrel
            go_upto_region 39 with fail
            by_cases hil:i<nk
            ·have cu1:=Lib.hid (HCU.out i hil);obtain⟨gv,cv,hV,hgv,hcv⟩:=HBR.out (by omega)
             injection hV with hV1 _ hV2
             subst hV1 hV2;have cv1:=Lib.hid (hcv i hil);clear hcv;refine ws_ 7 [fun v _=>v=.int .i64 (i:Int),fun v _=>v=.slice (some ⟨gl,0,none⟩) K cl,fun v _=>v=.int .i64 (k:Int),fun v _=>v=.pointer (some ⟨gl,k,none⟩),fun v _=>v=.slice (some ⟨gv,0,none⟩) nk ck,fun v _=>v=.int .i64 ((nk:Nat):Int),fun v _=>v=.bool true] ?ob ?en
             case ob =>
              refine⟨?_,?_,?_,?_,?_,?_,?_,trivial⟩<;>intro A W h
              ·exact zAB rfl rfl (h.f 15)
              ·exact zAB rfl rfl (h.f 0)
              ·exact zAB rfl rfl (h.f 14)
              ·exact zAU (sz:=1) Tryz.underlying47 (fun w=>by kernel_rfl) rfl rfl (h.d 1 159) (h.d 2 160) (by omega) (by omega)
              ·(have e161:A.eval (.tmp 161)=.pointer (some ⟨gl,k,none⟩):=h.d 3 161;refine zAA rfl ?_;simp only[execOp,e161];(have q:=((B.out.trans (h.below.mono B.out.size)).cell (p:=⟨gl,k,none⟩) hglq).trans HLS.out;simp[go_sem,q]))
              ·exact zBB Tryz.underlying55 rfl rfl (h.d 4 162) (by decide)
              ·(have e158:A.eval (.tmp 158)=.int .i64 (i:Int):=h.d 0 158;have e163:A.eval (.tmp 163)=.int .i64 ((nk:Nat):Int):=h.d 5 163;refine zAA rfl ?_;simp only[execOp,e158,e163];(simp[go_sem]<;>omega))
             case en =>
              intro vals W1 hbw hv _;simp only[fa,Nat.reduceAdd];rw[e_ hv 0,e_ hv 1,e_ hv 2,e_ hv 3,e_ hv 4,e_ hv 5,e_ hv 6];clear hv
              try simp only[pl]
              have B1:=Lib.hid (B.out.trans (hbw.mono B.out.size));clear hbw B
              go_upto_region 41 with fail
              refine wr_ 26 [fun v _=>v=.slice (some ⟨gl,0,none⟩) K cl,fun v _=>v=.int .i64 (k:Int),fun v _=>v=.pointer (some ⟨gl,k,none⟩),fun v _=>v=.slice (some ⟨gv,0,none⟩) nk ck,fun v _=>v=.int .i64 (i:Int),fun v _=>v=.pointer (some ⟨gv,i,none⟩),fun v _=>v=.int .i64 (zA6 k i),fun v _=>v=.int .i64 (k:Int),fun v _=>v=.int .i64 (i:Int),fun v _=>v=.int .i64 (zA6 k i),fun v _=>v=.bool true,fun v _=>v=.bool false,fun v _=>v=.bool false,fun v _=>v=.slice (some ⟨gg,0,none⟩) K K,fun v _=>v=.int .i64 (k:Int),fun v _=>v=.pointer (some ⟨gg,k,none⟩),fun v _=>v=.slice (some ⟨gu,0,none⟩) (nk+64) cu,fun v _=>v=.int .i64 (i:Int),fun v _=>v=.pointer (some ⟨gu,i,none⟩),fun v _=>v=.int .i64 (zA6 k i),fun v _=>v=.int .i64 (k:Int),fun v _=>v=.int .i64 (i:Int),fun v _=>v=.int .i64 (zA6 k i),fun v _=>v=.bool true,fun v _=>v=.bool false,fun v _=>v=.bool false] ?ob ?en
              case ob =>
               refine⟨?_,?_,?_,?_,?_,?_,?_,?_,?_,?_,?_,?_,?_,?_,?_,?_,?_,?_,?_,?_,?_,?_,?_,?_,?_,?_,trivial⟩<;>intro A W h
               ·exact zAB rfl rfl (h.f 0)
               ·exact zAB rfl rfl (h.f 14)
               ·exact zAU (sz:=1) Tryz.underlying47 (fun w=>by kernel_rfl) rfl rfl (h.d 0 167) (h.d 1 168) (by omega) (by omega)
               ·(have e169:A.eval (.tmp 169)=.pointer (some ⟨gl,k,none⟩):=h.d 2 169;refine zAA rfl ?_;simp only[execOp,e169];(have q:=((B1.out.trans (h.below.mono B1.out.size)).cell (p:=⟨gl,k,none⟩) hglq).trans HLS.out;simp[go_sem,q]))
               ·exact zAB rfl rfl (h.f 15)
               ·exact zAU (sz:=1) Tryz.underlying55 (fun w=>by kernel_rfl) rfl rfl (h.d 3 170) (h.d 4 171) (by omega) (by omega)
               ·(have e172:A.eval (.tmp 172)=.pointer (some ⟨gv,i,none⟩):=h.d 5 172;refine zAA rfl ?_;simp only[execOp,e172];(have q:=((B1.out.trans (h.below.mono B1.out.size)).cell (p:=⟨gv,i,none⟩) hgv).trans cv1.out;simp[go_sem,q]))
               ·exact zAB rfl rfl (h.f 14)
               ·exact zAB rfl rfl (h.f 15)
               ·exact zAc rfl rfl (enters_of Tryz.func48 (by kernel_rfl) rfl) (zBm ⟨(h.d 7 174),(h.d 8 175)⟩) ((zCE k i W (by omega) (by omega)).mono fun _ _ h=>⟨h.1,h.2 ▸ Below.refl _ _⟩)
               ·(have e173:A.eval (.tmp 173)=.int .i64 (zA6 k i):=h.d 6 173;have e176:A.eval (.tmp 176)=.int .i64 (zA6 k i):=h.d 9 176;refine zAA rfl ?_;simp only[execOp,e173,e176];simp[go_sem])
               ·(have e177:A.eval (.tmp 177)=.bool true:=h.d 10 177;refine zAA rfl ?_;simp only[execOp,e177];simp[go_sem])
               ·exact zAB rfl rfl (h.d 11 178)
               ·exact zAB (wg (h.d 12 179)) rfl (h.f 5)
               ·exact zAB (wg (h.d 12 179)) rfl (h.f 14)
               ·exact zAU (sz:=1) Tryz.underlying47 (fun w=>by kernel_rfl) (wg (h.d 12 179)) rfl (h.d 13 180) (h.d 14 181) (by omega) (by omega)
               ·(have e182:A.eval (.tmp 182)=.pointer (some ⟨gg,k,none⟩):=h.d 15 182;refine zAA (wg (h.d 12 179)) ?_;simp only[execOp,e182];(have q:=((B1.out.trans (h.below.mono B1.out.size)).cell (p:=⟨gg,k,none⟩) hggq).trans HGS.out;simp[go_sem,q]))
               ·exact zAB (wg (h.d 12 179)) rfl (h.f 15)
               ·exact zAU (sz:=1) Tryz.underlying55 (fun w=>by kernel_rfl) (wg (h.d 12 179)) rfl (h.d 16 183) (h.d 17 184) (by omega) (by omega)
               ·(have e185:A.eval (.tmp 185)=.pointer (some ⟨gu,i,none⟩):=h.d 18 185;refine zAA (wg (h.d 12 179)) ?_;simp only[execOp,e185];(have q:=((B1.out.trans (h.below.mono B1.out.size)).cell (p:=⟨gu,i,none⟩) hgu).trans cu1.out;simp[go_sem,q]))
               ·exact zAB (wg (h.d 12 179)) rfl (h.f 14)
               ·exact zAB (wg (h.d 12 179)) rfl (h.f 15)
               ·exact zAc (wg (h.d 12 179)) rfl (enters_of Tryz.func48 (by kernel_rfl) rfl) (zBm ⟨(h.d 20 187),(h.d 21 188)⟩) ((zCE k i W (by omega) (by omega)).mono fun _ _ h=>⟨h.1,h.2 ▸ Below.refl _ _⟩)
               ·(have e186:A.eval (.tmp 186)=.int .i64 (zA6 k i):=h.d 19 186;have e189:A.eval (.tmp 189)=.int .i64 (zA6 k i):=h.d 22 189;refine zAA (wg (h.d 12 179)) ?_;simp only[execOp,e186,e189];simp[go_sem])
               ·(have e190:A.eval (.tmp 190)=.bool true:=h.d 23 190;refine zAA (wg (h.d 12 179)) ?_;simp only[execOp,e190];simp[go_sem])
               ·exact zAy rfl rfl (h.d 12 179) (h.d 24 191)
              case en =>
               intro vals W2 hbw hv _;simp only[fa,Nat.reduceAdd];rw[e_ hv 0,e_ hv 1,e_ hv 2,e_ hv 3,e_ hv 4,e_ hv 5,e_ hv 6,e_ hv 7,e_ hv 8,e_ hv 9,e_ hv 10,e_ hv 11,e_ hv 12,e_ hv 13,e_ hv 14,e_ hv 15,e_ hv 16,e_ hv 17,e_ hv 18,e_ hv 19,e_ hv 20,e_ hv 21,e_ hv 22,e_ hv 23,e_ hv 24,e_ hv 25];clear hv
               try simp only[pl]
               have B2:=Lib.hid (B1.out.trans (hbw.mono B1.out.size));clear hbw B1
               go_wp2_with fail
               go_roundw
               case rel=>exact⟨i+1,by omega,by go_num,B2.out⟩
               case measure=>simp[intOf];omega
            ·obtain rfl:i=nk:=by omega
             refine ws_ 7 [fun v _=>v=.int .i64 (i:Int),fun v _=>v=.slice (some ⟨gl,0,none⟩) K cl,fun v _=>v=.int .i64 (k:Int),fun v _=>v=.pointer (some ⟨gl,k,none⟩),fun v _=>v=.slice pk i ck,fun v _=>v=.int .i64 ((i:Nat):Int),fun v _=>v=.bool false] ?ob ?en
             case ob =>
              refine⟨?_,?_,?_,?_,?_,?_,?_,trivial⟩<;>intro A W h
              ·exact zAB rfl rfl (h.f 15)
              ·exact zAB rfl rfl (h.f 0)
              ·exact zAB rfl rfl (h.f 14)
              ·exact zAU (sz:=1) Tryz.underlying47 (fun w=>by kernel_rfl) rfl rfl (h.d 1 159) (h.d 2 160) (by omega) (by omega)
              ·(have e161:A.eval (.tmp 161)=.pointer (some ⟨gl,k,none⟩):=h.d 3 161;refine zAA rfl ?_;simp only[execOp,e161];(have q:=((B.out.trans (h.below.mono B.out.size)).cell (p:=⟨gl,k,none⟩) hglq).trans HLS.out;simp[go_sem,q]))
              ·exact zBB Tryz.underlying55 rfl rfl (h.d 4 162) (by decide)
              ·(have e158:A.eval (.tmp 158)=.int .i64 (i:Int):=h.d 0 158;have e163:A.eval (.tmp 163)=.int .i64 ((i:Nat):Int):=h.d 5 163;refine zAA rfl ?_;simp only[execOp,e158,e163];(simp[go_sem]<;>omega))
             case en =>
              intro vals W1 hbw hv _;simp only[fa,Nat.reduceAdd];rw[e_ hv 0,e_ hv 1,e_ hv 2,e_ hv 3,e_ hv 4,e_ hv 5,e_ hv 6];clear hv
              try simp only[pl]
              have B1:=Lib.hid (B.out.trans (hbw.mono B.out.size));clear hbw B
              go_wp2_with fail
              go_roundw
              case rel=>exact⟨k+1,by omega,by go_num,B1.out⟩
              case measure=>simp[intOf];omega
          ·obtain rfl:K=k:=by omega
           go_wp2
           go_ret;exact⟨rfl,_,⟨(G.out.up B.out).ls,(G.out.up B.out).reset.fam,(G.out.up B.out).below,G.out.size0⟩⟩
end
end Go.Proofs.YtphjgfjbiimkjaaGreat
