/-
  Laws of walks, and walks.
-/
import Derived.Test.YtklcgfkdemifcaaDoorSr15
import Derived.Test.YtklcgfkdemifcaaDoorSr9
import Derived.Test.YtklcgfkdemifcaaDoorSr11
import Derived.WalkKit
import Derived.ProofKit
import Derived.Lay
import Derived.HandedShaped
import Derived.SizedLaws
import Derived.LaidOnce
import Derived.SevenTiedAt
import Derived.Shelf.Vars
import Derived.Test.YtklcgfkdemifcaaDoorSr3
set_option linter.unusedVariables false
set_option linter.unusedSimpArgs false
set_option maxRecDepth 100000
set_option maxHeartbeats 16000000
namespace Go.Proofs.YtklcgfkdemifcaaDoor
section
open Go.RowKit Go.Shelf
attribute [local go_sem] Oper.semAt_some
theorem zIu (m:Nat) (IH:∀ (t:Tree) (p:Option Addr) (n c:Nat) (F:Nat→Prop) (w0:World) (g g2:Int),zAl t≤m→zCR t g g2→0≤g→g+zAl t≤1000000→(∀ b,F b→b<w0.heap.size)→ForestR w0 F p c t.kids→n=t.kids.length →
   Calls Tryd.prog 8 #[zAa t.d (.slice p n c),.int .i64 g] w0 (Rt (.tuple #[.int .i64 g2,.bool true]) w0))
  (hgr:∀ (t:Tree) (g g2:Int),zCR t g g2→g≤g2∧g2≤g+zAl t) (d:NodeD) (hk:d.kind=6) (hE:eqS d.set zAF=true) (hl0:0≤d.lo) (hl1:d.lo≤100) (hh1:d.hi≤100) (hh:d.hi = -1) (hgp:d.group=0) (xs:List TV) (p:Option Addr) (n c:Nat) (F:Nat→Prop) (w0:World) (g g2:Int) (hm:zAO (xs.map (·.1))≤m) (h0:0≤g) (hg:g+zAO (xs.map (·.1))+1≤1000000) (hw:zAr (xs.map (·.1)) (g) g2) (hF:∀ b,F b→b<w0.heap.size) (hK:Knows F p n c xs w0) (hn:n=1) :
  Calls Tryd.prog 8 #[zAa (d) (.slice p n c),.int .i64 g] w0 (Rt (.tuple #[.int .i64 g2,.bool true]) w0):=by
 have H:=Hold.knows hF hK;have hc1:=hK.bound.2.1;have hc2:=hK.bound.2.2;have hp:=hK.at;have HN:=Lib.hid hK.bound.1;clear hK;have k4:(d.kind == 4)=false:=by rw[hk];rfl
 have k5:(d.kind == 5)=false:=by rw[hk];rfl
 have k6:(d.kind == 6)=true:=by rw[hk];rfl
 have k7:(d.kind == 7)=false:=by rw[hk];rfl
 have k3:(d.kind == 3)=false:=by rw[hk];rfl
 clear hk;have z3:(d.group == 0)=true:=by rw[hgp];rfl
 clear hgp;have y1:decide (d.lo ≥ 0)=true:=decide_eq_true hl0;have y2:decide (d.lo≤100)=true:=decide_eq_true hl1;have y3:decide (d.hi≤100)=true:=decide_eq_true hh1;have y4:(d.hi == -1)=true:=by rw[hh];rfl
 go_enter Tryd.func8,Tryd.ntmps8
 go_wp2_with (first|((first|((with_reducible refine kgA 2 ?_);refine kA 2 H ?_)|((with_reducible refine kgX 2 ?_);(first|refine kS 2 H ?_|refine kB 2 H ?_)));clear H;intro b2 w H;try simp only[nr]at H)|(first|((with_reducible refine gL ?_);(first|refine aVn H ?_|refine aG H ?_))|((with_reducible refine gES ?_);refine qS ?_)|((with_reducible refine gZ ?_);refine aZ ?_)))
 go_loopw [1,7,8] (fun k ok i wr=>∃ (j:Nat) (gj:Int),j≤n∧i=.int .i64 j∧ok=.bool true∧k=.int .i64 gj∧0≤gj∧gj+zAO ((xs.map (·.1)).drop j)≤1000000∧Hid (zAr ((xs.map (·.1)).drop j) gj g2)∧Hold w0 wr [.kn F (Knows F p n c xs),.blk b2 (zAQ (d) (.slice p n c)) 31]) (fun _ _ i _=>n+1 - (intOf i).toNat)
 case atStart=>exact⟨0,g,by omega,rfl,rfl,rfl,by omega,by simp;omega,Lib.hid (by simpa using hw),H⟩
 case round =>
  clear H hw;obtain⟨j,gj,hj,rfl,rfl,rfl,hg0,hgs,hwj,H⟩:=hrel
  by_cases hlt:j<n
  ·have dj:decide ((j:Int)<(n:Int))=true:=by simp;omega
   obtain⟨x,hx⟩:∃ x,xs[j]?=some x:=⟨_,List.getElem?_eq_getElem (by rw[← HN.out];exact hlt)⟩
   obtain⟨b,off,rfl⟩:=hp (by rw[← HN.out];omega)
   have hxm:(xs.map (·.1))[j]?=some x.1:=by rw[List.getElem?_map,hx];rfl
   obtain⟨gx,hx1,hx2⟩:=zD0 hxm hwj.out;have hgx:=hgr x.1 gj gx hx1;have hdr:zAO ((xs.map (·.1)).drop j)=zAl x.1+zAO ((xs.map (·.1)).drop (j+1)):=by
    have hlt2:=(List.getElem?_eq_some_iff.1 hxm).1;rw[List.drop_eq_getElem_cons hlt2,(List.getElem?_eq_some_iff.1 hxm).2,zAO]
   have hs1:=zCV hx;have hmem:=List.mem_of_getElem? hx;have hcell:∀ V,Knows F (some ⟨b,off,none⟩) n c xs V→∀ k,k<10→V.cell? ⟨b,off+j * 10+k,none⟩=(zAo x)[k]?:=fun V h=>h.cells hx rfl
   have ih:=fun w (hw:∀ b,F b→b<w.heap.size) (hk:Knows F (some ⟨b,off,none⟩) n c xs w)=>IH x.1 x.2.1 _ x.2.2 F w gj gx (by omega) hx1 hg0 (by omega) hw (hk.2 x hmem) rfl
   have HX:=Lib.hid hx2;clear IH hx hmem hp hx1 hx2 hgr hxm hwj
   go_wp2_with (first|((with_reducible refine gL ?_);refine zBb wtd_ _ _ rfl rfl zAW (zBQ x) (hcell _ (H.kn .zero)) ?_)|((with_reducible refine gL ?_);refine aG H ?_)|((with_reducible refine ch (ih _ (H.knlt .zero) (H.kn .zero)) H ?_);clear H;intro w H))
   go_roundw
   case rel=>exact⟨j+1,gx,by omega,by go_num,rfl,rfl,by omega,by omega,HX,H⟩
   case measure=>simp[intOf];omega
  ·have dj:decide ((j:Int)<(n:Int))=false:=by simp;omega
   obtain rfl:j=n:=by omega
   have e2:g2=gj:=by
    have h:=hwj.out;rw[List.drop_eq_nil_iff.2 (by rw[List.length_map,← HN.out];exact Nat.le_refl _)]at h
    simpa [zAr] using h
   go_wp2_with (first|((with_reducible refine gL ?_);refine aG H ?_))
   refine⟨rfl,.tuple #[.int .i64 gj,.bool true],(by simp[results,Tryd.results8,go_sem]),?_⟩
   exact⟨by rw[e2],H.below⟩
theorem zIg (m:Nat) (IH:∀ (t:Tree) (p:Option Addr) (n c:Nat) (F:Nat→Prop) (w0:World) (g g2:Int),zAl t≤m→zCR t g g2→0≤g→g+zAl t≤1000000→(∀ b,F b→b<w0.heap.size)→ForestR w0 F p c t.kids→n=t.kids.length →
   Calls Tryd.prog 8 #[zAa t.d (.slice p n c),.int .i64 g] w0 (Rt (.tuple #[.int .i64 g2,.bool true]) w0))
  (hgr:∀ (t:Tree) (g g2:Int),zCR t g g2→g≤g2∧g2≤g+zAl t) (d:NodeD) (hk:d.kind=6) (hE:eqS d.set zAF=true) (hl0:0≤d.lo) (hl1:d.lo≤100) (hh1:d.hi≤100) (hh:d.hi ≠ -1) (hlh:d.lo≤d.hi) (hgp:d.group=0) (xs:List TV) (p:Option Addr) (n c:Nat) (F:Nat→Prop) (w0:World) (g g2:Int) (hm:zAO (xs.map (·.1))≤m) (h0:0≤g) (hg:g+zAO (xs.map (·.1))+1≤1000000) (hw:zAr (xs.map (·.1)) (g) g2) (hF:∀ b,F b→b<w0.heap.size) (hK:Knows F p n c xs w0) (hn:n=1) :
  Calls Tryd.prog 8 #[zAa (d) (.slice p n c),.int .i64 g] w0 (Rt (.tuple #[.int .i64 g2,.bool true]) w0):=by
 have H:=Hold.knows hF hK;have hc1:=hK.bound.2.1;have hc2:=hK.bound.2.2;have hp:=hK.at;have HN:=Lib.hid hK.bound.1;clear hK;have k4:(d.kind == 4)=false:=by rw[hk];rfl
 have k5:(d.kind == 5)=false:=by rw[hk];rfl
 have k6:(d.kind == 6)=true:=by rw[hk];rfl
 have k7:(d.kind == 7)=false:=by rw[hk];rfl
 have k3:(d.kind == 3)=false:=by rw[hk];rfl
 clear hk;have z3:(d.group == 0)=true:=by rw[hgp];rfl
 clear hgp;have y1:decide (d.lo ≥ 0)=true:=decide_eq_true hl0;have y2:decide (d.lo≤100)=true:=decide_eq_true hl1;have y3:decide (d.hi≤100)=true:=decide_eq_true hh1;have y4:(d.hi == -1)=false:=by rw[beq_eq_false_iff_ne];exact hh
 have y5:decide (d.hi ≥ d.lo)=true:=decide_eq_true hlh
 go_enter Tryd.func8,Tryd.ntmps8
 go_wp2_with (first|((first|((with_reducible refine kgA 2 ?_);refine kA 2 H ?_)|((with_reducible refine kgX 2 ?_);(first|refine kS 2 H ?_|refine kB 2 H ?_)));clear H;intro b2 w H;try simp only[nr]at H)|(first|((with_reducible refine gL ?_);(first|refine aVn H ?_|refine aG H ?_))|((with_reducible refine gES ?_);refine qS ?_)|((with_reducible refine gZ ?_);refine aZ ?_)))
 go_loopw [1,7,8] (fun k ok i wr=>∃ (j:Nat) (gj:Int),j≤n∧i=.int .i64 j∧ok=.bool true∧k=.int .i64 gj∧0≤gj∧gj+zAO ((xs.map (·.1)).drop j)≤1000000∧Hid (zAr ((xs.map (·.1)).drop j) gj g2)∧Hold w0 wr [.kn F (Knows F p n c xs),.blk b2 (zAQ (d) (.slice p n c)) 31]) (fun _ _ i _=>n+1 - (intOf i).toNat)
 case atStart=>exact⟨0,g,by omega,rfl,rfl,rfl,by omega,by simp;omega,Lib.hid (by simpa using hw),H⟩
 case round =>
  clear H hw;obtain⟨j,gj,hj,rfl,rfl,rfl,hg0,hgs,hwj,H⟩:=hrel
  by_cases hlt:j<n
  ·have dj:decide ((j:Int)<(n:Int))=true:=by simp;omega
   obtain⟨x,hx⟩:∃ x,xs[j]?=some x:=⟨_,List.getElem?_eq_getElem (by rw[← HN.out];exact hlt)⟩
   obtain⟨b,off,rfl⟩:=hp (by rw[← HN.out];omega)
   have hxm:(xs.map (·.1))[j]?=some x.1:=by rw[List.getElem?_map,hx];rfl
   obtain⟨gx,hx1,hx2⟩:=zD0 hxm hwj.out;have hgx:=hgr x.1 gj gx hx1;have hdr:zAO ((xs.map (·.1)).drop j)=zAl x.1+zAO ((xs.map (·.1)).drop (j+1)):=by
    have hlt2:=(List.getElem?_eq_some_iff.1 hxm).1;rw[List.drop_eq_getElem_cons hlt2,(List.getElem?_eq_some_iff.1 hxm).2,zAO]
   have hs1:=zCV hx;have hmem:=List.mem_of_getElem? hx;have hcell:∀ V,Knows F (some ⟨b,off,none⟩) n c xs V→∀ k,k<10→V.cell? ⟨b,off+j * 10+k,none⟩=(zAo x)[k]?:=fun V h=>h.cells hx rfl
   have ih:=fun w (hw:∀ b,F b→b<w.heap.size) (hk:Knows F (some ⟨b,off,none⟩) n c xs w)=>IH x.1 x.2.1 _ x.2.2 F w gj gx (by omega) hx1 hg0 (by omega) hw (hk.2 x hmem) rfl
   have HX:=Lib.hid hx2;clear IH hx hmem hp hx1 hx2 hgr hxm hwj
   go_wp2_with (first|((with_reducible refine gL ?_);refine zBb wtd_ _ _ rfl rfl zAW (zBQ x) (hcell _ (H.kn .zero)) ?_)|((with_reducible refine gL ?_);refine aG H ?_)|((with_reducible refine ch (ih _ (H.knlt .zero) (H.kn .zero)) H ?_);clear H;intro w H))
   go_roundw
   case rel=>exact⟨j+1,gx,by omega,by go_num,rfl,rfl,by omega,by omega,HX,H⟩
   case measure=>simp[intOf];omega
  ·have dj:decide ((j:Int)<(n:Int))=false:=by simp;omega
   obtain rfl:j=n:=by omega
   have e2:g2=gj:=by
    have h:=hwj.out;rw[List.drop_eq_nil_iff.2 (by rw[List.length_map,← HN.out];exact Nat.le_refl _)]at h
    simpa [zAr] using h
   go_wp2_with (first|((with_reducible refine gL ?_);refine aG H ?_))
   refine⟨rfl,.tuple #[.int .i64 gj,.bool true],(by simp[results,Tryd.results8,go_sem]),?_⟩
   exact⟨by rw[e2],H.below⟩
theorem zJp (m:Nat) (IH:∀ (t:Tree) (p:Option Addr) (n c:Nat) (F:Nat→Prop) (w0:World) (g g2:Int),zAl t≤m→zCR t g g2→0≤g→g+zAl t≤1000000→(∀ b,F b→b<w0.heap.size)→ForestR w0 F p c t.kids→n=t.kids.length →
   Calls Tryd.prog 8 #[zAa t.d (.slice p n c),.int .i64 g] w0 (Rt (.tuple #[.int .i64 g2,.bool true]) w0))
  (hgr:∀ (t:Tree) (g g2:Int),zCR t g g2→g≤g2∧g2≤g+zAl t) (d:NodeD) (hk:d.kind=7) (hE:eqS d.set zAF=true) (hlo:d.lo=0) (hhi:d.hi=0) (hlz:d.lazy=false)  (xs:List TV) (p:Option Addr) (n c:Nat) (F:Nat→Prop) (w0:World) (g g2:Int) (hm:zAO (xs.map (·.1))≤m) (h0:0≤g) (hg:g+zAO (xs.map (·.1))+1≤1000000) (hw:zAr (xs.map (·.1)) (g+1) g2) (hF:∀ b,F b→b<w0.heap.size) (hK:Knows F p n c xs w0) (hgp:d.group=g+1) (hn:n=1) :
  Calls Tryd.prog 8 #[zAa (d) (.slice p n c),.int .i64 g] w0 (Rt (.tuple #[.int .i64 g2,.bool true]) w0):=by
 have H:=Hold.knows hF hK;have hc1:=hK.bound.2.1;have hc2:=hK.bound.2.2;have hp:=hK.at;have HN:=Lib.hid hK.bound.1;clear hK;have k4:(d.kind == 4)=false:=by rw[hk];rfl
 have k5:(d.kind == 5)=false:=by rw[hk];rfl
 have k6:(d.kind == 6)=false:=by rw[hk];rfl
 have k7:(d.kind == 7)=true:=by rw[hk];rfl
 have k3:(d.kind == 3)=false:=by rw[hk];rfl
 clear hk;have z1:(d.lo == 0)=true:=by rw[hlo];rfl
 have z2:(d.hi == 0)=true:=by rw[hhi];rfl
 have z3:(d.group == g+1)=true:=by rw[hgp];simp
 clear hlo hhi hgp
 go_enter Tryd.func8,Tryd.ntmps8
 go_wp2_with (first|((first|((with_reducible refine kgA 2 ?_);refine kA 2 H ?_)|((with_reducible refine kgX 2 ?_);(first|refine kS 2 H ?_|refine kB 2 H ?_)));clear H;intro b2 w H;try simp only[nr]at H)|(first|((with_reducible refine gL ?_);(first|refine aVn H ?_|refine aGb H ?_|refine aG H ?_))|((with_reducible refine gES ?_);refine qS ?_)|((with_reducible refine gZ ?_);refine aZ ?_)))
 go_loopw [1,7,8] (fun k ok i wr=>∃ (j:Nat) (gj:Int),j≤n∧i=.int .i64 j∧ok=.bool true∧k=.int .i64 gj∧0≤gj∧gj+zAO ((xs.map (·.1)).drop j)≤1000000∧Hid (zAr ((xs.map (·.1)).drop j) gj g2)∧Hold w0 wr [.kn F (Knows F p n c xs),.blk b2 (zAQ (d) (.slice p n c)) 31]) (fun _ _ i _=>n+1 - (intOf i).toNat)
 case atStart=>exact⟨0,g+1,by omega,rfl,rfl,rfl,by omega,by simp;omega,Lib.hid (by simpa using hw),H⟩
 case round =>
  clear H hw;obtain⟨j,gj,hj,rfl,rfl,rfl,hg0,hgs,hwj,H⟩:=hrel
  by_cases hlt:j<n
  ·have dj:decide ((j:Int)<(n:Int))=true:=by simp;omega
   obtain⟨x,hx⟩:∃ x,xs[j]?=some x:=⟨_,List.getElem?_eq_getElem (by rw[← HN.out];exact hlt)⟩
   obtain⟨b,off,rfl⟩:=hp (by rw[← HN.out];omega)
   have hxm:(xs.map (·.1))[j]?=some x.1:=by rw[List.getElem?_map,hx];rfl
   obtain⟨gx,hx1,hx2⟩:=zD0 hxm hwj.out;have hgx:=hgr x.1 gj gx hx1;have hdr:zAO ((xs.map (·.1)).drop j)=zAl x.1+zAO ((xs.map (·.1)).drop (j+1)):=by
    have hlt2:=(List.getElem?_eq_some_iff.1 hxm).1;rw[List.drop_eq_getElem_cons hlt2,(List.getElem?_eq_some_iff.1 hxm).2,zAO]
   have hs1:=zCV hx;have hmem:=List.mem_of_getElem? hx;have hcell:∀ V,Knows F (some ⟨b,off,none⟩) n c xs V→∀ k,k<10→V.cell? ⟨b,off+j * 10+k,none⟩=(zAo x)[k]?:=fun V h=>h.cells hx rfl
   have ih:=fun w (hw:∀ b,F b→b<w.heap.size) (hk:Knows F (some ⟨b,off,none⟩) n c xs w)=>IH x.1 x.2.1 _ x.2.2 F w gj gx (by omega) hx1 hg0 (by omega) hw (hk.2 x hmem) rfl
   have HX:=Lib.hid hx2;clear IH hx hmem hp hx1 hx2 hgr hxm hwj
   go_wp2_with (first|((with_reducible refine gL ?_);refine zBb wtd_ _ _ rfl rfl zAW (zBQ x) (hcell _ (H.kn .zero)) ?_)|((with_reducible refine gL ?_);refine aG H ?_)|((with_reducible refine ch (ih _ (H.knlt .zero) (H.kn .zero)) H ?_);clear H;intro w H))
   go_roundw
   case rel=>exact⟨j+1,gx,by omega,by go_num,rfl,rfl,by omega,by omega,HX,H⟩
   case measure=>simp[intOf];omega
  ·have dj:decide ((j:Int)<(n:Int))=false:=by simp;omega
   obtain rfl:j=n:=by omega
   have e2:g2=gj:=by
    have h:=hwj.out;rw[List.drop_eq_nil_iff.2 (by rw[List.length_map,← HN.out];exact Nat.le_refl _)]at h
    simpa [zAr] using h
   go_wp2_with (first|((with_reducible refine gL ?_);refine aG H ?_))
   refine⟨rfl,.tuple #[.int .i64 gj,.bool true],(by simp[results,Tryd.results8,go_sem]),?_⟩
   exact⟨by rw[e2],H.below⟩
theorem zJx (m:Nat) (IH:∀ (t:Tree) (p:Option Addr) (n c:Nat) (F:Nat→Prop) (w0:World) (g g2:Int),zAl t≤m→zCR t g g2→0≤g→g+zAl t≤1000000→(∀ b,F b→b<w0.heap.size)→ForestR w0 F p c t.kids→n=t.kids.length →
   Calls Tryd.prog 8 #[zAa t.d (.slice p n c),.int .i64 g] w0 (Rt (.tuple #[.int .i64 g2,.bool true]) w0))
  (hgr:∀ (t:Tree) (g g2:Int),zCR t g g2→g≤g2∧g2≤g+zAl t) (d:NodeD) (hk:d.kind=1∨d.kind=2∨8≤d.kind∧d.kind≤13) (hE:eqS d.set zAF=true) (hlo:d.lo=0) (hhi:d.hi=0) (hlz:d.lazy=false) (hgp:d.group=0) (xs:List TV) (p:Option Addr) (n c:Nat) (F:Nat→Prop) (w0:World) (g g2:Int) (hm:zAO (xs.map (·.1))≤m) (h0:0≤g) (hg:g+zAO (xs.map (·.1))+1≤1000000) (hw:zAr (xs.map (·.1)) (g) g2) (hF:∀ b,F b→b<w0.heap.size) (hK:Knows F p n c xs w0) (hn:n=0) :
  Calls Tryd.prog 8 #[zAa (d) (.slice p n c),.int .i64 g] w0 (Rt (.tuple #[.int .i64 g2,.bool true]) w0):=by
 have H:=Hold.knows hF hK;have hc1:=hK.bound.2.1;have hc2:=hK.bound.2.2;have hp:=hK.at;have HN:=Lib.hid hK.bound.1;clear hK;have k4:(d.kind == 4)=false:=by rw[beq_eq_false_iff_ne];omega
 have k5:(d.kind == 5)=false:=by rw[beq_eq_false_iff_ne];omega
 have k6:(d.kind == 6)=false:=by rw[beq_eq_false_iff_ne];omega
 have k7:(d.kind == 7)=false:=by rw[beq_eq_false_iff_ne];omega
 have k3:(d.kind == 3)=false:=by rw[beq_eq_false_iff_ne];omega
 have k8:decide (d.kind ≥ 1)=true:=decide_eq_true (by omega)
 have k9:decide (d.kind≤13)=true:=decide_eq_true (by omega)
 clear hk;have z1:(d.lo == 0)=true:=by rw[hlo];rfl
 have z2:(d.hi == 0)=true:=by rw[hhi];rfl
 have z3:(d.group == 0)=true:=by rw[hgp];rfl
 clear hlo hhi hgp
 go_enter Tryd.func8,Tryd.ntmps8
 go_wp2_with (first|((first|((with_reducible refine kgA 2 ?_);refine kA 2 H ?_)|((with_reducible refine kgX 2 ?_);(first|refine kS 2 H ?_|refine kB 2 H ?_)));clear H;intro b2 w H;try simp only[nr]at H)|(first|((with_reducible refine gL ?_);(first|refine aVn H ?_|refine aGb H ?_|refine aG H ?_))|((with_reducible refine gES ?_);refine qS ?_)|((with_reducible refine gZ ?_);refine aZ ?_)))
 go_loopw [1,7,8] (fun k ok i wr=>∃ (j:Nat) (gj:Int),j≤n∧i=.int .i64 j∧ok=.bool true∧k=.int .i64 gj∧0≤gj∧gj+zAO ((xs.map (·.1)).drop j)≤1000000∧Hid (zAr ((xs.map (·.1)).drop j) gj g2)∧Hold w0 wr [.kn F (Knows F p n c xs),.blk b2 (zAQ (d) (.slice p n c)) 31]) (fun _ _ i _=>n+1 - (intOf i).toNat)
 case atStart=>exact⟨0,g,by omega,rfl,rfl,rfl,by omega,by simp;omega,Lib.hid (by simpa using hw),H⟩
 case round =>
  clear H hw;obtain⟨j,gj,hj,rfl,rfl,rfl,hg0,hgs,hwj,H⟩:=hrel
  by_cases hlt:j<n
  ·omega
  ·have dj:decide ((j:Int)<(n:Int))=false:=by simp;omega
   obtain rfl:j=n:=by omega
   have e2:g2=gj:=by
    have h:=hwj.out;rw[List.drop_eq_nil_iff.2 (by rw[List.length_map,← HN.out];exact Nat.le_refl _)]at h
    simpa [zAr] using h
   go_wp2_with (first|((with_reducible refine gL ?_);refine aG H ?_))
   refine⟨rfl,.tuple #[.int .i64 gj,.bool true],(by simp[results,Tryd.results8,go_sem]),?_⟩
   exact⟨by rw[e2],H.below⟩
end
section
open Go.RowKit Go.Shelf
mutual
theorem zCS:∀ (t:Tree) (g g2:Int),zCR t g g2→g≤g2∧g2≤g+zAl t
 | .mk d ks,g,g2,⟨g1,hN,hW⟩=>by
  have h:=zGR ks g1 g2 hW;have h1:g≤g1∧g1≤g+1:=by
   rcases hN with h|h|h|h|h
   ·have:=h.2.2.2.2.2.2.2;omega
   ·have:=h.2.2.2.2.2.2.2;omega
   ·have:=h.2.2.2.2.2.2.2.2;omega
   ·have:=h.2.2.2.2.2.2.2;omega
   ·have:=h.2.2.2.2.2.2.2;omega
  simp only[zAl];omega
theorem zGR:∀ (ts:List Tree) (g g2:Int),zAr ts g g2→g≤g2∧g2≤g+zAO ts
 | [],g,g2,h=>by simp only[zAr]at h;simp only[zAO];omega
 | t::r,g,g2,⟨g1,h1,h2⟩=>by
  have a:=zCS t g g1 h1;have b:=zGR r g1 g2 h2;simp only[zAO];omega
end
theorem zDB {s:Nat→Nat} (h:s=zAF):eqS s zAF=true:=by subst h;rfl
theorem zJE:∀ (m:Nat) (t:Tree) (p:Option Addr) (n c:Nat) (F:Nat→Prop) (w0:World) (g g2:Int),zAl t≤m→zCR t g g2→0≤g→g+zAl t≤1000000→(∀ b,F b→b<w0.heap.size)→ForestR w0 F p c t.kids→n=t.kids.length →
   Calls Tryd.prog 8 #[zAa t.d (.slice p n c),.int .i64 g] w0 (Rt (.tuple #[.int .i64 g2,.bool true]) w0)
 | 0,t,_,_,_,_,_,_,_,hm,_,_,_,_,_,_=>by have:=zD4 t;omega
 | m+1,.mk d ts,p,n,c,F,w0,g,g2,hm,⟨g1,hN,hW⟩,h0,hg,hF,h,hn=>by
  have IH:=zJE m;simp only[Tree.kids,Tree.d]at h hn ⊢;obtain⟨xs,a1,a2,rfl⟩:=h.open;rw[List.length_map]at hn hN;rw[← hn]at a1 hN;have hK:Knows F p n c xs w0:=⟨a1,a2⟩;simp only[zAl]at hm hg;have hm1:zAO (xs.map (·.1))≤m:=by omega
  have hg1:g+zAO (xs.map (·.1))+1≤1000000:=by omega
  rcases hN with ⟨k,k0,k1,k2,k3,k4,k5,k6⟩|⟨k,k0,k1,k2,k3,k4,k5,k6⟩|⟨k,k0,k1,k2,k3,k4,k5,k6,k7⟩|⟨k,k0,k1,k2,k3,k4,k5,k6⟩|⟨k,k0,k1,k2,k3,k4,k5,k6⟩
  ·subst k6;exact zJ8 m IH zCS d k k1 k2 k3 k4 k5 xs p n c F w0 g1 g2 hm1 h0 hg1 hW hF hK k0
  ·subst k6;rcases k with k|k
   ·exact zJm m IH zCS d k (zDB k1) k2 k3 k4 k5 xs p n c F w0 g1 g2 hm1 h0 hg1 hW hF hK k0
   ·exact zKA m IH zCS d k (zDB k1) k2 k3 k4 k5 xs p n c F w0 g1 g2 hm1 h0 hg1 hW hF hK k0
  ·subst k7
   by_cases hh:d.hi = -1
   ·exact zIu m IH zCS d k (zDB k1) k2 k3 k4 hh k6 xs p n c F w0 g1 g2 hm1 h0 hg1 hW hF hK k0
   ·exact zIg m IH zCS d k (zDB k1) k2 k3 k4 hh (by omega) k6 xs p n c F w0 g1 g2 hm1 h0 hg1 hW hF hK k0
  ·subst k6;exact zJp m IH zCS d k (zDB k1) k2 k3 k4 xs p n c F w0 g g2 hm1 h0 hg1 hW hF hK k5 k0
  ·subst k6;exact zJx m IH zCS d k (zDB k1) k2 k3 k4 k5 xs p n c F w0 g1 g2 hm1 h0 hg1 hW hF hK k0
end
section
open Go.RowKit Go.Shelf
attribute [local go_sem] Oper.semAt_some
section
variable {M:Nat→Prop} {P:Program} {f:FuncId} {args:Array Value} {w w0:World} {l:List Res} {R:Ending→World→Prop}
theorem zOJ {t:Tree} {g:Nat} (c:Calls P f args w fun e w'=>ParseOut w (.ok (t,g)) e w'∧Below w.heap.size w w') (H:HoldG M w0 w l)
  (k:∀ p n F w',(∀ b,F b→w0.heap.size≤b)→HoldG M w0 w' (l++[.kn F (fun V=>ForestR V F p n t.kids)])→R (.returned (.tuple #[zAa t.d (.slice p t.kids.length n),.int .i64 g,.int .i64 0,.int .i64 0])) w'):Calls P f args w R:=c.mono fun _ w' h=>by
 obtain⟨⟨p,n,F,rfl,hs,hF⟩,hb⟩:=h;exact k p n F w' (fun b h=>Nat.le_trans H.keep.size (hF b h).2) (H.learn hb Still.none (fun b h=>⟨(hF b h).1,.inl (hF b h).2⟩) (fun V hV=>hs.kept hV))
theorem zM0 {a x:Nat} (c:Calls P f args w fun e w'=>ParseOut w (.error (a,x)) e w'∧Below w.heap.size w w') (H:HoldG M w0 w l)
  (k:∀ w',HoldG M w0 w' l→R (.returned (.tuple #[zAa {kind:=0} nilS,.int .i64 0,.int .i64 a,.int .i64 x])) w'):Calls P f args w R:=c.mono fun _ w' h=>by
 obtain⟨rfl,hb⟩:=h;exact k w' (H.call hb)
end
theorem zOO (k:Int) (p:Option Addr) (n c:Nat) (w0:World):Calls Tryd.prog 14 #[.int .i64 k,.slice p n c] w0 (Rt (zAa {kind:=k} (.slice p n c)) w0):=by
 have H:=Hold.start w0
 go_enter Tryd.func14,Tryd.ntmps14
 go_wp2_with (first|(first|((with_reducible refine gT ?_);(refine aT H ?_;clear H;intro w H;try simp only[nr]at H))|((with_reducible refine gA ?_);(refine bA H ?_;clear H;intro b w H;try simp only[nr]at H))|((with_reducible refine gZ ?_);refine nbK ?_)))
 (refine xc Tryd.results14 H ?_)
 exact⟨rfl,H.below⟩
theorem zEA (x:Nat) (hb:x<256) (w0:World):Calls Tryd.prog 15 #[.int .u8 x] w0 (Rt (zAa {kind:=3,set:=ofS [(x:Int)]} nilS) w0):=by
 have H:=Hold.start w0;have hof:=fun v w h=>of_1 x hb v w h
 clear hb
 go_enter Tryd.func15,Tryd.ntmps15
 go_wp2_with (first|((with_reducible refine gBS ?_);refine zCA wtd_ _ _ _ rfl H (#[.int .u8 (x:Int)]) 5 (by intro W;simp only[ml];(try simp only[pe]);(try unfold setV);simp[go_sem]<;>rfl) ?_;clear H;intro b w H;try simp only[nr]at H)|(go_at_call 28;(with_reducible refine ch (hof _ _ (H.rdn (cs:=[.int .u8 (x:Int)]) atd_ (by simp) (by simp[maxLen]))) H ?_);clear H;intro w H)|(first|((with_reducible refine gT ?_);(refine aT H ?_;clear H;intro w H;try simp only[nr]at H))|((with_reducible refine gA ?_);(refine bA H ?_;clear H;intro b w H;try simp only[nr]at H))|((with_reducible refine gZ ?_);refine nbS ?_)))
 (refine xc Tryd.results15 H ?_)
 exact⟨rfl,H.below⟩
def exL:Str:=[97,124,40,98,42,41,99]
def zEa (b:Int):NodeD:={kind:=3,set:=ofS [b]}
def zOW:NodeD:={kind:=6,hi := -1}
def grpD:NodeD:={kind:=7,group:=1}
def zJV:Tree:=.mk zOW [.mk (zEa 98) []]
def zNr:Tree:=.mk grpD [zJV]
def zNc:Tree:=.mk {kind:=4} [zNr,.mk (zEa 99) []]
def exWant:Tree:=.mk {kind:=5} [.mk (zEa 97) [],zNc]
theorem zMa:zCK exL (false,false,false)=.ok (exWant,1):=by kernel_rfl
theorem zOk (w0:World):Calls Tryd.prog 15 #[.int .u8 97] w0 (Rt (zAa (zEa 97) nilS) w0):=zEA 97 (by decide) w0
theorem zOl (w0:World):Calls Tryd.prog 15 #[.int .u8 98] w0 (Rt (zAa (zEa 98) nilS) w0):=zEA 98 (by decide) w0
theorem zOa (w0:World):Calls Tryd.prog 15 #[.int .u8 99] w0 (Rt (zAa (zEa 99) nilS) w0):=zEA 99 (by decide) w0
theorem zND (W:World):(Instr.build 23 #[]).run Tryd.prog W=.ok (zDX (false,false,false)) W:=by kernel_rfl
theorem zNh (k hi:Int) (p:Option Addr) (n c:Nat) (W:World):(Instr.build 31 #[(0,.int .i64 k),(4,.int .i64 hi),(2,.slice p n c)]).run Tryd.prog W=.ok (zAa {kind:=k,hi:=hi} (.slice p n c)) W:=by simp[go_sem];rfl
theorem zNe (k g:Int) (p:Option Addr) (n c:Nat) (W:World):(Instr.build 31 #[(0,.int .i64 k),(6,.int .i64 g),(2,.slice p n c)]).run Tryd.prog W=.ok (zAa {kind:=k,group:=g} (.slice p n c)) W:=by simp[go_sem];rfl
section
variable {M:Nat→Prop} {ops:Array Oper} {dst:Option Tmp} {ty:TypeId} {pos:String} {aft:Array Edge} {grd:Option (Nat × Bool)} {rest:List Oper} {a:Act} {w w0:World} {l:List Res} {Q:Exit→Act→World→Prop} {o:Oper} {D:Prop} {A:Nat→Option Obj→Prop}
theorem fb0 (h:wpList Tryd.prog ops Q rest (a.put dst (zDX (false,false,false))) w) (hg:Region.wanted (⟨dst,.build 23 #[],ty,pos,aft,grd⟩:Oper) (yielded ops a.tmps)=true:=by first|rfl|exact zAn rfl (zAS rfl (by first|rfl|(simp only[pe];rfl)))):wpList Tryd.prog ops Q ((⟨dst,.build 23 #[],ty,pos,aft,grd⟩:Oper)::rest) a w :=
 zAx hg (by simp only[execOp,List.map_toArray,List.map_nil,Sem.run_bind,zND];rfl) h
theorem nbH {x y z:Operand} {k hi:Int} {p:Option Addr} {n c:Nat} (h:wpList Tryd.prog ops Q rest (a.put dst (zAa {kind:=k,hi:=hi} (.slice p n c))) w) (hg:Region.wanted (⟨dst,.build 31 #[(0,x),(4,y),(2,z)],ty,pos,aft,grd⟩:Oper) (yielded ops a.tmps)=true:=by first|rfl|exact zAn rfl (zAS rfl (by first|rfl|(simp only[pe];rfl)))) (h0:a.eval x=.int .i64 k:=by first|(simp only[pe];done)|(simp only[pe];rfl)) (h1:a.eval y=.int .i64 hi:=by first|(simp only[pe];done)|(simp only[pe];rfl)) (h2:a.eval z=.slice p n c:=by first|(simp only[pe];done)|(simp only[pe];rfl)):wpList Tryd.prog ops Q ((⟨dst,.build 31 #[(0,x),(4,y),(2,z)],ty,pos,aft,grd⟩:Oper)::rest) a w :=
 zAx hg (by simp only[execOp,List.map_toArray,List.map_cons,List.map_nil,h0,h1,h2,Sem.run_bind,zNh];rfl) h
theorem zOB {x y z:Operand} {k g:Int} {ts:List Tree} (hg:Region.wanted o (yielded ops a.tmps)=true) (hop:o.op=.build 31 #[(0,x),(6,y),(2,z)]) (h0:a.eval x=.int .i64 k) (h1:a.eval y=.int .i64 g) (h2:KW A ts (a.eval z) w) (hD:¬ D:=by decide):zBK Tryd.prog ops o a w (fun v w'=>NW A (.mk {kind:=k,group:=g} ts) v w'∧(D→w.heap.size≤blk v)):=by
 obtain⟨p,c,F,e,h⟩:=h2;refine zKW hg (v:=zAa {kind:=k,group:=g} (.slice p ts.length c)) ?_ ⟨p,c,F,rfl,h⟩ hD;simp only[execOp,hop,List.map_toArray,List.map_cons,List.map_nil,h0,h1,e,Sem.run_bind,zNe];rfl
theorem zOU {x y:Operand} {ts2:Array TypeId} {k:Int} {ts:List Tree} (hg:Region.wanted o (yielded ops a.tmps)=true) (hop:o.op=.call {callee:=Callee.value (Operand.func 14),args:=#[x,y],argTypes:=ts2}) (h0:a.eval x=.int .i64 k) (h2:KW A ts (a.eval y) w) (hD:¬ D:=by decide):zBK Tryd.prog ops o a w (fun v w'=>NW A (.mk {kind:=k} ts) v w'∧(D→w.heap.size≤blk v)):=by
 obtain⟨p,c,F,e,h,hF⟩:=h2;exact zD1 hg hop (enters_of Tryd.func14 (by kernel_rfl) rfl) (zHO ⟨h0,e⟩) ((zOO k p ts.length c w).mono fun _ w' ⟨he,hb⟩=>⟨_,he,hb,NW.below (w:=w) ⟨p,c,F,rfl,h,hF⟩ hb,fun h=>(hD h).elim⟩)
end
def AW (n0 bk:Nat) (b:Nat) (c:Option Obj):Prop:=(n0≤b∨b=bk)∧c≠some (.cells (zAQ {kind:=0} nilS) 31 (0,0))
theorem zN5 {n0 bk:Nat} {w:World} {d:NodeD} (h:n0≤w.heap.size) (hk:d.kind≠0):∀ cs:Array Value,(∃ s,cs=zAQ d s)→AW n0 bk w.heap.size (some (.cells cs 31 (0,0))):=by
 rintro _ ⟨s,rfl⟩;refine⟨.inl h,fun e=>hk ?_⟩
 simp only[Option.some.injEq,Obj.cells.injEq,and_true]at e;have:=congrArg (fun a=>a[0]?) e
 simpa [zAQ] using this
theorem zM7 {n0 bk:Nat} {w:World} (h:n0≤w.heap.size):∀ cs:Array Value,cs.size=20→AW n0 bk w.heap.size (some (.cells cs 31 (0,0))):=by
 intro cs hs;refine⟨.inl h,fun e=>?_⟩
 simp only[Option.some.injEq,Obj.cells.injEq,and_true]at e;rw[e]at hs;simp[zAQ]at hs
theorem zLR (w0:World) (hz:MaxL w0):Calls Tryd.prog 5 #[] w0 (Rt (.bool true) w0):=by
 have H:=Hold.start w0;have hp:Calls Tryd.prog 6 #[.string ⟨#[97,124,40,98,42,41,99]⟩,zDX (false,false,false)] w0 fun e w'=>ParseOut w0 (.ok (exWant,1)) e w'∧Below w0.heap.size w0 w':=by
  have h:=zJT exL (false,false,false) w0 hz;rw[zMa]at h;exact h
 clear hz;have hsm:=fun p c F p2 c2 F2 w (hF1:∀ b,F b→b<w.heap.size) (hF2:∀ b,F2 b→b<w.heap.size) (h1:ForestR w F p c exWant.kids) (h2:ForestR w F2 p2 c2 exWant.kids)=>zD8 1000 exWant p p2 _ c c2 F F2 w (by decide) hF1 hF2 h1 h2 rfl
 obtain⟨tw,htw⟩:∃ tw,exWant=tw:=⟨_,rfl⟩;rw[htw]at hp hsm
 go_enter Tryd.func5,Tryd.ntmps5
 go_upto_region 3 with (first|((with_reducible refine gZ ?_);refine fb0 ?_)|((with_reducible refine gZ ?_);refine nbH ?_)|(go_at_call 6;(with_reducible refine zOJ hp H ?_);clear H;intro q n F1 w hF1 H;simp only[ca]at H)|((with_reducible refine ch (zOl _) H ?_);clear H;intro w H)|((with_reducible refine gBS ?_);refine zCA wtd_ _ _ _ rfl H (zAQ (zEa 98) (nilS)) 31 (by intro W;simp only[ml];(try simp only[pe]);exact zEN _ _ W) ?_;clear H;intro bk w H;try simp only[nr]at H)|((first|((with_reducible refine kgA 1 ?_);refine kA 1 H ?_)|((with_reducible refine kgX 1 ?_);(first|refine kS 1 H ?_|refine kB 1 H ?_)));clear H;intro b1 w H;try simp only[nr]at H)|((first|((with_reducible refine kgA 5 ?_);refine kA 5 H ?_)|((with_reducible refine kgX 5 ?_);(first|refine kS 5 H ?_|refine kB 5 H ?_)));clear H;intro b5 w H;try simp only[nr]at H)|((with_reducible refine gT ?_);(refine aT H ?_;clear H;intro w H;try simp only[nr]at H)))
 have hz1:=H.apart 1 2 _ _ (by decide) rfl rfl b1 rfl
 have hz5:=H.apart 3 2 _ _ (by decide) rfl rfl b5 rfl
 have hkb:=(H.blk (i:=2) i_2).2;have hst:NW (AW w.heap.size bk) zJV (zAa zOW (.slice (some ⟨bk,0,none⟩) 1 1)) w:=by
  refine⟨_,1,fun b=>b=bk∨False,rfl,zEf (xs:=[(.mk (zEa 98) [],none,0)]) hkb rfl (by decide) (F:=fun _=>False) ?_,fun b hb=>?_⟩
  ·exact ListR.one (ForestR.nil ..)
  ·obtain rfl:b=bk:=hb.elim id False.elim;rw[hkb];refine⟨(Array.getElem?_eq_some_iff.1 hkb).1,.inr rfl,fun e=>?_⟩
   simp only[Option.some.injEq,Obj.cells.injEq,and_true]at e;have:=congrArg (fun a=>a[0]?) e
   simp[zAQ,zEa]at this
 have H1:=H.pick [0,1,3] [_,_,_] (by decide) rfl
 clear H;have H:=H1;clear H1 hkb;have hl1:b1<w.heap.size:=(Array.getElem?_eq_some_iff.1 (H.blk (i:=1) i_1).2).1;have hl5:b5<w.heap.size:=(Array.getElem?_eq_some_iff.1 (H.blk (i:=2) i_2).2).1;refine zCH 10 [fun v _=>v=zAa (zEa 97) nilS,fun v W=>NW (AW w.heap.size bk) zJV v W,fun v W=>KW (AW w.heap.size bk) [zJV] v W,fun v W=>NW (AW w.heap.size bk) zNr v W,fun v _=>v=zAa (zEa 99) nilS,fun v W=>KW (AW w.heap.size bk) [zNr,.mk (zEa 99) []] v W,fun v W=>NW (AW w.heap.size bk) zNc v W,fun v W=>KW (AW w.heap.size bk) [.mk (zEa 97) [],zNc] v W,fun v W=>NW (AW w.heap.size bk) exWant v W,zI0 w.heap.size (zAQ {kind:=0} nilS) 31] (fun _=>false) (by kernel_rfl) (by kernel_rfl) (by kernel_rfl) (by repeat (first|exact trivial|refine⟨zBL _,?_⟩|refine⟨zKq _,?_⟩|refine⟨zKQ _,?_⟩|refine⟨zHp _ _ _,?_⟩)) (fun _ _ h=>by cases h) ?ob ?en
 case ob =>
  refine⟨?_,?_,?_,?_,?_,?_,?_,?_,?_,?_,trivial⟩<;>intro A W h
  ·exact zCN rfl rfl (enters_of Tryd.func15 (by kernel_rfl) rfl) (zCC rfl) (zOk W)
  ·exact zKk rfl rfl (h.f 5) ((H.call h.below).blk (i:=2) i_2).2 (hst.below h.below)
  ·exact zLv rfl rfl (h.d 1 18) (zN5 h.below.size (by decide))
  ·exact zOB rfl rfl rfl rfl (h.d 2 19)
  ·exact zCN rfl rfl (enters_of Tryd.func15 (by kernel_rfl) rfl) (zCC rfl) (zOa W)
  ·exact zJS rfl rfl (h.d 3 20) (by rw[show A.eval (.tmp 21)=zAa (zEa 99) nilS from h.d 4 21];exact NW.leaf _ _) (zM7 h.below.size)
  ·exact zOU rfl rfl rfl (h.d 5 22)
  ·exact zJS rfl rfl (by rw[show A.eval (.tmp 17)=zAa (zEa 97) nilS from h.d 0 17];exact NW.leaf _ _) (h.d 6 23) (zM7 h.below.size)
  ·exact zOU rfl rfl rfl (h.d 7 24)
  ·exact zL9 rfl rfl (by kernel_rfl) zN8 h.below.size (by decide)
 case en =>
  intro vals W hbw hv _;have x1:=hv 1 (by omega);simp only[zAq]at x1
  have x2:=hv 2 (by omega);simp only[zAq]at x2
  have x3:=hv 3 (by omega);simp only[zAq]at x3
  have x5:=hv 5 (by omega);simp only[zAq]at x5
  have x6:=hv 6 (by omega);simp only[zAq]at x6
  have x7:=hv 7 (by omega);simp only[zAq]at x7
  have x8:=hv 8 (by omega);simp only[zAq]at x8
  have x9:=hv 9 (by omega);simp only[zAq]at x9
  simp only[fa,Nat.reduceAdd];rw[e_ hv 0,e_ hv 4];clear hv
  try simp only[pl]
  obtain⟨b6,e6,H6⟩:=H.gainB hbw x9;obtain⟨q8,c8,F8,e8,hf8,hF8⟩:=x8;rw[e6,e8]
  have H:=H6.know F8 (fun V=>ForestR V F8 q8 c8 exWant.kids) (fun b h=>(hF8 b h).1) (fun i r hi b hb hf=>by
   have hA:=(hF8 b hf).2
   match i,hi with
   | 0,hi=>cases hi;cases hb
   | 1,hi=>cases hi;cases hb;exact hA.1.elim (fun h=>absurd hl1 (Nat.not_lt.2 h)) (fun e=>hz1 (by subst e;rfl))
   | 2,hi=>cases hi;cases hb;exact hA.1.elim (fun h=>absurd hl5 (Nat.not_lt.2 h)) (fun e=>hz5 (by subst e;rfl))
   | 3,hi=>cases hi;cases hb;exact hA.2 (H6.blk (i:=3) i_3).2) (fun V hV=>hf8.kept hV)
  clear H6 x1 x2 x3 x5 x6 x7 x9 e6 e8 hf8 hF8 hst hz1 hz5 hl1 hl5 hbw;rw[htw]at H ⊢;simp only[ca]at H
  go_wp2_with (first|((with_reducible refine ch (hsm _ _ _ _ _ _ _ (H.knlt (i:=0) .zero) (H.knlt (i:=4) i_4) (H.kn (i:=0) .zero) (H.kn (i:=4) i_4)) H ?_);clear H;intro w H)|(first|((with_reducible refine gT ?_);(refine aT H ?_;clear H;intro w H;try simp only[nr]at H))|((with_reducible refine gL ?_);refine aD H ?_)))
  go_ret;exact⟨rfl,H.below⟩
theorem zHq (w0:World):Calls Tryd.prog 7 #[zAa {kind:=0} nilS,zAa {kind:=0} nilS] w0 (Rt (.bool true) w0) :=
 zD8 1 (zDV 0) none none 0 0 0 (fun _=>False) (fun _=>False) w0 (by decide) (fun _ h=>h.elim) (fun _ h=>h.elim) (ForestR.nil ..) (ForestR.nil ..) rfl
theorem zFk (L:Str) (f:zAU) (hL:L.length≤140737488355328) (w0:World) (hz:MaxL w0):Calls Tryd.prog 3 #[.string ⟨L.toArray⟩,zDX f] w0 (Rt (.bool true) w0):=by
 have H:=Hold.start w0;have HZ:=Lib.hid hz;clear hz;have haw:=fun w (hb:Below w0.heap.size w0 w)=>zLR w (HZ.out.below hb)
 have hp:=fun w (hb:Below w0.heap.size w0 w)=>zJT L f w (HZ.out.below hb)
 cases hpr:zCK L f with
 | error y =>
  obtain⟨a,x⟩:=y;rw[hpr]at hp;obtain⟨e1,e2,e3⟩:=zHz hpr;have d1:((x:Int) != 0)=true:=by rw[bne_iff_ne];omega
  have d2:((x:Int) != 2)=true:=by rw[bne_iff_ne];omega
  have d3:decide ((a:Int) ≥ 0)=true:=decide_eq_true (by omega)
  clear hpr e1 e2
  by_cases hlt:a<L.length
  ·have d4:decide ((a:Int)<(L.length:Int))=true:=decide_eq_true (by omega)
   have d6:decide (a<L.length)=true:=decide_eq_true hlt;obtain⟨q,d5⟩:∃ q,((a:Int) == 0)=q:=⟨_,rfl⟩;clear e3 hlt
   go_enter Tryd.func3,Tryd.ntmps3
   go_wp2_with (first|((with_reducible refine ch (haw _ H.below) H ?_);clear H;intro w H)|(go_at_call 6;refine zM0 (hp _ H.below) H ?_;clear H;intro w H)|((with_reducible refine ch (zHq _) H ?_);clear H;intro w H)|((first|((with_reducible refine kgA 3 ?_);refine kA 3 H ?_)|((with_reducible refine kgX 3 ?_);(first|refine kS 3 H ?_|refine kB 3 H ?_)));clear H;intro b3 w H;try simp only[nr]at H)|((first|((with_reducible refine kgA 5 ?_);refine kA 5 H ?_)|((with_reducible refine kgX 5 ?_);(first|refine kS 5 H ?_|refine kB 5 H ?_)));clear H;intro b5 w H;try simp only[nr]at H)|(first|((with_reducible refine gT ?_);(refine aT H ?_;clear H;intro w H;try simp only[nr]at H))|((with_reducible refine gL ?_);refine aD H ?_)|((with_reducible refine gZ ?_);refine nb0 ?_)))
   go_ret;exact⟨rfl,H.below⟩
  ·have d4:decide ((a:Int)<(L.length:Int))=false:=decide_eq_false (by omega)
   have d6:decide (a<L.length)=false:=decide_eq_false hlt;have d5:((a:Int) == 0)=true:=by rw[e3.resolve_left hlt];rfl
   clear e3 hlt
   go_enter Tryd.func3,Tryd.ntmps3
   go_wp2_with (first|((with_reducible refine ch (haw _ H.below) H ?_);clear H;intro w H)|(go_at_call 6;refine zM0 (hp _ H.below) H ?_;clear H;intro w H)|((with_reducible refine ch (zHq _) H ?_);clear H;intro w H)|((first|((with_reducible refine kgA 3 ?_);refine kA 3 H ?_)|((with_reducible refine kgX 3 ?_);(first|refine kS 3 H ?_|refine kB 3 H ?_)));clear H;intro b3 w H;try simp only[nr]at H)|((first|((with_reducible refine kgA 5 ?_);refine kA 5 H ?_)|((with_reducible refine kgX 5 ?_);(first|refine kS 5 H ?_|refine kB 5 H ?_)));clear H;intro b5 w H;try simp only[nr]at H)|(first|((with_reducible refine gT ?_);(refine aT H ?_;clear H;intro w H;try simp only[nr]at H))|((with_reducible refine gL ?_);refine aD H ?_)|((with_reducible refine gZ ?_);refine nb0 ?_)))
   go_ret;exact⟨rfl,H.below⟩
 | ok y =>
  obtain⟨t,g⟩:=y;rw[hpr]at hp;obtain⟨hw,hg,hs,hd⟩:=zJY hpr;have d1:decide ((g:Int)≤20)=true:=decide_eq_true (by omega)
  have d2:decide ((zAl t:Int)≤2000)=true:=decide_eq_true (by omega)
  have d3:decide ((zC8 t:Int)≤50)=true:=decide_eq_true (by omega)
  have hwk:=fun p c F w (h1:∀ b,F b→b<w.heap.size) (h2:ForestR w F p c t.kids)=>zJE 2000 t p _ c F w 0 g (by omega) hw (Int.le_refl _) (by omega) h1 h2 rfl
  have hno:∀ p c F w (h1:∀ b,F b→b<w.heap.size) (h2:ForestR w F p c t.kids),Calls Tryd.prog 9 #[zAa t.d (.slice p t.kids.length c),.int .i64 2000] w (Rt (.int .i64 (zAl t)) w):=fun p c F w h1 h2=>zGd 2000 t p _ c F w 2000 (by omega) (by omega) (by omega) h1 h2 rfl
  have hde:∀ p c F w (h1:∀ b,F b→b<w.heap.size) (h2:ForestR w F p c t.kids),Calls Tryd.prog 10 #[zAa t.d (.slice p t.kids.length c),.int .i64 50] w (Rt (.int .i64 (zC8 t)) w):=fun p c F w h1 h2=>zJD 2000 t p _ c F w 50 (by omega) (by omega) (by omega) (by omega) h1 h2 rfl
  clear hpr hw hg hs hd
  go_enter Tryd.func3,Tryd.ntmps3
  go_wp2_with (first|((with_reducible refine ch (haw _ H.below) H ?_);clear H;intro w H)|(go_at_call 6;refine zOJ (hp _ H.below) H ?_;clear H;intro q n F1 w hF1 H;simp only[ca]at H)|((with_reducible first|refine ch (hwk _ _ _ _ (H.knlt (i:=1) i_1) (H.kn (i:=1) i_1)) H ?_|refine ch (hno _ _ _ _ (H.knlt (i:=1) i_1) (H.kn (i:=1) i_1)) H ?_|refine ch (hde _ _ _ _ (H.knlt (i:=1) i_1) (H.kn (i:=1) i_1)) H ?_);clear H;intro w H)|((first|((with_reducible refine kgA 3 ?_);refine kA 3 H ?_)|((with_reducible refine kgX 3 ?_);(first|refine kS 3 H ?_|refine kB 3 H ?_)));clear H;intro b3 w H;try simp only[nr]at H)|((first|((with_reducible refine kgA 5 ?_);refine kA 5 H ?_)|((with_reducible refine kgX 5 ?_);(first|refine kS 5 H ?_|refine kB 5 H ?_)));clear H;intro b5 w H;try simp only[nr]at H)|(first|((with_reducible refine gT ?_);(refine aT H ?_;clear H;intro w H;try simp only[nr]at H))|((with_reducible refine gL ?_);refine aD H ?_)))
  go_ret;exact⟨rfl,H.below⟩
end
end Go.Proofs.YtklcgfkdemifcaaDoor
namespace Go.Proofs.YtklcgfkdemifcaaDoor.laidUp
open Go.ChangeShapes Go.WideShapes Go.ChangeAt Go.RowKit
set_option linter.unusedVariables false
section
variable {H:Type} {enc:TypeId × Value→H}
theorem handed_laid {a:Assume} {C:Checked} {os:Os} {f:FuncId} {fn:Func} {s:ChangeSpec} {conds:List PathCond} {apart fresh handsOn again:Bool} {X:World→Array Value→Prop}
  (hX:∀ (w w':World) (args:Array Value),w.heap=w'.heap→X w args→X w' args)
  (own:ownKnob C.prog.godebug=none) (started:os.Started) (noInit:C.prog.inits.idxOf? f=none) (hfn:C.prog.funcs[f]?=some fn)
  (witness:∃ (w:World) (tape:Tape) (i:Input),w.os=os∧(w.forCall tape i).Shaped C.prog∧i.vars=[]∧Input.okWide C.prog (w.forCall tape i) .any w.heap.size f i ∧
   ((s.pre enc C.prog fn conds apart (w.forCall tape i).memory i.args∧X (w.forCall tape i).memory i.args)∧sizedMet enc C.prog fn (OpenSpec.ofChange s) apart (w.forCall tape i).memory i.args)∧a.holds C.prog (lone (Frame.enter C.prog f i.args .normal) [] (w.forCall tape i)))
  (contract:∀ (W:World) (base:Nat) (args:Array Value) (ds gs:List (DataW H)) (before:List MemPlace),
   (∀ (j:Nat) t v,fn.params[j]?=some t→args[j]?=some v→Value.okWide C.prog W .any base t v) →
   DataW.Whole enc C.prog fn.params.toList s.vars apart W args.toList ds gs before→W.ShapedOpen C.prog →
   (DataW.weightsEach C.prog (fn.params.toList++(OpenSpec.ofChange s).bare.plain.varTypes C.prog) (ds++gs)).all (·≤reachBytes)=true →
   Calls C.prog f args W fun e W'=>∃ v,e=.returned v∧s.post enc C.prog fn apart fresh handsOn again W args v W') :
  ReturnsInHanded a C os f .any (fun w args=>(s.pre enc C.prog fn conds apart w args∧X w args)∧sizedMet enc C.prog fn (OpenSpec.ofChange s) apart w args) (s.post enc C.prog fn apart fresh handsOn again):=by
 refine returnsInHanded_of_calls own started noInit witness ?_
 intro w tape i _ hsh _ hok hpre _;obtain⟨_,_,_,fn',hfn',_,_,_,_,hval⟩:=hok;have e:fn'=fn:=Option.some.inj (hfn'.symm.trans hfn);subst e;obtain⟨⟨⟨ds,gs,before,hw,_⟩,_⟩,hsz⟩:=hpre;have hw':=DataW.Whole.of_heap (w':=w.forCall tape i) (by rfl) hw
 refine(contract (w.forCall tape i) w.heap.size i.args ds gs before hval hw' hsh (hsz.weights hw)).mono fun e W' ⟨v,he,hp⟩=>?_
 subst he;exact ChangeSpec.post_blind hp
end
theorem own:ownKnob Tryd.prog.godebug=none:=by kernel_rfl
theorem maxL {W:World} (h:W.ShapedOpen Tryd.prog):MaxL W :=
 cell_of_shapedOpen_int (g:=0) (t:=3) (zero:=#[.int .i64 0]) h (of_decide_eq_true (by kernel_rfl)) (by kernel_rfl) rfl (by kernel_rfl) (by kernel_rfl) Tryd.underlying3
end Go.Proofs.YtklcgfkdemifcaaDoor.laidUp
namespace Go.Proofs.YtklcgfkdemifcaaDoor
section
open Go.ChangeShapes Go.WideShapes Go.ChangeAt Go.RowKit
theorem zHo:(Tryd.prog.underlying 23).map (fun d=>match d with|.struct fs=>fs.map (fun f=>(f.type,f.offset))|_=>#[])=some #[(4,0),(4,1),(4,2)]:=by kernel_rfl
theorem zH5:∃ fs:Array Field,Tryd.prog.underlying 23=some (.struct fs)∧fs.map (fun f=>(f.type,f.offset))=#[(4,0),(4,1),(4,2)]:=by
 have h:=zHo
 cases hu:Tryd.prog.underlying 23 with
 | none=>rw[hu]at h;cases h
 | some d =>
  rw[hu]at h;simp only[Option.map_some,Option.some.injEq]at h
  cases d with
  | struct fs=>exact⟨fs,rfl,h⟩
  | _=>simp at h
theorem zKJ {H:Type} {enc:TypeId × Value→H} {W:World} {r:Reach} {b0:Nat} {v:Value} {d:DataW H} {p:List MemPlace} (hv:Value.okWide Tryd.prog W r b0 23 v)
  (h:DataW.Trod enc Tryd.prog W 0 (fun _=>true) true 23 v d p):∃ f:zAU,v=zDX f:=by
 obtain⟨fs,hu,hfs⟩:=zH5;obtain⟨cs,rfl,h3⟩:=okWide_struct hu hv;have h3:cs.size=3:=by rw[h3];kernel_rfl
 obtain⟨fuel,hf⟩:=h;obtain⟨xs,n,_,_,hl,hlen,hg⟩:=DataW.trod_struct hu hf;have get:∀ (i:Nat) (t off k:Nat),(#[(4,0),(4,1),(4,2)]:Array (TypeId × Nat))[i]?=some (t,off)→Tryd.prog.cellsOf t=k→∃ y,DataW.trod enc Tryd.prog W 0 (fun _=>true) true n t (((Value.agg cs).cells.toList.drop off).take k)=some y:=by
  intro i t off k hi hk;rw[← hfs,Array.getElem?_map]at hi;obtain⟨f,hfi,he⟩:=Option.map_eq_some_iff.1 hi;simp only[Prod.mk.injEq]at he;have h1:=hg i f hfi;rw[he.1,he.2,hk]at h1;have hi6:i<xs.length:=by rw[hlen];exact(Array.getElem?_eq_some_iff.1 hfi).1
  exact⟨xs[i],by rw[h1,List.getElem?_eq_getElem hi6]⟩
 obtain⟨y0,g0⟩:=get 0 4 0 1 rfl (by kernel_rfl)
 obtain⟨y1,g1⟩:=get 1 4 1 1 rfl (by kernel_rfl)
 obtain⟨y2,g2⟩:=get 2 4 2 1 rfl (by kernel_rfl)
 obtain⟨a,e0,_⟩:=DataW.trod_bool Tryd.underlying4 g0;obtain⟨b,e1,_⟩:=DataW.trod_bool Tryd.underlying4 g1;obtain⟨c,e2,_⟩:=DataW.trod_bool Tryd.underlying4 g2;refine⟨(a,b,c),?_⟩
 obtain⟨l⟩:=cs;simp only[Value.cells]at e0 e1 e2
 match l,h3 with
 | [x0,x1,x2],_ =>
  simp at e0 e1 e2;subst e0 e1 e2;rfl
end
end Go.Proofs.YtklcgfkdemifcaaDoor
