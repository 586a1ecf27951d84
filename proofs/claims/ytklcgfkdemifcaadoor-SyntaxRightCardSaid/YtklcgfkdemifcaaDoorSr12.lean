/-
  Laws of walks, and walks.
-/
import Derived.Test.YtklcgfkdemifcaaDoorSr11
import Derived.Test.YtklcgfkdemifcaaDoorSr4
import Derived.Maps.RangeWalk
import Derived.WalkMore
import Derived.Test.YtklcgfkdemifcaaDoorSr9
set_option linter.unusedVariables false
set_option linter.unusedSimpArgs false
set_option maxRecDepth 100000
set_option maxHeartbeats 16000000
namespace Go.Proofs.YtklcgfkdemifcaaDoor
section
open Go.RowKit Go.Shelf Go.MapKept
attribute [local go_sem] Oper.semAt_some
section
variable {P:Program} {ops:Array Oper} {rest:List Oper} {o:Oper} {a:Act} {w w0:World} {Q:Exit→Act→World→Prop} {l:List Res} {M:Nat→Prop}
end
theorem zEK {P:Program} {o:Oper} {a:Act} {w:World} {T:TypeId} {x:Operand} (ho:o.op=.load T x) {b:Nat} (hx:a.eval x=.pointer (some ⟨b,2,none⟩)) {d:WordD} {U:TypeId} (hb:w.heap[b]?=some (.cells (zAg d) U (0,0)))
  (hT:rowB P T 4=true):(execOp a.eval o).run P w=.ok (.value (setV d.set)) w :=
 zKg ho hx hb hT (vs:=setC d.set) rfl (fun j hj=>by rcases j with _|_|_|_|j<;>first|rfl|omega)
theorem zEQ (rb:Nat) (L:Str) (i:Nat) (U:TypeId) (hL:L.length≤2000) (hi:i≤L.length) (hrb:rb≠0) {r:Except Nat (Value × Nat)} (hx:zE2 L i=r) (w0:World) (hz:MaxL w0) (hr:w0.heap[rb]?=some (.cells (rdC L i) U (0,0))) :
  Calls Tryd.prog 70 #[ptrV rb] w0 (zAz rb L U w0 r):=hx ▸ zNT rb L i U hL hi hrb w0 hz hr
theorem zE0 (rb:Nat) (L:Str) (i:Nat) (t:Str) (ht:t.length≤10) (U:TypeId) (hL:L.length≤2000) (hi:i≤L.length) {b:Bool} {j:Nat} (hb:atP L i t=b) (hj:(if b then i+t.length else i)=j) (w0:World) (hr:w0.heap[rb]?=some (.cells (rdC L i) U (0,0))) :
  Calls Tryd.prog 57 #[ptrV rb,.string ⟨t.toArray⟩] w0 (zAz rb L U w0 (.ok (.bool b,j))):=by
 have:=zK0 rb L i t ht U hL hi w0 hr;rw[hb,hj]at this;exact this
def zJi (rb:Nat) (w:World):Nat:=match w.cell? ⟨rb,1,none⟩ with|some (.int _ x)=>x.toNat|_=>0
theorem zBD {rb:Nat} {L:Str} {i:Nat} {U:TypeId} {w:World} (h:w.heap[rb]?=some (.cells (rdC L i) U (0,0))):zJi rb w=i:=by
 unfold zJi;rw[cell_of_row w rb 1 _ _ _ h];rfl
def zAu (r:Except Nat (WordD × Nat)):Except Nat (Value × Nat):=match r with|.ok (d,e)=>.ok (zAk d,e)|.error n=>.error n
theorem zMc (rb:Nat) (L:Str) (i:Nat) (U:TypeId) (hL:L.length≤2000) (hi:i<L.length) (hrb:rb≠0) (w0:World) (hz:MaxL w0) (hr:w0.heap[rb]?=some (.cells (rdC L (i+1)) U (0,0))) :
  Calls Tryd.prog 56 #[ptrV rb,zAk {kind:=0,place:=i}] w0 (zAz rb L U w0 (zAu (zBT (zCZ L i)))):=by
 have H:=HoldG.startB hr;have ZZ:∀ W,KeepBut (·=rb) w0.heap.size w0 W→MaxL W:=fun W hk=>hz.keep hrb hk
 generalize hng:atP L (i+1) [94]=ng
 have E:=Lib.hid (show zCZ L i=(zB6 L (L.length+1) (if ng then i+2 else i+1) true zAF).map (fun (S,e)=>({kind:=1,place:=i,set:=S,neg:=ng},e)) by unfold zCZ;simp only[hng])
 have hs0:(if ng then i+1+[(94:UInt8)].length else i+1)=(if ng then i+2 else i+1):=by cases ng<;>rfl
 have hk0:(if ng then i+2 else i+1)≤L.length:=by
  cases ng
  ·simp;omega
  ·have:=zDx hng (by simp)
   simp at this ⊢;omega
 have SK:=fun w h=>zE0 rb L (i+1) [94] (by simp) U hL (by omega) hng hs0 w h
 clear hs0
 generalize hst:(if ng then i+2 else i+1)=st at E hk0 SK
 clear hng hst
 go_enter Tryd.func56,Tryd.ntmps56
 go_wp2_with (first|((first|((with_reducible refine kgA 3 ?_);refine kA 3 H ?_)|((with_reducible refine kgX 3 ?_);(first|refine kS 3 H ?_|refine kB 3 H ?_)));clear H;intro b3 w H;try simp only[nr]at H)|((first|((with_reducible refine kgA 4 ?_);refine kA 4 H ?_)|((with_reducible refine kgX 4 ?_);(first|refine kS 4 H ?_|refine kB 4 H ?_)));clear H;intro b4 w H;try simp only[nr]at H)|((with_reducible refine gT ?_);(refine aO H ?_;clear H;intro w H;try simp only[nr]at H))|(go_at_call 57;(with_reducible refine(SK _ (H.blk .zero).2).mono ?_);rintro e w ⟨hk,rfl,hr⟩;replace H:=H.callBut atd_ hk hr;clear hk hr;try simp only[nr]at H))
 go_loopw [5] (fun fi wr=>∃ (j f:Nat) (b:Bool) (S:Nat→Nat),fi=.bool b∧j≤L.length∧Hid (zB6 L (L.length+1) st true zAF=zB6 L f j b S∧L.length<f+j∧zAs S)∧HoldG (·=rb) w0 wr [.blk rb (rdC L j) U,.blk b3 (zAg {kind:=1,place:=i,set:=S,neg:=ng}) 65,.blk b4 (zAg {kind:=0,place:=0}) 65]) (fun _ wr=>L.length+2 - zJi rb wr)
 case atStart=>exact⟨st,L.length+1,true,zAF,rfl,hk0,Lib.hid ⟨rfl,by omega,zBX⟩,H⟩
 case round =>
  clear H;obtain⟨j,f,b,S,rfl,hj,G,H⟩:=hrel;obtain⟨f,rfl⟩:∃ f',f=f'+1:=⟨f - 1,by have:=G.out.2.1;omega⟩
  have eg:zB6 L (f+1) j b S=zB6 L (f+1) j b S:=rfl
  conv at eg=>rhs;unfold zB6
  have n3:b3≠rb:=H.ne i_1 .zero (by decide)
  have hrl:rb<wr.heap.size:=(Array.getElem?_eq_some_iff.1 (H.blk .zero).2).1;have H0:=(H.blk .zero).2
  cases b with
  | true =>
   rw[if_neg (by rintro⟨h,_⟩;cases h)]at eg
   cases hi2:zIb L j with
   | none =>
    rw[hi2]at eg;have E3:zAu (zBT (zCZ L i))=.error 4:=by rw[E.out,G.out.1,eg];rfl
    rw[E3];have hIT:zE2 L j=.error 4:=by unfold zE2;rw[hi2]
    clear eg hi2 E3
    go_upto_region 5 with (first|fail)
    have hrefl:∀ W,BelR W W:=BelR.refl;refine zCY BelR (ButR rb) [3] (stR rb U (fun _=>rdC L j)) (BelR.but _) (zHJ _ _ _) BelR.drew BelR.refl (ButR.trans _) 7 [fun v _=>v=pt b3 2,fun v _=>v=setV S,fun v _=>v=ptrV rb,fun _ _=>False,fun _ _=>False,fun _ _=>False,fun v _=>v=pt b3 2] (by repeat (first|exact trivial|refine⟨zAA _,?_⟩|refine⟨fun _ _ _ h _=>h,?_⟩)) (by kernel_rfl) (show _=_ from (H.blk .zero).2) (by kernel_rfl) (by kernel_rfl) (by kernel_rfl) ?ob ?en
    case ob =>
     refine⟨?_,?_,?_,?_,?_,?_,?_,trivial⟩
     ·intro A W h;(have e3:A.eval (.tmp 3)=.pointer (some ⟨b3,0,none⟩):=h.f 3;refine zAG hrefl rfl ?_;simp only[execOp,e3];(simp[go_sem]<;>first|done|omega|(rw[IntKind.wrap_i64];omega)|(rw[IntKind.wrap_u8];omega)|(rw[IntKind.wrap_u64];omega)))
     ·intro A W h;exact zAG hrefl rfl (zEK rfl (h.d 0 20) (H.other h.rel i_1 n3) zAf)
     ·intro A W h;exact zDk hrefl rfl rfl (h.f 0)
     ·intro A W h hst;exact zHv rfl rfl (enters_of Tryd.func70 (by kernel_rfl) rfl) (zCC (h.d 2 22)) (zEQ rb L j U hL hj hrb hIT W (ZZ W (H.keepR h.rel)) hst) (fun w' hk=>⟨h.defers,H.keepR (ButR.trans _ _ _ _ h.rel hk),rfl⟩)
     ·intro A W h;exact(show False from h.d 3 23).elim
     ·intro A W h;exact(show False from h.d 4 24).elim
     ·intro A W h;(have e3:A.eval (.tmp 3)=.pointer (some ⟨b3,0,none⟩):=h.f 3;refine zAG hrefl rfl ?_;simp only[execOp,e3];(simp[go_sem]<;>first|done|omega|(rw[IntKind.wrap_i64];omega)|(rw[IntKind.wrap_u8];omega)|(rw[IntKind.wrap_u64];omega)))
    case en =>
     intro vals W hbw hv hst;exact(show False from hv 3 (by omega)).elim
   | some p =>
    obtain⟨t,e2⟩:=p;have hk:=zFd hi2;have hIT:zE2 L j=.ok (setV t,e2):=by unfold zE2;rw[hi2]
    rw[hi2]at eg;simp only[]at eg;have G2:=Lib.hid (show zB6 L (L.length+1) st true zAF=zB6 L f e2 false (zA1 [S,t]) by rw[G.out.1,eg]);clear eg hi2
    go_upto_region 5 with (first|fail)
    have hrefl:∀ W,BelR W W:=BelR.refl;refine zCY BelR (ButR rb) [3] (stR rb U (fun r=>match r with|0=>rdC L j|_=>rdC L e2)) (BelR.but _) (zHJ _ _ _) BelR.drew BelR.refl (ButR.trans _) 7 [fun v _=>v=pt b3 2,fun v _=>v=setV S,fun v _=>v=ptrV rb,fun v _=>v=setV t,RdB rb [S,t],fun v _=>v=setV (zA1 [S,t]),fun v _=>v=pt b3 2] (by repeat (first|exact trivial|refine⟨zAA _,?_⟩|refine⟨zGt _ _,?_⟩)) (by kernel_rfl) (show _=_ from (H.blk .zero).2) (by kernel_rfl) (by kernel_rfl) (by kernel_rfl) ?ob ?en
    case ob =>
     refine⟨?_,?_,?_,?_,?_,?_,?_,trivial⟩
     ·intro A W h;(have e3:A.eval (.tmp 3)=.pointer (some ⟨b3,0,none⟩):=h.f 3;refine zAG hrefl rfl ?_;simp only[execOp,e3];(simp[go_sem]<;>first|done|omega|(rw[IntKind.wrap_i64];omega)|(rw[IntKind.wrap_u8];omega)|(rw[IntKind.wrap_u64];omega)))
     ·intro A W h;exact zAG hrefl rfl (zEK rfl (h.d 0 20) (H.other h.rel i_1 n3) zAf)
     ·intro A W h;exact zDk hrefl rfl rfl (h.f 0)
     ·intro A W h hst;exact zJC rfl rfl (enters_of Tryd.func70 (by kernel_rfl) rfl) (zCC (h.d 2 22)) (zEQ rb L j U hL hj hrb hIT W (ZZ W (H.keepR h.rel)) hst)
     ·intro A W h;exact zG6 (Nat.lt_of_lt_of_le (Array.getElem?_eq_some_iff.1 (H.blk .zero).2).1 h.rel.size) rfl rfl (h.d 1 21) (h.d 3 23)
     ·intro A W h;exact zAy rfl rfl (enters_of Tryd.func63 (by kernel_rfl) rfl) (zCC rfl) ((zCb _ [S,t] (ok2 G.out.2.2 hk.2.2) W (RdB.rds (h.d 4 24) (by simp[maxLen]))))
     ·intro A W h;(have e3:A.eval (.tmp 3)=.pointer (some ⟨b3,0,none⟩):=h.f 3;refine zAG hrefl rfl ?_;simp only[execOp,e3];(simp[go_sem]<;>first|done|omega|(rw[IntKind.wrap_i64];omega)|(rw[IntKind.wrap_u8];omega)|(rw[IntKind.wrap_u64];omega)))
    case en =>
     intro vals W hbw hv hst;have x4:=hv 4 (by omega);simp only[zAq]at x4
     simp only[fa,Nat.reduceAdd];rw[e_ hv 0,e_ hv 1,e_ hv 2,e_ hv 3,e_ hv 5,e_ hv 6];clear hv
     try simp only[pl]
     replace H:=H.callBut .zero hbw (cs':=rdC L e2) hst;clear hst hbw
     (try simp only[nr]at H)
     go_wp2_with (first|((with_reducible refine gT ?_);(refine aW H ?_;clear H;intro w H;try simp only[nr]at H)))
     go_roundw
     case rel=>exact⟨e2,f,false,zA1 [S,t],rfl,by omega,Lib.hid ⟨G2.out,by have:=G.out.2.1;omega,zCJ (ok2 G.out.2.2 hk.2.2)⟩,H⟩
     case measure=>rw[zBD (H.blk .zero).2,zBD H0];omega
  | false =>
   cases h2:atP L j [93] with
   | true =>
    have hl2:=zDx h2 (by simp)
    simp only[List.length_cons,List.length_nil,Nat.zero_add]at hl2;have SK2:=fun w h=>zE0 rb L j [93] (by simp) U hL hj h2 (show (if true then j+[(93:UInt8)].length else j)=j+1 from rfl) w h
    rw[if_pos ⟨rfl,h2⟩]at eg;have E3:zAu (zBT (zCZ L i))=.ok (zAk {kind:=1,place:=i,set:=S,neg:=ng},j+1):=by rw[E.out,G.out.1,eg];rfl
    have E4:=Lib.hid E3;clear eg h2 E3
    go_wp2_with (first|(first|((with_reducible refine gT ?_);(refine aT H ?_;clear H;intro w H;try simp only[nr]at H))|((with_reducible refine gL ?_);refine aD H ?_))|(go_at_call 57;(with_reducible refine(SK2 _ (H.blk .zero).2).mono ?_);rintro e w ⟨hk,rfl,hr⟩;replace H:=H.callBut atd_ hk hr;clear hk hr;try simp only[nr]at H))
    (refine xc Tryd.results56 H ?_)
    unfold zAz;rw[E4.out];exact⟨H.keep,rfl,(H.blk .zero).2⟩
   | false =>
    have SK2:=fun w h=>zE0 rb L j [93] (by simp) U hL hj h2 (show (if false then j+[(93:UInt8)].length else j)=j from rfl) w h
    rw[if_neg (by rintro⟨_,h⟩;rw[h2]at h;cases h)]at eg
    clear h2
    cases hi2:zIb L j with
    | none =>
     rw[hi2]at eg;have E3:zAu (zBT (zCZ L i))=.error 4:=by rw[E.out,G.out.1,eg];rfl
     rw[E3];have hIT:zE2 L j=.error 4:=by unfold zE2;rw[hi2]
     clear eg hi2 E3
     go_upto_region 5 with (first|fail|(go_at_call 57;(with_reducible refine(SK2 _ (H.blk .zero).2).mono ?_);rintro e w ⟨hk,rfl,hr⟩;replace H:=H.callBut atd_ hk hr;clear hk hr;try simp only[nr]at H))
     have hrefl:∀ W,BelR W W:=BelR.refl;refine zCY BelR (ButR rb) [3] (stR rb U (fun _=>rdC L j)) (BelR.but _) (zHJ _ _ _) BelR.drew BelR.refl (ButR.trans _) 7 [fun v _=>v=pt b3 2,fun v _=>v=setV S,fun v _=>v=ptrV rb,fun _ _=>False,fun _ _=>False,fun _ _=>False,fun v _=>v=pt b3 2] (by repeat (first|exact trivial|refine⟨zAA _,?_⟩|refine⟨fun _ _ _ h _=>h,?_⟩)) (by kernel_rfl) (show _=_ from (H.blk .zero).2) (by kernel_rfl) (by kernel_rfl) (by kernel_rfl) ?ob ?en
     case ob =>
      refine⟨?_,?_,?_,?_,?_,?_,?_,trivial⟩
      ·intro A W h;(have e3:A.eval (.tmp 3)=.pointer (some ⟨b3,0,none⟩):=h.f 3;refine zAG hrefl rfl ?_;simp only[execOp,e3];(simp[go_sem]<;>first|done|omega|(rw[IntKind.wrap_i64];omega)|(rw[IntKind.wrap_u8];omega)|(rw[IntKind.wrap_u64];omega)))
      ·intro A W h;exact zAG hrefl rfl (zEK rfl (h.d 0 20) (H.other h.rel i_1 n3) zAf)
      ·intro A W h;exact zDk hrefl rfl rfl (h.f 0)
      ·intro A W h hst;exact zHv rfl rfl (enters_of Tryd.func70 (by kernel_rfl) rfl) (zCC (h.d 2 22)) (zEQ rb L j U hL hj hrb hIT W (ZZ W (H.keepR h.rel)) hst) (fun w' hk=>⟨h.defers,H.keepR (ButR.trans _ _ _ _ h.rel hk),rfl⟩)
      ·intro A W h;exact(show False from h.d 3 23).elim
      ·intro A W h;exact(show False from h.d 4 24).elim
      ·intro A W h;(have e3:A.eval (.tmp 3)=.pointer (some ⟨b3,0,none⟩):=h.f 3;refine zAG hrefl rfl ?_;simp only[execOp,e3];(simp[go_sem]<;>first|done|omega|(rw[IntKind.wrap_i64];omega)|(rw[IntKind.wrap_u8];omega)|(rw[IntKind.wrap_u64];omega)))
     case en =>
      intro vals W hbw hv hst;exact(show False from hv 3 (by omega)).elim
    | some p =>
     obtain⟨t,e2⟩:=p;have hk:=zFd hi2;have hIT:zE2 L j=.ok (setV t,e2):=by unfold zE2;rw[hi2]
     rw[hi2]at eg;simp only[]at eg;have G2:=Lib.hid (show zB6 L (L.length+1) st true zAF=zB6 L f e2 false (zA1 [S,t]) by rw[G.out.1,eg]);clear eg hi2
     go_upto_region 5 with (first|fail|(go_at_call 57;(with_reducible refine(SK2 _ (H.blk .zero).2).mono ?_);rintro e w ⟨hk,rfl,hr⟩;replace H:=H.callBut atd_ hk hr;clear hk hr;try simp only[nr]at H))
     have hrefl:∀ W,BelR W W:=BelR.refl;refine zCY BelR (ButR rb) [3] (stR rb U (fun r=>match r with|0=>rdC L j|_=>rdC L e2)) (BelR.but _) (zHJ _ _ _) BelR.drew BelR.refl (ButR.trans _) 7 [fun v _=>v=pt b3 2,fun v _=>v=setV S,fun v _=>v=ptrV rb,fun v _=>v=setV t,RdB rb [S,t],fun v _=>v=setV (zA1 [S,t]),fun v _=>v=pt b3 2] (by repeat (first|exact trivial|refine⟨zAA _,?_⟩|refine⟨zGt _ _,?_⟩)) (by kernel_rfl) (show _=_ from (H.blk .zero).2) (by kernel_rfl) (by kernel_rfl) (by kernel_rfl) ?ob ?en
     case ob =>
      refine⟨?_,?_,?_,?_,?_,?_,?_,trivial⟩
      ·intro A W h;(have e3:A.eval (.tmp 3)=.pointer (some ⟨b3,0,none⟩):=h.f 3;refine zAG hrefl rfl ?_;simp only[execOp,e3];(simp[go_sem]<;>first|done|omega|(rw[IntKind.wrap_i64];omega)|(rw[IntKind.wrap_u8];omega)|(rw[IntKind.wrap_u64];omega)))
      ·intro A W h;exact zAG hrefl rfl (zEK rfl (h.d 0 20) (H.other h.rel i_1 n3) zAf)
      ·intro A W h;exact zDk hrefl rfl rfl (h.f 0)
      ·intro A W h hst;exact zJC rfl rfl (enters_of Tryd.func70 (by kernel_rfl) rfl) (zCC (h.d 2 22)) (zEQ rb L j U hL hj hrb hIT W (ZZ W (H.keepR h.rel)) hst)
      ·intro A W h;exact zG6 (Nat.lt_of_lt_of_le (Array.getElem?_eq_some_iff.1 (H.blk .zero).2).1 h.rel.size) rfl rfl (h.d 1 21) (h.d 3 23)
      ·intro A W h;exact zAy rfl rfl (enters_of Tryd.func63 (by kernel_rfl) rfl) (zCC rfl) ((zCb _ [S,t] (ok2 G.out.2.2 hk.2.2) W (RdB.rds (h.d 4 24) (by simp[maxLen]))))
      ·intro A W h;(have e3:A.eval (.tmp 3)=.pointer (some ⟨b3,0,none⟩):=h.f 3;refine zAG hrefl rfl ?_;simp only[execOp,e3];(simp[go_sem]<;>first|done|omega|(rw[IntKind.wrap_i64];omega)|(rw[IntKind.wrap_u8];omega)|(rw[IntKind.wrap_u64];omega)))
     case en =>
      intro vals W hbw hv hst;have x4:=hv 4 (by omega);simp only[zAq]at x4
      simp only[fa,Nat.reduceAdd];rw[e_ hv 0,e_ hv 1,e_ hv 2,e_ hv 3,e_ hv 5,e_ hv 6];clear hv
      try simp only[pl]
      replace H:=H.callBut .zero hbw (cs':=rdC L e2) hst;clear hst hbw
      (try simp only[nr]at H)
      go_wp2_with (first|((with_reducible refine gT ?_);(refine aW H ?_;clear H;intro w H;try simp only[nr]at H)))
      go_roundw
      case rel=>exact⟨e2,f,false,zA1 [S,t],rfl,by omega,Lib.hid ⟨G2.out,by have:=G.out.2.1;omega,zCJ (ok2 G.out.2.2 hk.2.2)⟩,H⟩
      case measure=>rw[zBD (H.blk .zero).2,zBD H0];omega
end
section
open Go.RowKit Go.Shelf Go.MapKept
open Go.ChangeMaps (setBlock)
attribute [local go_sem] Oper.semAt_some
section
variable {P:Program} {ops:Array Oper} {rest:List Oper} {o:Oper} {a:Act} {w w0:World} {Q:Exit→Act→World→Prop} {l:List Res} {M:Nat→Prop} {kt et:TypeId} {d:TypeDesc} {es:Array MapEntry} {c mb i:Nat} {kv v z:Value}
theorem zFj (hg:Region.wanted o (yielded ops a.tmps)=true) (T:TypeId) (ho:o.op=.makeMap T none) (H:HoldG M w0 w l) (h:∀ b w',HoldG M w0 w' (l++[.mp b #[] 0])→wpList P ops Q rest (a.put o.dst (.map (some b))) w'):wpList P ops Q (o::rest) a w :=
 zAd hg fun _ hK=>by
  unfold Oper.wp;have hr:(execOp a.eval o).run P w=.ok (.value (.map (some w.heap.size))) (w.alloc (.map #[] 0)):=by
   simp only[execOp,ho];simp[Instr.makeMap,newObj,go_sem];rfl
  rw[hr];exact hK _ _ (h _ _ (H.gainMp ((Below.refl _ w).alloc (Nat.le_refl _) _) (Nat.le_refl _) (World.alloc_heap_new w _)))
theorem zDt (w:World) (b:Nat) (o:Obj):w.grownBy (setBlock w b o) (some b) :=
 ⟨rfl,rfl,rfl,by simp[setBlock],fun j hj hne=>by simp[setBlock,show b≠j from fun e=>hne (by rw[e])]⟩
theorem zG9 (hg:Region.wanted o (yielded ops a.tmps)=true) (T:TypeId) (x k y:Operand) (ho:o.op=.insert T x k y) (hT:P.underlying T=some (.map kt et)) (hd:P.underlying kt=some d)
  (hx:a.eval x=.map (some mb)) (hk:a.eval k=kv) (hy:a.eval y=v) (H:HoldG M w0 w l) (hi:At l i (.mp mb es c)) (hkey:IsKey d kv) (hf:Instr.findNow d kv es.toList 0=some none)
  (h:∀ w',HoldG M w0 w' (l.set i (.mp mb (es.push {key:=kv,val:=v,born:=c}) (c+1)))→wpList P ops Q rest (a.put o.dst undef) w'):wpList P ops Q (o::rest) a w :=
 zAd hg fun _ hK=>by
  unfold Oper.wp;have hm:=(H.mp hi).2;have hr:(execOp a.eval o).run P w=.ok .skip (setBlock w mb (.map (es.push {key:=kv,val:=v,born:=c}) (c+1))):=by
   have h1:(Instr.mapUpdate T (.map (some mb)) kv v).run P w=.ok () (setBlock w mb (.map (es.push {key:=kv,val:=v,born:=c}) (c+1))):=by
    simp[Instr.mapUpdate,Sem.run_bind,run_underlying hT,Result.andThen,Go.MapKept.run_getObj_map hm,run_checkKey hd hkey,run_findKey hd hf,run_setObj_map _ hm,setBlock]
   simp only[execOp,ho,hx,hk,hy,Sem.run_bind,h1,Result.andThen];rfl
  rw[hr];exact hK _ _ (h _ (H.upd hi.get (zDt w mb _) ⟨(H.mp hi).1,(heap_set hm).1⟩ (fun _ e=>.inl e)))
theorem HoldG.iter (H:HoldG M w0 w l) {r:Nat} (hr:w0.heap.size≤r) (hn:∀ s ∈ l,¬ s.foot r) (ob:Obj):HoldG M w0 (setBlock w r ob) l:=by
 have hg:=zDt w r ob;refine⟨H.keep.trans ⟨hg.os,hg.tape,hg.output,hg.size,fun k h1 h2=>hg.block k (Nat.lt_of_lt_of_le h1 H.keep.size) (fun e=>by cases e;omega)⟩,fun i s hs=>?_,H.apart⟩
 exact(H.all i s hs).kept (fun b hb=>hg.block b ((H.all i s hs).ltf b hb) (fun e=>hn s (List.mem_of_getElem? hs) (by cases e;exact hb))) hg.size
theorem zJX (H:HoldG M w0 w l) {r:Nat} {seen:Array Nat} (hit:w.heap[r]?=some (.mapIter (some mb) c seen c)) (hi:At l i (.mp mb es c)) (hold:∀ x ∈ es.toList,x.born<c) (hr0:w0.heap.size≤r) (hn:∀ s ∈ l,¬ s.foot r) :
  ((leftOf es seen).size=0∧(Instr.next (.pointer (some ⟨r,0,none⟩)) false 0).run P w=.ok (.tuple #[.bool false]) w) ∨
  ∃ e ∈ (leftOf es seen).toList,∃ w',(Instr.next (.pointer (some ⟨r,0,none⟩)) false 0).run P w=.ok (.tuple #[.bool true,e.key,e.val]) w'∧HoldG M w0 w' l∧w'.heap[r]?=some (.mapIter (some mb) c (seen.push e.born) c):=by
 rcases run_next_at (P:=P) w 0 r mb c c seen es c hit (H.mp hi).2 hold (Nat.le_refl _) with h|⟨e,he,w1,hw1,hrun⟩
 ·exact .inl h
 ·refine .inr ⟨e,he,_,hrun,?_,?_⟩
  ·rcases hw1 with rfl|rfl
   ·exact H.iter hr0 hn _
   ·exact H.drew.iter hr0 hn _
  ·have hlt:=(Array.getElem?_eq_some_iff.1 hit).1;rcases hw1 with rfl|rfl
   ·simp[setBlock,hlt]
   ·show (w.drew.heap.setIfInBounds r _)[r]?=_
    simp[show w.drew.heap=w.heap from rfl,hlt]
theorem zKR (hg:Region.wanted o (yielded ops a.tmps)=true) (T:TypeId) (x:Operand) (ho:o.op=.range T x) (hT:P.underlying T=some (.map kt et)) (hx:a.eval x=.map (some mb)) (H:HoldG M w0 w l) (hi:At l i (.mp mb es c))
  (h:∀ r w',HoldG M w0 w' l→w'.heap[r]?=some (.mapIter (some mb) c #[] c)→w0.heap.size≤r∧(∀ s ∈ l,¬ s.foot r)→wpList P ops Q rest (a.put o.dst (.pointer (some ⟨r,0,none⟩))) w'):wpList P ops Q (o::rest) a w :=
 zAd hg fun _ hK=>by
  unfold Oper.wp;have hr:(execOp a.eval o).run P w=.ok (.value (.pointer (some ⟨w.heap.size,0,none⟩))) (w.alloc (.mapIter (some mb) c #[] c)):=by
   simp only[execOp,ho,hx,Sem.run_bind,run_range_map (P:=P) w T kt et mb es c hT (H.mp hi).2,Result.andThen];rfl
  rw[hr];refine hK _ _ (h _ _ (H.call ((Below.refl _ w).alloc (Nat.le_refl _) _)) (World.alloc_heap_new w _) ⟨H.keep.size,fun s hs e=>?_⟩)
  obtain⟨j,hj⟩:=List.mem_iff_getElem?.1 hs;have:=(H.all j s hj).ltf _ e;omega
end
def spotsE:Array MapEntry:=#[{key:=.string ⟨#[98]⟩,val:=.int .i64 12,born:=0},{key:=.string ⟨#[66]⟩,val:=.int .i64 13,born:=1},{key:=.string ⟨#[65]⟩,val:=.int .i64 8,born:=2},{key:=.string ⟨#[122]⟩,val:=.int .i64 9,born:=3}]
theorem zKe {L:Str} {k:Nat} {c:UInt8}:atP L k [c]=(decide (k<L.length)&&(byt L k == c.toNat)):=by
 unfold atP byt
 cases hd:L.drop k with
 | nil =>
  have:L.length≤k:=by
   have:=congrArg List.length hd;simp at this;omega
  simp[List.isPrefixOf];omega
 | cons x r =>
  have hlt:k<L.length:=by
   rcases Nat.lt_or_ge k L.length with h|h
   ·exact h
   ·rw[List.drop_eq_nil_of_le h]at hd;cases hd
  have hx:L.getD k 0=x:=by
   have:=List.drop_eq_getElem_cons hlt;rw[this]at hd;injection hd with h1 _
   rw[List.getD_eq_getElem?_getD,List.getElem?_eq_getElem hlt];simpa using h1
  rw[hx];simp only[List.isPrefixOf,Bool.and_true,hlt,decide_true,Bool.true_and];rw[Bool.eq_iff_iff,beq_iff_eq,beq_iff_eq];exact⟨fun h=>by rw[h],fun h=>(UInt8.toNat_inj.1 h.symm)⟩
theorem zB4 {w:World} {r:Nat} {m:Option Nat} {s c:Nat} {seen:Array Nat} (h:w.heap[r]?=some (.mapIter m s seen c)):w.iterSeen r=seen:=by unfold World.iterSeen;rw[h]
def zMx (x:MapEntry):Str:=match x.key with|.string b=>b.data.toList|_=>[]
theorem zEh {L:Str} {k:Nat} {c:UInt8} (h:atP L k [c]=true) {s:Nat} (hs:zGZ c.toNat=some s):(if k<L.length then zGZ (byt L k) else none)=some s:=by
 rw[zKe]at h;simp only[Bool.and_eq_true,decide_eq_true_eq,beq_iff_eq]at h;rw[if_pos h.1,h.2,hs]
theorem zJ6 {L:Str} {k:Nat} (h:∀ x ∈ spotsE.toList,atP L k (zMx x)=false):(if k<L.length then zGZ (byt L k) else none)=none:=by
 split
 ·rename_i hk;have hc:∀ c:UInt8,atP L k [c]=false→byt L k≠c.toNat:=fun c hc e=>by
   rw[zKe]at hc;simp[hk,e]at hc
  have h0:byt L k≠98:=hc 98 (h spotsE[0] (by simp[spotsE]))
  have h1:byt L k≠66:=hc 66 (h spotsE[1] (by simp[spotsE]))
  have h2:byt L k≠65:=hc 65 (h spotsE[2] (by simp[spotsE]))
  have h3:byt L k≠122:=hc 122 (h spotsE[3] (by simp[spotsE]))
  unfold zGZ;rw[if_neg h0,if_neg h1,if_neg h2,if_neg h3]
 ·rfl
theorem zKi:∀ x ∈ spotsE.toList,x.born<4:=by
 intro x hx;simp[spotsE]at hx;rcases hx with rfl|rfl|rfl|rfl<;>simp
theorem zB3:(spotsE.toList.map (·.born)).Nodup:=by simp[spotsE]
theorem zL4 (rb:Nat) (L:Str) (i:Nat) (U:TypeId) (hL:L.length≤2000) (hi:i+1≤L.length) (h92:byt L i=92) (w0:World) (hr:w0.heap[rb]?=some (.cells (rdC L (i+1)) U (0,0))) :
  Calls Tryd.prog 55 #[ptrV rb,zAk {kind:=0,place:=i}] w0 (zAz rb L U w0 (zAu (zBT (zBw L i)))):=by
 have H:=HoldG.startB hr;have E:zBw L i=zBw L i:=rfl
 conv at E=>rhs;unfold zBw
 have hw1:((i:Int)+1) - 1=(i:Int):=by omega
 cases hm:zII L i with
 | some s =>
  have hM2:zF8 L i=(.tuple #[setV s,.bool true],i+2):=by unfold zF8;rw[hm]
  have hm':(if i+1<L.length then zEt (byt L (i+1)) else none)=some s:=by
   unfold zII at hm;split at hm
   ·rename_i h;rw[if_pos h.2];exact hm
   ·cases hm
  rw[hm']at E;simp only[]at E;have E3:=Lib.hid (show zAu (zBT (zBw L i))=.ok (zAk {kind:=1,place:=i,set:=s},i+2) by rw[E];rfl)
  clear E hm hm'
  go_enter Tryd.func55,Tryd.ntmps55
  go_upto_region 4 with (first|((first|((with_reducible refine kgA 3 ?_);refine kA 3 H ?_)|((with_reducible refine kgX 3 ?_);(first|refine kS 3 H ?_|refine kB 3 H ?_)));clear H;intro b3 w H;try simp only[nr]at H)|((first|((with_reducible refine kgA 4 ?_);refine kA 4 H ?_)|((with_reducible refine kgX 4 ?_);(first|refine kS 4 H ?_|refine kB 4 H ?_)));clear H;intro b4 w H;try simp only[nr]at H)|((first|((with_reducible refine kgA 5 ?_);refine kA 5 H ?_)|((with_reducible refine kgX 5 ?_);(first|refine kS 5 H ?_|refine kB 5 H ?_)));clear H;intro b5 w H;try simp only[nr]at H)|(first|((with_reducible refine gT ?_);((first|refine aS H ?_|refine aO H ?_);clear H;intro w H;try simp only[nr]at H))|((with_reducible refine gL ?_);refine aG H ?_))|(go_at_call 68;(with_reducible refine(zBk rb L i U hL (by omega) hM2 _ (H.blk .zero).2).mono ?_);rintro e w ⟨hk,rfl,hr⟩;replace H:=H.callBut atd_ hk hr;clear hk hr;try simp only[nr]at H))
  refine zCL 2 0 [fun v _=>v=setV s,fun v _=>v=pt b3 0] (fun _=>false) (by kernel_rfl) (by kernel_rfl) (by kernel_rfl) ⟨zBL _,zBL _,trivial⟩ (fun _ _ h=>by cases h) ?ob ?en ?en2
  case ob =>
   refine⟨?_,?_,trivial⟩<;>intro A W h
   ·exact zAB rfl (zAp rfl (h.f 5) (H.call h.below) atd_ zAf) (by decide)
   ·(have e3:A.eval (.tmp 3)=.pointer (some ⟨b3,0,none⟩):=h.f 3;refine zAB rfl ?_;simp only[execOp,e3];(simp[go_sem]<;>first|done|omega|(rw[IntKind.wrap_i64];omega)|(rw[IntKind.wrap_u8];omega)|(rw[IntKind.wrap_u64];omega)))
  case en =>
   intro vals W hbw hv _;simp only[fa,Nat.reduceAdd];rw[e_ hv 0,e_ hv 1];clear hv
   try simp only[pl]
   replace H:=H.call hbw;clear hbw
   go_wp2_with (first|(first|((with_reducible refine gT ?_);(first|((first|refine aO H ?_|refine aT H ?_);clear H;intro w H;try simp only[nr]at H)|(refine aN H ?_;clear H;intro w H;(try simp only[nr]at H);try simp only[zBE,nrl]at H)))|((with_reducible refine gL ?_);refine aD H ?_)))
   (refine xc Tryd.results55 H ?_)
   exact zAb E3.out H.keep (H.blk .zero).2
  case en2 =>
   intro vals W hbw hv _;have v1:vals 1=_:=hv 1 (by omega) (by omega)
   simp only[List.take_succ_cons,List.take_zero,List.drop_succ_cons,List.drop_zero,List.drop_nil,List.take_nil,zDQ,zH8,List.cons_append,List.nil_append,Nat.reduceEqDiff,if_true,if_false,reduceCtorEq,Nat.zero_add,Nat.reduceAdd];rw[v1];clear hv v1
   try simp only[pl]
   replace H:=H.call hbw;clear hbw
   go_wp2_with (first|(first|((with_reducible refine gT ?_);(first|((first|refine aO H ?_|refine aT H ?_);clear H;intro w H;try simp only[nr]at H)|(refine aN H ?_;clear H;intro w H;(try simp only[nr]at H);try simp only[zBE,nrl]at H)))|((with_reducible refine gL ?_);(first|refine aL H ?_|refine aD H ?_))))
   (refine xc Tryd.results55 H ?_)
   exact zAb E3.out H.keep (H.blk .zero).2
 | none =>
  have hM2:zF8 L i=(.tuple #[setV zAF,.bool false],i):=by unfold zF8;rw[hm]
  have hm':(if i+1<L.length then zEt (byt L (i+1)) else none)=none:=by
   unfold zII at hm;split
   ·rename_i h;rw[if_pos ⟨h92,h⟩]at hm;exact hm
   ·rfl
  rw[hm']at E;simp only[]at E;clear hm hm';have EE:=Lib.hid E;clear E
  go_enter Tryd.func55,Tryd.ntmps55
  go_wp2_with (first|((first|((with_reducible refine kgA 3 ?_);refine kA 3 H ?_)|((with_reducible refine kgX 3 ?_);(first|refine kS 3 H ?_|refine kB 3 H ?_)));clear H;intro b3 w H;try simp only[nr]at H)|((first|((with_reducible refine kgA 4 ?_);refine kA 4 H ?_)|((with_reducible refine kgX 4 ?_);(first|refine kS 4 H ?_|refine kB 4 H ?_)));clear H;intro b4 w H;try simp only[nr]at H)|((first|((with_reducible refine kgA 5 ?_);refine kA 5 H ?_)|((with_reducible refine kgX 5 ?_);(first|refine kS 5 H ?_|refine kB 5 H ?_)));clear H;intro b5 w H;try simp only[nr]at H)|(first|((with_reducible refine gT ?_);((first|refine aS H ?_|refine aO H ?_);clear H;intro w H;try simp only[nr]at H))|((with_reducible refine gL ?_);refine aG H ?_))|(go_at_call 68;(with_reducible refine(zBk rb L i U hL (by omega) hM2 _ (H.blk .zero).2).mono ?_);rintro e w ⟨hk,rfl,hr⟩;replace H:=H.callBut atd_ hk hr;clear hk hr;try simp only[nr]at H)|((with_reducible show @wpList _ _ _ ({dst:=_,op:=Op.makeMap _ _,type:=_,pos:=_,after:=_,guard:=_}::_) _ _);refine zFj wtd_ _ rfl H ?_;clear H;intro mb w H;try simp only[nr]at H)|((with_reducible show @wpList _ _ _ ({dst:=_,op:=Op.insert _ _ _ _,type:=_,pos:=_,after:=_,guard:=_}::_) _ _);refine zG9 wtd_ _ _ _ _ rfl Tryd.underlying124 Tryd.underlying9 rfl rfl rfl H atd_ trivial (by kernel_rfl) ?_;clear H;intro w H;try simp only[nr]at H)|((with_reducible show @wpList _ _ _ ({dst:=_,op:=Op.range _ _,type:=_,pos:=_,after:=_,guard:=_}::_) _ _);refine zKR wtd_ _ _ rfl Tryd.underlying124 rfl H atd_ ?_;clear H;intro r w H hit hrr))
  go_frame
  replace H:HoldG (·=rb) w0 w [.blk rb (rdC L (i+1)) U,.blk b3 (zAg {kind:=0,place:=i}) 65,.blk b4 (zAg {kind:=0,place:=0}) 65,.blk b5 (setC zAF) 28,.mp mb spotsE 4]:=H;replace hit:w.heap[r]?=some (.mapIter (some mb) 4 #[] 4):=hit;replace hrr:w0.heap.size≤r∧∀ s ∈ ([.blk rb (rdC L (i+1)) U,.blk b3 (zAg {kind:=0,place:=i}) 65,.blk b4 (zAg {kind:=0,place:=0}) 65,.blk b5 (setC zAF) 28,.mp mb spotsE 4]:List Res),¬ s.foot r:=hrr
  go_loopw [8,9] (fun _ _ wr=>∃ seen,wr.heap[r]?=some (.mapIter (some mb) 4 seen 4)∧(∀ x ∈ spotsE.toList,seen.contains x.born=true→atP L (i+1) (zMx x)=false)∧HoldG (·=rb) w0 wr [.blk rb (rdC L (i+1)) U,.blk b3 (zAg {kind:=0,place:=i}) 65,.blk b4 (zAg {kind:=0,place:=0}) 65,.blk b5 (setC zAF) 28,.mp mb spotsE 4]) (fun _ _ wr=>(leftOf spotsE (wr.iterSeen r)).size)
  case atStart=>exact⟨#[],hit,fun x _ h=>by simp at h,H⟩
  case round =>
   clear H hit;obtain⟨seen,hit,hseen,H⟩:=hrel;rcases zJX (P:=Tryd.prog) H hit atd_ zKi hrr.1 hrr.2 with ⟨h0,hN⟩|⟨e,hel,w',hN,H',hit2⟩
   ·have hall:=all_seen spotsE seen h0;have E1:=EE.out;rw[zJ6 (fun x hx=>hseen x hx (hall x hx))]at E1;simp only[]at E1
    cases hx:escP L i with
    | none =>
     have E3:=Lib.hid (show zAu (zBT (zBw L i))=.error 4 by rw[E1,hx];rfl)
     clear E1
     go_wp2_with (first|fail|(go_at_call 69;(with_reducible refine(zFT rb L i U hL hi hx _ (H.blk .zero).2).mono ?_);rintro e w ⟨hk,rfl⟩;exact⟨rfl,zAv E3.out (H.keep.trans (hk.mono H.keep.size (fun _ _ m=>m)))⟩))
    | some p =>
     obtain⟨bb,j⟩:=p;have hb:=(zIo hx).2.2;have E3:=Lib.hid (show zAu (zBT (zBw L i))=.ok (zAk {kind:=1,place:=i,set:=ofS [(bb:Int)]},j) by rw[E1,hx];rfl)
     clear E1
     go_wp2_with (first|(first|((with_reducible refine gT ?_);(first|((first|refine aO H ?_|refine aT H ?_);clear H;intro w H;try simp only[nr]at H)|(refine aN H ?_;clear H;intro w H;(try simp only[nr]at H);try simp only[zBE,nrl]at H)))|((with_reducible refine gL ?_);refine aD H ?_))|(go_at_call 69;(with_reducible refine(zFS rb L i U hL hi hx _ (H.blk .zero).2).mono ?_);rintro e w ⟨hk,rfl,hr⟩;replace H:=H.callBut atd_ hk hr;clear hk hr;try simp only[nr]at H)|((with_reducible refine gBS ?_);refine zCA wtd_ _ _ _ rfl H (#[.int .u8 bb]) 5 (by intro W;simp only[ml];(try simp only[pe]);(try unfold setV);simp[go_sem]<;>rfl) ?_;clear H;intro b w H;try simp only[nr]at H)|((with_reducible refine ch (of_1 bb hb _ _ (H.rdn (cs:=[.int .u8 bb]) atd_ (by simp) (by simp[maxLen]))) H ?_);clear H;intro w H))
     (refine xc Tryd.results55 H ?_)
     exact zAb E3.out H.keep (H.blk .zero).2
   ·obtain⟨hmem,hns⟩:=mem_left hel;clear H;have H:=H';clear H';have hc4:e=spotsE[0]∨e=spotsE[1]∨e=spotsE[2]∨e=spotsE[3]:=by
     simp[spotsE]at hmem;simpa [spotsE] using hmem
    rcases hc4 with rfl|rfl|rfl|rfl
    ·have hE:=run_entry_at (P:=Tryd.prog) w' r mb 4 seen spotsE 4 spotsE[0] hit2 (H.mp atd_).2 (by simp[spotsE]) zB3
     replace hE:_=Result.ok (Value.tuple #[.string ⟨#[98]⟩,.int .i64 12]) w':=hE;replace hN:_=Result.ok (Value.tuple #[.bool true,.string ⟨#[98]⟩,.int .i64 12]) w':=hN
     cases hs:atP L (i+1) [98] with
     | true =>
      have hle:=zDx hs (by simp)
      simp only[List.length_cons,List.length_nil,Nat.zero_add]at hle;have E1:=EE.out;rw[zEh hs (show zGZ (UInt8.toNat 98)=some 12 from rfl)]at E1;simp only[]at E1
      have E3:=Lib.hid (show zAu (zBT (zBw L i))=.ok (zAk {kind:=5,place:=i,spot:=12},i+2) by rw[E1];rfl)
      have SK:=fun w h=>zBZ rb (by simp) U hL hi hs w h
      simp only[if_true,List.length_cons,List.length_nil,Nat.zero_add]at SK;clear hs E1
      go_wp2_with (first|(first|((with_reducible refine gT ?_);((first|refine aO H ?_|refine aT H ?_);clear H;intro w H;try simp only[nr]at H))|((with_reducible refine gL ?_);refine aD H ?_))|(go_at_call 57;(with_reducible refine(SK _ (H.blk .zero).2).mono ?_);rintro e w ⟨hk,rfl,hr⟩;replace H:=H.callBut atd_ hk hr;clear hk hr;try simp only[nr]at H))
      (refine xc Tryd.results55 H ?_)
      exact zAb E3.out H.keep (H.blk .zero).2
     | false =>
      have SK:=fun w h=>zBZ rb (by simp) U hL hi hs w h
      simp only[Bool.false_eq_true,if_false]at SK;have HS:=Lib.hid hs;clear hs
      go_wp2_with (first|fail|(go_at_call 57;(with_reducible refine(SK _ (H.blk .zero).2).mono ?_);rintro e w ⟨hk,rfl,hr2⟩;have hit3:=(hk.old r (Array.getElem?_eq_some_iff.1 hit2).1 (fun e=>hrr.2 _ (List.mem_cons_self ..) (by rw[e];rfl))).trans hit2;replace H:=H.callBut atd_ hk hr2;clear hk hr2;try simp only[nr]at H))
      go_roundw
      case rel =>
       refine⟨seen.push 0,hit3,fun x hx hs=>?_,H⟩
       rw[contains_push]at hs;simp only[Bool.or_eq_true,beq_iff_eq]at hs;rcases hs with hs|hs
       ·exact hseen x hx hs
       ·have:x=spotsE[0]:=born_inj zB3 hx (by simp[spotsE]) (by rw[hs];rfl)
        rw[this];exact HS.out
      case measure =>
       rw[zB4 hit3,zB4 hit];exact left_shrinks spotsE seen spotsE[0] hel
    ·have hE:=run_entry_at (P:=Tryd.prog) w' r mb 4 seen spotsE 4 spotsE[1] hit2 (H.mp atd_).2 (by simp[spotsE]) zB3
     replace hE:_=Result.ok (Value.tuple #[.string ⟨#[66]⟩,.int .i64 13]) w':=hE;replace hN:_=Result.ok (Value.tuple #[.bool true,.string ⟨#[66]⟩,.int .i64 13]) w':=hN
     cases hs:atP L (i+1) [66] with
     | true =>
      have hle:=zDx hs (by simp)
      simp only[List.length_cons,List.length_nil,Nat.zero_add]at hle;have E1:=EE.out;rw[zEh hs (show zGZ (UInt8.toNat 66)=some 13 from rfl)]at E1;simp only[]at E1
      have E3:=Lib.hid (show zAu (zBT (zBw L i))=.ok (zAk {kind:=5,place:=i,spot:=13},i+2) by rw[E1];rfl)
      have SK:=fun w h=>zBZ rb (by simp) U hL hi hs w h
      simp only[if_true,List.length_cons,List.length_nil,Nat.zero_add]at SK;clear hs E1
      go_wp2_with (first|(first|((with_reducible refine gT ?_);((first|refine aO H ?_|refine aT H ?_);clear H;intro w H;try simp only[nr]at H))|((with_reducible refine gL ?_);refine aD H ?_))|(go_at_call 57;(with_reducible refine(SK _ (H.blk .zero).2).mono ?_);rintro e w ⟨hk,rfl,hr⟩;replace H:=H.callBut atd_ hk hr;clear hk hr;try simp only[nr]at H))
      (refine xc Tryd.results55 H ?_)
      exact zAb E3.out H.keep (H.blk .zero).2
     | false =>
      have SK:=fun w h=>zBZ rb (by simp) U hL hi hs w h
      simp only[Bool.false_eq_true,if_false]at SK;have HS:=Lib.hid hs;clear hs
      go_wp2_with (first|fail|(go_at_call 57;(with_reducible refine(SK _ (H.blk .zero).2).mono ?_);rintro e w ⟨hk,rfl,hr2⟩;have hit3:=(hk.old r (Array.getElem?_eq_some_iff.1 hit2).1 (fun e=>hrr.2 _ (List.mem_cons_self ..) (by rw[e];rfl))).trans hit2;replace H:=H.callBut atd_ hk hr2;clear hk hr2;try simp only[nr]at H))
      go_roundw
      case rel =>
       refine⟨seen.push 1,hit3,fun x hx hs=>?_,H⟩
       rw[contains_push]at hs;simp only[Bool.or_eq_true,beq_iff_eq]at hs;rcases hs with hs|hs
       ·exact hseen x hx hs
       ·have:x=spotsE[1]:=born_inj zB3 hx (by simp[spotsE]) (by rw[hs];rfl)
        rw[this];exact HS.out
      case measure =>
       rw[zB4 hit3,zB4 hit];exact left_shrinks spotsE seen spotsE[1] hel
    ·have hE:=run_entry_at (P:=Tryd.prog) w' r mb 4 seen spotsE 4 spotsE[2] hit2 (H.mp atd_).2 (by simp[spotsE]) zB3
     replace hE:_=Result.ok (Value.tuple #[.string ⟨#[65]⟩,.int .i64 8]) w':=hE;replace hN:_=Result.ok (Value.tuple #[.bool true,.string ⟨#[65]⟩,.int .i64 8]) w':=hN
     cases hs:atP L (i+1) [65] with
     | true =>
      have hle:=zDx hs (by simp)
      simp only[List.length_cons,List.length_nil,Nat.zero_add]at hle;have E1:=EE.out;rw[zEh hs (show zGZ (UInt8.toNat 65)=some 8 from rfl)]at E1;simp only[]at E1
      have E3:=Lib.hid (show zAu (zBT (zBw L i))=.ok (zAk {kind:=5,place:=i,spot:=8},i+2) by rw[E1];rfl)
      have SK:=fun w h=>zBZ rb (by simp) U hL hi hs w h
      simp only[if_true,List.length_cons,List.length_nil,Nat.zero_add]at SK;clear hs E1
      go_wp2_with (first|(first|((with_reducible refine gT ?_);((first|refine aO H ?_|refine aT H ?_);clear H;intro w H;try simp only[nr]at H))|((with_reducible refine gL ?_);refine aD H ?_))|(go_at_call 57;(with_reducible refine(SK _ (H.blk .zero).2).mono ?_);rintro e w ⟨hk,rfl,hr⟩;replace H:=H.callBut atd_ hk hr;clear hk hr;try simp only[nr]at H))
      (refine xc Tryd.results55 H ?_)
      exact zAb E3.out H.keep (H.blk .zero).2
     | false =>
      have SK:=fun w h=>zBZ rb (by simp) U hL hi hs w h
      simp only[Bool.false_eq_true,if_false]at SK;have HS:=Lib.hid hs;clear hs
      go_wp2_with (first|fail|(go_at_call 57;(with_reducible refine(SK _ (H.blk .zero).2).mono ?_);rintro e w ⟨hk,rfl,hr2⟩;have hit3:=(hk.old r (Array.getElem?_eq_some_iff.1 hit2).1 (fun e=>hrr.2 _ (List.mem_cons_self ..) (by rw[e];rfl))).trans hit2;replace H:=H.callBut atd_ hk hr2;clear hk hr2;try simp only[nr]at H))
      go_roundw
      case rel =>
       refine⟨seen.push 2,hit3,fun x hx hs=>?_,H⟩
       rw[contains_push]at hs;simp only[Bool.or_eq_true,beq_iff_eq]at hs;rcases hs with hs|hs
       ·exact hseen x hx hs
       ·have:x=spotsE[2]:=born_inj zB3 hx (by simp[spotsE]) (by rw[hs];rfl)
        rw[this];exact HS.out
      case measure =>
       rw[zB4 hit3,zB4 hit];exact left_shrinks spotsE seen spotsE[2] hel
    ·have hE:=run_entry_at (P:=Tryd.prog) w' r mb 4 seen spotsE 4 spotsE[3] hit2 (H.mp atd_).2 (by simp[spotsE]) zB3
     replace hE:_=Result.ok (Value.tuple #[.string ⟨#[122]⟩,.int .i64 9]) w':=hE;replace hN:_=Result.ok (Value.tuple #[.bool true,.string ⟨#[122]⟩,.int .i64 9]) w':=hN
     cases hs:atP L (i+1) [122] with
     | true =>
      have hle:=zDx hs (by simp)
      simp only[List.length_cons,List.length_nil,Nat.zero_add]at hle;have E1:=EE.out;rw[zEh hs (show zGZ (UInt8.toNat 122)=some 9 from rfl)]at E1;simp only[]at E1
      have E3:=Lib.hid (show zAu (zBT (zBw L i))=.ok (zAk {kind:=5,place:=i,spot:=9},i+2) by rw[E1];rfl)
      have SK:=fun w h=>zBZ rb (by simp) U hL hi hs w h
      simp only[if_true,List.length_cons,List.length_nil,Nat.zero_add]at SK;clear hs E1
      go_wp2_with (first|(first|((with_reducible refine gT ?_);((first|refine aO H ?_|refine aT H ?_);clear H;intro w H;try simp only[nr]at H))|((with_reducible refine gL ?_);refine aD H ?_))|(go_at_call 57;(with_reducible refine(SK _ (H.blk .zero).2).mono ?_);rintro e w ⟨hk,rfl,hr⟩;replace H:=H.callBut atd_ hk hr;clear hk hr;try simp only[nr]at H))
      (refine xc Tryd.results55 H ?_)
      exact zAb E3.out H.keep (H.blk .zero).2
     | false =>
      have SK:=fun w h=>zBZ rb (by simp) U hL hi hs w h
      simp only[Bool.false_eq_true,if_false]at SK;have HS:=Lib.hid hs;clear hs
      go_wp2_with (first|fail|(go_at_call 57;(with_reducible refine(SK _ (H.blk .zero).2).mono ?_);rintro e w ⟨hk,rfl,hr2⟩;have hit3:=(hk.old r (Array.getElem?_eq_some_iff.1 hit2).1 (fun e=>hrr.2 _ (List.mem_cons_self ..) (by rw[e];rfl))).trans hit2;replace H:=H.callBut atd_ hk hr2;clear hk hr2;try simp only[nr]at H))
      go_roundw
      case rel =>
       refine⟨seen.push 3,hit3,fun x hx hs=>?_,H⟩
       rw[contains_push]at hs;simp only[Bool.or_eq_true,beq_iff_eq]at hs;rcases hs with hs|hs
       ·exact hseen x hx hs
       ·have:x=spotsE[3]:=born_inj zB3 hx (by simp[spotsE]) (by rw[hs];rfl)
        rw[this];exact HS.out
      case measure =>
       rw[zB4 hit3,zB4 hit];exact left_shrinks spotsE seen spotsE[3] hel
end
section
open Go.RowKit Go.Shelf Go.MapKept
attribute [local go_sem] Oper.semAt_some
theorem zKD (W:World):(sizeOf 23).run Tryd.prog W=.ok 3 W:=by kernel_rfl
theorem zG0 (b k m:Nat) (W:World):(binOp .eql 127 (.pointer (some ⟨b,k,none⟩)) (.pointer (some ⟨b,m,none⟩))).run Tryd.prog W=.ok (.bool (k == m)) W:=by
 have h:(Op.equal 127 (.pointer (some ⟨b,k,none⟩)) (.pointer (some ⟨b,m,none⟩))).run Tryd.prog W=.ok (k == m) W:=by
  show (Op.equalIn (9999+1) _ _ _).run _ _=_
  unfold Op.equalIn;rw[Sem.run_bind,run_underlying Tryd.underlying127];simp only[Result.andThen,Sem.run_bind,zKD];simp[sameAddr];rw[Bool.eq_iff_iff];simp
 simp[binOp,h,go_sem]
theorem zK8 (b:Nat) (W:World):(binOp .eql 127 (.pointer (some ⟨b,11,none⟩)) (.pointer (some ⟨b,11,none⟩))).run Tryd.prog W=.ok (.bool true) W:=zG0 b 11 11 W
theorem zKd (b:Nat) (W:World):(binOp .eql 127 (.pointer (some ⟨b,14,none⟩)) (.pointer (some ⟨b,11,none⟩))).run Tryd.prog W=.ok (.bool false) W:=zG0 b 14 11 W
attribute [local go_sem] zK8 zKd
theorem zL1 (rb:Nat) (L:Str) (i:Nat) (U:TypeId) (hL:L.length≤2000) (hi:i+2≤L.length) (w0:World) (hr:w0.heap[rb]?=some (.cells (rdC L (i+2)) U (0,0))) :
  Calls Tryd.prog 58 #[ptrV rb,zAk {kind:=0,place:=i}] w0 (zAz rb L U w0 (zAu (zBT (zBU L i)))):=by
 have H:=HoldG.startB hr
 go_enter Tryd.func58,Tryd.ntmps58
 go_wp2_with (first|((first|((with_reducible refine kgA 3 ?_);refine kA 3 H ?_)|((with_reducible refine kgX 3 ?_);(first|refine kS 3 H ?_|refine kB 3 H ?_)));clear H;intro b3 w H;try simp only[nr]at H)|((first|((with_reducible refine kgA 4 ?_);refine kA 4 H ?_)|((with_reducible refine kgX 4 ?_);(first|refine kS 4 H ?_|refine kB 4 H ?_)));clear H;intro b4 w H;try simp only[nr]at H)|fail)
 go_step3
 go_wp2_with (first|((first|((with_reducible refine kgA 3 ?_);refine kA 3 H ?_)|((with_reducible refine kgX 3 ?_);(first|refine kS 3 H ?_|refine kB 3 H ?_)));clear H;intro b3 w H;try simp only[nr]at H)|((first|((with_reducible refine kgA 4 ?_);refine kA 4 H ?_)|((with_reducible refine kgX 4 ?_);(first|refine kS 4 H ?_|refine kB 4 H ?_)));clear H;intro b4 w H;try simp only[nr]at H)|fail)
 go_step3
 go_wp2_with (first|((first|((with_reducible refine kgA 3 ?_);refine kA 3 H ?_)|((with_reducible refine kgX 3 ?_);(first|refine kS 3 H ?_|refine kB 3 H ?_)));clear H;intro b3 w H;try simp only[nr]at H)|((first|((with_reducible refine kgA 4 ?_);refine kA 4 H ?_)|((with_reducible refine kgX 4 ?_);(first|refine kS 4 H ?_|refine kB 4 H ?_)));clear H;intro b4 w H;try simp only[nr]at H)|fail)
 go_loopw [5,6] (fun p o wr=>∃ (j f:Nat) (bo bs:Bool) (d:WordD),p=.pointer (some ⟨b3,if bo then 14 else 11,none⟩)∧o=.bool bs∧j≤L.length∧Hid (zBU L i=zAT L f j bo bs d∧L.length<f+j)∧HoldG (·=rb) w0 wr [.blk rb (rdC L j) U,.blk b3 (zAg d) 65,.blk b4 (zAg {kind:=0,place:=0}) 65]) (fun _ _ wr=>L.length+2 - zJi rb wr)
 case atStart=>exact⟨i+2,L.length+1,false,true,{kind:=0,place:=i},rfl,rfl,hi,Lib.hid ⟨rfl,by omega⟩,H⟩
 case round =>
  clear H;obtain⟨j,f,bo,bs,d,rfl,rfl,hj,G,H⟩:=hrel;obtain⟨f,rfl⟩:∃ f',f=f'+1:=⟨f - 1,by have:=G.out.2;omega⟩
  have H0:=(H.blk .zero).2
  by_cases hlt:j<L.length
  ·cases bo with
   | false =>
    simp only[Bool.false_eq_true,if_false]
    by_cases hc:byt L j=105
    ·have G2:=Lib.hid (show zBU L i=zAT L f (j+1) false true {d with on:=(true,d.on.2.1,d.on.2.2)} by rw[G.out.1,zNE hlt hc])
     have e3:((byt L j:Int) == 105)=true:=by rw[beq_iff_eq];omega
     clear hc
     go_wp2_with (first|((with_reducible refine gT ?_);(refine aO H ?_;clear H;intro w H;try simp only[nr]at H))|(go_at_call 54;(with_reducible refine(zAI rb L j U hL hlt _ (H.blk .zero).2).mono ?_);rintro e w ⟨hk,rfl,hr⟩;replace H:=H.callBut atd_ hk hr;clear hk hr;try simp only[nr]at H)|((with_reducible refine ch (zBB _) H ?_);clear H;intro w H))
     go_roundw
     case rel=>exact⟨j+1,f,false,true,{d with on:=(true,d.on.2.1,d.on.2.2)},by first|rfl|(simp;done),by first|rfl|(simp;done),by omega,Lib.hid ⟨G2.out,by have:=G.out.2;omega⟩,H⟩
     case measure=>rw[zBD (H.blk .zero).2,zBD H0];omega
    ·have n105:((byt L j:Int) == 105)=false:=by rw[beq_eq_false_iff_ne];omega
     have m105:=Lib.hid hc;clear hc
     by_cases hc:byt L j=109
     ·have G2:=Lib.hid (show zBU L i=zAT L f (j+1) false true {d with on:=(d.on.1,true,d.on.2.2)} by rw[G.out.1,zNW hlt hc])
      have e3:((byt L j:Int) == 109)=true:=by rw[beq_iff_eq];omega
      clear hc
      go_wp2_with (first|((with_reducible refine gT ?_);(refine aO H ?_;clear H;intro w H;try simp only[nr]at H))|(go_at_call 54;(with_reducible refine(zAI rb L j U hL hlt _ (H.blk .zero).2).mono ?_);rintro e w ⟨hk,rfl,hr⟩;replace H:=H.callBut atd_ hk hr;clear hk hr;try simp only[nr]at H)|((with_reducible refine ch (zBB _) H ?_);clear H;intro w H))
      go_roundw
      case rel=>exact⟨j+1,f,false,true,{d with on:=(d.on.1,true,d.on.2.2)},by first|rfl|(simp;done),by first|rfl|(simp;done),by omega,Lib.hid ⟨G2.out,by have:=G.out.2;omega⟩,H⟩
      case measure=>rw[zBD (H.blk .zero).2,zBD H0];omega
     ·have n109:((byt L j:Int) == 109)=false:=by rw[beq_eq_false_iff_ne];omega
      have m109:=Lib.hid hc;clear hc
      by_cases hc:byt L j=115
      ·have G2:=Lib.hid (show zBU L i=zAT L f (j+1) false true {d with on:=(d.on.1,d.on.2.1,true)} by rw[G.out.1,zNX hlt hc])
       have e3:((byt L j:Int) == 115)=true:=by rw[beq_iff_eq];omega
       clear hc
       go_wp2_with (first|((with_reducible refine gT ?_);(refine aO H ?_;clear H;intro w H;try simp only[nr]at H))|(go_at_call 54;(with_reducible refine(zAI rb L j U hL hlt _ (H.blk .zero).2).mono ?_);rintro e w ⟨hk,rfl,hr⟩;replace H:=H.callBut atd_ hk hr;clear hk hr;try simp only[nr]at H)|((with_reducible refine ch (zBB _) H ?_);clear H;intro w H))
       go_roundw
       case rel=>exact⟨j+1,f,false,true,{d with on:=(d.on.1,d.on.2.1,true)},by first|rfl|(simp;done),by first|rfl|(simp;done),by omega,Lib.hid ⟨G2.out,by have:=G.out.2;omega⟩,H⟩
       case measure=>rw[zBD (H.blk .zero).2,zBD H0];omega
      ·have n115:((byt L j:Int) == 115)=false:=by rw[beq_eq_false_iff_ne];omega
       have m115:=Lib.hid hc;clear hc
       by_cases hc:byt L j=45
       ·have G2:=Lib.hid (show zBU L i=zAT L f (j+1) true false d by rw[G.out.1,zNy hlt hc])
        have e3:((byt L j:Int) == 45)=true:=by rw[beq_iff_eq];omega
        clear hc
        go_wp2_with (first|fail|(go_at_call 54;(with_reducible refine(zAI rb L j U hL hlt _ (H.blk .zero).2).mono ?_);rintro e w ⟨hk,rfl,hr⟩;replace H:=H.callBut atd_ hk hr;clear hk hr;try simp only[nr]at H)|((with_reducible refine ch (zBB _) H ?_);clear H;intro w H))
        go_roundw
        case rel=>exact⟨j+1,f,true,false,d,by first|rfl|(simp;done),by first|rfl|(simp;done),by omega,Lib.hid ⟨G2.out,by have:=G.out.2;omega⟩,H⟩
        case measure=>rw[zBD (H.blk .zero).2,zBD H0];omega
       ·have n45:((byt L j:Int) == 45)=false:=by rw[beq_eq_false_iff_ne];omega
        have m45:=Lib.hid hc;clear hc
        by_cases hc:byt L j=58
        ·cases bs with
         | true =>
          have E3:=Lib.hid (show zAu (zBT (zBU L i))=.ok (zAk ({d with kind:=7}),j+1) by rw[G.out.1,zMt hlt hc];rfl)
          have e41:((byt L j:Int) == 41)=false:=by rw[beq_eq_false_iff_ne];omega
          have e3:((byt L j:Int) == 58)=true:=by rw[beq_iff_eq];omega
          clear hc
          go_wp2_with (first|(first|((with_reducible refine gT ?_);((first|refine aO H ?_|refine aT H ?_);clear H;intro w H;try simp only[nr]at H))|((with_reducible refine gL ?_);refine aD H ?_))|(go_at_call 54;(with_reducible refine(zAI rb L j U hL hlt _ (H.blk .zero).2).mono ?_);rintro e w ⟨hk,rfl,hr⟩;replace H:=H.callBut atd_ hk hr;clear hk hr;try simp only[nr]at H)|((with_reducible refine ch (zBB _) H ?_);clear H;intro w H))
          rw[Exit.noGoto_ret]
          (refine xc Tryd.results58 H ?_)
          exact zAb E3.out H.keep (H.blk .zero).2
         | false =>
          have E3:=Lib.hid (show zAu (zBT (zBU L i))=.error 4 by rw[G.out.1,zM9 hlt hc];rfl)
          have e3:((byt L j:Int) == 58)=true:=by rw[beq_iff_eq];omega
          clear hc
          go_wp2_with (first|fail|(go_at_call 54;(with_reducible refine(zAI rb L j U hL hlt _ (H.blk .zero).2).mono ?_);rintro e w ⟨hk,rfl,hr⟩;replace H:=H.callBut atd_ hk hr;clear hk hr;try simp only[nr]at H)|((with_reducible refine ch (zBu _) H ?_);clear H;intro w H))
          exact⟨rfl,zAv E3.out H.keep⟩
        ·have n58:((byt L j:Int) == 58)=false:=by rw[beq_eq_false_iff_ne];omega
         have m58:=Lib.hid hc;clear hc
         by_cases hc:byt L j=41
         ·cases bs with
          | true =>
           have E3:=Lib.hid (show zAu (zBT (zBU L i))=.ok (zAk ({d with kind:=8}),j+1) by rw[G.out.1,zMz hlt hc];rfl)
           have e3:((byt L j:Int) == 41)=true:=by rw[beq_iff_eq];omega
           clear hc
           go_wp2_with (first|(first|((with_reducible refine gT ?_);((first|refine aO H ?_|refine aT H ?_);clear H;intro w H;try simp only[nr]at H))|((with_reducible refine gL ?_);refine aD H ?_))|(go_at_call 54;(with_reducible refine(zAI rb L j U hL hlt _ (H.blk .zero).2).mono ?_);rintro e w ⟨hk,rfl,hr⟩;replace H:=H.callBut atd_ hk hr;clear hk hr;try simp only[nr]at H)|((with_reducible refine ch (zBB _) H ?_);clear H;intro w H))
           rw[Exit.noGoto_ret]
           (refine xc Tryd.results58 H ?_)
           exact zAb E3.out H.keep (H.blk .zero).2
          | false =>
           have E3:=Lib.hid (show zAu (zBT (zBU L i))=.error 4 by rw[G.out.1,zMv hlt hc];rfl)
           have e3:((byt L j:Int) == 41)=true:=by rw[beq_iff_eq];omega
           clear hc
           go_wp2_with (first|fail|(go_at_call 54;(with_reducible refine(zAI rb L j U hL hlt _ (H.blk .zero).2).mono ?_);rintro e w ⟨hk,rfl,hr⟩;replace H:=H.callBut atd_ hk hr;clear hk hr;try simp only[nr]at H)|((with_reducible refine ch (zBu _) H ?_);clear H;intro w H))
           exact⟨rfl,zAv E3.out H.keep⟩
         ·have n41:((byt L j:Int) == 41)=false:=by rw[beq_eq_false_iff_ne];omega
          have m41:=Lib.hid hc;clear hc;have E3:=Lib.hid (show zAu (zBT (zBU L i))=.error 4 by rw[G.out.1,zON hlt m105.out m109.out m115.out m45.out m58.out m41.out];rfl)
          go_wp2_with (first|fail|(go_at_call 54;(with_reducible refine(zAI rb L j U hL hlt _ (H.blk .zero).2).mono ?_);rintro e w ⟨hk,rfl,hr⟩;replace H:=H.callBut atd_ hk hr;clear hk hr;try simp only[nr]at H)|((with_reducible refine ch (zBu _) H ?_);clear H;intro w H))
          exact⟨rfl,zAv E3.out H.keep⟩
   | true =>
    simp only[if_true]
    by_cases hc:byt L j=105
    ·have G2:=Lib.hid (show zBU L i=zAT L f (j+1) true true {d with off:=(true,d.off.2.1,d.off.2.2)} by rw[G.out.1,zNg hlt hc])
     have e3:((byt L j:Int) == 105)=true:=by rw[beq_iff_eq];omega
     clear hc
     go_wp2_with (first|((with_reducible refine gT ?_);(refine aO H ?_;clear H;intro w H;try simp only[nr]at H))|(go_at_call 54;(with_reducible refine(zAI rb L j U hL hlt _ (H.blk .zero).2).mono ?_);rintro e w ⟨hk,rfl,hr⟩;replace H:=H.callBut atd_ hk hr;clear hk hr;try simp only[nr]at H)|((with_reducible refine ch (zBB _) H ?_);clear H;intro w H))
     go_roundw
     case rel=>exact⟨j+1,f,true,true,{d with off:=(true,d.off.2.1,d.off.2.2)},by first|rfl|(simp;done),by first|rfl|(simp;done),by omega,Lib.hid ⟨G2.out,by have:=G.out.2;omega⟩,H⟩
     case measure=>rw[zBD (H.blk .zero).2,zBD H0];omega
    ·have n105:((byt L j:Int) == 105)=false:=by rw[beq_eq_false_iff_ne];omega
     have m105:=Lib.hid hc;clear hc
     by_cases hc:byt L j=109
     ·have G2:=Lib.hid (show zBU L i=zAT L f (j+1) true true {d with off:=(d.off.1,true,d.off.2.2)} by rw[G.out.1,zNt hlt hc])
      have e3:((byt L j:Int) == 109)=true:=by rw[beq_iff_eq];omega
      clear hc
      go_wp2_with (first|((with_reducible refine gT ?_);(refine aO H ?_;clear H;intro w H;try simp only[nr]at H))|(go_at_call 54;(with_reducible refine(zAI rb L j U hL hlt _ (H.blk .zero).2).mono ?_);rintro e w ⟨hk,rfl,hr⟩;replace H:=H.callBut atd_ hk hr;clear hk hr;try simp only[nr]at H)|((with_reducible refine ch (zBB _) H ?_);clear H;intro w H))
      go_roundw
      case rel=>exact⟨j+1,f,true,true,{d with off:=(d.off.1,true,d.off.2.2)},by first|rfl|(simp;done),by first|rfl|(simp;done),by omega,Lib.hid ⟨G2.out,by have:=G.out.2;omega⟩,H⟩
      case measure=>rw[zBD (H.blk .zero).2,zBD H0];omega
     ·have n109:((byt L j:Int) == 109)=false:=by rw[beq_eq_false_iff_ne];omega
      have m109:=Lib.hid hc;clear hc
      by_cases hc:byt L j=115
      ·have G2:=Lib.hid (show zBU L i=zAT L f (j+1) true true {d with off:=(d.off.1,d.off.2.1,true)} by rw[G.out.1,zNR hlt hc])
       have e3:((byt L j:Int) == 115)=true:=by rw[beq_iff_eq];omega
       clear hc
       go_wp2_with (first|((with_reducible refine gT ?_);(refine aO H ?_;clear H;intro w H;try simp only[nr]at H))|(go_at_call 54;(with_reducible refine(zAI rb L j U hL hlt _ (H.blk .zero).2).mono ?_);rintro e w ⟨hk,rfl,hr⟩;replace H:=H.callBut atd_ hk hr;clear hk hr;try simp only[nr]at H)|((with_reducible refine ch (zBB _) H ?_);clear H;intro w H))
       go_roundw
       case rel=>exact⟨j+1,f,true,true,{d with off:=(d.off.1,d.off.2.1,true)},by first|rfl|(simp;done),by first|rfl|(simp;done),by omega,Lib.hid ⟨G2.out,by have:=G.out.2;omega⟩,H⟩
       case measure=>rw[zBD (H.blk .zero).2,zBD H0];omega
      ·have n115:((byt L j:Int) == 115)=false:=by rw[beq_eq_false_iff_ne];omega
       have m115:=Lib.hid hc;clear hc
       by_cases hc:byt L j=45
       ·have E3:=Lib.hid (show zAu (zBT (zBU L i))=.error 4 by rw[G.out.1,zOA hlt hc];rfl)
        have e3:((byt L j:Int) == 45)=true:=by rw[beq_iff_eq];omega
        clear hc
        go_wp2_with (first|fail|(go_at_call 54;(with_reducible refine(zAI rb L j U hL hlt _ (H.blk .zero).2).mono ?_);rintro e w ⟨hk,rfl,hr⟩;replace H:=H.callBut atd_ hk hr;clear hk hr;try simp only[nr]at H)|((with_reducible refine ch (zBu _) H ?_);clear H;intro w H))
        exact⟨rfl,zAv E3.out H.keep⟩
       ·have n45:((byt L j:Int) == 45)=false:=by rw[beq_eq_false_iff_ne];omega
        have m45:=Lib.hid hc;clear hc
        by_cases hc:byt L j=58
        ·cases bs with
         | true =>
          have E3:=Lib.hid (show zAu (zBT (zBU L i))=.ok (zAk ({d with kind:=7}),j+1) by rw[G.out.1,zMt hlt hc];rfl)
          have e41:((byt L j:Int) == 41)=false:=by rw[beq_eq_false_iff_ne];omega
          have e3:((byt L j:Int) == 58)=true:=by rw[beq_iff_eq];omega
          clear hc
          go_wp2_with (first|(first|((with_reducible refine gT ?_);((first|refine aO H ?_|refine aT H ?_);clear H;intro w H;try simp only[nr]at H))|((with_reducible refine gL ?_);refine aD H ?_))|(go_at_call 54;(with_reducible refine(zAI rb L j U hL hlt _ (H.blk .zero).2).mono ?_);rintro e w ⟨hk,rfl,hr⟩;replace H:=H.callBut atd_ hk hr;clear hk hr;try simp only[nr]at H)|((with_reducible refine ch (zBB _) H ?_);clear H;intro w H))
          rw[Exit.noGoto_ret]
          (refine xc Tryd.results58 H ?_)
          exact zAb E3.out H.keep (H.blk .zero).2
         | false =>
          have E3:=Lib.hid (show zAu (zBT (zBU L i))=.error 4 by rw[G.out.1,zM9 hlt hc];rfl)
          have e3:((byt L j:Int) == 58)=true:=by rw[beq_iff_eq];omega
          clear hc
          go_wp2_with (first|fail|(go_at_call 54;(with_reducible refine(zAI rb L j U hL hlt _ (H.blk .zero).2).mono ?_);rintro e w ⟨hk,rfl,hr⟩;replace H:=H.callBut atd_ hk hr;clear hk hr;try simp only[nr]at H)|((with_reducible refine ch (zBu _) H ?_);clear H;intro w H))
          exact⟨rfl,zAv E3.out H.keep⟩
        ·have n58:((byt L j:Int) == 58)=false:=by rw[beq_eq_false_iff_ne];omega
         have m58:=Lib.hid hc;clear hc
         by_cases hc:byt L j=41
         ·cases bs with
          | true =>
           have E3:=Lib.hid (show zAu (zBT (zBU L i))=.ok (zAk ({d with kind:=8}),j+1) by rw[G.out.1,zMz hlt hc];rfl)
           have e3:((byt L j:Int) == 41)=true:=by rw[beq_iff_eq];omega
           clear hc
           go_wp2_with (first|(first|((with_reducible refine gT ?_);((first|refine aO H ?_|refine aT H ?_);clear H;intro w H;try simp only[nr]at H))|((with_reducible refine gL ?_);refine aD H ?_))|(go_at_call 54;(with_reducible refine(zAI rb L j U hL hlt _ (H.blk .zero).2).mono ?_);rintro e w ⟨hk,rfl,hr⟩;replace H:=H.callBut atd_ hk hr;clear hk hr;try simp only[nr]at H)|((with_reducible refine ch (zBB _) H ?_);clear H;intro w H))
           rw[Exit.noGoto_ret]
           (refine xc Tryd.results58 H ?_)
           exact zAb E3.out H.keep (H.blk .zero).2
          | false =>
           have E3:=Lib.hid (show zAu (zBT (zBU L i))=.error 4 by rw[G.out.1,zMv hlt hc];rfl)
           have e3:((byt L j:Int) == 41)=true:=by rw[beq_iff_eq];omega
           clear hc
           go_wp2_with (first|fail|(go_at_call 54;(with_reducible refine(zAI rb L j U hL hlt _ (H.blk .zero).2).mono ?_);rintro e w ⟨hk,rfl,hr⟩;replace H:=H.callBut atd_ hk hr;clear hk hr;try simp only[nr]at H)|((with_reducible refine ch (zBu _) H ?_);clear H;intro w H))
           exact⟨rfl,zAv E3.out H.keep⟩
         ·have n41:((byt L j:Int) == 41)=false:=by rw[beq_eq_false_iff_ne];omega
          have m41:=Lib.hid hc;clear hc;have E3:=Lib.hid (show zAu (zBT (zBU L i))=.error 4 by rw[G.out.1,zON hlt m105.out m109.out m115.out m45.out m58.out m41.out];rfl)
          go_wp2_with (first|fail|(go_at_call 54;(with_reducible refine(zAI rb L j U hL hlt _ (H.blk .zero).2).mono ?_);rintro e w ⟨hk,rfl,hr⟩;replace H:=H.callBut atd_ hk hr;clear hk hr;try simp only[nr]at H)|((with_reducible refine ch (zBu _) H ?_);clear H;intro w H))
          exact⟨rfl,zAv E3.out H.keep⟩
  ·have E3:=Lib.hid (show zAu (zBT (zBU L i))=.error 4 by rw[G.out.1,zOQ hlt];rfl)
   go_wp2_with (first|fail|(go_at_call 54;(with_reducible refine(zEH rb L j U hL hj hlt _ (H.blk .zero).2).mono ?_);rintro e w ⟨hk,rfl⟩;exact⟨rfl,zAv E3.out (H.keep.trans (hk.mono H.keep.size (fun _ _ m=>m)))⟩))
theorem zLB (rb:Nat) (L:Str) (i:Nat) (lo hi:Int) (k:Nat) (U:TypeId) (hL:L.length≤2000) (hk:k≤L.length) (hlo:0≤lo∧lo≤101) (hhi : -1≤hi∧hi≤101) (w0:World) (hr:w0.heap[rb]?=some (.cells (rdC L k) U (0,0))) :
  Calls Tryd.prog 60 #[ptrV rb,zAk {kind:=0,place:=i},.int .i64 lo,.int .i64 hi] w0 (zAz rb L U w0 (zAu (zAj L i lo hi k))):=by
 have H:=HoldG.startB hr;have E:zAj L i lo hi k=zAj L i lo hi k:=rfl
 conv at E=>rhs;unfold zAj
 obtain⟨m,hm⟩:∃ m:Int,max lo hi=m:=⟨_,rfl⟩
 by_cases h1:max lo hi≤100
 ·have d1:decide (max lo hi≤100)=true:=by simpa using h1
  cases hs:atP L k [63] with
  | true =>
   have SK:=fun w h=>zBZ rb (by simp) U hL hk hs w h
   simp only[if_true,List.length_cons,List.length_nil,Nat.zero_add]at SK
   by_cases h2:hi<0
   ·have d2:decide (hi<0)=true:=by simpa using h2
    rw[if_neg (by omega),hs,if_pos rfl]at E
    have E3:=Lib.hid (show zAu (zAj L i lo hi k)=.ok (zAk {kind:=11,place:=i,lo:=lo,hi:=hi,lazy:=true},k+1) by rw[E];rfl)
    clear E hs hm h1 h2
    go_enter Tryd.func60,Tryd.ntmps60
    go_wp2_with (first|((first|((with_reducible refine kgA 5 ?_);refine kA 5 H ?_)|((with_reducible refine kgX 5 ?_);(first|refine kS 5 H ?_|refine kB 5 H ?_)));clear H;intro b5 w H;try simp only[nr]at H)|((first|((with_reducible refine kgA 8 ?_);refine kA 8 H ?_)|((with_reducible refine kgX 8 ?_);(first|refine kS 8 H ?_|refine kB 8 H ?_)));clear H;intro b8 w H;try simp only[nr]at H)|(first|((with_reducible refine gT ?_);((first|refine aO H ?_|refine aT H ?_);clear H;intro w H;try simp only[nr]at H))|((with_reducible refine gL ?_);refine aD H ?_))|((with_reducible refine ch (zEk _) H ?_);clear H;intro w H)|(go_at_call 57;(with_reducible refine(SK _ (H.blk .zero).2).mono ?_);rintro e w ⟨hk,rfl,hr⟩;replace H:=H.callBut atd_ hk hr;clear hk hr;try simp only[nr]at H))
    (refine xc Tryd.results60 H ?_)
    exact zAb E3.out H.keep (H.blk .zero).2
   ·have d2:decide (hi<0)=false:=by simp;omega
    by_cases h3:lo≤hi
    ·have d3:decide (lo≤hi)=true:=by simpa using h3
     rw[if_neg (by omega),hs,if_pos rfl]at E
     have E3:=Lib.hid (show zAu (zAj L i lo hi k)=.ok (zAk {kind:=11,place:=i,lo:=lo,hi:=hi,lazy:=true},k+1) by rw[E];rfl)
     clear E hs hm h1 h2 h3
     go_enter Tryd.func60,Tryd.ntmps60
     go_wp2_with (first|((first|((with_reducible refine kgA 5 ?_);refine kA 5 H ?_)|((with_reducible refine kgX 5 ?_);(first|refine kS 5 H ?_|refine kB 5 H ?_)));clear H;intro b5 w H;try simp only[nr]at H)|((first|((with_reducible refine kgA 8 ?_);refine kA 8 H ?_)|((with_reducible refine kgX 8 ?_);(first|refine kS 8 H ?_|refine kB 8 H ?_)));clear H;intro b8 w H;try simp only[nr]at H)|(first|((with_reducible refine gT ?_);((first|refine aO H ?_|refine aT H ?_);clear H;intro w H;try simp only[nr]at H))|((with_reducible refine gL ?_);refine aD H ?_))|((with_reducible refine ch (zEk _) H ?_);clear H;intro w H)|(go_at_call 57;(with_reducible refine(SK _ (H.blk .zero).2).mono ?_);rintro e w ⟨hk,rfl,hr⟩;replace H:=H.callBut atd_ hk hr;clear hk hr;try simp only[nr]at H))
     (refine xc Tryd.results60 H ?_)
     exact zAb E3.out H.keep (H.blk .zero).2
    ·have d3:decide (lo≤hi)=false:=by simp;omega
     rw[if_pos (by omega)]at E
     have E3:=Lib.hid (show zAu (zAj L i lo hi k)=.error 6 by rw[E];rfl)
     clear E hs hm h1 h2 h3
     go_enter Tryd.func60,Tryd.ntmps60
     go_wp2_with (first|((first|((with_reducible refine kgA 5 ?_);refine kA 5 H ?_)|((with_reducible refine kgX 5 ?_);(first|refine kS 5 H ?_|refine kB 5 H ?_)));clear H;intro b5 w H;try simp only[nr]at H)|((first|((with_reducible refine kgA 8 ?_);refine kA 8 H ?_)|((with_reducible refine kgX 8 ?_);(first|refine kS 8 H ?_|refine kB 8 H ?_)));clear H;intro b8 w H;try simp only[nr]at H)|fail|((with_reducible refine ch (zHD _) H ?_);clear H;intro w H))
     exact⟨rfl,zAv E3.out H.keep⟩
  | false =>
   have SK:=fun w h=>zBZ rb (by simp) U hL hk hs w h
   simp only[Bool.false_eq_true,if_false]at SK
   by_cases h2:hi<0
   ·have d2:decide (hi<0)=true:=by simpa using h2
    rw[if_neg (by omega),hs,if_neg (by simp)]at E
    have E3:=Lib.hid (show zAu (zAj L i lo hi k)=.ok (zAk {kind:=11,place:=i,lo:=lo,hi:=hi},k) by rw[E];rfl)
    clear E hs hm h1 h2
    go_enter Tryd.func60,Tryd.ntmps60
    go_wp2_with (first|((first|((with_reducible refine kgA 5 ?_);refine kA 5 H ?_)|((with_reducible refine kgX 5 ?_);(first|refine kS 5 H ?_|refine kB 5 H ?_)));clear H;intro b5 w H;try simp only[nr]at H)|((first|((with_reducible refine kgA 8 ?_);refine kA 8 H ?_)|((with_reducible refine kgX 8 ?_);(first|refine kS 8 H ?_|refine kB 8 H ?_)));clear H;intro b8 w H;try simp only[nr]at H)|(first|((with_reducible refine gT ?_);((first|refine aO H ?_|refine aT H ?_);clear H;intro w H;try simp only[nr]at H))|((with_reducible refine gL ?_);refine aD H ?_))|((with_reducible refine ch (zEk _) H ?_);clear H;intro w H)|(go_at_call 57;(with_reducible refine(SK _ (H.blk .zero).2).mono ?_);rintro e w ⟨hk,rfl,hr⟩;replace H:=H.callBut atd_ hk hr;clear hk hr;try simp only[nr]at H))
    (refine xc Tryd.results60 H ?_)
    exact zAb E3.out H.keep (H.blk .zero).2
   ·have d2:decide (hi<0)=false:=by simp;omega
    by_cases h3:lo≤hi
    ·have d3:decide (lo≤hi)=true:=by simpa using h3
     rw[if_neg (by omega),hs,if_neg (by simp)]at E
     have E3:=Lib.hid (show zAu (zAj L i lo hi k)=.ok (zAk {kind:=11,place:=i,lo:=lo,hi:=hi},k) by rw[E];rfl)
     clear E hs hm h1 h2 h3
     go_enter Tryd.func60,Tryd.ntmps60
     go_wp2_with (first|((first|((with_reducible refine kgA 5 ?_);refine kA 5 H ?_)|((with_reducible refine kgX 5 ?_);(first|refine kS 5 H ?_|refine kB 5 H ?_)));clear H;intro b5 w H;try simp only[nr]at H)|((first|((with_reducible refine kgA 8 ?_);refine kA 8 H ?_)|((with_reducible refine kgX 8 ?_);(first|refine kS 8 H ?_|refine kB 8 H ?_)));clear H;intro b8 w H;try simp only[nr]at H)|(first|((with_reducible refine gT ?_);((first|refine aO H ?_|refine aT H ?_);clear H;intro w H;try simp only[nr]at H))|((with_reducible refine gL ?_);refine aD H ?_))|((with_reducible refine ch (zEk _) H ?_);clear H;intro w H)|(go_at_call 57;(with_reducible refine(SK _ (H.blk .zero).2).mono ?_);rintro e w ⟨hk,rfl,hr⟩;replace H:=H.callBut atd_ hk hr;clear hk hr;try simp only[nr]at H))
     (refine xc Tryd.results60 H ?_)
     exact zAb E3.out H.keep (H.blk .zero).2
    ·have d3:decide (lo≤hi)=false:=by simp;omega
     rw[if_pos (by omega)]at E
     have E3:=Lib.hid (show zAu (zAj L i lo hi k)=.error 6 by rw[E];rfl)
     clear E hs hm h1 h2 h3
     go_enter Tryd.func60,Tryd.ntmps60
     go_wp2_with (first|((first|((with_reducible refine kgA 5 ?_);refine kA 5 H ?_)|((with_reducible refine kgX 5 ?_);(first|refine kS 5 H ?_|refine kB 5 H ?_)));clear H;intro b5 w H;try simp only[nr]at H)|((first|((with_reducible refine kgA 8 ?_);refine kA 8 H ?_)|((with_reducible refine kgX 8 ?_);(first|refine kS 8 H ?_|refine kB 8 H ?_)));clear H;intro b8 w H;try simp only[nr]at H)|fail|((with_reducible refine ch (zHD _) H ?_);clear H;intro w H))
     exact⟨rfl,zAv E3.out H.keep⟩
 ·have d1:decide (max lo hi≤100)=false:=by simp;omega
  rw[if_pos (by omega)]at E
  have E3:=Lib.hid (show zAu (zAj L i lo hi k)=.error 6 by rw[E];rfl)
  clear E hm h1
  go_enter Tryd.func60,Tryd.ntmps60
  go_wp2_with (first|((first|((with_reducible refine kgA 5 ?_);refine kA 5 H ?_)|((with_reducible refine kgX 5 ?_);(first|refine kS 5 H ?_|refine kB 5 H ?_)));clear H;intro b5 w H;try simp only[nr]at H)|((first|((with_reducible refine kgA 8 ?_);refine kA 8 H ?_)|((with_reducible refine kgX 8 ?_);(first|refine kS 8 H ?_|refine kB 8 H ?_)));clear H;intro b8 w H;try simp only[nr]at H)|fail|((with_reducible refine ch (zHD _) H ?_);clear H;intro w H))
  exact⟨rfl,zAv E3.out H.keep⟩
end
end Go.Proofs.YtklcgfkdemifcaaDoor
