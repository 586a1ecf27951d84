/-
  Laws of walks, and walks.
-/
import Derived.Test.YtklcgfkdemifcaaGreatDoorSw21
import Derived.Test.YtklcgfkdemifcaaGreatDoorSw10
import Derived.Test.YtklcgfkdemifcaaGreatDoorSw17
import Derived.WalkKit
import Derived.ProofKit
import Derived.Lay
import Derived.HandedShaped
import Derived.SizedLaws
import Derived.LaidOnce
import Derived.SevenTiedAt
import Derived.Shelf.Vars
set_option linter.unusedVariables false
set_option linter.unusedSimpArgs false
set_option maxRecDepth 100000
set_option maxHeartbeats 16000000
namespace Go.Proofs.YtklcgfkdemifcaaGreatDoor
section
open Go.RowKit Go.Shelf
attribute [local go_sem] Oper.semAt_some
def zGM (l:List Str):Array Value:=(l.map (fun s=>Value.string ⟨s.toArray⟩)).toArray
def StrB (cs:Array Value) (n K:Nat):Prop:=∀ i,i<n→∃ S:Str,cs[i]?=some (.string ⟨S.toArray⟩)∧S.length≤K
theorem zJp (l:List Str) (K:Nat) (h:∀ s ∈ l,s.length≤K) {n:Nat} (hn:n=l.length):StrB (zGM l) n K:=by
 subst hn;intro i hi;refine⟨l[i],?_,h _ (List.getElem_mem hi)⟩;unfold zGM;rw[List.getElem?_toArray,List.getElem?_map,List.getElem?_eq_getElem hi];rfl
theorem zQF (s:Str) (m:Nat) (hm:m≤2000) (hs:s.length≤20):(Lib.repeatL s m).length≤100000:=by
 rw[Lib.repeatL_length];have:=Nat.mul_le_mul hm hs;omega
theorem zHA (s:Str) (m:Nat) (hm:m≤2000) (hs:s.length≤20) (w:World):Calls Tryz.prog 25 #[.string ⟨s.toArray⟩,.int .i64 m] w fun e w'=>(∃ Z:Str,Z.length≤100000∧e=.returned (.string ⟨Z.toArray⟩))∧Below w.heap.size w w' :=
 (Tryz.strings_Repeat ⟨s.toArray⟩ m w (by omega) (by show s.toArray.size * m≤_;exact Nat.le_trans (Nat.mul_le_mul (show s.toArray.size≤20 by simpa using hs) hm) (by decide))).mono fun e w' ⟨he,hb⟩=>⟨⟨_,zQF s m hm hs,he⟩,hb⟩
section
variable {M:Nat→Prop} {ops:Array Oper} {o:Oper} {rest:List Oper} {a:Act} {w w0:World} {l:List Res} {Q:Exit→Act→World→Prop}
theorem zFg (hg:Region.wanted o (yielded ops a.tmps)=true) {x y:Operand} {t:TypeId} (ho:o.op=Op.binOp .add 9 x y t) {A B:Str} (hx:a.eval x=.string ⟨A.toArray⟩) (hy:a.eval y=.string ⟨B.toArray⟩) (hn:A.length+B.length≤1000000000)
  (h:∀ Z:Str,Z.length=A.length+B.length→wpList Tryz.prog ops Q rest (a.put o.dst (.string ⟨Z.toArray⟩)) w):wpList Tryz.prog ops Q (o::rest) a w :=
 zAi hg (v:=.string ⟨(A++B).toArray⟩) (by
  have e:((⟨A.toArray⟩:ByteArray)++⟨B.toArray⟩)=⟨(A++B).toArray⟩:=by apply ByteArray.ext;simp
  simp only[execOp,ho,hx,hy];simp[go_sem,e]
  omega) (h _ (by simp))
theorem zIQ {T e:TypeId} {g n c i:Nat} {k:IntKind} {x y:Operand} (hu:Tryz.prog.underlying T=some (.slice e)) (hs:∀ w,(sizeOf e).run Tryz.prog w=.ok 1 w)
  (hop:o.op=Op.indexAddr T x y) (hx:a.eval x=.slice (some ⟨g,0,none⟩) n c) (hy:a.eval y=.int k (i:Int)) (hi:i<n):(execOp a.eval o).run Tryz.prog w=.ok (.value (.pointer (some ⟨g,i,none⟩))) w:=by
 simp only[execOp,hop,hx,hy];simp[Instr.indexAt,asIntOf,go_sem,run_underlying hu,hs];intro hc;omega
theorem zJo (s0 s1 s2 s3 s4 s5 s6 s7:Str) (W:World):(Instr.buildSlice 38 8 #[(0,.string ⟨s0.toArray⟩),(1,.string ⟨s1.toArray⟩),(2,.string ⟨s2.toArray⟩),(3,.string ⟨s3.toArray⟩),(4,.string ⟨s4.toArray⟩),(5,.string ⟨s5.toArray⟩),(6,.string ⟨s6.toArray⟩),(7,.string ⟨s7.toArray⟩)]).run Tryz.prog W=.ok (.slice (some ⟨W.heap.size,0,none⟩) 8 8) (W.alloc (.cells (zGM [s0,s1,s2,s3,s4,s5,s6,s7]) 9)):=by kernel_rfl
theorem zMp (K:Nat) (hg:Region.wanted o (yielded ops a.tmps)=true) {x0 x1 x2 x3 x4 x5 x6 x7:Operand} (ho:o.op=.buildSlice 38 8 #[(0,x0),(1,x1),(2,x2),(3,x3),(4,x4),(5,x5),(6,x6),(7,x7)]) (H:HoldG M w0 w l) (h0:∃ s:Str,a.eval x0=.string ⟨s.toArray⟩∧s.length≤K) (h1:∃ s:Str,a.eval x1=.string ⟨s.toArray⟩∧s.length≤K) (h2:∃ s:Str,a.eval x2=.string ⟨s.toArray⟩∧s.length≤K) (h3:∃ s:Str,a.eval x3=.string ⟨s.toArray⟩∧s.length≤K) (h4:∃ s:Str,a.eval x4=.string ⟨s.toArray⟩∧s.length≤K) (h5:∃ s:Str,a.eval x5=.string ⟨s.toArray⟩∧s.length≤K) (h6:∃ s:Str,a.eval x6=.string ⟨s.toArray⟩∧s.length≤K) (h7:∃ s:Str,a.eval x7=.string ⟨s.toArray⟩∧s.length≤K)
  (h:∀ b cs w',StrB cs 8 K→HoldG M w0 w' (l++[.blk b cs 9])→wpList Tryz.prog ops Q rest (a.put o.dst (.slice (some ⟨b,0,none⟩) 8 8)) w'):wpList Tryz.prog ops Q (o::rest) a w:=by
 obtain⟨s0,e0,l0⟩:=h0;obtain⟨s1,e1,l1⟩:=h1;obtain⟨s2,e2,l2⟩:=h2;obtain⟨s3,e3,l3⟩:=h3;obtain⟨s4,e4,l4⟩:=h4;obtain⟨s5,e5,l5⟩:=h5;obtain⟨s6,e6,l6⟩:=h6;obtain⟨s7,e7,l7⟩:=h7;refine zAU hg _ _ _ ho H (zGM [s0,s1,s2,s3,s4,s5,s6,s7]) 9 (fun W=>?_) (fun b w' H'=>h b _ w' (zJp _ _ (by intro s hs;simp only[List.mem_cons,List.not_mem_nil,or_false]at hs;rcases hs with rfl|rfl|rfl|rfl|rfl|rfl|rfl|rfl<;>assumption) rfl) H')
 simp only[List.map_toArray,List.map_cons,List.map_nil,e0,e1,e2,e3,e4,e5,e6,e7];exact zJo s0 s1 s2 s3 s4 s5 s6 s7 W
theorem zJ2 (s0 s1 s2 s3 s4 s5 s6 s7 s8:Str) (W:World):(Instr.buildSlice 38 9 #[(0,.string ⟨s0.toArray⟩),(1,.string ⟨s1.toArray⟩),(2,.string ⟨s2.toArray⟩),(3,.string ⟨s3.toArray⟩),(4,.string ⟨s4.toArray⟩),(5,.string ⟨s5.toArray⟩),(6,.string ⟨s6.toArray⟩),(7,.string ⟨s7.toArray⟩),(8,.string ⟨s8.toArray⟩)]).run Tryz.prog W=.ok (.slice (some ⟨W.heap.size,0,none⟩) 9 9) (W.alloc (.cells (zGM [s0,s1,s2,s3,s4,s5,s6,s7,s8]) 9)):=by kernel_rfl
theorem zMl (K:Nat) (hg:Region.wanted o (yielded ops a.tmps)=true) {x0 x1 x2 x3 x4 x5 x6 x7 x8:Operand} (ho:o.op=.buildSlice 38 9 #[(0,x0),(1,x1),(2,x2),(3,x3),(4,x4),(5,x5),(6,x6),(7,x7),(8,x8)]) (H:HoldG M w0 w l) (h0:∃ s:Str,a.eval x0=.string ⟨s.toArray⟩∧s.length≤K) (h1:∃ s:Str,a.eval x1=.string ⟨s.toArray⟩∧s.length≤K) (h2:∃ s:Str,a.eval x2=.string ⟨s.toArray⟩∧s.length≤K) (h3:∃ s:Str,a.eval x3=.string ⟨s.toArray⟩∧s.length≤K) (h4:∃ s:Str,a.eval x4=.string ⟨s.toArray⟩∧s.length≤K) (h5:∃ s:Str,a.eval x5=.string ⟨s.toArray⟩∧s.length≤K) (h6:∃ s:Str,a.eval x6=.string ⟨s.toArray⟩∧s.length≤K) (h7:∃ s:Str,a.eval x7=.string ⟨s.toArray⟩∧s.length≤K) (h8:∃ s:Str,a.eval x8=.string ⟨s.toArray⟩∧s.length≤K)
  (h:∀ b cs w',StrB cs 9 K→HoldG M w0 w' (l++[.blk b cs 9])→wpList Tryz.prog ops Q rest (a.put o.dst (.slice (some ⟨b,0,none⟩) 9 9)) w'):wpList Tryz.prog ops Q (o::rest) a w:=by
 obtain⟨s0,e0,l0⟩:=h0;obtain⟨s1,e1,l1⟩:=h1;obtain⟨s2,e2,l2⟩:=h2;obtain⟨s3,e3,l3⟩:=h3;obtain⟨s4,e4,l4⟩:=h4;obtain⟨s5,e5,l5⟩:=h5;obtain⟨s6,e6,l6⟩:=h6;obtain⟨s7,e7,l7⟩:=h7;obtain⟨s8,e8,l8⟩:=h8;refine zAU hg _ _ _ ho H (zGM [s0,s1,s2,s3,s4,s5,s6,s7,s8]) 9 (fun W=>?_) (fun b w' H'=>h b _ w' (zJp _ _ (by intro s hs;simp only[List.mem_cons,List.not_mem_nil,or_false]at hs;rcases hs with rfl|rfl|rfl|rfl|rfl|rfl|rfl|rfl|rfl<;>assumption) rfl) H')
 simp only[List.map_toArray,List.map_cons,List.map_nil,e0,e1,e2,e3,e4,e5,e6,e7,e8];exact zJ2 s0 s1 s2 s3 s4 s5 s6 s7 s8 W
theorem zIu (s0 s1 s2 s3 s4 s5 s6 s7 s8 s9:Str) (W:World):(Instr.buildSlice 38 10 #[(0,.string ⟨s0.toArray⟩),(1,.string ⟨s1.toArray⟩),(2,.string ⟨s2.toArray⟩),(3,.string ⟨s3.toArray⟩),(4,.string ⟨s4.toArray⟩),(5,.string ⟨s5.toArray⟩),(6,.string ⟨s6.toArray⟩),(7,.string ⟨s7.toArray⟩),(8,.string ⟨s8.toArray⟩),(9,.string ⟨s9.toArray⟩)]).run Tryz.prog W=.ok (.slice (some ⟨W.heap.size,0,none⟩) 10 10) (W.alloc (.cells (zGM [s0,s1,s2,s3,s4,s5,s6,s7,s8,s9]) 9)):=by kernel_rfl
theorem zLV (K:Nat) (hg:Region.wanted o (yielded ops a.tmps)=true) {x0 x1 x2 x3 x4 x5 x6 x7 x8 x9:Operand} (ho:o.op=.buildSlice 38 10 #[(0,x0),(1,x1),(2,x2),(3,x3),(4,x4),(5,x5),(6,x6),(7,x7),(8,x8),(9,x9)]) (H:HoldG M w0 w l) (h0:∃ s:Str,a.eval x0=.string ⟨s.toArray⟩∧s.length≤K) (h1:∃ s:Str,a.eval x1=.string ⟨s.toArray⟩∧s.length≤K) (h2:∃ s:Str,a.eval x2=.string ⟨s.toArray⟩∧s.length≤K) (h3:∃ s:Str,a.eval x3=.string ⟨s.toArray⟩∧s.length≤K) (h4:∃ s:Str,a.eval x4=.string ⟨s.toArray⟩∧s.length≤K) (h5:∃ s:Str,a.eval x5=.string ⟨s.toArray⟩∧s.length≤K) (h6:∃ s:Str,a.eval x6=.string ⟨s.toArray⟩∧s.length≤K) (h7:∃ s:Str,a.eval x7=.string ⟨s.toArray⟩∧s.length≤K) (h8:∃ s:Str,a.eval x8=.string ⟨s.toArray⟩∧s.length≤K) (h9:∃ s:Str,a.eval x9=.string ⟨s.toArray⟩∧s.length≤K)
  (h:∀ b cs w',StrB cs 10 K→HoldG M w0 w' (l++[.blk b cs 9])→wpList Tryz.prog ops Q rest (a.put o.dst (.slice (some ⟨b,0,none⟩) 10 10)) w'):wpList Tryz.prog ops Q (o::rest) a w:=by
 obtain⟨s0,e0,l0⟩:=h0;obtain⟨s1,e1,l1⟩:=h1;obtain⟨s2,e2,l2⟩:=h2;obtain⟨s3,e3,l3⟩:=h3;obtain⟨s4,e4,l4⟩:=h4;obtain⟨s5,e5,l5⟩:=h5;obtain⟨s6,e6,l6⟩:=h6;obtain⟨s7,e7,l7⟩:=h7;obtain⟨s8,e8,l8⟩:=h8;obtain⟨s9,e9,l9⟩:=h9;refine zAU hg _ _ _ ho H (zGM [s0,s1,s2,s3,s4,s5,s6,s7,s8,s9]) 9 (fun W=>?_) (fun b w' H'=>h b _ w' (zJp _ _ (by intro s hs;simp only[List.mem_cons,List.not_mem_nil,or_false]at hs;rcases hs with rfl|rfl|rfl|rfl|rfl|rfl|rfl|rfl|rfl|rfl<;>assumption) rfl) H')
 simp only[List.map_toArray,List.map_cons,List.map_nil,e0,e1,e2,e3,e4,e5,e6,e7,e8,e9];exact zIu s0 s1 s2 s3 s4 s5 s6 s7 s8 s9 W
end
theorem zK4 (w0:World) (hz:MaxL w0):Calls Tryz.prog 9 #[] w0 (Rt (.bool true) w0):=by
 have H:=Hold.start w0;have hT:=fun (L:Str) (f:zAP) w (hb:Below w0.heap.size w0 w)=>zJR L f w (hz.below hb)
 clear hz
 go_enter Tryz.func9,Tryz.ntmps9
 go_wp2_with (first|fail)
 go_loopw [1] (fun k wr=>∃ n:Nat,k=.int .i64 n∧n≤23∧Hold w0 wr []) (fun k _=>24 - (intOf k).toNat)
 case atStart=>exact⟨18,rfl,by omega,H⟩
 case round =>
  clear H;obtain⟨n,rfl,hn,H⟩:=hrel
  by_cases hlt:n<23
  ·have di:decide ((n:Int)<23)=true:=decide_eq_true (by omega)
   go_wp2_with (first|((with_reducible refine gZ ?_);refine fb0 ?_)|(go_at_call 25;refine(zHA _ _ (by first|omega|(simp only[List.length_cons,List.length_nil];omega)) (by first|omega|(simp only[List.length_cons,List.length_nil];omega)) _).mono ?_;rintro e w ⟨⟨Z,hZ,rfl⟩,hb⟩;replace H:=H.call hb;clear hb)|((with_reducible show wpList _ _ _ ({op:=Op.binOp BinOp.add 9 ..,..}::_) _ _);refine zFg wtd_ rfl rfl rfl (by first|omega|(simp only[List.length_cons,List.length_nil];omega)) ?_;intro V hV;(try simp only[List.length_cons,List.length_nil]at hV))|((with_reducible refine ch (hT _ _ _ H.below) H ?_);clear H;intro w H)|fail)
   go_roundw
   case rel=>exact⟨n+1,by go_num,by omega,H⟩
   case measure=>simp[intOf];omega
  ·have di:decide ((n:Int)<23)=false:=decide_eq_false (by omega)
   clear hn hlt
   go_wp2_with (first|fail)
   go_loopw [2] (fun k wr=>∃ n:Nat,k=.int .i64 n∧n≤54∧Hold w0 wr []) (fun k _=>55 - (intOf k).toNat)
   case atStart=>exact⟨44,rfl,by omega,H⟩
   case round =>
    clear H;obtain⟨n,rfl,hn,H⟩:=hrel
    by_cases hlt:n<54
    ·have di:decide ((n:Int)<54)=true:=decide_eq_true (by omega)
     obtain⟨m,hmq⟩:∃ m,n / 2=m:=⟨_,rfl⟩;have hm:m≤100:=by omega
     have hquo:Int.tdiv (n:Int) 2=(m:Int):=by rw[Int.tdiv_eq_ediv_of_nonneg (by omega)];omega
     clear hmq
     go_wp2_with (first|((with_reducible refine gZ ?_);refine fb0 ?_)|(go_at_call 25;refine(zHA _ _ (by first|omega|(simp only[List.length_cons,List.length_nil];omega)) (by first|omega|(simp only[List.length_cons,List.length_nil];omega)) _).mono ?_;rintro e w ⟨⟨Z,hZ,rfl⟩,hb⟩;replace H:=H.call hb;clear hb)|((with_reducible show wpList _ _ _ ({op:=Op.binOp BinOp.add 9 ..,..}::_) _ _);refine zFg wtd_ rfl rfl rfl (by first|omega|(simp only[List.length_cons,List.length_nil];omega)) ?_;intro V hV;(try simp only[List.length_cons,List.length_nil]at hV))|((with_reducible refine ch (hT _ _ _ H.below) H ?_);clear H;intro w H)|fail)
     go_roundw
     case rel=>exact⟨n+1,by go_num,by omega,H⟩
     case measure=>simp[intOf];omega
    ·have di:decide ((n:Int)<54)=false:=decide_eq_false (by omega)
     clear hn hlt
     go_wp2_with (first|fail)
     go_loopw [3] (fun k wr=>∃ n:Nat,k=.int .i64 n∧n≤501∧Hold w0 wr []) (fun k _=>502 - (intOf k).toNat)
     case atStart=>exact⟨490,rfl,by omega,H⟩
     case round =>
      clear H;obtain⟨n,rfl,hn,H⟩:=hrel
      by_cases hlt:n<501
      ·have di:decide ((n:Int)<501)=true:=decide_eq_true (by omega)
       obtain⟨m2,hq2⟩:∃ m,n * 2=m:=⟨_,rfl⟩;have hm2:m2≤1002:=by omega
       have e2:2 * (n:Int)=(m2:Int):=by omega
       have e3:(n:Int) * 2=(m2:Int):=by omega
       obtain⟨m3,hq3⟩:∃ m,m2 / 3=m:=⟨_,rfl⟩;have hm3:m3≤1002:=by omega
       have hquo:Int.tdiv (m2:Int) 3=(m3:Int):=by rw[Int.tdiv_eq_ediv_of_nonneg (by omega)];omega
       clear hq3 hq2
       go_wp2_with (first|((with_reducible refine gZ ?_);refine fb0 ?_)|(go_at_call 25;refine(zHA _ _ (by first|omega|(simp only[List.length_cons,List.length_nil];omega)) (by first|omega|(simp only[List.length_cons,List.length_nil];omega)) _).mono ?_;rintro e w ⟨⟨Z,hZ,rfl⟩,hb⟩;replace H:=H.call hb;clear hb)|((with_reducible show wpList _ _ _ ({op:=Op.binOp BinOp.add 9 ..,..}::_) _ _);refine zFg wtd_ rfl rfl rfl (by first|omega|(simp only[List.length_cons,List.length_nil];omega)) ?_;intro V hV;(try simp only[List.length_cons,List.length_nil]at hV))|((with_reducible refine ch (hT _ _ _ H.below) H ?_);clear H;intro w H)|fail)
       go_roundw
       case rel=>exact⟨n+1,by go_num,by omega,H⟩
       case measure=>simp[intOf];omega
      ·have di:decide ((n:Int)<501)=false:=decide_eq_false (by omega)
       clear hn hlt
       go_wp2_with (first|fail)
       go_ret;exact⟨rfl,H.below⟩
theorem zHP (w0:World) (hz:MaxL w0):Calls Tryz.prog 4 #[] w0 (Rt (.bool true) w0):=by
 have H:=Hold.start w0;have hT:=fun (L:Str) (f:zAP) w (hb:Below w0.heap.size w0 w)=>zJR L f w (hz.below hb)
 have haw:=fun w (hb:Below w0.heap.size w0 w)=>zNL w (hz.below hb)
 have hgr:=fun w (hb:Below w0.heap.size w0 w)=>zK4 w (hz.below hb)
 clear hz
 go_enter Tryz.func4,Tryz.ntmps4
 go_wp2_with (first|((with_reducible show wpList _ _ _ ({op:=Op.buildSlice _ 8 _,..}::_) _ _);refine zMp 4 wtd_ rfl H ⟨_,rfl,(by first|omega|(simp only[List.length_cons,List.length_nil];omega))⟩ ⟨_,rfl,(by first|omega|(simp only[List.length_cons,List.length_nil];omega))⟩ ⟨_,rfl,(by first|omega|(simp only[List.length_cons,List.length_nil];omega))⟩ ⟨_,rfl,(by first|omega|(simp only[List.length_cons,List.length_nil];omega))⟩ ⟨_,rfl,(by first|omega|(simp only[List.length_cons,List.length_nil];omega))⟩ ⟨_,rfl,(by first|omega|(simp only[List.length_cons,List.length_nil];omega))⟩ ⟨_,rfl,(by first|omega|(simp only[List.length_cons,List.length_nil];omega))⟩ ⟨_,rfl,(by first|omega|(simp only[List.length_cons,List.length_nil];omega))⟩ ?_;clear H;intro bs cs w HS H;try simp only[nrl]at H)|fail)
 go_loopw [2] (fun k wr=>∃ n:Nat,k=.int .i64 n∧n≤32768∧Hold w0 wr [.blk bs cs 9]) (fun k _=>32769 - (intOf k).toNat)
 case atStart=>exact⟨1,rfl,by omega,H⟩
 case round =>
  clear H;obtain⟨n,rfl,hn,H⟩:=hrel
  by_cases hlt:n<32768
  ·have di:decide ((n:Int)<32768)=true:=decide_eq_true (by omega)
   go_wp2_with (first|fail)
   go_loopw [3,4] (fun s k wr=>∃ (j:Nat) (S:Str),k=.int .i64 j∧s=.string ⟨S.toArray⟩∧S.length+4 * j≤131072∧Hold w0 wr [.blk bs cs 9]) (fun _ k _=>(intOf k).toNat+1)
   case atStart=>exact⟨n,[],rfl,rfl,by simp;omega,H⟩
   case round =>
    clear H;obtain⟨j,S,rfl,rfl,hS,H⟩:=hrel
    by_cases hj0:0<j
    ·have dj:decide ((j:Int) > 0)=true:=decide_eq_true (by omega)
     have dj2:decide (0<(j:Int))=true:=decide_eq_true (by omega)
     obtain⟨m,hmq⟩:∃ m,j % 8=m:=⟨_,rfl⟩;have hm8:m<8:=by omega
     obtain⟨X,hX,hXl⟩:=HS m hm8;have hmod:Int.tmod (j:Int) 8=(m:Int):=by rw[Int.tmod_eq_emod_of_nonneg (by omega)];omega
     obtain⟨j2,hj2⟩:∃ j2,j / 8=j2:=⟨_,rfl⟩;have hquo:Int.tdiv (j:Int) 8=(j2:Int):=by rw[Int.tdiv_eq_ediv_of_nonneg (by omega)];omega
     have hj3:j2<j:=by omega
     clear hmq hj2
     go_wp2_with (first|((with_reducible show wpList _ _ _ ({op:=Op.indexAddr ..,..}::_) _ _);refine zAi wtd_ (zIQ Tryz.underlying38 (fun W=>by kernel_rfl) rfl evd_ evd_ hm8) ?_)|((with_reducible refine gL ?_);refine zAE wtd_ _ _ rfl rfl zAk ((H.cell (i:=0) .zero m).trans hX) ?_)|((with_reducible show wpList _ _ _ ({op:=Op.binOp BinOp.add 9 ..,..}::_) _ _);refine zFg wtd_ rfl rfl rfl (by first|omega|(simp only[List.length_cons,List.length_nil];omega)) ?_;intro V hV;(try simp only[List.length_cons,List.length_nil]at hV))|fail)
     go_roundw
     case rel=>exact⟨j2,V,rfl,rfl,by omega,H⟩
     case measure=>simp[intOf];omega
    ·have dj:decide ((j:Int) > 0)=false:=decide_eq_false (by omega)
     have dj2:decide (0<(j:Int))=false:=decide_eq_false (by omega)
     go_wp2_with (first|((with_reducible refine gZ ?_);refine fb0 ?_)|((with_reducible refine ch (hT _ _ _ H.below) H ?_);clear H;intro w H)|fail)
     go_roundw
     case rel=>exact⟨n+1,by go_num,by omega,H⟩
     case measure=>simp[intOf];omega
  ·have di:decide ((n:Int)<32768)=false:=decide_eq_false (by omega)
   clear hn hlt HS;replace H:=H.pick [] [] (by decide) rfl
   go_wp2_with (first|((with_reducible show wpList _ _ _ ({op:=Op.buildSlice _ 10 _,..}::_) _ _);refine zLV 12 wtd_ rfl H ⟨_,rfl,(by first|omega|(simp only[List.length_cons,List.length_nil];omega))⟩ ⟨_,rfl,(by first|omega|(simp only[List.length_cons,List.length_nil];omega))⟩ ⟨_,rfl,(by first|omega|(simp only[List.length_cons,List.length_nil];omega))⟩ ⟨_,rfl,(by first|omega|(simp only[List.length_cons,List.length_nil];omega))⟩ ⟨_,rfl,(by first|omega|(simp only[List.length_cons,List.length_nil];omega))⟩ ⟨_,rfl,(by first|omega|(simp only[List.length_cons,List.length_nil];omega))⟩ ⟨_,rfl,(by first|omega|(simp only[List.length_cons,List.length_nil];omega))⟩ ⟨_,rfl,(by first|omega|(simp only[List.length_cons,List.length_nil];omega))⟩ ⟨_,rfl,(by first|omega|(simp only[List.length_cons,List.length_nil];omega))⟩ ⟨_,rfl,(by first|omega|(simp only[List.length_cons,List.length_nil];omega))⟩ ?_;clear H;intro bs cs w HS H;try simp only[nrl]at H)|fail)
   go_loopw [6] (fun k wr=>∃ i:Nat,k=.int .i64 i∧i≤10∧Hold w0 wr [.blk bs cs 9]) (fun k _=>11 - (intOf k).toNat)
   case atStart=>exact⟨0,rfl,by omega,H⟩
   case round =>
    clear H;obtain⟨i,rfl,hi,H⟩:=hrel
    by_cases hit:i<10
    ·have di:decide ((i:Int)<10)=true:=decide_eq_true (by omega)
     obtain⟨T,hTx,hTl⟩:=HS i hit
     go_wp2_with (first|((with_reducible show wpList _ _ _ ({op:=Op.indexAddr ..,..}::_) _ _);refine zAi wtd_ (zIQ Tryz.underlying38 (fun W=>by kernel_rfl) rfl evd_ evd_ hit) ?_)|((with_reducible refine gL ?_);refine zAE wtd_ _ _ rfl rfl zAk ((H.cell (i:=0) .zero i).trans hTx) ?_)|fail)
     go_loopw [8] (fun k wr=>∃ n:Nat,k=.int .i64 n∧n≤8∧Hold w0 wr [.blk bs cs 9]) (fun k _=>9 - (intOf k).toNat)
     case atStart=>exact⟨0,rfl,by omega,H⟩
     case round =>
      clear H;obtain⟨n,rfl,hn,H⟩:=hrel
      by_cases hlt:n<8
      ·have di:decide ((n:Int)<8)=true:=decide_eq_true (by omega)
       obtain⟨m1,hq1⟩:∃ m,n % 2=m:=⟨_,rfl⟩;have e1:Int.tmod (n:Int) 2=(m1:Int):=by rw[Int.tmod_eq_emod_of_nonneg (by omega)];omega
       obtain⟨m2,hq2⟩:∃ m,n / 2=m:=⟨_,rfl⟩;have e2:Int.tdiv (n:Int) 2=(m2:Int):=by rw[Int.tdiv_eq_ediv_of_nonneg (by omega)];omega
       obtain⟨m3,hq3⟩:∃ m,m2 % 2=m:=⟨_,rfl⟩;have e3:Int.tmod (m2:Int) 2=(m3:Int):=by rw[Int.tmod_eq_emod_of_nonneg (by omega)];omega
       clear hq1 hq2 hq3;obtain⟨y1,hy1⟩:∃ y,decide ((m1:Int) > 0)=y:=⟨_,rfl⟩;obtain⟨y3,hy3⟩:∃ y,decide ((m3:Int) > 0)=y:=⟨_,rfl⟩;obtain⟨y4,hy4⟩:∃ y,decide ((n:Int) > 3)=y:=⟨_,rfl⟩
       go_upto_region 21 with (first|((first|((with_reducible refine kgA 9 ?_);refine kA 9 H ?_)|((with_reducible refine kgX 9 ?_);(first|refine kS 9 H ?_|refine kB 9 H ?_)));clear H;intro b9 w H;try simp only[nr]at H)|(first|((with_reducible refine gT ?_);(refine aT H ?_;clear H;intro w H;try simp only[nr]at H))|((with_reducible refine gZ ?_);refine fb3 ?_)))
       clear e1 e2 e3 hy1 hy3 hy4
       go_upto_region 22 with (first|((with_reducible show wpList _ _ _ ({op:=Op.binOp BinOp.add 9 ..,..}::_) _ _);refine zFg wtd_ rfl rfl rfl (by first|omega|(simp only[List.length_cons,List.length_nil];omega)) ?_;intro V hV;(try simp only[List.length_cons,List.length_nil]at hV))|((with_reducible show wpList _ _ _ ({op:=Op.buildSlice _ 9 _,..}::_) _ _);refine zMl 100 wtd_ rfl H ⟨_,rfl,(by first|omega|(simp only[List.length_cons,List.length_nil];omega))⟩ ⟨_,rfl,(by first|omega|(simp only[List.length_cons,List.length_nil];omega))⟩ ⟨_,rfl,(by first|omega|(simp only[List.length_cons,List.length_nil];omega))⟩ ⟨_,rfl,(by first|omega|(simp only[List.length_cons,List.length_nil];omega))⟩ ⟨_,rfl,(by first|omega|(simp only[List.length_cons,List.length_nil];omega))⟩ ⟨_,rfl,(by first|omega|(simp only[List.length_cons,List.length_nil];omega))⟩ ⟨_,rfl,(by first|omega|(simp only[List.length_cons,List.length_nil];omega))⟩ ⟨_,rfl,(by first|omega|(simp only[List.length_cons,List.length_nil];omega))⟩ ⟨_,rfl,(by first|omega|(simp only[List.length_cons,List.length_nil];omega))⟩ ?_;clear H;intro b5 c5 w HS5 H;try simp only[nrl]at H)|fail)
       obtain⟨ff,H2⟩:∃ ff:zAP,Hold w0 w [.blk bs cs 9,.blk b9 (zEA ff) 23,.blk b5 c5 9]:=⟨_,H⟩;clear H
       go_loopw [93] (fun k wr=>∃ j:Nat,k=.int .i64 j∧j≤9∧Hold w0 wr [.blk bs cs 9,.blk b9 (zEA ff) 23,.blk b5 c5 9]) (fun k _=>10 - (intOf k).toNat)
       case atStart=>exact⟨0,rfl,by omega,H2⟩
       case round =>
        clear H2;obtain⟨j,rfl,hj,H⟩:=hrel
        by_cases hjt:j<9
        ·have dj:decide ((j:Int)<9)=true:=decide_eq_true (by omega)
         obtain⟨X,hX,hXl⟩:=HS5 j hjt
         go_wp2_with (first|((with_reducible show wpList _ _ _ ({op:=Op.indexAddr ..,..}::_) _ _);refine zAi wtd_ (zIQ Tryz.underlying38 (fun W=>by kernel_rfl) rfl evd_ evd_ hjt) ?_)|((with_reducible refine gL ?_);refine zAE wtd_ _ _ rfl rfl zAk ((H.cell (i:=2) i_2 j).trans hX) ?_)|((with_reducible refine ch (hT _ _ _ H.below) H ?_);clear H;intro w H)|((with_reducible refine gL ?_);refine aD H ?_))
         go_roundw
         case rel=>exact⟨j+1,by go_num,by omega,H⟩
         case measure=>simp[intOf];omega
        ·have dj:decide ((j:Int)<9)=false:=decide_eq_false (by omega)
         go_wp2_with (first|fail)
         go_roundw
         case rel=>exact⟨n+1,by go_num,by omega,H.pick [0] _ (by decide) rfl⟩
         case measure=>simp[intOf];omega
      ·have di:decide ((n:Int)<8)=false:=decide_eq_false (by omega)
       go_wp2_with (first|fail)
       go_roundw
       case rel=>exact⟨i+1,by go_num,by omega,H⟩
       case measure=>simp[intOf];omega
    ·have di:decide ((i:Int)<10)=false:=decide_eq_false (by omega)
     go_wp2_with (first|((with_reducible first|refine ch (hgr _ H.below) H ?_|refine ch (haw _ H.below) H ?_);clear H;intro w H)|fail)
     go_ret;exact⟨rfl,H.below⟩
end
end Go.Proofs.YtklcgfkdemifcaaGreatDoor
namespace Go.Proofs.YtklcgfkdemifcaaGreatDoor.laidUp
open Go.ChangeShapes Go.WideShapes Go.ChangeAt Go.RowKit
set_option linter.unusedVariables false
section
variable {H:Type} {enc:TypeId × Value→H}
theorem handed_laid {a:Assume} {C:Checked} {os:Os} {f:FuncId} {fn:Func} {s:ChangeSpec} {conds:List PathCond} {apart fresh handsOn again:Bool} {X:World→Array Value→Prop}
  (hX:∀ (w w':World) (args:Array Value),w.heap=w'.heap→X w args→X w' args)
  (own:ownKnob C.prog.godebug=none) (started:os.Started) (noInit:C.prog.inits.idxOf? f=none) (hfn:C.prog.funcs[f]?=some fn)
  (witness:∃ (w:World) (tape:Tape) (i:Input),w.os=os∧(w.forCall tape i).Shaped C.prog∧i.vars=[]∧Input.okWide C.prog (w.forCall tape i) .any w.heap.size f i ∧
   ((s.pre enc C.prog fn conds apart (w.forCall tape i).memory i.args∧X (w.forCall tape i).memory i.args)∧sizedMet enc C.prog fn (OpenSpec.ofChange s) apart (w.forCall tape i).memory i.args)∧a.holds C.prog (lone (Frame.enter C.prog f i.args .normal) [] (w.forCall tape i)))
  (contract:∀ (W:World) (base:Nat) (args:Array Value) (ds gs:List (DataW H)) (before:List MemPlace),
   (∀ (j:Nat) t v,fn.params[j]?=some t→args[j]?=some v→Value.okWide C.prog W .any base t v) →
   DataW.Whole enc C.prog fn.params.toList s.vars apart W args.toList ds gs before→W.ShapedOpen C.prog →
   (DataW.weightsEach C.prog (fn.params.toList++(OpenSpec.ofChange s).bare.plain.varTypes C.prog) (ds++gs)).all (·≤reachBytes)=true →
   Calls C.prog f args W fun e W'=>∃ v,e=.returned v∧s.post enc C.prog fn apart fresh handsOn again W args v W') :
  ReturnsInHanded a C os f .any (fun w args=>(s.pre enc C.prog fn conds apart w args∧X w args)∧sizedMet enc C.prog fn (OpenSpec.ofChange s) apart w args) (s.post enc C.prog fn apart fresh handsOn again):=by
 refine returnsInHanded_of_calls own started noInit witness ?_
 intro w tape i _ hsh _ hok hpre _;obtain⟨_,_,_,fn',hfn',_,_,_,_,hval⟩:=hok;have e:fn'=fn:=Option.some.inj (hfn'.symm.trans hfn);subst e;obtain⟨⟨⟨ds,gs,before,hw,_⟩,_⟩,hsz⟩:=hpre;have hw':=DataW.Whole.of_heap (w':=w.forCall tape i) (by rfl) hw
 refine(contract (w.forCall tape i) w.heap.size i.args ds gs before hval hw' hsh (hsz.weights hw)).mono fun e W' ⟨v,he,hp⟩=>?_
 subst he;exact ChangeSpec.post_blind hp
end
theorem own:ownKnob Tryz.prog.godebug=none:=by kernel_rfl
theorem maxL {W:World} (h:W.ShapedOpen Tryz.prog):MaxL W :=
 cell_of_shapedOpen_int (g:=0) (t:=3) (zero:=#[.int .i64 0]) h (of_decide_eq_true (by kernel_rfl)) (by kernel_rfl) rfl (by kernel_rfl) (by kernel_rfl) Tryz.underlying3
end Go.Proofs.YtklcgfkdemifcaaGreatDoor.laidUp
