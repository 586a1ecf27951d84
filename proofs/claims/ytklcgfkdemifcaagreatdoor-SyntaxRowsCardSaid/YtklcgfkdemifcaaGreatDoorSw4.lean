/-
  Laws of walks, and walks.
-/
import Derived.Test.YtklcgfkdemifcaaGreatDoorSw3
import Derived.Test.YtklcgfkdemifcaaGreatDoorSw2
import Derived.Test.YtklcgfkdemifcaaGreatDoorSw1
import Derived.Deep.CutRange
set_option linter.unusedVariables false
set_option linter.unusedSimpArgs false
set_option maxRecDepth 100000
set_option maxHeartbeats 16000000
namespace Go.Proofs.YtklcgfkdemifcaaGreatDoor
section
open Go.RowKit Go.Shelf
theorem zAI:oneB Tryz.prog 3=true:=by kernel_rfl
theorem zBU:oneB Tryz.prog 5=true:=by kernel_rfl
theorem zAe:oneB Tryz.prog 4=true:=by kernel_rfl
theorem zAk:oneB Tryz.prog 9=true:=by kernel_rfl
theorem zAo:oneB Tryz.prog 24=true:=by kernel_rfl
theorem zAh:rowB Tryz.prog 27 4=true:=by kernel_rfl
theorem zBx:rowB Tryz.prog 161 17=true:=by kernel_rfl
theorem zSet:zB1 Tryz.prog 27=setC zAC:=by kernel_rfl
theorem zQ5:zB1 Tryz.prog 161=zAY {kind:=0,place:=0}:=by kernel_rfl
theorem zAQ:oneB Tryz.prog 46=true:=by kernel_rfl
theorem zCM:rowB Tryz.prog 57 17=true:=by kernel_rfl
theorem zQr:zB1 Tryz.prog 57=zAY {kind:=0,place:=0}:=by kernel_rfl
theorem zCf:oneB Tryz.prog 96=true:=by kernel_rfl
theorem zAW:oneB Tryz.prog 39=true:=by kernel_rfl
theorem zAN:oneB Tryz.prog 31=true:=by kernel_rfl
theorem zAa:oneB Tryz.prog 28=true:=by kernel_rfl
theorem zE4:oneB Tryz.prog 110=true:=by kernel_rfl
theorem zAX:rowB Tryz.prog 30 10=true:=by kernel_rfl
theorem zBT:rowB Tryz.prog 23 3=true:=by kernel_rfl
theorem zQd:zB1 Tryz.prog 30=zAR {kind:=0} nilS:=by kernel_rfl
theorem zQ8:zB1 Tryz.prog 23=zEA (false,false,false):=by kernel_rfl
theorem zQz:zB1 Tryz.prog 39=#[.slice none 0 0]:=by kernel_rfl
theorem zInt:zB1 Tryz.prog 3=#[.int .i64 0]:=by kernel_rfl
theorem zQb:zB1 Tryz.prog 31=#[.int .i64 0]:=by kernel_rfl
theorem zPtr:zB1 Tryz.prog 96=#[.pointer none]:=by kernel_rfl
theorem nrm:zB1 Tryz.prog 27=setC zAC∧zB1 Tryz.prog 161=zAY {kind:=0,place:=0}∧zB1 Tryz.prog 57=zAY {kind:=0,place:=0}∧zB1 Tryz.prog 30=zAR {kind:=0} nilS∧zB1 Tryz.prog 23=zEA (false,false,false)∧zB1 Tryz.prog 39=#[.slice none 0 0]∧zB1 Tryz.prog 3=#[.int .i64 0]∧zB1 Tryz.prog 31=#[.int .i64 0]∧zB1 Tryz.prog 96=#[.pointer none]:=⟨zSet,zQ5,zQr,zQd,zQ8,zQz,zInt,zQb,zPtr⟩
theorem nrl {α:Type}:(∀ (a:α) (l r:List α),a::l++r=a::(l++r))∧(∀ l:List α,[]++l=l)∧(∀ l:List α,l++[]=l)∧(∀ (a b:α) (l:List α),(a::l).set 0 b=b::l)∧(∀ (a b:α) (l:List α) (n:Nat),(a::l).set (n+1) b=a::l.set n b)∧∀ (a:α) (l:List α) (n:Nat),l.toArray.setIfInBounds n a=(l.set n a).toArray :=
 ⟨fun _ _ _=>rfl,fun _=>rfl,List.append_nil,fun _ _ _=>rfl,fun _ _ _ _=>rfl,fun _ _ _=>List.setIfInBounds_toArray ..⟩
theorem nr:(zB1 Tryz.prog 27=setC zAC∧zB1 Tryz.prog 161=zAY {kind:=0,place:=0}∧zB1 Tryz.prog 57=zAY {kind:=0,place:=0}∧zB1 Tryz.prog 30=zAR {kind:=0} nilS∧zB1 Tryz.prog 23=zEA (false,false,false)∧zB1 Tryz.prog 39=#[.slice none 0 0]∧zB1 Tryz.prog 3=#[.int .i64 0]∧zB1 Tryz.prog 31=#[.int .i64 0]∧zB1 Tryz.prog 96=#[.pointer none])∧(∀ {α:Type},(∀ (a:α) (l r:List α),a::l++r=a::(l++r))∧(∀ l:List α,[]++l=l)∧(∀ l:List α,l++[]=l)∧(∀ (a b:α) (l:List α),(a::l).set 0 b=b::l)∧(∀ (a b:α) (l:List α) (n:Nat),(a::l).set (n+1) b=a::l.set n b)∧∀ (a:α) (l:List α) (n:Nat),l.toArray.setIfInBounds n a=(l.set n a).toArray)∧(∀ (k:IntKind) (n:Int),(Value.int k n).cells=#[Value.int k n])∧(∀ (b:Bool),(Value.bool b).cells=#[Value.bool b])∧(∀ (s:ByteArray),(Value.string s).cells=#[Value.string s])∧(∀ (p:Option Addr),(Value.pointer p).cells=#[Value.pointer p])∧(∀ (p:Option Addr) (n c:Nat),(Value.slice p n c).cells=#[Value.slice p n c])∧(∀ (r:Option Nat),(Value.map r).cells=#[Value.map r])∧∀ cs:Array Value,(Value.agg cs).cells=cs :=
 ⟨nrm,nrl,fun _ _=>rfl,fun _=>rfl,fun _=>rfl,fun _=>rfl,fun _ _ _=>rfl,fun _=>rfl,fun _=>rfl⟩
theorem ch {M:Nat→Prop} {P:Program} {f:FuncId} {args:Array Value} {w w0:World} {l:List Res} {e0:Ending} {R:Ending→World→Prop} (c:Calls P f args w fun e w'=>e=e0∧Below w.heap.size w w') (H:HoldG M w0 w l)
  (k:∀ w',HoldG M w0 w' l→R e0 w'):Calls P f args w R:=c.mono fun _ w' h=>h.1 ▸ k w' (H.call h.2)
section
variable {M:Nat→Prop} {ops:Array Oper} {dst:Option Tmp} {ty:TypeId} {pos:String} {aft:Array Edge} {grd:Option (Nat × Bool)} {rest:List Oper} {a:Act} {w w0:World} {l:List Res} {Q:Exit→Act→World→Prop}
theorem gT {T:TypeId} {x y:Operand} (h:wpList Tryz.prog ops Q ((⟨dst,.store T x y,ty,pos,aft,grd⟩:Oper)::rest) a w):wpList Tryz.prog ops Q ((⟨dst,.store T x y,ty,pos,aft,grd⟩:Oper)::rest) a w:=h
theorem gL {T:TypeId} {x:Operand} (h:wpList Tryz.prog ops Q ((⟨dst,.load T x,ty,pos,aft,grd⟩:Oper)::rest) a w):wpList Tryz.prog ops Q ((⟨dst,.load T x,ty,pos,aft,grd⟩:Oper)::rest) a w:=h
theorem gX {T:TypeId} {x:Operand} (h:wpList Tryz.prog ops Q ((⟨dst,.box T x,ty,pos,aft,grd⟩:Oper)::rest) a w):wpList Tryz.prog ops Q ((⟨dst,.box T x,ty,pos,aft,grd⟩:Oper)::rest) a w:=h
theorem gA {T:TypeId} (h:wpList Tryz.prog ops Q ((⟨dst,.alloc T,ty,pos,aft,grd⟩:Oper)::rest) a w):wpList Tryz.prog ops Q ((⟨dst,.alloc T,ty,pos,aft,grd⟩:Oper)::rest) a w:=h
theorem gZ {T:TypeId} {parts:Array (Nat × Operand)} (h:wpList Tryz.prog ops Q ((⟨dst,.build T parts,ty,pos,aft,grd⟩:Oper)::rest) a w):wpList Tryz.prog ops Q ((⟨dst,.build T parts,ty,pos,aft,grd⟩:Oper)::rest) a w:=h
theorem gI {T:TypeId} {x y:Operand} (h:wpList Tryz.prog ops Q ((⟨dst,.index T x y,ty,pos,aft,grd⟩:Oper)::rest) a w):wpList Tryz.prog ops Q ((⟨dst,.index T x y,ty,pos,aft,grd⟩:Oper)::rest) a w:=h
theorem gC {T:TypeId} {x y z:Operand} (h:wpList Tryz.prog ops Q ((⟨dst,.slice T x (some y) (some z) none,ty,pos,aft,grd⟩:Oper)::rest) a w):wpList Tryz.prog ops Q ((⟨dst,.slice T x (some y) (some z) none,ty,pos,aft,grd⟩:Oper)::rest) a w:=h
theorem gF {T:TypeId} {x y:Operand} (h:wpList Tryz.prog ops Q ((⟨dst,.slice T x (some y) none none,ty,pos,aft,grd⟩:Oper)::rest) a w):wpList Tryz.prog ops Q ((⟨dst,.slice T x (some y) none none,ty,pos,aft,grd⟩:Oper)::rest) a w:=h
theorem gU {T:TypeId} {x y:Operand} (h:wpList Tryz.prog ops Q ((⟨dst,.slice T x none (some y) none,ty,pos,aft,grd⟩:Oper)::rest) a w):wpList Tryz.prog ops Q ((⟨dst,.slice T x none (some y) none,ty,pos,aft,grd⟩:Oper)::rest) a w:=h
theorem gE {T U:TypeId} {x y:Operand} (h:wpList Tryz.prog ops Q ((⟨dst,.binOp .eql T x y U,ty,pos,aft,grd⟩:Oper)::rest) a w):wpList Tryz.prog ops Q ((⟨dst,.binOp .eql T x y U,ty,pos,aft,grd⟩:Oper)::rest) a w:=h
theorem kgX (k:Tmp) {T:TypeId} {x:Operand} (h:wpList Tryz.prog ops Q ((⟨some k,.box T x,ty,pos,aft,grd⟩:Oper)::rest) a w):wpList Tryz.prog ops Q ((⟨some k,.box T x,ty,pos,aft,grd⟩:Oper)::rest) a w:=h
theorem kgA (k:Tmp) {T:TypeId} (h:wpList Tryz.prog ops Q ((⟨some k,.alloc T,ty,pos,aft,grd⟩:Oper)::rest) a w):wpList Tryz.prog ops Q ((⟨some k,.alloc T,ty,pos,aft,grd⟩:Oper)::rest) a w:=h
theorem aS (H:HoldG M w0 w l) {T:TypeId} {x y:Operand} {i b:Nat} {cs:Array Value} {U:TypeId} {s:Nat→Nat} (h:∀ w',HoldG M w0 w' (l.set i (.blk b (setC s) U))→wpList Tryz.prog ops Q rest (a.put dst undef) w') (hg:Region.wanted (⟨dst,.store T x y,ty,pos,aft,grd⟩:Oper) (yielded ops a.tmps)=true:=by first|rfl|exact zAm rfl (zAO rfl (by first|rfl|(simp only[pe];rfl)))) (hx:a.eval x=.pointer (some ⟨b,0,none⟩):=by exact rfl) (hy:a.eval y=setV s:=by (try simp only[pe]);with_reducible rfl) (hi:At l i (.blk b cs U):=by repeat (first|(with_reducible exact At.zero)|apply At.succ)) (hT:zDA Tryz.prog T 4=true:=by with_reducible exact zAw zAh) (hn:cs.size=4:=by rfl):wpList Tryz.prog ops Q ((⟨dst,.store T x y,ty,pos,aft,grd⟩:Oper)::rest) a w :=
 zLJ hg T x y rfl hx hy H hi hT hn h
theorem aW (H:HoldG M w0 w l) {T:TypeId} {x y:Operand} {i b:Nat} {d:WordD} {U:TypeId} {s:Nat→Nat} (h:∀ w',HoldG M w0 w' (l.set i (.blk b (zAY {d with set:=s}) U))→wpList Tryz.prog ops Q rest (a.put dst undef) w') (hg:Region.wanted (⟨dst,.store T x y,ty,pos,aft,grd⟩:Oper) (yielded ops a.tmps)=true:=by first|rfl|exact zAm rfl (zAO rfl (by first|rfl|(simp only[pe];rfl)))) (hx:a.eval x=.pointer (some ⟨b,2,none⟩):=by exact rfl) (hy:a.eval y=setV s:=by (try simp only[pe]);with_reducible rfl) (hi:At l i (.blk b (zAY d) U):=by repeat (first|(with_reducible exact At.zero)|apply At.succ)) (hT:zDA Tryz.prog T 4=true:=by with_reducible exact zAw zAh):wpList Tryz.prog ops Q ((⟨dst,.store T x y,ty,pos,aft,grd⟩:Oper)::rest) a w :=
 zDV hg T x y rfl hx (vs:=setC s) hy H hi hT rfl rfl (show 2+4≤17 by omega) h
theorem aV (H:HoldG M w0 w l) {T:TypeId} {x:Operand} {i b:Nat} {d:WordD} {U:TypeId} (h:wpList Tryz.prog ops Q rest (a.put dst (setV d.set)) w) (hg:Region.wanted (⟨dst,.load T x,ty,pos,aft,grd⟩:Oper) (yielded ops a.tmps)=true:=by first|rfl|exact zAm rfl (zAO rfl (by first|rfl|(simp only[pe];rfl)))) (hx:a.eval x=.pointer (some ⟨b,2,none⟩):=by exact rfl) (hi:At l i (.blk b (zAY d) U):=by repeat (first|(with_reducible exact At.zero)|apply At.succ)) (hT:rowB Tryz.prog T 4=true:=by with_reducible exact zAh):wpList Tryz.prog ops Q ((⟨dst,.load T x,ty,pos,aft,grd⟩:Oper)::rest) a w :=
 zD5 hg T x rfl hx H hi (setC d.set) hT rfl h
theorem aZ  (h:wpList Tryz.prog ops Q rest (a.put dst (setV zAC)) w) (hg:Region.wanted (⟨dst,.build 27 #[],ty,pos,aft,grd⟩:Oper) (yielded ops a.tmps)=true:=by first|rfl|exact zAm rfl (zAO rfl (by first|rfl|(simp only[pe];rfl)))):wpList Tryz.prog ops Q ((⟨dst,.build 27 #[],ty,pos,aft,grd⟩:Oper)::rest) a w :=
 zOT hg rfl h
theorem aL (H:HoldG M w0 w l) {T:TypeId} {x:Operand} {i b:Nat} {s:Nat→Nat} {U:TypeId} (h:wpList Tryz.prog ops Q rest (a.put dst (setV s)) w) (hg:Region.wanted (⟨dst,.load T x,ty,pos,aft,grd⟩:Oper) (yielded ops a.tmps)=true:=by first|rfl|exact zAm rfl (zAO rfl (by first|rfl|(simp only[pe];rfl)))) (hx:a.eval x=.pointer (some ⟨b,0,none⟩):=by exact rfl) (hi:At l i (.blk b (setC s) U):=by repeat (first|(with_reducible exact At.zero)|apply At.succ)) (hT:rowB Tryz.prog T 4=true:=by with_reducible exact zAh):wpList Tryz.prog ops Q ((⟨dst,.load T x,ty,pos,aft,grd⟩:Oper)::rest) a w :=
 zLr hg T x rfl hx H hi hT h
theorem bS (H:HoldG M w0 w l) {T:TypeId} {x:Operand} {s:Nat→Nat} (h:∀ b w',HoldG M w0 w' (l++[.blk b (setC s) T])→wpList Tryz.prog ops Q rest (a.put dst (.pointer (some ⟨b,0,none⟩))) w') (hg:Region.wanted (⟨dst,.box T x,ty,pos,aft,grd⟩:Oper) (yielded ops a.tmps)=true:=by first|rfl|exact zAm rfl (zAO rfl (by first|rfl|(simp only[pe];rfl)))) (hx:a.eval x=setV s:=by (try simp only[pe]);with_reducible rfl):wpList Tryz.prog ops Q ((⟨dst,.box T x,ty,pos,aft,grd⟩:Oper)::rest) a w :=
 zKC hg T x rfl hx H h
theorem bA (H:HoldG M w0 w l) {T:TypeId} (h:∀ b w',HoldG M w0 w' (l++[.blk b (zB1 Tryz.prog T) T])→wpList Tryz.prog ops Q rest (a.put dst (.pointer (some ⟨b,0,none⟩))) w') (hg:Region.wanted (⟨dst,.alloc T,ty,pos,aft,grd⟩:Oper) (yielded ops a.tmps)=true:=by first|rfl|exact zAm rfl (zAO rfl (by first|rfl|(simp only[pe];rfl)))) (hi:((Tryz.prog.info? T).bind (·.zero)).isSome=true:=by kernel_rfl):wpList Tryz.prog ops Q ((⟨dst,.alloc T,ty,pos,aft,grd⟩:Oper)::rest) a w :=
 zG9 hg T rfl H hi h
theorem bB (H:HoldG M w0 w l) {T:TypeId} {x:Operand} {v:Value} (h:∀ b w',HoldG M w0 w' (l++[.blk b v.cells T])→wpList Tryz.prog ops Q rest (a.put dst (.pointer (some ⟨b,0,none⟩))) w') (hg:Region.wanted (⟨dst,.box T x,ty,pos,aft,grd⟩:Oper) (yielded ops a.tmps)=true:=by first|rfl|exact zAm rfl (zAO rfl (by first|rfl|(simp only[pe];rfl)))) (hx:a.eval x=v:=by first|(simp only[pe];done)|(simp only[pe];rfl)):wpList Tryz.prog ops Q ((⟨dst,.box T x,ty,pos,aft,grd⟩:Oper)::rest) a w :=
 zJi hg T x rfl hx H h
theorem kS (k:Tmp) (H:HoldG M w0 w l) {T:TypeId} {x:Operand} {s:Nat→Nat} (h:∀ b w',HoldG M w0 w' (l++[.blk b (setC s) T])→wpList Tryz.prog ops Q rest (a.put (some k) (.pointer (some ⟨b,0,none⟩))) w') (hg:Region.wanted (⟨some k,.box T x,ty,pos,aft,grd⟩:Oper) (yielded ops a.tmps)=true:=by first|rfl|exact zAm rfl (zAO rfl (by first|rfl|(simp only[pe];rfl)))) (hx:a.eval x=setV s:=by (try simp only[pe]);with_reducible rfl):wpList Tryz.prog ops Q ((⟨some k,.box T x,ty,pos,aft,grd⟩:Oper)::rest) a w :=
 zKC hg T x rfl hx H h
theorem kA (k:Tmp) (H:HoldG M w0 w l) {T:TypeId} (h:∀ b w',HoldG M w0 w' (l++[.blk b (zB1 Tryz.prog T) T])→wpList Tryz.prog ops Q rest (a.put (some k) (.pointer (some ⟨b,0,none⟩))) w') (hg:Region.wanted (⟨some k,.alloc T,ty,pos,aft,grd⟩:Oper) (yielded ops a.tmps)=true:=by first|rfl|exact zAm rfl (zAO rfl (by first|rfl|(simp only[pe];rfl)))) (hi:((Tryz.prog.info? T).bind (·.zero)).isSome=true:=by kernel_rfl):wpList Tryz.prog ops Q ((⟨some k,.alloc T,ty,pos,aft,grd⟩:Oper)::rest) a w :=
 zG9 hg T rfl H hi h
theorem kB (k:Tmp) (H:HoldG M w0 w l) {T:TypeId} {x:Operand} {v:Value} (h:∀ b w',HoldG M w0 w' (l++[.blk b v.cells T])→wpList Tryz.prog ops Q rest (a.put (some k) (.pointer (some ⟨b,0,none⟩))) w') (hg:Region.wanted (⟨some k,.box T x,ty,pos,aft,grd⟩:Oper) (yielded ops a.tmps)=true:=by first|rfl|exact zAm rfl (zAO rfl (by first|rfl|(simp only[pe];rfl)))) (hx:a.eval x=v:=by first|(simp only[pe];done)|(simp only[pe];rfl)):wpList Tryz.prog ops Q ((⟨some k,.box T x,ty,pos,aft,grd⟩:Oper)::rest) a w :=
 zJi hg T x rfl hx H h
theorem aO (H:HoldG M w0 w l) {T:TypeId} {x y:Operand} {i b:Nat} {cs:Array Value} {U:TypeId} {k:Nat} {v:Value} (h:∀ w',HoldG M w0 w' (l.set i (.blk b (cs.setIfInBounds k v) U))→wpList Tryz.prog ops Q rest (a.put dst undef) w') (hg:Region.wanted (⟨dst,.store T x y,ty,pos,aft,grd⟩:Oper) (yielded ops a.tmps)=true:=by first|rfl|exact zAm rfl (zAO rfl (by first|rfl|(simp only[pe];rfl)))) (hx:a.eval x=.pointer (some ⟨b,k,none⟩):=by exact rfl) (hy:a.eval y=v:=by first|(simp only[pe];done)|(simp only[pe];rfl)) (hi:At l i (.blk b cs U):=by repeat (first|(with_reducible exact At.zero)|apply At.succ)) (h1:v.oneCell'=true:=by rfl) (hk:k<cs.size:=by first|(simp;done)|(simp[zAY];done)|(simp[zAR];done)|(simp[zEA];done)) (hT:zDA Tryz.prog T 1=true:=by first|(with_reducible exact zAD zAW)|(with_reducible exact zAD zAN)|(with_reducible exact zAD zCf)|(with_reducible exact zAD zAQ)|(with_reducible exact zAD zAI)|(with_reducible exact zAD zBU)|(with_reducible exact zAD zAe)|(with_reducible exact zAD zAk)|(with_reducible exact zAD zAo)|(with_reducible exact zAD one_u64)|(with_reducible exact zAD zAa)|(with_reducible exact zAD zE4)|(with_reducible exact zAD one_p10)|(with_reducible exact zAD one_ikind)|(with_reducible exact zAD one_ints)|(with_reducible exact zAD one_insts)|(with_reducible exact zAD one_bools)|(with_reducible exact zAD one_bytes)):wpList Tryz.prog ops Q ((⟨dst,.store T x y,ty,pos,aft,grd⟩:Oper)::rest) a w :=
 zAM hg T x y rfl hx hy H hi h1 hk hT h
theorem aT (H:HoldG M w0 w l) {T:TypeId} {x y:Operand} {i b:Nat} {cs:Array Value} {U:TypeId} {n:Nat} {vs:Array Value} (h:∀ w',HoldG M w0 w' (l.set i (.blk b vs U))→wpList Tryz.prog ops Q rest (a.put dst undef) w') (hg:Region.wanted (⟨dst,.store T x y,ty,pos,aft,grd⟩:Oper) (yielded ops a.tmps)=true:=by first|rfl|exact zAm rfl (zAO rfl (by first|rfl|(simp only[pe];rfl)))) (hx:a.eval x=.pointer (some ⟨b,0,none⟩):=by exact rfl) (hy:a.eval y=.agg vs:=by first|(simp only[pe];done)|(simp only[pe];rfl)) (hi:At l i (.blk b cs U):=by repeat (first|(with_reducible exact At.zero)|apply At.succ)) (hT:zDA Tryz.prog T n=true:=by first|(with_reducible exact zAw zCM)|(with_reducible exact zAw zBx)|(with_reducible exact zAw zAh)|(with_reducible exact zAw zAX)|(with_reducible exact zAw zBT)|(with_reducible exact zAw row_P10)) (hv:vs.size=n:=by rfl) (hn:cs.size=n:=by rfl) (h1:vs.toList.all (·.oneCell')=true:=by rfl):wpList Tryz.prog ops Q ((⟨dst,.store T x y,ty,pos,aft,grd⟩:Oper)::rest) a w :=
 zJN hg T x y rfl hx hy H hi hT hv hn h1 h
theorem aN (H:HoldG M w0 w l) {T:TypeId} {x y:Operand} {i b:Nat} {cs:Array Value} {U:TypeId} {n k:Nat} {vs:Array Value} (h:∀ w',HoldG M w0 w' (l.set i (.blk b (zBE cs k vs.toList) U))→wpList Tryz.prog ops Q rest (a.put dst undef) w') (hg:Region.wanted (⟨dst,.store T x y,ty,pos,aft,grd⟩:Oper) (yielded ops a.tmps)=true:=by first|rfl|exact zAm rfl (zAO rfl (by first|rfl|(simp only[pe];rfl)))) (hx:a.eval x=.pointer (some ⟨b,k,none⟩):=by exact rfl) (hy:a.eval y=.agg vs:=by first|(simp only[pe];done)|(simp only[pe];rfl)) (hi:At l i (.blk b cs U):=by repeat (first|(with_reducible exact At.zero)|apply At.succ)) (hT:zDA Tryz.prog T n=true:=by first|(with_reducible exact zAw zCM)|(with_reducible exact zAw zBx)|(with_reducible exact zAw zAh)|(with_reducible exact zAw zAX)|(with_reducible exact zAw zBT)|(with_reducible exact zAw row_P10)) (hv:vs.size=n:=by rfl) (h1:vs.toList.all (·.oneCell')=true:=by rfl) (hk:k+n≤cs.size:=by first|(simp;done)|(simp[zAY];done)|(simp[zAR];done)|(simp[zEA];done)):wpList Tryz.prog ops Q ((⟨dst,.store T x y,ty,pos,aft,grd⟩:Oper)::rest) a w :=
 zDV hg T x y rfl hx hy H hi hT hv h1 hk h
theorem aG (H:HoldG M w0 w l) {T:TypeId} {x:Operand} {i b:Nat} {cs:Array Value} {U:TypeId} {k:Nat} {v:Value} (h:wpList Tryz.prog ops Q rest (a.put dst v) w) (hg:Region.wanted (⟨dst,.load T x,ty,pos,aft,grd⟩:Oper) (yielded ops a.tmps)=true:=by first|rfl|exact zAm rfl (zAO rfl (by first|rfl|(simp only[pe];rfl)))) (hx:a.eval x=.pointer (some ⟨b,k,none⟩):=by exact rfl) (hi:At l i (.blk b cs U):=by repeat (first|(with_reducible exact At.zero)|apply At.succ)) (hT:oneB Tryz.prog T=true:=by first|(with_reducible exact zAW)|(with_reducible exact zAN)|(with_reducible exact zCf)|(with_reducible exact zAQ)|(with_reducible exact zAI)|(with_reducible exact zBU)|(with_reducible exact zAe)|(with_reducible exact zAk)|(with_reducible exact zAo)|(with_reducible exact one_u64)|(with_reducible exact zAa)|(with_reducible exact zE4)|(with_reducible exact one_p10)|(with_reducible exact one_ikind)|(with_reducible exact one_ints)|(with_reducible exact one_insts)|(with_reducible exact one_bools)|(with_reducible exact one_bytes)) (hv:cs[k]?=some v:=by first|(with_reducible exact wg0 _)|(with_reducible exact wg1 _)|(with_reducible exact wg2 _)|(with_reducible exact wg3 _)|(with_reducible exact wg4 _)|(with_reducible exact wg5 _)|(with_reducible exact wg6 _)|(with_reducible exact wg7 _)|(with_reducible exact wg8 _)|(with_reducible exact wg9 _)|(with_reducible exact wg10 _)|(with_reducible exact wg11 _)|(with_reducible exact wg12 _)|(with_reducible exact wg13 _)|(with_reducible exact wg14 _)|(with_reducible exact wg15 _)|(with_reducible exact wg16 _)|(with_reducible exact fg0 _)|(with_reducible exact fg1 _)|(with_reducible exact fg2 _)|(with_reducible exact ng0 _ _)|(with_reducible exact ng1 _ _)|(with_reducible exact ng2 _ _)|(with_reducible exact ng3 _ _)|(with_reducible exact ng4 _ _)|(with_reducible exact ng5 _ _)|(with_reducible exact ng6 _ _)|(with_reducible exact ng7 _ _)|(with_reducible exact ng8 _ _)|(with_reducible exact ng9 _ _)|rfl):wpList Tryz.prog ops Q ((⟨dst,.load T x,ty,pos,aft,grd⟩:Oper)::rest) a w :=
 zAc hg T x rfl hx H hi hT hv h
theorem aD (H:HoldG M w0 w l) {T:TypeId} {x:Operand} {i b:Nat} {cs:Array Value} {U:TypeId} {n:Nat} (h:wpList Tryz.prog ops Q rest (a.put dst (.agg cs)) w) (hg:Region.wanted (⟨dst,.load T x,ty,pos,aft,grd⟩:Oper) (yielded ops a.tmps)=true:=by first|rfl|exact zAm rfl (zAO rfl (by first|rfl|(simp only[pe];rfl)))) (hx:a.eval x=.pointer (some ⟨b,0,none⟩):=by exact rfl) (hi:At l i (.blk b cs U):=by repeat (first|(with_reducible exact At.zero)|apply At.succ)) (hT:rowB Tryz.prog T n=true:=by first|(with_reducible exact zCM)|(with_reducible exact zBx)|(with_reducible exact zAh)|(with_reducible exact zAX)|(with_reducible exact zBT)|(with_reducible exact row_P10)) (hn:cs.size=n:=by rfl):wpList Tryz.prog ops Q ((⟨dst,.load T x,ty,pos,aft,grd⟩:Oper)::rest) a w :=
 zKE hg T x rfl hx H hi hT hn h
theorem aI {T:TypeId} {x lo:Operand} {L:Str} {y:Int} {i:Nat} (h:wpList Tryz.prog ops Q rest (a.put dst (.int .u8 (byt L i))) w) (hg:Region.wanted (⟨dst,.index T x lo,ty,pos,aft,grd⟩:Oper) (yielded ops a.tmps)=true:=by first|rfl|exact zAm rfl (zAO rfl (by first|rfl|(simp only[pe];rfl)))) (hT:Tryz.prog.underlying T=some .string:=by exact Tryz.underlying9) (hx:a.eval x=.string ⟨L.toArray⟩:=by exact rfl) (hl:a.eval lo=.int .i64 y:=by first|(simp only[pe];done)|(simp only[pe];rfl)) (hy:y=(i:Int):=by first|with_reducible exact hNC|with_reducible exact nc1 _|with_reducible exact nc2 _|with_reducible exact nc3 _|with_reducible exact nca _ _|with_reducible exact nc0 _|with_reducible exact ncl0|with_reducible exact ncl1|rfl) (h1:i<L.length:=by first|omega|(simp only[List.length_cons,List.length_nil];omega)):wpList Tryz.prog ops Q ((⟨dst,.index T x lo,ty,pos,aft,grd⟩:Oper)::rest) a w :=
 zMA hg T x lo rfl hT hx hl hy h1 h
theorem aC {T:TypeId} {x lo hi:Operand} {L:Str} {y z:Int} {i j:Nat} (h:wpList Tryz.prog ops Q rest (a.put dst (.string ⟨((L.take j).drop i).toArray⟩)) w) (hg:Region.wanted (⟨dst,.slice T x (some lo) (some hi) none,ty,pos,aft,grd⟩:Oper) (yielded ops a.tmps)=true:=by first|rfl|exact zAm rfl (zAO rfl (by first|rfl|(simp only[pe];rfl)))) (hT:Tryz.prog.underlying T=some .string:=by exact Tryz.underlying9) (hx:a.eval x=.string ⟨L.toArray⟩:=by exact rfl) (hl:a.eval lo=.int .i64 y:=by first|(simp only[pe];done)|(simp only[pe];rfl)) (hy:y=(i:Int):=by first|with_reducible exact hNC|with_reducible exact nc1 _|with_reducible exact nc2 _|with_reducible exact nc3 _|with_reducible exact nca _ _|with_reducible exact nc0 _|with_reducible exact ncl0|with_reducible exact ncl1|rfl) (hh:a.eval hi=.int .i64 z:=by first|(simp only[pe];done)|(simp only[pe];rfl)) (hz:z=(j:Int):=by first|with_reducible exact hNC|with_reducible exact nc1 _|with_reducible exact nc2 _|with_reducible exact nc3 _|with_reducible exact nca _ _|with_reducible exact nc0 _|with_reducible exact ncl0|with_reducible exact ncl1|rfl) (h1:i≤j:=by first|omega|(simp only[List.length_cons,List.length_nil];omega)) (h2:j≤L.length:=by first|omega|(simp only[List.length_cons,List.length_nil];omega)):wpList Tryz.prog ops Q ((⟨dst,.slice T x (some lo) (some hi) none,ty,pos,aft,grd⟩:Oper)::rest) a w :=
 zNe hg T x lo hi rfl hT hx hl hy hh hz h1 h2 h
theorem aF {T:TypeId} {x lo:Operand} {L:Str} {y:Int} {i:Nat} (h:wpList Tryz.prog ops Q rest (a.put dst (.string ⟨(L.drop i).toArray⟩)) w) (hg:Region.wanted (⟨dst,.slice T x (some lo) none none,ty,pos,aft,grd⟩:Oper) (yielded ops a.tmps)=true:=by first|rfl|exact zAm rfl (zAO rfl (by first|rfl|(simp only[pe];rfl)))) (hT:Tryz.prog.underlying T=some .string:=by exact Tryz.underlying9) (hx:a.eval x=.string ⟨L.toArray⟩:=by exact rfl) (hl:a.eval lo=.int .i64 y:=by first|(simp only[pe];done)|(simp only[pe];rfl)) (hy:y=(i:Int):=by first|with_reducible exact hNC|with_reducible exact nc1 _|with_reducible exact nc2 _|with_reducible exact nc3 _|with_reducible exact nca _ _|with_reducible exact nc0 _|with_reducible exact ncl0|with_reducible exact ncl1|rfl) (h1:i≤L.length:=by first|omega|(simp only[List.length_cons,List.length_nil];omega)):wpList Tryz.prog ops Q ((⟨dst,.slice T x (some lo) none none,ty,pos,aft,grd⟩:Oper)::rest) a w :=
 zN3 hg T x lo rfl hT hx hl hy h1 h
theorem aU {T:TypeId} {x hi:Operand} {L:Str} {y:Int} {i:Nat} (h:wpList Tryz.prog ops Q rest (a.put dst (.string ⟨(L.take i).toArray⟩)) w) (hg:Region.wanted (⟨dst,.slice T x none (some hi) none,ty,pos,aft,grd⟩:Oper) (yielded ops a.tmps)=true:=by first|rfl|exact zAm rfl (zAO rfl (by first|rfl|(simp only[pe];rfl)))) (hT:Tryz.prog.underlying T=some .string:=by exact Tryz.underlying9) (hx:a.eval x=.string ⟨L.toArray⟩:=by exact rfl) (hl:a.eval hi=.int .i64 y:=by first|(simp only[pe];done)|(simp only[pe];rfl)) (hy:y=(i:Int):=by first|with_reducible exact hNC|with_reducible exact nc1 _|with_reducible exact nc2 _|with_reducible exact nc3 _|with_reducible exact nca _ _|with_reducible exact nc0 _|with_reducible exact ncl0|with_reducible exact ncl1|rfl) (h1:i≤L.length:=by first|omega|(simp only[List.length_cons,List.length_nil];omega)):wpList Tryz.prog ops Q ((⟨dst,.slice T x none (some hi) none,ty,pos,aft,grd⟩:Oper)::rest) a w :=
 zQq hg T x hi rfl hT hx hl hy h1 h
theorem aE {T:TypeId} {x y:Operand} {U:TypeId} {L L':Str} (h:wpList Tryz.prog ops Q rest (a.put dst (.bool (L == L'))) w) (hg:Region.wanted (⟨dst,.binOp .eql T x y U,ty,pos,aft,grd⟩:Oper) (yielded ops a.tmps)=true:=by first|rfl|exact zAm rfl (zAO rfl (by first|rfl|(simp only[pe];rfl)))) (hx:a.eval x=.string ⟨L.toArray⟩:=by exact rfl) (hy:a.eval y=.string ⟨L'.toArray⟩:=by exact rfl) (hq:∀ w:World,(eqGuard .eql T x y (.string ⟨L.toArray⟩) (.string ⟨L'.toArray⟩)).run Tryz.prog w=.ok () w:=by exact fun _=>rfl):wpList Tryz.prog ops Q ((⟨dst,.binOp .eql T x y U,ty,pos,aft,grd⟩:Oper)::rest) a w :=
 zPZ hg T x y U rfl hx hy hq h
end
section
variable {M:Nat→Prop} {a:Act} {w w0:World} {l:List Res} {fn:Func} {R:Ending→World→Prop} {p q r:Tmp} {T:TypeId} {b i n:Nat} {cs:Array Value} {U:TypeId} {s:Nat→Nat} {v u:Value}
theorem xc (hres:fn.results=#[.cell p T]) (H:HoldG M w0 w l) (h:R (.returned (.agg cs)) w) (hp:a.tmps.getD p undef=.pointer (some ⟨b,0,none⟩):=by exact rfl) (hi:At l i (.blk b cs U):=by repeat (first|(with_reducible exact At.zero)|apply At.succ)) (hT:rowB Tryz.prog T n=true:=by first|(with_reducible exact zBx)|(with_reducible exact zCM)|(with_reducible exact zAh)|(with_reducible exact zAX)|(with_reducible exact zBT)) (hn:cs.size=n:=by rfl) (hd:a.defers=[]:=by exact rfl):bodyPost Tryz.prog fn R .ret a w:=zQi hres hp H hi hT hn hd h
theorem xct (hres:fn.results=#[.cell p T,.tmp q]) (H:HoldG M w0 w l) (h:R (.returned (.tuple #[.agg cs,v])) w) (hp:a.tmps.getD p undef=.pointer (some ⟨b,0,none⟩):=by exact rfl) (hq:a.tmps.getD q undef=v:=by first|rfl|(simp only[pl];rfl)) (hi:At l i (.blk b cs U):=by repeat (first|(with_reducible exact At.zero)|apply At.succ)) (hT:rowB Tryz.prog T n=true:=by first|(with_reducible exact zBx)|(with_reducible exact zCM)|(with_reducible exact zAh)|(with_reducible exact zAX)|(with_reducible exact zBT)) (hn:cs.size=n:=by rfl) (hd:a.defers=[]:=by exact rfl):bodyPost Tryz.prog fn R .ret a w:=zPE hres hp hq H hi hT hn hd h
theorem xctt (hres:fn.results=#[.cell p T,.tmp q,.tmp r]) (H:HoldG M w0 w l) (h:R (.returned (.tuple #[.agg cs,v,u])) w) (hp:a.tmps.getD p undef=.pointer (some ⟨b,0,none⟩):=by exact rfl) (hq:a.tmps.getD q undef=v:=by first|rfl|(simp only[pl];rfl)) (hr:a.tmps.getD r undef=u:=by first|rfl|(simp only[pl];rfl)) (hi:At l i (.blk b cs U):=by repeat (first|(with_reducible exact At.zero)|apply At.succ)) (hT:rowB Tryz.prog T n=true:=by first|(with_reducible exact zBx)|(with_reducible exact zCM)|(with_reducible exact zAh)|(with_reducible exact zAX)|(with_reducible exact zBT)) (hn:cs.size=n:=by rfl) (hd:a.defers=[]:=by exact rfl):bodyPost Tryz.prog fn R .ret a w:=zQP hres hp hq hr H hi hT hn hd h
theorem xcS (hres:fn.results=#[.cell p T]) (H:HoldG M w0 w l) (h:R (.returned (setV s)) w) (hp:a.tmps.getD p undef=.pointer (some ⟨b,0,none⟩):=by exact rfl) (hi:At l i (.blk b (setC s) U):=by repeat (first|(with_reducible exact At.zero)|apply At.succ)) (hT:rowB Tryz.prog T 4=true:=by with_reducible exact zAh) (hd:a.defers=[]:=by exact rfl):bodyPost Tryz.prog fn R .ret a w:=zQ0 hres hp H hi hT hd h
theorem xctS (hres:fn.results=#[.cell p T,.tmp q]) (H:HoldG M w0 w l) (h:R (.returned (.tuple #[setV s,v])) w) (hp:a.tmps.getD p undef=.pointer (some ⟨b,0,none⟩):=by exact rfl) (hq:a.tmps.getD q undef=v:=by first|rfl|(simp only[pl];rfl)) (hi:At l i (.blk b (setC s) U):=by repeat (first|(with_reducible exact At.zero)|apply At.succ)) (hT:rowB Tryz.prog T 4=true:=by with_reducible exact zAh) (hd:a.defers=[]:=by exact rfl):bodyPost Tryz.prog fn R .ret a w:=zQB hres hp hq H hi hT hd h
end
theorem ca {α:Type}:(∀ (a:α) (l r:List α),a::l++r=a::(l++r))∧∀ l:List α,[]++l=l:=⟨fun _ _ _=>rfl,fun _=>rfl⟩
theorem sc {α:Type}:(∀ (a b:α) (l:List α) (n:Nat),(a::l).set (n+1) b=a::l.set n b)∧∀ (a b:α) (l:List α),(a::l).set 0 b=b::l:=⟨fun _ _ _ _=>rfl,fun _ _ _=>rfl⟩
theorem ml {α β:Type} {f:α→β}:(∀ l:List α,l.toArray.map f=(l.map f).toArray)∧(∀ (a:α) (l:List α),(a::l).map f=f a::l.map f)∧([]:List α).map f=[]:=⟨fun _=>List.map_toArray ..,fun _ _=>rfl,rfl⟩
section
variable {ops:Array Oper} {dst:Option Tmp} {ty:TypeId} {pos:String} {aft:Array Edge} {grd:Option (Nat × Bool)} {rest:List Oper} {a:Act} {w:World} {Q:Exit→Act→World→Prop}
theorem gBS {x0:TypeId} {x1:Nat} {x2:Array (Nat × Operand)} (h:wpList Tryz.prog ops Q ((⟨dst,.buildSlice x0 x1 x2,ty,pos,aft,grd⟩:Oper)::rest) a w):wpList Tryz.prog ops Q ((⟨dst,.buildSlice x0 x1 x2,ty,pos,aft,grd⟩:Oper)::rest) a w:=h
theorem gIA {x0:TypeId} {x1 x2:Operand} (h:wpList Tryz.prog ops Q ((⟨dst,.indexAddr x0 x1 x2,ty,pos,aft,grd⟩:Oper)::rest) a w):wpList Tryz.prog ops Q ((⟨dst,.indexAddr x0 x1 x2,ty,pos,aft,grd⟩:Oper)::rest) a w:=h
theorem gCV {x0 x1:TypeId} {x2:Operand} (h:wpList Tryz.prog ops Q ((⟨dst,.convert x0 x1 x2,ty,pos,aft,grd⟩:Oper)::rest) a w):wpList Tryz.prog ops Q ((⟨dst,.convert x0 x1 x2,ty,pos,aft,grd⟩:Oper)::rest) a w:=h
theorem gSl {x0:TypeId} {x1:Operand} {x2 x3 x4:Option Operand} (h:wpList Tryz.prog ops Q ((⟨dst,.slice x0 x1 x2 x3 x4,ty,pos,aft,grd⟩:Oper)::rest) a w):wpList Tryz.prog ops Q ((⟨dst,.slice x0 x1 x2 x3 x4,ty,pos,aft,grd⟩:Oper)::rest) a w:=h
theorem gMS {x0:TypeId} {x1 x2:Operand} (h:wpList Tryz.prog ops Q ((⟨dst,.makeSlice x0 x1 x2,ty,pos,aft,grd⟩:Oper)::rest) a w):wpList Tryz.prog ops Q ((⟨dst,.makeSlice x0 x1 x2,ty,pos,aft,grd⟩:Oper)::rest) a w:=h
theorem gBd {x0:TypeId} {x1:Array (Nat × Operand)} (h:wpList Tryz.prog ops Q ((⟨dst,.build x0 x1,ty,pos,aft,grd⟩:Oper)::rest) a w):wpList Tryz.prog ops Q ((⟨dst,.build x0 x1,ty,pos,aft,grd⟩:Oper)::rest) a w:=h
end
theorem zMc (W:World):(Instr.build 30 #[]).run Tryz.prog W=.ok (zAl {kind:=0} nilS) W:=by kernel_rfl
theorem zQC (k:Int) (W:World):(Instr.build 30 #[(0,.int .i64 k)]).run Tryz.prog W=.ok (zAl {kind:=k} nilS) W:=by simp[go_sem];rfl
theorem zPS (k:Int) (s:Nat→Nat) (W:World):(Instr.build 30 #[(0,.int .i64 k),(1,setV s)]).run Tryz.prog W=.ok (zAl {kind:=k,set:=s} nilS) W:=by unfold setV;simp[go_sem];rfl
theorem zPj (k:Int) (p:Option Addr) (n c:Nat) (W:World):(Instr.build 30 #[(0,.int .i64 k),(2,.slice p n c)]).run Tryz.prog W=.ok (zAl {kind:=k} (.slice p n c)) W:=by simp[go_sem];rfl
theorem zQL (k g:Int) (p:Option Addr) (n c:Nat) (W:World):(Instr.build 30 #[(0,.int .i64 k),(2,.slice p n c),(6,.int .i64 g)]).run Tryz.prog W=.ok (zAl {kind:=k,group:=g} (.slice p n c)) W:=by simp[go_sem];rfl
theorem zP4 (k lo hi:Int) (z:Bool) (p:Option Addr) (n c:Nat) (W:World):(Instr.build 30 #[(0,.int .i64 k),(2,.slice p n c),(3,.int .i64 lo),(4,.int .i64 hi),(5,.bool z)]).run Tryz.prog W=.ok (zAl {kind:=k,lo:=lo,hi:=hi,lazy:=z} (.slice p n c)) W:=by simp[go_sem];rfl
theorem zP2 (x y z:Bool) (W:World):(Instr.build 23 #[(0,.bool x),(1,.bool y),(2,.bool z)]).run Tryz.prog W=.ok (zBq (x,y,z)) W:=by simp[go_sem];rfl
theorem zCQ (d:NodeD) (s:Value) (W:World):(Instr.buildSlice 28 1 #[(0,zAl d s)]).run Tryz.prog W=.ok (.slice (some ⟨W.heap.size,0,none⟩) 1 1) (W.alloc (.cells (zAR d s) 30)):=by kernel_rfl
section
variable {M:Nat→Prop} {ops:Array Oper} {dst:Option Tmp} {ty:TypeId} {pos:String} {aft:Array Edge} {grd:Option (Nat × Bool)} {rest:List Oper} {a:Act} {w w0:World} {l:List Res} {Q:Exit→Act→World→Prop}
theorem gES {U:TypeId} {x y:Operand} (h:wpList Tryz.prog ops Q ((⟨dst,.binOp .eql 27 x y U,ty,pos,aft,grd⟩:Oper)::rest) a w):wpList Tryz.prog ops Q ((⟨dst,.binOp .eql 27 x y U,ty,pos,aft,grd⟩:Oper)::rest) a w:=h
theorem nb0 (h:wpList Tryz.prog ops Q rest (a.put dst (zAl {kind:=0} nilS)) w) (hg:Region.wanted (⟨dst,.build 30 #[],ty,pos,aft,grd⟩:Oper) (yielded ops a.tmps)=true:=by first|rfl|exact zAm rfl (zAO rfl (by first|rfl|(simp only[pe];rfl)))):wpList Tryz.prog ops Q ((⟨dst,.build 30 #[],ty,pos,aft,grd⟩:Oper)::rest) a w :=
 zAi hg (by
  simp only[execOp,List.map_toArray,List.map_nil,Sem.run_bind,zMc];rfl) h
theorem nb1 {x:Operand} {k:Int} (h:wpList Tryz.prog ops Q rest (a.put dst (zAl {kind:=k} nilS)) w) (hg:Region.wanted (⟨dst,.build 30 #[(0,x)],ty,pos,aft,grd⟩:Oper) (yielded ops a.tmps)=true:=by first|rfl|exact zAm rfl (zAO rfl (by first|rfl|(simp only[pe];rfl)))) (h0:a.eval x=.int .i64 k:=by first|(simp only[pe];done)|(simp only[pe];rfl)):wpList Tryz.prog ops Q ((⟨dst,.build 30 #[(0,x)],ty,pos,aft,grd⟩:Oper)::rest) a w :=
 zAi hg (by
  simp only[execOp,List.map_toArray,List.map_cons,List.map_nil,h0,Sem.run_bind,zQC];rfl) h
theorem nbS {x y:Operand} {k:Int} {s:Nat→Nat} (h:wpList Tryz.prog ops Q rest (a.put dst (zAl {kind:=k,set:=s} nilS)) w) (hg:Region.wanted (⟨dst,.build 30 #[(0,x),(1,y)],ty,pos,aft,grd⟩:Oper) (yielded ops a.tmps)=true:=by first|rfl|exact zAm rfl (zAO rfl (by first|rfl|(simp only[pe];rfl)))) (h0:a.eval x=.int .i64 k:=by first|(simp only[pe];done)|(simp only[pe];rfl)) (h1:a.eval y=setV s:=by (try simp only[pe]);with_reducible rfl):wpList Tryz.prog ops Q ((⟨dst,.build 30 #[(0,x),(1,y)],ty,pos,aft,grd⟩:Oper)::rest) a w :=
 zAi hg (by
  simp only[execOp,List.map_toArray,List.map_cons,List.map_nil,h0,h1,Sem.run_bind,zPS];rfl) h
theorem nbK {x y:Operand} {k:Int} {p:Option Addr} {n c:Nat} (h:wpList Tryz.prog ops Q rest (a.put dst (zAl {kind:=k} (.slice p n c))) w) (hg:Region.wanted (⟨dst,.build 30 #[(0,x),(2,y)],ty,pos,aft,grd⟩:Oper) (yielded ops a.tmps)=true:=by first|rfl|exact zAm rfl (zAO rfl (by first|rfl|(simp only[pe];rfl)))) (h0:a.eval x=.int .i64 k:=by first|(simp only[pe];done)|(simp only[pe];rfl)) (h1:a.eval y=.slice p n c:=by first|(simp only[pe];done)|(simp only[pe];rfl)):wpList Tryz.prog ops Q ((⟨dst,.build 30 #[(0,x),(2,y)],ty,pos,aft,grd⟩:Oper)::rest) a w :=
 zAi hg (by
  simp only[execOp,List.map_toArray,List.map_cons,List.map_nil,h0,h1,Sem.run_bind,zPj];rfl) h
theorem nbG {x y z:Operand} {k g:Int} {p:Option Addr} {n c:Nat} (h:wpList Tryz.prog ops Q rest (a.put dst (zAl {kind:=k,group:=g} (.slice p n c))) w) (hg:Region.wanted (⟨dst,.build 30 #[(0,x),(2,y),(6,z)],ty,pos,aft,grd⟩:Oper) (yielded ops a.tmps)=true:=by first|rfl|exact zAm rfl (zAO rfl (by first|rfl|(simp only[pe];rfl)))) (h0:a.eval x=.int .i64 k:=by first|(simp only[pe];done)|(simp only[pe];rfl)) (h1:a.eval y=.slice p n c:=by first|(simp only[pe];done)|(simp only[pe];rfl)) (h2:a.eval z=.int .i64 g:=by first|(simp only[pe];done)|(simp only[pe];rfl)):wpList Tryz.prog ops Q ((⟨dst,.build 30 #[(0,x),(2,y),(6,z)],ty,pos,aft,grd⟩:Oper)::rest) a w :=
 zAi hg (by
  simp only[execOp,List.map_toArray,List.map_cons,List.map_nil,h0,h1,h2,Sem.run_bind,zQL];rfl) h
theorem nbR {x y u v z:Operand} {k lo hi:Int} {q:Bool} {p:Option Addr} {n c:Nat} (h:wpList Tryz.prog ops Q rest (a.put dst (zAl {kind:=k,lo:=lo,hi:=hi,lazy:=q} (.slice p n c))) w) (hg:Region.wanted (⟨dst,.build 30 #[(0,x),(2,y),(3,u),(4,v),(5,z)],ty,pos,aft,grd⟩:Oper) (yielded ops a.tmps)=true:=by first|rfl|exact zAm rfl (zAO rfl (by first|rfl|(simp only[pe];rfl)))) (h0:a.eval x=.int .i64 k:=by first|(simp only[pe];done)|(simp only[pe];rfl)) (h1:a.eval y=.slice p n c:=by first|(simp only[pe];done)|(simp only[pe];rfl)) (h2:a.eval u=.int .i64 lo:=by first|(simp only[pe];done)|(simp only[pe];rfl)) (h3:a.eval v=.int .i64 hi:=by first|(simp only[pe];done)|(simp only[pe];rfl)) (h4:a.eval z=.bool q:=by first|(simp only[pe];done)|(simp only[pe];rfl)):wpList Tryz.prog ops Q ((⟨dst,.build 30 #[(0,x),(2,y),(3,u),(4,v),(5,z)],ty,pos,aft,grd⟩:Oper)::rest) a w :=
 zAi hg (by
  simp only[execOp,List.map_toArray,List.map_cons,List.map_nil,h0,h1,h2,h3,h4,Sem.run_bind,zP4];rfl) h
theorem fb3 {x y z:Operand} {p q r:Bool} (h:wpList Tryz.prog ops Q rest (a.put dst (zBq (p,q,r))) w) (hg:Region.wanted (⟨dst,.build 23 #[(0,x),(1,y),(2,z)],ty,pos,aft,grd⟩:Oper) (yielded ops a.tmps)=true:=by first|rfl|exact zAm rfl (zAO rfl (by first|rfl|(simp only[pe];rfl)))) (h0:a.eval x=.bool p:=by first|(simp only[pe];done)|(simp only[pe];rfl)) (h1:a.eval y=.bool q:=by first|(simp only[pe];done)|(simp only[pe];rfl)) (h2:a.eval z=.bool r:=by first|(simp only[pe];done)|(simp only[pe];rfl)):wpList Tryz.prog ops Q ((⟨dst,.build 23 #[(0,x),(1,y),(2,z)],ty,pos,aft,grd⟩:Oper)::rest) a w :=
 zAi hg (by
  simp only[execOp,List.map_toArray,List.map_cons,List.map_nil,h0,h1,h2,Sem.run_bind,zP2];rfl) h
theorem qS {x y:Operand} {t:TypeId} {s u:Nat→Nat} {q:Bool} (h:wpList Tryz.prog ops Q rest (a.put dst (.bool q)) w) (hg:Region.wanted (⟨dst,.binOp .eql 27 x y t,ty,pos,aft,grd⟩:Oper) (yielded ops a.tmps)=true:=by first|rfl|exact zAm rfl (zAO rfl (by first|rfl|(simp only[pe];rfl)))) (hx:a.eval x=setV s:=by (try simp only[pe]);with_reducible rfl) (hy:a.eval y=setV u:=by (try simp only[pe]);with_reducible rfl) (hq:eqS s u=q:=by first|assumption|rfl):wpList Tryz.prog ops Q ((⟨dst,.binOp .eql 27 x y t,ty,pos,aft,grd⟩:Oper)::rest) a w :=
 zAi hg (by
  have he:=zIv s u w;rw[hq]at he;simp only[execOp,hx,hy];unfold setV
  simp[go_sem,he]) h
theorem aGb (H:HoldG M w0 w l) {T:TypeId} {x:Operand} {i b:Nat} {cs:Array Value} {U:TypeId} {k:Nat} {z q:Bool} (h:wpList Tryz.prog ops Q rest (a.put dst (.bool q)) w) (hg:Region.wanted (⟨dst,.load T x,ty,pos,aft,grd⟩:Oper) (yielded ops a.tmps)=true:=by first|rfl|exact zAm rfl (zAO rfl (by first|rfl|(simp only[pe];rfl)))) (hx:a.eval x=.pointer (some ⟨b,k,none⟩):=by exact rfl) (hi:At l i (.blk b cs U):=by repeat (first|(with_reducible exact At.zero)|apply At.succ)) (hT:oneB Tryz.prog T=true:=by first|(with_reducible exact zAW)|(with_reducible exact zAN)|(with_reducible exact zCf)|(with_reducible exact zAQ)|(with_reducible exact zAI)|(with_reducible exact zBU)|(with_reducible exact zAe)|(with_reducible exact zAk)|(with_reducible exact zAo)|(with_reducible exact one_u64)|(with_reducible exact zAa)|(with_reducible exact zE4)|(with_reducible exact one_p10)|(with_reducible exact one_ikind)|(with_reducible exact one_ints)|(with_reducible exact one_insts)|(with_reducible exact one_bools)|(with_reducible exact one_bytes)) (hv:cs[k]?=some (.bool z):=by first|(with_reducible exact wg0 _)|(with_reducible exact wg1 _)|(with_reducible exact wg2 _)|(with_reducible exact wg3 _)|(with_reducible exact wg4 _)|(with_reducible exact wg5 _)|(with_reducible exact wg6 _)|(with_reducible exact wg7 _)|(with_reducible exact wg8 _)|(with_reducible exact wg9 _)|(with_reducible exact wg10 _)|(with_reducible exact wg11 _)|(with_reducible exact wg12 _)|(with_reducible exact wg13 _)|(with_reducible exact wg14 _)|(with_reducible exact wg15 _)|(with_reducible exact wg16 _)|(with_reducible exact fg0 _)|(with_reducible exact fg1 _)|(with_reducible exact fg2 _)|(with_reducible exact ng0 _ _)|(with_reducible exact ng1 _ _)|(with_reducible exact ng2 _ _)|(with_reducible exact ng3 _ _)|(with_reducible exact ng4 _ _)|(with_reducible exact ng5 _ _)|(with_reducible exact ng6 _ _)|(with_reducible exact ng7 _ _)|(with_reducible exact ng8 _ _)|(with_reducible exact ng9 _ _)|rfl) (hq:z=q:=by assumption):wpList Tryz.prog ops Q ((⟨dst,.load T x,ty,pos,aft,grd⟩:Oper)::rest) a w :=
 by subst hq;exact zAc hg T x rfl hx H hi hT hv h
theorem aVn (H:HoldG M w0 w l) {T:TypeId} {x:Operand} {i b:Nat} {d:NodeD} {s:Value} {U:TypeId} (h:wpList Tryz.prog ops Q rest (a.put dst (setV d.set)) w) (hg:Region.wanted (⟨dst,.load T x,ty,pos,aft,grd⟩:Oper) (yielded ops a.tmps)=true:=by first|rfl|exact zAm rfl (zAO rfl (by first|rfl|(simp only[pe];rfl)))) (hx:a.eval x=.pointer (some ⟨b,1,none⟩):=by exact rfl) (hi:At l i (.blk b (zAR d s) U):=by repeat (first|(with_reducible exact At.zero)|apply At.succ)) (hT:rowB Tryz.prog T 4=true:=by with_reducible exact zAh):wpList Tryz.prog ops Q ((⟨dst,.load T x,ty,pos,aft,grd⟩:Oper)::rest) a w :=
 zD5 hg T x rfl hx H hi (setC d.set) hT rfl h
end
theorem cht {M:Nat→Prop} {P:Program} {f:FuncId} {args:Array Value} {w w0:World} {l:List Res} {t:Tree} {G:Nat→Prop} {R:Ending→World→Prop} (c:Calls P f args w fun e w'=>zDg w G t e w'∧Below w.heap.size w w') (H:HoldG M w0 w l) (hG:Still l G)
  (k:∀ p n F w',(∀ b,F b→w0.heap.size≤b∨G b)→HoldG M w0 w' (l++[.kn F (fun V=>ForestR V F p n t.kids)])→R (.returned (zAl t.d (.slice p t.kids.length n))) w'):Calls P f args w R:=c.mono fun _ w' h=>by
 obtain⟨⟨p,n,F,rfl,hs,hF⟩,hb⟩:=h;exact k p n F w' (fun b h=>(hF b h).2.imp (fun h=>Nat.le_trans H.keep.size h) id) (H.learn hb hG hF (fun V hV=>hs.kept hV))
end
section
open Go.RowKit Go.Shelf
attribute [local go_sem] Oper.semAt_some
theorem zNz (x j:Nat):x / 2 ^ (j+1)=x / 2 ^ j / 2:=by rw[Nat.pow_succ,Nat.div_div_eq_div_mul]
theorem zOA (x j:Nat):(((x:Int) / 2 ^ j).tmod 2 == 1)=x.testBit j:=by
 have e:(x:Int) / 2 ^ j=((x / 2 ^ j:Nat):Int):=by push_cast;rfl
 rw[e,Int.tmod_eq_emod_of_nonneg (Int.natCast_nonneg _),Bool.eq_iff_iff,← zJ9];simp;omega
theorem zEo (s:Nat→Nat) (hs:zAf s) (b:Nat) (hb:b<256) (w:World) :
  Calls Tryz.prog 166 #[setV s,.int .u8 b] w fun e w'=>e=.returned (.bool (hasB s b))∧Below w.heap.size w w':=by
 obtain⟨r,hr,hr1,hr2,h⟩:=zFp hb;have hlt:s (b / 64)<2 ^ 64:=hs _ (by omega)
 unfold setV;rcases h with ⟨h1,hq⟩|⟨h1,hq⟩|⟨h1,hq⟩|⟨h1,hq⟩
 all_goals
  rw[h1]at hlt;have H1:=Lib.hid h1;clear h1;have HR:=Lib.hid hr1;clear hr1
  go_enter Tryz.func166,Tryz.ntmps166
  go_wp2_with fail
  go_loop [5,6] (fun n i=>∃ j:Nat,j≤r∧i=.int .u8 j∧n=.int .u64 ((s (b / 64) / 2 ^ j:Nat):Int)) (fun _ i=>r - (intOf i).toNat)
  case atStart=>exact⟨0,by omega,rfl,by rw[H1.out];simp⟩
  case round =>
   obtain⟨j,hj,rfl,rfl⟩:=hrel;rw[H1.out]
   by_cases hlt2:j<r
   ·obtain⟨y,hy⟩:∃ y,y=s (b / 64) / 2 ^ j:=⟨_,rfl⟩;have hn:=zNz (s (b / 64)) j;rw[H1.out]at hn hy;rw[← hy]at hn ⊢;have hyb:y≤18446744073709551615:=by have:=Nat.div_le_self (s (b / 64)) (2 ^ j);rw[H1.out]at this;rw[hy];omega
    have HN:=Lib.hid hn;clear hn;have HY:=Lib.hid hy;clear hy
    go_wp2
    go_round
    case rel=>exact⟨j+1,by omega,by go_num,by rw[HN.out];first|rfl|(congr 1)⟩
    case measure=>simp[intOf];omega
   ·obtain rfl:j=r:=by omega
    have ht:=zJ9 (s (b / 64)) j;rw[H1.out]at ht;have HT:=Lib.hid ht;clear ht;have hyb:=Nat.div_le_self (s (b / 64)) (2 ^ j);rw[H1.out]at hyb
    go_wp2
    go_ret;refine⟨?_,(Below.refl _ _).alloc (Nat.le_refl _) _⟩;unfold hasB;rw[H1.out,HR.out];exact congrArg (fun x=>Ending.returned (Value.bool x)) (zOA _ _)
theorem zQ7 {x r:Nat} (hx:x<2 ^ 64) (hr:r<64) (h:x.testBit r=false):x+2 ^ r=x ||| 2 ^ r:=by
 have hr2:2 ^ r<2 ^ 64:=Nat.pow_lt_pow_right (by omega) hr
 have e:=BitVec.add_eq_or_of_and_eq_zero (BitVec.ofNat 64 x) (BitVec.ofNat 64 (2 ^ r)) (by
  apply BitVec.eq_of_getLsbD_eq;intro i hi;simp only[BitVec.getLsbD_and,BitVec.getLsbD_ofNat,BitVec.getLsbD_zero,Nat.testBit_two_pow]
  by_cases e:r=i
  ·subst e;simp[h]
  ·simp[e])
 have e2:=congrArg BitVec.toNat e;rw[BitVec.toNat_add,BitVec.toNat_or,BitVec.toNat_ofNat,BitVec.toNat_ofNat,Nat.mod_eq_of_lt hx,Nat.mod_eq_of_lt hr2]at e2;have hor:x ||| 2 ^ r<2 ^ 64:=Nat.or_lt_two_pow hx hr2
 have hle:x+2 ^ r<2 ^ 64+2 ^ 64:=by omega
 by_cases hc:x+2 ^ r<2 ^ 64
 ·rwa [Nat.mod_eq_of_lt hc]at e2
 ·exfalso
  have h1:(x+2 ^ r) % 2 ^ 64=x+2 ^ r - 2 ^ 64:=by omega
  rw[h1]at e2;have h2:x≤x ||| 2 ^ r:=Nat.left_le_or
  omega
theorem zOl {s:Nat→Nat} (hs:zAf s) {b:Nat} (h:hasB s b=true):setV s=setV (addS s b) :=
 zFP hs (zEd hs b) fun c _=>by
  rw[zFH]
  by_cases e:c=b
  ·subst e;simp[h]
  ·simp[e]
theorem zEN (s:Nat→Nat) (hs:zAf s) (b:Nat) (hb:b<256) (w:World) :
  Calls Tryz.prog 167 #[setV s,.int .u8 b] w fun e w'=>e=.returned (setV (addS s b))∧Below w.heap.size w w':=by
 obtain⟨r,hr,hr1,hr2,h⟩:=zFp hb;obtain⟨q,hq4,hq,hqi⟩:∃ q:Nat,q<4∧b / 64=q∧(b:Int) / 64=q:=⟨b / 64,by omega,rfl,by omega⟩
 clear h;have h2r:∀ j,j≤r→2 ^ j≤9223372036854775808:=fun j hj=>by
  have:2 ^ j≤2 ^ 63:=Nat.pow_le_pow_right (by omega) (by omega)
  omega
 rw[show setV s=.agg #[.int .u64 (s 0),.int .u64 (s 1),.int .u64 (s 2),.int .u64 (s 3)] from rfl]
 have b1:SBox (w.alloc (.cells (setC s) 27)) w.heap.size 27 s:=SBox.new w _ _;have b2:SBox ((w.alloc (.cells (setC s) 27)).alloc (.cells (setC zAC) 27)) w.heap.size 27 s:=b1.alloc _;have e2:SBox ((w.alloc (.cells (setC s) 27)).alloc (.cells (setC zAC) 27)) (w.heap.size+1) 27 zAC:=by have:=SBox.new (w.alloc (.cells (setC s) 27)) 27 zAC;rwa [World.size_alloc]at this
 have bel:Below w.heap.size w ((w.alloc (.cells (setC s) 27)).alloc (.cells (setC zAC) 27)):=((Below.refl _ w).alloc (Nat.le_refl _) _).alloc (by simp) _
 have HS:=Lib.hid hs;clear hs;have HQ:=Lib.hid hq;clear hq;have HR:=Lib.hid hr1;clear hr1;have H2R:=Lib.hid h2r;clear h2r;clear b1
 go_enter Tryz.func167,Tryz.ntmps167
 go_wp2_with fail
 refine(zEo s HS.out b hb _).mono ?_
 rintro e w1 ⟨rfl,bel1⟩;have sz1:=bel1.size;simp at sz1;have b3:=b2.below bel1 b2.lt;have e3:=e2.below bel1 e2.lt;have bel2:Below w.heap.size w w1:=bel.trans (bel1.mono (by simp;omega))
 clear b2 e2 bel bel1;have f0:=e3.frozen 0;have f1:=e3.frozen 1;have f2:=e3.frozen 2;have f3:=e3.frozen 3;have r0:=e3.cell (k:=0) (by omega);have r1:=e3.cell (k:=1) (by omega);have r2:=e3.cell (k:=2) (by omega);have r3:=e3.cell (k:=3) (by omega)
 have E3:=Lib.hid e3;clear e3;have BEL2:=Lib.hid bel2;clear bel2
 cases hh:hasB s b with
 | true =>
  have HH:=Lib.hid hh;clear hh;have c0:=b3.cell (k:=0) (by omega);have c1:=b3.cell (k:=1) (by omega);have c2:=b3.cell (k:=2) (by omega);have c3:=b3.cell (k:=3) (by omega)
  clear b3
  go_wp2
  have b4:=E3.out.set4 s;have g0:=b4.cell (k:=0) (by omega);have g1:=b4.cell (k:=1) (by omega);have g2:=b4.cell (k:=2) (by omega);have g3:=b4.cell (k:=3) (by omega)
  exact bodyPost_ret (v:=setV s) (by unfold setV;simp[results,Tryz.results167,go_sem,g0,g1,g2,g3]) rfl ⟨by rw[zOl HS.out HH.out],zA4 BEL2.out (by omega) _ _ _ _⟩
 | false =>
  have HH:=Lib.hid hh;clear hh;have B3:=Lib.hid b3;have k1:=b3.cell hq4;have k2:=b3.frozen q;clear b3
  go_wp2_with fail
  go_loop [5,6] (fun n i=>∃ j:Nat,j≤r∧i=.int .u8 j∧n=.int .u64 ((2 ^ j:Nat):Int)) (fun _ i=>r - (intOf i).toNat)
  case atStart=>exact⟨0,by omega,rfl,rfl⟩
  case round =>
   obtain⟨j,hj,rfl,rfl⟩:=hrel
   by_cases hlt:j<r
   ·have hp:=H2R.out (j+1) (by omega)
    rw[Nat.pow_succ]at hp;have hs2:2 ^ (j+1)=2 ^ j * 2:=Nat.pow_succ ..;have HS2:=Lib.hid hs2;clear hs2;obtain⟨y,hy⟩:∃ y,y=2 ^ j:=⟨_,rfl⟩;rw[← hy]at hp HS2 ⊢;clear hy;have hw:IntKind.u64.wrap (2 * (y:Int))=2 * (y:Int):=by rw[IntKind.wrap_u64];omega
    go_wp2
    go_round
    case rel=>exact⟨j+1,by omega,by go_num,by rw[HS2.out];go_num⟩
    case measure=>simp[intOf];omega
   ·obtain rfl:j=r:=by omega
    have hadd:=zQ7 (HS.out q hq4) hr (by have:=HH.out;unfold hasB at this;rwa [HQ.out,HR.out]at this)
    have hp:=H2R.out j (Nat.le_refl _);have hor:s q ||| 2 ^ j<2 ^ 64:=Nat.or_lt_two_pow (HS.out q hq4) (by omega)
    rw[← hadd]at hor;have HADD:=Lib.hid hadd;clear hadd;obtain⟨y,hy⟩:∃ y,y=2 ^ j:=⟨_,rfl⟩;rw[← hy]at hp hor HADD ⊢;have HY:=Lib.hid hy;clear hy;have hw:IntKind.u64.wrap (((s q:Nat):Int)+(y:Int))=((s q+y:Nat):Int):=by rw[IntKind.wrap_u64];omega
    have b5:SBox (w1.setCell ⟨w.heap.size,q,none⟩ (.int .u64 (((s q:Nat):Int)+(y:Int)))) w.heap.size 27 (addS s b):=by
     have h1:=B3.out.set hq4 (s q+y);rw[HADD.out,HY.out,zJg HQ.out HR.out,← HY.out,← HADD.out]at h1
     simpa using h1
    have e5:SBox (w1.setCell ⟨w.heap.size,q,none⟩ (.int .u64 (((s q:Nat):Int)+(y:Int)))) (w.heap.size+1) 27 zAC:=E3.out.other (by omega) _ _
    have bel5:Below w.heap.size w (w1.setCell ⟨w.heap.size,q,none⟩ (.int .u64 (((s q:Nat):Int)+(y:Int)))):=BEL2.out.setCell (p:=⟨w.heap.size,q,none⟩) (Nat.le_refl _) _;have B5:=Lib.hid bel5;clear bel5;have c0:=b5.cell (k:=0) (by omega);have c1:=b5.cell (k:=1) (by omega);have c2:=b5.cell (k:=2) (by omega);have c3:=b5.cell (k:=3) (by omega)
    clear f0 f1 f2 f3 r0 r1 r2 r3 B3 E3;have f0:=e5.frozen 0;have f1:=e5.frozen 1;have f2:=e5.frozen 2;have f3:=e5.frozen 3;have r0:=e5.cell (k:=0) (by omega);have r1:=e5.cell (k:=1) (by omega);have r2:=e5.cell (k:=2) (by omega);have r3:=e5.cell (k:=3) (by omega)
    clear b5;have E5:=Lib.hid e5;clear e5
    go_wp2
    have b4:=E5.out.set4 (addS s b);have g0:=b4.cell (k:=0) (by omega);have g1:=b4.cell (k:=1) (by omega);have g2:=b4.cell (k:=2) (by omega);have g3:=b4.cell (k:=3) (by omega)
    exact bodyPost_ret (v:=setV (addS s b)) (by unfold setV;simp[results,Tryz.results167,go_sem,g0,g1,g2,g3]) rfl ⟨rfl,zA4 B5.out (by omega) _ _ _ _⟩
theorem zKf (v:Value) (xs:List Int) (hx:∀ x ∈ xs,0≤x∧x≤255) (w:World) (h:Rd w w.heap.size v (xs.map (.int .u8))) :
  Calls Tryz.prog 141 #[v] w fun e w'=>e=.returned (setV (ofS xs))∧Below w.heap.size w w':=by
 have b1:SBox (w.alloc (.cells (setC zAC) 27)) w.heap.size 27 zAC:=SBox.new w _ _;have b2:SBox ((w.alloc (.cells (setC zAC) 27)).alloc (.cells (setC zAC) 27)) w.heap.size 27 zAC:=b1.alloc _;have e2:SBox ((w.alloc (.cells (setC zAC) 27)).alloc (.cells (setC zAC) 27)) (w.heap.size+1) 27 zAC:=by have:=SBox.new (w.alloc (.cells (setC zAC) 27)) 27 zAC;rwa [World.size_alloc]at this
 have bel:Below w.heap.size w ((w.alloc (.cells (setC zAC) 27)).alloc (.cells (setC zAC) 27)):=((Below.refl _ w).alloc (Nat.le_refl _) _).alloc (by simp) _
 clear b1;have hl:xs.length≤9223372036854775807:=by simpa using h.len
 obtain⟨p,cap,rfl⟩:∃ p cap,v=.slice p xs.length cap:=by rcases h with ⟨⟨q,h⟩,h'⟩|⟨b,off,cap,h,_⟩;(obtain rfl:xs=[]:=by simpa using h');exact⟨_,_,h⟩;exact⟨some ⟨b,off,none⟩,cap,by simpa using h⟩
 have H:=Lib.hid h;clear h;have HX:=Lib.hid hx;clear hx
 go_enter Tryz.func141,Tryz.ntmps141
 go_wp2_with fail
 go_loopw [4] (fun i wr=>∃ k:Nat,k≤xs.length∧i=.int .i64 k∧Hid (SBox wr (w.heap.size+1) 27 (ofS (xs.take k))∧SBox wr w.heap.size 27 zAC∧Below w.heap.size w wr)) (fun i _=>xs.length - (intOf i).toNat)
 case atStart=>exact⟨0,by omega,rfl,e2,b2,bel⟩
 case round =>
  clear e2 b2 bel;obtain⟨k,hk,rfl,G⟩:=hrel
  by_cases hlt:k<xs.length
  ·obtain⟨b0,off,rfl,hb0,hcell⟩:∃ b0 off,p=some ⟨b0,off,none⟩∧b0<w.heap.size∧w.cell? ⟨b0,off+k,none⟩=some (.int .u8 xs[k]):=by
    rcases H.out with ⟨⟨q,h⟩,h'⟩|⟨b,off,cap,h,h1,_,_,h4⟩
    ·simp at h';subst h';simp at hlt
    ·injection h with h2 _ _;exact⟨b,off,h2,h1,by have:=h4 k (by simpa using hlt);simpa using this⟩
   have hxk:=HX.out xs[k] (List.getElem_mem hlt);have hnext:ofS (xs.take (k+1))=addS (ofS (xs.take k)) xs[k].toNat:=by rw[List.take_succ_eq_append_getElem hlt,zIS]
   have hS:zAf (ofS (xs.take k)):=zBb _;have HN:=Lib.hid hnext;clear hnext;have HS:=Lib.hid hS;clear hS
   generalize ofS (xs.take k)=S at G HN HS
   generalize xs[k]=x at hcell hxk HN
   obtain⟨hx0,hx1⟩:=hxk;obtain⟨x,rfl⟩:∃ n:Nat,x=n:=⟨x.toNat,by omega⟩
   have HC:=Lib.hid hcell;clear hcell
   go_upto_region 5 with fail
   refine wr_ 6 [fun v _=>v=setV S,fun v _=>v=.slice (some ⟨b0,off,none⟩) xs.length cap,fun v _=>v=.int .i64 (k:Int),fun v _=>v=.pointer (some ⟨b0,off+k,none⟩),fun v _=>v=.int .u8 (x:Int),fun v _=>v=setV (addS S x)] ?ob ?en
   case ob =>
    refine⟨?_,?_,?_,?_,?_,?_,trivial⟩<;>intro A W h
    ·exact zDX (s:=S) rfl rfl (h.f 3) (G.out.1.below h.below G.out.1.lt) (by decide)
    ·exact zAL rfl rfl (h.f 0)
    ·exact zAL rfl rfl (h.f 4)
    ·exact zFi (sz:=1) Tryz.underlying145 (fun w=>by kernel_rfl) rfl rfl (h.d 1 12) (h.d 2 13) (by omega) (by omega)
    ·(have e14:A.eval (.tmp 14)=.pointer (some ⟨b0,off+k,none⟩):=h.d 3 14;refine zAB rfl ?_;simp only[execOp,e14];(have q:=((G.out.2.2.trans (h.below.mono G.out.2.2.size)).cell (p:=⟨b0,off+k,none⟩) hb0).trans HC.out;simp[go_sem,q]))
    ·exact zBB rfl rfl (enters_of Tryz.func167 (by kernel_rfl) rfl) (zE9 ⟨(h.d 0 11),(h.d 4 15)⟩) (zEN S HS.out x (by omega) W)
   case en =>
    intro vals W hbw hv _;simp only[fa,Nat.reduceAdd];rw[e_ hv 0,e_ hv 1,e_ hv 2,e_ hv 3,e_ hv 4,e_ hv 5];clear hv
    try simp only[pl]
    have s1:=G.out.1.below hbw G.out.1.lt;have s2:=G.out.2.1.below hbw G.out.2.1.lt;have s3:=G.out.2.2.trans (hbw.mono G.out.2.2.size);have f0:=s1.frozen 0;have f1:=s1.frozen 1;have f2:=s1.frozen 2;have f3:=s1.frozen 3;have r0:=s1.cell (k:=0) (by omega);have r1:=s1.cell (k:=1) (by omega);have r2:=s1.cell (k:=2) (by omega);have r3:=s1.cell (k:=3) (by omega)
    have S1:=Lib.hid s1;clear s1;have S2:=Lib.hid s2;clear s2;have S3:=Lib.hid s3;clear s3;have sz:=G.out.1.lt;clear hbw G;rw[show setV (addS S x)=.agg #[.int .u64 (addS S x 0),.int .u64 (addS S x 1),.int .u64 (addS S x 2),.int .u64 (addS S x 3)] from rfl]
    go_wp2_with fail
    go_roundw
    case rel=>exact⟨k+1,by omega,by go_num,by rw[HN.out];exact S1.out.set4 _,(((S2.out.other (by omega) _ _).other (by omega) _ _).other (by omega) _ _).other (by omega) _ _,zA4 S3.out (by omega) _ _ _ _⟩
    case measure=>simp[intOf];omega
  ·obtain rfl:k=xs.length:=by omega
   have ⟨s1,s2,s3⟩:=G.out;rw[List.take_length]at s1;clear G;have f0:=s2.frozen 0;have f1:=s2.frozen 1;have f2:=s2.frozen 2;have f3:=s2.frozen 3;have r0:=s2.cell (k:=0) (by omega);have r1:=s2.cell (k:=1) (by omega);have r2:=s2.cell (k:=2) (by omega);have r3:=s2.cell (k:=3) (by omega)
   have c0:=s1.cell (k:=0) (by omega);have c1:=s1.cell (k:=1) (by omega);have c2:=s1.cell (k:=2) (by omega);have c3:=s1.cell (k:=3) (by omega)
   clear s1;have S2:=Lib.hid s2;clear s2;have S3:=Lib.hid s3;clear s3
   go_wp2
   have b4:=S2.out.set4 (ofS xs);have g0:=b4.cell (k:=0) (by omega);have g1:=b4.cell (k:=1) (by omega);have g2:=b4.cell (k:=2) (by omega);have g3:=b4.cell (k:=3) (by omega)
   exact bodyPost_ret (v:=setV (ofS xs)) (by unfold setV;simp[results,Tryz.results141,go_sem,g0,g1,g2,g3]) rfl ⟨rfl,zA4 S3.out (by omega) _ _ _ _⟩
def UTo (L:List (Nat→Nat)) (b i:Nat) (S:Nat→Nat):Prop:=zAf S∧∀ c,c<256→hasB S c=((decide (c<b)&&L.any (fun t=>hasB t c)) || (decide (c=b)&&(L.take i).any (fun t=>hasB t c)))
theorem UTo.start (L:List (Nat→Nat)):UTo L 0 0 zAC:=⟨zBM,fun c _=>by simp[zEl]⟩
theorem UTo.hit {L:List (Nat→Nat)} {b i:Nat} {S:Nat→Nat} (h:UTo L b i S) (hi:i<L.length) (hb:hasB L[i] b=true):UTo L b (i+1) (addS S b) :=
 ⟨zEd h.1 b,fun c hc=>by
  rw[zFH,h.2 c hc,List.take_succ_eq_append_getElem hi,List.any_append]
  by_cases e:c=b
  ·subst e;simp[hb]
  ·simp[e]⟩
theorem UTo.miss {L:List (Nat→Nat)} {b i:Nat} {S:Nat→Nat} (h:UTo L b i S) (hi:i<L.length) (hb:hasB L[i] b=false):UTo L b (i+1) S :=
 ⟨h.1,fun c hc=>by
  rw[h.2 c hc,List.take_succ_eq_append_getElem hi,List.any_append]
  by_cases e:c=b
  ·subst e;simp[hb]
  ·simp[e]⟩
theorem UTo.next {L:List (Nat→Nat)} {b:Nat} {S:Nat→Nat} (h:UTo L b L.length S):UTo L (b+1) 0 S :=
 ⟨h.1,fun c hc=>by
  rw[h.2 c hc,List.take_length]
  by_cases e:c=b
  ·subst e;simp
  ·by_cases e2:c<b
   ·simp[e,e2,Nat.lt_succ_of_lt e2]
   ·simp[e,e2,show ¬ c<b+1 from by omega]⟩
theorem UTo.done {L:List (Nat→Nat)} {S:Nat→Nat} (hL:∀ t ∈ L,zAf t) (h:UTo L 256 0 S):setV S=setV (zAs L) :=
 zFP h.1 (zBX hL) fun c hc=>by rw[h.2 c hc,zJV];simp[hc]
def MTo (L:List (Nat→Nat)) (b:Nat) (S:Nat→Nat):Prop:=zAf S∧∀ c,c<256→hasB S c=(decide (c<b)&&L.all (fun t=>hasB t c))
theorem MTo.start (L:List (Nat→Nat)):MTo L 0 zAC:=⟨zBM,fun c _=>by simp[zEl]⟩
theorem MTo.hit {L:List (Nat→Nat)} {b:Nat} {S:Nat→Nat} (h:MTo L b S) (hb:L.all (fun t=>hasB t b)=true):MTo L (b+1) (addS S b) :=
 ⟨zEd h.1 b,fun c hc=>by
  rw[zFH,h.2 c hc]
  by_cases e:c=b
  ·subst e;rw[hb];simp
  ·by_cases e2:c<b
   ·simp[e,e2,Nat.lt_succ_of_lt e2]
   ·simp[e,e2,show ¬ c<b+1 from by omega]⟩
theorem MTo.miss {L:List (Nat→Nat)} {b:Nat} {S:Nat→Nat} (h:MTo L b S) (hb:L.all (fun t=>hasB t b)=false):MTo L (b+1) S :=
 ⟨h.1,fun c hc=>by
  rw[h.2 c hc]
  by_cases e:c=b
  ·subst e;rw[hb];simp
  ·by_cases e2:c<b
   ·simp[e2,Nat.lt_succ_of_lt e2]
   ·simp[e2,show ¬ c<b+1 from by omega]⟩
theorem MTo.done {L:List (Nat→Nat)} {S:Nat→Nat} (hL:∀ t ∈ L,zAf t) (h:MTo L 256 S):setV S=setV (zGR L) :=
 zFP h.1 (zKJ hL) fun c hc=>by rw[h.2 c hc,zO3];simp[hc]
theorem zOQ {L:List (Nat→Nat)} {b i:Nat} (hi:i<L.length):(L.take (i+1)).all (fun t=>hasB t b)=((L.take i).all (fun t=>hasB t b)&&hasB L[i] b):=by
 rw[List.take_succ_eq_append_getElem hi,List.all_append];simp
theorem zGN {ops:Array Oper} {o:Oper} {a:Act} {w:World} {x:Operand} {B off:Nat} {s:Nat→Nat} {D:Prop} (hg:Region.wanted o (yielded ops a.tmps)=true) (hop:o.op=Op.load 27 x)
  (hx:a.eval x=.pointer (some ⟨B,off,none⟩)) (hB:∀ k,k<4→w.cell? ⟨B,off+k,none⟩=some (.int .u64 (s k))) (hD:¬ D):zBY Tryz.prog ops o a w (fun v _=>v=setV s∧(D→w.heap.size≤blk v)):=by
 have k0:=hB 0 (by omega);have k1:=hB 1 (by omega);have k2:=hB 2 (by omega);have k3:=hB 3 (by omega)
 rw[Nat.add_zero]at k0;refine zCm hg (v:=setV s) (w':=w) ?_ (Below.refl _ w) ⟨rfl,fun h=>(hD h).elim⟩
 unfold setV;simp only[execOp,hop,hx];simp[go_sem,k0,k1,k2,k3]
theorem zId (lo hi:Nat) (hlo:lo≤255) (hhi:hi≤255) (w:World) :
  Calls Tryz.prog 140 #[.int .u8 lo,.int .u8 hi] w fun e w'=>e=.returned (setV (zAV lo (hi+1 - lo)))∧Below w.heap.size w w':=by
 have b1:SBox (w.alloc (.cells (setC zAC) 27)) w.heap.size 27 zAC:=SBox.new w _ _;have b2:SBox ((w.alloc (.cells (setC zAC) 27)).alloc (.cells (setC zAC) 27)) w.heap.size 27 zAC:=b1.alloc _;have e2:SBox ((w.alloc (.cells (setC zAC) 27)).alloc (.cells (setC zAC) 27)) (w.heap.size+1) 27 zAC:=by have:=SBox.new (w.alloc (.cells (setC zAC) 27)) 27 zAC;rwa [World.size_alloc]at this
 have bel:Below w.heap.size w ((w.alloc (.cells (setC zAC) 27)).alloc (.cells (setC zAC) 27)):=((Below.refl _ w).alloc (Nat.le_refl _) _).alloc (by simp) _
 clear b1
 go_enter Tryz.func140,Tryz.ntmps140
 go_wp2_with fail
 go_loopw [6] (fun i wr=>∃ m:Nat,m≤hi+1 - lo∧i=.int .i64 ((lo+m:Nat):Int)∧Hid (SBox wr (w.heap.size+1) 27 (zAV lo m)∧SBox wr w.heap.size 27 zAC∧Below w.heap.size w wr∧True)) (fun i _=>256 - (intOf i).toNat)
 case atStart=>exact⟨0,by omega,rfl,e2,b2,bel,trivial⟩
 case round =>
  clear e2 b2 bel;obtain⟨m,hm,rfl,H⟩:=hrel;obtain⟨n,hn⟩:∃ n,lo+m=n:=⟨_,rfl⟩;rw[hn];have HN:=Lib.hid hn;clear hn;have hn2:n≤hi+1∨n=lo:=by have:=HN.out;omega
  by_cases hlt:n≤hi
  ·have hnext:=zG7 lo m;rw[HN.out]at hnext;have hS:zAf (zAV lo m):=zBb _;have Hnext:=Lib.hid hnext;clear hnext;have HS:=Lib.hid hS;clear hS
   generalize zAV lo m=S at H Hnext HS
   go_upto_region 5 with fail
   refine ws_ 4 [fun v _=>v=setV S,fun v _=>v=.int .i64 (n:Int),fun v _=>v=.int .u8 (n:Int),fun v _=>v=setV (addS S n)] ?ob ?en
   case ob =>
    refine⟨?_,?_,?_,?_,trivial⟩<;>intro A W h
    ·exact zDX (s:=S) rfl rfl (h.f 5) (H.out.1.below h.below H.out.1.lt) (by decide)
    ·exact zAL rfl rfl (h.f 6)
    ·(have e16:A.eval (.tmp 16)=.int .i64 (n:Int):=h.d 1 16;refine zAB rfl ?_;simp only[execOp,e16];(simp[go_sem]<;>(rw[IntKind.wrap_u8];omega)))
    ·exact zBB rfl rfl (enters_of Tryz.func167 (by kernel_rfl) rfl) (zE9 ⟨(h.d 0 15),(h.d 2 17)⟩) (zEN S HS.out n (by omega) W)
   case en =>
    intro vals W hbw hv _;simp only[fa,Nat.reduceAdd];rw[e_ hv 0,e_ hv 1,e_ hv 2,e_ hv 3];clear hv
    try simp only[pl]
    have s1:=H.out.1.below hbw H.out.1.lt;have s2:=H.out.2.1.below hbw H.out.2.1.lt;have s3:=H.out.2.2.1.trans (hbw.mono H.out.2.2.1.size);have f0:=s1.frozen 0;have f1:=s1.frozen 1;have f2:=s1.frozen 2;have f3:=s1.frozen 3;have r0:=s1.cell (k:=0) (by omega);have r1:=s1.cell (k:=1) (by omega);have r2:=s1.cell (k:=2) (by omega);have r3:=s1.cell (k:=3) (by omega)
    have S1:=Lib.hid s1;clear s1;have S2:=Lib.hid s2;clear s2;have S3:=Lib.hid s3;clear s3;clear hbw;rw[show setV (addS S n)=.agg #[.int .u64 (addS S n 0),.int .u64 (addS S n 1),.int .u64 (addS S n 2),.int .u64 (addS S n 3)] from rfl]
    go_wp2_with fail
    have T1:=Lib.hid (S1.out.set4 (addS S n));have T2:=Lib.hid ((((S2.out.other (B':=w.heap.size+1) (by omega) 0 (.int .u64 (addS S n 0))).other (B':=w.heap.size+1) (by omega) 1 (.int .u64 (addS S n 1))).other (B':=w.heap.size+1) (by omega) 2 (.int .u64 (addS S n 2))).other (B':=w.heap.size+1) (by omega) 3 (.int .u64 (addS S n 3)))
    have T3:=Lib.hid (zA4 S3.out (B:=w.heap.size+1) (by omega) (.int .u64 (addS S n 0)) (.int .u64 (addS S n 1)) (.int .u64 (addS S n 2)) (.int .u64 (addS S n 3)))
    go_roundw
    case rel=>exact⟨m+1,by have:=HN.out;omega,by have:=HN.out;go_num,by rw[Hnext.out];exact T1.out,T2.out,T3.out,trivial⟩
    case measure=>simp[intOf];omega
  ·have hm2:m=hi+1 - lo:=by have:=HN.out;omega
   subst hm2;have ⟨s1,s2,s3,_⟩:=H.out;clear H;have f0:=s2.frozen 0;have f1:=s2.frozen 1;have f2:=s2.frozen 2;have f3:=s2.frozen 3;have r0:=s2.cell (k:=0) (by omega);have r1:=s2.cell (k:=1) (by omega);have r2:=s2.cell (k:=2) (by omega);have r3:=s2.cell (k:=3) (by omega)
   have c0:=s1.cell (k:=0) (by omega);have c1:=s1.cell (k:=1) (by omega);have c2:=s1.cell (k:=2) (by omega);have c3:=s1.cell (k:=3) (by omega)
   clear s1;have S2:=Lib.hid s2;clear s2;have S3:=Lib.hid s3;clear s3
   go_wp2
   have b4:=S2.out.set4 (zAV lo (hi+1 - lo));have g0:=b4.cell (k:=0) (by omega);have g1:=b4.cell (k:=1) (by omega);have g2:=b4.cell (k:=2) (by omega);have g3:=b4.cell (k:=3) (by omega)
   exact bodyPost_ret (v:=setV (zAV lo (hi+1 - lo))) (by unfold setV;simp[results,Tryz.results140,go_sem,g0,g1,g2,g3]) rfl ⟨rfl,zA4 S3.out (by omega) _ _ _ _⟩
theorem zMX (v:Value) (L:List (Nat→Nat)) (hL:∀ t ∈ L,zAf t) (w:World) (h:RdS w w.heap.size v L) :
  Calls Tryz.prog 182 #[v] w fun e w'=>e=.returned (setV (zAs L))∧Below w.heap.size w w':=by
 have b1:SBox (w.alloc (.cells (setC zAC) 27)) w.heap.size 27 zAC:=SBox.new w _ _;have b2:SBox ((w.alloc (.cells (setC zAC) 27)).alloc (.cells (setC zAC) 27)) w.heap.size 27 zAC:=b1.alloc _;have e2:SBox ((w.alloc (.cells (setC zAC) 27)).alloc (.cells (setC zAC) 27)) (w.heap.size+1) 27 zAC:=by have:=SBox.new (w.alloc (.cells (setC zAC) 27)) 27 zAC;rwa [World.size_alloc]at this
 have bel:Below w.heap.size w ((w.alloc (.cells (setC zAC) 27)).alloc (.cells (setC zAC) 27)):=((Below.refl _ w).alloc (Nat.le_refl _) _).alloc (by simp) _
 clear b1;have hl:L.length≤9223372036854775807:=by
  rcases h with ⟨_,rfl⟩|⟨b,off,cap,_,_,h1,h2,_⟩
  ·simp
  ·unfold maxLen at h2;omega
 obtain⟨p,cap,rfl⟩:∃ p cap,v=.slice p L.length cap:=by rcases h with ⟨⟨q,h⟩,rfl⟩|⟨b,off,cap,h,_⟩<;>exact⟨_,_,h⟩
 have H:=Lib.hid h;clear h;have HL:=Lib.hid hL;clear hL
 go_enter Tryz.func182,Tryz.ntmps182
 go_wp2_with fail
 go_loopw [4,5] (fun n _ wr=>∃ k:Nat,k≤256∧n=.int .i64 k∧Hid (∃ S,SBox wr (w.heap.size+1) 27 S∧SBox wr w.heap.size 27 zAC∧Below w.heap.size w wr∧UTo L k 0 S)) (fun n _ _=>256 - (intOf n).toNat)
 case atStart=>exact⟨0,by omega,rfl,_,e2,b2,bel,UTo.start L⟩
 case round =>
  clear e2 b2 bel;obtain⟨n,hn,rfl,G⟩:=hrel
  by_cases hlt:n<256
  ·obtain⟨wo,rfl⟩:∃ wo:World,wo=wr:=⟨_,rfl⟩
   go_wp2_with fail
   go_loopw [5] (fun i wr=>∃ k:Nat,k≤L.length∧i=.int .i64 k∧Hid (∃ S,SBox wr (w.heap.size+1) 27 S∧SBox wr w.heap.size 27 zAC∧Below w.heap.size w wr∧UTo L n k S)) (fun i _=>L.length - (intOf i).toNat)
   case atStart=>exact⟨0,by omega,rfl,G.out⟩
   case round =>
    clear G;obtain⟨i,hi,rfl,G⟩:=hrel
    by_cases hil:i<L.length
    ·obtain⟨b0,off,rfl,hb0,hcell⟩:∃ b0 off,p=some ⟨b0,off,none⟩∧b0<w.heap.size∧∀ k,k<4→w.cell? ⟨b0,off+i * 4+k,none⟩=some (.int .u64 (L[i] k)):=by
      rcases H.out with ⟨⟨q,h⟩,h'⟩|⟨b,off,cap,h,h1,_,_,h4⟩
      ·subst h';simp at hil
      ·injection h with h2 _ _;exact⟨b,off,h2,h1,fun k hk=>h4 i hil k hk⟩
     obtain⟨S,G⟩:∃ S,Hid (SBox wr (w.heap.size+1) 27 S∧SBox wr w.heap.size 27 zAC∧Below w.heap.size w wr∧UTo L n i S):=by obtain⟨S,h⟩:=G.out;exact⟨S,h⟩
     have hOk:=HL.out L[i] (List.getElem_mem hil);have hHit:=fun h:hasB L[i] n=true=>G.out.2.2.2.hit hil h
     have hMiss:=fun h:hasB L[i] n=false=>G.out.2.2.2.miss hil h
     have HOK:=Lib.hid hOk;clear hOk;have HHit:=Lib.hid hHit;clear hHit;have HMiss:=Lib.hid hMiss;clear hMiss;have HC:=Lib.hid hcell;clear hcell
     generalize L[i]=t at HOK HHit HMiss HC
     go_upto_region 8 with fail
     refine ws_ 7 [fun v _=>v=.slice (some ⟨b0,off,none⟩) L.length cap,fun v _=>v=.int .i64 (i:Int),fun v _=>v=.pointer (some ⟨b0,off+i * 4,none⟩),fun v _=>v=setV t,fun v _=>v=.int .i64 (n:Int),fun v _=>v=.int .u8 (n:Int),fun v _=>v=.bool (hasB t n)] ?ob ?en
     case ob =>
      refine⟨?_,?_,?_,?_,?_,?_,?_,trivial⟩<;>intro A W h
      ·exact zAL rfl rfl (h.f 0)
      ·exact zAL rfl rfl (h.f 5)
      ·exact zFi (sz:=4) Tryz.underlying156 (fun w=>by kernel_rfl) rfl rfl (h.d 0 16) (h.d 1 17) (by omega) (by omega)
      ·exact zGN rfl rfl (h.d 2 18) (fun k hk=>((G.out.2.2.1.trans (h.below.mono G.out.2.2.1.size)).cell (p:=⟨b0,off+i * 4+k,none⟩) hb0).trans (HC.out k hk)) (by decide)
      ·exact zAL rfl rfl (h.f 4)
      ·(have e20:A.eval (.tmp 20)=.int .i64 (n:Int):=h.d 4 20;refine zAB rfl ?_;simp only[execOp,e20];(simp[go_sem]<;>(rw[IntKind.wrap_u8];omega)))
      ·exact zBB rfl rfl (enters_of Tryz.func166 (by kernel_rfl) rfl) (zE9 ⟨(h.d 3 19),(h.d 5 21)⟩) (zEo t HOK.out n (by omega) W)
     case en =>
      intro vals W hbw hv _;simp only[fa,Nat.reduceAdd];rw[e_ hv 0,e_ hv 1,e_ hv 2,e_ hv 3,e_ hv 4,e_ hv 5,e_ hv 6];clear hv
      try simp only[pl]
      have G9:Hid (SBox W (w.heap.size+1) 27 S∧SBox W w.heap.size 27 zAC∧Below w.heap.size w W∧UTo L n i S):=⟨G.out.1.below hbw G.out.1.lt,G.out.2.1.below hbw G.out.2.1.lt,G.out.2.2.1.trans (hbw.mono G.out.2.2.1.size),G.out.2.2.2⟩;clear G hbw
      cases hb:hasB t n with
      | false =>
       have U:=Lib.hid (HMiss.out hb);clear hb
       go_wp2_with fail
       go_roundw
       case rel=>exact⟨i+1,by omega,by go_num,S,G9.out.1,G9.out.2.1,G9.out.2.2.1,U.out⟩
       case measure=>simp[intOf];omega
      | true =>
       have U:=Lib.hid (HHit.out hb);clear hb
       go_upto_region 9 with fail
       refine ws_ 4 [fun v _=>v=setV S,fun v _=>v=.int .i64 (n:Int),fun v _=>v=.int .u8 (n:Int),fun v _=>v=setV (addS S n)] ?ob ?en
       case ob =>
        refine⟨?_,?_,?_,?_,trivial⟩<;>intro A W h
        ·exact zDX (s:=S) rfl rfl (h.f 3) (G9.out.1.below h.below G9.out.1.lt) (by decide)
        ·exact zAL rfl rfl (h.f 4)
        ·(have e24:A.eval (.tmp 24)=.int .i64 (n:Int):=h.d 1 24;refine zAB rfl ?_;simp only[execOp,e24];(simp[go_sem]<;>(rw[IntKind.wrap_u8];omega)))
        ·exact zBB rfl rfl (enters_of Tryz.func167 (by kernel_rfl) rfl) (zE9 ⟨(h.d 0 23),(h.d 2 25)⟩) (zEN S G9.out.2.2.2.1 n (by omega) W)
       case en =>
        intro vals W hbw hv _;simp only[fa,Nat.reduceAdd];rw[e_ hv 0,e_ hv 1,e_ hv 2,e_ hv 3];clear hv
        try simp only[pl]
        have s1:=G9.out.1.below hbw G9.out.1.lt;have s2:=G9.out.2.1.below hbw G9.out.2.1.lt;have s3:=G9.out.2.2.1.trans (hbw.mono G9.out.2.2.1.size);have f0:=s1.frozen 0;have f1:=s1.frozen 1;have f2:=s1.frozen 2;have f3:=s1.frozen 3;have r0:=s1.cell (k:=0) (by omega);have r1:=s1.cell (k:=1) (by omega);have r2:=s1.cell (k:=2) (by omega);have r3:=s1.cell (k:=3) (by omega)
        have S1:=Lib.hid s1;clear s1;have S2:=Lib.hid s2;clear s2;have S3:=Lib.hid s3;clear s3;clear hbw;rw[show setV (addS S n)=.agg #[.int .u64 (addS S n 0),.int .u64 (addS S n 1),.int .u64 (addS S n 2),.int .u64 (addS S n 3)] from rfl]
        go_wp2_with fail
        have T1:=Lib.hid (S1.out.set4 (addS S n));have T2:=Lib.hid ((((S2.out.other (B':=w.heap.size+1) (by omega) 0 (.int .u64 (addS S n 0))).other (B':=w.heap.size+1) (by omega) 1 (.int .u64 (addS S n 1))).other (B':=w.heap.size+1) (by omega) 2 (.int .u64 (addS S n 2))).other (B':=w.heap.size+1) (by omega) 3 (.int .u64 (addS S n 3)))
        have T3:=Lib.hid (zA4 S3.out (B:=w.heap.size+1) (by omega) (.int .u64 (addS S n 0)) (.int .u64 (addS S n 1)) (.int .u64 (addS S n 2)) (.int .u64 (addS S n 3)))
        go_roundw
        case rel=>exact⟨i+1,by omega,by go_num,addS S n,T1.out,T2.out,T3.out,U.out⟩
        case measure=>simp[intOf];omega
    ·obtain rfl:i=L.length:=by omega
     go_wp2_with fail
     go_roundw
     case rel=>obtain⟨S,g1,g2,g3,g4⟩:=G.out;exact⟨n+1,by omega,by go_num,S,g1,g2,g3,g4.next⟩
     case measure=>simp[intOf];omega
  ·obtain rfl:n=256:=by omega
   obtain⟨S,s1,s2,s3,hu⟩:=G.out;have HU:=Lib.hid (hu.done HL.out);clear hu G;have f0:=s2.frozen 0;have f1:=s2.frozen 1;have f2:=s2.frozen 2;have f3:=s2.frozen 3;have r0:=s2.cell (k:=0) (by omega);have r1:=s2.cell (k:=1) (by omega);have r2:=s2.cell (k:=2) (by omega);have r3:=s2.cell (k:=3) (by omega)
   have c0:=s1.cell (k:=0) (by omega);have c1:=s1.cell (k:=1) (by omega);have c2:=s1.cell (k:=2) (by omega);have c3:=s1.cell (k:=3) (by omega)
   clear s1;have S2:=Lib.hid s2;clear s2;have S3:=Lib.hid s3;clear s3
   go_wp2
   have b4:=S2.out.set4 (S);have g0:=b4.cell (k:=0) (by omega);have g1:=b4.cell (k:=1) (by omega);have g2:=b4.cell (k:=2) (by omega);have g3:=b4.cell (k:=3) (by omega)
   exact bodyPost_ret (v:=setV (S)) (by unfold setV;simp[results,Tryz.results182,go_sem,g0,g1,g2,g3]) rfl ⟨by rw[HU.out],zA4 S3.out (by omega) _ _ _ _⟩
theorem zKc (v:Value) (L:List (Nat→Nat)) (hL:∀ t ∈ L,zAf t) (w:World) (h:RdS w w.heap.size v L) :
  Calls Tryz.prog 193 #[v] w fun e w'=>e=.returned (setV (zGR L))∧Below w.heap.size w w':=by
 have b1:SBox (w.alloc (.cells (setC zAC) 27)) w.heap.size 27 zAC:=SBox.new w _ _;have b2:SBox ((w.alloc (.cells (setC zAC) 27)).alloc (.cells (setC zAC) 27)) w.heap.size 27 zAC:=b1.alloc _;have e2:SBox ((w.alloc (.cells (setC zAC) 27)).alloc (.cells (setC zAC) 27)) (w.heap.size+1) 27 zAC:=by have:=SBox.new (w.alloc (.cells (setC zAC) 27)) 27 zAC;rwa [World.size_alloc]at this
 have bel:Below w.heap.size w ((w.alloc (.cells (setC zAC) 27)).alloc (.cells (setC zAC) 27)):=((Below.refl _ w).alloc (Nat.le_refl _) _).alloc (by simp) _
 clear b1;have hl:L.length≤9223372036854775807:=by
  rcases h with ⟨_,rfl⟩|⟨b,off,cap,_,_,h1,h2,_⟩
  ·simp
  ·unfold maxLen at h2;omega
 obtain⟨p,cap,rfl⟩:∃ p cap,v=.slice p L.length cap:=by rcases h with ⟨⟨q,h⟩,rfl⟩|⟨b,off,cap,h,_⟩<;>exact⟨_,_,h⟩
 have H:=Lib.hid h;clear h;have HL:=Lib.hid hL;clear hL
 go_enter Tryz.func193,Tryz.ntmps193
 go_wp2_with fail
 go_loopw [4,5,6] (fun n _ _ wr=>∃ k:Nat,k≤256∧n=.int .i64 k∧Hid (∃ S,SBox wr (w.heap.size+1) 27 S∧SBox wr w.heap.size 27 zAC∧Below w.heap.size w wr∧MTo L k S)) (fun n _ _ _=>256 - (intOf n).toNat)
 case atStart=>exact⟨0,by omega,rfl,_,e2,b2,bel,MTo.start L⟩
 case round =>
  clear e2 b2 bel;obtain⟨n,hn,rfl,G⟩:=hrel
  by_cases hlt:n<256
  ·obtain⟨wo,rfl⟩:∃ wo:World,wo=wr:=⟨_,rfl⟩;obtain⟨S,G⟩:∃ S,Hid (SBox wo (w.heap.size+1) 27 S∧SBox wo w.heap.size 27 zAC∧Below w.heap.size w wo∧MTo L n S):=by obtain⟨S,h⟩:=G.out;exact⟨S,h⟩
   go_wp2_with fail
   go_loopw [5,6] (fun a i wr=>∃ k:Nat,k≤L.length∧i=.int .i64 k∧a=.bool ((L.take k).all (fun t=>hasB t n))∧Hid (SBox wr (w.heap.size+1) 27 S∧SBox wr w.heap.size 27 zAC∧Below w.heap.size w wr∧MTo L n S)) (fun _ i _=>L.length - (intOf i).toNat)
   case atStart=>exact⟨0,by omega,rfl,by simp,G.out⟩
   case round =>
    clear G;obtain⟨i,hi,rfl,rfl,G⟩:=hrel
    by_cases hil:i<L.length
    ·obtain⟨b0,off,rfl,hb0,hcell⟩:∃ b0 off,p=some ⟨b0,off,none⟩∧b0<w.heap.size∧∀ k,k<4→w.cell? ⟨b0,off+i * 4+k,none⟩=some (.int .u64 (L[i] k)):=by
      rcases H.out with ⟨⟨q,h⟩,h'⟩|⟨b,off,cap,h,h1,_,_,h4⟩
      ·subst h';simp at hil
      ·injection h with h2 _ _;exact⟨b,off,h2,h1,fun k hk=>h4 i hil k hk⟩
     have hOk:=HL.out L[i] (List.getElem_mem hil);have HOK:=Lib.hid hOk;clear hOk;have HA:=Lib.hid (zOQ (b:=n) hil);have HC:=Lib.hid hcell;clear hcell
     generalize L[i]=t at HOK HA HC
     generalize (L.take i).all (fun t=>hasB t n)=fl at HA
     cases fl with
     | true =>
      have HA':=Lib.hid (HA.out.trans (Bool.true_and _));clear HA
      go_upto_region 9 with fail
      refine ws_ 10 [fun v _=>v=.bool true,fun v _=>v=.bool true,fun v _=>v=.slice (some ⟨b0,off,none⟩) L.length cap,fun v _=>v=.int .i64 (i:Int),fun v _=>v=.pointer (some ⟨b0,off+i * 4,none⟩),fun v _=>v=setV t,fun v _=>v=.int .i64 (n:Int),fun v _=>v=.int .u8 (n:Int),fun v _=>v=.bool (hasB t n),fun v _=>v=.bool (hasB t n)] ?ob ?en
      case ob =>
       refine⟨?_,?_,?_,?_,?_,?_,?_,?_,?_,?_,trivial⟩<;>intro A W h
       ·exact zAL rfl rfl (h.f 5)
       ·exact zAL rfl rfl (h.d 0 17)
       ·exact zAL (wg (h.d 1 18)) rfl (h.f 0)
       ·exact zAL (wg (h.d 1 18)) rfl (h.f 6)
       ·exact zFi (sz:=4) Tryz.underlying156 (fun w=>by kernel_rfl) (wg (h.d 1 18)) rfl (h.d 2 19) (h.d 3 20) (by omega) (by omega)
       ·exact zGN (wg (h.d 1 18)) rfl (h.d 4 21) (fun k hk=>((G.out.2.2.1.trans (h.below.mono G.out.2.2.1.size)).cell (p:=⟨b0,off+i * 4+k,none⟩) hb0).trans (HC.out k hk)) (by decide)
       ·exact zAL (wg (h.d 1 18)) rfl (h.f 4)
       ·(have e23:A.eval (.tmp 23)=.int .i64 (n:Int):=h.d 6 23;refine zAB (wg (h.d 1 18)) ?_;simp only[execOp,e23];(simp[go_sem]<;>(rw[IntKind.wrap_u8];omega)))
       ·exact zBB (wg (h.d 1 18)) rfl (enters_of Tryz.func166 (by kernel_rfl) rfl) (zE9 ⟨(h.d 5 22),(h.d 7 24)⟩) (zEo t HOK.out n (by omega) W)
       ·exact zNA rfl rfl (h.d 1 18) (h.d 8 25)
      case en =>
       intro vals W hbw hv _;simp only[fa,Nat.reduceAdd];rw[e_ hv 0,e_ hv 1,e_ hv 2,e_ hv 3,e_ hv 4,e_ hv 5,e_ hv 6,e_ hv 7,e_ hv 8,e_ hv 9];clear hv
       try simp only[pl]
       have G9:Hid (SBox W (w.heap.size+1) 27 S∧SBox W w.heap.size 27 zAC∧Below w.heap.size w W∧MTo L n S):=⟨G.out.1.below hbw G.out.1.lt,G.out.2.1.below hbw G.out.2.1.lt,G.out.2.2.1.trans (hbw.mono G.out.2.2.1.size),G.out.2.2.2⟩;clear G hbw
       go_wp2_with fail
       go_roundw
       case rel=>exact⟨i+1,by omega,by go_num,by rw[HA'.out],G9.out⟩
       case measure=>simp[intOf];omega
     | false =>
      have HA':=Lib.hid (HA.out.trans (Bool.false_and _));clear HA
      go_upto_region 9 with fail
      refine ws_ 10 [fun v _=>v=.bool false,fun v _=>v=.bool false,fun v _=>v=undef,fun v _=>v=undef,fun v _=>v=undef,fun v _=>v=undef,fun v _=>v=undef,fun v _=>v=undef,fun v _=>v=undef,fun v _=>v=Value.bool false] ?ob ?en
      case ob =>
       refine⟨?_,?_,?_,?_,?_,?_,?_,?_,?_,?_,trivial⟩<;>intro A W h
       ·exact zAL rfl rfl (h.f 5)
       ·exact zAL rfl rfl (h.d 0 17)
       ·exact rsk (h.d 1 18)
       ·exact rsk (h.d 1 18)
       ·exact rsk (h.d 1 18)
       ·exact rsk (h.d 1 18)
       ·exact rsk (h.d 1 18)
       ·exact rsk (h.d 1 18)
       ·exact rsk (h.d 1 18)
       ·exact zNA rfl rfl (h.d 1 18) (rfl)
      case en =>
       intro vals W hbw hv _;simp only[fa,Nat.reduceAdd];rw[e_ hv 0,e_ hv 1,e_ hv 2,e_ hv 3,e_ hv 4,e_ hv 5,e_ hv 6,e_ hv 7,e_ hv 8,e_ hv 9];clear hv
       try simp only[pl]
       have G9:Hid (SBox W (w.heap.size+1) 27 S∧SBox W w.heap.size 27 zAC∧Below w.heap.size w W∧MTo L n S):=⟨G.out.1.below hbw G.out.1.lt,G.out.2.1.below hbw G.out.2.1.lt,G.out.2.2.1.trans (hbw.mono G.out.2.2.1.size),G.out.2.2.2⟩;clear G hbw
       go_wp2_with fail
       go_roundw
       case rel=>exact⟨i+1,by omega,by go_num,by rw[HA'.out],G9.out⟩
       case measure=>simp[intOf];omega
    ·obtain rfl:i=L.length:=by omega
     rw[List.take_length]
     cases hb:L.all (fun t=>hasB t n) with
     | false =>
      have U:=Lib.hid (G.out.2.2.2.miss hb);clear hb
      go_wp2_with fail
      go_roundw
      case rel=>exact⟨n+1,by omega,by go_num,S,G.out.1,G.out.2.1,G.out.2.2.1,U.out⟩
      case measure=>simp[intOf];omega
     | true =>
      have U:=Lib.hid (G.out.2.2.2.hit hb);clear hb
      go_upto_region 11 with fail
      refine ws_ 4 [fun v _=>v=setV S,fun v _=>v=.int .i64 (n:Int),fun v _=>v=.int .u8 (n:Int),fun v _=>v=setV (addS S n)] ?ob ?en
      case ob =>
       refine⟨?_,?_,?_,?_,trivial⟩<;>intro A W h
       ·exact zDX (s:=S) rfl rfl (h.f 3) (G.out.1.below h.below G.out.1.lt) (by decide)
       ·exact zAL rfl rfl (h.f 4)
       ·(have e29:A.eval (.tmp 29)=.int .i64 (n:Int):=h.d 1 29;refine zAB rfl ?_;simp only[execOp,e29];(simp[go_sem]<;>(rw[IntKind.wrap_u8];omega)))
       ·exact zBB rfl rfl (enters_of Tryz.func167 (by kernel_rfl) rfl) (zE9 ⟨(h.d 0 28),(h.d 2 30)⟩) (zEN S G.out.2.2.2.1 n (by omega) W)
      case en =>
       intro vals W hbw hv _;simp only[fa,Nat.reduceAdd];rw[e_ hv 0,e_ hv 1,e_ hv 2,e_ hv 3];clear hv
       try simp only[pl]
       have s1:=G.out.1.below hbw G.out.1.lt;have s2:=G.out.2.1.below hbw G.out.2.1.lt;have s3:=G.out.2.2.1.trans (hbw.mono G.out.2.2.1.size);have f0:=s1.frozen 0;have f1:=s1.frozen 1;have f2:=s1.frozen 2;have f3:=s1.frozen 3;have r0:=s1.cell (k:=0) (by omega);have r1:=s1.cell (k:=1) (by omega);have r2:=s1.cell (k:=2) (by omega);have r3:=s1.cell (k:=3) (by omega)
       have S1:=Lib.hid s1;clear s1;have S2:=Lib.hid s2;clear s2;have S3:=Lib.hid s3;clear s3;clear hbw;rw[show setV (addS S n)=.agg #[.int .u64 (addS S n 0),.int .u64 (addS S n 1),.int .u64 (addS S n 2),.int .u64 (addS S n 3)] from rfl]
       go_wp2_with fail
       have T1:=Lib.hid (S1.out.set4 (addS S n));have T2:=Lib.hid ((((S2.out.other (B':=w.heap.size+1) (by omega) 0 (.int .u64 (addS S n 0))).other (B':=w.heap.size+1) (by omega) 1 (.int .u64 (addS S n 1))).other (B':=w.heap.size+1) (by omega) 2 (.int .u64 (addS S n 2))).other (B':=w.heap.size+1) (by omega) 3 (.int .u64 (addS S n 3)))
       have T3:=Lib.hid (zA4 S3.out (B:=w.heap.size+1) (by omega) (.int .u64 (addS S n 0)) (.int .u64 (addS S n 1)) (.int .u64 (addS S n 2)) (.int .u64 (addS S n 3)))
       go_roundw
       case rel=>exact⟨n+1,by omega,by go_num,addS S n,T1.out,T2.out,T3.out,U.out⟩
       case measure=>simp[intOf];omega
  ·obtain rfl:n=256:=by omega
   obtain⟨S,s1,s2,s3,hu⟩:=G.out;have HU:=Lib.hid (hu.done HL.out);clear hu G;have f0:=s2.frozen 0;have f1:=s2.frozen 1;have f2:=s2.frozen 2;have f3:=s2.frozen 3;have r0:=s2.cell (k:=0) (by omega);have r1:=s2.cell (k:=1) (by omega);have r2:=s2.cell (k:=2) (by omega);have r3:=s2.cell (k:=3) (by omega)
   have c0:=s1.cell (k:=0) (by omega);have c1:=s1.cell (k:=1) (by omega);have c2:=s1.cell (k:=2) (by omega);have c3:=s1.cell (k:=3) (by omega)
   clear s1;have S2:=Lib.hid s2;clear s2;have S3:=Lib.hid s3;clear s3
   go_wp2
   have b4:=S2.out.set4 (S);have g0:=b4.cell (k:=0) (by omega);have g1:=b4.cell (k:=1) (by omega);have g2:=b4.cell (k:=2) (by omega);have g3:=b4.cell (k:=3) (by omega)
   exact bodyPost_ret (v:=setV (S)) (by unfold setV;simp[results,Tryz.results193,go_sem,g0,g1,g2,g3]) rfl ⟨by rw[HU.out],zA4 S3.out (by omega) _ _ _ _⟩
end
end Go.Proofs.YtklcgfkdemifcaaGreatDoor
