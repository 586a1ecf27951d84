/-
  Laws of walks, and walks.
-/
import Derived.RangeFuncBox
import Derived.RangeFuncNested
import Derived.RangeFuncBound
import Derived.RangeFuncCalls
import Derived.RangeFuncLeaves
import Derived.Shelf.Abstract
import Derived.WalkKit
import Derived.OwnWalkIn
import Derived.TacticsInMore
import Derived.LoopNIn
import Derived.LoopIn
import Derived.Maps.AppendAt
import Derived.Lib.Hide
import Derived.Deep.QuietTactic
import Derived.BigQuiet
import Derived.Laws.AppendOwnNone
import Derived.StillTailTactics
import Derived.Deep.RegionWith
import Derived.Stop.RegionWithIn
import Derived.Test.YtklcgfkdemifcaaDoorProg
import Derived.ChangeKeysEq
set_option linter.unusedVariables false
set_option linter.unusedSimpArgs false
set_option maxRecDepth 100000
set_option maxHeartbeats 16000000
namespace Go.Proofs.YtklcgfkdemifcaaDoor
section
open Go.RowKit Go.Shelf
abbrev Rt (v:Value) (w:World) (e:Ending) (w':World):Prop:=e=.returned v∧Below w.heap.size w w'
def Rd (w:World) (b0:Nat) (v:Value) (cs:List Value):Prop :=
 ((∃ q,v=.slice q 0 0)∧cs=[])∨∃ b off cap,v=.slice (some ⟨b,off,none⟩) cs.length cap∧b<b0∧cs.length≤cap∧cap≤maxLen ∧
  ∀ j,(h:j<cs.length)→w.cell? ⟨b,off+j,none⟩=some cs[j]
theorem Rd.below {w w':World} {b0:Nat} {v:Value} {cs:List Value} (h:Rd w b0 v cs) (hb:Below b0 w w'):Rd w' b0 v cs:=by
 rcases h with h|⟨b,off,cap,e,h1,h2,h3,h4⟩
 ·exact .inl h
 ·exact .inr ⟨b,off,cap,e,h1,h2,h3,fun j hj=>(hb.cell (p:=⟨b,off+j,none⟩) h1).trans (h4 j hj)⟩
theorem Rd.up {w:World} {b0 b1:Nat} {v:Value} {cs:List Value} (h:Rd w b0 v cs) (hb:b0≤b1):Rd w b1 v cs:=by
 rcases h with h|⟨b,off,cap,e,h1,h2,h3,h4⟩
 ·exact .inl h
 ·exact .inr ⟨b,off,cap,e,by omega,h2,h3,h4⟩
structure KeepBut (M:Nat→Prop) (B:Nat) (W W':World):Prop where
 os:W'.os=W.os
 tape:W'.tape=W.tape
 output:W'.output=W.output
 size:W.heap.size≤W'.heap.size
 old:∀ k,k<B→¬ M k→W'.heap[k]?=W.heap[k]?
theorem KeepBut.refl (M:Nat→Prop) (B:Nat) (W:World):KeepBut M B W W:=⟨rfl,rfl,rfl,Nat.le_refl _,fun _ _ _=>rfl⟩
theorem KeepBut.trans {M:Nat→Prop} {B:Nat} {X Y Z:World} (h:KeepBut M B X Y) (k:KeepBut M B Y Z):KeepBut M B X Z :=
 ⟨k.os.trans h.os,k.tape.trans h.tape,k.output.trans h.output,Nat.le_trans h.size k.size,fun i h1 h2=>(k.old i h1 h2).trans (h.old i h1 h2)⟩
theorem KeepBut.below {M:Nat→Prop} {B n:Nat} {W W':World} (h:KeepBut M B W W') (hn:n≤B) (hM:∀ k,k<n→¬ M k):Below n W W' :=
 ⟨h.os,h.tape,h.output,h.size,fun k hk=>h.old k (by omega) (hM k hk)⟩
theorem KeepBut.of_below {M:Nat→Prop} {B:Nat} {W W':World} (h:Below B W W'):KeepBut M B W W' :=
 ⟨h.os,h.tape,h.output,h.size,fun k hk _=>h.block k hk⟩
theorem KeepBut.mono {M M':Nat→Prop} {B B':Nat} {W W':World} (h:KeepBut M B W W') (hB:B'≤B) (hM:∀ k,k<B'→M k→M' k):KeepBut M' B' W W' :=
 ⟨h.os,h.tape,h.output,h.size,fun k hk hn=>h.old k (by omega) (fun hm=>hn (hM k hk hm))⟩
structure Upd (M:Nat→Prop) (B:Nat) (W W':World):Prop where
 keep:KeepBut M B W W'
 others:KeepsFrom B W W'
theorem Upd.refl (M:Nat→Prop) (B:Nat) (W:World):Upd M B W W:=⟨KeepBut.refl _ _ _,KeepsFrom.refl _ _⟩
theorem Upd.trans {M:Nat→Prop} {B:Nat} {X Y Z:World} (h:Upd M B X Y) (k:Upd M B Y Z):Upd M B X Z:=⟨h.keep.trans k.keep,h.others.trans k.others⟩
theorem Upd.grown {M:Nat→Prop} {B:Nat} {X W W':World} {row:Option Nat} (h:Upd M B X W) (hg:W.grownBy W' row)
  (hr:∀ k,row=some k→(k<B∧M k)∨(B≤k∧∃ c e f,W.heap[k]?=some (.cells c e f))) (hB:B≤W.heap.size):Upd M B X W':=by
 refine h.trans ⟨⟨hg.os,hg.tape,hg.output,hg.size,fun k h1 h2=>hg.block k (by omega) (fun e=>?_)⟩,⟨hg.size,fun k o h1 h2 h3=>?_⟩⟩
 ·rcases hr k e.symm with ⟨_,h⟩|⟨h,_⟩
  ·exact h2 h
  ·omega
 ·refine(hg.block k (Array.getElem?_eq_some_iff.1 h2).1 (fun e=>?_)).trans h2
  rcases hr k e.symm with ⟨h,_⟩|⟨_,c,e',f,h⟩
  ·omega
  ·rw[h]at h2;cases h2;cases h3
theorem Upd.alloc {M:Nat→Prop} {B:Nat} {X W:World} (h:Upd M B X W) (hB:B≤W.heap.size) (o:Obj):Upd M B X (W.alloc o) :=
 h.grown (World.grownBy_alloc W o none) (fun k e=>by cases e) hB
theorem Upd.call {M:Nat→Prop} {B:Nat} {X W W':World} (h:Upd M B X W) (hb:Below W.heap.size W W') (hB:B≤W.heap.size):Upd M B X W' :=
 h.trans ⟨KeepBut.of_below (hb.mono hB),⟨hb.size,fun k _ _ h2 _=>(hb.block k (Array.getElem?_eq_some_iff.1 h2).1).trans h2⟩⟩
structure Idle (B:Nat) (W W':World):Prop where
 below:Below B W W'
 cells:∀ (k:Nat) c e f,W.heap[k]?=some (.cells c e f)→W'.heap[k]?=some (.cells c e f)
theorem Idle.of_putObj {B:Nat} {W:World} {l:Nat} {o:Obj} (o':Obj) (hl:W.heap[l]?=some o) (ho:o.isCells=false) (hB:B≤l):Idle B W (W.putObj l o'):=by
 have hg:=grownBy_putObj' W l o';have hlt:=(Array.getElem?_eq_some_iff.1 hl).1;refine⟨(Below.refl B W).grown hg (by omega) (fun k e=>by cases e;exact hB),fun k c e f hk=>?_⟩
 refine(hg.block k (Array.getElem?_eq_some_iff.1 hk).1 (fun er=>?_)).trans hk
 cases er
 rw[hk]at hl;cases hl;cases ho
theorem zFM {β:Type} {B:Nat} {I:β→World→Prop} (h:∀ s W W',Idle B W W'→I s W→I s W') (hs:∀ s W,I s W→B≤W.heap.size):OwnFrom B I:=by
 intro s W W' row hI hg hr;refine h s W W' ⟨?_,?_⟩ hI
 ·exact(Below.refl B W).grown hg (hs s W hI) (fun k e=>(hr k e).1)
 ·intro k c e f hk;refine(hg.block k (Array.getElem?_eq_some_iff.1 hk).1 (fun er=>?_)).trans hk
  obtain⟨_,o,ho,hc⟩:=hr k er.symm;rw[hk]at ho;cases ho;cases hc
def Iter (P:Program) (g:Nat) (lb:Array Value) {α:Type} (encs:α→Array Value) (xs:List α) (S:Nat→Prop) (w:World):Prop :=
 ∀ (M:Nat→Prop),(∀ k,S k→k<w.heap.size∧¬ M k) →
  SeqStopsK Fence.wide 8 P g lb (fun x:{x // x ∈ xs}=>encs x.1) (KeepBut M w.heap.size) (fun ys=>ys.map (·.1)=xs) (fun ys=>ys.map (·.1) <+: xs) xs.length w
def zMP {α:Type} (M:Nat→Prop) (B:Nat) (I:List α→World→Prop) (Ix:Code→List α→World→Prop) (xs:List α) (W:World):Exit→Act→World→Prop
 | .normal,_,W'=>Upd M B W W'∧I xs W'
 | .ret,_,W'=>Upd M B W W'∧Ix .ret xs W'
 | .exit id,_,W'=>Upd M B W W'∧Ix (.exit id) xs W'
 | .goto t,_,W'=>Upd M B W W'∧Ix (.goto t) xs W'
 | .panic _,_,_=>False
 | .outgrown,_,_=>False
theorem zLs {P:Program} {α:Type} {encs:α→Array Value} {xs:List α} {S:Nat→Prop} {g:Operand} {ps:Array Tmp} {assign body:Code} {Q:Exit→Act→World→Prop} {a:Act} {w:World}
  {gf:Nat} {lb:Array Value} (hit:Iter P gf lb encs xs S w) (hg:a.eval g=.func (.func gf) #[] lb) (eg:∀ args w,(callFunc gf args).run P w=.ok (.enter gf args) w)
  (hps:∀ x,(encs x).size=ps.size) (M:Nat→Prop) (hM:∀ k,S k→k<w.heap.size∧¬ M k)
  (I:List α→World→Prop) (Ix:Code→List α→World→Prop) (hI:∀ s W W',Idle w.heap.size W W'→I s W→I s W') (hIx:∀ c s W W',Idle w.heap.size W W'→Ix c s W→Ix c s W') (h0:I [] w) (a₁:α→Act)
  (hassign:∀ (l:Nat) (x:α) (W:World) (K:Act→World→Prop),K (a₁ x) W →
   assign.wpIn (Fence.wide.inRound l) 7 P (Exit.then K (fun _ _ _=>False)) {tmps:=(ps.zip (encs x)).foldl (fun t (p,v)=>t.setIfInBounds p v) a.tmps,defers:=[]} W)
  (hbody:∀ (l:Nat) (pre:List α) (x:α) (W:World),KeepBut M w.heap.size w W→I pre W→x ∈ xs→pre.length<xs.length→body.wpIn (Fence.wide.inRound l) 7 P (zMP M w.heap.size I Ix (pre++[x]) W) (a₁ x) W)
  (hdone:∀ (D:Nat) (W:World),w.heap.size≤D→KeepBut M w.heap.size w W→I xs W→W.heap[D]?=some (.deferred (some []))→Q .normal {a with defers:={target:=.collected D,args:=#[]}::a.defers} W)
  (hstop:∀ (D:Nat) (c:Code) (pre:List α) (W:World),w.heap.size≤D→KeepBut M w.heap.size w W→pre <+: xs→Ix c pre W→W.heap[D]?=some (.deferred (some []))→c.wpIn Fence.wide 9 P Q {a with defers:={target:=.collected D,args:=#[]}::a.defers} W) :
  (Code.rangeFunc g ps assign body).wpIn Fence.wide 9 P Q a w:=by
 refine wpIn_rangeFunc_ownG (F:=Fence.wide) (n:=9) (N:=xs.length) (w0:=w) rfl (by omega) (lb:=lb) hg trivial eg (hit M hM) KeepBut.trans ?_ (Below.refl _ _) (fun x=>hps x.1)
  (fun pre W=>KeepBut M w.heap.size w W∧I (pre.map (·.1)) W) (fun c pre W=>KeepBut M w.heap.size w W∧Ix c (pre.map (·.1)) W) ?_ ?_ ⟨KeepBut.refl _ _ _,h0⟩ (fun x=>a₁ x.1) ?_ ?_ ?_ ?_
 ·intro W l o o' h1 h2 _ _;have hg:=grownBy_putObj' W l o';exact⟨hg.os,hg.tape,hg.output,hg.size,fun k h3 _=>hg.block k (by have:=(Array.getElem?_eq_some_iff.1 h2).1;omega) (fun e=>by cases e;omega)⟩
 ·refine zFM (fun s W W' h hI'=>⟨hI'.1.trans (KeepBut.of_below h.below),hI _ _ _ h hI'.2⟩) (fun s W h=>h.1.size)
 ·intro c;refine zFM (fun s W W' h hI'=>⟨hI'.1.trans (KeepBut.of_below h.below),hIx _ _ _ _ h hI'.2⟩) (fun s W h=>h.1.size)
 ·intro l x W K hK;exact hassign l x.1 W K hK
 ·intro l pre x W hI' hlen;refine wpIn_mono (hbody l (pre.map (·.1)) x.1 W hI'.1 hI'.2 x.2 (by simpa using hlen)) ?_
  intro e a W' h
  cases e with
  | normal=>exact⟨h.1.others,h.1.keep,hI'.1.trans h.1.keep,by simpa using h.2⟩
  | ret=>exact⟨h.1.others,hI'.1.trans h.1.keep,by simpa using h.2⟩
  | exit id=>exact⟨h.1.others,hI'.1.trans h.1.keep,by simpa using h.2⟩
  | goto t=>exact⟨h.1.others,hI'.1.trans h.1.keep,by simpa using h.2⟩
  | panic ch=>exact h
  | outgrown=>exact h
 ·intro D ys W hD hS hI' hK;exact hdone D W hD hI'.1 (hS ▸ hI'.2) hK
 ·intro D c pre W hD hS hI' hK;exact hstop D c _ W hD hI'.1 hS hI'.2 hK
theorem zDr {P:Program} {f:FuncId} {args:Array Value} {w:World} {R:Ending→World→Prop} (h:CallsIn Fence.wide 9 P f args w R):Calls P f args w R:=callsIn_wide.1 h
theorem zCh {P:Program} {b:Frame} {a:Act} {k:List Item} {cs:List Frame} {w:World} {c:Code}:step P (lone (b.atR a (.code (.scope c)::k)) cs w)=.next (lone (b.atR a (.code c::.inScope c::k)) cs w) :=
 step_lone_go (by simp[stepG,stepG.exec,Frame.atR])
theorem zHN {P:Program} {b:Frame} {a:Act} {k:List Item} {cs:List Frame} {w:World} {c:Code}:step P (lone (b.atR a (.inScope c::k)) cs w)=.next (lone (b.atR a k) cs w) :=
 step_lone_go (by simp[stepG,stepG.exec,Frame.atR])
theorem zJj {F:Fence} {n:Nat} {P:Program} {c:Code} {Q:Exit→Act→World→Prop} {a:Act} {w:World} (h:c.wpIn F n P (Exit.noGoto Q) a w):(Code.scope c).wpIn F n P Q a w:=by
 intro b k cs hro hb hr;have h0:(lone (b.atR a (.code (.scope c)::k)) cs w).fenced P F:=fenced_calm hb hr rfl;obtain⟨e,a₁,w₁,hq,harr⟩:=h b (.inScope c::k) cs hro hb hr;have hx:∀ id,exitTo id (.inScope c::k)=exitTo id k:=fun id=>by simp[exitTo]
 cases e with
 | normal=>exact⟨.normal,a₁,w₁,hq,.head h0 zCh (StepsIn.trans harr (.one (fenced_calm hb hr rfl) zHN))⟩
 | exit id =>
  exact⟨.exit id,a₁,w₁,hq,fun k' hk=>.head h0 zCh (harr.1 k' (by rw[hx];exact hk)),
   fun hr' hk=>let ⟨k₁,h1,h2⟩:=harr.2 hr' (by rw[hx];exact hk);⟨k₁,h1,.head h0 zCh h2⟩⟩
 | goto l=>exact hq.elim
 | ret=>exact⟨_,a₁,w₁,hq,.of_steps (.one h0 zCh) harr⟩
 | panic ch=>exact⟨_,a₁,w₁,hq,.of_steps (.one h0 zCh) harr⟩
 | outgrown=>exact⟨_,a₁,w₁,hq,.of_steps (.one h0 zCh) harr⟩
theorem Rd.lit (w:World) (xs:List Value) (e:TypeId) (f:Nat × Nat) (hl:xs.length≤maxLen):Rd (w.alloc (.cells xs.toArray e f)) (w.heap.size+1) (.slice (some ⟨w.heap.size,0,none⟩) xs.length xs.length) xs:=by
 refine .inr ⟨w.heap.size,0,xs.length,rfl,by omega,Nat.le_refl _,hl,fun j hj=>?_⟩
 rw[cell_of_row _ w.heap.size (0+j) xs.toArray e f (World.alloc_heap_new w _)];simp[hj]
theorem zGY {P:Program} {id:Nat} {Q:Exit→Act→World→Prop} {a:Act} {w:World} {l:List Oper} (n:Nat) (hm:P.follows .mixedOrders=true) (hB:Region.lexTailB .any l.toArray n=true)
  (h:∀ w2:World,w2=w.drew→wpStill P l.toArray w2 (fun a'=>wpList P l.toArray Q (l.drop n) a' w2) (l.take n) a):(Code.region id l.toArray true).wp P Q a w :=
 wp_region_still_tail n hm hB (h _ rfl)
end
section
open Go.RowKit
def setV (s:Nat→Nat):Value:=.agg #[.int .u64 (s 0),.int .u64 (s 1),.int .u64 (s 2),.int .u64 (s 3)]
def setC (s:Nat→Nat):Array Value:=#[.int .u64 (s 0),.int .u64 (s 1),.int .u64 (s 2),.int .u64 (s 3)]
def zAs (s:Nat→Nat):Prop:=∀ k,k<4→s k<2 ^ 64
def hasB (s:Nat→Nat) (b:Nat):Bool:=(s (b / 64)).testBit (b % 64)
theorem zMj {s t:Nat→Nat} (hs:zAs s) (ht:zAs t) (h:∀ b,b<256→hasB s b=hasB t b):setV s=setV t:=by
 have e:∀ k,k<4→s k=t k:=by
  intro k hk;apply Nat.eq_of_testBit_eq;intro i
  by_cases hi:i<64
  ·have:=h (64 * k+i) (by omega)
   unfold hasB at this;rw[show (64 * k+i) / 64=k from by omega,show (64 * k+i) % 64=i from by omega]at this
   exact this
  ·rw[Nat.testBit_lt_two_pow (Nat.lt_of_lt_of_le (hs k hk) (Nat.pow_le_pow_right (by omega) (by omega))),Nat.testBit_lt_two_pow (Nat.lt_of_lt_of_le (ht k hk) (Nat.pow_le_pow_right (by omega) (by omega)))]
 unfold setV;rw[e 0 (by omega),e 1 (by omega),e 2 (by omega),e 3 (by omega)]
theorem zNu {s t:Nat→Nat} (h:setV s=setV t):∀ k,k<4→s k=t k:=by
 unfold setV at h;simp only[Value.agg.injEq]at h;have h':=congrArg Array.toList h;simp at h';intro k hk
 match k,hk with
 | 0,_=>omega
 | 1,_=>omega
 | 2,_=>omega
 | 3,_=>omega
def zAF:Nat→Nat:=fun _=>0
def zJs:Nat→Nat:=fun _=>2 ^ 64 - 1
def orS (s t:Nat→Nat):Nat→Nat:=fun k=>s k ||| t k
def notS (s:Nat→Nat):Nat→Nat:=fun k=>2 ^ 64 - 1 - s k
def addS (s:Nat→Nat) (b:Nat):Nat→Nat:=fun k=>if k=b / 64 then s k ||| 2 ^ (b % 64) else s k
theorem zBX:zAs zAF:=fun k _=>by simp[zAF]
theorem zJO:zAs zJs:=fun k _=>by simp[zJs]
theorem zEx (s:Nat→Nat):zAs (notS s):=fun k _=>by unfold notS;omega
theorem zFr {s:Nat→Nat} (hs:zAs s) (b:Nat):zAs (addS s b):=fun k hk=>by
 unfold addS;split
 ·exact Nat.or_lt_two_pow (hs k hk) (Nat.pow_lt_pow_right (by omega) (by omega))
 ·exact hs k hk
theorem zHr (b:Nat):hasB zAF b=false:=by simp[hasB,zAF]
theorem zOR (s t:Nat→Nat) (b:Nat):hasB (orS s t) b=(hasB s b || hasB t b):=by simp[hasB,orS,Nat.testBit_or]
theorem zFx {s:Nat→Nat} (b c:Nat):hasB (addS s b) c=(hasB s c || decide (c=b)):=by
 unfold hasB addS;split
 ·rename_i h;rw[Nat.testBit_or,Nat.testBit_two_pow]
  congr 1
  rw[decide_eq_decide];omega
 ·rename_i h;have:¬ c=b:=fun e=>h (by rw[e])
  simp[this]
theorem zNJ (x r:Nat):(x / 2 ^ r % 2=1)↔x.testBit r=true:=by
 rw[Nat.testBit_eq_decide_div_mod_eq];simp
theorem zMl (x r:Nat) (hx:x<2 ^ 64):(bits .and .u64 ((x:Int) / 2 ^ r) 1 == 1)=x.testBit r:=by
 have e:((x:Int) / 2 ^ r)=((x / 2 ^ r:Nat):Int):=by simp
 rw[e];have hlt:x / 2 ^ r<18446744073709551616:=Nat.lt_of_le_of_lt (Nat.div_le_self _ _) hx;have h:=u64_and_nat (x / 2 ^ r) 1 hlt (by omega)
 rw[show ((1:Nat):Int)=1 from rfl]at h
 rw[h,nat_mask1,Bool.eq_iff_iff,← zNJ];simp;omega
def SBox (W:World) (B:Nat) (T:TypeId) (s:Nat→Nat):Prop:=W.heap[B]?=some (.cells (setC s) T (0,0))
theorem SBox.lt {W:World} {B:Nat} {T:TypeId} {s:Nat→Nat} (h:SBox W B T s):B<W.heap.size:=(Array.getElem?_eq_some_iff.1 h).1
theorem SBox.cell {W:World} {B:Nat} {T:TypeId} {s:Nat→Nat} (h:SBox W B T s) {k:Nat} (hk:k<4):W.cell? ⟨B,k,none⟩=some (.int .u64 (s k)):=by
 rw[cell_of_row W B k _ _ _ h];unfold setC
 match k,hk with
 | 0,_=>rfl
 | 1,_=>rfl
 | 2,_=>rfl
 | 3,_=>rfl
theorem SBox.frozen {W:World} {B:Nat} {T:TypeId} {s:Nat→Nat} (h:SBox W B T s) (k:Nat):W.frozen? ⟨B,k,none⟩=false:=by
 simp[World.frozen?,show W.heap[B]?=_ from h]
theorem SBox.new (W:World) (T:TypeId) (s:Nat→Nat):SBox (W.alloc (.cells (setC s) T)) W.heap.size T s:=World.alloc_heap_new W _
theorem SBox.below {W W':World} {n B:Nat} {T:TypeId} {s:Nat→Nat} (h:SBox W B T s) (hb:Below n W W') (hB:B<n):SBox W' B T s:=(hb.block B hB).trans h
theorem SBox.alloc {W:World} {B:Nat} {T:TypeId} {s:Nat→Nat} (h:SBox W B T s) (o:Obj):SBox (W.alloc o) B T s:=(Below.heap_alloc W o B h.lt).trans h
theorem SBox.other {W:World} {B B':Nat} {T:TypeId} {s:Nat→Nat} (h:SBox W B T s) (hne:B≠B') (k:Nat) (v:Value):SBox (W.setCell ⟨B',k,none⟩ v) B T s:=(Below.heap_setCell W _ _ B hne).trans h
theorem SBox.set {W:World} {B:Nat} {T:TypeId} {s:Nat→Nat} (h:SBox W B T s) {k:Nat} (hk:k<4) (x:Nat):SBox (W.setCell ⟨B,k,none⟩ (.int .u64 x)) B T (fun j=>if j=k then x else s j):=by
 obtain⟨hlt,hh⟩:=Array.getElem?_eq_some_iff.1 h
 show (W.heap.modify B _)[B]?=_
 rw[Array.getElem?_eq_getElem (by rw[Array.size_modify];exact hlt),Array.getElem_modify_self,hh]
 unfold setC
 match k,hk with
 | 0,_=>rfl
 | 1,_=>rfl
 | 2,_=>rfl
 | 3,_=>rfl
theorem SBox.ext {W:World} {B:Nat} {T:TypeId} {s t:Nat→Nat} (h:SBox W B T s) (e:∀ k,k<4→s k=t k):SBox W B T t:=by
 unfold SBox setC at *;rw[h,e 0 (by omega),e 1 (by omega),e 2 (by omega),e 3 (by omega)]
def RdS (w:World) (b0:Nat) (v:Value) (L:List (Nat→Nat)):Prop :=
 ((∃ q,v=.slice q 0 0)∧L=[])∨∃ b off cap,v=.slice (some ⟨b,off,none⟩) L.length cap∧b<b0∧L.length≤cap∧cap≤maxLen ∧
  ∀ j,(hj:j<L.length)→∀ k,k<4→w.cell? ⟨b,off+j * 4+k,none⟩=some (.int .u64 (L[j] k))
theorem RdS.below {w w':World} {b0:Nat} {v:Value} {L:List (Nat→Nat)} (h:RdS w b0 v L) (hb:Below b0 w w'):RdS w' b0 v L:=by
 rcases h with h|⟨b,off,cap,e,h1,h2,h3,h4⟩
 ·exact .inl h
 ·exact .inr ⟨b,off,cap,e,h1,h2,h3,fun j hj k hk=>(hb.cell (p:=⟨b,off+j * 4+k,none⟩) h1).trans (h4 j hj k hk)⟩
theorem RdS.up {w:World} {b0 b1:Nat} {v:Value} {L:List (Nat→Nat)} (h:RdS w b0 v L) (hb:b0≤b1):RdS w b1 v L:=by
 rcases h with h|⟨b,off,cap,e,h1,h2,h3,h4⟩
 ·exact .inl h
 ·exact .inr ⟨b,off,cap,e,by omega,h2,h3,h4⟩
def zDn (op:Nat→Nat→Nat) (s:Nat→Nat) (L:List (Nat→Nat)):Nat→Nat:=L.foldl (fun a t k=>op (a k) (t k)) s
theorem zJZ (op:Nat→Nat→Nat) (s:Nat→Nat) (L:List (Nat→Nat)) (t:Nat→Nat):zDn op s (L++[t])=fun k=>op (zDn op s L k) (t k):=by simp[zDn]
theorem zHe {op:Nat→Nat→Nat} (hop:∀ x y,x<2 ^ 64→y<2 ^ 64→op x y<2 ^ 64) {L:List (Nat→Nat)}:∀ {s:Nat→Nat},zAs s→(∀ t ∈ L,zAs t)→zAs (zDn op s L):=by
 induction L with
 | nil=>intro s hs _;exact hs
 | cons t L ih =>
  intro s hs hL;exact ih (s:=fun k=>op (s k) (t k)) (fun k hk=>hop _ _ (hs k hk) (hL t (by simp) k hk)) (fun u hu=>hL u (by simp[hu]))
theorem SBox.set4 {W:World} {B:Nat} {T:TypeId} {t:Nat→Nat} (h:SBox W B T t) (s:Nat→Nat) :
  SBox ((((W.setCell ⟨B,0,none⟩ (.int .u64 (s 0))).setCell ⟨B,1,none⟩ (.int .u64 (s 1))).setCell ⟨B,2,none⟩ (.int .u64 (s 2))).setCell ⟨B,3,none⟩ (.int .u64 (s 3))) B T s :=
 ((((h.set (k:=0) (by omega) (s 0)).set (k:=1) (by omega) (s 1)).set (k:=2) (by omega) (s 2)).set (k:=3) (by omega) (s 3)).ext (fun k hk=>by
  match k,hk with
  | 0,_=>rfl
  | 1,_=>rfl
  | 2,_=>rfl
  | 3,_=>rfl)
theorem zBo {W X:World} {B n:Nat} (h:Below n X W) (hB:n≤B) (v0 v1 v2 v3:Value) :
  Below n X ((((W.setCell ⟨B,0,none⟩ v0).setCell ⟨B,1,none⟩ v1).setCell ⟨B,2,none⟩ v2).setCell ⟨B,3,none⟩ v3) :=
 (((h.setCell (p:=⟨B,0,none⟩) hB v0).setCell (p:=⟨B,1,none⟩) hB v1).setCell (p:=⟨B,2,none⟩) hB v2).setCell (p:=⟨B,3,none⟩) hB v3
def zA1 (L:List (Nat→Nat)):Nat→Nat:=zDn (fun x y=>x ||| y) zAF L
def zIV (L:List (Nat→Nat)):Nat→Nat:=zDn (fun x y=>x &&& y) zJs L
theorem zJG (x y:Nat) (hx:x<2 ^ 64) (hy:y<2 ^ 64):x ||| y<2 ^ 64:=Nat.or_lt_two_pow hx hy
theorem zH3 (x y:Nat) (hx:x<2 ^ 64) (_:y<2 ^ 64):x &&& y<2 ^ 64:=Nat.lt_of_le_of_lt Nat.and_le_left hx
def zJr (x _:Nat):Nat:=2 ^ 64 - 1 - x
theorem zLS (x y:Nat) (_:x<2 ^ 64) (_:y<2 ^ 64):zJr x y<2 ^ 64:=by unfold zJr;omega
theorem zKb (s:Nat→Nat):zDn zJr s [zAF]=notS s:=rfl
theorem zJ3:notS zAF=zJs:=rfl
theorem zCJ {L:List (Nat→Nat)} (h:∀ t ∈ L,zAs t):zAs (zA1 L):=zHe zJG zBX h
theorem zMB {L:List (Nat→Nat)} (h:∀ t ∈ L,zAs t):zAs (zIV L):=zHe zH3 zJO h
theorem zIY (L:List (Nat→Nat)) (s:Nat→Nat) (b:Nat):hasB (zDn (fun x y=>x ||| y) s L) b=(hasB s b || L.any (fun t=>hasB t b)):=by
 induction L generalizing s with
 | nil=>simp[zDn]
 | cons t L ih =>
  have:=ih (orS s t);rw[show zDn (fun x y=>x ||| y) s (t::L)=zDn (fun x y=>x ||| y) (orS s t) L from rfl,this,zOR]
  simp[Bool.or_assoc]
theorem zLD (L:List (Nat→Nat)) (b:Nat):hasB (zA1 L) b=L.any (fun t=>hasB t b):=by
 unfold zA1;rw[zIY,zHr];simp
def rowC (L:List (Nat→Nat)):List Value:=L.flatMap (fun s=>(setC s).toList)
theorem zHT {L:List (Nat→Nat)} {j k:Nat} (hj:j<L.length) (hk:k<4):(rowC L)[j * 4+k]?=some (.int .u64 (L[j] k)):=by
 induction L generalizing j with
 | nil=>simp at hj
 | cons s L ih =>
  rw[show rowC (s::L)=(setC s).toList++rowC L from rfl]
  cases j with
  | zero =>
   rw[List.getElem?_append_left (by simp[setC];omega)]
   match k,hk with
   | 0,_=>rfl
   | 1,_=>rfl
   | 2,_=>rfl
   | 3,_=>rfl
  | succ j =>
   rw[List.getElem?_append_right (by simp[setC];omega)]
   have:=ih (j:=j) (by simpa using hj)
   rw[show (j+1) * 4+k - (setC s).toList.length=j * 4+k from by simp[setC];omega,this]
   simp
theorem RdS.lit (w:World) (L:List (Nat→Nat)) (e:TypeId) (hl:L.length≤maxLen):RdS (w.alloc (.cells (rowC L).toArray e)) (w.heap.size+1) (.slice (some ⟨w.heap.size,0,none⟩) L.length L.length) L:=by
 refine .inr ⟨w.heap.size,0,L.length,rfl,by omega,Nat.le_refl _,hl,fun j hj k hk=>?_⟩
 rw[cell_of_row _ w.heap.size (0+j * 4+k) (rowC L).toArray e (0,0) (World.alloc_heap_new w _)];simp only[Nat.zero_add,List.getElem?_toArray];exact zHT hj hk
def ofS (xs:List Int):Nat→Nat:=xs.foldl (fun s b=>addS s b.toNat) zAF
theorem zI8 (xs:List Int) (b:Int):ofS (xs++[b])=addS (ofS xs) b.toNat:=by simp[ofS]
theorem zIX (xs:List Int):∀ s,zAs s→zAs (xs.foldl (fun s b=>addS s b.toNat) s):=by
 induction xs with
 | nil=>exact fun s hs=>hs
 | cons b xs ih=>exact fun s hs=>ih _ (zFr hs _)
theorem zBv (xs:List Int):zAs (ofS xs):=zIX xs _ zBX
theorem zIh (xs:List Int) (c:Nat):∀ s,hasB (xs.foldl (fun s b=>addS s b.toNat) s) c=(hasB s c || xs.any (fun b=>decide (c=b.toNat))):=by
 induction xs with
 | nil=>simp
 | cons b xs ih =>
  intro s;rw[List.foldl_cons,ih,zFx,List.any_cons,Bool.or_assoc]
theorem zN2 (xs:List Int) (c:Nat):hasB (ofS xs) c=xs.any (fun b=>decide (c=b.toNat)):=by
 unfold ofS;rw[zIh,zHr,Bool.false_or]
theorem zLp (x r:Nat) (hx:x<2 ^ 64) (hr:r<64):bits .or .u64 (x:Int) (IntKind.u64.wrap (2 ^ r))=((x ||| 2 ^ r:Nat):Int):=by
 have h:(2 ^ r:Nat)<18446744073709551616:=Nat.pow_lt_pow_right (show 1<2 by omega) hr
 have e:IntKind.u64.wrap (2 ^ r)=((2 ^ r:Nat):Int):=by
  have:((2:Int) ^ r)=((2 ^ r:Nat):Int):=by simp
  rw[this]
  generalize (2 ^ r:Nat)=m at *
  simp only[IntKind.wrap,IntKind.bits,IntKind.signed];simp;omega
 rw[e];exact u64_or_nat x (2 ^ r) hx h
theorem zLK {S:Nat→Nat} {n q r:Nat} (hq:n / 64=q) (hr:n % 64=r):(fun j=>if j=q then S q ||| 2 ^ r else S j)=addS S n:=by
 funext j;unfold addS;rw[hq,hr];split
 ·rename_i h;rw[h]
 ·rfl
def zBO (b:Nat):Nat:=if 97≤b ||| 32∧b ||| 32≤122 then b ^^^ 32 else b
theorem zHi {b:Nat} (h:b<256):zBO b<256:=by
 unfold zBO;split
 ·exact Nat.xor_lt_two_pow (n:=8) h (by omega)
 ·exact h
def zET (s:Nat→Nat) (bs:List Int):Nat→Nat:=bs.foldl (fun o b=>zA1 [o,ofS [(zBO b.toNat:Int)]]) s
theorem zJa (s:Nat→Nat) (bs:List Int) (b:Int):zET s (bs++[b])=zA1 [zET s bs,ofS [(zBO b.toNat:Int)]]:=by simp[zET]
theorem zI7 (bs:List Int):∀ {s:Nat→Nat},zAs s→zAs (zET s bs):=by
 induction bs with
 | nil=>exact fun hs=>hs
 | cons b bs ih =>
  intro s hs
  exact ih (s:=zA1 [s,ofS [(zBO b.toNat:Int)]]) (zCJ (fun t ht=>by
   simp at ht;rcases ht with rfl|rfl
   ·exact hs
   ·exact zBv _))
theorem zLl (bs:List Int) (c:Nat):∀ s,hasB (zET s bs) c=(hasB s c || bs.any (fun b=>decide (c=zBO b.toNat))):=by
 induction bs with
 | nil=>intro s;simp[zET]
 | cons b bs ih =>
  intro s;rw[show zET s (b::bs)=zET (zA1 [s,ofS [(zBO b.toNat:Int)]]) bs from rfl,ih,zLD]
  simp[zN2,Bool.or_assoc]
end
section
open Go.RowKit Go.Shelf
attribute [local go_sem] Oper.semAt_some
theorem zJk {b:Nat} (hb:b<256):∃ r,r<64∧b % 64=r∧((b:Int) % 64=(r:Int))∧((b / 64=0∧(b:Int) / 64=0)∨(b / 64=1∧(b:Int) / 64=1)∨(b / 64=2∧(b:Int) / 64=2)∨(b / 64=3∧(b:Int) / 64=3)) :=
 ⟨b % 64,by omega,rfl,by omega,by omega⟩
theorem zLq (s:Nat→Nat) (hs:zAs s) (b:Nat) (hb:b<256) (w:World) :
  Calls Tryd.prog 75 #[setV s,.int .u8 b] w fun e w'=>e=.returned (.bool (hasB s b))∧Below w.heap.size w w':=by
 obtain⟨r,hr,hr1,hr2,h⟩:=zJk hb;unfold setV;rcases h with ⟨h1,hq⟩|⟨h1,hq⟩|⟨h1,hq⟩|⟨h1,hq⟩
 all_goals
  have H1:=Lib.hid h1;clear h1;have HR:=Lib.hid hr1;clear hr1
  go_enter Tryd.func75,Tryd.ntmps75
  go_wp2
  go_ret;refine⟨?_,(Below.refl _ _).alloc (Nat.le_refl _) _⟩;have:=zMl (s (b / 64)) r (hs _ (by omega))
  rw[H1.out]at this;unfold hasB;rw[H1.out,HR.out];exact congrArg (fun x=>Ending.returned (Value.bool x)) this
theorem zNz (x y:Nat) (hx:x<2 ^ 64) (hy:y<2 ^ 64) (w:World):Calls Tryd.prog 76 #[.int .u64 x,.int .u64 y] w fun e w'=>e=.returned (.int .u64 ((x ||| y:Nat):Int))∧w=w':=by
 go_enter Tryd.func76,Tryd.ntmps76
 go_wp2
 go_ret;exact⟨congrArg (fun z=>Ending.returned (Value.int .u64 z)) (u64_or_nat x y hx hy),rfl⟩
theorem zNm (x y:Nat) (hx:x<2 ^ 64) (hy:y<2 ^ 64) (w:World):Calls Tryd.prog 94 #[.int .u64 x,.int .u64 y] w fun e w'=>e=.returned (.int .u64 ((x &&& y:Nat):Int))∧w=w':=by
 go_enter Tryd.func94,Tryd.ntmps94
 go_wp2
 go_ret;exact⟨congrArg (fun z=>Ending.returned (Value.int .u64 z)) (u64_and_nat x y hx hy),rfl⟩
theorem zMN (x y:Nat) (hx:x<2 ^ 64) (w:World):Calls Tryd.prog 47 #[.int .u64 x,.int .u64 y] w fun e w'=>e=.returned (.int .u64 (zJr x y:Nat))∧w=w':=by
 unfold zJr;have hsg:IntKind.u64.signed=false:=rfl
 go_enter Tryd.func47,Tryd.ntmps47
 go_wp2
 go_ret;refine⟨congrArg (fun z=>Ending.returned (Value.int .u64 z)) ?_,rfl⟩
 have e:IntKind.u64.max=((2 ^ 64 - 1:Nat):Int):=by decide
 rw[e,u64_xor_nat (2 ^ 64 - 1) x (by omega) hx]
 congr 1
 apply Nat.eq_of_testBit_eq;intro i;have h:=Nat.testBit_two_pow_sub_succ hx i;rw[show 2 ^ 64 - (x+1)=2 ^ 64 - 1 - x from by omega]at h
 rw[h,Nat.testBit_xor,Nat.testBit_two_pow_sub_one]
 by_cases hi:i<64
 ·simp[hi]
 ·rw[Nat.testBit_lt_two_pow (Nat.lt_of_lt_of_le hx (Nat.pow_le_pow_right (by omega) (by omega)))];simp[hi]
theorem zHU (g:Nat) (op:Nat→Nat→Nat) (hop:∀ x y,x<2 ^ 64→y<2 ^ 64→op x y<2 ^ 64) (eg:∀ args w,(callFunc g args).run Tryd.prog w=.ok (.enter g args) w)
  (hg:∀ (x y:Nat) (w:World),x<2 ^ 64→y<2 ^ 64→Calls Tryd.prog g #[.int .u64 x,.int .u64 y] w fun e w'=>e=.returned (.int .u64 (op x y:Nat))∧w=w')
  (s:Nat→Nat) (hs:zAs s) (v:Value) (L:List (Nat→Nat)) (hL:∀ t ∈ L,zAs t) (w:World) (h:RdS w w.heap.size v L) :
  Calls Tryd.prog 46 #[setV s,v,.func (.func g) #[] #[]] w fun e w'=>e=.returned (setV (zDn op s L))∧Below w.heap.size w w':=by
 rw[show setV s=.agg #[.int .u64 (s 0),.int .u64 (s 1),.int .u64 (s 2),.int .u64 (s 3)] from rfl]
 rcases h with ⟨⟨q,rfl⟩,rfl⟩|⟨b,off,cap,rfl,hb,hcl,hcm,hc⟩
 ·go_enter Tryd.func46,Tryd.ntmps46
  go_wp2
  have h1:SBox ((w.alloc (.cells (setC s) 28)).alloc (.cells (setC zAF) 28)) w.heap.size 28 s:=(SBox.new w _ s).alloc _;have h2:=SBox.new (w.alloc (.cells (setC s) 28)) 28 zAF;rw[World.size_alloc]at h2;have h3:Below w.heap.size w ((w.alloc (.cells (setC s) 28)).alloc (.cells (setC zAF) 28)):=((Below.refl _ w).alloc (Nat.le_refl _) _).alloc (by simp) _
  go_loopw [12] (fun i wr=>i=.int .i64 0∧Hid (SBox wr w.heap.size 28 s∧SBox wr (w.heap.size+1) 28 zAF∧Below w.heap.size w wr)) (fun _ _=>0)
  case atStart=>exact⟨rfl,h1,h2,h3⟩
  case round =>
   clear h1 h2 h3;obtain⟨rfl,H⟩:=hrel;have ⟨b1,b2,bel⟩:=H.out;have c0:=b1.cell (k:=0) (by omega);have c1:=b1.cell (k:=1) (by omega);have c2:=b1.cell (k:=2) (by omega);have c3:=b1.cell (k:=3) (by omega)
   have d0:=b2.cell (k:=0) (by omega);have d1:=b2.cell (k:=1) (by omega);have d2:=b2.cell (k:=2) (by omega);have d3:=b2.cell (k:=3) (by omega)
   have f0:=b2.frozen 0;have f1:=b2.frozen 1;have f2:=b2.frozen 2;have f3:=b2.frozen 3
   go_wp2
   have b3:=b2.set4 s;have e0:=b3.cell (k:=0) (by omega);have e1:=b3.cell (k:=1) (by omega);have e2:=b3.cell (k:=2) (by omega);have e3:=b3.cell (k:=3) (by omega)
   exact bodyPost_ret (v:=setV s) (by unfold setV;simp[results,Tryd.results46,go_sem,e0,e1,e2,e3]) rfl ⟨rfl,zBo bel (by omega) _ _ _ _⟩
 ·have Hc:=Lib.hid hc;clear hc;have hlen:L.length≤9223372036854775807:=by unfold maxLen at hcm;omega
  go_enter Tryd.func46,Tryd.ntmps46
  go_wp2
  have h1:SBox ((w.alloc (.cells (setC s) 28)).alloc (.cells (setC zAF) 28)) w.heap.size 28 s:=(SBox.new w _ s).alloc _;have h2:=SBox.new (w.alloc (.cells (setC s) 28)) 28 zAF;rw[World.size_alloc]at h2;have h3:Below w.heap.size w ((w.alloc (.cells (setC s) 28)).alloc (.cells (setC zAF) 28)):=((Below.refl _ w).alloc (Nat.le_refl _) _).alloc (by simp) _
  have HL:=Lib.hid hL;clear hL;have HG:=Lib.hid hg;clear hg;have HOP:=Lib.hid hop;clear hop
  go_loopw [8,9,12,16] (fun _ _ i _ wr=>∃ j:Nat,j≤L.length∧i=.int .i64 j∧Hid (SBox wr w.heap.size 28 (zDn op s (L.take j))∧SBox wr (w.heap.size+1) 28 zAF∧Below w.heap.size w wr)) (fun _ _ i _ _=>L.length - (intOf i).toNat)
  case atStart=>exact⟨0,Nat.zero_le _,rfl,h1,h2,h3⟩
  case round =>
   clear h1 h2 h3;obtain⟨j,hj,rfl,H⟩:=hrel;have ⟨b1,b2,bel⟩:=H.out
   by_cases hlt:j<L.length
   ·have k0:=(bel.cell (p:=⟨b,off+j * 4+0,none⟩) hb).trans (Hc.out j hlt 0 (by omega))
    have k1:=(bel.cell (p:=⟨b,off+j * 4+1,none⟩) hb).trans (Hc.out j hlt 1 (by omega))
    have k2:=(bel.cell (p:=⟨b,off+j * 4+2,none⟩) hb).trans (Hc.out j hlt 2 (by omega))
    have k3:=(bel.cell (p:=⟨b,off+j * 4+3,none⟩) hb).trans (Hc.out j hlt 3 (by omega))
    simp only[Nat.add_zero]at k0;have hS:=zHe HOP.out hs (L:=L.take j) (fun t ht=>HL.out t (List.mem_of_mem_take ht))
    have ht:=HL.out L[j] (List.getElem_mem hlt);have hnext:zDn op s (L.take (j+1))=fun k=>op (zDn op s (L.take j) k) (L[j] k):=by
     rw[List.take_succ_eq_append_getElem hlt,zJZ]
    have Hnext:=Lib.hid hnext;clear hnext
    generalize zDn op s (L.take j)=S at b1 hS Hnext
    generalize L[j]=t at k0 k1 k2 k3 ht Hnext
    go_wp2
    have g1:SBox (wr.alloc (.cells (setC t) 28)) wr.heap.size 28 t:=SBox.new wr _ t;have g2:=b1.alloc (.cells (setC t) 28);have g3:=b2.alloc (.cells (setC t) 28);have g4:=bel.alloc bel.size (.cells (setC t) 28);have hsz:=b2.lt;clear k0 k1 k2 k3 b1 b2;clear H;have BEL:=Lib.hid bel;clear bel;obtain⟨wo,rfl⟩:∃ wo:World,wo=wr:=⟨_,rfl⟩
    go_loopw [9,16] (fun _ i wr=>∃ k:Nat,k≤4∧i=.int .i64 k∧Hid (SBox wr w.heap.size 28 (fun m=>if m<k then op (S m) (t m) else S m)∧SBox wr wo.heap.size 28 t∧SBox wr (w.heap.size+1) 28 zAF∧Below w.heap.size w wr)) (fun _ i _=>4 - (intOf i).toNat)
    case atStart=>exact⟨0,Nat.zero_le _,rfl,g2.ext (fun k _=>by simp),g1,g3,g4⟩
    case round =>
     clear g1 g2 g3 g4;obtain⟨k,hk,rfl,H⟩:=hrel;have ⟨b1,b2,b3,bel⟩:=H.out
     by_cases hk4:k<4
     ·have c1:=b1.cell hk4;have c2:=b2.cell hk4;have fz:=b1.frozen k;simp only[Nat.lt_irrefl,if_false]at c1;have hx:=hS k hk4;have hy:=ht k hk4;have hcall:=fun w=>(HG.out (S k) (t k) w hx hy).mono (R':=fun e w'=>e=.returned (.int .u64 (op (S k) (t k):Nat))∧w'=w) (fun e w' h=>⟨h.1,h.2.symm⟩)
      have HC:=Lib.hid hcall;clear hcall
      go_wp2_with fail
      refine zGY 10 (by kernel_rfl) (by kernel_rfl) ?_
      intro w2 hw2;have c1':w2.cell? ⟨w.heap.size,k,none⟩=some (.int .u64 (S k)):=by rw[hw2];exact c1
      have c2':w2.cell? ⟨wo.heap.size,k,none⟩=some (.int .u64 (t k)):=by rw[hw2];exact c2
      have fz':w2.frozen? ⟨w.heap.size,k,none⟩=false:=by rw[hw2];exact fz
      have HW2:=Lib.hid hw2;clear hw2;clear c1 c2 fz;simp only[List.take_succ_cons,List.take_zero,List.drop_succ_cons,List.drop_zero]
      repeat (first|still_step|still_call (HC.out _))
      refine wpStill_nil ?_
      go_wp2
      go_roundw
      case rel =>
       have e1:SBox w2 w.heap.size 28 (fun m=>if m<k then op (S m) (t m) else S m):=by rw[HW2.out];exact b1
       have e2:SBox w2 wo.heap.size 28 t:=by rw[HW2.out];exact b2
       have e3:SBox w2 (w.heap.size+1) 28 zAF:=by rw[HW2.out];exact b3
       have e4:Below w.heap.size w w2:=by rw[HW2.out];exact bel.drew
       refine⟨k+1,by omega,by go_num,(e1.set hk4 (op (S k) (t k))).ext (fun m _=>?_),e2.other (by omega) _ _,e3.other (by omega) _ _,e4.setCell (p:=⟨w.heap.size,k,none⟩) (Nat.le_refl _) _⟩
       by_cases h1:m=k
       ·subst h1;simp
       ·by_cases h2:m<k
        ·rw[if_neg h1,if_pos h2,if_pos (by omega)]
        ·rw[if_neg h1,if_neg h2,if_neg (by omega)]
      case measure=>simp[intOf];omega
     ·obtain rfl:k=4:=by omega
      go_wp2
      go_roundw
      case rel=>exact⟨j+1,by omega,by go_num,by rw[Hnext.out];exact b1.ext (fun m hm=>by rw[if_pos hm]),b3,bel⟩
      case measure=>simp[intOf];omega
   ·obtain rfl:j=L.length:=by omega
    rw[List.take_length]at b1;obtain⟨u,hu⟩:∃ u,zDn op s L=u:=⟨_,rfl⟩;rw[hu]at b1;have HU:=Lib.hid hu;clear hu;have c0:=b1.cell (k:=0) (by omega);have c1:=b1.cell (k:=1) (by omega);have c2:=b1.cell (k:=2) (by omega);have c3:=b1.cell (k:=3) (by omega)
    have d0:=b2.cell (k:=0) (by omega);have d1:=b2.cell (k:=1) (by omega);have d2:=b2.cell (k:=2) (by omega);have d3:=b2.cell (k:=3) (by omega)
    have f0:=b2.frozen 0;have f1:=b2.frozen 1;have f2:=b2.frozen 2;have f3:=b2.frozen 3
    go_wp2
    have b3:=b2.set4 u;have e0:=b3.cell (k:=0) (by omega);have e1:=b3.cell (k:=1) (by omega);have e2:=b3.cell (k:=2) (by omega);have e3:=b3.cell (k:=3) (by omega)
    exact bodyPost_ret (v:=setV u) (by unfold setV;simp[results,Tryd.results46,go_sem,e0,e1,e2,e3]) rfl ⟨by rw[HU.out],zBo bel (by omega) _ _ _ _⟩
theorem zCO (s:Nat→Nat) (hs:zAs s) (w:World):Calls Tryd.prog 34 #[setV s] w fun e w'=>e=.returned (setV (notS s))∧Below w.heap.size w w':=by
 rw[show setV s=.agg #[.int .u64 (s 0),.int .u64 (s 1),.int .u64 (s 2),.int .u64 (s 3)] from rfl]
 go_enter Tryd.func34,Tryd.ntmps34
 go_wp2_with fail
 have b1:SBox (((w.alloc (.cells (setC s) 28)).alloc (.cells (setC zAF) 28)).alloc (.cells (setC zAF) 28)) (w.heap.size+1) 28 zAF:=by
  have:=(SBox.new (w.alloc (.cells (setC s) 28)) 28 zAF).alloc (.cells (setC zAF) 28)
  rwa [World.size_alloc]at this
 have bel:Below w.heap.size w (((w.alloc (.cells (setC s) 28)).alloc (.cells (setC zAF) 28)).alloc (.cells (setC zAF) 28)):=(((Below.refl _ w).alloc (Nat.le_refl _) _).alloc (by simp) _).alloc (by simp;omega) _
 have rd:=RdS.lit ((w.alloc (.cells (setC s) 28)).alloc (.cells (setC zAF) 28)) [zAF] 28 (by simp[maxLen])
 rw[World.size_alloc,World.size_alloc]at rd;have rd':RdS (((w.alloc (.cells (setC s) 28)).alloc (.cells (setC zAF) 28)).alloc (.cells (setC zAF) 28)) (((w.alloc (.cells (setC s) 28)).alloc (.cells (setC zAF) 28)).alloc (.cells (setC zAF) 28)).heap.size (.slice (some ⟨w.heap.size+1+1,0,none⟩) 1 1) [zAF]:=by
  rw[World.size_alloc,World.size_alloc,World.size_alloc];exact rd
 refine(zHU 47 zJr zLS (enters_of Tryd.func47 (by kernel_rfl) rfl) (fun x y w hx _=>zMN x y hx w) s hs _ [zAF] (fun t ht=>by simp at ht;subst ht;exact zBX) _ rd').mono ?_
 rintro e w1 ⟨rfl,bel1⟩;have b2:=b1.below bel1 (by simp)
 have bel2:=bel.trans (bel1.mono bel.size);rw[zKb];clear b1 bel bel1 rd rd';obtain⟨u,hu⟩:∃ u,notS s=u:=⟨_,rfl⟩;rw[hu];have HU:=Lib.hid hu;clear hu;unfold setV;have d0:=b2.cell (k:=0) (by omega);have d1:=b2.cell (k:=1) (by omega);have d2:=b2.cell (k:=2) (by omega);have d3:=b2.cell (k:=3) (by omega)
 have f0:=b2.frozen 0;have f1:=b2.frozen 1;have f2:=b2.frozen 2;have f3:=b2.frozen 3
 go_wp2
 have b3:=b2.set4 u;have e0:=b3.cell (k:=0) (by omega);have e1:=b3.cell (k:=1) (by omega);have e2:=b3.cell (k:=2) (by omega);have e3:=b3.cell (k:=3) (by omega)
 exact bodyPost_ret (v:=setV u) (by unfold setV;simp[results,Tryd.results34,go_sem,e0,e1,e2,e3]) rfl ⟨by rw[HU.out],zBo bel2 (by omega) _ _ _ _⟩
theorem zCb (v:Value) (L:List (Nat→Nat)) (hL:∀ t ∈ L,zAs t) (w:World) (h:RdS w w.heap.size v L):Calls Tryd.prog 63 #[v] w fun e w'=>e=.returned (setV (zA1 L))∧Below w.heap.size w w':=by
 go_enter Tryd.func63,Tryd.ntmps63
 go_wp2_with fail
 have b1:SBox (w.alloc (.cells (setC zAF) 28)) w.heap.size 28 zAF:=SBox.new w _ _;have bel:Below w.heap.size w (w.alloc (.cells (setC zAF) 28)):=(Below.refl _ w).alloc (Nat.le_refl _) _;refine(zHU 76 (fun x y=>x ||| y) zJG (enters_of Tryd.func76 (by kernel_rfl) rfl) (fun x y w hx hy=>zNz x y hx hy w) zAF zBX _ L hL _ ((h.below bel).up (by simp))).mono ?_
 rintro e w1 ⟨rfl,bel1⟩;have b2:=b1.below bel1 (by simp)
 have bel2:=bel.trans (bel1.mono bel.size);rw[show zDn (fun x y=>x ||| y) zAF L=zA1 L from rfl]
 clear b1 bel bel1 h;obtain⟨u,hu⟩:∃ u,zA1 L=u:=⟨_,rfl⟩;rw[hu];have HU:=Lib.hid hu;clear hu;unfold setV;have d0:=b2.cell (k:=0) (by omega);have d1:=b2.cell (k:=1) (by omega);have d2:=b2.cell (k:=2) (by omega);have d3:=b2.cell (k:=3) (by omega)
 have f0:=b2.frozen 0;have f1:=b2.frozen 1;have f2:=b2.frozen 2;have f3:=b2.frozen 3
 go_wp2
 have b3:=b2.set4 u;have e0:=b3.cell (k:=0) (by omega);have e1:=b3.cell (k:=1) (by omega);have e2:=b3.cell (k:=2) (by omega);have e3:=b3.cell (k:=3) (by omega)
 exact bodyPost_ret (v:=setV u) (by unfold setV;simp[results,Tryd.results63,go_sem,e0,e1,e2,e3]) rfl ⟨by rw[HU.out],zBo bel2 (Nat.le_refl _) _ _ _ _⟩
theorem zMU (v:Value) (L:List (Nat→Nat)) (hL:∀ t ∈ L,zAs t) (w:World) (h:RdS w w.heap.size v L):Calls Tryd.prog 87 #[v] w fun e w'=>e=.returned (setV (zIV L))∧Below w.heap.size w w':=by
 go_enter Tryd.func87,Tryd.ntmps87
 go_wp2_with fail
 have b1:SBox (w.alloc (.cells (setC zAF) 28)) w.heap.size 28 zAF:=SBox.new w _ _;have bel:Below w.heap.size w (w.alloc (.cells (setC zAF) 28)):=(Below.refl _ w).alloc (Nat.le_refl _) _;refine(zCO zAF zBX _).mono ?_
 rintro e w0 ⟨rfl,bel0⟩;rw[zJ3];have b1':=b1.below bel0 (by simp)
 have bel':=bel.trans (bel0.mono bel.size);clear b1 bel bel0
 go_wp2_with fail
 refine(zHU 94 (fun x y=>x &&& y) zH3 (enters_of Tryd.func94 (by kernel_rfl) rfl) (fun x y w hx hy=>zNm x y hx hy w) zJs zJO _ L hL _ ((h.below bel').up bel'.size)).mono ?_
 rintro e w1 ⟨rfl,bel1⟩;have b2:=b1'.below bel1 b1'.lt;have bel2:=bel'.trans (bel1.mono bel'.size);rw[show zDn (fun x y=>x &&& y) zJs L=zIV L from rfl]
 clear b1' bel' bel1 h;obtain⟨u,hu⟩:∃ u,zIV L=u:=⟨_,rfl⟩;rw[hu];have HU:=Lib.hid hu;clear hu;unfold setV;have d0:=b2.cell (k:=0) (by omega);have d1:=b2.cell (k:=1) (by omega);have d2:=b2.cell (k:=2) (by omega);have d3:=b2.cell (k:=3) (by omega)
 have f0:=b2.frozen 0;have f1:=b2.frozen 1;have f2:=b2.frozen 2;have f3:=b2.frozen 3
 go_wp2
 have b3:=b2.set4 u;have e0:=b3.cell (k:=0) (by omega);have e1:=b3.cell (k:=1) (by omega);have e2:=b3.cell (k:=2) (by omega);have e3:=b3.cell (k:=3) (by omega)
 exact bodyPost_ret (v:=setV u) (by unfold setV;simp[results,Tryd.results87,go_sem,e0,e1,e2,e3]) rfl ⟨by rw[HU.out],zBo bel2 (Nat.le_refl _) _ _ _ _⟩
theorem Rd.u8' {w:World} {b0:Nat} {v:Value} {xs:List Int} (h:Rd w b0 v (xs.map (.int .u8))) :
  ((∃ q,v=.slice q 0 0)∧xs=[])∨∃ b off cap,v=.slice (some ⟨b,off,none⟩) xs.length cap∧b<b0∧xs.length≤cap∧cap≤maxLen ∧
  ∀ j,(h:j<xs.length)→w.cell? ⟨b,off+j,none⟩=some (.int .u8 xs[j]):=by
 rcases h with ⟨h1,h2⟩|⟨b,off,cap,e,h1,h2,h3,h4⟩
 ·exact .inl ⟨h1,by simpa using h2⟩
 ·refine .inr ⟨b,off,cap,by simpa using e,h1,by simpa using h2,h3,fun j hj=>?_⟩
  rw[h4 j (by simpa using hj)];simp
theorem zFD (v:Value) (xs:List Int) (hx:∀ x ∈ xs,0≤x∧x≤255) (w:World) (h:Rd w w.heap.size v (xs.map (.int .u8))) :
  Calls Tryd.prog 28 #[v] w fun e w'=>e=.returned (setV (ofS xs))∧Below w.heap.size w w':=by
 have b0:SBox (w.alloc (.cells (setC zAF) 28)) w.heap.size 28 zAF:=SBox.new w _ _;have bel0:Below w.heap.size w (w.alloc (.cells (setC zAF) 28)):=(Below.refl _ w).alloc (Nat.le_refl _) _;have HX:=Lib.hid hx;clear hx;rcases h.u8' with ⟨⟨q,rfl⟩,rfl⟩|⟨b,off,cap,rfl,hb,hcl,hcm,hc⟩
 ·go_enter Tryd.func28,Tryd.ntmps28
  go_wp2
  go_loopw [7] (fun i wr=>i=.int .i64 0∧Hid (SBox wr w.heap.size 28 zAF∧Below w.heap.size w wr)) (fun _ _=>0)
  case atStart=>exact⟨rfl,b0,bel0⟩
  case round =>
   clear b0 bel0;obtain⟨rfl,H⟩:=hrel;have ⟨b2,bel2⟩:=H.out;clear H h;have HU:=Lib.hid (show ofS []=zAF from rfl)
   generalize zAF=u at b2 HU
   have c0:=b2.cell (k:=0) (by omega);have c1:=b2.cell (k:=1) (by omega);have c2:=b2.cell (k:=2) (by omega);have c3:=b2.cell (k:=3) (by omega)
   have f0:=b2.frozen 0;have f1:=b2.frozen 1;have f2:=b2.frozen 2;have f3:=b2.frozen 3
   go_wp2
   have b3:=b2.set4 u;have e0:=b3.cell (k:=0) (by omega);have e1:=b3.cell (k:=1) (by omega);have e2:=b3.cell (k:=2) (by omega);have e3:=b3.cell (k:=3) (by omega)
   exact bodyPost_ret (v:=setV u) (by unfold setV;simp[results,Tryd.results28,go_sem,e0,e1,e2,e3]) rfl ⟨by rw[HU.out],zBo bel2 (Nat.le_refl _) _ _ _ _⟩
 ·have hlen:xs.length≤9223372036854775807:=by unfold maxLen at hcm;omega
  have Hc:=Lib.hid hc;clear hc h
  go_enter Tryd.func28,Tryd.ntmps28
  go_wp2
  go_loopw [4,7] (fun _ i wr=>∃ j:Nat,j≤xs.length∧i=.int .i64 j∧Hid (SBox wr w.heap.size 28 (ofS (xs.take j))∧Below w.heap.size w wr)) (fun _ i _=>xs.length - (intOf i).toNat)
  case atStart=>exact⟨0,Nat.zero_le _,rfl,b0,bel0⟩
  case round =>
   clear b0 bel0;obtain⟨j,hj,rfl,H⟩:=hrel;have ⟨b2,bel2⟩:=H.out;clear H
   by_cases hlt:j<xs.length
   ·have hcell:=(bel2.cell (p:=⟨b,off+j,none⟩) hb).trans (Hc.out j hlt);obtain⟨hx0,hx1⟩:=HX.out xs[j] (List.getElem_mem hlt);have hn:ofS (xs.take (j+1))=addS (ofS (xs.take j)) (xs[j]).toNat:=by rw[List.take_succ_eq_append_getElem hlt,zI8]
    have HN:=Lib.hid hn;clear hn;have hS:=zBv (xs.take j)
    generalize ofS (xs.take j)=S at b2 HN hS
    generalize xs[j]=x at hcell hx0 hx1 HN
    obtain⟨n,rfl⟩:∃ n:Nat,x=n:=⟨x.toNat,by omega⟩
    obtain⟨q,hq⟩:∃ q:Nat,n / 64=q:=⟨_,rfl⟩;obtain⟨r,hr⟩:∃ r:Nat,n % 64=r:=⟨_,rfl⟩;have hq4:q<4:=by omega
    have hr64:r<64:=by omega
    have hqi:(n:Int) / 64=(q:Int):=by omega
    have hri:(n:Int) % 64=(r:Int):=by omega
    have HQ:=Lib.hid hq;clear hq;have HR:=Lib.hid hr;clear hr;have hc1:=b2.cell hq4;have hf1:=b2.frozen q
    go_wp2
    go_roundw
    case rel =>
     refine⟨j+1,by omega,by go_num,?_,bel2.setCell (p:=⟨w.heap.size,q,none⟩) (Nat.le_refl _) _⟩
     rw[zLp _ _ (hS q hq4) hr64,HN.out,Int.toNat_natCast,← zLK HQ.out HR.out];exact b2.set hq4 _
    case measure=>simp[intOf];omega
   ·obtain rfl:j=xs.length:=by omega
    rw[List.take_length]at b2;obtain⟨u,hu⟩:∃ u,ofS xs=u:=⟨_,rfl⟩;rw[hu]at b2;have HU:=Lib.hid hu;clear hu;have c0:=b2.cell (k:=0) (by omega);have c1:=b2.cell (k:=1) (by omega);have c2:=b2.cell (k:=2) (by omega);have c3:=b2.cell (k:=3) (by omega)
    have f0:=b2.frozen 0;have f1:=b2.frozen 1;have f2:=b2.frozen 2;have f3:=b2.frozen 3
    go_wp2
    have b3:=b2.set4 u;have e0:=b3.cell (k:=0) (by omega);have e1:=b3.cell (k:=1) (by omega);have e2:=b3.cell (k:=2) (by omega);have e3:=b3.cell (k:=3) (by omega)
    exact bodyPost_ret (v:=setV u) (by unfold setV;simp[results,Tryd.results28,go_sem,e0,e1,e2,e3]) rfl ⟨by rw[HU.out],zBo bel2 (Nat.le_refl _) _ _ _ _⟩
def zAm (lo n:Nat):Nat→Nat:=ofS ((List.range' lo n).map (fun k:Nat=>(k:Int)))
theorem zIZ (lo n:Nat):zAm lo (n+1)=addS (zAm lo n) (lo+n):=by
 unfold zAm;rw[List.range'_concat,List.map_append,List.map_cons,List.map_nil,zI8];simp only[Int.toNat_natCast,Nat.one_mul]
theorem zB5 (lo hi:Nat) (hlo:lo≤255) (hhi:hi≤255) (w:World) :
  Calls Tryd.prog 83 #[.int .u8 lo,.int .u8 hi] w fun e w'=>e=.returned (setV (zAm lo (hi+1 - lo)))∧Below w.heap.size w w':=by
 have b0:SBox (w.alloc (.cells (setC zAF) 28)) w.heap.size 28 zAF:=SBox.new w _ _;have bel0:Below w.heap.size w (w.alloc (.cells (setC zAF) 28)):=(Below.refl _ w).alloc (Nat.le_refl _) _
 go_enter Tryd.func83,Tryd.ntmps83
 go_wp2
 go_loopw [5] (fun i wr=>∃ m:Nat,m≤hi+1 - lo∧i=.int .i64 ((lo+m:Nat):Int)∧Hid (SBox wr w.heap.size 28 (zAm lo m)∧Below w.heap.size w wr)) (fun i _=>256 - (intOf i).toNat)
 case atStart=>exact⟨0,Nat.zero_le _,rfl,b0,bel0⟩
 case round =>
  clear b0 bel0;obtain⟨m,hm,rfl,H⟩:=hrel;have ⟨b2,bel2⟩:=H.out;clear H;obtain⟨n,hn⟩:∃ n,lo+m=n:=⟨_,rfl⟩;rw[hn];have HN:=Lib.hid hn;clear hn;have hn2:n≤hi+1∨n=lo:=by have:=HN.out;omega
  by_cases hlt:n≤hi
  ·have hnext:=zIZ lo m;rw[HN.out]at hnext;have hS:zAs (zAm lo m):=zBv _;have Hnext:=Lib.hid hnext;clear hnext
   generalize zAm lo m=S at b2 Hnext hS
   obtain⟨q,hq⟩:∃ q:Nat,n / 64=q:=⟨_,rfl⟩;obtain⟨r,hr⟩:∃ r:Nat,n % 64=r:=⟨_,rfl⟩;have hq4:q<4:=by omega
   have hr64:r<64:=by omega
   have hqi:(n:Int) / 64=(q:Int):=by omega
   have hri:(n:Int) % 64=(r:Int):=by omega
   have HQ:=Lib.hid hq;clear hq;have HR:=Lib.hid hr;clear hr;have hc1:=b2.cell hq4;have hf1:=b2.frozen q
   go_wp2_with fail
   have B2:=Lib.hid b2;clear b2;have BEL2:=Lib.hid bel2;clear bel2
   go_region
   go_wp2
   go_roundw
   case rel =>
    refine⟨m+1,by have:=HN.out;omega,by have:=HN.out;go_num,?_,(BEL2.out.setCell (p:=⟨w.heap.size,q,none⟩) (Nat.le_refl _) _).drew⟩
    rw[zLp _ _ (hS q hq4) hr64,Hnext.out,← zLK HQ.out HR.out];exact(B2.out.set hq4 _).below (n:=w.heap.size+1) ⟨rfl,rfl,rfl,Nat.le_refl _,fun _ _=>rfl⟩ (by omega)
   case measure=>simp[intOf];omega
  ·have hm2:m=hi+1 - lo:=by have:=HN.out;omega
   subst hm2;obtain⟨u,hu⟩:∃ u,zAm lo (hi+1 - lo)=u:=⟨_,rfl⟩;rw[hu]at b2;have HU:=Lib.hid hu;clear hu;have c0:=b2.cell (k:=0) (by omega);have c1:=b2.cell (k:=1) (by omega);have c2:=b2.cell (k:=2) (by omega);have c3:=b2.cell (k:=3) (by omega)
   have f0:=b2.frozen 0;have f1:=b2.frozen 1;have f2:=b2.frozen 2;have f3:=b2.frozen 3
   go_wp2
   have b3:=b2.set4 u;have e0:=b3.cell (k:=0) (by omega);have e1:=b3.cell (k:=1) (by omega);have e2:=b3.cell (k:=2) (by omega);have e3:=b3.cell (k:=3) (by omega)
   exact bodyPost_ret (v:=setV u) (by unfold setV;simp[results,Tryd.results83,go_sem,e0,e1,e2,e3]) rfl ⟨by rw[HU.out],zBo bel2 (Nat.le_refl _) _ _ _ _⟩
def zCz (s:Nat→Nat) (k:Nat):List Int:=((List.range k).filter (hasB s)).map (fun n:Nat=>(n:Int))
def zDM (s:Nat→Nat):List Int:=zCz s 256
theorem zDJ {s:Nat→Nat} {k:Nat} (h:hasB s k=true):zCz s (k+1)=zCz s k++[(k:Int)]:=by
 unfold zCz;rw[List.range_succ,List.filter_append,List.map_append];simp[h]
theorem zFR {s:Nat→Nat} {k:Nat} (h:hasB s k=false):zCz s (k+1)=zCz s k:=by
 unfold zCz;rw[List.range_succ,List.filter_append,List.map_append];simp[h]
theorem zDR (s:Nat→Nat) {j k:Nat} (h:j≤k):zCz s j <+: zCz s k:=by
 induction k with
 | zero =>
      have:j=0:=by omega
      subst this;exact List.prefix_rfl
 | succ k ih =>
  by_cases e:j=k+1
  ·subst e;exact List.prefix_rfl
  ·refine(ih (by omega)).trans ?_
   cases hb:hasB s k with
   | true=>rw[zDJ hb];exact List.prefix_append _ _
   | false=>rw[zFR hb];exact List.prefix_rfl
theorem zHA {s:Nat→Nat} {x:Int} (h:x ∈ zDM s):∃ n:Nat,n<256∧x=n∧hasB s n=true:=by
 obtain⟨n,hn,rfl⟩:=List.mem_map.1 h;have:=List.mem_filter.1 hn;exact⟨n,by simpa using this.1,rfl,this.2⟩
theorem zNl (l Bs:Nat) (s:Nat→Nat) (hs:zAs s) (J Jx:List Int→World→Prop) (Kp:World→World→Prop)
  (hJ:∀ pre W W',J pre W→Below W.heap.size W W'→J pre W')
  (hY:∀ pre x W,J pre W→x ∈ zDM s→pre.length<(zDM s).length→YieldAt Fence.wide 7 Tryd.prog l #[.int .u8 x] W fun e W' =>
   (e=.returned (.bool true)∧J (pre++[x]) W'∧Kp W W')∨(e=.returned (.bool false)∧Jx (pre++[x]) W'))
  (hKp:∀ W W',SBox W Bs 28 s→Kp W W'→SBox W' Bs 28 s)
  (W:World) (hB:SBox W Bs 28 s) (h0:J [] W) :
  CallsIn Fence.wide 8 Tryd.prog 74 #[.func (.yield l) #[] #[],.pointer (some ⟨Bs,0,none⟩)] W fun e W'=>(∃ v,e=.returned v) ∧
   ((∃ ys,ys=zDM s∧J ys W')∨(∃ pre,pre <+: zDM s∧Jx pre W')):=by
 refine callsIn_of_wp Tryd.func74 rfl trivial ?_ rfl;simp only[Tryd.ntmps74,List.size_toArray,List.length_cons,List.length_nil,Nat.reduceAdd,Nat.reduceSub,Array.replicate_succ,Array.replicate_zero,List.push_toArray,List.append_toArray,List.nil_append,List.cons_append]
 gi_wp2
 apply zJj
 gi_wp2
 apply wpIn_label
 gi_wp2
 have HY:=Lib.hid hY;clear hY;have HK:=Lib.hid hKp;clear hKp;have HJ:=Lib.hid hJ;clear hJ
 gi_loopw [4] (fun i wr=>∃ k:Nat,i=.int .i64 k∧k≤256∧Hid (J (zCz s k) wr∧SBox wr Bs 28 s))
  (fun i _=>256 - (intOf i).toNat)
 case atStart=>exact⟨0,rfl,by omega,h0,hB⟩
 case round =>
  clear h0 hB;obtain⟨k,rfl,hk,H⟩:=hrel;have ⟨hj,hb⟩:=H.out;clear H;have c0:=hb.cell (k:=0) (by omega);have c1:=hb.cell (k:=1) (by omega);have c2:=hb.cell (k:=2) (by omega);have c3:=hb.cell (k:=3) (by omega)
  have Hj:=Lib.hid hj;clear hj;have Hb:=Lib.hid hb;clear hb
  by_cases hlt:k<256
  ·gi_wp2_with fail
   refine⟨trivial,(callsIn_wide.2 (zLq s hs k hlt wr)).mono ?_⟩
   rintro e w1 ⟨rfl,bel⟩;have hj1:=HJ.out _ _ _ Hj.out bel;have hb1:=Hb.out.below bel Hb.out.lt;clear c0 c1 c2 c3
   cases hh:hasB s k with
   | true =>
    have HH:=Lib.hid hh;clear hh;have hmem:(k:Int) ∈ zDM s:=(zDR s (show k+1≤256 by omega)).subset (by rw[zDJ HH.out];simp)
    have hlen:(zCz s k).length<(zDM s).length:=by
     have:=(zDR s (show k+1≤256 by omega)).length_le
     rw[zDJ HH.out]at this;simp at this;exact this
    obtain⟨fn,tmps,assign,body,hy,hR⟩:=HY.out _ (k:Int) w1 hj1 hmem hlen;have HR:=Lib.hid hR;clear hR hmem hlen hj1;have Hb1:=Lib.hid hb1;clear hb1 bel
    gi_wp2
    refine HR.out.mono ?_
    rintro e W3 (⟨rfl,hJ3,hk3⟩|⟨rfl,hJx3⟩)
    ·have hb3:=HK.out _ _ Hb1.out hk3
     gi_wp2
     go_roundw
     case rel=>exact⟨k+1,by go_num,by omega,by rw[zDJ HH.out];exact hJ3,hb3⟩
     case measure=>simp[intOf];omega
    ·gi_wp2
     simp only[Exit.noGoto]
     go_end0
     refine⟨⟨_,rfl⟩,.inr ⟨_,?_,hJx3⟩⟩;rw[← zDJ HH.out];exact zDR s (by omega)
   | false =>
    have HH:=Lib.hid hh;clear hh
    gi_wp2
    go_roundw
    case rel=>exact⟨k+1,by go_num,by omega,by rw[zFR HH.out];exact hj1,hb1⟩
    case measure=>simp[intOf];omega
  ·obtain rfl:k=256:=by omega
   gi_wp2
   simp only[Exit.noGoto]
   go_end0
   exact⟨⟨_,rfl⟩,.inl ⟨_,rfl,Hj.out⟩⟩
theorem zNC (s:Nat→Nat) (w:World):Calls Tryd.prog 62 #[setV s] w fun e w' =>
  ∃ Bs,e=.returned (.func (.func 74) #[] #[.pointer (some ⟨Bs,0,none⟩)])∧w.heap.size≤Bs∧SBox w' Bs 28 s∧Below w.heap.size w w':=by
 rw[show setV s=.agg #[.int .u64 (s 0),.int .u64 (s 1),.int .u64 (s 2),.int .u64 (s 3)] from rfl]
 go_enter Tryd.func62,Tryd.ntmps62
 go_wp2
 go_ret;exact⟨w.heap.size,rfl,Nat.le_refl _,SBox.new w _ s,(Below.refl _ w).alloc (Nat.le_refl _) _⟩
theorem zIA (w:World) (s:Nat→Nat) (hs:zAs s) (Bs:Nat) (hB:SBox w Bs 28 s) :
  Iter Tryd.prog 74 #[.pointer (some ⟨Bs,0,none⟩)] (fun x:Int=>#[.int .u8 x]) (zDM s) (fun k=>k=Bs) w:=by
 intro M hM l J Jx W hW hJ _ hY h0
 refine(zNl l Bs s hs (fun pre W'=>(∃ pre',pre=pre'.map (·.1)∧J pre' W')∧W.heap.size≤W'.heap.size) (fun pre W'=>∃ pre',pre=pre'.map (·.1)∧Jx pre' W') (KeepBut M w.heap.size) ?_ ?_ ?_ W
  (hB.below hW hB.lt) ⟨⟨[],rfl,h0⟩,Nat.le_refl _⟩).mono ?_
 ·rintro pre X Y ⟨⟨pre',rfl,hj⟩,hsz⟩ hb;exact⟨⟨pre',rfl,hJ pre' X Y none hj ⟨hb.os,hb.tape,hb.output,hb.size,fun k hk _=>hb.block k hk⟩ (fun r e=>by cases e)⟩,Nat.le_trans hsz hb.size⟩
 ·rintro pre x W1 ⟨⟨pre',rfl,hj⟩,hsz⟩ hx hl;obtain⟨fn,tmps,assign,body,hy,hR⟩:=hY pre' ⟨x,hx⟩ W1 hj (by simpa using hl)
  refine⟨fn,tmps,assign,body,hy,hR.mono ?_⟩
  rintro e W' (⟨he,hj,hk⟩|⟨he,hj⟩)
  ·exact .inl ⟨he,⟨⟨_,by simp,hj⟩,Nat.le_trans hsz hk.size⟩,hk⟩
  ·exact .inr ⟨he,_,by simp,hj⟩
 ·intro X Y hX hk;exact(hk.old Bs hB.lt (hM Bs rfl).2).trans hX
 ·rintro e W' ⟨hv,⟨ys,rfl,⟨pre',he,hj⟩,_⟩|⟨pre,hp,pre',rfl,hj⟩⟩
  ·exact⟨hv,.inl ⟨pre',he.symm,hj⟩⟩
  ·exact⟨hv,.inr ⟨pre',hp,hj⟩⟩
theorem zKN (b:Nat) (hb:b<256) (w:World):Calls Tryd.prog 64 #[.int .u8 b] w fun e w'=>e=.returned (.int .u8 (zBO b:Nat))∧w=w':=by
 have ho:bits .or .u8 (b:Int) 32=((b ||| 32:Nat):Int):=u8_or_nat b 32 hb (by omega)
 have hx:bits .xor .u8 (b:Int) 32=((b ^^^ 32:Nat):Int):=u8_xor_nat b 32 hb (by omega)
 obtain⟨c,hc⟩:∃ c,b ||| 32=c:=⟨_,rfl⟩
 obtain⟨d,hd⟩:∃ d,b ^^^ 32=d:=⟨_,rfl⟩;have hr:zBO b=if 97≤c∧c≤122 then d else b:=by unfold zBO;rw[hc,hd]
 rw[hc]at ho;rw[hd]at hx;have HR:=Lib.hid hr;clear hr;have HC:=Lib.hid hc;clear hc;have HD:=Lib.hid hd;clear hd
 by_cases h1:97≤c
 ·have h1':decide ((97:Int)≤(c:Int))=true:=by simp;omega
  by_cases h2:c≤122
  ·go_enter Tryd.func64,Tryd.ntmps64
   go_wp2
   go_ret;exact⟨by rw[HR.out,if_pos ⟨h1,h2⟩];rfl,rfl⟩
  ·go_enter Tryd.func64,Tryd.ntmps64
   go_wp2
   go_ret;exact⟨by rw[HR.out,if_neg (by omega)];rfl,rfl⟩
 ·have h1':decide ((97:Int)≤(c:Int))=false:=by simp;omega
  go_enter Tryd.func64,Tryd.ntmps64
  go_wp2
  go_ret;exact⟨by rw[HR.out,if_neg (by omega)];rfl,rfl⟩
def eqS (u s:Nat→Nat):Bool:=(u 0 == s 0)&&(u 1 == s 1)&&(u 2 == s 2)&&(u 3 == s 3)
theorem zMR {u s:Nat→Nat} (h:eqS u s=true):setV u=setV s:=by
 unfold eqS at h;simp at h;obtain⟨⟨⟨h0,h1⟩,h2⟩,h3⟩:=h;unfold setV;rw[h0,h1,h2,h3]
theorem zF6 (u s:Nat→Nat) (W:World):(Op.equalIn 10000 28 (.agg #[.int .u64 (u 0),.int .u64 (u 1),.int .u64 (u 2),.int .u64 (u 3)]) (.agg #[.int .u64 (s 0),.int .u64 (s 1),.int .u64 (s 2),.int .u64 (s 3)])).run Tryd.prog W=.ok (eqS u s) W:=by
 have hi:(Tryd.prog.info? 26).isSome=true:=by kernel_rfl
 obtain⟨i,hi⟩:=Option.isSome_iff_exists.1 hi;have hu:Tryd.prog.underlying 26=some (.int .u64):=by kernel_rfl
 have hc:Tryd.prog.cellsOf 26=1:=by kernel_rfl
 have hst:∀ (x:Nat→Nat) (k:Nat),k<4→∀ W,(part 26 #[.int .u64 (x 0),.int .u64 (x 1),.int .u64 (x 2),.int .u64 (x 3)] (k * 1)).run Tryd.prog W=.ok (.int .u64 (x k)) W:=by
  intro x k hk W;rw[Nat.mul_one]
  match k,hk with
  | 0,_=>simp[go_sem]
  | 1,_=>simp[go_sem]
  | 2,_=>simp[go_sem]
  | 3,_=>simp[go_sem]
 rw[run_equalIn_array W 9999 (n:=4) _ _ (by kernel_rfl) hi,hc]
 have hl:List.range 4=[0,1,2,3]:=by decide
 have he:∀ (a b:Nat),((a:Int) == (b:Int))=(a == b):=by intro a b;rw[Bool.eq_iff_iff];simp;omega
 rw[hl];unfold eqS;simp only[Op.eqItems,Sem.run_bind];simp only[hst u 0 (by decide),hst s 0 (by decide),Result.andThen_ok,run_equalIn_int _ _ _ _ _ _ _ hu,he]
 cases u 0 == s 0
 ·simp
 simp only[Bool.not_true,Bool.false_eq_true,if_false,Bool.true_and,Sem.run_bind];simp only[hst u 1 (by decide),hst s 1 (by decide),Result.andThen_ok,run_equalIn_int _ _ _ _ _ _ _ hu,he]
 cases u 1 == s 1
 ·simp
 simp only[Bool.not_true,Bool.false_eq_true,if_false,Bool.true_and,Sem.run_bind];simp only[hst u 2 (by decide),hst s 2 (by decide),Result.andThen_ok,run_equalIn_int _ _ _ _ _ _ _ hu,he]
 cases u 2 == s 2
 ·simp
 simp only[Bool.not_true,Bool.false_eq_true,if_false,Bool.true_and,Sem.run_bind];simp only[hst u 3 (by decide),hst s 3 (by decide),Result.andThen_ok,run_equalIn_int _ _ _ _ _ _ _ hu,he]
 cases u 3 == s 3
 ·simp
 simp
theorem Upd.setOld' {M:Nat→Prop} {B:Nat} {X W:World} (h:Upd M B X W) (hB:B≤W.heap.size) {b k:Nat} (hb:b<B) (hM:M b) (v:Value):Upd M B X (W.setCell ⟨b,k,none⟩ v) :=
 h.grown (row:=some b) ⟨rfl,rfl,rfl,by simp[World.setCell],fun j _ hj=>Below.heap_setCell _ _ _ j (fun e=>hj (by rw[e]))⟩ (fun j e=>by cases e;exact .inl ⟨hb,hM⟩) hB
theorem zIE {fn:Func} {R:Ending→World→Prop} {tmps:Array Value} {D B:Nat} {W:World} {T:TypeId} {u:Nat→Nat}
  (hK:W.heap[D]?=some (.deferred (some []))) (hB:SBox W B T u)
  (hr:∀ W',SBox W' B T u→(results fn tmps).run Tryd.prog W'=.ok (setV u) W') (h:R (.returned (setV u)) (W.putObj D (.deferred none))) :
  bodyPostM Fence.wide 9 Tryd.prog fn R .ret {tmps:=tmps,defers:=[{target:=.collected D,args:=#[]}]} W :=
 ⟨by simp,.inl ⟨_,_,rfl,run_takeDeferred hK,_,hr _ ((Idle.of_putObj (B:=0) _ hK rfl (Nat.zero_le _)).cells _ _ _ _ hB),h⟩⟩
theorem zG4 {W:World} {B D:Nat} {o:Obj} (hK:W.heap[D]?=some o) (hne:D≠B) (v0 v1 v2 v3:Value) :
  ((((W.setCell ⟨B,0,none⟩ v0).setCell ⟨B,1,none⟩ v1).setCell ⟨B,2,none⟩ v2).setCell ⟨B,3,none⟩ v3).heap[D]?=some o:=by
 rw[Below.heap_setCell _ _ _ _ hne,Below.heap_setCell _ _ _ _ hne,Below.heap_setCell _ _ _ _ hne,Below.heap_setCell _ _ _ _ hne];exact hK
theorem zMd (s:Nat→Nat) (hs:zAs s) (w:World):Calls Tryd.prog 45 #[setV s] w fun e w'=>e=.returned (setV (zET s (zDM s)))∧Below w.heap.size w w':=by
 refine zDr ?_
 rw[show setV s=.agg #[.int .u64 (s 0),.int .u64 (s 1),.int .u64 (s 2),.int .u64 (s 3)] from rfl]
 refine callsIn_of_wp_marks Tryd.func45 rfl trivial ?_ rfl;simp only[Tryd.ntmps45,List.size_toArray,List.length_cons,List.length_nil,Nat.reduceAdd,Nat.reduceSub,Array.replicate_succ,Array.replicate_zero,List.push_toArray,List.append_toArray,List.nil_append,List.cons_append]
 gi_wp2_with fail
 have b1:SBox (((w.alloc (.cells (setC s) 28)).alloc (.cells (setC zAF) 28)).alloc (.cells (setC s) 28)) w.heap.size 28 s:=((SBox.new w _ s).alloc _).alloc _;have b2:SBox (((w.alloc (.cells (setC s) 28)).alloc (.cells (setC zAF) 28)).alloc (.cells (setC s) 28)) (w.heap.size+1) 28 zAF:=by
  have:=(SBox.new (w.alloc (.cells (setC s) 28)) 28 zAF).alloc (.cells (setC s) 28)
  rwa [World.size_alloc]at this
 have b3:SBox (((w.alloc (.cells (setC s) 28)).alloc (.cells (setC zAF) 28)).alloc (.cells (setC s) 28)) (w.heap.size+1+1) 28 s:=by
  have:=SBox.new ((w.alloc (.cells (setC s) 28)).alloc (.cells (setC zAF) 28)) 28 s
  rwa [World.size_alloc,World.size_alloc]at this
 have bel:Below w.heap.size w (((w.alloc (.cells (setC s) 28)).alloc (.cells (setC zAF) 28)).alloc (.cells (setC s) 28)):=(((Below.refl _ w).alloc (Nat.le_refl _) _).alloc (by simp) _).alloc (by simp;omega) _
 refine⟨trivial,(callsIn_wide.2 (zNC s _)).mono ?_⟩
 rintro e w1 ⟨Bs,rfl,hBs,bS,bel1⟩;have c1:=b1.below bel1 b1.lt;have c2:=b2.below bel1 b2.lt;have c3:=b3.below bel1 b3.lt;have bel2:=bel.trans (bel1.mono bel.size);have hsz:=bel1.size;clear b1 b2 b3 bel bel1;simp at hBs hsz
 gi_wp2_with fail
 refine zLs (zIA w1 s hs Bs bS) rfl (enters_of Tryd.func74 (by kernel_rfl) rfl) (fun _=>rfl)
  (fun k=>k=w.heap.size+1+1) ?_
  (fun pre W=>SBox W (w.heap.size+1+1) 28 (zET s pre)) (fun _ _ _=>False)
  (fun s W W' h h1=>h1.below h.below (by omega)) (fun _ _ _ _ _ h=>h)
  c3 ?a1 ?assign ?body ?done ?stop
 ·rintro k rfl;exact⟨bS.lt,by omega⟩
 case assign =>
  intro l x W K hK
  gi_wp2
  exact hK
 case body =>
  rintro l pre x W hkb hb hmem hlen;obtain⟨n,hn,rfl,_⟩:=zHA hmem;have hS:=zI7 pre hs;have hnx:=zJa s pre (n:Int);have hWs:=hkb.size;have Hnx:=Lib.hid hnx;clear hnx hmem hlen
  generalize zET s pre=S at hb hS Hnx
  have k0:=hb.cell (k:=0) (by omega);have k1:=hb.cell (k:=1) (by omega);have k2:=hb.cell (k:=2) (by omega);have k3:=hb.cell (k:=3) (by omega)
  gi_wp2_with fail
  have rd1:Rd ((W.alloc (.cells #[.int .u8 (zBO n:Nat)] 5)).drew) ((W.alloc (.cells #[.int .u8 (zBO n:Nat)] 5)).drew).heap.size (.slice (some ⟨W.heap.size,0,none⟩) 1 1) [.int .u8 (zBO n:Nat)]:=by
   have h1:=Rd.lit W [.int .u8 (zBO n:Nat)] 5 (0,0) (by simp[maxLen])
   have h2:=h1.below (w':=(W.alloc (.cells #[.int .u8 (zBO n:Nat)] 5)).drew) (Below.refl _ _).drew;exact h2.up (by show _≤(W.alloc _).heap.size;rw[World.size_alloc];exact Nat.le_refl _)
  have bl1:Below W.heap.size W ((W.alloc (.cells #[.int .u8 (zBO n:Nat)] 5)).drew):=((Below.refl _ W).alloc (Nat.le_refl _) _).drew;have hs1:((W.alloc (.cells #[.int .u8 (zBO n:Nat)] 5)).drew).heap.size=W.heap.size+1:=by show (W.alloc _).heap.size=_;rw[World.size_alloc]
  have ho:=zHi hn;have hnx2:zET s (pre++[(n:Int)])=zA1 [S,ofS [(zBO n:Int)]]:=by have:=Hnx.out;simpa using this
  have Hnx2:=Lib.hid hnx2;clear hnx2;have hO:=zBv [(zBO n:Int)];have hOb:∀ x ∈ [(zBO n:Int)],0≤x∧x≤255:=by intro x hx;simp at hx;subst hx;omega
  have HRD:=Lib.hid rd1;clear rd1;have HS1:=Lib.hid hs1;clear hs1;have HOB:=Lib.hid hOb;clear hOb;clear Hnx;obtain⟨O,hOe⟩:∃ O,ofS [(zBO n:Int)]=O:=⟨_,rfl⟩;rw[hOe]at hO;have HOE:=Lib.hid hOe;clear hOe;have HSz:=Lib.hid hs;have HSS:=Lib.hid hS;have HOO:=Lib.hid hO;clear hO hS;have hba:=hb.alloc (.cells #[.int .u8 (zBO n:Nat)] 5);have ka0:=hba.cell (k:=0) (by omega);have ka1:=hba.cell (k:=1) (by omega);have ka2:=hba.cell (k:=2) (by omega);have ka3:=hba.cell (k:=3) (by omega)
  clear hba;have hne:w.heap.size+1+1≠W.heap.size:=by omega
  have hso:∀ t ∈ [S,O],zAs t:=by
   intro t ht;simp at ht;rcases ht with h|h
   ·rw[h];exact HSS.out
   ·rw[h];exact HOO.out
  have HSO:=Lib.hid hso;clear hso;have hb':=Lib.hid hb;clear hb
  gi_region_with (first
   | (refine⟨trivial,?_⟩;gi_at_call 64;refine(CallsIn.inRound l (callsIn_wide.2 (zKN n hn _))).mono ?_;rintro e w' ⟨rfl,rfl⟩)
   | (refine⟨trivial,?_⟩;gi_at_call 28;refine(CallsIn.inRound l (callsIn_wide.2 (zFD _ [(zBO n:Int)] HOB.out _ HRD.out))).mono ?_;rintro e w2 ⟨rfl,bl2⟩;rw[HOE.out,show setV O=.agg #[.int .u64 (O 0),.int .u64 (O 1),.int .u64 (O 2),.int .u64 (O 3)] from rfl];have bl3:=bl1.trans (bl2.mono (by rw[HS1.out];omega));have hb2:=hb'.out.below bl3 hb'.out.lt;have m0:=hb2.cell (k:=0) (by omega);have m1:=hb2.cell (k:=1) (by omega);have m2:=hb2.cell (k:=2) (by omega);have m3:=hb2.cell (k:=3) (by omega);have hsz2:=bl2.size;rw[HS1.out]at hsz2)
   | (refine⟨trivial,?_⟩;gi_at_call 63;have rdu:=RdS.lit w2 [S,O] 28 (by simp[maxLen]);refine(CallsIn.inRound l (callsIn_wide.2 (zCb (.slice (some ⟨w2.heap.size,0,none⟩) 2 2) [S,O] HSO.out _ (rdu.up (by rw[World.size_alloc];omega))))).mono ?_;rintro e w3 ⟨rfl,bl4⟩;clear m0 m1 m2 m3;have bl5:=bl3.trans (((Below.refl w2.heap.size w2).alloc (Nat.le_refl _) _).trans (bl4.mono (by simp)) |>.mono (by omega));have hb3:=hb'.out.below bl5 hb'.out.lt;have u0:=hb3.cell (k:=0) (by omega);have u1:=hb3.cell (k:=1) (by omega);have u2:=hb3.cell (k:=2) (by omega);have u3:=hb3.cell (k:=3) (by omega);have g0:=hb3.frozen 0;have g1:=hb3.frozen 1;have g2:=hb3.frozen 2;have g3:=hb3.frozen 3;rw[show setV (zA1 [S,O])=.agg #[.int .u64 (zA1 [S,O] 0),.int .u64 (zA1 [S,O] 1),.int .u64 (zA1 [S,O] 2),.int .u64 (zA1 [S,O] 3)] from rfl]))
  all_goals
   gi_wp2
   refine⟨((((((Upd.refl (fun k=>k=w.heap.size+1+1) w1.heap.size W).call bl5 hWs).setOld' (by have:=bl5.size;omega) (by omega) rfl _).setOld' (by simp[World.setCell];have:=bl5.size;omega) (by omega) rfl _).setOld' (by simp[World.setCell];have:=bl5.size;omega) (by omega) rfl _).setOld' (by simp[World.setCell];have:=bl5.size;omega) (by omega) rfl _),?_⟩
   show SBox _ _ _ (zET s (pre++[(n:Int)]))
   rw[Hnx2.out,HOE.out];exact hb3.set4 (zA1 [S,O])
 case done =>
  rintro D W hD hkb hb hK;have hc1:=hkb.old w.heap.size (by omega) (by omega)
  have hc2:=hkb.old (w.heap.size+1) (by omega) (by omega)
  have a1:SBox W w.heap.size 28 s:=hc1.trans c1;have a2:SBox W (w.heap.size+1) 28 zAF:=hc2.trans c2;have bel5:=bel2.trans (hkb.below bel2.size (fun k hk=>by omega))
  clear hc1 hc2 c1 c2 c3 bS;obtain⟨u,hu⟩:∃ u,zET s (zDM s)=u:=⟨_,rfl⟩;rw[hu]at hb;have HU:=Lib.hid hu;clear hu;have p0:=a1.cell (k:=0) (by omega);have p1:=a1.cell (k:=1) (by omega);have p2:=a1.cell (k:=2) (by omega);have p3:=a1.cell (k:=3) (by omega)
  have q0:=hb.cell (k:=0) (by omega);have q1:=hb.cell (k:=1) (by omega);have q2:=hb.cell (k:=2) (by omega);have q3:=hb.cell (k:=3) (by omega)
  have d0:=a2.cell (k:=0) (by omega);have d1:=a2.cell (k:=1) (by omega);have d2:=a2.cell (k:=2) (by omega);have d3:=a2.cell (k:=3) (by omega)
  have f0:=a2.frozen 0;have f1:=a2.frozen 1;have f2:=a2.frozen 2;have f3:=a2.frozen 3;have heq:∀ W,(Op.equalIn 10000 28 (.agg #[.int .u64 (u 0),.int .u64 (u 1),.int .u64 (u 2),.int .u64 (u 3)]) (.agg #[.int .u64 (s 0),.int .u64 (s 1),.int .u64 (s 2),.int .u64 (s 3)])).run Tryd.prog W=.ok (eqS u s) W:=zF6 u s
  cases hq:eqS u s with
  | true =>
   rw[hq]at heq;have hv:=zMR hq;clear hq;have HV:=Lib.hid hv;clear hv
   gi_wp2
   have hK4:=zG4 hK (B:=w.heap.size+1) (by omega) (.int .u64 (s 0)) (.int .u64 (s 1)) (.int .u64 (s 2)) (.int .u64 (s 3))
   have hb4:=a2.set4 s;refine zIE hK4 hb4 (fun W' hW'=>?_) ⟨?_,?_⟩
   ·have e0:=hW'.cell (k:=0) (by omega);have e1:=hW'.cell (k:=1) (by omega);have e2:=hW'.cell (k:=2) (by omega);have e3:=hW'.cell (k:=3) (by omega)
    unfold setV;simp[results,Tryd.results45,go_sem,e0,e1,e2,e3]
   ·rw[← HV.out,HU.out]
   ·exact(zBo bel5 (by omega) _ _ _ _).trans (Idle.of_putObj _ hK4 rfl (by omega)).below
  | false =>
   rw[hq]at heq;clear hq
   gi_wp2
   have hK4:=zG4 hK (B:=w.heap.size+1) (by omega) (.int .u64 (u 0)) (.int .u64 (u 1)) (.int .u64 (u 2)) (.int .u64 (u 3))
   have hb4:=a2.set4 u;refine zIE hK4 hb4 (fun W' hW'=>?_) ⟨?_,?_⟩
   ·have e0:=hW'.cell (k:=0) (by omega);have e1:=hW'.cell (k:=1) (by omega);have e2:=hW'.cell (k:=2) (by omega);have e3:=hW'.cell (k:=3) (by omega)
    unfold setV;simp[results,Tryd.results45,go_sem,e0,e1,e2,e3]
   ·rw[HU.out]
   ·exact(zBo bel5 (by omega) _ _ _ _).trans (Idle.of_putObj _ hK4 rfl (by omega)).below
 case stop =>
  rintro D c pre W _ _ _ h _;exact h.elim
end
end Go.Proofs.YtklcgfkdemifcaaDoor
