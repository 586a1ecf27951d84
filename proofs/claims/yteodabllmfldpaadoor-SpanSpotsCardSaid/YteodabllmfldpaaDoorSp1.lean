/-
  Laws of walks, and walks.
-/
import Derived.RangeFuncBox
import Derived.RangeFuncNested
import Derived.RangeFuncBound
import Derived.RangeFuncCalls
import Derived.RangeFuncLeaves
import Derived.Shelf.Abstract
import Derived.WalkKit
import Derived.OwnWalkIn
import Derived.TacticsInMore
import Derived.LoopNIn
import Derived.LoopIn
import Derived.Maps.AppendAt
import Derived.Lib.Hide
import Derived.Deep.QuietTactic
import Derived.BigQuiet
import Derived.Laws.AppendOwnNone
import Derived.StillTailTactics
import Derived.Deep.RegionWith
import Derived.Stop.RegionWithIn
import Derived.Test.YteodabllmfldpaaDoorProg
import Derived.Deep.MidRow
import Derived.ChangeKeysEq
import Derived.StillTail
import Derived.Deep.CutRange
import Derived.Laws.Slices
import Derived.Laws.Strings2
import Derived.Lib.Strings
set_option linter.unusedVariables false
set_option linter.unusedSimpArgs false
set_option maxRecDepth 100000
set_option maxHeartbeats 16000000
namespace Go.Proofs.YteodabllmfldpaaDoor
section
open Go.RowKit Go.Shelf
def Rd (w:World) (b0:Nat) (v:Value) (cs:List Value):Prop :=
 ((∃ q,v=.slice q 0 0)∧cs=[])∨∃ b off cap,v=.slice (some ⟨b,off,none⟩) cs.length cap∧b<b0∧cs.length≤cap∧cap≤maxLen ∧
  ∀ j,(h:j<cs.length)→w.cell? ⟨b,off+j,none⟩=some cs[j]
theorem Rd.up {w:World} {b0 b1:Nat} {v:Value} {cs:List Value} (h:Rd w b0 v cs) (hb:b0≤b1):Rd w b1 v cs:=by
 rcases h with h|⟨b,off,cap,e,h1,h2,h3,h4⟩
 ·exact .inl h
 ·exact .inr ⟨b,off,cap,e,by omega,h2,h3,h4⟩
theorem Rd.len {w:World} {b0:Nat} {v:Value} {cs:List Value} (h:Rd w b0 v cs):cs.length≤9223372036854775807:=by
 rcases h with ⟨_,h⟩|⟨b,off,cap,e,h1,h2,h3,h4⟩
 ·simp[h]
 ·unfold maxLen at h3;omega
structure KeepBut (M:Nat→Prop) (B:Nat) (W W':World):Prop where
 os:W'.os=W.os
 tape:W'.tape=W.tape
 output:W'.output=W.output
 size:W.heap.size≤W'.heap.size
 old:∀ k,k<B→¬ M k→W'.heap[k]?=W.heap[k]?
theorem KeepBut.refl (M:Nat→Prop) (B:Nat) (W:World):KeepBut M B W W:=⟨rfl,rfl,rfl,Nat.le_refl _,fun _ _ _=>rfl⟩
theorem KeepBut.trans {M:Nat→Prop} {B:Nat} {X Y Z:World} (h:KeepBut M B X Y) (k:KeepBut M B Y Z):KeepBut M B X Z :=
 ⟨k.os.trans h.os,k.tape.trans h.tape,k.output.trans h.output,Nat.le_trans h.size k.size,fun i h1 h2=>(k.old i h1 h2).trans (h.old i h1 h2)⟩
theorem KeepBut.below {M:Nat→Prop} {B n:Nat} {W W':World} (h:KeepBut M B W W') (hn:n≤B) (hM:∀ k,k<n→¬ M k):Below n W W' :=
 ⟨h.os,h.tape,h.output,h.size,fun k hk=>h.old k (by omega) (hM k hk)⟩
theorem KeepBut.of_below {M:Nat→Prop} {B:Nat} {W W':World} (h:Below B W W'):KeepBut M B W W' :=
 ⟨h.os,h.tape,h.output,h.size,fun k hk _=>h.block k hk⟩
theorem KeepBut.mono {M M':Nat→Prop} {B B':Nat} {W W':World} (h:KeepBut M B W W') (hB:B'≤B) (hM:∀ k,k<B'→M k→M' k):KeepBut M' B' W W' :=
 ⟨h.os,h.tape,h.output,h.size,fun k hk hn=>h.old k (by omega) (fun hm=>hn (hM k hk hm))⟩
structure Upd (M:Nat→Prop) (B:Nat) (W W':World):Prop where
 keep:KeepBut M B W W'
 others:KeepsFrom B W W'
theorem Upd.trans {M:Nat→Prop} {B:Nat} {X Y Z:World} (h:Upd M B X Y) (k:Upd M B Y Z):Upd M B X Z:=⟨h.keep.trans k.keep,h.others.trans k.others⟩
theorem Upd.grown {M:Nat→Prop} {B:Nat} {X W W':World} {row:Option Nat} (h:Upd M B X W) (hg:W.grownBy W' row)
  (hr:∀ k,row=some k→(k<B∧M k)∨(B≤k∧∃ c e f,W.heap[k]?=some (.cells c e f))) (hB:B≤W.heap.size):Upd M B X W':=by
 refine h.trans ⟨⟨hg.os,hg.tape,hg.output,hg.size,fun k h1 h2=>hg.block k (by omega) (fun e=>?_)⟩,⟨hg.size,fun k o h1 h2 h3=>?_⟩⟩
 ·rcases hr k e.symm with ⟨_,h⟩|⟨h,_⟩
  ·exact h2 h
  ·omega
 ·refine(hg.block k (Array.getElem?_eq_some_iff.1 h2).1 (fun e=>?_)).trans h2
  rcases hr k e.symm with ⟨h,_⟩|⟨_,c,e',f,h⟩
  ·omega
  ·rw[h]at h2;cases h2;cases h3
theorem Upd.alloc {M:Nat→Prop} {B:Nat} {X W:World} (h:Upd M B X W) (hB:B≤W.heap.size) (o:Obj):Upd M B X (W.alloc o) :=
 h.grown (World.grownBy_alloc W o none) (fun k e=>by cases e) hB
theorem Upd.call {M:Nat→Prop} {B:Nat} {X W W':World} (h:Upd M B X W) (hb:Below W.heap.size W W') (hB:B≤W.heap.size):Upd M B X W' :=
 h.trans ⟨KeepBut.of_below (hb.mono hB),⟨hb.size,fun k _ _ h2 _=>(hb.block k (Array.getElem?_eq_some_iff.1 h2).1).trans h2⟩⟩
structure Idle (B:Nat) (W W':World):Prop where
 below:Below B W W'
 cells:∀ (k:Nat) c e f,W.heap[k]?=some (.cells c e f)→W'.heap[k]?=some (.cells c e f)
theorem stepR_scope {P:Program} {b:Frame} {a:Act} {k:List Item} {cs:List Frame} {w:World} {c:Code}:step P (lone (b.atR a (.code (.scope c)::k)) cs w)=.next (lone (b.atR a (.code c::.inScope c::k)) cs w) :=
 step_lone_go (by simp[stepG,stepG.exec,Frame.atR])
theorem stepR_inScope {P:Program} {b:Frame} {a:Act} {k:List Item} {cs:List Frame} {w:World} {c:Code}:step P (lone (b.atR a (.inScope c::k)) cs w)=.next (lone (b.atR a k) cs w) :=
 step_lone_go (by simp[stepG,stepG.exec,Frame.atR])
theorem wpIn_scope {F:Fence} {n:Nat} {P:Program} {c:Code} {Q:Exit→Act→World→Prop} {a:Act} {w:World} (h:c.wpIn F n P (Exit.noGoto Q) a w):(Code.scope c).wpIn F n P Q a w:=by
 intro b k cs hro hb hr;have h0:(lone (b.atR a (.code (.scope c)::k)) cs w).fenced P F:=fenced_calm hb hr rfl;obtain⟨e,a₁,w₁,hq,harr⟩:=h b (.inScope c::k) cs hro hb hr;have hx:∀ id,exitTo id (.inScope c::k)=exitTo id k:=fun id=>by simp[exitTo]
 cases e with
 | normal=>exact⟨.normal,a₁,w₁,hq,.head h0 stepR_scope (StepsIn.trans harr (.one (fenced_calm hb hr rfl) stepR_inScope))⟩
 | exit id =>
  exact⟨.exit id,a₁,w₁,hq,fun k' hk=>.head h0 stepR_scope (harr.1 k' (by rw[hx];exact hk)),
   fun hr' hk=>let ⟨k₁,h1,h2⟩:=harr.2 hr' (by rw[hx];exact hk);⟨k₁,h1,.head h0 stepR_scope h2⟩⟩
 | goto l=>exact hq.elim
 | ret=>exact⟨_,a₁,w₁,hq,.of_steps (.one h0 stepR_scope) harr⟩
 | panic ch=>exact⟨_,a₁,w₁,hq,.of_steps (.one h0 stepR_scope) harr⟩
 | outgrown=>exact⟨_,a₁,w₁,hq,.of_steps (.one h0 stepR_scope) harr⟩

end
section
open Go.RowKit
inductive AObj where
 | o (x:Obj)
 | row (cs:List Value) (T:TypeId) (sz:Nat)
 | ro (cs:List Value)
inductive Tr where
 | lf
 | nd (l:Tr) (v:Option AObj) (r:Tr)
def Tr.get:Tr→Nat→Option AObj
 | .lf,_=>none
 | .nd l v r,k=>cond (Nat.beq k 0) v (cond (Nat.beq (k % 2) 1) (l.get (k / 2)) (r.get (k / 2 - 1)))
def Tr.setF:Nat→Tr→Nat→Option AObj→Tr
 | 0,t,_,_=>t
 | f+1,.lf,k,v=>cond (Nat.beq k 0) (.nd .lf v .lf) (cond (Nat.beq (k % 2) 1) (.nd (setF f .lf (k / 2) v) none .lf) (.nd .lf none (setF f .lf (k / 2 - 1) v)))
 | f+1,.nd l x r,k,v=>cond (Nat.beq k 0) (.nd l v r) (cond (Nat.beq (k % 2) 1) (.nd (setF f l (k / 2) v) x r) (.nd l x (setF f r (k / 2 - 1) v)))
def Tr.set (t:Tr) (k:Nat) (v:Option AObj):Tr:=t.setF (k+1) k v
structure AH where
 t:Tr
 next:Nat
 floor:Nat
 hid:List (Nat × Nat)
def inR:List (Nat × Nat)→Nat→Bool
 | [],_=>false
 | (a,b)::r,k=>(Nat.ble a k&&Nat.blt k b) || inR r k
def AH.get (h:AH) (n:Nat):Option AObj:=cond (Nat.ble h.next n || inR h.hid n) none (h.t.get n)
def AH.put (h:AH) (n:Nat) (v:AObj):AH:={h with t:=h.t.set n (some v)}
def AH.drop (h:AH) (n:Nat):AH:={h with t:=h.t.set n none}
def AH.new (h:AH) (v:AObj):AH:={h with t:=h.t.set h.next (some v),next:=h.next+1}
def plain1:Value→Bool
 | .bool _|.int _ _|.string _|.pointer none|.slice none 0 0|.map none|.nilFunc|.nilIface=>true
 | .func (.func _) f c=>Nat.beq f.size 0&&Nat.beq c.size 0
 | _=>false
def plain:Value→Bool
 | .agg cs=>cs.toList.all plain1
 | .tuple cs=>cs.toList.all plain1
 | .iface _ v=>plain1 v
 | v=>plain1 v
def nth:List Value→Nat→Value
 | [],_=>undef
 | x::_,0=>x
 | _::r,n+1=>nth r n
def aev (G:Nat) (t:List Value):Operand→Option Value
 | .tmp i=>some (nth t i)
 | .const v=>cond (plain v) (some v) none
 | .global g=>cond (Nat.blt g G) (some (.pointer (some ⟨g,0,none⟩))) none
 | .func f=>some (.func (.func f) #[] #[])
def aevs (G:Nat) (t:List Value):List Operand→Option (List Value)
 | []=>some []
 | x::r=>match aev G t x with
  | none=>none
  | some v=>match aevs G t r with
   | none=>none
   | some l=>some (v::l)
def aevp (G:Nat) (t:List Value):List (Nat × Operand)→Option (List (Nat × Value))
 | []=>some []
 | (i,x)::r=>match aev G t x with
  | none=>none
  | some v=>match aevp G t r with
   | none=>none
   | some l=>some ((i,v)::l)
def pureP {α:Type} (P:Program):Sem α→Option α
 | .pure a=>some a
 | .program k=>pureP P (k P)
 | .mark _ k=>pureP P k
 | _=>none
def sizeP (P:Program) (T:TypeId):Option Nat:=(P.info? T).map (·.size)
def rdv (P:Program) (T:TypeId) (c:List Value) (off:Nat):Option Value :=
 match P.underlying T with
 | none=>none
 | some d=>cond d.isRow
   (match sizeP P T with
    | none=>none
    | some n=>let seg:=(c.drop off).take n
     cond (Nat.beq seg.length n) (some (.agg seg.toArray)) none)
   (match c.drop off with
    | v::_=>some v
    | []=>none)
def AH.load (P:Program) (h:AH) (T:TypeId) (b off:Nat):Option Value :=
 match h.get b with
 | some (.o (.cells c _ _))=>rdv P T c.toList off
 | some (.row c _ _)=>rdv P T c off
 | some (.ro c)=>rdv P T c off
 | _=>none
def setL (c:List Value):Nat→List Value→List Value
 | _,[]=>c
 | k,v::r=>setL (c.set k v) (k+1) r
def AH.store (h:AH) (b off:Nat) (vs:List Value):Option AH :=
 cond (Nat.ble h.floor b&&vs.all (·.oneCell'))
  (match h.get b with
   | some (.o (.cells c U (lo,hi)))=>cond (Nat.ble (off+vs.length) c.size&&(Nat.ble hi lo || Nat.ble (off+vs.length) lo || Nat.ble hi off)) (some (h.put b (.o (.cells (setL c.toList off vs).toArray U (lo,hi))))) none
   | some (.row c U sz)=>cond (Nat.ble (off+vs.length) c.length) (some (h.put b (.row (setL c off vs) U sz))) none
   | _=>none) none
def mk (h:AH) (o:Obj) (v:Nat→Value):Option (Value × AH):=some (v h.next,h.new (.o o))
def ptrN (n:Nat):Value:=.pointer (some ⟨n,0,none⟩)
def fillL (place:Nat→Option (Nat × Nat)) (cells:List Value):List (Nat × Value)→Option (List Value)
 | []=>some cells
 | (i,v)::r=>match place i with
  | none=>none
  | some (off,size)=>cond (Nat.beq v.cells.size size&&Nat.ble (off+size) cells.length) (fillL place (setL cells off v.cells.toList) r) none
def repL (l:List Value):Nat→List Value
 | 0=>[]
 | n+1=>l++repL l n
def bytesOf:List Value→Option (List UInt8)
 | []=>some []
 | .int .u8 n::r=>match bytesOf r with
  | none=>none
  | some l=>some (UInt8.ofNat n.toNat::l)
 | _=>none
def AH.seg (h:AH) (b off n:Nat):Option (List Value) :=
 match h.get b with
 | some (.o (.cells c _ _))=>let s:=(c.toList.drop off).take n;cond (Nat.beq s.length n) (some s) none
 | some (.row c _ _)=>let s:=(c.drop off).take n;cond (Nat.beq s.length n) (some s) none
 | some (.ro c)=>let s:=(c.drop off).take n;cond (Nat.beq s.length n) (some s) none
 | _=>none
def nilEq:Value→Value→Option Bool
 | .pointer (some _),.pointer none|.pointer none,.pointer (some _)|.slice (some _) _ _,.slice none 0 0|.slice none 0 0,.slice (some _) _ _
 | .map (some _),.map none|.map none,.map (some _)|.func _ _ _,.nilFunc|.nilFunc,.func _ _ _=>some false
 | _,_=>none
def nilT:TypeDesc→Value→Bool
 | .pointer _,.pointer _|.slice _,.slice _ _ _|.map _ _,.map _|.func _ _ _,.func _ _ _|.func _ _ _,.nilFunc=>true
 | _,_=>false
def loA (G:Nat) (t:List Value):Option Operand→Option Value
 | none=>some (.int .i64 0)
 | some l=>aev G t l
def hiA (G:Nat) (t:List Value) (v:Value):Option Operand→Option Value
 | none=>match v with
  | .slice _ n _=>some (.int .i64 n)
  | .string q=>some (.int .i64 q.size)
  | _=>none
 | some l=>aev G t l
def mapA (h:AH):Value→Option (Array MapEntry)
 | .map none=>some #[]
 | .map (some b)=>match h.get b with
  | some (.o (.map es _))=>some es
  | _=>none
 | _=>none
def srcA (h:AH) (sz:Nat):Value→Option (List Value)
 | .slice none 0 0=>some []
 | .slice (some ⟨b,off,none⟩) k _=>h.seg b off (k * sz)
 | _=>none
def evOp (P:Program) (G:Nat) (t:List Value) (h:AH) (ty:TypeId):Op→Option (Value × AH)
 | .move x|.assign x=>match aev G t x with
  | some v=>some (v,h)
  | none=>none
 | .pick c a b=>match aev G t c with
  | some (.bool true)=>match aev G t a with
   | some v=>some (v,h)
   | none=>none
  | some (.bool false)=>match aev G t b with
   | some v=>some (v,h)
   | none=>none
  | _=>none
 | .alloc T=>match P.info? T with
  | none=>none
  | some i=>match i.zero with
   | none=>none
   | some z=>cond (plain z) (mk h (.cells z.cells T) ptrN) none
 | .box T x=>match aev G t x with
  | none=>none
  | some v=>mk h (.cells v.cells T) ptrN
 | .build T parts=>match aevp G t parts.toList with
  | none=>none
  | some l=>match P.info? T with
   | none=>none
   | some i=>match i.zero with
    | none=>none
    | some z=>cond (plain z)
     (match P.underlying T with
      | some (.struct fields)=>match fillL (fun k=>(fields[k]?).bind fun f=>(sizeP P f.type).map fun n=>(f.offset,n)) z.cells.toList l with
       | some c=>cond (fields.toList.all fun f=>(sizeP P f.type).isSome) (some (.agg c.toArray,h)) none
       | none=>none
      | some (.array _ e)=>match sizeP P e with
       | none=>none
       | some n=>match fillL (fun k=>some (k * n,n)) z.cells.toList l with
        | some c=>some (.agg c.toArray,h)
        | none=>none
      | _=>none) none
 | .buildSlice T n parts=>match aevp G t parts.toList with
  | none=>none
  | some l=>match P.underlying T with
   | some (.slice e)=>match P.info? e with
    | none=>none
    | some i=>match i.zero with
     | none=>none
     | some z=>cond (plain z&&Nat.beq z.cells.size i.size&&Nat.ble 1 i.size&&Nat.ble (n * i.size) 65536)
      (match fillL (fun k=>some (k * i.size,i.size)) (repL z.cells.toList n) l with
       | some c=>mk h (.cells c.toArray e) fun b=>.slice (some ⟨b,0,none⟩) n n
       | none=>none) none
   | _=>none
 | .load T x=>match aev G t x with
  | some (.pointer (some ⟨b,off,none⟩))=>match h.load P T b off with
   | some v=>some (v,h)
   | none=>none
  | _=>none
 | .store T x y=>match aev G t x,aev G t y with
  | some (.pointer (some ⟨b,off,none⟩)),some v=>match sizeP P T with
   | none=>none
   | some n=>cond (Nat.beq n v.cells.size)
    (match h.store b off v.cells.toList with
     | some h'=>some (undef,h')
     | none=>none) none
  | _,_=>none
 | .nilCheck x=>match aev G t x with
  | some (.pointer (some a))=>some (.pointer (some a),h)
  | some (.func (.func f) a b)=>some (.func (.func f) a b,h)
  | some (.map (some a))=>some (.map (some a),h)
  | _=>none
 | .binOp op T x y _=>match aev G t x,aev G t y with
  | some a,some b=>cond (plain a&&plain b)
   (match pureP P (do eqGuard op T x y a b;binOp op T a b) with
    | some v=>cond (plain v) (some (v,h)) none
    | none=>none)
   (match P.underlying T,nilEq a b with
    | some d,some r=>cond (nilT d a&&nilT d b)
     (match op with
     | .eql=>some (.bool r,h)
     | .neq=>some (.bool !r,h)
     | _=>none) none
    | _,_=>none)
  | _,_=>none
 | .unOp op _ x=>match aev G t x with
  | some a=>cond (plain a)
   (match pureP P (Op.unary op a) with
    | some v=>cond (plain v) (some (v,h)) none
    | none=>none) none
  | none=>none
 | .convert s d x=>match aev G t x with
  | some (.slice (some ⟨b,off,none⟩) n c)=>match P.underlying s,P.underlying d with
   | some (.slice _),some (.slice e)=>match P.underlying e with
    | some (.int .u8)=>cond (Nat.beq s d)
     (match h.get b with
      | some (.o (.cells cs U (0,0)))=>cond (Nat.ble h.floor b) (some (.slice (some ⟨b,off,none⟩) n c,h.put b (.o (.cells cs U (cs.size,cs.size+1))))) none
      | _=>none) none
    | _=>none
   | some (.slice e),some .string=>match P.underlying e with
    | some (.int .u8)=>match h.seg b off n with
     | none=>none
     | some l=>match bytesOf l with
      | some q=>some (.string ⟨q.toArray⟩,h)
      | none=>none
    | _=>none
   | _,_=>none
  | some a=>cond (plain a)
   (match pureP P (convert s d a) with
    | some v=>cond (plain v) (some (v,h)) none
    | none=>none) none
  | none=>none
 | .makeInterface T x=>match aev G t x,P.underlying T with
  | some _,some (.interface _)=>none
  | some v,some _=>some (.iface T v,h)
  | _,_=>none
 | .makeFunc (.func f) first cap=>match aevs G t first.toList,aevs G t cap.toList with
  | some a,some b=>some (.func (.func f) a.toArray b.toArray,h)
  | _,_=>none
 | .makeMap _ none=>mk h (.map #[] 0) fun b=>.map (some b)
 | .makeSlice T x y=>match aev G t x,aev G t y with
  | some (.int .i64 a),some (.int .i64 b)=>match P.underlying T with
   | some (.slice e)=>match P.info? e with
    | none=>none
    | some i=>match i.zero with
     | none=>none
     | some z=>cond (plain z&&Nat.beq z.cells.size i.size&&Nat.ble 1 i.size&&decide (a=b)&&decide (0≤a)&&Nat.ble (a.toNat * i.size) 65536&&Nat.ble (a.toNat * i.bytes) 1048576)
      (mk h (.cells (repL z.cells.toList a.toNat).toArray e) fun b=>.slice (some ⟨b,0,none⟩) a.toNat a.toNat) none
   | _=>none
  | _,_=>none
 | .slice T x lo hi none=>match aev G t x,loA G t lo with
  | some v,some (.int _ l)=>match hiA G t v hi with
   | some (.int _ r)=>cond (decide (0≤l)&&decide (l≤r))
    (match v with
     | .string q=>match P.underlying T with
      | some .string=>cond (Nat.ble r.toNat q.size) (some (.string (q.extract l.toNat r.toNat),h)) none
      | _=>none
     | .slice none 0 0=>match P.underlying T with
      | some (.slice e)=>match sizeP P e with
       | some _=>cond (Nat.beq r.toNat 0) (some (.slice none 0 0,h)) none
       | none=>none
      | _=>none
     | .slice (some ⟨b,off,none⟩) n c=>match P.underlying T with
      | some (.slice e)=>match sizeP P e with
       | none=>none
       | some sz=>match h.get b with
        | some (.o (.cells _ _ _))=>cond (Nat.ble r.toNat c) (some (.slice (some ⟨b,cond (Nat.beq c l.toNat) off (off+l.toNat * sz),none⟩) (r.toNat - l.toNat) (c - l.toNat),h)) none
        | some (.row _ _ sz')=>cond (Nat.beq sz sz'&&Nat.ble r.toNat n&&Nat.blt l.toNat n) (some (.slice (some ⟨b,off+l.toNat * sz,none⟩) (r.toNat - l.toNat) 0,h)) none
        | _=>none
      | _=>none
     | _=>none) none
   | _=>none
  | _,_=>none
 | .fieldAddr S x f=>match aev G t x with
  | some (.pointer (some ⟨b,off,none⟩))=>match P.underlying S with
   | some (.struct fields)=>match fields[f]? with
    | some fd=>match sizeP P fd.type with
     | some (n+1)=>some (.pointer (some ⟨b,off+fd.offset,none⟩),h)
     | _=>none
    | none=>none
   | _=>none
  | _=>none
 | .field T x f=>match aev G t x with
  | some (.agg cs)=>match P.underlying T with
   | some (.struct fields)=>match fields[f]? with
    | some fd=>match rdv P fd.type cs.toList fd.offset with
     | some v=>some (v,h)
     | none=>none
    | none=>none
   | _=>none
  | _=>none
 | .indexAddr T x y=>match aev G t x,aev G t y with
  | some v,some (.int _ i)=>cond (decide (0≤i))
   (match P.underlying T,v with
    | some (.array n e),.pointer (some ⟨b,off,none⟩)=>match sizeP P e with
     | some sz=>cond (Nat.blt i.toNat n) (some (.pointer (some ⟨b,off+i.toNat * sz,none⟩),h)) none
     | none=>none
    | some (.slice e),.slice (some ⟨b,off,none⟩) n _=>match sizeP P e with
     | some sz=>cond (Nat.blt i.toNat n) (some (.pointer (some ⟨b,off+i.toNat * sz,none⟩),h)) none
     | none=>none
    | _,_=>none) none
  | _,_=>none
 | .index T x y=>match aev G t x,aev G t y with
  | some v,some (.int _ i)=>cond (decide (0≤i))
   (match P.underlying T,v with
    | some (.array n e),.agg cs=>match sizeP P e with
     | some sz=>cond (Nat.blt i.toNat n)
      (match rdv P e cs.toList (i.toNat * sz) with
      | some v=>some (v,h)
      | none=>none) none
     | none=>none
    | some .string,.string q=>match q.data.toList.drop i.toNat with
     | b::_=>some (.int .u8 b.toNat,h)
     | []=>none
    | _,_=>none) none
  | _,_=>none
 | .lookup T x y ok=>match aev G t x,aev G t y with
  | some v,some k=>match P.underlying T with
   | some (.map kt e)=>match P.underlying kt,mapA h v with
    | some d,some es=>cond (plain k&&(pureP P (Instr.checkKey es.isEmpty 10000 kt k)).isSome)
     (match Instr.findNow d k es.toList 0 with
      | some (some (_,u))=>some (cond ok (.tuple #[u,.bool true]) u,h)
      | some none=>match (P.info? e).bind (·.zero) with
       | some z=>cond (plain z) (some (cond ok (.tuple #[z,.bool false]) z,h)) none
       | none=>none
      | none=>none) none
    | _,_=>none
   | _=>none
  | _,_=>none
 | .mapUpdate T m k x|.insert T m k x=>match aev G t m,aev G t k,aev G t x with
  | some (.map (some b)),some kv,some v=>match P.underlying T with
   | some (.map kt _)=>match P.underlying kt,h.get b with
    | some d,some (.o (.map es clock))=>cond (plain1 kv&&Nat.ble h.floor b&&(pureP P (Instr.checkKey false 10000 kt kv)).isSome)
     (match Instr.findNow d kv es.toList 0 with
      | some none=>some (undef,h.put b (.o (.map (es.push {key:=kv,val:=v,born:=clock}) (clock+1))))
      | _=>none) none
    | _,_=>none
   | _=>none
  | _,_,_=>none
 | .typeAssert x _ A ok=>match aev G t x,P.underlying A with
  | some _,some (.interface _)=>none
  | some (.iface T v),some _=>cond (Nat.beq T A) (some (cond ok (.tuple #[v,.bool true]) v,h)) none
  | _,_=>none
 | .extract x i=>match aev G t x with
  | some (.tuple vs)=>match vs.toList.drop i with
   | v::_=>some (v,h)
   | []=>none
  | _=>none
 | .call {callee:=.builtin .len,args:=xs,argTypes:=ts}=>match ts.toList,xs.toList with
  | T::_,x::_=>match P.underlying T,aev G t x with
   | some .string,some (.string q)=>some (.int .i64 q.size,h)
   | some (.slice _),some (.slice _ n _)=>some (.int .i64 n,h)
   | some (.array n _),some _=>some (.int .i64 n,h)
   | some (.map _ _),some (.map none)=>some (.int .i64 0,h)
   | some (.map _ _),some (.map (some b))=>match h.get b with
    | some (.o (.map es _))=>some (.int .i64 es.size,h)
    | _=>none
   | _,_=>none
  | _,_=>none
 | .call {callee:=.builtin .max,args:=xs,argTypes:=ts}=>match aevs G t xs.toList with
  | some l=>cond (l.all plain)
   (match pureP P (Builtin.max_ ts ty l.toArray) with
    | some v=>cond (plain v) (some (v,h)) none
    | none=>none) none
  | none=>none
 | .call {callee:=.builtin .min,args:=xs,argTypes:=ts}=>match aevs G t xs.toList with
  | some l=>cond (l.all plain)
   (match pureP P (Builtin.min_ ts ty l.toArray) with
    | some v=>cond (plain v) (some (v,h)) none
    | none=>none) none
  | none=>none
 | .call {callee:=.builtin .append,args:=xs,argTypes:=ts}=>match ts.toList,xs.toList with
  | [T,U],[x,y]=>match aev G t x,aev G t y,P.underlying T with
   | some (.slice base n c),some src,some (.slice e)=>match P.info? e with
    | none=>none
    | some i=>match i.zero with
     | none=>none
     | some z=>cond (Nat.beq T U&&plain z&&Nat.beq z.cells.size i.size&&Nat.ble 1 i.size)
      (match srcA h i.size src with
       | none=>none
       | some new=>cond (Nat.beq new.length 0)
        (cond (match base with
         | none=>Nat.beq n 0
         | some ⟨b,_,none⟩=>(match h.get b with
          | some (.row _ _ _)=>true
          | some (.o (.cells _ _ _))=>Nat.ble n c
          | _=>false)
         | _=>false) (some (.slice base n c,h)) none)
        (cond (new.all (·.oneCell')&&Nat.ble ((n+new.length) * i.bytes) 1048576&&Nat.ble (n+new.length) 65536)
         (match base with
         | none=>cond (Nat.beq n 0) (some (.slice (some ⟨h.next,0,none⟩) (new.length / i.size) 0,h.new (.row new e i.size))) none
         | some ⟨b,0,none⟩=>match h.get b with
          | some (.row cs e' sz)=>cond (Nat.beq sz i.size&&Nat.beq e e'&&Nat.beq cs.length (n * sz)&&Nat.ble h.floor b)
           (some (.slice (some ⟨h.next,0,none⟩) (n+new.length / i.size) 0,(h.drop b).new (.row (cs++new) e i.size))) none
          | some (.o (.cells cs e' _))=>cond (Nat.beq n c&&Nat.beq e e'&&Nat.beq cs.size (n * i.size))
           (some (.slice (some ⟨h.next,0,none⟩) (n+new.length / i.size) 0,h.new (.row (cs.toList++new) e i.size))) none
          | _=>none
         | _=>none) none)) none
   | _,_,_=>none
  | _,_=>none
 | _=>none
def wantedA (ops:List Oper) (t:List Value) (o:Oper):Bool :=
 match o.guard with
 | none=>true
 | some (j,want)=>match (ops.drop j) with
  | {dst:=some d,..}::_=>(match nth t d with|.bool b=>b == want|_=>false)
  | _=>false
def putA (t:List Value):Option Tmp→Value→List Value
 | some d,v=>t.set d v
 | none,_=>t
abbrev Ev:=Option Nat→Code→List Value→List Deferred→AH→Option (Exit × List Value × List Deferred × AH)
def evLeave:List Deferred→AH→Option AH
 | [],h=>some h
 | {target:=.collected r,..}::ds,h=>match h.get r with
  | some (.o (.deferred (some [])))=>cond (Nat.ble h.floor r) (evLeave ds (h.put r (.o (.deferred none)))) none
  | _=>none
 | _,_=>none
def evRes (P:Program) (t:List Value) (h:AH):List ResultVar→Option (List Value)
 | []=>some []
 | .tmp k::r=>match evRes P t h r with
  | some l=>some (nth t k::l)
  | none=>none
 | .cell a T::r=>match nth t a with
  | .pointer (some ⟨b,off,none⟩)=>match h.load P T b off,evRes P t h r with
   | some v,some l=>some (v::l)
   | _,_=>none
  | _=>none
def tupA:List Value→Value
 | [v]=>v
 | l=>.tuple l.toArray
def evCall (P:Program) (rec:Ev) (f:FuncId) (args:List Value) (h:AH):Option (Value × AH) :=
 match P.funcs[f]? with
 | none=>none
 | some fn=>match fn.body with
  | none=>none
  | some c=>cond (fn.name == "runtime.NumGoroutine") none
   (match rec none c (args++List.replicate (fn.ntmps - args.length) undef) [] h with
    | some (.normal,t,d,h')|some (.ret,t,d,h')=>match evLeave d h' with
     | none=>none
     | some h2=>match evRes P t h2 fn.results.toList with
      | some l=>some (tupA l,h2)
      | none=>none
    | _=>none)
def setTm:List Value→List Tmp→List Value→List Value
 | t,p::ps,v::vs=>setTm (t.set p v) ps vs
 | t,_,_=>t
def jumpOf:Exit→Option (Option Code)
 | .normal=>some none
 | .ret=>some (some .ret)
 | .exit id=>some (some (.exit id))
 | .goto l=>some (some (.goto l))
 | _=>none
def evYield (rec:Ev) (l:Nat) (args:List Value) (h:AH):Option (Value × AH) :=
 match h.get l with
 | some (.o (.loop r))=>cond (Nat.beq args.length r.params.size&&Nat.ble h.floor l)
  (match rec (some l) r.assign (setTm r.tmps.toList r.params.toList args) [] h with
   | some (.normal,t1,[],h1)=>match h1.get l with
    | some (.o (.loop r1))=>match r1.state with
     | .ready=>match rec (some l) r.body t1 [] (h1.put l (.o (.loop {r1 with state:=.busy}))) with
      | some (e,_,_,h3)=>match h3.get l,jumpOf e with
       | some (.o (.loop r3)),some none=>some (.bool true,h3.put l (.o (.loop {r3 with state:=.ready,pending:=none})))
       | some (.o (.loop r3)),some (some j)=>some (.bool false,h3.put l (.o (.loop {r3 with state:=.done,pending:=some j})))
       | _,_=>none
      | none=>none
     | _=>none
    | _=>none
   | _=>none) none
 | _=>none
def evFn (P:Program) (rec:Ev) (f:Value) (args:List Value) (h:AH):Option (Value × AH) :=
 match f with
 | .func (.func g) first cap=>evCall P rec g (first.toList++args++cap.toList) h
 | .func (.yield l) _ _=>evYield rec l args h
 | _=>none
def evAny (P:Program) (G:Nat) (rec:Ev) (t:List Value) (h:AH) (o:Oper):Option (Value × AH) :=
 match o.op with
 | .call {callee:=.value f,args:=xs,..}=>match aev G t f,aevs G t xs.toList with
  | some fv,some l=>evFn P rec fv l h
  | _,_=>none
 | op=>evOp P G t h o.type op
def evSeq (P:Program) (G:Nat) (rec:Ev) (ops:List Oper):List Oper→List Value→AH→Option (List Value × AH)
 | [],t,h=>some (t,h)
 | o::r,t,h=>match wantedA ops t o with
  | false=>evSeq P G rec ops r (putA t o.dst undef) h
  | true=>match evAny P G rec t h o with
   | none=>none
   | some (v,h')=>evSeq P G rec ops r (putA t o.dst v) h'
def tmpsOf (o:Oper):List Tmp:=o.dst.toList++o.op.operands.toList.filterMap fun|.tmp t=>some t|_=>none
def guardT (ops:List Oper) (o:Oper):List Tmp:=match o.guard with
 | none=>[]
 | some (j,_)=>match ops.drop j with
  | {dst:=some d,..}::_=>[d]
  | _=>[]
def nthN:List Nat→Nat→Nat
 | [],_=>0
 | x::_,0=>x
 | _::r,n+1=>nthN r n
def maskOf (acc:List Nat):List Edge→Nat
 | []=>0
 | e::r=>cond (Region.binds .any e) ((maskOf acc r ||| 2 ^ e.on) ||| nthN acc e.on) (maskOf acc r)
def befGo:List Oper→List Nat→List Nat
 | [],acc=>acc
 | o::r,acc=>befGo r (acc++[maskOf acc o.after.toList])
def befL (ops:List Oper):List Nat:=befGo ops []
def edgesOk:List Oper→Nat→Bool
 | [],_=>true
 | o::r,i=>(o.after.toList.all fun e=>!(Region.binds .any e) || Nat.blt e.on i)&&edgesOk r (i+1)
def tmpOk (ops:List Oper) (bef:List Nat):List Oper→Nat→Bool
 | [],_=>true
 | o::r,i=>((ops.zipIdx.all fun (p,j)=>Nat.beq i j || (match o.dst with
   | none=>true
   | some d=>!((tmpsOf p++guardT ops p).contains d) || (!(p.dst == some d)&&(cond (Nat.blt i j) ((nthN bef j).testBit i) ((nthN bef i).testBit j)))))&&tmpOk ops bef r (i+1))
structure Fx where
 rds:List (Nat × Nat)
 wrs:List (Nat × Nat)
 cls:List Nat
 frs:List (Nat × Nat × Nat)
def hidOf (b:Nat):List (Nat × Nat × Nat)→List (Nat × Nat)
 | []=>[]
 | (j,lo,hi)::r=>cond (b.testBit j) (hidOf b r) ((lo,hi)::hidOf b r)
inductive Kd where
 | free|read (b:Nat)|write (b:Nat)|call
def kindOf (G:Nat) (t:List Value):Op→Kd
 | .load _ x=>match aev G t x with
  | some (.pointer (some a))=>.read a.block
  | _=>.call
 | .store _ x _=>match aev G t x with
  | some (.pointer (some a))=>.write a.block
  | _=>.call
 | .mapUpdate _ x _ _|.insert _ x _ _=>match aev G t x with
  | some (.map (some b))=>.write b
  | _=>.call
 | .call {callee:=.builtin .len,..}|.call {callee:=.builtin .max,..}|.call {callee:=.builtin .min,..}=>.free
 | .convert _ _ x=>match aev G t x with
  | some (.slice (some _) _ _)=>.call
  | _=>.free
 | .slice _ x _ _ _=>match aev G t x with
  | some (.string _)=>.free
  | _=>.call
 | .move _|.assign _|.pick _ _ _|.alloc _|.box _ _|.build _ _|.buildSlice _ _ _|.nilCheck _|.binOp _ _ _ _ _|.unOp _ _ _|.makeInterface _ _|.makeFunc _ _ _|.makeMap _ _|.makeSlice _ _ _|.fieldAddr _ _ _|.field _ _ _|.indexAddr _ _ _|.index _ _ _|.typeAssert _ _ _ _|.extract _ _=>.free
 | _=>.call
def freshOk (b:Nat) (bi:Nat) (frs:List (Nat × Nat × Nat)):Bool:=frs.all fun (j,lo,hi)=>bi.testBit j || !(Nat.ble lo b&&Nat.blt b hi)
def hidK (k:Kd) (bi:Nat) (fx:Fx) (nx:Nat):List (Nat × Nat) :=
 match k with
 | .free=>[(0,nx)]
 | .read b|.write b=>[(0,b),(b+1,nx)]
 | .call=>hidOf bi fx.frs
def floorK (k:Kd) (h:AH):Nat :=
 match k with
 | .write _=>h.floor
 | _=>h.next
def okK (k:Kd) (bef:List Nat) (i:Nat) (fx:Fx) (h:AH):Bool :=
 match k with
 | .free=>true
 | .read b=>freshOk b (nthN bef i) fx.frs&&(fx.wrs.all fun (m,c)=>(nthN bef i).testBit m || !(Nat.beq b c))&&(h.get b).isSome
 | .write b=>freshOk b (nthN bef i) fx.frs&&(fx.wrs.all fun (m,c)=>(nthN bef i).testBit m || !(Nat.beq b c))&&(fx.rds.all fun (m,c)=>(nthN bef i).testBit m || !(Nat.beq b c))&&(fx.cls.all fun m=>(nthN bef i).testBit m || inR (hidOf (nthN bef m) fx.frs) b)&&(h.get b).isSome&&Nat.ble h.floor b
 | .call=>fx.wrs.all fun (m,c)=>(nthN bef i).testBit m || inR (hidOf (nthN bef i) fx.frs) c
def fxK (k:Kd) (i:Nat) (fx:Fx) (lo hi:Nat):Fx :=
 match k with
 | .free=>{fx with frs:=(i,lo,hi)::fx.frs}
 | .read b=>{fx with rds:=(i,b)::fx.rds,frs:=(i,lo,hi)::fx.frs}
 | .write b=>{fx with wrs:=(i,b)::fx.wrs,frs:=(i,lo,hi)::fx.frs}
 | .call=>{fx with cls:=i::fx.cls,frs:=(i,lo,hi)::fx.frs}
def evDraw (P:Program) (G:Nat) (rec:Ev) (ops:List Oper) (bef:List Nat):List Oper→Nat→Fx→List Value→AH→Option (List Value × AH)
 | [],_,_,t,h=>some (t,h)
 | o::r,i,fx,t,h=>match wantedA ops t o with
  | false=>evDraw P G rec ops bef r (i+1) fx (putA t o.dst undef) h
  | true=>cond (okK (kindOf G t o.op) bef i fx h)
   (match evAny P G rec t {h with hid:=hidK (kindOf G t o.op) (nthN bef i) fx h.next++h.hid,floor:=floorK (kindOf G t o.op) h} o with
    | none=>none
    | some (v,h')=>evDraw P G rec ops bef r (i+1) (fxK (kindOf G t o.op) i fx h.next h'.next) (putA t o.dst v) {h' with hid:=h.hid,floor:=h.floor}) none
def evRegion (P:Program) (G:Nat) (rec:Ev) (ops:Array Oper) (draw:Bool) (t:List Value) (h:AH):Option (List Value × AH) :=
 cond draw
  (cond (tmpOk ops.toList (befL ops.toList) ops.toList 0&&edgesOk ops.toList 0) (evDraw P G rec ops.toList (befL ops.toList) ops.toList 0 ⟨[],[],[],[]⟩ t h) none)
  (evSeq P G rec ops.toList ops.toList t h)
def exitOf:Option Code→Option Exit
 | none=>some .normal
 | some .ret=>some .ret
 | some (.exit id)=>some (.exit id)
 | some (.goto l)=>some (.goto l)
 | _=>none
def evGo (P:Program) (rec:Ev) (f y:Value) (h:AH):Option (Value × AH) :=
 match f with
 | .func (.func g) first cap=>evCall P rec g (first.toList++[y]++cap.toList) h
 | _=>none
def evAround (round:Option Nat) (h:AH):Option (Nat × List Deferred × AH) :=
 match round with
 | none=>some (h.next,[{target:=.collected h.next,args:=#[]}],h.new (.o (.deferred (some []))))
 | some l=>match h.get l with
  | some (.o (.loop r))=>some (r.defers,[],h)
  | _=>none
def evRange (P:Program) (G:Nat) (rec:Ev) (round:Option Nat) (f:Operand) (params:Array Tmp) (assign body:Code) (t:List Value) (d:List Deferred) (h:AH):Option (Exit × List Value × List Deferred × AH) :=
 match aev G t f with
 | none=>none
 | some fv =>
  match evAround round h with
  | none=>none
  | some (D,mark,h1) =>
   match evGo P rec fv (.func (.yield h1.next) #[] #[]) (h1.new (.o (.loop {state:=.ready,pending:=none,fn:=0,tmps:=t.toArray,params,assign,body,defers:=D}))) with
   | none=>none
   | some (_,h2)=>match h2.get h1.next with
    | some (.o (.loop r))=>cond (r.state == .busy || Nat.blt h1.next h2.floor) none
     (match exitOf r.pending with
      | some e=>some (e,t,mark++d,h2.put h1.next (.o (.loop {r with state:=.exhausted})))
      | none=>none)
    | _=>none
def ev (P:Program) (G:Nat):Nat→Ev
 | 0,_,_,_,_,_=>none
 | n+1,rd,c,t,d,h=>match c with
  | .skip|.label _=>some (.normal,t,d,h)
  | .region _ ops draw=>match evRegion P G (ev P G n) ops draw t h with
   | some (t',h')=>some (.normal,t',d,h')
   | none=>none
  | .seq a b=>match ev P G n rd a t d h with
   | some (.normal,t',d',h')=>ev P G n rd b t' d' h'
   | r=>r
  | .cond c x y=>match aev G t c with
   | some (.bool true)=>ev P G n rd x t d h
   | some (.bool false)=>ev P G n rd y t d h
   | _=>none
  | .block id b=>match ev P G n rd b t d h with
   | some (.exit k,t',d',h')=>cond (Nat.beq k id) (some (.normal,t',d',h')) (some (.exit k,t',d',h'))
   | r=>r
  | .loop b=>match ev P G n rd b t d h with
   | some (.normal,t',d',h')=>ev P G n rd (.loop b) t' d' h'
   | r=>r
  | .exit id=>some (.exit id,t,d,h)
  | .goto l=>some (.goto l,t,d,h)
  | .ret=>some (.ret,t,d,h)
  | .scope b=>match ev P G n rd b t d h with
   | some (.goto _,_,_,_)=>none
   | r=>r
  | .rangeFunc f params assign body=>evRange P G (ev P G n) rd f params assign body t d h
  | .refuse _=>none
def evRun (P:Program) (G n:Nat) (t:Tr) (f:FuncId) (args:List Value):Option (Value × AH):=evCall P (ev P G n) f args ⟨t,G,G,[]⟩
def isT:Option (Value × AH)→Bool
 | some (.bool true,_)=>true
 | _=>false
def setC (s:Nat→Nat):Array Value:=#[.int .u64 (s 0),.int .u64 (s 1),.int .u64 (s 2),.int .u64 (s 3)]
def hasB (s:Nat→Nat) (b:Nat):Bool:=(s (b / 64)).testBit (b % 64)
def emptyS:Nat→Nat:=fun _=>0
def SBox (W:World) (B:Nat) (T:TypeId) (s:Nat→Nat):Prop:=W.heap[B]?=some (.cells (setC s) T (0,0))
theorem SBox.lt {W:World} {B:Nat} {T:TypeId} {s:Nat→Nat} (h:SBox W B T s):B<W.heap.size:=(Array.getElem?_eq_some_iff.1 h).1
theorem SBox.cell {W:World} {B:Nat} {T:TypeId} {s:Nat→Nat} (h:SBox W B T s) {k:Nat} (hk:k<4):W.cell? ⟨B,k,none⟩=some (.int .u64 (s k)):=by
 rw[cell_of_row W B k _ _ _ h];unfold setC
 match k,hk with
 | 0,_=>rfl
 | 1,_=>rfl
 | 2,_=>rfl
 | 3,_=>rfl
theorem SBox.new (W:World) (T:TypeId) (s:Nat→Nat):SBox (W.alloc (.cells (setC s) T)) W.heap.size T s:=World.alloc_heap_new W _
theorem SBox.alloc {W:World} {B:Nat} {T:TypeId} {s:Nat→Nat} (h:SBox W B T s) (o:Obj):SBox (W.alloc o) B T s:=(Below.heap_alloc W o B h.lt).trans h
theorem SBox.other {W:World} {B B':Nat} {T:TypeId} {s:Nat→Nat} (h:SBox W B T s) (hne:B≠B') (k:Nat) (v:Value):SBox (W.setCell ⟨B',k,none⟩ v) B T s:=(Below.heap_setCell W _ _ B hne).trans h
theorem SBox.set {W:World} {B:Nat} {T:TypeId} {s:Nat→Nat} (h:SBox W B T s) {k:Nat} (hk:k<4) (x:Nat):SBox (W.setCell ⟨B,k,none⟩ (.int .u64 x)) B T (fun j=>if j=k then x else s j):=by
 obtain⟨hlt,hh⟩:=Array.getElem?_eq_some_iff.1 h
 show (W.heap.modify B _)[B]?=_
 rw[Array.getElem?_eq_getElem (by rw[Array.size_modify];exact hlt),Array.getElem_modify_self,hh]
 unfold setC
 match k,hk with
 | 0,_=>rfl
 | 1,_=>rfl
 | 2,_=>rfl
 | 3,_=>rfl
def RdS (w:World) (b0:Nat) (v:Value) (L:List (Nat→Nat)):Prop :=
 ((∃ q,v=.slice q 0 0)∧L=[])∨∃ b off cap,v=.slice (some ⟨b,off,none⟩) L.length cap∧b<b0∧L.length≤cap∧cap≤maxLen ∧
  ∀ j,(hj:j<L.length)→∀ k,k<4→w.cell? ⟨b,off+j * 4+k,none⟩=some (.int .u64 (L[j] k))
theorem RdS.up {w:World} {b0 b1:Nat} {v:Value} {L:List (Nat→Nat)} (h:RdS w b0 v L) (hb:b0≤b1):RdS w b1 v L:=by
 rcases h with h|⟨b,off,cap,e,h1,h2,h3,h4⟩
 ·exact .inl h
 ·exact .inr ⟨b,off,cap,e,by omega,h2,h3,h4⟩
end
section
open Go.RowKit Go.Shelf
attribute [local go_sem] Oper.semAt_some



end
section
open Go.RowKit
def fill:List Oper→Nat→Array Bool→(Nat→Value)→Act→Act
 | [],_,_,_,a=>a
 | o::r,k,listed,vals,a=>fill r (k+1) listed vals (if listed.getD k false then a.put o.dst (vals k) else a)
def fillAll:List Oper→Nat→(Nat→Value)→Act→Act
 | [],_,_,a=>a
 | o::r,k,vals,a=>fillAll r (k+1) vals (a.put o.dst (vals k))
theorem fill_all:∀ (l:List Oper) (k:Nat) (listed:Array Bool) (vals:Nat→Value) (a:Act),(∀ i,i<l.length→listed.getD (k+i) false=true)→fill l k listed vals a=fillAll l k vals a
 | [],_,_,_,_,_=>rfl
 | o::r,k,listed,vals,a,h=>by
  have h0:listed.getD k false=true:=by simpa using h 0 (by simp)
  simp only[fill,fillAll,h0,if_true];exact fill_all r (k+1) listed vals _ (fun i hi=>by have:=h (i+1) (by simp;omega);rwa [show k+(i+1)=k+1+i from by omega]at this)
theorem fill_none:∀ (l:List Oper) (k:Nat) (listed:Array Bool) (vals:Nat→Value) (a:Act),(∀ i,listed.getD i false=false)→fill l k listed vals a=a
 | [],_,_,_,_,_=>rfl
 | o::r,k,listed,vals,a,h=>by
  simp only[fill,h k,Bool.false_eq_true,if_false];exact fill_none r (k+1) listed vals a h
theorem fill_put:∀ (l:List Oper) (k:Nat) (listed:Array Bool) (vals:Nat→Value) (a:Act) (d:Tmp) (v:Value),(∀ o ∈ l,o.dst≠some d) →
  fill l k listed vals (a.put (some d) v)=(fill l k listed vals a).put (some d) v
 | [],_,_,_,_,_,_,_=>rfl
 | o::r,k,listed,vals,a,d,v,h=>by
  simp only[fill];rw[← fill_put r (k+1) listed vals _ d v (fun o' ho'=>h o' (List.mem_cons_of_mem _ ho'))]
  congr 1
  split
  ·exact Act.put_comm a v (vals k) (fun d' e=>by cases e;exact h o (List.mem_cons_self ..))
  ·rfl
theorem fill_congr:∀ (l:List Oper) (k:Nat) (listed listed':Array Bool) (vals vals':Nat→Value) (a:Act),
  (∀ i,i<l.length→listed.getD (k+i) false=listed'.getD (k+i) false∧vals (k+i)=vals' (k+i))→fill l k listed vals a=fill l k listed' vals' a
 | [],_,_,_,_,_,_,_=>rfl
 | o::r,k,listed,listed',vals,vals',a,h=>by
  have h0:=h 0 (by simp)
  simp only[Nat.add_zero]at h0;simp only[fill,h0.1,h0.2];exact fill_congr r (k+1) listed listed' vals vals' _ (fun i hi=>by have:=h (i+1) (by simp;omega);rwa [show k+(i+1)=k+1+i from by omega]at this)
def dstsB:List Oper→Bool
 | []=>true
 | o::r=>o.dst.isSome&&r.all (fun o'=>o'.dst != o.dst)&&dstsB r
theorem fill_set:∀ (l:List Oper) (k i:Nat) (listed:Array Bool) (vals:Nat→Value) (a:Act) (o:Oper) (d:Tmp) (v:Value),dstsB l=true→l[i]?=some o→o.dst=some d →
  listed.getD (k+i) true=false →
  fill l k (listed.setIfInBounds (k+i) true) (fun j=>if j=k+i then v else vals j) a=(fill l k listed vals a).put (some d) v
 | [],_,_,_,_,_,_,_,_,_,h,_,_=>by simp at h
 | o::r,k,0,listed,vals,a,o',d,v,hd,h,hod,hl=>by
  simp at h;subst h;simp only[dstsB,Bool.and_eq_true]at hd;obtain⟨⟨_,hall⟩,hr⟩:=hd;have hne:∀ o' ∈ r,o'.dst≠some d:=by
   intro o' ho' e;have:=List.all_eq_true.1 hall o' ho';rw[e,hod]at this;simp at this
  have h1:(listed.setIfInBounds k true).getD k false=true:=by
   have hk:k<listed.size:=by
    rcases Nat.lt_or_ge k listed.size with h'|h'
    ·exact h'
    ·simp[Array.getElem?_eq_none h']at hl
   simp[hk]
  have h2:listed.getD k false=false:=getD_both (by simpa using hl)
  simp only[Nat.add_zero,fill,h1,h2,if_true,Bool.false_eq_true,if_false,hod];rw[fill_put r (k+1) _ _ a d v hne]
  congr 1
  refine fill_congr r (k+1) _ _ _ _ a (fun i hi=>⟨?_,by rw[if_neg (by omega)]⟩)
  exact getD_set_ne false (by omega)
 | o::r,k,i+1,listed,vals,a,o',d,v,hd,h,hod,hl=>by
  simp only[dstsB,Bool.and_eq_true]at hd;obtain⟨⟨_,hall⟩,hr⟩:=hd;simp only[List.getElem?_cons_succ]at h;have ih:=fill_set r (k+1) i listed vals (if listed.getD k false then a.put o.dst (vals k) else a) o' d v hr h hod (by rwa [show k+1+i=k+(i+1) from by omega])
  simp only[fill];rw[show k+(i+1)=k+1+i from by omega,getD_set_ne false (by omega),if_neg (by omega:¬ k=k+1+i)]
  exact ih
theorem put_tmps (a:Act) (d t:Nat) (v:Value) (h:t≠d):(a.put (some d) v).eval (.tmp t)=a.eval (.tmp t):=by
 simp only[Act.put,Act.eval];simp[Array.getElem?_setIfInBounds_ne (show d≠t from fun e=>h e.symm)]
theorem put_tmps_same (a:Act) (d:Nat) (v:Value) (h:d<a.tmps.size):(a.put (some d) v).eval (.tmp d)=v:=by
 simp only[Act.put,Act.eval];simp[h]
theorem put_size (a:Act) (d:Option Tmp) (v:Value):(a.put d v).tmps.size=a.tmps.size:=by
 cases d<;>simp[Act.put]
theorem fill_size:∀ (l:List Oper) (k:Nat) (listed:Array Bool) (vals:Nat→Value) (a:Act),(fill l k listed vals a).tmps.size=a.tmps.size
 | [],_,_,_,_=>rfl
 | o::r,k,listed,vals,a=>by
  simp only[fill];rw[fill_size];split
  ·exact put_size ..
  ·rfl
theorem fill_frame:∀ (l:List Oper) (k:Nat) (listed:Array Bool) (vals:Nat→Value) (a:Act) (t:Tmp),l.any (fun o=>o.dst == some t)=false→(fill l k listed vals a).eval (.tmp t)=a.eval (.tmp t)
 | [],_,_,_,_,_,_=>rfl
 | o::r,k,listed,vals,a,t,h=>by
  simp only[List.any_cons,Bool.or_eq_false_iff]at h;simp only[fill];rw[fill_frame r (k+1) listed vals _ t h.2];split
  ·cases hd:o.dst with
   | none=>rfl
   | some d=>exact put_tmps a d t _ (fun e=>by subst e;rw[hd]at h;simp at h)
  ·rfl
theorem fill_at:∀ (l:List Oper) (k:Nat) (listed:Array Bool) (vals:Nat→Value) (a:Act) (j:Nat) (o:Oper) (d:Tmp),dstsB l=true→l[j]?=some o→o.dst=some d→d<a.tmps.size →
  listed.getD (k+j) false=true→(fill l k listed vals a).eval (.tmp d)=vals (k+j)
 | [],_,_,_,_,_,_,_,_,h,_,_,_=>by simp at h
 | o::r,k,listed,vals,a,0,o',d,hd,h,hod,hsz,hl=>by
  simp at h;subst h;simp only[dstsB,Bool.and_eq_true]at hd;obtain⟨⟨_,hall⟩,hr⟩:=hd;simp only[Nat.add_zero]at hl ⊢;simp only[fill,hl,if_true,hod]
  rw[fill_frame r (k+1) listed vals _ d (by
   rw[Bool.eq_false_iff];intro hc;obtain⟨o',ho',e⟩:=List.any_eq_true.1 hc;have:=List.all_eq_true.1 hall o' ho';rw[hod]at this
   simp at e this;exact this e),put_tmps_same a d _ hsz]
 | o::r,k,listed,vals,a,j+1,o',d,hd,h,hod,hsz,hl=>by
  simp only[dstsB,Bool.and_eq_true]at hd;simp only[fill];rw[show k+(j+1)=k+1+j from by omega]at hl ⊢
  exact fill_at r (k+1) listed vals _ j o' d hd.2 (by simpa using h) hod (by split<;>simp[put_size,hsz]) hl
structure RCtx (l:List Oper) (Ss:Nat→Value→World→Prop) (a0:Act) (w0:World) (o:Oper) (a:Act) (w:World):Prop where
 below:Below w0.heap.size w0 w
 frame:∀ t,l.any (fun o=>o.dst == some t)=false→a.eval (.tmp t)=a0.eval (.tmp t)
 dep:∀ j d,o.after.toList.any (fun e=>Region.binds .any e&&e.on == j)=true→(l[j]?).bind (·.dst)=some d→Ss j (a.eval (.tmp d)) w
 bound:a.tmps.size=a0.tmps.size
def StepOk (P:Program) (o:Oper) (a:Act) (w:World) (s:Value→World→Prop):Prop :=
 o.wp P a w (fun a' w'=>∃ v,a'=a.put o.dst v∧Below w.heap.size w w'∧s v w') (fun _ _ _=>False)
def RStep (P:Program) (ops:Array Oper) (o:Oper) (a:Act) (w:World) (s:Value→World→Prop):Prop :=
 if Region.wanted o (yielded ops a.tmps) then StepOk P o a w s else s undef w
theorem wpQ_mono {P:Program} {o:Oper} {a:Act} {w:World} {K:Act→World→Prop} {Q:Exit→Act→World→Prop} (h:o.wp P a w K (fun _ _ _=>False)):o.wp P a w K Q:=by
 unfold Oper.wp at *
 generalize (execOp a.eval o).run P w=r at *
 cases r with
 | ok n w' =>
  cases n<;>simp only[Oper.upon]at h ⊢ <;>
   first
    | exact h
    | exact Calls.mono h (fun e w'' he=>by
      cases e with
      | returned v=>exact he
      | panicked c=>exact he.elim
      | outgrown=>obtain⟨_,_,h⟩:=he;exact h.elim)
 | halt x w'=>cases x<;>simp only[Oper.upon]at h ⊢<;>exact h.elim
def headListed (n g:Nat):Array Bool:=(List.replicate n true++List.replicate g false).toArray
theorem pl:(∀ (t:Array Value) (d:List Deferred) (i:Nat) (v:Value),({tmps:=t,defers:=d}:Act).put (some i) v={tmps:=t.setIfInBounds i v,defers:=d})∧(∀ (a:Act) (v:Value),a.put none v=a)∧(∀ (a:Value) (l:List Value) (n:Nat),l.toArray.setIfInBounds n a=(l.set n a).toArray)∧(∀ (a b:Value) (l:List Value) (n:Nat),(a::l).set (n+1) b=a::l.set n b)∧∀ (a b:Value) (l:List Value),(a::l).set 0 b=b::l :=
 ⟨fun _ _ _ _=>rfl,fun _ _=>rfl,fun _ _ _=>List.setIfInBounds_toArray ..,fun _ _ _ _=>rfl,fun _ _ _=>rfl⟩
def blk:Value→Nat
 | .pointer (some a)=>a.block
 | .slice (some a) _ _=>a.block
 | _=>0
def Stable (s:Value→World→Prop):Prop:=∀ v w w',s v w→Below w.heap.size w w'→s v w'
theorem stable_eq (x:Value):Stable (fun v _=>v=x):=fun _ _ _ h _=>h
def lookS:List (Value→World→Prop)→Nat→Value→World→Prop
 | [],_=>fun _ _=>True
 | s::_,0=>s
 | _::r,i+1=>lookS r i
def AllStable:List (Value→World→Prop)→Prop
 | []=>True
 | s::r=>Stable s∧AllStable r
theorem lookS_stable:∀ (L:List (Value→World→Prop)) (i:Nat),AllStable L→Stable (lookS L i)
 | [],_,_=>fun _ _ _ h _=>h
 | _::_,0,h=>h.1
 | _::r,i+1,h=>lookS_stable r i h.2
def Obl (P:Program) (l hd:List Oper) (L:List (Value→World→Prop)) (D:Nat→Bool) (a0:Act) (w0:World):List Oper→Nat→Prop
 | [],_=>True
 | o::r,i=>(∀ a w,RCtx hd (lookS L) a0 w0 o a w→RStep P l.toArray o a w (fun v w'=>lookS L i v w'∧(D i=true→w.heap.size≤blk v)))∧Obl P l hd L D a0 w0 r (i+1)
theorem Obl.get {P:Program} {l hd:List Oper} {L:List (Value→World→Prop)} {D:Nat→Bool} {a0:Act} {w0:World}:∀ (r:List Oper) (k:Nat),Obl P l hd L D a0 w0 r k→∀ i o,r[i]?=some o →
  ∀ a w,RCtx hd (lookS L) a0 w0 o a w→RStep P l.toArray o a w (fun v w'=>lookS L (k+i) v w'∧(D (k+i)=true→w.heap.size≤blk v))
 | [],_,_,_,_,h=>by simp at h
 | o::r,k,h,0,o',h'=>by simp at h';subst h';exact h.1
 | o::r,k,h,i+1,o',h'=>by
  have:=Obl.get r (k+1) h.2 i o' (by simpa using h')
  rwa [show k+1+i=k+(i+1) from by omega]at this
theorem rs_val {P:Program} {ops:Array Oper} {o:Oper} {a:Act} {w w':World} {s:Value→World→Prop} {v:Value} (hg:Region.wanted o (yielded ops a.tmps)=true)
  (hr:(execOp a.eval o).run P w=.ok (.value v) w') (hb:Below w.heap.size w w') (hs:s v w'):RStep P ops o a w s:=by
 unfold RStep;rw[if_pos hg];unfold StepOk Oper.wp;rw[hr];exact⟨v,rfl,hb,hs⟩
theorem rs_skip {P:Program} {ops:Array Oper} {o:Oper} {a:Act} {w:World} {s:Value→World→Prop} (hg:Region.wanted o (yielded ops a.tmps)=false) (hs:s undef w):RStep P ops o a w s:=by
 unfold RStep;rw[if_neg (by rw[hg];decide)];exact hs
theorem yielded_of {ops:Array Oper} {a:Act} {j:Nat} {d:Tmp} {b:Bool} (h1:(ops[j]?).bind (·.dst)=some d) (h2:a.eval (.tmp d)=.bool b):yielded ops a.tmps j=some b:=by
 unfold yielded;rw[h1];simp only[Option.bind_some];simp only[Act.eval,Array.getD_eq_getD_getElem?]at h2
 cases h3:a.tmps[d]? with
 | none=>rw[h3]at h2;simp[undef]at h2
 | some x=>rw[h3]at h2;simp at h2;subst h2;rfl
theorem wanted_g {ops:Array Oper} {o:Oper} {a:Act} {j:Nat} {b:Bool} (hg:o.guard=some (j,b)) (hy:yielded ops a.tmps j=some b):Region.wanted o (yielded ops a.tmps)=true:=by
 simp[Region.wanted,hg,hy]
theorem not_wanted_g {ops:Array Oper} {o:Oper} {a:Act} {j:Nat} {b c:Bool} (hg:o.guard=some (j,b)) (hy:yielded ops a.tmps j=some c) (hbc:c≠b):Region.wanted o (yielded ops a.tmps)=false:=by
 simp[Region.wanted,hg,hy,hbc]
theorem RCtx.d {l:List Oper} {Ss:Nat→Value→World→Prop} {a0:Act} {w0:World} {o:Oper} {a:Act} {w:World} (h:RCtx l Ss a0 w0 o a w) (j d:Nat) (h1:o.after.toList.any (fun e=>Region.binds .any e&&e.on == j)=true:=by exact rfl) (h2:(l[j]?).bind (·.dst)=some d:=by exact rfl):Ss j (a.eval (.tmp d)) w:=h.dep j d h1 h2
theorem RCtx.f {l:List Oper} {Ss:Nat→Value→World→Prop} {a0:Act} {w0:World} {o:Oper} {a:Act} {w:World} (h:RCtx l Ss a0 w0 o a w) (t:Nat) (h1:l.any (fun o=>o.dst == some t)=false:=by exact rfl):a.eval (.tmp t)=a0.eval (.tmp t):=h.frame t h1
end
section
open Go.RowKit Go.Shelf
attribute [local go_sem] Oper.semAt_some
def IsBox (n0:Nat) (s:Nat→Nat) (v:Value) (w:World):Prop:=∃ g,v=.pointer (some ⟨g,0,none⟩)∧n0≤g∧SBox w g 31 s
theorem IsBox.lt {n0:Nat} {s:Nat→Nat} {v:Value} {w:World} (h:IsBox n0 s v w):blk v<w.heap.size:=by
 obtain⟨g,rfl,_,h2⟩:=h;exact h2.lt
end
section
open Go.RowKit
theorem headListed_get (n g i:Nat) (d:Bool) (h:i<n+g):(headListed n g).getD i d=decide (i<n):=by
 have hs:i<(headListed n g).size:=by simp[headListed];omega
 rw[Array.getD_eq_getD_getElem?,Array.getElem?_eq_getElem hs];simp only[headListed,Option.getD_some,List.getElem_toArray]
 by_cases hi:i<n
 ·rw[List.getElem_append_left (by simpa using hi)];simp[hi]
 ·rw[List.getElem_append_right (by simpa using hi)];simp[hi]
theorem headListed_out (n g i:Nat) (d:Bool) (h:n+g≤i):(headListed n g).getD i d=d:=by
 rw[Array.getD_eq_getD_getElem?,Array.getElem?_eq_none (by simp[headListed];omega)];rfl
def seqB (l:List Oper) (n:Nat):Bool:=decide (n≤l.length)&&dstsB (l.take n)&&((l.take n).zipIdx.all fun (o,i)=>o.after.all fun e=>!Region.binds .any e || decide (e.on<i))
theorem wp_region_seqD {P:Program} {id:Nat} {Q:Exit→Act→World→Prop} {a0:Act} {w0:World} {l:List Oper} (n:Nat) (Ss:Nat→Value→World→Prop) (D:Nat→Bool)
  (hB:seqB l n=true) (hsz:(l.take n).all (fun o=>match o.dst with|some d=>decide (d<a0.tmps.size)|none=>true)=true)
  (hst:∀ i,i<n→∀ v w w',Ss i v w→Below w.heap.size w w'→Ss i v w')
  (hlt:∀ i,i<n→D i=true→∀ v w,Ss i v w→blk v<w.heap.size)
  (hstep:∀ i o,i<n→l[i]?=some o→∀ a w,RCtx (l.take n) Ss a0 w0 o a w→RStep P l.toArray o a w (fun v w'=>Ss i v w'∧(D i=true→w.heap.size≤blk v)))
  (hend:∀ vals w,Below w0.heap.size w0 w→(∀ i,i<n→Ss i (vals i) w)→(∀ i j,i<n→j<n→i≠j→D i=true→D j=true→blk (vals i)≠blk (vals j))→wpList P l.toArray Q (l.drop n) (fillAll (l.take n) 0 vals a0) w) :
  (Code.region id l.toArray false).wp P Q a0 w0:=by
 simp only[seqB,Bool.and_eq_true,decide_eq_true_eq]at hB;obtain⟨⟨hn,hd'⟩,haf⟩:=hB;have htl:(l.take n).length=n:=by simp;omega
 have hdst:∀ (i:Nat) (o:Oper),(l.take n)[i]?=some o→∃ d,o.dst=some d:=by
  intro i o h;have:∀ (r:List Oper) (j:Nat),dstsB r=true→r[j]?=some o→∃ d,o.dst=some d:=by
   intro r
   induction r with
   | nil=>intro j _ h;simp at h
   | cons x r ihr =>
    intro j hdd h;simp only[dstsB,Bool.and_eq_true]at hdd
    cases j with
    | zero=>simp at h;subst h;exact Option.isSome_iff_exists.1 hdd.1.1
    | succ j=>exact ihr j hdd.2 (by simpa using h)
  exact this _ i hd' h
 have hbd:∀ (j:Nat) (oj:Oper) (dj:Tmp),(l.take n)[j]?=some oj→oj.dst=some dj→dj<a0.tmps.size:=by
  intro j oj dj hj hdj;have:=List.all_eq_true.1 hsz oj (List.mem_of_getElem? hj)
  simpa [hdj] using this
 have key:∀ (f i:Nat),i+f=n→∀ (vals:Nat→Value) (a:Act) (w:World),a=fill (l.take n) 0 (headListed i (n - i)) vals a0→(∀ j,j<i→Ss j (vals j) w) →
   (∀ j k,j<i→k<i→j≠k→D j=true→D k=true→blk (vals j)≠blk (vals k))→Below w0.heap.size w0 w→wpList P l.toArray Q (l.drop i) a w:=by
  intro f
  induction f with
  | zero =>
   intro i hi vals a w ha hv hp hb;have hi':i=n:=by omega
   subst hi';rw[ha,fill_all (l.take i) 0 _ vals a0 (fun j hj=>by rw[Nat.zero_add,headListed_get _ _ _ _ (by omega)];simp;omega)]
   exact hend vals w hb hv hp
  | succ f ih =>
   intro i hi vals a w ha hv hp hb;have hin:i<n:=by omega
   have hil:i<l.length:=by omega
   have hot:(l.take n)[i]?=some l[i]:=by rw[List.getElem?_take_of_lt hin];simp[hil]
   obtain⟨d,hod⟩:=hdst i _ hot;rw[List.drop_eq_getElem_cons hil];have hctx:RCtx (l.take n) Ss a0 w0 l[i] a w:=by
    refine⟨hb,fun t ht=>by rw[ha];exact fill_frame _ _ _ _ _ t ht,fun j dj hj hdj=>?_,by rw[ha,fill_size]⟩
    obtain⟨e,he,hbe⟩:=List.any_eq_true.1 hj;simp only[Bool.and_eq_true,beq_iff_eq]at hbe;have h1:=List.all_eq_true.1 haf (l[i],i) (by rw[List.mem_zipIdx_iff_getElem?];simp[hin,hil])
    have h2:=Array.all_eq_true'.1 h1 e (Array.mem_toList_iff.1 he);simp only[hbe.1,Bool.not_true,Bool.false_or,decide_eq_true_eq,hbe.2]at h2;obtain⟨oj,hoj,hdj'⟩:=Option.bind_eq_some_iff.1 hdj;rw[ha,fill_at _ 0 _ vals a0 j oj dj hd' hoj hdj' (hbd j oj dj hoj hdj') (by rw[Nat.zero_add,headListed_get _ _ _ _ (by omega)];simpa using h2),Nat.zero_add]
    exact hv j h2
   have hstep':=hstep i l[i] hin (by simp[hil]) a w hctx
   have hnext:∀ v w',Below w.heap.size w w'→(Ss i v w'∧(D i=true→w.heap.size≤blk v))→wpList P l.toArray Q (l.drop (i+1)) (a.put l[i].dst v) w':=by
    intro v w' hbw ⟨hsv,hfr⟩;refine ih (i+1) (by omega) (fun j=>if j=i then v else vals j) _ w' ?_ (fun j hj=>?_) (fun j k hj hk hjk hDj hDk=>?_) (hb.trans (hbw.mono hb.size))
    ·have h1:=fill_set (l.take n) 0 i (headListed i (n - i)) vals a0 l[i] d v hd' hot hod (by rw[Nat.zero_add,headListed_get _ _ _ _ (by omega)];simp)
     rw[Nat.zero_add]at h1;rw[ha,hod,← h1];refine fill_congr _ _ _ _ _ _ _ (fun j hj=>⟨?_,rfl⟩)
     rw[Nat.zero_add,headListed_get _ _ _ _ (by omega)]
     by_cases hji:j=i
     ·subst hji;have:j<(headListed j (n - j)).size:=by simp[headListed];omega
      simp[Array.getD_eq_getD_getElem?,this]
     ·rw[getD_set_ne false (fun e=>hji e.symm),headListed_get _ _ _ _ (by omega)]
      simp;omega
    ·by_cases hji:j=i
     ·subst hji;simpa using hsv
     ·show Ss j (if j=i then v else vals j) w'
      rw[if_neg hji];exact hst j (by omega) _ _ _ (hv j (by omega)) hbw
    ·show blk (if j=i then v else vals j)≠blk (if k=i then v else vals k)
     by_cases hji:j=i
     ·have hki:k≠i:=fun e=>hjk (hji.trans e.symm)
      rw[if_pos hji,if_neg hki];have h1:=hfr (hji ▸ hDj);have h2:=hlt k (by omega) hDk _ _ (hv k (by omega))
      omega
     ·rw[if_neg hji]
      by_cases hki:k=i
      ·rw[if_pos hki];have h1:=hfr (hki ▸ hDk);have h2:=hlt j (by omega) hDj _ _ (hv j (by omega))
       omega
      ·rw[if_neg hki];exact hp j k (by omega) (by omega) hjk hDj hDk
   unfold RStep at hstep'
   show wpList P l.toArray Q (l[i]::l.drop (i+1)) a w
   unfold wpList;split
   ·rename_i hw;rw[if_pos hw]at hstep';refine .inl (wpQ_mono (Oper.wp_mono (fun a' w' ⟨v,e,hbw,hsv⟩=>?_) hstep'))
    subst e;exact hnext v w' hbw hsv
   ·rename_i hw;rw[if_neg hw]at hstep';exact hnext undef w (Below.refl _ w) hstep'
 refine wp_region_lit ?_
 have:=key n 0 (by omega) (fun _=>undef) a0 w0 (fill_none _ _ _ _ _ (fun j=>by
  rcases Nat.lt_or_ge j n with h|h
  ·rw[headListed_get _ _ _ _ (by omega)];simp
  ·rw[headListed_out _ _ _ _ (by omega)])).symm (fun j h=>by omega) (fun j k h=>by omega) (Below.refl _ _)
 simpa using this
theorem wp_region_seq {P:Program} {id:Nat} {Q:Exit→Act→World→Prop} {a0:Act} {w0:World} {l:List Oper} (n:Nat) (L:List (Value→World→Prop)) (D:Nat→Bool)
  (hB:seqB l n=true) (hsz:(l.take n).all (fun o=>match o.dst with|some d=>decide (d<a0.tmps.size)|none=>true)=true)
  (hst:AllStable L) (hlt:∀ i,i<n→D i=true→∀ v w,lookS L i v w→blk v<w.heap.size)
  (hstep:Obl P l (l.take n) L D a0 w0 (l.take n) 0)
  (hend:∀ vals w,Below w0.heap.size w0 w→(∀ i,i<n→lookS L i (vals i) w)→(∀ i j,i<n→j<n→i≠j→D i=true→D j=true→blk (vals i)≠blk (vals j)) →
   wpList P l.toArray Q (l.drop n) (fillAll (l.take n) 0 vals a0) w) :
  (Code.region id l.toArray false).wp P Q a0 w0 :=
 wp_region_seqD n (lookS L) D hB hsz (fun i _ v w w' h hb=>lookS_stable L i hst v w w' h hb) hlt
  (fun i o hi ho a w hc=>by
   have:=Obl.get (l.take n) 0 hstep i o (by rw[List.getElem?_take_of_lt hi];exact ho) a w hc
   rwa [Nat.zero_add]at this) hend
section
variable {P:Program} {ops:Array Oper} {o:Oper} {a:Act} {w:World} {D:Prop}
theorem rs_pure {v:Value} (hg:Region.wanted o (yielded ops a.tmps)=true) (hr:(execOp a.eval o).run P w=.ok (.value v) w) (hD:¬ D:=by decide) :
  RStep P ops o a w (fun v' _=>v'=v∧(D→w.heap.size≤blk v')) :=
 rs_val hg hr (Below.refl _ w) ⟨rfl,fun h=>(hD h).elim⟩
end
section
variable {P:Program} {ops:Array Oper} {o:Oper} {a:Act} {w:World} {D:Prop}
theorem yielded_undef {j:Nat} {d:Tmp} (h1:(ops[j]?).bind (·.dst)=some d) (h2:a.eval (.tmp d)=undef):yielded ops a.tmps j=none:=by
 unfold yielded;rw[h1];simp only[Option.bind_some];simp only[Act.eval,Array.getD_eq_getD_getElem?]at h2
 cases h3:a.tmps[d]? with
 | none=>rfl
 | some x=>rw[h3]at h2;simp at h2;subst h2;rfl
theorem not_wanted_u {j:Nat} {b:Bool} (hg:o.guard=some (j,b)) (hy:yielded ops a.tmps j=none):Region.wanted o (yielded ops a.tmps)=false:=by
 simp[Region.wanted,hg,hy]
end

inductive Res where
 | blk (b:Nat) (cs:Array Value) (T:TypeId)
 | row (v:Value) (e:TypeId) (sz n:Nat) (xs:List Value)
 | mp (b:Nat) (es:Array MapEntry) (clock:Nat)
  | kn (F:Nat→Prop) (S:World→Prop)
def Res.place:Res→Option Nat
 | .blk b _ _=>some b
 | .row v _ _ _ _=>v.ownBlock
 | .mp b _ _=>some b
 | .kn _ _=>none
def Res.foot:Res→Nat→Prop
 | .blk b _ _,k=>some b=some k
 | .row v _ _ _ _,k=>v.ownBlock=some k
 | .mp b _ _,k=>some b=some k
 | .kn F _,k=>F k
theorem Res.place_foot {r:Res} {b:Nat} (h:r.place=some b):r.foot b:=by cases r<;>first|exact h|cases h
def Res.Holds (M:Nat→Prop) (base:Nat) (W:World):Res→Prop
 | .blk b cs T=>(base≤b∨M b)∧W.heap[b]?=some (.cells cs T (0,0))
 | .row v e sz n xs=>W.ownsRow base e sz v n xs
 | .mp b es c=>base≤b∧W.heap[b]?=some (.map es c)
 | .kn F S=>(∀ b,F b→b<W.heap.size)∧∀ W':World,(∀ b,F b→W'.heap[b]?=W.heap[b]?)→S W'
theorem Res.Holds.lt {M:Nat→Prop} {base:Nat} {W:World} {r:Res} (h:r.Holds M base W):∀ b,r.place=some b→(base≤b∨M b)∧b<W.heap.size:=by
 intro b hb
 cases r with
 | blk b' cs T=>cases hb;exact⟨h.1,(Array.getElem?_eq_some_iff.1 h.2).1⟩
 | row v e sz n xs=>exact⟨.inl (World.ownsRow.lt h b hb).1,(World.ownsRow.lt h b hb).2⟩
 | mp b' es c=>cases hb;exact⟨.inl h.1,(Array.getElem?_eq_some_iff.1 h.2).1⟩
 | kn F S=>cases hb
theorem Res.Holds.ltf {M:Nat→Prop} {base:Nat} {W:World} {r:Res} (h:r.Holds M base W):∀ b,r.foot b→b<W.heap.size:=by
 intro b hb
 cases r with
 | kn F S=>exact h.1 b hb
 | _=>exact(h.lt b hb).2
theorem Res.Holds.kept {M:Nat→Prop} {base:Nat} {W W':World} {r:Res} (h:r.Holds M base W) (hk:∀ b,r.foot b→W'.heap[b]?=W.heap[b]?) (hs:W.heap.size≤W'.heap.size):r.Holds M base W':=by
 cases r with
 | blk b' cs T=>exact⟨h.1,(hk b' rfl).trans h.2⟩
 | row v e sz n xs =>
  obtain⟨hl,h'|⟨g,cap,cur,rfl,hb,hg,r⟩⟩:=h
  ·exact⟨hl,.inl h'⟩
  ·exact⟨hl,.inr ⟨g,cap,cur,rfl,hb,(hk g rfl).trans hg,r⟩⟩
 | mp b' es c=>exact⟨h.1,(hk b' rfl).trans h.2⟩
 | kn F S=>exact⟨fun b hb=>Nat.lt_of_lt_of_le (h.1 b hb) hs,fun W2 h2=>h.2 W2 (fun b hb=>(h2 b hb).trans (hk b hb))⟩
def Apart (r s:Res):Prop:=∀ b,r.place=some b→¬ s.foot b
structure HoldG (M:Nat→Prop) (w0 W:World) (l:List Res):Prop where
 keep:KeepBut M w0.heap.size w0 W
 all:∀ (i:Nat) (r:Res),l[i]?=some r→r.Holds M w0.heap.size W
 apart:∀ (i j:Nat) (r s:Res),i≠j→l[i]?=some r→l[j]?=some s→Apart r s
abbrev Hold (w0 W:World) (l:List Res):Prop:=HoldG (fun _=>False) w0 W l
theorem Hold.start (w0:World):Hold w0 w0 []:=⟨KeepBut.refl _ _ _,fun i r h=>by simp at h,fun i j r s _ h=>by simp at h⟩
theorem HoldG.below {w0 W:World} {l:List Res} (H:Hold w0 W l):Below w0.heap.size w0 W:=H.keep.below (Nat.le_refl _) (fun _ _ h=>h)
section
variable {M:Nat→Prop}
theorem HoldG.call {w0 W W':World} {l:List Res} (H:HoldG M w0 W l) (h:Below W.heap.size W W'):HoldG M w0 W' l :=
 ⟨H.keep.trans ((KeepBut.of_below h).mono H.keep.size (fun _ _ m=>m)),fun i r hi=>(H.all i r hi).kept (fun b hb=>h.block b ((H.all i r hi).ltf b hb)) h.size,H.apart⟩
theorem HoldG.take {w0 W:World} {l:List Res} (H:HoldG M w0 W l) (n:Nat):HoldG M w0 W (l.take n) :=
 ⟨H.keep,fun i r h=>H.all i r (by rw[List.getElem?_take]at h;split at h;exact h;cases h),fun i j r s hij h1 h2=>H.apart i j r s hij (by rw[List.getElem?_take]at h1;split at h1;exact h1;cases h1) (by rw[List.getElem?_take]at h2;split at h2;exact h2;cases h2)⟩
theorem HoldG.upd {w0 W W':World} {l:List Res} (H:HoldG M w0 W l) {i:Nat} {r r':Res} (hi:l[i]?=some r) (hg:W.grownBy W' r.place) (hr:r'.Holds M w0.heap.size W')
  (hp:∀ b,r'.foot b→r.foot b∨W.heap.size≤b) (h0:∀ b,r.foot b→r.place=some b:=by exact fun _ h=>h):HoldG M w0 W' (l.set i r'):=by
 have hil:i<l.length:=(List.getElem?_eq_some_iff.1 hi).1
 refine⟨H.keep.trans ⟨hg.os,hg.tape,hg.output,hg.size,fun k h1 h2=>hg.block k (Nat.lt_of_lt_of_le h1 H.keep.size) (fun e=>by
  rcases((H.all i r hi).lt k e.symm).1 with h|h
  ·omega
  ·exact h2 h)⟩,?_,?_⟩
 ·intro j s hs;rw[List.getElem?_set]at hs;split at hs
  ·rename_i e;subst e;cases hs;exact hr
  ·rename_i hne;refine(H.all j s hs).kept (fun b hb=>hg.block b ((H.all j s hs).ltf b hb) (fun e=>?_)) hg.size
   exact H.apart i j r s hne hi hs b e.symm hb
 ·intro j k s t hjk hs ht;rw[List.getElem?_set]at hs ht;split at hs
  ·rename_i e;subst e;cases hs
   rw[if_neg hjk]at ht;intro b hb hb';rcases hp b (Res.place_foot hb) with h|h
   ·exact H.apart i k r t hjk hi ht b (h0 b h) hb'
   ·have:=(H.all k t ht).ltf b hb';omega
  ·split at ht
   ·rename_i _ e;subst e;cases ht
    intro b hb hb';rcases hp b hb' with h|h
    ·exact H.apart j i s r hjk hs hi b hb h
    ·have:=((H.all j s hs).lt b hb).2;omega
   ·exact H.apart j k s t hjk hs ht
theorem HoldG.add {w0 W W':World} {l:List Res} (H:HoldG M w0 W l) {r:Res} (hg:W.grownBy W' none) (hr:r.Holds M w0.heap.size W') (hp:∀ b,r.foot b→W.heap.size≤b):HoldG M w0 W' (l++[r]):=by
 have hb:Below W.heap.size W W':=(Below.refl _ W).grown hg (Nat.le_refl _) (fun k e=>by cases e)
 have H':=H.call hb;refine⟨H'.keep,?_,?_⟩
 ·intro j s hs;rw[List.getElem?_append]at hs;split at hs
  ·exact H'.all j s hs
  ·rcases List.getElem?_eq_some_iff.1 hs with ⟨h1,h2⟩
   simp at h1;simp[h1]at h2;subst h2;exact hr
 ·intro j k s t hjk hs ht;rw[List.getElem?_append]at hs ht;split at hs
  ·split at ht
   ·exact H.apart j k s t hjk hs ht
   ·rcases List.getElem?_eq_some_iff.1 ht with ⟨h1,h2⟩
    simp at h1;simp[h1]at h2;subst h2;intro b hb1 hb2;have h3:=((H.all j s hs).lt b hb1).2;have:=hp b hb2;omega
  ·rcases List.getElem?_eq_some_iff.1 hs with ⟨h1,h2⟩
   simp at h1;simp[h1]at h2;subst h2;split at ht
   ·intro b hb1 hb2;have h3:=(H.all k t ht).ltf b hb2;have:=hp b (Res.place_foot hb1);omega
   ·rcases List.getElem?_eq_some_iff.1 ht with ⟨h4,h5⟩
    simp at h4;omega
inductive At {α:Type}:List α→Nat→α→Prop where
 | zero {r:α} {l:List α}:At (r::l) 0 r
 | succ {r s:α} {l:List α} {i:Nat} (h:At l i r):At (s::l) (i+1) r
theorem At.get {α:Type} {l:List α} {i:Nat} {r:α} (h:At l i r):l[i]?=some r:=by
 induction h with
 | zero=>rfl
 | succ _ ih=>simpa using ih
theorem HoldG.blk {w0 W:World} {l:List Res} (H:HoldG M w0 W l) {i b:Nat} {cs:Array Value} {T:TypeId} (hi:At l i (.blk b cs T)):(w0.heap.size≤b∨M b)∧W.heap[b]?=some (.cells cs T (0,0)):=H.all i _ hi.get
theorem HoldG.cell {w0 W:World} {l:List Res} (H:HoldG M w0 W l) {i b:Nat} {cs:Array Value} {T:TypeId} (hi:At l i (.blk b cs T)) (k:Nat):W.cell? ⟨b,k,none⟩=cs[k]?:=cell_of_row W b k cs T (0,0) (H.blk hi).2
theorem HoldG.alloc {w0 W:World} {l:List Res} (H:HoldG M w0 W l) (cs:Array Value) (T:TypeId):HoldG M w0 (W.alloc (.cells cs T)) (l++[.blk W.heap.size cs T]) :=
 H.add (World.grownBy_alloc W _ none) ⟨.inl H.keep.size,World.alloc_heap_new W _⟩ (fun b e=>by cases e;exact Nat.le_refl _)
theorem heap_setCell {W:World} {b k:Nat} {cs:Array Value} {T:TypeId} {f:Nat × Nat} (h:W.heap[b]?=some (.cells cs T f)) (v:Value):(W.setCell ⟨b,k,none⟩ v).heap[b]?=some (.cells (cs.setIfInBounds k v) T f):=by
 have hlt:=(Array.getElem?_eq_some_iff.1 h).1;simp only[World.setCell];simp[Array.getElem?_modify,h]
theorem grownBy_setCellK (W:World) (b k:Nat) (v:Value):W.grownBy (W.setCell ⟨b,k,none⟩ v) (some b):=by
 refine⟨rfl,rfl,rfl,?_,?_⟩
 ·simp[World.setCell]
 ·intro j hj hne;simp[World.setCell,Array.getElem?_modify,show b≠j from fun e=>hne (by rw[e])]
theorem HoldG.setCell {w0 W:World} {l:List Res} (H:HoldG M w0 W l) {i b k:Nat} {cs:Array Value} {T:TypeId} (hi:At l i (.blk b cs T)) (v:Value) :
  HoldG M w0 (W.setCell ⟨b,k,none⟩ v) (l.set i (.blk b (cs.setIfInBounds k v) T)) :=
 H.upd hi.get (grownBy_setCellK W b k v) ⟨(H.blk hi).1,heap_setCell (H.blk hi).2 v⟩ (fun _ e=>.inl e)
def setSeg (cs:Array Value):Nat→List Value→Array Value
 | _,[]=>cs
 | k,v::r=>setSeg (cs.setIfInBounds k v) (k+1) r
theorem grownBy_trans_same {A B C:World} {b:Nat} (h:A.grownBy B (some b)) (k:B.grownBy C (some b)):A.grownBy C (some b) :=
 ⟨k.os.trans h.os,k.tape.trans h.tape,k.output.trans h.output,Nat.le_trans h.size k.size,fun j hj hne=>(k.block j (Nat.lt_of_lt_of_le hj h.size) hne).trans (h.block j hj hne)⟩
theorem setCells_grown:∀ (vs:List Value) (k:Nat) (W:World) (b:Nat),W.grownBy (W.setCells b k vs) (some b)
 | [],_,_,_=>⟨rfl,rfl,rfl,Nat.le_refl _,fun _ _ _=>rfl⟩
 | v::r,k,W,b=>grownBy_trans_same (grownBy_setCellK W b k v) (setCells_grown r (k+1) _ b)
theorem heap_setCells:∀ (vs:List Value) (k:Nat) (W:World) (b:Nat) (cs:Array Value) (T:TypeId) (f:Nat × Nat),W.heap[b]?=some (.cells cs T f)→(W.setCells b k vs).heap[b]?=some (.cells (setSeg cs k vs) T f)
 | [],_,_,_,_,_,_,h=>h
 | v::r,k,W,b,cs,T,f,h=>heap_setCells r (k+1) _ b _ T f (heap_setCell h v)
theorem ev_tmp (l:List Value) (d:List Deferred) (t:Nat):({tmps:=l.toArray,defers:=d}:Act).eval (.tmp t)=l.getD t undef:=by simp[Act.eval]
theorem pe:(∀ (t:Array Value) (d:List Deferred) (i:Nat) (v:Value),({tmps:=t,defers:=d}:Act).put (some i) v={tmps:=t.setIfInBounds i v,defers:=d})∧(∀ (a:Act) (v:Value),a.put none v=a)∧(∀ (a:Value) (l:List Value) (n:Nat),l.toArray.setIfInBounds n a=(l.set n a).toArray)∧(∀ (a b:Value) (l:List Value) (n:Nat),(a::l).set (n+1) b=a::l.set n b)∧(∀ (a b:Value) (l:List Value),(a::l).set 0 b=b::l) ∧
  (∀ (l:List Value) (d:List Deferred) (t:Nat),({tmps:=l.toArray,defers:=d}:Act).eval (.tmp t)=l.getD t undef)∧(∀ (a:Act) (v:Value),a.eval (.const v)=v)∧(∀ (a:Act) (g:Nat),a.eval (.global g)=.pointer (some ⟨g,0,none⟩))∧(∀ (a:Act) (f:Nat),a.eval (.func f)=.func (.func f) #[] #[])∧(∀ (a d:Value) (l:List Value) (n:Nat),(a::l).getD (n+1) d=l.getD n d)∧∀ (a d:Value) (l:List Value),(a::l).getD 0 d=a :=
 ⟨fun _ _ _ _=>rfl,fun _ _=>rfl,fun _ _ _=>List.setIfInBounds_toArray ..,fun _ _ _ _=>rfl,fun _ _ _=>rfl,ev_tmp,fun _ _=>rfl,fun _ _=>rfl,fun _ _=>rfl,fun _ _ _ _=>rfl,fun _ _ _=>rfl⟩
end
section
variable {P:Program} {ops:Array Oper} {rest:List Oper} {o:Oper} {a:Act} {w w0:World} {Q:Exit→Act→World→Prop} {l:List Res} {M:Nat→Prop}
def zeroC (P:Program) (T:TypeId):Array Value:=(((P.info? T).bind (·.zero)).map (·.cells)).getD #[]
def sizeB (P:Program) (T:TypeId) (n:Nat):Bool:=(P.info? T).map (·.size) == some n
def rowB (P:Program) (T:TypeId) (n:Nat):Bool:=sizeB P T n&&((P.underlying T).map (·.isRow) == some true)
def oneB (P:Program) (T:TypeId):Bool:=sizeB P T 1&&((P.underlying T).map (·.isRow) == some false)
theorem rowB_parts {T n} (h:rowB P T n=true):∃ d,P.underlying T=some d∧d.isRow=true∧(P.info? T).map (·.size)=some n:=by
 simp only[rowB,sizeB,Bool.and_eq_true,beq_iff_eq]at h;obtain⟨h1,h2⟩:=h
 cases hu:P.underlying T with
 | none=>simp[hu]at h2
 | some d=>exact⟨d,rfl,by simpa [hu] using h2,h1⟩
theorem run_loadVar_one {T:TypeId} (h:oneB P T=true) {ad:Addr} {v:Value} (hc:w.cell? ad=some v):(loadVar T ad).run P w=.ok v w:=by
 simp only[oneB,sizeB,Bool.and_eq_true,beq_iff_eq]at h;obtain⟨h1,h2⟩:=h
 cases hu:P.underlying T with
 | none=>simp[hu]at h2
 | some d =>
  have hd:d.isRow=false:=by simpa [hu] using h2
  have hagg:(isAgg T).run P w=.ok false w:=by
   unfold isAgg;rw[Sem.run_bind,run_underlying hu w]
   cases d<;>simp_all
  simp[loadVar,Sem.run_bind,hagg,load,Sem.run,hc]
theorem wpList_wanted (hw:Region.wanted o (yielded ops a.tmps)=true) (h:∀ K:Act→World→Prop,(∀ a w,wpList P ops Q rest a w→K a w)→o.wp P a w K Q):wpList P ops Q (o::rest) a w :=
 wpList_step fun K hK=>by rw[if_pos hw];exact h K hK
theorem own_build (hg:Region.wanted o (yielded ops a.tmps)=true) (TS:TypeId) (n:Nat) (parts:Array (Nat × Operand)) (ho:o.op=.buildSlice TS n parts) (H:HoldG M w0 w l) (cs:Array Value) (T:TypeId)
  (hr:∀ W:World,(Instr.buildSlice TS n (parts.map fun (i,x)=>(i,a.eval x))).run P W=.ok (.slice (some ⟨W.heap.size,0,none⟩) n n) (W.alloc (.cells cs T)))
  (h:∀ b w',HoldG M w0 w' (l++[.blk b cs T])→wpList P ops Q rest (a.put o.dst (.slice (some ⟨b,0,none⟩) n n)) w'):wpList P ops Q (o::rest) a w :=
 wpList_wanted hg fun _ hK=>by
  unfold Oper.wp execOp;simp only[ho,Sem.run_bind,hr,Result.andThen_ok];exact hK _ _ (h _ _ (H.alloc cs T))
theorem own_append (hg:o.guard=none) (s x:Operand) (T:TypeId) (ho:o.op=.call {callee:=.builtin .append,args:=#[s,x],argTypes:=#[T,T]}) (H:HoldG M w0 w l) {i j b:Nat} {v:Value} {e:TypeId} {sz n m c:Nat} {xs:List Value} {cs:Array Value} {U:TypeId}
  (hs:a.eval s=v) (hx:a.eval x=.slice (some ⟨b,0,none⟩) m c) (hi:At l i (.row v e sz n xs)) (hj:At l j (.blk b cs U)) {it:TypeInfo} {z:Value} {bytes:Nat}
  (h1:P.underlying T=some (.slice e)) (h2:P.info? e=some it) (h3:it.zero=some z) (h4:it.size=sz) (h5:it.bytes=bytes) (h6:z.cells.size=sz) (h7:0<sz) (hcs:cs.size=m * sz) (h1c:cs.toList.all (·.oneCell')=true)
  (b1:n+m≤maxLen) (b2:(n+m) * bytes≤140737488355328)
  (h:∀ v' w',HoldG M w0 w' (l.set i (.row v' e sz (n+m) (xs++cs.toList)))→wpList P ops Q rest (a.put o.dst v') w'):wpList P ops Q (o::rest) a w:=by
 refine wpList_append_own_at w hg s x T ho w0.heap.size e it z sz bytes h1 h2 h3 h4 h5 h6 h7 v n xs hs (H.all i _ hi.get) ⟨b,0,none⟩ m c cs.toList hx (by simpa using hcs) (fun q u hq=>?_) (fun u hu=>List.all_eq_true.1 h1c u hu) b1 b2 H.keep.size (fun v' w' r1 r2 _ r4=>h v' w' ?_)
 ·rw[Addr.add_mid,H.cell hj]
  simpa using hq
 ·refine H.upd hi.get (by exact r2) r1 (fun b' hb'=>?_)
  rcases r4 with r4|r4
  ·left;show v.ownBlock=some b';rw[← r4];exact hb'
  ·right;have:v'.ownBlock=some b':=hb';rw[r4]at this
   cases this;exact Nat.le_refl _
theorem HoldG.addNil {w0 W:World} {l:List Res} (H:HoldG M w0 W l) (e:TypeId) (sz:Nat):HoldG M w0 W (l++[.row (.slice none 0 0) e sz 0 []]) :=
 H.add ⟨rfl,rfl,rfl,Nat.le_refl _,fun _ _ _=>rfl⟩ (World.ownsRow_nil _ _ _ _) (fun b e=>by cases e)
theorem own_pure (hg:Region.wanted o (yielded ops a.tmps)=true) {v:Value} (hr:(execOp a.eval o).run P w=.ok (.value v) w) (h:wpList P ops Q rest (a.put o.dst v) w):wpList P ops Q (o::rest) a w :=
 wpList_wanted hg fun _ hK=>by
  unfold Oper.wp;rw[hr];exact hK _ _ h
abbrev Str:=List UInt8
def byt (L:Str) (k:Nat):Nat:=(L.getD k 0).toNat
theorem byt_lt (L:Str) (k:Nat):byt L k<256:=UInt8.toNat_lt _
end
theorem wtd_ {ops:Array Oper} {o:Oper} {a:Act} (h:Region.wanted o (yielded ops a.tmps)=true:=by first|rfl|exact wanted_g rfl (yielded_of rfl (by first|rfl|(simp only[pe];rfl)))):Region.wanted o (yielded ops a.tmps)=true:=h
theorem evd_ {a:Act} {x:Operand} {v:Value} (h:a.eval x=v:=by first|(simp only[pe];done)|(simp only[pe];rfl)):a.eval x=v:=h
theorem i_1 {α:Type} {a0 r:α} {l:List α}:At (a0::r::l) 1 r:=.succ (.zero)
theorem i_2 {α:Type} {a0 a1 r:α} {l:List α}:At (a0::a1::r::l) 2 r:=.succ (.succ (.zero))
end
end Go.Proofs.YteodabllmfldpaaDoor
