/-
  Laws of walks, and walks.
-/
import Derived.Test.YtphjgfjbiimkjaaGreatEc1
import Derived.Deep.MidRow
import Derived.Test.YtphjgfjbiimkjaaGreatEc2
import Derived.Laws.Tables
import Derived.Laws.IdiomCopy
set_option linter.unusedVariables false
set_option linter.unusedSimpArgs false
set_option maxRecDepth 100000
set_option maxHeartbeats 16000000
namespace Go.Proofs.YtphjgfjbiimkjaaGreat
section
open Go.RowKit
inductive AObj where
 | o (x:Obj)
 | row (cs:List Value) (T:TypeId) (sz:Nat)
 | ro (cs:List Value)
inductive Tr where
 | lf
 | nd (l:Tr) (v:Option AObj) (r:Tr)
def Tr.get:Tr->Nat->Option AObj
 | .lf,_=>none
 | .nd l v r,k=>cond (Nat.beq k 0) v (cond (Nat.beq (k % 2) 1) (l.get (k / 2)) (r.get (k / 2 - 1)))
def Tr.setF:Nat->Tr->Nat->Option AObj->Tr
 | 0,t,_,_=>t
 | f+1,.lf,k,v=>cond (Nat.beq k 0) (.nd .lf v .lf) (cond (Nat.beq (k % 2) 1) (.nd (setF f .lf (k / 2) v) none .lf) (.nd .lf none (setF f .lf (k / 2 - 1) v)))
 | f+1,.nd l x r,k,v=>cond (Nat.beq k 0) (.nd l v r) (cond (Nat.beq (k % 2) 1) (.nd (setF f l (k / 2) v) x r) (.nd l x (setF f r (k / 2 - 1) v)))
def Tr.set (t:Tr) (k:Nat) (v:Option AObj):Tr:=t.setF (k+1) k v
structure AH where
 t:Tr
 next:Nat
 floor:Nat
 hid:List (Nat × Nat)
abbrev Orc:=FuncId->List Value->AH->Option Value
def noO:Orc:=fun _ _ _=>none
def inR:List (Nat × Nat)->Nat->Bool
 | [],_=>false
 | (a,b)::r,k=>(Nat.ble a k&&Nat.blt k b) || inR r k
def AH.get (h:AH) (n:Nat):Option AObj:=cond (Nat.ble h.next n || inR h.hid n) none (h.t.get n)
def AH.put (h:AH) (n:Nat) (v:AObj):AH:={h with t:=h.t.set n (some v)}
def AH.drop (h:AH) (n:Nat):AH:={h with t:=h.t.set n none}
def AH.new (h:AH) (v:AObj):AH:={h with t:=h.t.set h.next (some v),next:=h.next+1}
def zBR:Value->Bool
 | .bool _|.int _ _|.string _|.pointer none|.slice none 0 0|.map none|.nilFunc|.nilIface=>true
 | .func (.func _) f c=>Nat.beq f.size 0&&Nat.beq c.size 0
 | _=>false
def plain:Value->Bool
 | .agg cs=>cs.toList.all zBR
 | .tuple cs=>cs.toList.all zBR
 | .iface _ v=>zBR v
 | v=>zBR v
def nth:List Value->Nat->Value
 | [],_=>undef
 | x::_,0=>x
 | _::r,n+1=>nth r n
def aev (G:Nat) (t:List Value):Operand->Option Value
 | .tmp i=>some (nth t i)
 | .const v=>cond (plain v) (some v) none
 | .global g=>cond (Nat.blt g G) (some (.pointer (some ⟨g,0,none⟩))) none
 | .func f=>some (.func (.func f) #[] #[])
def aevs (G:Nat) (t:List Value):List Operand->Option (List Value)
 | []=>some []
 | x::r=>match aev G t x with
  | none=>none
  | some v=>match aevs G t r with
   | none=>none
   | some l=>some (v::l)
def aevp (G:Nat) (t:List Value):List (Nat × Operand)->Option (List (Nat × Value))
 | []=>some []
 | (i,x)::r=>match aev G t x with
  | none=>none
  | some v=>match aevp G t r with
   | none=>none
   | some l=>some ((i,v)::l)
def zBs {α:Type} (P:Program):Sem α->Option α
 | .pure a=>some a
 | .program k=>zBs P (k P)
 | .mark _ k=>zBs P k
 | _=>none
def zBi (P:Program) (T:TypeId):Option Nat:=(P.info? T).map (·.size)
def rdv (P:Program) (T:TypeId) (c:List Value) (off:Nat):Option Value :=
 match P.underlying T with
 | none=>none
 | some d=>cond d.isRow
   (match zBi P T with
    | none=>none
    | some n=>let seg:=(c.drop off).take n
     cond (Nat.beq seg.length n) (some (.agg seg.toArray)) none)
   (match c.drop off with
    | v::_=>some v
    | []=>none)
def AH.load (P:Program) (h:AH) (T:TypeId) (b off:Nat):Option Value :=
 match h.get b with
 | some (.o (.cells c _ _))=>rdv P T c.toList off
 | some (.row c _ _)=>rdv P T c off
 | some (.ro c)=>rdv P T c off
 | _=>none
def setL (c:List Value):Nat->List Value->List Value
 | _,[]=>c
 | k,v::r=>setL (c.set k v) (k+1) r
def AH.store (h:AH) (b off:Nat) (vs:List Value):Option AH :=
 cond (Nat.ble h.floor b&&vs.all (·.oneCell'))
  (match h.get b with
   | some (.o (.cells c U (lo,hi)))=>cond (Nat.ble (off+vs.length) c.size&&(Nat.ble hi lo || Nat.ble (off+vs.length) lo || Nat.ble hi off)) (some (h.put b (.o (.cells (setL c.toList off vs).toArray U (lo,hi))))) none
   | some (.row c U sz)=>cond (Nat.ble (off+vs.length) c.length) (some (h.put b (.row (setL c off vs) U sz))) none
   | _=>none) none
def mk (h:AH) (o:Obj) (v:Nat->Value):Option (Value × AH):=some (v h.next,h.new (.o o))
def ptrN (n:Nat):Value:=.pointer (some ⟨n,0,none⟩)
def zGT (place:Nat->Option (Nat × Nat)) (cells:List Value):List (Nat × Value)->Option (List Value)
 | []=>some cells
 | (i,v)::r=>match place i with
  | none=>none
  | some (off,size)=>cond (Nat.beq v.cells.size size&&Nat.ble (off+size) cells.length) (zGT place (setL cells off v.cells.toList) r) none
def repL (l:List Value):Nat->List Value
 | 0=>[]
 | n+1=>l++repL l n
def zEH:List Value->Option (List UInt8)
 | []=>some []
 | .int .u8 n::r=>match zEH r with
  | none=>none
  | some l=>some (UInt8.ofNat n.toNat::l)
 | _=>none
def AH.seg (h:AH) (b off n:Nat):Option (List Value) :=
 match h.get b with
 | some (.o (.cells c _ _))=>let s:=(c.toList.drop off).take n;cond (Nat.beq s.length n) (some s) none
 | some (.row c _ _)=>let s:=(c.drop off).take n;cond (Nat.beq s.length n) (some s) none
 | some (.ro c)=>let s:=(c.drop off).take n;cond (Nat.beq s.length n) (some s) none
 | _=>none
def zMt:Value->Value->Option Bool
 | .pointer (some _),.pointer none|.pointer none,.pointer (some _)|.slice (some _) _ _,.slice none 0 0|.slice none 0 0,.slice (some _) _ _
 | .map (some _),.map none|.map none,.map (some _)|.func _ _ _,.nilFunc|.nilFunc,.func _ _ _=>some false
 | _,_=>none
def nilT:TypeDesc->Value->Bool
 | .pointer _,.pointer _|.slice _,.slice _ _ _|.map _ _,.map _|.func _ _ _,.func _ _ _|.func _ _ _,.nilFunc=>true
 | _,_=>false
def loA (G:Nat) (t:List Value):Option Operand->Option Value
 | none=>some (.int .i64 0)
 | some l=>aev G t l
def hiA (G:Nat) (t:List Value) (v:Value):Option Operand->Option Value
 | none=>match v with
  | .slice _ n _=>some (.int .i64 n)
  | .string q=>some (.int .i64 q.size)
  | _=>none
 | some l=>aev G t l
def mapA (h:AH):Value->Option (Array MapEntry)
 | .map none=>some #[]
 | .map (some b)=>match h.get b with
  | some (.o (.map es _))=>some es
  | _=>none
 | _=>none
def srcA (h:AH) (sz:Nat):Value->Option (List Value)
 | .slice none 0 0=>some []
 | .slice (some ⟨b,off,none⟩) k _=>h.seg b off (k * sz)
 | _=>none
def evOp (P:Program) (G:Nat) (O:Orc) (t:List Value) (h:AH) (ty:TypeId):Op->Option (Value × AH)
 | .move x|.assign x=>match aev G t x with
  | some v=>some (v,h)
  | none=>none
 | .pick c a b=>match aev G t c with
  | some (.bool true)=>match aev G t a with
   | some v=>some (v,h)
   | none=>none
  | some (.bool false)=>match aev G t b with
   | some v=>some (v,h)
   | none=>none
  | _=>none
 | .alloc T=>match P.info? T with
  | none=>none
  | some i=>match i.zero with
   | none=>none
   | some z=>cond (plain z) (mk h (.cells z.cells T) ptrN) none
 | .box T x=>match aev G t x with
  | none=>none
  | some v=>mk h (.cells v.cells T) ptrN
 | .build T parts=>match aevp G t parts.toList with
  | none=>none
  | some l=>match P.info? T with
   | none=>none
   | some i=>match i.zero with
    | none=>none
    | some z=>cond (plain z)
     (match P.underlying T with
      | some (.struct fields)=>match zGT (fun k=>(fields[k]?).bind fun f=>(zBi P f.type).map fun n=>(f.offset,n)) z.cells.toList l with
       | some c=>cond (fields.toList.all fun f=>(zBi P f.type).isSome) (some (.agg c.toArray,h)) none
       | none=>none
      | some (.array _ e)=>match zBi P e with
       | none=>none
       | some n=>match zGT (fun k=>some (k * n,n)) z.cells.toList l with
        | some c=>some (.agg c.toArray,h)
        | none=>none
      | _=>none) none
 | .buildSlice T n parts=>match aevp G t parts.toList with
  | none=>none
  | some l=>match P.underlying T with
   | some (.slice e)=>match P.info? e with
    | none=>none
    | some i=>match i.zero with
     | none=>none
     | some z=>cond (plain z&&Nat.beq z.cells.size i.size&&Nat.ble 1 i.size&&Nat.ble (n * i.size) 65536)
      (match zGT (fun k=>some (k * i.size,i.size)) (repL z.cells.toList n) l with
       | some c=>mk h (.cells c.toArray e) fun b=>.slice (some ⟨b,0,none⟩) n n
       | none=>none) none
   | _=>none
 | .load T x=>match aev G t x with
  | some (.pointer (some ⟨b,off,none⟩))=>match h.load P T b off with
   | some v=>some (v,h)
   | none=>none
  | _=>none
 | .store T x y=>match aev G t x,aev G t y with
  | some (.pointer (some ⟨b,off,none⟩)),some v=>match zBi P T with
   | none=>none
   | some n=>cond (Nat.beq n v.cells.size)
    (match h.store b off v.cells.toList with
     | some h'=>some (undef,h')
     | none=>none) none
  | _,_=>none
 | .nilCheck x=>match aev G t x with
  | some (.pointer (some a))=>some (.pointer (some a),h)
  | some (.func (.func f) a b)=>some (.func (.func f) a b,h)
  | some (.map (some a))=>some (.map (some a),h)
  | _=>none
 | .binOp op T x y _=>match aev G t x,aev G t y with
  | some a,some b=>cond (plain a&&plain b)
   (match zBs P (do eqGuard op T x y a b;binOp op T a b) with
    | some v=>cond (plain v) (some (v,h)) none
    | none=>none)
   (match P.underlying T,zMt a b with
    | some d,some r=>cond (nilT d a&&nilT d b)
     (match op with
     | .eql=>some (.bool r,h)
     | .neq=>some (.bool !r,h)
     | _=>none) none
    | _,_=>none)
  | _,_=>none
 | .unOp op _ x=>match aev G t x with
  | some a=>cond (plain a)
   (match zBs P (Op.unary op a) with
    | some v=>cond (plain v) (some (v,h)) none
    | none=>none) none
  | none=>none
 | .convert s d x=>match aev G t x with
  | some (.slice (some ⟨b,off,none⟩) n c)=>match P.underlying s,P.underlying d with
   | some (.slice _),some (.slice e)=>match P.underlying e with
    | some (.int .u8)=>cond (Nat.beq s d)
     (match h.get b with
      | some (.o (.cells cs U (0,0)))=>cond (Nat.ble h.floor b) (some (.slice (some ⟨b,off,none⟩) n c,h.put b (.o (.cells cs U (cs.size,cs.size+1))))) none
      | _=>none) none
    | _=>none
   | some (.slice e),some .string=>match P.underlying e with
    | some (.int .u8)=>match h.seg b off n with
     | none=>none
     | some l=>match zEH l with
      | some q=>some (.string ⟨q.toArray⟩,h)
      | none=>none
    | _=>none
   | _,_=>none
  | some a=>cond (plain a)
   (match zBs P (convert s d a) with
    | some v=>cond (plain v) (some (v,h)) none
    | none=>none) none
  | none=>none
 | .makeInterface T x=>match aev G t x,P.underlying T with
  | some _,some (.interface _)=>none
  | some v,some _=>some (.iface T v,h)
  | _,_=>none
 | .makeFunc (.func f) first cap=>match aevs G t first.toList,aevs G t cap.toList with
  | some a,some b=>some (.func (.func f) a.toArray b.toArray,h)
  | _,_=>none
 | .makeMap _ none=>mk h (.map #[] 0) fun b=>.map (some b)
 | .makeSlice T x y=>match aev G t x,aev G t y with
  | some (.int .i64 a),some (.int .i64 b)=>match P.underlying T with
   | some (.slice e)=>match P.info? e with
    | none=>none
    | some i=>match i.zero with
     | none=>none
     | some z=>cond (plain z&&Nat.beq z.cells.size i.size&&Nat.ble 1 i.size&&decide (a=b)&&decide (0<=a)&&Nat.ble (a.toNat * i.size) 65536&&Nat.ble (a.toNat * i.bytes) 1048576)
      (mk h (.cells (repL z.cells.toList a.toNat).toArray e) fun b=>.slice (some ⟨b,0,none⟩) a.toNat a.toNat) none
   | _=>none
  | _,_=>none
 | .slice T x lo hi none=>match aev G t x,loA G t lo with
  | some v,some (.int _ l)=>match hiA G t v hi with
   | some (.int _ r)=>cond (decide (0<=l)&&decide (l<=r))
    (match v with
     | .string q=>match P.underlying T with
      | some .string=>cond (Nat.ble r.toNat q.size) (some (.string (q.extract l.toNat r.toNat),h)) none
      | _=>none
     | .slice none 0 0=>match P.underlying T with
      | some (.slice e)=>match zBi P e with
       | some _=>cond (Nat.beq r.toNat 0) (some (.slice none 0 0,h)) none
       | none=>none
      | _=>none
     | .slice (some ⟨b,off,none⟩) n c=>match P.underlying T with
      | some (.slice e)=>match zBi P e with
       | none=>none
       | some sz=>match h.get b with
        | some (.o (.cells _ _ _))=>cond (Nat.ble r.toNat c) (some (.slice (some ⟨b,cond (Nat.beq c l.toNat) off (off+l.toNat * sz),none⟩) (r.toNat - l.toNat) (c - l.toNat),h)) none
        | some (.row _ _ sz')=>cond (Nat.beq sz sz'&&Nat.ble r.toNat n&&Nat.blt l.toNat n) (some (.slice (some ⟨b,off+l.toNat * sz,none⟩) (r.toNat - l.toNat) 0,h)) none
        | _=>none
      | _=>none
     | _=>none) none
   | _=>none
  | _,_=>none
 | .fieldAddr S x f=>match aev G t x with
  | some (.pointer (some ⟨b,off,none⟩))=>match P.underlying S with
   | some (.struct fields)=>match fields[f]? with
    | some fd=>match zBi P fd.type with
     | some (n+1)=>some (.pointer (some ⟨b,off+fd.offset,none⟩),h)
     | _=>none
    | none=>none
   | _=>none
  | _=>none
 | .field T x f=>match aev G t x with
  | some (.agg cs)=>match P.underlying T with
   | some (.struct fields)=>match fields[f]? with
    | some fd=>match rdv P fd.type cs.toList fd.offset with
     | some v=>some (v,h)
     | none=>none
    | none=>none
   | _=>none
  | _=>none
 | .indexAddr T x y=>match aev G t x,aev G t y with
  | some v,some (.int _ i)=>cond (decide (0<=i))
   (match P.underlying T,v with
    | some (.array n e),.pointer (some ⟨b,off,none⟩)=>match zBi P e with
     | some sz=>cond (Nat.blt i.toNat n) (some (.pointer (some ⟨b,off+i.toNat * sz,none⟩),h)) none
     | none=>none
    | some (.slice e),.slice (some ⟨b,off,none⟩) n _=>match zBi P e with
     | some sz=>cond (Nat.blt i.toNat n) (some (.pointer (some ⟨b,off+i.toNat * sz,none⟩),h)) none
     | none=>none
    | _,_=>none) none
  | _,_=>none
 | .index T x y=>match aev G t x,aev G t y with
  | some v,some (.int _ i)=>cond (decide (0<=i))
   (match P.underlying T,v with
    | some (.array n e),.agg cs=>match zBi P e with
     | some sz=>cond (Nat.blt i.toNat n)
      (match rdv P e cs.toList (i.toNat * sz) with
      | some v=>some (v,h)
      | none=>none) none
     | none=>none
    | some .string,.string q=>match q.data.toList.drop i.toNat with
     | b::_=>some (.int .u8 b.toNat,h)
     | []=>none
    | _,_=>none) none
  | _,_=>none
 | .lookup T x y ok=>match aev G t x,aev G t y with
  | some v,some k=>match P.underlying T with
   | some (.map kt e)=>match P.underlying kt,mapA h v with
    | some d,some es=>cond (plain k&&(zBs P (Instr.checkKey es.isEmpty 10000 kt k)).isSome)
     (match Instr.findNow d k es.toList 0 with
      | some (some (_,u))=>some (cond ok (.tuple #[u,.bool true]) u,h)
      | some none=>match (P.info? e).bind (·.zero) with
       | some z=>cond (plain z) (some (cond ok (.tuple #[z,.bool false]) z,h)) none
       | none=>none
      | none=>none) none
    | _,_=>none
   | _=>none
  | _,_=>none
 | .mapUpdate T m k x|.insert T m k x=>match aev G t m,aev G t k,aev G t x with
  | some (.map (some b)),some kv,some v=>match P.underlying T with
   | some (.map kt _)=>match P.underlying kt,h.get b with
    | some d,some (.o (.map es clock))=>cond (zBR kv&&Nat.ble h.floor b&&(zBs P (Instr.checkKey false 10000 kt kv)).isSome)
     (match Instr.findNow d kv es.toList 0 with
      | some none=>some (undef,h.put b (.o (.map (es.push {key:=kv,val:=v,born:=clock}) (clock+1))))
      | _=>none) none
    | _,_=>none
   | _=>none
  | _,_,_=>none
 | .typeAssert x _ A ok=>match aev G t x,P.underlying A with
  | some _,some (.interface _)=>none
  | some (.iface T v),some _=>cond (Nat.beq T A) (some (cond ok (.tuple #[v,.bool true]) v,h)) none
  | _,_=>none
 | .extract x i=>match aev G t x with
  | some (.tuple vs)=>match vs.toList.drop i with
   | v::_=>some (v,h)
   | []=>none
  | _=>none
 | .call {callee:=.builtin .len,args:=xs,argTypes:=ts}=>match ts.toList,xs.toList with
  | T::_,x::_=>match P.underlying T,aev G t x with
   | some .string,some (.string q)=>some (.int .i64 q.size,h)
   | some (.slice _),some (.slice _ n _)=>some (.int .i64 n,h)
   | some (.array n _),some _=>some (.int .i64 n,h)
   | some (.map _ _),some (.map none)=>some (.int .i64 0,h)
   | some (.map _ _),some (.map (some b))=>match h.get b with
    | some (.o (.map es _))=>some (.int .i64 es.size,h)
    | _=>none
   | _,_=>none
  | _,_=>none
 | .call {callee:=.builtin .copy,args:=xs,argTypes:=ts}=>match ts.toList,xs.toList with
  | T::_,[x,y]=>match aev G t x,aev G t y,P.underlying T with
   | some (.slice _ n _),some (.slice _ k _),some (.slice e)=>match zBi P e with
    | some _=>cond (Nat.beq (Nat.min k n) 0) (some (.int .i64 0,h)) none
    | none=>none
   | _,_,_=>none
  | _,_=>none
 | .call {callee:=.builtin .max,args:=xs,argTypes:=ts}=>match aevs G t xs.toList with
  | some l=>cond (l.all plain)
   (match zBs P (Builtin.max_ ts ty l.toArray) with
    | some v=>cond (plain v) (some (v,h)) none
    | none=>none) none
  | none=>none
 | .call {callee:=.builtin .min,args:=xs,argTypes:=ts}=>match aevs G t xs.toList with
  | some l=>cond (l.all plain)
   (match zBs P (Builtin.min_ ts ty l.toArray) with
    | some v=>cond (plain v) (some (v,h)) none
    | none=>none) none
  | none=>none
 | .call {callee:=.builtin .append,args:=xs,argTypes:=ts}=>match ts.toList,xs.toList with
  | [T,U],[x,y]=>match aev G t x,aev G t y,P.underlying T with
   | some (.slice base n c),some src,some (.slice e)=>match P.info? e with
    | none=>none
    | some i=>match i.zero with
     | none=>none
     | some z=>cond (Nat.beq T U&&plain z&&Nat.beq z.cells.size i.size&&Nat.ble 1 i.size)
      (match srcA h i.size src with
       | none=>none
       | some new=>cond (Nat.beq new.length 0)
        (cond (match base with
         | none=>Nat.beq n 0
         | some ⟨b,_,none⟩=>(match h.get b with
          | some (.row _ _ _)=>true
          | some (.o (.cells _ _ _))=>Nat.ble n c
          | _=>false)
         | _=>false) (some (.slice base n c,h)) none)
        (cond (new.all (·.oneCell')&&Nat.ble ((n+new.length) * i.bytes) 1048576&&Nat.ble (n+new.length) 65536)
         (match base with
         | none=>cond (Nat.beq n 0) (some (.slice (some ⟨h.next,0,none⟩) (new.length / i.size) 0,h.new (.row new e i.size))) none
         | some ⟨b,0,none⟩=>match h.get b with
          | some (.row cs e' sz)=>cond (Nat.beq sz i.size&&Nat.beq e e'&&Nat.beq cs.length (n * sz)&&Nat.ble h.floor b)
           (some (.slice (some ⟨h.next,0,none⟩) (n+new.length / i.size) 0,(h.drop b).new (.row (cs++new) e i.size))) none
          | some (.o (.cells cs e' _))=>cond (Nat.beq n c&&Nat.beq e e'&&Nat.beq cs.size (n * i.size))
           (some (.slice (some ⟨h.next,0,none⟩) (n+new.length / i.size) 0,h.new (.row (cs.toList++new) e i.size))) none
          | _=>none
         | _=>none) none)) none
   | _,_,_=>none
  | _,_=>none
 | _=>none
def zBg (ops:List Oper) (t:List Value) (o:Oper):Bool :=
 match o.guard with
 | none=>true
 | some (j,want)=>match (ops.drop j) with
  | {dst:=some d,..}::_=>(match nth t d with|.bool b=>b == want|_=>false)
  | _=>false
def putA (t:List Value):Option Tmp->Value->List Value
 | some d,v=>t.set d v
 | none,_=>t
abbrev Ev:=Option Nat->Code->List Value->List Deferred->AH->Option (Exit × List Value × List Deferred × AH)
def zHI (P:Program) (t:List Value) (h:AH):List ResultVar->Option (List Value)
 | []=>some []
 | .tmp k::r=>match zHI P t h r with
  | some l=>some (nth t k::l)
  | none=>none
 | .cell a T::r=>match nth t a with
  | .pointer (some ⟨b,off,none⟩)=>match h.load P T b off,zHI P t h r with
   | some v,some l=>some (v::l)
   | _,_=>none
  | _=>none
def zQU:Op->Bool
 | .call {callee:=.builtin .recover,..}=>true
 | _=>false
def zCZ (P:Program) (G:Nat) (O:Orc) (ops:List Oper):List Oper->List Value->AH->Option (List Value × AH)
 | [],t,h=>some (t,h)
 | o::r,t,h=>match zBg ops t o with
  | false=>zCZ P G O ops r (putA t o.dst undef) h
  | true=>match zQU o.op with
   | true=>zCZ P G O ops r (putA t o.dst .nilIface) h
   | false=>match evOp P G O t h o.type o.op with
    | none=>none
    | some (v,h')=>zCZ P G O ops r (putA t o.dst v) h'
def zDM (P:Program) (G:Nat) (O:Orc):Nat->Code->List Value->AH->Option (List Value × AH)
 | 0,_,_,_=>none
 | n+1,c,t,h=>match c with
  | .skip=>some (t,h)
  | .seq x y=>match zDM P G O n x t h with
   | some (t',h')=>zDM P G O n y t' h'
   | none=>none
  | .cond c x y=>match aev G t c with
   | some (.bool true)=>zDM P G O n x t h
   | some (.bool false)=>zDM P G O n y t h
   | _=>none
  | .region _ ops draw=>cond draw none (zCZ P G O ops.toList ops.toList t h)
  | _=>none
def zED (P:Program) (G:Nat) (O:Orc):List Deferred->AH->Option AH
 | [],h=>some h
 | {target:=.collected r,..}::ds,h=>match h.get r with
  | some (.o (.deferred (some [])))=>cond (Nat.ble h.floor r) (zED P G O ds (h.put r (.o (.deferred none)))) none
  | _=>none
 | {target:=.fn (.func g) cap,args}::ds,h=>match P.funcs[g]? with
  | none=>none
  | some fn=>match fn.body with
   | none=>none
   | some c=>cond (fn.name == "runtime.NumGoroutine") none
    (match zDM P G O 30 c ((args.toList++cap.toList)++List.replicate (fn.ntmps - (args.toList++cap.toList).length) undef) h with
     | some (t,h')=>match zHI P t h' fn.results.toList with
      | some _=>zED P G O ds h'
      | none=>none
     | none=>none)
 | _,_=>none
def tupA:List Value->Value
 | [v]=>v
 | l=>.tuple l.toArray
def zH8 (P:Program) (G:Nat) (O:Orc) (rec:Ev) (f:FuncId) (args:List Value) (h:AH):Option (Value × AH) :=
 match O f args h with
 | some v=>some (v,h)
 | none=>match P.funcs[f]? with
 | none=>none
 | some fn=>match fn.body with
  | none=>none
  | some c=>cond (fn.name == "runtime.NumGoroutine") none
   (match rec none c (args++List.replicate (fn.ntmps - args.length) undef) [] h with
    | some (.normal,t,d,h')|some (.ret,t,d,h')=>match zED P G O d h' with
     | none=>none
     | some h2=>match zHI P t h2 fn.results.toList with
      | some l=>some (tupA l,h2)
      | none=>none
    | _=>none)
def zNz:List Value->List Tmp->List Value->List Value
 | t,p::ps,v::vs=>zNz (t.set p v) ps vs
 | t,_,_=>t
def zNK:Exit->Option (Option Code)
 | .normal=>some none
 | .ret=>some (some .ret)
 | .exit id=>some (some (.exit id))
 | .goto l=>some (some (.goto l))
 | _=>none
def zJM (rec:Ev) (l:Nat) (args:List Value) (h:AH):Option (Value × AH) :=
 match h.get l with
 | some (.o (.loop r))=>cond (Nat.beq args.length r.params.size&&Nat.ble h.floor l)
  (match rec (some l) r.assign (zNz r.tmps.toList r.params.toList args) [] h with
   | some (.normal,t1,[],h1)=>match h1.get l with
    | some (.o (.loop r1))=>match r1.state with
     | .ready=>match rec (some l) r.body t1 [] (h1.put l (.o (.loop {r1 with state:=.busy}))) with
      | some (e,_,_,h3)=>match h3.get l,zNK e with
       | some (.o (.loop r3)),some none=>some (.bool true,h3.put l (.o (.loop {r3 with state:=.ready,pending:=none})))
       | some (.o (.loop r3)),some (some j)=>some (.bool false,h3.put l (.o (.loop {r3 with state:=.done,pending:=some j})))
       | _,_=>none
      | none=>none
     | _=>none
    | _=>none
   | _=>none) none
 | _=>none
def evFn (P:Program) (G:Nat) (O:Orc) (rec:Ev) (f:Value) (args:List Value) (h:AH):Option (Value × AH) :=
 match f with
 | .func (.func g) first cap=>zH8 P G O rec g (first.toList++args++cap.toList) h
 | .func (.yield l) _ _=>zJM rec l args h
 | _=>none
def zGI (P:Program) (G:Nat) (O:Orc) (rec:Ev) (t:List Value) (h:AH) (o:Oper):Option (Value × AH) :=
 match o.op with
 | .call {callee:=.value f,args:=xs,..}=>match aev G t f,aevs G t xs.toList with
  | some fv,some l=>evFn P G O rec fv l h
  | _,_=>none
 | op=>evOp P G O t h o.type op
def zM9 (G:Nat) (t:List Value):Option Nat->Op->Option Deferred
 | none,.defer {callee:=.value f,args:=xs,..}=>match aev G t f,aevs G t xs.toList with
  | some (.func (.func g) first cap),some l=>some {target:=.fn (.func g) cap,args:=(first.toList++l).toArray}
  | _,_=>none
 | _,_=>none
def zJP (P:Program) (G:Nat) (O:Orc) (rec:Ev) (rd:Option Nat) (ops:List Oper):List Oper->List Value->List Deferred->AH->Option (List Value × List Deferred × AH)
 | [],t,d,h=>some (t,d,h)
 | o::r,t,d,h=>match zBg ops t o with
  | false=>zJP P G O rec rd ops r (putA t o.dst undef) d h
  | true=>match zM9 G t rd o.op with
   | some x=>zJP P G O rec rd ops r (putA t o.dst undef) (x::d) h
   | none=>match zGI P G O rec t h o with
    | none=>none
    | some (v,h')=>zJP P G O rec rd ops r (putA t o.dst v) d h'
def zD3 (o:Oper):List Tmp:=o.dst.toList++o.op.operands.toList.filterMap fun|.tmp t=>some t|_=>none
def zFI (ops:List Oper) (o:Oper):List Tmp:=match o.guard with
 | none=>[]
 | some (j,_)=>match ops.drop j with
  | {dst:=some d,..}::_=>[d]
  | _=>[]
def nthN:List Nat->Nat->Nat
 | [],_=>0
 | x::_,0=>x
 | _::r,n+1=>nthN r n
def zCs (acc:List Nat):List Edge->Nat
 | []=>0
 | e::r=>cond (Region.binds .any e) ((zCs acc r ||| 2 ^ e.on) ||| nthN acc e.on) (zCs acc r)
def zF7:List Oper->List Nat->List Nat
 | [],acc=>acc
 | o::r,acc=>zF7 r (acc++[zCs acc o.after.toList])
def befL (ops:List Oper):List Nat:=zF7 ops []
def zC6:List Oper->Nat->Bool
 | [],_=>true
 | o::r,i=>(o.after.toList.all fun e=>!(Region.binds .any e) || Nat.blt e.on i)&&zC6 r (i+1)
def zIy (ops:List Oper) (bef:List Nat):List Oper->Nat->Bool
 | [],_=>true
 | o::r,i=>((ops.zipIdx.all fun (p,j)=>Nat.beq i j || (match o.dst with
   | none=>true
   | some d=>!((zD3 p++zFI ops p).contains d) || (!(p.dst == some d)&&(cond (Nat.blt i j) ((nthN bef j).testBit i) ((nthN bef i).testBit j)))))&&zIy ops bef r (i+1))
structure Fx where
 rds:List (Nat × Nat)
 wrs:List (Nat × Nat)
 cls:List Nat
 frs:List (Nat × Nat × Nat)
 wcs:List Nat
def zDv (b:Nat):List (Nat × Nat × Nat)->List (Nat × Nat)
 | []=>[]
 | (j,lo,hi)::r=>cond (b.testBit j) (zDv b r) ((lo,hi)::zDv b r)
inductive Kd where
 | free|read (b:Nat)|write (b:Nat)|call|wcall
def zGa (b:Nat):List (Nat × Nat)->List (Nat × Nat)
 | []=>[]
 | (j,c)::r=>cond (b.testBit j) (zGa b r) ((c,c+1)::zGa b r)
def zQO (G:Nat) (t:List Value):Op->Kd
 | .load _ x=>match aev G t x with
  | some (.pointer (some a))=>.read a.block
  | _=>.call
 | .store _ x _=>match aev G t x with
  | some (.pointer (some a))=>.write a.block
  | _=>.call
 | .mapUpdate _ x _ _|.insert _ x _ _=>match aev G t x with
  | some (.map (some b))=>.write b
  | _=>.call
 | .call {callee:=.builtin .len,..}|.call {callee:=.builtin .max,..}|.call {callee:=.builtin .min,..}=>.free
 | .convert _ _ x=>match aev G t x with
  | some (.slice (some _) _ _)=>.call
  | _=>.free
 | .slice _ x _ _ _=>match aev G t x with
  | some (.string _)=>.free
  | _=>.call
 | .move _|.assign _|.pick _ _ _|.alloc _|.box _ _|.build _ _|.buildSlice _ _ _|.nilCheck _|.binOp _ _ _ _ _|.unOp _ _ _|.makeInterface _ _|.makeFunc _ _ _|.makeMap _ _|.makeSlice _ _ _|.fieldAddr _ _ _|.field _ _ _|.indexAddr _ _ _|.index _ _ _|.typeAssert _ _ _ _|.extract _ _=>.free
 | _=>.call
def zIs (b:Nat) (bi:Nat) (frs:List (Nat × Nat × Nat)):Bool:=frs.all fun (j,lo,hi)=>bi.testBit j || !(Nat.ble lo b&&Nat.blt b hi)
def hidK (k:Kd) (bi:Nat) (fx:Fx) (nx:Nat):List (Nat × Nat) :=
 match k with
 | .free=>[(0,nx)]
 | .read b|.write b=>[(0,b),(b+1,nx)]
 | .call=>zDv bi fx.frs
 | .wcall=>zDv bi fx.frs++(zGa bi fx.rds++zGa bi fx.wrs)
def zDz (k:Kd) (h:AH):Nat :=
 match k with
 | .write _|.wcall=>h.floor
 | _=>h.next
def okK (k:Kd) (bef:List Nat) (i:Nat) (fx:Fx) (h:AH):Bool :=
 match k with
 | .free=>true
 | .read b=>zIs b (nthN bef i) fx.frs&&(fx.wrs.all fun (m,c)=>(nthN bef i).testBit m || !(Nat.beq b c))&&(h.get b).isSome&&(fx.wcs.all fun m=>(nthN bef i).testBit m)
 | .write b=>zIs b (nthN bef i) fx.frs&&(fx.wrs.all fun (m,c)=>(nthN bef i).testBit m || !(Nat.beq b c))&&(fx.rds.all fun (m,c)=>(nthN bef i).testBit m || !(Nat.beq b c))&&(fx.cls.all fun m=>(nthN bef i).testBit m || inR (zDv (nthN bef m) fx.frs) b)&&(h.get b).isSome&&Nat.ble h.floor b&&(fx.wcs.all fun m=>(nthN bef i).testBit m)
 | .call=>(fx.wrs.all fun (m,c)=>(nthN bef i).testBit m || inR (zDv (nthN bef i) fx.frs) c)&&(fx.wcs.all fun m=>(nthN bef i).testBit m)
 | .wcall=>(fx.cls.all fun m=>(nthN bef i).testBit m)&&(fx.wcs.all fun m=>(nthN bef i).testBit m)
def fxK (k:Kd) (i:Nat) (fx:Fx) (lo hi:Nat):Fx :=
 match k with
 | .free=>{fx with frs:=(i,lo,hi)::fx.frs}
 | .read b=>{fx with rds:=(i,b)::fx.rds,frs:=(i,lo,hi)::fx.frs}
 | .write b=>{fx with wrs:=(i,b)::fx.wrs,frs:=(i,lo,hi)::fx.frs}
 | .call=>{fx with cls:=i::fx.cls,frs:=(i,lo,hi)::fx.frs}
 | .wcall=>{fx with wcs:=i::fx.wcs,frs:=(i,lo,hi)::fx.frs}
def zQH:Op->Bool
 | .move _|.assign _|.pick _ _ _|.alloc _|.box _ _|.build _ _|.buildSlice _ _ _|.nilCheck _|.binOp _ _ _ _ _|.unOp _ _ _|.makeInterface _ _|.makeFunc _ _ _|.makeMap _ _|.makeSlice _ _ _|.fieldAddr _ _ _|.field _ _ _|.indexAddr _ _ _|.index _ _ _|.typeAssert _ _ _ _|.extract _ _=>true
 | .call {callee:=.builtin .len,..}|.call {callee:=.builtin .max,..}|.call {callee:=.builtin .min,..}=>true
 | _=>false
def zP7 (ops:List Oper) (bef:List Nat) (i:Nat):Bool:=ops.zipIdx.all fun (p,j)=>Nat.ble j i || zQH p.op || (nthN bef j).testBit i
def zQn (ops:List Oper) (bef:List Nat) (i:Nat) (k:Kd):List Kd :=
 match k with
 | .call=>cond (zP7 ops bef i) [.wcall,.call] [.call]
 | k=>[k]
def zMB (P:Program) (G:Nat) (O:Orc) (rec:Ev) (bef:List Nat) (i:Nat) (fx:Fx) (t:List Value) (h:AH) (o:Oper):List Kd->Option (Kd × Value × AH)
 | []=>none
 | k::r=>match cond (okK k bef i fx h) (zGI P G O rec t {h with hid:=hidK k (nthN bef i) fx h.next++h.hid,floor:=zDz k h} o) none with
  | some (v,h')=>some (k,v,h')
  | none=>zMB P G O rec bef i fx t h o r
def zFn (P:Program) (G:Nat) (O:Orc) (rec:Ev) (ops:List Oper) (bef:List Nat):List Oper->Nat->Fx->List Value->AH->Option (List Value × AH)
 | [],_,_,t,h=>some (t,h)
 | o::r,i,fx,t,h=>match zBg ops t o with
  | false=>zFn P G O rec ops bef r (i+1) fx (putA t o.dst undef) h
  | true=>match zMB P G O rec bef i fx t h o (zQn ops bef i (zQO G t o.op)) with
   | none=>none
   | some (k,v,h')=>zFn P G O rec ops bef r (i+1) (fxK k i fx h.next h'.next) (putA t o.dst v) {h' with hid:=h.hid,floor:=h.floor}
def zHQ (P:Program) (G:Nat) (O:Orc) (rec:Ev) (rd:Option Nat) (ops:Array Oper) (draw:Bool) (t:List Value) (d:List Deferred) (h:AH):Option (List Value × List Deferred × AH) :=
 cond draw
  (cond (zIy ops.toList (befL ops.toList) ops.toList 0&&zC6 ops.toList 0)
   (match zFn P G O rec ops.toList (befL ops.toList) ops.toList 0 ⟨[],[],[],[],[]⟩ t h with
    | some (t',h')=>some (t',d,h')
    | none=>none) none)
  (zJP P G O rec rd ops.toList ops.toList t d h)
def zLW:Option Code->Option Exit
 | none=>some .normal
 | some .ret=>some .ret
 | some (.exit id)=>some (.exit id)
 | some (.goto l)=>some (.goto l)
 | _=>none
def evGo (P:Program) (G:Nat) (O:Orc) (rec:Ev) (f y:Value) (h:AH):Option (Value × AH) :=
 match f with
 | .func (.func g) first cap=>zH8 P G O rec g (first.toList++[y]++cap.toList) h
 | _=>none
def zC3 (round:Option Nat) (h:AH):Option (Nat × List Deferred × AH) :=
 match round with
 | none=>some (h.next,[{target:=.collected h.next,args:=#[]}],h.new (.o (.deferred (some []))))
 | some l=>match h.get l with
  | some (.o (.loop r))=>some (r.defers,[],h)
  | _=>none
def zJJ (P:Program) (G:Nat) (O:Orc) (rec:Ev) (round:Option Nat) (f:Operand) (params:Array Tmp) (assign body:Code) (t:List Value) (d:List Deferred) (h:AH):Option (Exit × List Value × List Deferred × AH) :=
 match aev G t f with
 | none=>none
 | some fv =>
  match zC3 round h with
  | none=>none
  | some (D,mark,h1) =>
   match evGo P G O rec fv (.func (.yield h1.next) #[] #[]) (h1.new (.o (.loop {state:=.ready,pending:=none,fn:=0,tmps:=t.toArray,params,assign,body,defers:=D}))) with
   | none=>none
   | some (_,h2)=>match h2.get h1.next with
    | some (.o (.loop r))=>cond (r.state == .busy || Nat.blt h1.next h2.floor) none
     (match zLW r.pending with
      | some e=>some (e,t,mark++d,h2.put h1.next (.o (.loop {r with state:=.exhausted})))
      | none=>none)
    | _=>none
def ev (P:Program) (G:Nat) (O:Orc):Nat->Ev
 | 0,_,_,_,_,_=>none
 | n+1,rd,c,t,d,h=>match c with
  | .skip|.label _=>some (.normal,t,d,h)
  | .region _ ops draw=>match zHQ P G O (ev P G O n) rd ops draw t d h with
   | some (t',d',h')=>some (.normal,t',d',h')
   | none=>none
  | .seq a b=>match ev P G O n rd a t d h with
   | some (.normal,t',d',h')=>ev P G O n rd b t' d' h'
   | r=>r
  | .cond c x y=>match aev G t c with
   | some (.bool true)=>ev P G O n rd x t d h
   | some (.bool false)=>ev P G O n rd y t d h
   | _=>none
  | .block id b=>match ev P G O n rd b t d h with
   | some (.exit k,t',d',h')=>cond (Nat.beq k id) (some (.normal,t',d',h')) (some (.exit k,t',d',h'))
   | r=>r
  | .loop b=>match ev P G O n rd b t d h with
   | some (.normal,t',d',h')=>ev P G O n rd (.loop b) t' d' h'
   | r=>r
  | .exit id=>some (.exit id,t,d,h)
  | .goto l=>some (.goto l,t,d,h)
  | .ret=>some (.ret,t,d,h)
  | .scope b=>match ev P G O n rd b t d h with
   | some (.goto _,_,_,_)=>none
   | r=>r
  | .rangeFunc f params assign body=>zJJ P G O (ev P G O n) rd f params assign body t d h
  | .refuse _=>none
def zCA (P:Program) (G:Nat) (O:Orc) (n:Nat) (t:Tr) (f:FuncId) (args:List Value):Option (Value × AH):=zH8 P G O (ev P G O n) f args ⟨t,G,G,[]⟩
theorem zEn:∀ (f:Nat) (t:Tr) (k:Nat) (v:Option AObj) (j:Nat),k<f->(Tr.setF f t k v).get j=if j=k then v else t.get j
 | 0,_,_,_,_,h=>by omega
 | f+1,.lf,k,v,j,h=>by
  simp only[Tr.setF];rcases Nat.eq_zero_or_pos k with hk|hk
  ·subst hk;simp only[Nat.beq_eq_true_eq,Nat.beq]
   by_cases hj:j=0
   ·subst hj;simp[Tr.get]
   ·have:Nat.beq j 0=false:=by cases j<;>simp_all [Nat.beq]
    simp only[cond_true,Tr.get,this,cond_false,hj,if_false]
    cases Nat.beq (j % 2) 1<;>rfl
  ·have hk0:Nat.beq k 0=false:=by cases k<;>simp_all [Nat.beq]
   simp only[hk0,cond_false]
   by_cases hj:j=0
   ·subst hj;have:¬ (0=k):=by omega
    simp only[this,if_false]
    cases Nat.beq (k % 2) 1<;>simp[Tr.get]
   ·have hj0:Nat.beq j 0=false:=by cases j<;>simp_all [Nat.beq]
    rcases Nat.mod_two_eq_zero_or_one k with hk2|hk2<;>rcases Nat.mod_two_eq_zero_or_one j with hj2|hj2
    ·have h1:Nat.beq (k % 2) 1=false:=by rw[hk2];rfl
     have h2:Nat.beq (j % 2) 1=false:=by rw[hj2];rfl
     simp only[h1,cond_false,Tr.get,hj0,h2];rw[zEn f _ _ _ _ (by omega)]
     by_cases e:j=k
     ·subst e;simp
     ·rw[if_neg e,if_neg (by omega)];rfl
    ·have h1:Nat.beq (k % 2) 1=false:=by rw[hk2];rfl
     have h2:Nat.beq (j % 2) 1=true:=by rw[hj2];rfl
     simp only[h1,cond_false,Tr.get,hj0,h2,cond_true];rw[if_neg (by omega)]
    ·have h1:Nat.beq (k % 2) 1=true:=by rw[hk2];rfl
     have h2:Nat.beq (j % 2) 1=false:=by rw[hj2];rfl
     simp only[h1,cond_false,Tr.get,hj0,h2,cond_true];rw[if_neg (by omega)]
    ·have h1:Nat.beq (k % 2) 1=true:=by rw[hk2];rfl
     have h2:Nat.beq (j % 2) 1=true:=by rw[hj2];rfl
     simp only[h1,cond_false,Tr.get,hj0,h2,cond_true];rw[zEn f _ _ _ _ (by omega)]
     by_cases e:j=k
     ·subst e;simp
     ·rw[if_neg e,if_neg (by omega)];rfl
 | f+1,.nd l x r,k,v,j,h=>by
  simp only[Tr.setF];rcases Nat.eq_zero_or_pos k with hk|hk
  ·subst hk
   by_cases hj:j=0
   ·subst hj;simp[Tr.get]
   ·have:Nat.beq j 0=false:=by cases j<;>simp_all [Nat.beq]
    simp only[Nat.beq,cond_true,Tr.get,this,cond_false,hj,if_false]
  ·have hk0:Nat.beq k 0=false:=by cases k<;>simp_all [Nat.beq]
   simp only[hk0,cond_false]
   by_cases hj:j=0
   ·subst hj;have:¬ (0=k):=by omega
    simp only[this,if_false]
    cases Nat.beq (k % 2) 1<;>simp[Tr.get]
   ·have hj0:Nat.beq j 0=false:=by cases j<;>simp_all [Nat.beq]
    rcases Nat.mod_two_eq_zero_or_one k with hk2|hk2<;>rcases Nat.mod_two_eq_zero_or_one j with hj2|hj2
    ·have h1:Nat.beq (k % 2) 1=false:=by rw[hk2];rfl
     have h2:Nat.beq (j % 2) 1=false:=by rw[hj2];rfl
     simp only[h1,cond_false,Tr.get,hj0,h2];rw[zEn f _ _ _ _ (by omega)]
     by_cases e:j=k
     ·subst e;simp
     ·rw[if_neg e,if_neg (by omega)]
    ·have h1:Nat.beq (k % 2) 1=false:=by rw[hk2];rfl
     have h2:Nat.beq (j % 2) 1=true:=by rw[hj2];rfl
     simp only[h1,cond_false,Tr.get,hj0,h2,cond_true];rw[if_neg (by omega)]
    ·have h1:Nat.beq (k % 2) 1=true:=by rw[hk2];rfl
     have h2:Nat.beq (j % 2) 1=false:=by rw[hj2];rfl
     simp only[h1,cond_false,Tr.get,hj0,h2,cond_true];rw[if_neg (by omega)]
    ·have h1:Nat.beq (k % 2) 1=true:=by rw[hk2];rfl
     have h2:Nat.beq (j % 2) 1=true:=by rw[hj2];rfl
     simp only[h1,cond_false,Tr.get,hj0,h2,cond_true];rw[zEn f _ _ _ _ (by omega)]
     by_cases e:j=k
     ·subst e;simp
     ·rw[if_neg e,if_neg (by omega)]
theorem Tr.get_set (t:Tr) (k:Nat) (v:Option AObj) (j:Nat):(t.set k v).get j=if j=k then v else t.get j:=zEn _ _ _ _ _ (Nat.lt_succ_self k)
theorem AH.get_parts {h:AH} {n:Nat} {o:AObj} (hg:h.get n=some o):n<h.next/\inR h.hid n=false/\h.t.get n=some o:=by
 unfold AH.get at hg
 cases e:(Nat.ble h.next n || inR h.hid n)
 ·rw[e,cond_false]at hg;rw[Bool.or_eq_false_iff]at e;refine⟨?_,e.2,hg⟩;rcases Nat.lt_or_ge n h.next with hl|hl
  ·exact hl
  ·have hb:Nat.ble h.next n=true:=by rw[Nat.ble_eq];exact hl
   rw[e.1]at hb;cases hb
 ·rw[e]at hg;simp at hg
theorem AH.get_of {h:AH} {n:Nat} (h1:n<h.next) (h2:inR h.hid n=false):h.get n=h.t.get n:=by
 unfold AH.get;have:Nat.ble h.next n=false:=by
  rw[Bool.eq_false_iff];intro hb;rw[Nat.ble_eq]at hb;omega
 rw[this,h2];rfl
theorem AH.get_none {h:AH} {n:Nat} (h1:h.next<=n\/inR h.hid n=true):h.get n=none:=by
 unfold AH.get;have:(Nat.ble h.next n || inR h.hid n)=true:=by
  rw[Bool.or_eq_true,Nat.ble_eq];exact h1
 rw[this];rfl
theorem AH.get_hid {h:AH} {n:Nat} {o:AObj} (hg:h.get n=some o):inR h.hid n=false:=(AH.get_parts hg).2.1
theorem AH.get_put (h:AH) (n:Nat) (v:AObj) (j:Nat) {o0:AObj} (hg:h.get n=some o0):(h.put n v).get j=if j=n then some v else h.get j:=by
 obtain⟨h1,h2,_⟩:=AH.get_parts hg
 by_cases e:j=n
 ·subst e;rw[if_pos rfl,AH.get_of (h:=h.put j v) h1 h2];simp[AH.put,Tr.get_set]
 ·rw[if_neg e];simp only[AH.get,AH.put,Tr.get_set,if_neg e]
theorem AH.get_drop (h:AH) (n:Nat) (j:Nat):(h.drop n).get j=if j=n then none else h.get j:=by
 simp only[AH.get,AH.drop,Tr.get_set]
 by_cases e:j=n
 ·subst e;simp
 ·simp[e]
abbrev NM:=Nat->Option (Nat × Option (Nat × Nat))
inductive VR (m:NM):Value->Value->Prop
 | bool (b:Bool):VR m (.bool b) (.bool b)
 | int (k:IntKind) (n:Int):VR m (.int k n) (.int k n)
 | string (s:ByteArray):VR m (.string s) (.string s)
 | ptrN:VR m (.pointer none) (.pointer none)
 | ptr {b b' off:Nat} {r:Option (Nat × Nat)} (h:m b=some (b',r)):VR m (.pointer (some ⟨b,off,none⟩)) (.pointer (some ⟨b',off,none⟩))
 | sliceN:VR m (.slice none 0 0) (.slice none 0 0)
 | slice {b b' off n c:Nat} (h:m b=some (b',none)):VR m (.slice (some ⟨b,off,none⟩) n c) (.slice (some ⟨b',off,none⟩) n c)
 | row {b b' off n c c' sz K:Nat} (h:m b=some (b',some (sz,K))) (hc:c' * sz+off=K * sz) (hl:n<=c'):VR m (.slice (some ⟨b,off,none⟩) n c) (.slice (some ⟨b',off,none⟩) n c')
 | mapN:VR m (.map none) (.map none)
 | map {b b':Nat} (h:m b=some (b',none)):VR m (.map (some b)) (.map (some b'))
 | func (f:FuncId) {a a' c c':Array Value} (ha:a.size=a'.size) (hc:c.size=c'.size) (iha:∀ (i:Nat) (u u':Value),a[i]?=some u->a'[i]?=some u'->VR m u u') (ihc:∀ (i:Nat) (u u':Value),c[i]?=some u->c'[i]?=some u'->VR m u u'):VR m (.func (.func f) a c) (.func (.func f) a' c')
 | yield {l l':Nat} (h:m l=some (l',none)):VR m (.func (.yield l) #[] #[]) (.func (.yield l') #[] #[])
 | nilFunc:VR m .nilFunc .nilFunc
 | iface (t:TypeId) {v v':Value} (h:VR m v v'):VR m (.iface t v) (.iface t v')
 | nilIface:VR m .nilIface .nilIface
 | agg {a a':Array Value} (ha:a.size=a'.size) (iha:∀ (i:Nat) (u u':Value),a[i]?=some u->a'[i]?=some u'->VR m u u'):VR m (.agg a) (.agg a')
 | tuple {a a':Array Value} (ha:a.size=a'.size) (iha:∀ (i:Nat) (u u':Value),a[i]?=some u->a'[i]?=some u'->VR m u u'):VR m (.tuple a) (.tuple a')
inductive LR (m:NM):List Value->List Value->Prop
 | nil:LR m [] []
 | cons {v v':Value} {l l':List Value} (h:VR m v v') (t:LR m l l'):LR m (v::l) (v'::l')
section
variable {m m':NM}
theorem VR.mono (hm:∀ n x,m n=some x->m' n=some x) {v v':Value} (h:VR m v v'):VR m' v v':=by
 induction h with
 | bool b=>exact .bool b
 | int k n=>exact .int k n
 | string s=>exact .string s
 | ptrN=>exact .ptrN
 | ptr h=>exact .ptr (hm _ _ h)
 | sliceN=>exact .sliceN
 | slice h=>exact .slice (hm _ _ h)
 | row h hc hl=>exact .row (hm _ _ h) hc hl
 | mapN=>exact .mapN
 | map h=>exact .map (hm _ _ h)
 | func f ha hc _ _ iha ihc=>exact .func f ha hc iha ihc
 | yield h=>exact .yield (hm _ _ h)
 | nilFunc=>exact .nilFunc
 | iface t _ ih=>exact .iface t ih
 | nilIface=>exact .nilIface
 | agg ha _ iha=>exact .agg ha iha
 | tuple ha _ iha=>exact .tuple ha iha
theorem LR.mono (hm:∀ n x,m n=some x->m' n=some x) {l l':List Value} (h:LR m l l'):LR m' l l':=by
 induction h with
 | nil=>exact .nil
 | cons h _ ih=>exact .cons (h.mono hm) ih
theorem LR.len {l l':List Value} (h:LR m l l'):l.length=l'.length:=by
 induction h with
 | nil=>rfl
 | cons _ _ ih=>simp[ih]
theorem LR.get {l l':List Value} (h:LR m l l'):∀ {i:Nat} {v v':Value},l[i]?=some v->l'[i]?=some v'->VR m v v':=by
 induction h with
 | nil=>intro i v v' h;simp at h
 | cons h _ ih =>
  intro i v v' h1 h2
  cases i with
  | zero=>simp at h1 h2;subst h1 h2;exact h
  | succ i=>exact ih (by simpa using h1) (by simpa using h2)
theorem LR.of:∀ {l l':List Value},l.length=l'.length->(∀ (i:Nat) (v v':Value),l[i]?=some v->l'[i]?=some v'->VR m v v')->LR m l l'
 | [],[],_,_=>.nil
 | _::_,[],h,_=>by simp at h
 | [],_::_,h,_=>by simp at h
 | a::l,b::l',h,k=>.cons (k 0 a b rfl rfl) (LR.of (by simpa using h) (fun i v v' h1 h2=>k (i+1) v v' (by simpa using h1) (by simpa using h2)))
theorem VR.aggL {a a':List Value} (h:LR m a a'):VR m (.agg a.toArray) (.agg a'.toArray):=.agg (by simpa using h.len) (fun i u u' h1 h2=>h.get (by simpa using h1) (by simpa using h2))
theorem VR.aggA {a a':Array Value} (h:LR m a.toList a'.toList):VR m (.agg a) (.agg a'):=.agg (by simpa using h.len) (fun i u u' h1 h2=>h.get (by simpa using h1) (by simpa using h2))
theorem VR.tupL {a a':List Value} (h:LR m a a'):VR m (.tuple a.toArray) (.tuple a'.toArray):=.tuple (by simpa using h.len) (fun i u u' h1 h2=>h.get (by simpa using h1) (by simpa using h2))
theorem VR.agg_inv {a:Array Value} {v:Value} (h:VR m (.agg a) v):∃ a',v=.agg a'/\LR m a.toList a'.toList:=by
 cases h with
 | agg ha iha=>exact⟨_,rfl,LR.of (by simpa using ha) (fun i v v' h1 h2=>iha i v v' (by simpa using h1) (by simpa using h2))⟩
theorem VR.tup_inv {a:Array Value} {v:Value} (h:VR m (.tuple a) v):∃ a',v=.tuple a'/\LR m a.toList a'.toList:=by
 cases h with
 | tuple ha iha=>exact⟨_,rfl,LR.of (by simpa using ha) (fun i v v' h1 h2=>iha i v v' (by simpa using h1) (by simpa using h2))⟩
theorem VR.func_inv {f:FuncId} {a c:Array Value} {v:Value} (h:VR m (.func (.func f) a c) v):∃ a' c',v=.func (.func f) a' c'/\LR m a.toList a'.toList/\LR m c.toList c'.toList:=by
 cases h with
 | func _ ha hc iha ihc=>exact⟨_,_,rfl,LR.of (by simpa using ha) (fun i v v' h1 h2=>iha i v v' (by simpa using h1) (by simpa using h2)),LR.of (by simpa using hc) (fun i v v' h1 h2=>ihc i v v' (by simpa using h1) (by simpa using h2))⟩
theorem VR.funcL {f:FuncId} {a c a' c':List Value} (h1:LR m a a') (h2:LR m c c'):VR m (.func (.func f) a.toArray c.toArray) (.func (.func f) a'.toArray c'.toArray) :=
 .func f (by simpa using h1.len) (by simpa using h2.len) (fun i u u' h3 h4=>h1.get (by simpa using h3) (by simpa using h4)) (fun i u u' h3 h4=>h2.get (by simpa using h3) (by simpa using h4))
theorem VR.undef:VR m undef undef:=.tuple rfl (fun i u u' h=>by simp at h)
theorem LR.append {a a' b b':List Value} (h:LR m a a') (k:LR m b b'):LR m (a++b) (a'++b'):=by
 induction h with
 | nil=>exact k
 | cons h _ ih=>exact .cons h ih
theorem LR.drop {a a':List Value} (h:LR m a a'):∀ n,LR m (a.drop n) (a'.drop n):=by
 induction h with
 | nil=>intro n;simp;exact .nil
 | cons h t ih=>intro n;cases n with
  | zero=>exact .cons h t
  | succ n=>simpa using ih n
theorem LR.take {a a':List Value} (h:LR m a a'):∀ n,LR m (a.take n) (a'.take n):=by
 induction h with
 | nil=>intro n;simp;exact .nil
 | cons h t ih=>intro n;cases n with
  | zero=>simp;exact .nil
  | succ n=>simpa using .cons h (ih n)
theorem LR.set {a a':List Value} {v v':Value} (h:LR m a a') (hv:VR m v v'):∀ n,LR m (a.set n v) (a'.set n v'):=by
 induction h with
 | nil=>intro n;simp;exact .nil
 | cons h t ih=>intro n;cases n with
  | zero=>exact .cons hv t
  | succ n=>exact .cons h (ih n)
theorem LR.rep (n:Nat):LR m (List.replicate n undef) (List.replicate n undef):=by
 induction n with
 | zero=>exact .nil
 | succ n ih=>exact .cons .undef ih
theorem LR.setL {vs vs':List Value} (hv:LR m vs vs'):∀ {a a':List Value} (n:Nat),LR m a a'->LR m (setL a n vs) (setL a' n vs'):=by
 induction hv with
 | nil=>intro a a' n h;exact h
 | cons h _ ih=>intro a a' n k;exact ih (n+1) (k.set h n)
theorem zHY (l:List Value) (i:Nat):nth l i=l.getD i undef:=by
 induction l generalizing i with
 | nil=>rfl
 | cons x r ih=>cases i with
  | zero=>rfl
  | succ i=>simpa [nth] using ih i
theorem LR.nth {a a':List Value} (h:LR m a a'):∀ i,VR m (nth a i) (nth a' i):=by
 induction h with
 | nil=>intro i;exact .undef
 | cons h t ih=>intro i;cases i with
  | zero=>exact h
  | succ i=>exact ih i
theorem zDb {v v':Value} (hp:zBR v=true) (h:VR m v v'):v'=v:=by
 cases h with
 | func f ha hc iha ihc =>
  simp only[zBR,Bool.and_eq_true]at hp;replace hp:=And.intro (Nat.eq_of_beq_eq_true hp.1) (Nat.eq_of_beq_eq_true hp.2);have e1:=Array.eq_empty_of_size_eq_zero hp.1;have e2:=Array.eq_empty_of_size_eq_zero hp.2;have e3:=Array.eq_empty_of_size_eq_zero (ha.symm.trans hp.1);have e4:=Array.eq_empty_of_size_eq_zero (hc.symm.trans hp.2);rw[e1,e2,e3,e4]
 | _=>first|rfl|simp[zBR]at hp
theorem zEG {v:Value} (hp:zBR v=true):VR m v v:=by
 cases v with
 | bool b=>exact .bool b
 | int k n=>exact .int k n
 | string s=>exact .string s
 | pointer a=>cases a with
  | none=>exact .ptrN
  | some a=>simp[zBR]at hp
 | slice a n c =>
  cases a with
  | none =>
   cases n<;>cases c<;>first|exact .sliceN|simp[zBR]at hp
  | some a=>simp[zBR]at hp
 | map r=>cases r with
  | none=>exact .mapN
  | some a=>simp[zBR]at hp
 | func fn a c =>
  cases fn with
  | func f =>
   simp only[zBR,Bool.and_eq_true]at hp;replace hp:=And.intro (Nat.eq_of_beq_eq_true hp.1) (Nat.eq_of_beq_eq_true hp.2);rw[Array.eq_empty_of_size_eq_zero hp.1,Array.eq_empty_of_size_eq_zero hp.2];exact .func f rfl rfl (fun i u u' h=>by simp at h) (fun i u u' h=>by simp at h)
  | _=>simp[zBR]at hp
 | nilFunc=>exact .nilFunc
 | nilIface=>exact .nilIface
 | _=>simp[zBR]at hp
theorem zGG:∀ {l l':List Value},l.all zBR=true->LR m l l'->l'=l
 | [],_,_,.nil=>rfl
 | a::l,_,h,.cons h1 h2=>by
  simp only[List.all_cons,Bool.and_eq_true]at h;rw[zDb h.1 h1,zGG h.2 h2]
theorem zDF:∀ {l:List Value},l.all zBR=true->LR m l l
 | [],_=>.nil
 | a::l,h=>by
  simp only[List.all_cons,Bool.and_eq_true]at h;exact .cons (zEG h.1) (zDF h.2)
theorem zDp {v v':Value} (hp:plain v=true) (h:VR m v v'):v'=v:=by
 cases v with
 | agg a =>
  obtain⟨a',rfl,hl⟩:=h.agg_inv;have:=zGG (by simpa [plain] using hp) hl
  rw[Array.toList_inj.1 this]
 | tuple a =>
  obtain⟨a',rfl,hl⟩:=h.tup_inv;have:=zGG (by simpa [plain] using hp) hl
  rw[Array.toList_inj.1 this]
 | iface t v =>
  cases h with
  | iface _ h=>rw[zDb (by simpa [plain] using hp) h]
 | _=>exact zDb (by simpa [plain] using hp) h
theorem zBq {v:Value} (hp:plain v=true):VR m v v:=by
 cases v with
 | agg a=>exact .aggA (zDF (by simpa [plain] using hp))
 | tuple a=>exact .tupL (a:=a.toList) (a':=a.toList) (zDF (by simpa [plain] using hp))
 | iface t v=>exact .iface t (zEG (by simpa [plain] using hp))
 | _=>exact zEG (by simpa [plain] using hp)
theorem zCc {v:Value} (hp:plain v=true):LR m v.cells.toList v.cells.toList:=by
 cases v with
 | agg a=>exact zDF (l:=a.toList) (by simpa [plain] using hp)
 | _=>exact .cons (zBq hp) .nil
theorem VR.cells {v v':Value} (h:VR m v v'):LR m v.cells.toList v'.cells.toList:=by
 cases h with
 | agg ha iha=>exact(VR.agg_inv (.agg ha iha)).elim fun a' e=>by obtain⟨e1,e2⟩:=e;cases e1;exact e2
 | bool b=>exact .cons (.bool b) .nil
 | int k n=>exact .cons (.int k n) .nil
 | string s=>exact .cons (.string s) .nil
 | ptrN=>exact .cons .ptrN .nil
 | ptr h=>exact .cons (.ptr h) .nil
 | sliceN=>exact .cons .sliceN .nil
 | slice h=>exact .cons (.slice h) .nil
 | row h hc hl=>exact .cons (.row h hc hl) .nil
 | mapN=>exact .cons .mapN .nil
 | map h=>exact .cons (.map h) .nil
 | func f ha hc iha ihc=>exact .cons (.func f ha hc iha ihc) .nil
 | yield h=>exact .cons (.yield h) .nil
 | nilFunc=>exact .cons .nilFunc .nil
 | iface t h=>exact .cons (.iface t h) .nil
 | nilIface=>exact .cons .nilIface .nil
 | tuple ha iha=>exact .cons (.tuple ha iha) .nil
theorem VR.one {v v':Value} (h:VR m v v'):v'.oneCell'=v.oneCell':=by cases h<;>rfl
theorem LR.one {l l':List Value} (h:LR m l l'):l'.all (·.oneCell')=l.all (·.oneCell'):=by
 induction h with
 | nil=>rfl
 | cons h _ ih=>simp[h.one,ih]
end
def LoopR (m:NM) (r r':Loop):Prop:=r'.state=r.state/\r'.pending=r.pending/\LR m r.tmps.toList r'.tmps.toList/\r'.params=r.params/\r'.assign=r.assign/\r'.body=r.body/\m r.defers=some (r'.defers,none)
inductive ER (m:NM):List MapEntry->List MapEntry->Prop
 | nil:ER m [] []
 | cons {e e':MapEntry} {l l':List MapEntry} (hk:zBR e.key=true) (hk':e'.key=e.key) (hv:VR m e.val e'.val) (hb:e'.born=e.born) (t:ER m l l'):ER m (e::l) (e'::l')
inductive OR (m:NM):AObj->Option (Nat × Nat)->Obj->Prop
 | cells {c c':Array Value} {U:TypeId} {fr:Nat × Nat} (h:LR m c.toList c'.toList):OR m (.o (.cells c U fr)) none (.cells c' U fr)
 | map {es es':Array MapEntry} {k:Nat} (h:ER m es.toList es'.toList):OR m (.o (.map es k)) none (.map es' k)
 | loop {r r':Loop} (h:LoopR m r r'):OR m (.o (.loop r)) none (.loop r')
 | ro {c:List Value} {c':Array Value} {U:TypeId} {fr:Nat × Nat} (h:LR m c c'.toList):OR m (.ro c) none (.cells c' U fr)
 | defs:OR m (.o (.deferred (some []))) none (.deferred (some []))
 | defn:OR m (.o (.deferred none)) none (.deferred none)
 | row {c:List Value} {cur:Array Value} {U:TypeId} {sz K:Nat} (hs:cur.size=K * sz) (hl:c.length<=cur.size) (h:LR m c (cur.toList.take c.length)) (h0:0<sz) (hK:K<=maxLen):OR m (.row c U sz) (some (sz,K)) (.cells cur U (0,0))
section
variable {m m':NM}
theorem LoopR.mono (hm:∀ n x,m n=some x->m' n=some x) {r r':Loop} (h:LoopR m r r'):LoopR m' r r':=⟨h.1,h.2.1,h.2.2.1.mono hm,h.2.2.2.1,h.2.2.2.2.1,h.2.2.2.2.2.1,hm _ _ h.2.2.2.2.2.2⟩
theorem ER.mono (hm:∀ n x,m n=some x->m' n=some x) {l l':List MapEntry} (h:ER m l l'):ER m' l l':=by
 induction h with
 | nil=>exact .nil
 | cons h1 h2 h3 h4 _ ih=>exact .cons h1 h2 (h3.mono hm) h4 ih
theorem OR.mono (hm:∀ n x,m n=some x->m' n=some x) {o:AObj} {r:Option (Nat × Nat)} {o':Obj} (h:OR m o r o'):OR m' o r o':=by
 cases h with
 | cells h=>exact .cells (h.mono hm)
 | ro h=>exact .ro (h.mono hm)
 | map h=>exact .map (h.mono hm)
 | loop h=>exact .loop (h.mono hm)
 | defs=>exact .defs
 | defn=>exact .defn
 | row hs hl h h0 hK=>exact .row hs hl (h.mono hm) h0 hK
end
structure MT (G:Nat) (m:NM) (h:AH) (w:World):Prop where
 lt:∀ n b r,m n=some (b,r)->b<w.heap.size
 inj:∀ n1 n2 o1 o2 b r1 r2,h.get n1=some o1->h.get n2=some o2->m n1=some (b,r1)->m n2=some (b,r2)->n1=n2
 obj:∀ n o,h.get n=some o->∃ b r o',m n=some (b,r)/\w.heap[b]?=some o'/\OR m o r o'
 glob:∀ g,g<G->m g=some (g,none)
 dom:∀ n o,h.get n=some o->n<h.next
 fl:h.floor<=h.next
def FreeN (m:NM) (a b:Nat):Prop:=∀ n,a<=n->n<b->m n=none
structure Keep (h h':AH):Prop where
 next:h.next<=h'.next
 floor:h'.floor=h.floor
 hid:h'.hid=h.hid
 kept:∀ n,n<h.next->(n<h.floor\/inR h.hid n=true)->h'.t.get n=h.t.get n
 dead:∀ n,n<h.next->h.t.get n=none->h'.t.get n=none
theorem Keep.refl (h:AH):Keep h h:=⟨Nat.le_refl _,rfl,rfl,fun _ _ _=>rfl,fun _ _ h=>h⟩
theorem Keep.trans {h h1 h2:AH} (A:Keep h h1) (B:Keep h1 h2):Keep h h2 :=
 ⟨Nat.le_trans A.next B.next,B.floor.trans A.floor,B.hid.trans A.hid,fun n hn hk=>(B.kept n (Nat.lt_of_lt_of_le hn A.next) (by rw[A.floor,A.hid];exact hk)).trans (A.kept n hn hk),fun n hn hk=>B.dead n (Nat.lt_of_lt_of_le hn A.next) (A.dead n hn hk)⟩
theorem Keep.new (h:AH) (o:AObj):Keep h (h.new o):=⟨Nat.le_succ _,rfl,rfl,fun n hn _=>by simp only[AH.new,Tr.get_set];rw[if_neg (by omega)],fun n hn hd=>by simp only[AH.new,Tr.get_set];rw[if_neg (by omega)];exact hd⟩
theorem Keep.put {h:AH} {n:Nat} {o0:AObj} (hg:h.get n=some o0) (hf:h.floor<=n) (o:AObj):Keep h (h.put n o):=⟨Nat.le_refl _,rfl,rfl,fun k hk hx=>by
 simp only[AH.put,Tr.get_set];rw[if_neg (fun e=>?_)]
 subst e;rcases hx with hx|hx
 ·omega
 ·exact absurd hx (by rw[AH.get_hid hg];decide),fun k hk hd=>by
 simp only[AH.put,Tr.get_set];rw[if_neg (fun e=>?_)]
 ·exact hd
 ·subst e
  rw[(AH.get_parts hg).2.2]at hd;cases hd⟩
theorem Keep.row {h:AH} {n:Nat} {o0:AObj} (hg:h.get n=some o0) (hf:h.floor<=n) (o:AObj):Keep h ((h.drop n).new o):=⟨Nat.le_succ _,rfl,rfl,fun k hk hx=>by
 simp only[AH.new,AH.drop,Tr.get_set];rw[if_neg (by omega),if_neg (fun e=>?_)]
 subst e;rcases hx with hx|hx
 ·omega
 ·exact absurd hx (by rw[AH.get_hid hg];decide),fun k hk hd=>by
 simp only[AH.new,AH.drop,Tr.get_set];rw[if_neg (by omega)]
 split
 ·rfl
 ·exact hd⟩
structure EX (m:NM) (h:AH) (w:World) (m':NM) (h':AH) (w':World):Prop where
 mono:∀ n x,m n=some x->m' n=some x
 same:∀ n,¬ (h.next<=n/\n<h'.next)->m' n=m n
 newb:∀ n b r,m n=none->m' n=some (b,r)->w.heap.size<=b\/∃ n0 o r0,h.floor<=n0/\h.get n0=some o/\m n0=some (b,r0)
 next:h.next<=h'.next
 floor:h'.floor=h.floor
 hid:h'.hid=h.hid
 live:∀ n o,n<h.next->h'.get n=some o->∃ o0,h.get n=some o0
 low:∀ n,n<h.floor->h'.t.get n=h.t.get n
 hidt:∀ n,n<h.next->inR h.hid n=true->h'.t.get n=h.t.get n
 os:w'.os=w.os
 tape:w'.tape=w.tape
 output:w'.output=w.output
 size:w.heap.size<=w'.heap.size
 old:∀ b,b<w.heap.size->(∀ n o r,h.floor<=n->h.get n=some o->m n≠some (b,r))->w'.heap[b]?=w.heap[b]?
theorem EX.refl (m:NM) (h:AH) (w:World):EX m h w m h w :=
 ⟨fun _ _ h=>h,fun _ _=>rfl,fun n b r h1 h2=>(by rw[h1]at h2;cases h2),Nat.le_refl _,rfl,rfl,fun n o _ h=>⟨o,h⟩,fun _ _=>rfl,fun _ _ _=>rfl,rfl,rfl,rfl,Nat.le_refl _,fun _ _ _=>rfl⟩
theorem EX.trans {G:Nat} {m m1 m2:NM} {h h1 h2:AH} {w w1 w2:World} (A:EX m h w m1 h1 w1) (M1:MT G m1 h1 w1) (F:FreeN m h.next h1.next) (B:EX m1 h1 w1 m2 h2 w2):EX m h w m2 h2 w2:=by
 have key:∀ n o r b,h.floor<=n->h1.get n=some o->m1 n=some (b,r)->w.heap.size<=b\/∃ n0 o r0,h.floor<=n0/\h.get n0=some o/\m n0=some (b,r0):=by
  intro n o r b hf hg hm
  by_cases hn:n<h.next
  ·obtain⟨o0,ho0⟩:=A.live n o hn hg;exact .inr ⟨n,o0,r,hf,ho0,by rw[← A.same n (by omega)];exact hm⟩
  ·exact A.newb n b r (F n (by omega) (M1.dom n o hg)) hm
 refine⟨fun n x e=>B.mono n x (A.mono n x e),?_,?_,Nat.le_trans A.next B.next,B.floor.trans A.floor,B.hid.trans A.hid,?_,?_,?_,B.os.trans A.os,B.tape.trans A.tape,B.output.trans A.output,Nat.le_trans A.size B.size,?_⟩
 ·intro n hn;have:=A.next;have:=B.next;rw[B.same n (by omega),A.same n (by omega)]
 ·intro n b r e1 e2
  cases e:m1 n with
  | none =>
   rcases B.newb n b r e e2 with h3|⟨n0,o,r0,hf,hg,hm⟩
   ·exact .inl (Nat.le_trans A.size h3)
   ·rw[A.floor]at hf;exact key n0 o r0 b hf hg hm
  | some x =>
   have:=B.mono n x e;rw[e2]at this;cases this
   exact A.newb n b r e1 e
 ·intro n o hn hg;obtain⟨o1,h3⟩:=B.live n o (by have:=A.next;omega) hg
  exact A.live n o1 hn h3
 ·intro n hn;rw[B.low n (by rw[A.floor];exact hn),A.low n hn]
 ·intro n hn hh;rw[B.hidt n (by have:=A.next;omega) (by rw[A.hid];exact hh),A.hidt n hn hh]
 ·intro b hb hno;rw[B.old b (Nat.lt_of_lt_of_le hb A.size),A.old b hb hno];intro n o r hf hg hm;rw[A.floor]at hf;rcases key n o r b hf hg hm with h3|⟨n0,o,r0,hf,hg,hm⟩
  ·omega
  ·exact hno n0 o r0 hf hg hm
theorem FreeN.after {m m1:NM} {h h1 h2:AH} {w w1:World} (A:EX m h w m1 h1 w1) (F:FreeN m h.next h2.next):FreeN m1 h1.next h2.next:=fun n h3 h4=>by
 rw[A.same n (by omega)]
 exact F n (Nat.le_trans A.next h3) h4
theorem FreeN.le {m:NM} {a b c d:Nat} (F:FreeN m a b) (h1:a<=c) (h2:d<=b):FreeN m c d:=fun n h3 h4=>F n (by omega) (by omega)
theorem MT.world {G:Nat} {m:NM} {h:AH} {w w':World} (M:MT G m h w) (hs:w.heap.size<=w'.heap.size) (hk:∀ n o b r,h.get n=some o->m n=some (b,r)->w'.heap[b]?=w.heap[b]?):MT G m h w' :=
 ⟨fun n b r e=>Nat.lt_of_lt_of_le (M.lt n b r e) hs,M.inj,fun n o e=>by
  obtain⟨b,r,o',h1,h2,h3⟩:=M.obj n o e
  exact⟨b,r,o',h1,(hk n o b r e h1).trans h2,h3⟩,M.glob,M.dom,M.fl⟩
section
variable {G:Nat} {m:NM} {h:AH} {w:World}
def NM.up (m:NM) (n:Nat) (x:Nat × Option (Nat × Nat)):NM:=fun k=>if k=n then some x else m k
theorem zFw {h:AH} {v o:AObj} {j:Nat} (e:(h.new v).get j=some o):(j=h.next/\o=v)\/(j≠h.next/\h.get j=some o):=by
 obtain⟨h1,h2,h3⟩:=AH.get_parts e;have h1':j<h.next+1:=h1;simp only[AH.new,Tr.get_set]at h3
 by_cases hj:j=h.next
 ·rw[if_pos hj]at h3;cases h3;exact .inl ⟨hj,rfl⟩
 ·rw[if_neg hj]at h3;exact .inr ⟨hj,(AH.get_of (h:=h) (by omega) h2).trans h3⟩
theorem zN8 {h:AH} {v:AObj} {j:Nat} (hj:j<h.next):(h.new v).get j=h.get j:=by
 cases hh:inR h.hid j with
 | true=>rw[AH.get_none (.inr hh),AH.get_none (h:=h.new v) (.inr hh)]
 | false =>
  rw[AH.get_of hj hh,AH.get_of (h:=h.new v) (Nat.lt_succ_of_lt hj) hh];simp only[AH.new,Tr.get_set];rw[if_neg (by omega)]
theorem zEk {w':World} (M:MT G m h w) (F:FreeN m h.next (h.next+1)) {o:AObj} {r:Option (Nat × Nat)} {o':Obj} (hg:w.grownBy w' none) (hn:w'.heap[w.heap.size]?=some o') (ho:OR m o r o') :
  (∀ n x,m n=some x->(m.up h.next (w.heap.size,r)) n=some x)/\EX m h w (m.up h.next (w.heap.size,r)) (h.new o) w'/\MT G (m.up h.next (w.heap.size,r)) (h.new o) w'/\(m.up h.next (w.heap.size,r)) h.next=some (w.heap.size,r):=by
 have hN:m h.next=none:=F h.next (Nat.le_refl _) (Nat.lt_succ_self _);have mono:∀ n x,m n=some x->(m.up h.next (w.heap.size,r)) n=some x:=by
  intro n x e;unfold NM.up;rw[if_neg (fun e'=>by rw[e',hN]at e;cases e)]
  exact e
 have up:∀ n b r',(m.up h.next (w.heap.size,r)) n=some (b,r')->(n=h.next/\b=w.heap.size/\r'=r)\/(n≠h.next/\m n=some (b,r')):=by
  intro n b r' e;unfold NM.up at e;split at e
  ·rename_i hn;cases e;exact .inl ⟨hn,rfl,rfl⟩
  ·rename_i hn;exact .inr ⟨hn,e⟩
 have hsz:w.heap.size<w'.heap.size:=(Array.getElem?_eq_some_iff.1 hn).1;refine⟨mono,⟨mono,?_,?_,Nat.le_succ _,rfl,rfl,?_,?_,?_,hg.os,hg.tape,hg.output,hg.size,?_⟩,⟨?_,?_,?_,?_,?_,by have:=M.fl;simp only[AH.new];omega⟩,by simp[NM.up]⟩
 ·intro n hn';unfold NM.up;rw[if_neg (fun e=>hn' (by subst e;simp[AH.new]))]
 ·intro n b r' e1 e2;rcases up n b r' e2 with ⟨_,rfl,_⟩|⟨_,e⟩
  ·exact .inl (Nat.le_refl _)
  ·rw[e1]at e;cases e
 ·intro n o1 hlt e;rw[zN8 hlt]at e;exact⟨o1,e⟩
 ·intro n hlt;simp only[AH.new,Tr.get_set];rw[if_neg (by have:=M.fl;omega)]
 ·intro n hlt _;simp only[AH.new,Tr.get_set];rw[if_neg (by omega)]
 ·intro b hb _;exact hg.block b hb (by simp)
 ·intro n b r' e;rcases up n b r' e with ⟨_,rfl,_⟩|⟨_,e⟩
  ·exact hsz
  ·exact Nat.lt_of_lt_of_le (M.lt n b r' e) hg.size
 ·intro n1 n2 o1 o2 b r1 r2 h1 h2 e1 e2;rcases up n1 b r1 e1 with ⟨a1,a2,_⟩|⟨a1,a2⟩<;>rcases up n2 b r2 e2 with ⟨c1,c2,_⟩|⟨c1,c2⟩
  ·rw[a1,c1]
  ·have:=M.lt n2 b r2 c2;omega
  ·have:=M.lt n1 b r1 a2;omega
  ·rcases zFw h1 with ⟨x,_⟩|⟨_,h1⟩
   ·exact absurd x a1
   ·rcases zFw h2 with ⟨x,_⟩|⟨_,h2⟩
    ·exact absurd x c1
    ·exact M.inj n1 n2 o1 o2 b r1 r2 h1 h2 a2 c2
 ·intro n o1 e;rcases zFw e with ⟨rfl,rfl⟩|⟨hne,e⟩
  ·exact⟨w.heap.size,r,o',by simp[NM.up],hn,ho.mono mono⟩
  ·obtain⟨b,r',o2,h1,h2,h3⟩:=M.obj n o1 e;exact⟨b,r',o2,mono _ _ h1,(hg.block b (M.lt n b r' h1) (by simp)).trans h2,h3.mono mono⟩
 ·intro g hgg;exact mono _ _ (M.glob g hgg)
 ·intro n o1 e;rcases zFw e with ⟨rfl,_⟩|⟨_,e⟩
  ·simp[AH.new]
  ·have:=M.dom n o1 e;simp[AH.new];omega
theorem zCo {w':World} (M:MT G m h w) {n b:Nat} {o0 o:AObj} {r:Option (Nat × Nat)} {o':Obj} (hg:h.get n=some o0) (hf:h.floor<=n) (hm:m n=some (b,r)) (hw:w.grownBy w' (some b)) (hn:w'.heap[b]?=some o') (ho:OR m o r o') :
  EX m h w m (h.put n o) w'/\MT G m (h.put n o) w':=by
 have gp:∀ j o1,(h.put n o).get j=some o1->(j=n/\o1=o)\/(j≠n/\h.get j=some o1):=by
  intro j o1 e;rw[AH.get_put _ _ _ _ hg]at e;split at e
  ·cases e;exact .inl ⟨by assumption,rfl⟩
  ·exact .inr ⟨by assumption,e⟩
 have gl:∀ j o1,(h.put n o).get j=some o1->∃ o2,h.get j=some o2:=by
  intro j o1 e;rcases gp j o1 e with ⟨rfl,_⟩|⟨_,e⟩
  ·exact⟨o0,hg⟩
  ·exact⟨o1,e⟩
 refine⟨⟨fun _ _ e=>e,fun _ _=>rfl,fun n b r e1 e2=>(by rw[e1]at e2;cases e2),Nat.le_refl _,rfl,rfl,fun j o1 _ e=>gl j o1 e,?_,?_,hw.os,hw.tape,hw.output,hw.size,?_⟩,⟨?_,?_,?_,M.glob,?_,M.fl⟩⟩
 ·intro j hj;simp only[AH.put,Tr.get_set];rw[if_neg (by omega)]
 ·intro j _ hj;simp only[AH.put,Tr.get_set];rw[if_neg (fun e=>by rw[e,AH.get_hid hg]at hj;cases hj)]
 ·intro c hc hno;refine hw.block c hc (fun e=>?_)
  cases e
  exact hno n o0 r hf hg hm
 ·intro j c r' e;exact Nat.lt_of_lt_of_le (M.lt j c r' e) hw.size
 ·intro n1 n2 o1 o2 c r1 r2 h1 h2 e1 e2;obtain⟨p1,h1⟩:=gl _ _ h1;obtain⟨p2,h2⟩:=gl _ _ h2;exact M.inj n1 n2 p1 p2 c r1 r2 h1 h2 e1 e2
 ·intro j o1 e;rcases gp j o1 e with ⟨rfl,rfl⟩|⟨hne,e⟩
  ·exact⟨b,r,o',hm,hn,ho⟩
  ·obtain⟨c,r',o2,h1,h2,h3⟩:=M.obj j o1 e;refine⟨c,r',o2,h1,(hw.block c (M.lt j c r' h1) (fun ec=>?_)).trans h2,h3⟩
   cases ec
   exact hne (M.inj j n o1 o0 b r' r e hg h1 hm)
 ·intro j o1 e;obtain⟨o2,e⟩:=gl _ _ e;exact M.dom j o2 e
theorem zOQ {w':World} (M:MT G m h w) (F:FreeN m h.next (h.next+1)) {n b b2:Nat} {o0 o:AObj} {r r2:Option (Nat × Nat)} {o':Obj} (hg:h.get n=some o0) (hf:h.floor<=n) (hm:m n=some (b,r)) (hw:w.grownBy w' (some b)) (hb2:b2=b\/b2=w.heap.size) (hn:w'.heap[b2]?=some o') (ho:OR m o r2 o') :
  EX m h w (m.up h.next (b2,r2)) ((h.drop n).new o) w'/\MT G (m.up h.next (b2,r2)) ((h.drop n).new o) w'/\(m.up h.next (b2,r2)) h.next=some (b2,r2):=by
 have hN:m h.next=none:=F h.next (Nat.le_refl _) (Nat.lt_succ_self _);have hnl:=M.dom n o0 hg;have mono:∀ k x,m k=some x->(m.up h.next (b2,r2)) k=some x:=by
  intro k x e;unfold NM.up;rw[if_neg (fun e'=>by rw[e',hN]at e;cases e)]
  exact e
 have up:∀ k c r',(m.up h.next (b2,r2)) k=some (c,r')->(k=h.next/\c=b2/\r'=r2)\/(k≠h.next/\m k=some (c,r')):=by
  intro k c r' e;unfold NM.up at e;split at e
  ·rename_i hn;cases e;exact .inl ⟨hn,rfl,rfl⟩
  ·rename_i hn;exact .inr ⟨hn,e⟩
 have gn:∀ k o1,((h.drop n).new o).get k=some o1->(k=h.next/\o1=o)\/(k≠h.next/\k≠n/\h.get k=some o1):=by
  intro k o1 e;rcases zFw e with ⟨e1,e2⟩|⟨e1,e2⟩
  ·exact .inl ⟨e1,e2⟩
  ·rw[AH.get_drop]at e2;split at e2
   ·cases e2
   ·exact .inr ⟨e1,by assumption,e2⟩
 have hb:=M.lt n b r hm;have hsz:b2<w'.heap.size:=(Array.getElem?_eq_some_iff.1 hn).1;have nob:∀ k o1 r',k≠n->h.get k=some o1->m k≠some (b,r'):=fun k o1 r' hk hg1 e=>hk (M.inj k n o1 o0 b r' r hg1 hg e hm)
 refine⟨⟨mono,?_,?_,Nat.le_succ _,rfl,rfl,?_,?_,?_,hw.os,hw.tape,hw.output,hw.size,?_⟩,⟨?_,?_,?_,?_,?_,by have:=M.fl;simp only[AH.new,AH.drop];omega⟩,by simp[NM.up]⟩
 ·intro k hk;unfold NM.up;rw[if_neg (fun e=>hk (by subst e;simp[AH.new,AH.drop]))]
 ·intro k c r' e1 e2;rcases up k c r' e2 with ⟨_,rfl,_⟩|⟨_,e⟩
  ·rcases hb2 with rfl|rfl
   ·exact .inr ⟨n,o0,r,hf,hg,hm⟩
   ·exact .inl (Nat.le_refl _)
  ·rw[e1]at e;cases e
 ·intro k o1 hlt e;rcases gn k o1 e with ⟨rfl,_⟩|⟨_,_,e⟩
  ·omega
  ·exact⟨o1,e⟩
 ·intro k hlt;simp only[AH.new,AH.drop,Tr.get_set];rw[if_neg (by have:=M.fl;omega),if_neg (by omega)]
 ·intro k hlt hh;simp only[AH.new,AH.drop,Tr.get_set];rw[if_neg (by omega),if_neg (fun e=>by rw[e,AH.get_hid hg]at hh;cases hh)]
 ·intro c hc hno;exact hw.block c hc (fun e=>by cases e;exact hno n o0 r hf hg hm)
 ·intro k c r' e;rcases up k c r' e with ⟨_,rfl,_⟩|⟨_,e⟩
  ·exact hsz
  ·exact Nat.lt_of_lt_of_le (M.lt k c r' e) hw.size
 ·intro n1 n2 o1 o2 c r1 r3 h1 h2 e1 e2;rcases gn n1 o1 h1 with ⟨a1,_⟩|⟨a1,a1',a2⟩<;>rcases gn n2 o2 h2 with ⟨c1,_⟩|⟨c1,c1',c2⟩
  ·rw[a1,c1]
  ·rcases up n1 c r1 e1 with ⟨_,rfl,_⟩|⟨x,_⟩
   ·rcases up n2 c r3 e2 with ⟨x,_⟩|⟨_,y⟩
    ·exact absurd x c1
    ·rcases hb2 with rfl|rfl
     ·exact absurd y (nob n2 o2 r3 c1' c2)
     ·have:=M.lt n2 _ r3 y;omega
   ·exact absurd a1 x
  ·rcases up n2 c r3 e2 with ⟨_,rfl,_⟩|⟨x,_⟩
   ·rcases up n1 c r1 e1 with ⟨x,_⟩|⟨_,y⟩
    ·exact absurd x a1
    ·rcases hb2 with rfl|rfl
     ·exact absurd y (nob n1 o1 r1 a1' a2)
     ·have:=M.lt n1 _ r1 y;omega
   ·exact absurd c1 x
  ·rcases up n1 c r1 e1 with ⟨x,_⟩|⟨_,y⟩
   ·exact absurd x a1
   ·rcases up n2 c r3 e2 with ⟨x,_⟩|⟨_,z⟩
    ·exact absurd x c1
    ·exact M.inj n1 n2 o1 o2 c r1 r3 a2 c2 y z
 ·intro k o1 e;rcases gn k o1 e with ⟨rfl,rfl⟩|⟨_,hne,e⟩
  ·exact⟨b2,r2,o',by simp[NM.up],hn,ho.mono mono⟩
  ·obtain⟨c,r',o2,h1,h2,h3⟩:=M.obj k o1 e;refine⟨c,r',o2,mono _ _ h1,(hw.block c (M.lt k c r' h1) (fun ec=>?_)).trans h2,h3.mono mono⟩
   cases ec
   exact nob k o1 r' hne e h1
 ·intro g hgg;exact mono _ _ (M.glob g hgg)
 ·intro k o1 e;rcases gn k o1 e with ⟨rfl,_⟩|⟨_,_,e⟩
  ·simp[AH.new,AH.drop]
  ·have:=M.dom k o1 e;simp[AH.new,AH.drop];omega
theorem zAS {t:List Value} {a:Act} (M:MT G m h w) (T:LR m t a.tmps.toList) {x:Operand} {v:Value} (e:aev G t x=some v):VR m v (a.eval x):=by
 cases x with
 | tmp i =>
  simp only[aev,Option.some.injEq]at e;subst e;have:=T.nth i;rw[zHY a.tmps.toList]at this
  simpa [Act.eval] using this
 | const c =>
  simp only[aev]at e
  cases hp:plain c
  ·rw[hp]at e;simp at e
  ·rw[hp]at e;simp at e;subst e;exact zBq hp
 | global g =>
  simp only[aev]at e
  cases hp:Nat.blt g G
  ·rw[hp]at e;simp at e
  ·rw[hp]at e;simp at e;subst e;exact .ptr (M.glob g (by simpa using hp))
 | func f =>
  simp only[aev,Option.some.injEq]at e;subst e;exact .func f rfl rfl (fun i u u' h=>by simp at h) (fun i u u' h=>by simp at h)
theorem zD7 {t:List Value} {a:Act} (M:MT G m h w) (T:LR m t a.tmps.toList):∀ {l:List Operand} {vs:List Value},aevs G t l=some vs->LR m vs (l.map a.eval)
 | [],vs,e=>by simp[aevs]at e;subst e;exact .nil
 | x::r,vs,e=>by
  simp only[aevs]at e;split at e
  ·cases e
  ·rename_i v hv;split at e
   ·cases e
   ·rename_i l hl;simp at e;subst e;exact .cons (zAS M T hv) (zD7 M T hl)
inductive PR (m:NM):List (Nat × Value)->List (Nat × Value)->Prop
 | nil:PR m [] []
 | cons {i:Nat} {v v':Value} {l l':List (Nat × Value)} (h:VR m v v') (t:PR m l l'):PR m ((i,v)::l) ((i,v')::l')
theorem zIq {t:List Value} {a:Act} (M:MT G m h w) (T:LR m t a.tmps.toList):∀ {l:List (Nat × Operand)} {vs:List (Nat × Value)},aevp G t l=some vs->PR m vs (l.map fun (i,x)=>(i,a.eval x))
 | [],vs,e=>by simp[aevp]at e;subst e;exact .nil
 | (i,x)::r,vs,e=>by
  simp only[aevp]at e;split at e
  ·cases e
  ·rename_i v hv;split at e
   ·cases e
   ·rename_i l hl;simp at e;subst e;exact .cons (zAS M T hv) (zIq M T hl)
theorem zCL {α:Type} {P:Program}:∀ (s:Sem α) {x:α},zBs P s=some x->∀ w:World,s.run P w=.ok x w
 | .pure a,x,e,w=>by simp[zBs]at e;subst e;rfl
 | .program k,x,e,w=>by simpa [Sem.run] using zCL (k P) (by simpa [zBs] using e) w
 | .mark _ k,x,e,w=>by simpa [Sem.run] using zCL k (by simpa [zBs] using e) w
 | .load _ _ _,x,e,w=>by simp[zBs]at e
 | .store _ _ _ _,x,e,w=>by simp[zBs]at e
 | .new _ _,x,e,w=>by simp[zBs]at e
 | .shape _ _,x,e,w=>by simp[zBs]at e
 | .freeze _ _ _,x,e,w=>by simp[zBs]at e
 | .frozen _ _,x,e,w=>by simp[zBs]at e
 | .getObj _ _,x,e,w=>by simp[zBs]at e
 | .setObj _ _ _,x,e,w=>by simp[zBs]at e
 | .choose _ _,x,e,w=>by simp[zBs]at e
 | .sys _ _,x,e,w=>by simp[zBs]at e
 | .halt _,x,e,w=>by simp[zBs]at e
def OpD (P:Program) (G:Nat) (O:Orc) (o:Oper) (t:List Value) (h:AH) (v:Value) (h':AH):Prop :=
 Keep h h'/\∀ (m:NM) (w:World) (a:Act),MT G m h w->FreeN m h.next h'.next->LR m t a.tmps.toList ->
  ∃ m' v' w' x,(execOp a.eval o).run P w=.ok x w'/\(x=.value v'\/(x=.skip/\v'=undef))/\EX m h w m' h' w'/\MT G m' h' w'/\VR m' v v'
end
section
variable {P:Program} {G:Nat} {O:Orc} {o:Oper} {t:List Value} {h h':AH} {v:Value}
theorem OpD.same (k:∀ (m:NM) (w:World) (a:Act),MT G m h w->LR m t a.tmps.toList->∃ v',(execOp a.eval o).run P w=.ok (.value v') w/\VR m v v'):OpD P G O o t h v h :=
 ⟨Keep.refl _,fun m w a M F T=>let ⟨v',e,r⟩:=k m w a M T;⟨m,v',w,_,e,.inl rfl,EX.refl _ _ _,M,r⟩⟩
theorem OpD.new {ob:AObj} {mkv:Nat->Value} (k:∀ (m:NM) (w:World) (a:Act),MT G m h w->LR m t a.tmps.toList->∃ (o':Obj) (r:Option (Nat × Nat)) (mv':Nat->Value) (w':World),(execOp a.eval o).run P w=.ok (.value (mv' w.heap.size)) w'/\w.grownBy w' none/\w'.heap[w.heap.size]?=some o'/\OR m ob r o'/\∀ (m':NM) (b n:Nat),m' n=some (b,r)->VR m' (mkv n) (mv' b)):OpD P G O o t h (mkv h.next) (h.new ob) :=
 ⟨Keep.new _ _,fun m w a M F T=>by
  obtain⟨o',r,mv',w',e,hg,hn,ho,hv⟩:=k m w a M T;obtain⟨h1,h2,h3,h4⟩:=zEk M F hg hn ho
  exact⟨_,_,_,_,e,.inl rfl,h2,h3,hv _ _ _ h4⟩⟩
theorem zMS {x:Operand} (ho:o.op=.move x\/o.op=.assign x) (e:aev G t x=some v):OpD P G O o t h v h :=
 .same fun m w a M T=>⟨_,by unfold execOp;rcases ho with ho|ho<;>simp[ho],zAS M T e⟩
theorem zL3 {c x y:Operand} {b:Bool} (ho:o.op=.pick c x y) (hc:aev G t c=some (.bool b)) (e:aev G t (if b then x else y)=some v):OpD P G O o t h v h :=
 .same fun m w a M T=>by
  have h1:=zAS M T hc;have h2:a.eval c=.bool b:=by generalize a.eval c=q at h1;cases h1;rfl
  refine⟨_,?_,zAS M T e⟩;unfold execOp
  cases b<;>simp[ho,h2,asBool]
theorem zBn (w:World) (o:Obj):w.grownBy (w.alloc o) none:=World.grownBy_alloc w _ none
theorem zN1 {T:TypeId} {i:TypeInfo} {z:Value} (ho:o.op=.alloc T) (hi:P.info? T=some i) (hz:i.zero=some z) (hp:plain z=true):OpD P G O o t h (ptrN h.next) (h.new (.o (.cells z.cells T))) :=
 .new (mkv:=ptrN) fun m w a M T'=>⟨.cells z.cells T,none,ptrN,w.alloc (.cells z.cells T),by unfold execOp;simp[ho,Instr.alloc,zeroValue,typeInfo,hi,hz,newVar,newRow];rfl,zBn _ _,World.alloc_heap_new w _,.cells (zCc hp),fun m' b n e=>.ptr e⟩
theorem zQV {T:TypeId} {x:Operand} {u:Value} (ho:o.op=.box T x) (e:aev G t x=some u):OpD P G O o t h (ptrN h.next) (h.new (.o (.cells u.cells T))) :=
 .new (mkv:=ptrN) fun m w a M T'=>⟨.cells (a.eval x).cells T,none,ptrN,w.alloc (.cells (a.eval x).cells T),by unfold execOp;simp[ho,Instr.box,newVar,newRow];rfl,zBn _ _,World.alloc_heap_new w _,.cells (zAS M T' e).cells,fun m' b n e=>.ptr e⟩
end
end
end Go.Proofs.YtphjgfjbiimkjaaGreat
