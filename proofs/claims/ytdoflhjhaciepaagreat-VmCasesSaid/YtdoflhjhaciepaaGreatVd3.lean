/-
  Laws of walks, and walks.
-/
import Derived.Test.YtdoflhjhaciepaaGreatVd2
import Derived.Test.YtdoflhjhaciepaaGreatVd1
set_option linter.unusedVariables false
set_option linter.unusedSimpArgs false
set_option maxRecDepth 100000
set_option maxHeartbeats 16000000
namespace Go.Proofs.YtdoflhjhaciepaaGreat
section
open Go.RowKit
structure NodeD where
 kind:Int
 set:Nat→Nat:=zAE
 lo:Int:=0
 hi:Int:=0
 lazy:Bool:=false
 group:Int:=0
inductive Tree where
 | mk (d:NodeD) (kids:List Tree)
def Tree.d:Tree→NodeD|.mk d _=>d
def Tree.kids:Tree→List Tree|.mk _ k=>k
mutual
def zAT:Tree→Nat
 | .mk _ ks=>1+zAK ks
def zAK:List Tree→Nat
 | []=>0
 | t::r=>zAT t+zAK r
end
mutual
def zF5:Tree→Nat
 | .mk _ ks=>zB1 ks+1
def zB1:List Tree→Nat
 | []=>0
 | t::r=>max (zF5 t) (zB1 r)
end
theorem zG4 (t:Tree):zAT t=1+zAK t.kids:=by cases t;simp[zAT,Tree.kids]
theorem zBL (t:Tree):0<zAT t:=by rw[zG4];omega
theorem zAe:∀ (a b:List Tree),zAK (a++b)=zAK a+zAK b
 | [],b=>by simp[zAK]
 | t::r,b=>by simp only[List.cons_append,zAK];rw[zAe r b];omega
theorem zFY:∀ (a b:List Tree),zB1 (a++b)=max (zB1 a) (zB1 b)
 | [],b=>by simp[zB1]
 | t::r,b=>by simp only[List.cons_append,zB1];rw[zFY r b];omega
theorem zBT (t:Tree):zAK [t]=zAT t:=by simp[zAK]
theorem zLt (t:Tree):zB1 [t]=zF5 t:=by simp[zB1]
theorem zCn {α:Type} {l:List α} {i:Nat} {x:α} (h:l[i]?=some x):l.take (i+1)=l.take i++[x]:=by
 rw[List.take_add_one,h];rfl
theorem zHU {ts:List Tree} {i:Nat} {t:Tree} (h:ts[i]?=some t):zAK (ts.take (i+1))=zAK (ts.take i)+zAT t:=by
 rw[zCn h,zAe,zBT]
theorem zKM {ts:List Tree} {i:Nat} {t:Tree} (h:ts[i]?=some t):zB1 (ts.take (i+1))=max (zB1 (ts.take i)) (zF5 t):=by
 rw[zCn h,zFY,zLt]
theorem zE2 {ts:List Tree} {i:Nat} {t:Tree} (h:ts[i]?=some t):zAK (ts.take i)+zAT t≤zAK ts:=by
 rw[← zHU h]
 conv=>rhs;rw[← List.take_append_drop (i+1) ts,zAe]
 omega
theorem zDE:∀ ts:List Tree,ts.length≤zAK ts
 | []=>by simp
 | t::r=>by have:=zDE r;have:=zBL t;simp only[List.length_cons,zAK];omega
mutual
theorem zJk:∀ t:Tree,zF5 t≤zAT t
 | .mk d ks=>by have:=zGC ks;simp only[zF5,zAT];omega
theorem zGC:∀ ts:List Tree,zB1 ts≤zAK ts
 | []=>by simp[zB1]
 | t::r=>by have:=zJk t;have:=zGC r;simp only[zB1,zAK];omega
end
def zAU (d:NodeD) (s:Value):Array Value:=#[.int .i64 d.kind,.int .u64 (d.set 0),.int .u64 (d.set 1),.int .u64 (d.set 2),.int .u64 (d.set 3),s,.int .i64 d.lo,.int .i64 d.hi,.bool d.lazy,.int .i64 d.group]
theorem ng0 (d:NodeD) (s:Value):(zAU d s)[0]?=some (.int .i64 d.kind):=rfl
theorem ng1 (d:NodeD) (s:Value):(zAU d s)[1]?=some (.int .u64 (d.set 0)):=rfl
theorem ng2 (d:NodeD) (s:Value):(zAU d s)[2]?=some (.int .u64 (d.set 1)):=rfl
theorem ng3 (d:NodeD) (s:Value):(zAU d s)[3]?=some (.int .u64 (d.set 2)):=rfl
theorem ng4 (d:NodeD) (s:Value):(zAU d s)[4]?=some (.int .u64 (d.set 3)):=rfl
theorem ng5 (d:NodeD) (s:Value):(zAU d s)[5]?=some s:=rfl
theorem ng6 (d:NodeD) (s:Value):(zAU d s)[6]?=some (.int .i64 d.lo):=rfl
theorem ng7 (d:NodeD) (s:Value):(zAU d s)[7]?=some (.int .i64 d.hi):=rfl
theorem ng8 (d:NodeD) (s:Value):(zAU d s)[8]?=some (.bool d.lazy):=rfl
theorem ng9 (d:NodeD) (s:Value):(zAU d s)[9]?=some (.int .i64 d.group):=rfl
abbrev zAc (d:NodeD) (s:Value):Value:=.agg (zAU d s)
abbrev nilS:Value:=.slice none 0 0
abbrev TV:=Tree × Option Addr × Nat
abbrev zAy (x:TV):Array Value:=zAU x.1.d (.slice x.2.1 x.1.kids.length x.2.2)
theorem zAz (x:TV):(zAy x).size=10:=rfl
theorem zCH (xs:List TV):∀ r ∈ xs.map zAy,r.size=10:=by
 intro r hr;obtain⟨x,_,rfl⟩:=List.mem_map.1 hr;rfl
inductive ForestR (W:World) (F:Nat→Prop):Option Addr→Nat→List Tree→Prop where
 | mk (p:Option Addr) (c:Nat) (ts:List Tree) (xs:List TV) (h:RdN 10 W F (.slice p ts.length c) (xs.map zAy)) (hk:∀ x ∈ xs,ForestR W F x.2.1 x.2.2 x.1.kids) (e:ts=xs.map (·.1)):ForestR W F p c ts
theorem ForestR.kept {W V:World} {F:Nat→Prop} {p:Option Addr} {c:Nat} {ts:List Tree} (h:ForestR W F p c ts) (hk:∀ b,F b→V.heap[b]?=W.heap[b]?):ForestR V F p c ts:=by
 induction h with
 | mk p c ts xs h _ e ih=>exact .mk p c ts xs (h.kept hk) ih e
theorem ForestR.mono {W:World} {F G:Nat→Prop} {p:Option Addr} {c:Nat} {ts:List Tree} (h:ForestR W F p c ts) (hFG:∀ b,F b→G b):ForestR W G p c ts:=by
 induction h with
 | mk p c ts xs h _ e ih=>exact .mk p c ts xs (h.mono hFG) ih e
theorem ForestR.nil (W:World) (F:Nat→Prop) (p:Option Addr):ForestR W F p 0 []:=.mk _ _ _ [] (RdN.nil ..) (fun _ h=>by cases h) rfl
def ListR (W:World) (F:Nat→Prop) (xs:List TV):Prop:=∀ x ∈ xs,ForestR W F x.2.1 x.2.2 x.1.kids
theorem ListR.kept {W V:World} {F:Nat→Prop} {xs:List TV} (h:ListR W F xs) (hk:∀ b,F b→V.heap[b]?=W.heap[b]?):ListR V F xs:=fun x hx=>(h x hx).kept hk
theorem ListR.append {W:World} {F:Nat→Prop} {xs ys:List TV} (h:ListR W F xs) (k:ListR W F ys):ListR W F (xs++ys):=fun x hx=>(List.mem_append.1 hx).elim (h x) (k x)
theorem ListR.nil (W:World) (F:Nat→Prop):ListR W F []:=fun _ h=>by cases h
theorem ListR.one {W:World} {F:Nat→Prop} {t:Tree} {p:Option Addr} {c:Nat} (h:ForestR W F p c t.kids):ListR W F [(t,p,c)]:=fun x hx=>by
 rw[List.mem_singleton]at hx;subst hx;exact h
theorem ForestR.open {W:World} {F:Nat→Prop} {p:Option Addr} {c:Nat} {ts:List Tree} (h:ForestR W F p c ts):∃ xs:List TV,RdN 10 W F (.slice p xs.length c) (xs.map zAy)∧ListR W F xs∧ts=xs.map (·.1):=by
 cases h with
 | mk p c ts xs h hk e =>
  have hl:ts.length=xs.length:=by rw[e,List.length_map]
  rw[hl]at h;exact⟨xs,h,hk,e⟩
def zCP (w:World) (G:Nat→Prop) (t:Tree) (e:Ending) (w':World):Prop :=
 ∃ p c F,e=.returned (zAc t.d (.slice p t.kids.length c))∧ForestR w' F p c t.kids∧∀ b,F b→b<w'.heap.size∧(w.heap.size≤b∨G b)
def zCu (s:Nat→Nat):Nat→(Nat→Nat)
 | 0=>s
 | n+1=>if hasB s (97+n) || hasB s (65+n) then addS (addS (zCu s n) (97+n)) (65+n) else zCu s n
def zOM (s:Nat→Nat):Nat→Nat:=zCu s 26
theorem zEd {s:Nat→Nat} (hs:zAW s):∀ n,zAW (zCu s n)
 | 0=>hs
 | n+1=>by
  unfold zCu;split
  ·exact zEj (zEj (zEd hs n) _) _
  ·exact zEd hs n
abbrev zBB:=Bool × Bool × Bool
def zFC (f:zBB):Array Value:=#[.bool f.1,.bool f.2.1,.bool f.2.2]
abbrev zC0 (f:zBB):Value:=.agg (zFC f)
theorem fg0 (f:zBB):(zFC f)[0]?=some (.bool f.1):=rfl
theorem fg1 (f:zBB):(zFC f)[1]?=some (.bool f.2.1):=rfl
theorem fg2 (f:zBB):(zFC f)[2]?=some (.bool f.2.2):=rfl
def zB6 (k:Int):Tree:=.mk {kind:=k} []
def rowT (k:Int) (ts:List Tree):Tree:=match ts with
 | []=>zB6 1
 | [t]=>t
 | _=>.mk {kind:=k} ts
def zHE (f:zBB) (w:WordD):zBB:=((f.1 || w.on.1)&&!w.off.1,(f.2.1 || w.on.2.1)&&!w.off.2.1,(f.2.2 || w.on.2.2)&&!w.off.2.2)
def setT (s:Nat→Nat):Tree:=if eqS s zAE then zB6 2 else .mk {kind:=3,set:=s} []
def spotT (f:zBB) (a b:Int):Tree:=zB6 (if f.2.1 then b else a)
def zFK (w:WordD) (f:zBB):Tree :=
 if w.kind=1 then
  let s:=if f.1 then zOM w.set else w.set
  setT (if w.neg then notS s else s)
 else if w.kind=2 then (if f.2.2 then setT (zAs 0 256) else setT (notS (ofS [10])))
 else if w.kind=3 then spotT f 8 10
 else if w.kind=4 then spotT f 9 11
 else zB6 w.spot
def zBF (w:WordD):Bool:=w.kind == 6 || w.kind == 7
def repT (w:WordD) (t:Tree):Tree:=.mk {kind:=6,lo:=w.lo,hi:=w.hi,lazy:=w.lazy} [t]
def zHW (k:Nat) (t:Tree):Tree:=.mk {kind:=7,group:=k} [t]
def zAt:Nat→zBB→List WordD→Nat→List Tree→List Tree→Option (Tree × List WordD × Nat)
 | 0,_,_,_,_,_=>none
 | _+1,_,[],g,all,items=>some (rowT 5 (all++[rowT 4 items]),[],g)
 | n+1,f,w::r,g,all,items =>
  if w.kind=9 then some (rowT 5 (all++[rowT 4 items]),w::r,g)
  else if w.kind=8 then zAt n (zHE f w) r g all items
  else if w.kind=10 then zAt n f r g (all++[rowT 4 items]) []
  else if w.kind=11 then
   match items.getLast? with
   | none=>none
   | some last=>zAt n f r g all (items.dropLast++[repT w last])
  else if w.kind=7 then
   match zAt n (zHE f w) r g [] [] with
   | some (t,_::r',g')=>zAt n f r' g' all (items++[t])
   | _=>none
  else if w.kind=6 then
   match zAt n f r (g+1) [] [] with
   | some (t,_::r',g')=>zAt n f r' g' all (items++[zHW (g+1) t])
   | _=>none
  else zAt n f r g all (items++[zFK w f])
def zBJ:Bool→List Nat→List WordD→Option Nat
 | _,open_,[]=>open_.getLast?
 | bare,open_,w::r =>
  if w.kind=11∧bare=true∨w.kind=9∧open_=[] then some w.place
  else
   let o:=if zBF w then open_++[w.place] else open_
   zBJ (zBF w || w.kind == 8 || w.kind == 10 || w.kind == 11) (if w.kind=9 then o.dropLast else o) r
def zDb (l:List WordD):Option Nat:=zBJ true [] l
def zIv (w:WordD):Bool:=zBF w || w.kind == 8 || w.kind == 10 || w.kind == 11
def zC5 (ws:List WordD):Nat→Bool
 | 0=>true
 | j+1=>match ws[j]? with|some w=>zIv w|none=>true
theorem zD6 {ws:List WordD} {j:Nat} {w:WordD} (h:ws[j]?=some w):zC5 ws (j+1)=zIv w:=by simp[zC5,h]
theorem zEV {α:Type} {ws:List α} {j:Nat} {w:α} (h:ws[j]?=some w):ws.drop j=w::ws.drop (j+1):=by
 obtain⟨hlt,rfl⟩:=List.getElem?_eq_some_iff.1 h;exact List.drop_eq_getElem_cons hlt
theorem zJY {bare:Bool} {op:List Nat} {ws:List WordD} {j:Nat} {w:WordD} (h:ws[j]?=some w) (hc:w.kind=11∧bare=true∨w.kind=9∧op=[]):zBJ bare op (ws.drop j)=some w.place:=by
 rw[zEV h,zBJ,if_pos hc]
theorem zLK {bare:Bool} {op:List Nat} {ws:List WordD} {j:Nat} {w:WordD} (h:ws[j]?=some w) (hc:¬ (w.kind=11∧bare=true∨w.kind=9∧op=[])) (ho:zBF w=false) (h9:w.kind≠9) :
  zBJ bare op (ws.drop j)=zBJ (zC5 ws (j+1)) op (ws.drop (j+1)):=by
 rw[zEV h,zBJ,if_neg hc,zD6 h];simp[ho,h9,zIv]
theorem zMf {bare:Bool} {op:List Nat} {ws:List WordD} {j:Nat} {w:WordD} (h:ws[j]?=some w) (ho:zBF w=true):zBJ bare op (ws.drop j)=zBJ (zC5 ws (j+1)) (op++[w.place]) (ws.drop (j+1)):=by
 have hk:w.kind=6∨w.kind=7:=by simpa [zBF] using ho
 rw[zEV h,zBJ,if_neg (by omega),zD6 h]
 have h9:w.kind≠9:=by omega
 simp[ho,h9,zIv]
theorem zKL {bare:Bool} {op:List Nat} {ws:List WordD} {j:Nat} {w:WordD} (h:ws[j]?=some w) (h9:w.kind=9) (hne:op≠[]):zBJ bare op (ws.drop j)=zBJ (zC5 ws (j+1)) op.dropLast (ws.drop (j+1)):=by
 have ho:zBF w=false:=by simp[zBF,h9]
 rw[zEV h,zBJ,if_neg (by simp[h9,hne]),zD6 h]
 simp[ho,h9,zIv]
theorem zNy {bare:Bool} {op:List Nat} {ws:List WordD} {j:Nat} (h:ws.length≤j):zBJ bare op (ws.drop j)=op.getLast?:=by
 rw[List.drop_eq_nil_of_le h,zBJ]
end
section
open Go.RowKit Go.Shelf
theorem zAH:oneB Tryz.prog 3=true:=by kernel_rfl
theorem zB0:oneB Tryz.prog 5=true:=by kernel_rfl
theorem zEE:oneB Tryz.prog 4=true:=by kernel_rfl
theorem zIY:oneB Tryz.prog 9=true:=by kernel_rfl
theorem zAd:oneB Tryz.prog 41=true:=by kernel_rfl
theorem zBY:rowB Tryz.prog 40 4=true:=by kernel_rfl
theorem zBk:rowB Tryz.prog 226 17=true:=by kernel_rfl
theorem zSet:zCG Tryz.prog 40=setC zAE:=by kernel_rfl
theorem zRw:zCG Tryz.prog 226=zBV {kind:=0,place:=0}:=by kernel_rfl
theorem zDZ:oneB Tryz.prog 85=true:=by kernel_rfl
theorem zE5:oneB Tryz.prog 132=true:=by kernel_rfl
theorem zBC:oneB Tryz.prog 37=true:=by kernel_rfl
theorem zBc:oneB Tryz.prog 27=true:=by kernel_rfl
theorem zB7:oneB Tryz.prog 22=true:=by kernel_rfl
theorem zHM:oneB Tryz.prog 108=true:=by kernel_rfl
theorem zBI:oneB Tryz.prog 23=true:=by kernel_rfl
theorem zAR:rowB Tryz.prog 87 10=true:=by kernel_rfl
theorem zD3:rowB Tryz.prog 92 3=true:=by kernel_rfl
theorem zSh:zCG Tryz.prog 87=zAU {kind:=0} nilS:=by kernel_rfl
theorem zRz:zCG Tryz.prog 92=zFC (false,false,false):=by kernel_rfl
theorem zInt:zCG Tryz.prog 3=#[.int .i64 0]:=by kernel_rfl
theorem zRx:zCG Tryz.prog 88=#[.int .i64 0]:=by kernel_rfl
theorem nrm:zCG Tryz.prog 40=setC zAE∧zCG Tryz.prog 226=zBV {kind:=0,place:=0}∧zCG Tryz.prog 87=zAU {kind:=0} nilS∧zCG Tryz.prog 92=zFC (false,false,false)∧zCG Tryz.prog 3=#[.int .i64 0]∧zCG Tryz.prog 88=#[.int .i64 0]:=⟨zSet,zRw,zSh,zRz,zInt,zRx⟩
theorem nrl {α:Type}:(∀ (a:α) (l r:List α),a::l++r=a::(l++r))∧(∀ l:List α,[]++l=l)∧(∀ l:List α,l++[]=l)∧(∀ (a b:α) (l:List α),(a::l).set 0 b=b::l)∧(∀ (a b:α) (l:List α) (n:Nat),(a::l).set (n+1) b=a::l.set n b)∧∀ (a:α) (l:List α) (n:Nat),l.toArray.setIfInBounds n a=(l.set n a).toArray :=
 ⟨fun _ _ _=>rfl,fun _=>rfl,List.append_nil,fun _ _ _=>rfl,fun _ _ _ _=>rfl,fun _ _ _=>List.setIfInBounds_toArray ..⟩
theorem nr:(zCG Tryz.prog 40=setC zAE∧zCG Tryz.prog 226=zBV {kind:=0,place:=0}∧zCG Tryz.prog 87=zAU {kind:=0} nilS∧zCG Tryz.prog 92=zFC (false,false,false)∧zCG Tryz.prog 3=#[.int .i64 0]∧zCG Tryz.prog 88=#[.int .i64 0])∧(∀ {α:Type},(∀ (a:α) (l r:List α),a::l++r=a::(l++r))∧(∀ l:List α,[]++l=l)∧(∀ l:List α,l++[]=l)∧(∀ (a b:α) (l:List α),(a::l).set 0 b=b::l)∧(∀ (a b:α) (l:List α) (n:Nat),(a::l).set (n+1) b=a::l.set n b)∧∀ (a:α) (l:List α) (n:Nat),l.toArray.setIfInBounds n a=(l.set n a).toArray)∧(∀ (k:IntKind) (n:Int),(Value.int k n).cells=#[Value.int k n])∧(∀ (b:Bool),(Value.bool b).cells=#[Value.bool b])∧(∀ (s:ByteArray),(Value.string s).cells=#[Value.string s])∧(∀ (p:Option Addr),(Value.pointer p).cells=#[Value.pointer p])∧(∀ (p:Option Addr) (n c:Nat),(Value.slice p n c).cells=#[Value.slice p n c])∧(∀ (r:Option Nat),(Value.map r).cells=#[Value.map r])∧∀ cs:Array Value,(Value.agg cs).cells=cs :=
 ⟨nrm,nrl,fun _ _=>rfl,fun _=>rfl,fun _=>rfl,fun _=>rfl,fun _ _ _=>rfl,fun _=>rfl,fun _=>rfl⟩
theorem ch {M:Nat→Prop} {P:Program} {f:FuncId} {args:Array Value} {w w0:World} {l:List Res} {e0:Ending} {R:Ending→World→Prop} (c:Calls P f args w fun e w'=>e=e0∧Below w.heap.size w w') (H:HoldG M w0 w l)
  (k:∀ w',HoldG M w0 w' l→R e0 w'):Calls P f args w R:=c.mono fun _ w' h=>h.1 ▸ k w' (H.call h.2)
section
variable {M:Nat→Prop} {ops:Array Oper} {dst:Option Tmp} {ty:TypeId} {pos:String} {aft:Array Edge} {grd:Option (Nat × Bool)} {rest:List Oper} {a:Act} {w w0:World} {l:List Res} {Q:Exit→Act→World→Prop}
theorem gT {T:TypeId} {x y:Operand} (h:wpList Tryz.prog ops Q ((⟨dst,.store T x y,ty,pos,aft,grd⟩:Oper)::rest) a w):wpList Tryz.prog ops Q ((⟨dst,.store T x y,ty,pos,aft,grd⟩:Oper)::rest) a w:=h
theorem gL {T:TypeId} {x:Operand} (h:wpList Tryz.prog ops Q ((⟨dst,.load T x,ty,pos,aft,grd⟩:Oper)::rest) a w):wpList Tryz.prog ops Q ((⟨dst,.load T x,ty,pos,aft,grd⟩:Oper)::rest) a w:=h
theorem gX {T:TypeId} {x:Operand} (h:wpList Tryz.prog ops Q ((⟨dst,.box T x,ty,pos,aft,grd⟩:Oper)::rest) a w):wpList Tryz.prog ops Q ((⟨dst,.box T x,ty,pos,aft,grd⟩:Oper)::rest) a w:=h
theorem gA {T:TypeId} (h:wpList Tryz.prog ops Q ((⟨dst,.alloc T,ty,pos,aft,grd⟩:Oper)::rest) a w):wpList Tryz.prog ops Q ((⟨dst,.alloc T,ty,pos,aft,grd⟩:Oper)::rest) a w:=h
theorem gZ {T:TypeId} {parts:Array (Nat × Operand)} (h:wpList Tryz.prog ops Q ((⟨dst,.build T parts,ty,pos,aft,grd⟩:Oper)::rest) a w):wpList Tryz.prog ops Q ((⟨dst,.build T parts,ty,pos,aft,grd⟩:Oper)::rest) a w:=h
theorem gI {T:TypeId} {x y:Operand} (h:wpList Tryz.prog ops Q ((⟨dst,.index T x y,ty,pos,aft,grd⟩:Oper)::rest) a w):wpList Tryz.prog ops Q ((⟨dst,.index T x y,ty,pos,aft,grd⟩:Oper)::rest) a w:=h
theorem gC {T:TypeId} {x y z:Operand} (h:wpList Tryz.prog ops Q ((⟨dst,.slice T x (some y) (some z) none,ty,pos,aft,grd⟩:Oper)::rest) a w):wpList Tryz.prog ops Q ((⟨dst,.slice T x (some y) (some z) none,ty,pos,aft,grd⟩:Oper)::rest) a w:=h
theorem gF {T:TypeId} {x y:Operand} (h:wpList Tryz.prog ops Q ((⟨dst,.slice T x (some y) none none,ty,pos,aft,grd⟩:Oper)::rest) a w):wpList Tryz.prog ops Q ((⟨dst,.slice T x (some y) none none,ty,pos,aft,grd⟩:Oper)::rest) a w:=h
theorem gE {T U:TypeId} {x y:Operand} (h:wpList Tryz.prog ops Q ((⟨dst,.binOp .eql T x y U,ty,pos,aft,grd⟩:Oper)::rest) a w):wpList Tryz.prog ops Q ((⟨dst,.binOp .eql T x y U,ty,pos,aft,grd⟩:Oper)::rest) a w:=h
theorem kgX (k:Tmp) {T:TypeId} {x:Operand} (h:wpList Tryz.prog ops Q ((⟨some k,.box T x,ty,pos,aft,grd⟩:Oper)::rest) a w):wpList Tryz.prog ops Q ((⟨some k,.box T x,ty,pos,aft,grd⟩:Oper)::rest) a w:=h
theorem kgA (k:Tmp) {T:TypeId} (h:wpList Tryz.prog ops Q ((⟨some k,.alloc T,ty,pos,aft,grd⟩:Oper)::rest) a w):wpList Tryz.prog ops Q ((⟨some k,.alloc T,ty,pos,aft,grd⟩:Oper)::rest) a w:=h
theorem aS (H:HoldG M w0 w l) {T:TypeId} {x y:Operand} {i b:Nat} {cs:Array Value} {U:TypeId} {s:Nat→Nat} (h:∀ w',HoldG M w0 w' (l.set i (.blk b (setC s) U))→wpList Tryz.prog ops Q rest (a.put dst undef) w') (hg:Region.wanted (⟨dst,.store T x y,ty,pos,aft,grd⟩:Oper) (yielded ops a.tmps)=true:=by first|rfl|exact zAO rfl (zAG rfl (by first|rfl|(simp only[pe];rfl)))) (hx:a.eval x=.pointer (some ⟨b,0,none⟩):=by exact rfl) (hy:a.eval y=setV s:=by (try simp only[pe]);with_reducible rfl) (hi:At l i (.blk b cs U):=by repeat (first|(with_reducible exact At.zero)|apply At.succ)) (hT:zDL Tryz.prog T 4=true:=by with_reducible exact zBG zBY) (hn:cs.size=4:=by rfl):wpList Tryz.prog ops Q ((⟨dst,.store T x y,ty,pos,aft,grd⟩:Oper)::rest) a w :=
 zMe hg T x y rfl hx hy H hi hT hn h
theorem aW (H:HoldG M w0 w l) {T:TypeId} {x y:Operand} {i b:Nat} {d:WordD} {U:TypeId} {s:Nat→Nat} (h:∀ w',HoldG M w0 w' (l.set i (.blk b (zBV {d with set:=s}) U))→wpList Tryz.prog ops Q rest (a.put dst undef) w') (hg:Region.wanted (⟨dst,.store T x y,ty,pos,aft,grd⟩:Oper) (yielded ops a.tmps)=true:=by first|rfl|exact zAO rfl (zAG rfl (by first|rfl|(simp only[pe];rfl)))) (hx:a.eval x=.pointer (some ⟨b,2,none⟩):=by exact rfl) (hy:a.eval y=setV s:=by (try simp only[pe]);with_reducible rfl) (hi:At l i (.blk b (zBV d) U):=by repeat (first|(with_reducible exact At.zero)|apply At.succ)) (hT:zDL Tryz.prog T 4=true:=by with_reducible exact zBG zBY):wpList Tryz.prog ops Q ((⟨dst,.store T x y,ty,pos,aft,grd⟩:Oper)::rest) a w :=
 zEr hg T x y rfl hx (vs:=setC s) hy H hi hT rfl rfl (show 2+4≤17 by omega) h
theorem aV (H:HoldG M w0 w l) {T:TypeId} {x:Operand} {i b:Nat} {d:WordD} {U:TypeId} (h:wpList Tryz.prog ops Q rest (a.put dst (setV d.set)) w) (hg:Region.wanted (⟨dst,.load T x,ty,pos,aft,grd⟩:Oper) (yielded ops a.tmps)=true:=by first|rfl|exact zAO rfl (zAG rfl (by first|rfl|(simp only[pe];rfl)))) (hx:a.eval x=.pointer (some ⟨b,2,none⟩):=by exact rfl) (hi:At l i (.blk b (zBV d) U):=by repeat (first|(with_reducible exact At.zero)|apply At.succ)) (hT:rowB Tryz.prog T 4=true:=by with_reducible exact zBY):wpList Tryz.prog ops Q ((⟨dst,.load T x,ty,pos,aft,grd⟩:Oper)::rest) a w :=
 zJT hg T x rfl hx H hi (setC d.set) hT rfl h
theorem aZ  (h:wpList Tryz.prog ops Q rest (a.put dst (setV zAE)) w) (hg:Region.wanted (⟨dst,.build 40 #[],ty,pos,aft,grd⟩:Oper) (yielded ops a.tmps)=true:=by first|rfl|exact zAO rfl (zAG rfl (by first|rfl|(simp only[pe];rfl)))):wpList Tryz.prog ops Q ((⟨dst,.build 40 #[],ty,pos,aft,grd⟩:Oper)::rest) a w :=
 zPH hg rfl h
theorem aL (H:HoldG M w0 w l) {T:TypeId} {x:Operand} {i b:Nat} {s:Nat→Nat} {U:TypeId} (h:wpList Tryz.prog ops Q rest (a.put dst (setV s)) w) (hg:Region.wanted (⟨dst,.load T x,ty,pos,aft,grd⟩:Oper) (yielded ops a.tmps)=true:=by first|rfl|exact zAO rfl (zAG rfl (by first|rfl|(simp only[pe];rfl)))) (hx:a.eval x=.pointer (some ⟨b,0,none⟩):=by exact rfl) (hi:At l i (.blk b (setC s) U):=by repeat (first|(with_reducible exact At.zero)|apply At.succ)) (hT:rowB Tryz.prog T 4=true:=by with_reducible exact zBY):wpList Tryz.prog ops Q ((⟨dst,.load T x,ty,pos,aft,grd⟩:Oper)::rest) a w :=
 zNi hg T x rfl hx H hi hT h
theorem bS (H:HoldG M w0 w l) {T:TypeId} {x:Operand} {s:Nat→Nat} (h:∀ b w',HoldG M w0 w' (l++[.blk b (setC s) T])→wpList Tryz.prog ops Q rest (a.put dst (.pointer (some ⟨b,0,none⟩))) w') (hg:Region.wanted (⟨dst,.box T x,ty,pos,aft,grd⟩:Oper) (yielded ops a.tmps)=true:=by first|rfl|exact zAO rfl (zAG rfl (by first|rfl|(simp only[pe];rfl)))) (hx:a.eval x=setV s:=by (try simp only[pe]);with_reducible rfl):wpList Tryz.prog ops Q ((⟨dst,.box T x,ty,pos,aft,grd⟩:Oper)::rest) a w :=
 zLC hg T x rfl hx H h
theorem bA (H:HoldG M w0 w l) {T:TypeId} (h:∀ b w',HoldG M w0 w' (l++[.blk b (zCG Tryz.prog T) T])→wpList Tryz.prog ops Q rest (a.put dst (.pointer (some ⟨b,0,none⟩))) w') (hg:Region.wanted (⟨dst,.alloc T,ty,pos,aft,grd⟩:Oper) (yielded ops a.tmps)=true:=by first|rfl|exact zAO rfl (zAG rfl (by first|rfl|(simp only[pe];rfl)))) (hi:((Tryz.prog.info? T).bind (·.zero)).isSome=true:=by kernel_rfl):wpList Tryz.prog ops Q ((⟨dst,.alloc T,ty,pos,aft,grd⟩:Oper)::rest) a w :=
 zJg hg T rfl H hi h
theorem bB (H:HoldG M w0 w l) {T:TypeId} {x:Operand} {v:Value} (h:∀ b w',HoldG M w0 w' (l++[.blk b v.cells T])→wpList Tryz.prog ops Q rest (a.put dst (.pointer (some ⟨b,0,none⟩))) w') (hg:Region.wanted (⟨dst,.box T x,ty,pos,aft,grd⟩:Oper) (yielded ops a.tmps)=true:=by first|rfl|exact zAO rfl (zAG rfl (by first|rfl|(simp only[pe];rfl)))) (hx:a.eval x=v:=by first|(simp only[pe];done)|(simp only[pe];rfl)):wpList Tryz.prog ops Q ((⟨dst,.box T x,ty,pos,aft,grd⟩:Oper)::rest) a w :=
 zKc hg T x rfl hx H h
theorem kS (k:Tmp) (H:HoldG M w0 w l) {T:TypeId} {x:Operand} {s:Nat→Nat} (h:∀ b w',HoldG M w0 w' (l++[.blk b (setC s) T])→wpList Tryz.prog ops Q rest (a.put (some k) (.pointer (some ⟨b,0,none⟩))) w') (hg:Region.wanted (⟨some k,.box T x,ty,pos,aft,grd⟩:Oper) (yielded ops a.tmps)=true:=by first|rfl|exact zAO rfl (zAG rfl (by first|rfl|(simp only[pe];rfl)))) (hx:a.eval x=setV s:=by (try simp only[pe]);with_reducible rfl):wpList Tryz.prog ops Q ((⟨some k,.box T x,ty,pos,aft,grd⟩:Oper)::rest) a w :=
 zLC hg T x rfl hx H h
theorem kA (k:Tmp) (H:HoldG M w0 w l) {T:TypeId} (h:∀ b w',HoldG M w0 w' (l++[.blk b (zCG Tryz.prog T) T])→wpList Tryz.prog ops Q rest (a.put (some k) (.pointer (some ⟨b,0,none⟩))) w') (hg:Region.wanted (⟨some k,.alloc T,ty,pos,aft,grd⟩:Oper) (yielded ops a.tmps)=true:=by first|rfl|exact zAO rfl (zAG rfl (by first|rfl|(simp only[pe];rfl)))) (hi:((Tryz.prog.info? T).bind (·.zero)).isSome=true:=by kernel_rfl):wpList Tryz.prog ops Q ((⟨some k,.alloc T,ty,pos,aft,grd⟩:Oper)::rest) a w :=
 zJg hg T rfl H hi h
theorem kB (k:Tmp) (H:HoldG M w0 w l) {T:TypeId} {x:Operand} {v:Value} (h:∀ b w',HoldG M w0 w' (l++[.blk b v.cells T])→wpList Tryz.prog ops Q rest (a.put (some k) (.pointer (some ⟨b,0,none⟩))) w') (hg:Region.wanted (⟨some k,.box T x,ty,pos,aft,grd⟩:Oper) (yielded ops a.tmps)=true:=by first|rfl|exact zAO rfl (zAG rfl (by first|rfl|(simp only[pe];rfl)))) (hx:a.eval x=v:=by first|(simp only[pe];done)|(simp only[pe];rfl)):wpList Tryz.prog ops Q ((⟨some k,.box T x,ty,pos,aft,grd⟩:Oper)::rest) a w :=
 zKc hg T x rfl hx H h
theorem aO (H:HoldG M w0 w l) {T:TypeId} {x y:Operand} {i b:Nat} {cs:Array Value} {U:TypeId} {k:Nat} {v:Value} (h:∀ w',HoldG M w0 w' (l.set i (.blk b (cs.setIfInBounds k v) U))→wpList Tryz.prog ops Q rest (a.put dst undef) w') (hg:Region.wanted (⟨dst,.store T x y,ty,pos,aft,grd⟩:Oper) (yielded ops a.tmps)=true:=by first|rfl|exact zAO rfl (zAG rfl (by first|rfl|(simp only[pe];rfl)))) (hx:a.eval x=.pointer (some ⟨b,k,none⟩):=by exact rfl) (hy:a.eval y=v:=by first|(simp only[pe];done)|(simp only[pe];rfl)) (hi:At l i (.blk b cs U):=by repeat (first|(with_reducible exact At.zero)|apply At.succ)) (h1:v.oneCell'=true:=by rfl) (hk:k<cs.size:=by first|(simp;done)|(simp[zBV];done)|(simp[zAU];done)|(simp[zFC];done)) (hT:zDL Tryz.prog T 1=true:=by first|(with_reducible exact zAI one_errno)|(with_reducible exact zAI zAH)|(with_reducible exact zAI zB0)|(with_reducible exact zAI zEE)|(with_reducible exact zAI zIY)|(with_reducible exact zAI zAd)|(with_reducible exact zAI one_u64)|(with_reducible exact zAI zDZ)|(with_reducible exact zAI zE5)|(with_reducible exact zAI one_p10)|(with_reducible exact zAI zBC)|(with_reducible exact zAI zBc)|(with_reducible exact zAI zB7)|(with_reducible exact zAI zHM)|(with_reducible exact zAI zBI)):wpList Tryz.prog ops Q ((⟨dst,.store T x y,ty,pos,aft,grd⟩:Oper)::rest) a w :=
 zAQ hg T x y rfl hx hy H hi h1 hk hT h
theorem aT (H:HoldG M w0 w l) {T:TypeId} {x y:Operand} {i b:Nat} {cs:Array Value} {U:TypeId} {n:Nat} {vs:Array Value} (h:∀ w',HoldG M w0 w' (l.set i (.blk b vs U))→wpList Tryz.prog ops Q rest (a.put dst undef) w') (hg:Region.wanted (⟨dst,.store T x y,ty,pos,aft,grd⟩:Oper) (yielded ops a.tmps)=true:=by first|rfl|exact zAO rfl (zAG rfl (by first|rfl|(simp only[pe];rfl)))) (hx:a.eval x=.pointer (some ⟨b,0,none⟩):=by exact rfl) (hy:a.eval y=.agg vs:=by first|(simp only[pe];done)|(simp only[pe];rfl)) (hi:At l i (.blk b cs U):=by repeat (first|(with_reducible exact At.zero)|apply At.succ)) (hT:zDL Tryz.prog T n=true:=by first|(with_reducible exact zBG zBk)|(with_reducible exact zBG zBY)|(with_reducible exact zBG zAR)|(with_reducible exact zBG zD3)|(with_reducible exact zBG row_P10)) (hv:vs.size=n:=by rfl) (hn:cs.size=n:=by rfl) (h1:vs.toList.all (·.oneCell')=true:=by rfl):wpList Tryz.prog ops Q ((⟨dst,.store T x y,ty,pos,aft,grd⟩:Oper)::rest) a w :=
 zFj hg T x y rfl hx hy H hi hT hv hn h1 h
theorem aN (H:HoldG M w0 w l) {T:TypeId} {x y:Operand} {i b:Nat} {cs:Array Value} {U:TypeId} {n k:Nat} {vs:Array Value} (h:∀ w',HoldG M w0 w' (l.set i (.blk b (zCc cs k vs.toList) U))→wpList Tryz.prog ops Q rest (a.put dst undef) w') (hg:Region.wanted (⟨dst,.store T x y,ty,pos,aft,grd⟩:Oper) (yielded ops a.tmps)=true:=by first|rfl|exact zAO rfl (zAG rfl (by first|rfl|(simp only[pe];rfl)))) (hx:a.eval x=.pointer (some ⟨b,k,none⟩):=by exact rfl) (hy:a.eval y=.agg vs:=by first|(simp only[pe];done)|(simp only[pe];rfl)) (hi:At l i (.blk b cs U):=by repeat (first|(with_reducible exact At.zero)|apply At.succ)) (hT:zDL Tryz.prog T n=true:=by first|(with_reducible exact zBG zBk)|(with_reducible exact zBG zBY)|(with_reducible exact zBG zAR)|(with_reducible exact zBG zD3)|(with_reducible exact zBG row_P10)) (hv:vs.size=n:=by rfl) (h1:vs.toList.all (·.oneCell')=true:=by rfl) (hk:k+n≤cs.size:=by first|(simp;done)|(simp[zBV];done)|(simp[zAU];done)|(simp[zFC];done)):wpList Tryz.prog ops Q ((⟨dst,.store T x y,ty,pos,aft,grd⟩:Oper)::rest) a w :=
 zEr hg T x y rfl hx hy H hi hT hv h1 hk h
theorem aG (H:HoldG M w0 w l) {T:TypeId} {x:Operand} {i b:Nat} {cs:Array Value} {U:TypeId} {k:Nat} {v:Value} (h:wpList Tryz.prog ops Q rest (a.put dst v) w) (hg:Region.wanted (⟨dst,.load T x,ty,pos,aft,grd⟩:Oper) (yielded ops a.tmps)=true:=by first|rfl|exact zAO rfl (zAG rfl (by first|rfl|(simp only[pe];rfl)))) (hx:a.eval x=.pointer (some ⟨b,k,none⟩):=by exact rfl) (hi:At l i (.blk b cs U):=by repeat (first|(with_reducible exact At.zero)|apply At.succ)) (hT:oneB Tryz.prog T=true:=by first|(with_reducible exact one_errno)|(with_reducible exact zAH)|(with_reducible exact zB0)|(with_reducible exact zEE)|(with_reducible exact zIY)|(with_reducible exact zAd)|(with_reducible exact one_u64)|(with_reducible exact zDZ)|(with_reducible exact zE5)|(with_reducible exact one_p10)|(with_reducible exact zBC)|(with_reducible exact zBc)|(with_reducible exact zB7)|(with_reducible exact zHM)|(with_reducible exact zBI)) (hv:cs[k]?=some v:=by first|(with_reducible exact wg0 _)|(with_reducible exact wg1 _)|(with_reducible exact wg2 _)|(with_reducible exact wg3 _)|(with_reducible exact wg4 _)|(with_reducible exact wg5 _)|(with_reducible exact wg6 _)|(with_reducible exact wg7 _)|(with_reducible exact wg8 _)|(with_reducible exact wg9 _)|(with_reducible exact wg10 _)|(with_reducible exact wg11 _)|(with_reducible exact wg12 _)|(with_reducible exact wg13 _)|(with_reducible exact wg14 _)|(with_reducible exact wg15 _)|(with_reducible exact wg16 _)|(with_reducible exact fg0 _)|(with_reducible exact fg1 _)|(with_reducible exact fg2 _)|(with_reducible exact ng0 _ _)|(with_reducible exact ng1 _ _)|(with_reducible exact ng2 _ _)|(with_reducible exact ng3 _ _)|(with_reducible exact ng4 _ _)|(with_reducible exact ng5 _ _)|(with_reducible exact ng6 _ _)|(with_reducible exact ng7 _ _)|(with_reducible exact ng8 _ _)|(with_reducible exact ng9 _ _)|rfl):wpList Tryz.prog ops Q ((⟨dst,.load T x,ty,pos,aft,grd⟩:Oper)::rest) a w :=
 zAp hg T x rfl hx H hi hT hv h
theorem aD (H:HoldG M w0 w l) {T:TypeId} {x:Operand} {i b:Nat} {cs:Array Value} {U:TypeId} {n:Nat} (h:wpList Tryz.prog ops Q rest (a.put dst (.agg cs)) w) (hg:Region.wanted (⟨dst,.load T x,ty,pos,aft,grd⟩:Oper) (yielded ops a.tmps)=true:=by first|rfl|exact zAO rfl (zAG rfl (by first|rfl|(simp only[pe];rfl)))) (hx:a.eval x=.pointer (some ⟨b,0,none⟩):=by exact rfl) (hi:At l i (.blk b cs U):=by repeat (first|(with_reducible exact At.zero)|apply At.succ)) (hT:rowB Tryz.prog T n=true:=by first|(with_reducible exact zBk)|(with_reducible exact zBY)|(with_reducible exact zAR)|(with_reducible exact zD3)|(with_reducible exact row_P10)) (hn:cs.size=n:=by rfl):wpList Tryz.prog ops Q ((⟨dst,.load T x,ty,pos,aft,grd⟩:Oper)::rest) a w :=
 zIf hg T x rfl hx H hi hT hn h
theorem aI {T:TypeId} {x lo:Operand} {L:Str} {y:Int} {i:Nat} (h:wpList Tryz.prog ops Q rest (a.put dst (.int .u8 (byt L i))) w) (hg:Region.wanted (⟨dst,.index T x lo,ty,pos,aft,grd⟩:Oper) (yielded ops a.tmps)=true:=by first|rfl|exact zAO rfl (zAG rfl (by first|rfl|(simp only[pe];rfl)))) (hT:Tryz.prog.underlying T=some .string:=by exact Tryz.underlying9) (hx:a.eval x=.string ⟨L.toArray⟩:=by exact rfl) (hl:a.eval lo=.int .i64 y:=by first|(simp only[pe];done)|(simp only[pe];rfl)) (hy:y=(i:Int):=by first|with_reducible exact hNC|with_reducible exact nc1 _|with_reducible exact nc2 _|with_reducible exact nc3 _|with_reducible exact nca _ _|with_reducible exact nc0 _|with_reducible exact ncl0|with_reducible exact ncl1|rfl) (h1:i<L.length:=by first|omega|(simp only[List.length_cons,List.length_nil];omega)):wpList Tryz.prog ops Q ((⟨dst,.index T x lo,ty,pos,aft,grd⟩:Oper)::rest) a w :=
 zN7 hg T x lo rfl hT hx hl hy h1 h
theorem aC {T:TypeId} {x lo hi:Operand} {L:Str} {y z:Int} {i j:Nat} (h:wpList Tryz.prog ops Q rest (a.put dst (.string ⟨((L.take j).drop i).toArray⟩)) w) (hg:Region.wanted (⟨dst,.slice T x (some lo) (some hi) none,ty,pos,aft,grd⟩:Oper) (yielded ops a.tmps)=true:=by first|rfl|exact zAO rfl (zAG rfl (by first|rfl|(simp only[pe];rfl)))) (hT:Tryz.prog.underlying T=some .string:=by exact Tryz.underlying9) (hx:a.eval x=.string ⟨L.toArray⟩:=by exact rfl) (hl:a.eval lo=.int .i64 y:=by first|(simp only[pe];done)|(simp only[pe];rfl)) (hy:y=(i:Int):=by first|with_reducible exact hNC|with_reducible exact nc1 _|with_reducible exact nc2 _|with_reducible exact nc3 _|with_reducible exact nca _ _|with_reducible exact nc0 _|with_reducible exact ncl0|with_reducible exact ncl1|rfl) (hh:a.eval hi=.int .i64 z:=by first|(simp only[pe];done)|(simp only[pe];rfl)) (hz:z=(j:Int):=by first|with_reducible exact hNC|with_reducible exact nc1 _|with_reducible exact nc2 _|with_reducible exact nc3 _|with_reducible exact nca _ _|with_reducible exact nc0 _|with_reducible exact ncl0|with_reducible exact ncl1|rfl) (h1:i≤j:=by first|omega|(simp only[List.length_cons,List.length_nil];omega)) (h2:j≤L.length:=by first|omega|(simp only[List.length_cons,List.length_nil];omega)):wpList Tryz.prog ops Q ((⟨dst,.slice T x (some lo) (some hi) none,ty,pos,aft,grd⟩:Oper)::rest) a w :=
 zMq hg T x lo hi rfl hT hx hl hy hh hz h1 h2 h
theorem aF {T:TypeId} {x lo:Operand} {L:Str} {y:Int} {i:Nat} (h:wpList Tryz.prog ops Q rest (a.put dst (.string ⟨(L.drop i).toArray⟩)) w) (hg:Region.wanted (⟨dst,.slice T x (some lo) none none,ty,pos,aft,grd⟩:Oper) (yielded ops a.tmps)=true:=by first|rfl|exact zAO rfl (zAG rfl (by first|rfl|(simp only[pe];rfl)))) (hT:Tryz.prog.underlying T=some .string:=by exact Tryz.underlying9) (hx:a.eval x=.string ⟨L.toArray⟩:=by exact rfl) (hl:a.eval lo=.int .i64 y:=by first|(simp only[pe];done)|(simp only[pe];rfl)) (hy:y=(i:Int):=by first|with_reducible exact hNC|with_reducible exact nc1 _|with_reducible exact nc2 _|with_reducible exact nc3 _|with_reducible exact nca _ _|with_reducible exact nc0 _|with_reducible exact ncl0|with_reducible exact ncl1|rfl) (h1:i≤L.length:=by first|omega|(simp only[List.length_cons,List.length_nil];omega)):wpList Tryz.prog ops Q ((⟨dst,.slice T x (some lo) none none,ty,pos,aft,grd⟩:Oper)::rest) a w :=
 zPL hg T x lo rfl hT hx hl hy h1 h
theorem aE {T:TypeId} {x y:Operand} {U:TypeId} {L L':Str} (h:wpList Tryz.prog ops Q rest (a.put dst (.bool (L == L'))) w) (hg:Region.wanted (⟨dst,.binOp .eql T x y U,ty,pos,aft,grd⟩:Oper) (yielded ops a.tmps)=true:=by first|rfl|exact zAO rfl (zAG rfl (by first|rfl|(simp only[pe];rfl)))) (hx:a.eval x=.string ⟨L.toArray⟩:=by exact rfl) (hy:a.eval y=.string ⟨L'.toArray⟩:=by exact rfl) (hq:∀ w:World,(eqGuard .eql T x y (.string ⟨L.toArray⟩) (.string ⟨L'.toArray⟩)).run Tryz.prog w=.ok () w:=by exact fun _=>rfl):wpList Tryz.prog ops Q ((⟨dst,.binOp .eql T x y U,ty,pos,aft,grd⟩:Oper)::rest) a w :=
 zQj hg T x y U rfl hx hy hq h
end
section
variable {M:Nat→Prop} {a:Act} {w w0:World} {l:List Res} {fn:Func} {R:Ending→World→Prop} {p q r:Tmp} {T:TypeId} {b i n:Nat} {cs:Array Value} {U:TypeId} {s:Nat→Nat} {v u:Value}
theorem xc (hres:fn.results=#[.cell p T]) (H:HoldG M w0 w l) (h:R (.returned (.agg cs)) w) (hp:a.tmps.getD p undef=.pointer (some ⟨b,0,none⟩):=by exact rfl) (hi:At l i (.blk b cs U):=by repeat (first|(with_reducible exact At.zero)|apply At.succ)) (hT:rowB Tryz.prog T n=true:=by first|(with_reducible exact zBk)|(with_reducible exact zBY)|(with_reducible exact zAR)|(with_reducible exact zD3)) (hn:cs.size=n:=by rfl) (hd:a.defers=[]:=by exact rfl):bodyPost Tryz.prog fn R .ret a w:=zKK hres hp H hi hT hn hd h
theorem xct (hres:fn.results=#[.cell p T,.tmp q]) (H:HoldG M w0 w l) (h:R (.returned (.tuple #[.agg cs,v])) w) (hp:a.tmps.getD p undef=.pointer (some ⟨b,0,none⟩):=by exact rfl) (hq:a.tmps.getD q undef=v:=by first|rfl|(simp only[pl];rfl)) (hi:At l i (.blk b cs U):=by repeat (first|(with_reducible exact At.zero)|apply At.succ)) (hT:rowB Tryz.prog T n=true:=by first|(with_reducible exact zBk)|(with_reducible exact zBY)|(with_reducible exact zAR)|(with_reducible exact zD3)) (hn:cs.size=n:=by rfl) (hd:a.defers=[]:=by exact rfl):bodyPost Tryz.prog fn R .ret a w:=zFf hres hp hq H hi hT hn hd h
theorem xctt (hres:fn.results=#[.cell p T,.tmp q,.tmp r]) (H:HoldG M w0 w l) (h:R (.returned (.tuple #[.agg cs,v,u])) w) (hp:a.tmps.getD p undef=.pointer (some ⟨b,0,none⟩):=by exact rfl) (hq:a.tmps.getD q undef=v:=by first|rfl|(simp only[pl];rfl)) (hr:a.tmps.getD r undef=u:=by first|rfl|(simp only[pl];rfl)) (hi:At l i (.blk b cs U):=by repeat (first|(with_reducible exact At.zero)|apply At.succ)) (hT:rowB Tryz.prog T n=true:=by first|(with_reducible exact zBk)|(with_reducible exact zBY)|(with_reducible exact zAR)|(with_reducible exact zD3)) (hn:cs.size=n:=by rfl) (hd:a.defers=[]:=by exact rfl):bodyPost Tryz.prog fn R .ret a w:=zQP hres hp hq hr H hi hT hn hd h
theorem xcS (hres:fn.results=#[.cell p T]) (H:HoldG M w0 w l) (h:R (.returned (setV s)) w) (hp:a.tmps.getD p undef=.pointer (some ⟨b,0,none⟩):=by exact rfl) (hi:At l i (.blk b (setC s) U):=by repeat (first|(with_reducible exact At.zero)|apply At.succ)) (hT:rowB Tryz.prog T 4=true:=by with_reducible exact zBY) (hd:a.defers=[]:=by exact rfl):bodyPost Tryz.prog fn R .ret a w:=zSH hres hp H hi hT hd h
theorem xctS (hres:fn.results=#[.cell p T,.tmp q]) (H:HoldG M w0 w l) (h:R (.returned (.tuple #[setV s,v])) w) (hp:a.tmps.getD p undef=.pointer (some ⟨b,0,none⟩):=by exact rfl) (hq:a.tmps.getD q undef=v:=by first|rfl|(simp only[pl];rfl)) (hi:At l i (.blk b (setC s) U):=by repeat (first|(with_reducible exact At.zero)|apply At.succ)) (hT:rowB Tryz.prog T 4=true:=by with_reducible exact zBY) (hd:a.defers=[]:=by exact rfl):bodyPost Tryz.prog fn R .ret a w:=zQW hres hp hq H hi hT hd h
end
theorem ca {α:Type}:(∀ (a:α) (l r:List α),a::l++r=a::(l++r))∧∀ l:List α,[]++l=l:=⟨fun _ _ _=>rfl,fun _=>rfl⟩
theorem sc {α:Type}:(∀ (a b:α) (l:List α) (n:Nat),(a::l).set (n+1) b=a::l.set n b)∧∀ (a b:α) (l:List α),(a::l).set 0 b=b::l:=⟨fun _ _ _ _=>rfl,fun _ _ _=>rfl⟩
theorem ml {α β:Type} {f:α→β}:(∀ l:List α,l.toArray.map f=(l.map f).toArray)∧(∀ (a:α) (l:List α),(a::l).map f=f a::l.map f)∧([]:List α).map f=[]:=⟨fun _=>List.map_toArray ..,fun _ _=>rfl,rfl⟩
section
variable {ops:Array Oper} {dst:Option Tmp} {ty:TypeId} {pos:String} {aft:Array Edge} {grd:Option (Nat × Bool)} {rest:List Oper} {a:Act} {w:World} {Q:Exit→Act→World→Prop}
theorem gBS {x0:TypeId} {x1:Nat} {x2:Array (Nat × Operand)} (h:wpList Tryz.prog ops Q ((⟨dst,.buildSlice x0 x1 x2,ty,pos,aft,grd⟩:Oper)::rest) a w):wpList Tryz.prog ops Q ((⟨dst,.buildSlice x0 x1 x2,ty,pos,aft,grd⟩:Oper)::rest) a w:=h
theorem gIA {x0:TypeId} {x1 x2:Operand} (h:wpList Tryz.prog ops Q ((⟨dst,.indexAddr x0 x1 x2,ty,pos,aft,grd⟩:Oper)::rest) a w):wpList Tryz.prog ops Q ((⟨dst,.indexAddr x0 x1 x2,ty,pos,aft,grd⟩:Oper)::rest) a w:=h
theorem gCV {x0 x1:TypeId} {x2:Operand} (h:wpList Tryz.prog ops Q ((⟨dst,.convert x0 x1 x2,ty,pos,aft,grd⟩:Oper)::rest) a w):wpList Tryz.prog ops Q ((⟨dst,.convert x0 x1 x2,ty,pos,aft,grd⟩:Oper)::rest) a w:=h
theorem gSl {x0:TypeId} {x1:Operand} {x2 x3 x4:Option Operand} (h:wpList Tryz.prog ops Q ((⟨dst,.slice x0 x1 x2 x3 x4,ty,pos,aft,grd⟩:Oper)::rest) a w):wpList Tryz.prog ops Q ((⟨dst,.slice x0 x1 x2 x3 x4,ty,pos,aft,grd⟩:Oper)::rest) a w:=h
theorem gMS {x0:TypeId} {x1 x2:Operand} (h:wpList Tryz.prog ops Q ((⟨dst,.makeSlice x0 x1 x2,ty,pos,aft,grd⟩:Oper)::rest) a w):wpList Tryz.prog ops Q ((⟨dst,.makeSlice x0 x1 x2,ty,pos,aft,grd⟩:Oper)::rest) a w:=h
theorem gBd {x0:TypeId} {x1:Array (Nat × Operand)} (h:wpList Tryz.prog ops Q ((⟨dst,.build x0 x1,ty,pos,aft,grd⟩:Oper)::rest) a w):wpList Tryz.prog ops Q ((⟨dst,.build x0 x1,ty,pos,aft,grd⟩:Oper)::rest) a w:=h
end
theorem zRA (W:World):(Instr.build 87 #[]).run Tryz.prog W=.ok (zAc {kind:=0} nilS) W:=by kernel_rfl
theorem zQV (k:Int) (W:World):(Instr.build 87 #[(0,.int .i64 k)]).run Tryz.prog W=.ok (zAc {kind:=k} nilS) W:=by simp[go_sem];rfl
theorem zQU (k:Int) (s:Nat→Nat) (W:World):(Instr.build 87 #[(0,.int .i64 k),(1,setV s)]).run Tryz.prog W=.ok (zAc {kind:=k,set:=s} nilS) W:=by unfold setV;simp[go_sem];rfl
theorem zRB (k:Int) (p:Option Addr) (n c:Nat) (W:World):(Instr.build 87 #[(0,.int .i64 k),(2,.slice p n c)]).run Tryz.prog W=.ok (zAc {kind:=k} (.slice p n c)) W:=by simp[go_sem];rfl
theorem zQt (k g:Int) (p:Option Addr) (n c:Nat) (W:World):(Instr.build 87 #[(0,.int .i64 k),(2,.slice p n c),(6,.int .i64 g)]).run Tryz.prog W=.ok (zAc {kind:=k,group:=g} (.slice p n c)) W:=by simp[go_sem];rfl
theorem zRK (k lo hi:Int) (z:Bool) (p:Option Addr) (n c:Nat) (W:World):(Instr.build 87 #[(0,.int .i64 k),(2,.slice p n c),(3,.int .i64 lo),(4,.int .i64 hi),(5,.bool z)]).run Tryz.prog W=.ok (zAc {kind:=k,lo:=lo,hi:=hi,lazy:=z} (.slice p n c)) W:=by simp[go_sem];rfl
theorem zQu (k hi:Int) (z:Bool) (p:Option Addr) (n c:Nat) (W:World):(Instr.build 87 #[(0,.int .i64 k),(2,.slice p n c),(4,.int .i64 hi),(5,.bool z)]).run Tryz.prog W=.ok (zAc {kind:=k,hi:=hi,lazy:=z} (.slice p n c)) W:=by simp[go_sem];rfl
theorem zRX (x y z:Bool) (W:World):(Instr.build 92 #[(0,.bool x),(1,.bool y),(2,.bool z)]).run Tryz.prog W=.ok (zC0 (x,y,z)) W:=by simp[go_sem];rfl
theorem zBf (d:NodeD) (s:Value) (W:World):(Instr.buildSlice 85 1 #[(0,zAc d s)]).run Tryz.prog W=.ok (.slice (some ⟨W.heap.size,0,none⟩) 1 1) (W.alloc (.cells (zAU d s) 87)):=by kernel_rfl
section
variable {M:Nat→Prop} {ops:Array Oper} {dst:Option Tmp} {ty:TypeId} {pos:String} {aft:Array Edge} {grd:Option (Nat × Bool)} {rest:List Oper} {a:Act} {w w0:World} {l:List Res} {Q:Exit→Act→World→Prop}
theorem gES {U:TypeId} {x y:Operand} (h:wpList Tryz.prog ops Q ((⟨dst,.binOp .eql 40 x y U,ty,pos,aft,grd⟩:Oper)::rest) a w):wpList Tryz.prog ops Q ((⟨dst,.binOp .eql 40 x y U,ty,pos,aft,grd⟩:Oper)::rest) a w:=h
theorem nb0 (h:wpList Tryz.prog ops Q rest (a.put dst (zAc {kind:=0} nilS)) w) (hg:Region.wanted (⟨dst,.build 87 #[],ty,pos,aft,grd⟩:Oper) (yielded ops a.tmps)=true:=by first|rfl|exact zAO rfl (zAG rfl (by first|rfl|(simp only[pe];rfl)))):wpList Tryz.prog ops Q ((⟨dst,.build 87 #[],ty,pos,aft,grd⟩:Oper)::rest) a w :=
 zAZ hg (by
  simp only[execOp,List.map_toArray,List.map_nil,Sem.run_bind,zRA];rfl) h
theorem nb1 {x:Operand} {k:Int} (h:wpList Tryz.prog ops Q rest (a.put dst (zAc {kind:=k} nilS)) w) (hg:Region.wanted (⟨dst,.build 87 #[(0,x)],ty,pos,aft,grd⟩:Oper) (yielded ops a.tmps)=true:=by first|rfl|exact zAO rfl (zAG rfl (by first|rfl|(simp only[pe];rfl)))) (h0:a.eval x=.int .i64 k:=by first|(simp only[pe];done)|(simp only[pe];rfl)):wpList Tryz.prog ops Q ((⟨dst,.build 87 #[(0,x)],ty,pos,aft,grd⟩:Oper)::rest) a w :=
 zAZ hg (by
  simp only[execOp,List.map_toArray,List.map_cons,List.map_nil,h0,Sem.run_bind,zQV];rfl) h
theorem nbS {x y:Operand} {k:Int} {s:Nat→Nat} (h:wpList Tryz.prog ops Q rest (a.put dst (zAc {kind:=k,set:=s} nilS)) w) (hg:Region.wanted (⟨dst,.build 87 #[(0,x),(1,y)],ty,pos,aft,grd⟩:Oper) (yielded ops a.tmps)=true:=by first|rfl|exact zAO rfl (zAG rfl (by first|rfl|(simp only[pe];rfl)))) (h0:a.eval x=.int .i64 k:=by first|(simp only[pe];done)|(simp only[pe];rfl)) (h1:a.eval y=setV s:=by (try simp only[pe]);with_reducible rfl):wpList Tryz.prog ops Q ((⟨dst,.build 87 #[(0,x),(1,y)],ty,pos,aft,grd⟩:Oper)::rest) a w :=
 zAZ hg (by
  simp only[execOp,List.map_toArray,List.map_cons,List.map_nil,h0,h1,Sem.run_bind,zQU];rfl) h
theorem nbK {x y:Operand} {k:Int} {p:Option Addr} {n c:Nat} (h:wpList Tryz.prog ops Q rest (a.put dst (zAc {kind:=k} (.slice p n c))) w) (hg:Region.wanted (⟨dst,.build 87 #[(0,x),(2,y)],ty,pos,aft,grd⟩:Oper) (yielded ops a.tmps)=true:=by first|rfl|exact zAO rfl (zAG rfl (by first|rfl|(simp only[pe];rfl)))) (h0:a.eval x=.int .i64 k:=by first|(simp only[pe];done)|(simp only[pe];rfl)) (h1:a.eval y=.slice p n c:=by first|(simp only[pe];done)|(simp only[pe];rfl)):wpList Tryz.prog ops Q ((⟨dst,.build 87 #[(0,x),(2,y)],ty,pos,aft,grd⟩:Oper)::rest) a w :=
 zAZ hg (by
  simp only[execOp,List.map_toArray,List.map_cons,List.map_nil,h0,h1,Sem.run_bind,zRB];rfl) h
theorem nbG {x y z:Operand} {k g:Int} {p:Option Addr} {n c:Nat} (h:wpList Tryz.prog ops Q rest (a.put dst (zAc {kind:=k,group:=g} (.slice p n c))) w) (hg:Region.wanted (⟨dst,.build 87 #[(0,x),(2,y),(6,z)],ty,pos,aft,grd⟩:Oper) (yielded ops a.tmps)=true:=by first|rfl|exact zAO rfl (zAG rfl (by first|rfl|(simp only[pe];rfl)))) (h0:a.eval x=.int .i64 k:=by first|(simp only[pe];done)|(simp only[pe];rfl)) (h1:a.eval y=.slice p n c:=by first|(simp only[pe];done)|(simp only[pe];rfl)) (h2:a.eval z=.int .i64 g:=by first|(simp only[pe];done)|(simp only[pe];rfl)):wpList Tryz.prog ops Q ((⟨dst,.build 87 #[(0,x),(2,y),(6,z)],ty,pos,aft,grd⟩:Oper)::rest) a w :=
 zAZ hg (by
  simp only[execOp,List.map_toArray,List.map_cons,List.map_nil,h0,h1,h2,Sem.run_bind,zQt];rfl) h
theorem nbR {x y u v z:Operand} {k lo hi:Int} {q:Bool} {p:Option Addr} {n c:Nat} (h:wpList Tryz.prog ops Q rest (a.put dst (zAc {kind:=k,lo:=lo,hi:=hi,lazy:=q} (.slice p n c))) w) (hg:Region.wanted (⟨dst,.build 87 #[(0,x),(2,y),(3,u),(4,v),(5,z)],ty,pos,aft,grd⟩:Oper) (yielded ops a.tmps)=true:=by first|rfl|exact zAO rfl (zAG rfl (by first|rfl|(simp only[pe];rfl)))) (h0:a.eval x=.int .i64 k:=by first|(simp only[pe];done)|(simp only[pe];rfl)) (h1:a.eval y=.slice p n c:=by first|(simp only[pe];done)|(simp only[pe];rfl)) (h2:a.eval u=.int .i64 lo:=by first|(simp only[pe];done)|(simp only[pe];rfl)) (h3:a.eval v=.int .i64 hi:=by first|(simp only[pe];done)|(simp only[pe];rfl)) (h4:a.eval z=.bool q:=by first|(simp only[pe];done)|(simp only[pe];rfl)):wpList Tryz.prog ops Q ((⟨dst,.build 87 #[(0,x),(2,y),(3,u),(4,v),(5,z)],ty,pos,aft,grd⟩:Oper)::rest) a w :=
 zAZ hg (by
  simp only[execOp,List.map_toArray,List.map_cons,List.map_nil,h0,h1,h2,h3,h4,Sem.run_bind,zRK];rfl) h
theorem nbA {x y v z:Operand} {k hi:Int} {q:Bool} {p:Option Addr} {n c:Nat} (h:wpList Tryz.prog ops Q rest (a.put dst (zAc {kind:=k,hi:=hi,lazy:=q} (.slice p n c))) w) (hg:Region.wanted (⟨dst,.build 87 #[(0,x),(2,y),(4,v),(5,z)],ty,pos,aft,grd⟩:Oper) (yielded ops a.tmps)=true:=by first|rfl|exact zAO rfl (zAG rfl (by first|rfl|(simp only[pe];rfl)))) (h0:a.eval x=.int .i64 k:=by first|(simp only[pe];done)|(simp only[pe];rfl)) (h1:a.eval y=.slice p n c:=by first|(simp only[pe];done)|(simp only[pe];rfl)) (h2:a.eval v=.int .i64 hi:=by first|(simp only[pe];done)|(simp only[pe];rfl)) (h3:a.eval z=.bool q:=by first|(simp only[pe];done)|(simp only[pe];rfl)):wpList Tryz.prog ops Q ((⟨dst,.build 87 #[(0,x),(2,y),(4,v),(5,z)],ty,pos,aft,grd⟩:Oper)::rest) a w :=
 zAZ hg (by
  simp only[execOp,List.map_toArray,List.map_cons,List.map_nil,h0,h1,h2,h3,Sem.run_bind,zQu];rfl) h
theorem fb3 {x y z:Operand} {p q r:Bool} (h:wpList Tryz.prog ops Q rest (a.put dst (zC0 (p,q,r))) w) (hg:Region.wanted (⟨dst,.build 92 #[(0,x),(1,y),(2,z)],ty,pos,aft,grd⟩:Oper) (yielded ops a.tmps)=true:=by first|rfl|exact zAO rfl (zAG rfl (by first|rfl|(simp only[pe];rfl)))) (h0:a.eval x=.bool p:=by first|(simp only[pe];done)|(simp only[pe];rfl)) (h1:a.eval y=.bool q:=by first|(simp only[pe];done)|(simp only[pe];rfl)) (h2:a.eval z=.bool r:=by first|(simp only[pe];done)|(simp only[pe];rfl)):wpList Tryz.prog ops Q ((⟨dst,.build 92 #[(0,x),(1,y),(2,z)],ty,pos,aft,grd⟩:Oper)::rest) a w :=
 zAZ hg (by
  simp only[execOp,List.map_toArray,List.map_cons,List.map_nil,h0,h1,h2,Sem.run_bind,zRX];rfl) h
theorem qS {x y:Operand} {t:TypeId} {s u:Nat→Nat} {q:Bool} (h:wpList Tryz.prog ops Q rest (a.put dst (.bool q)) w) (hg:Region.wanted (⟨dst,.binOp .eql 40 x y t,ty,pos,aft,grd⟩:Oper) (yielded ops a.tmps)=true:=by first|rfl|exact zAO rfl (zAG rfl (by first|rfl|(simp only[pe];rfl)))) (hx:a.eval x=setV s:=by (try simp only[pe]);with_reducible rfl) (hy:a.eval y=setV u:=by (try simp only[pe]);with_reducible rfl) (hq:eqS s u=q:=by first|assumption|rfl):wpList Tryz.prog ops Q ((⟨dst,.binOp .eql 40 x y t,ty,pos,aft,grd⟩:Oper)::rest) a w :=
 zAZ hg (by
  have he:=zF0 s u w;rw[hq]at he;simp only[execOp,hx,hy];unfold setV
  simp[go_sem,he]) h
theorem qN {x y:Operand} {t:TypeId} {s u:Nat→Nat} {q:Bool} (h:wpList Tryz.prog ops Q rest (a.put dst (.bool (!q))) w) (hg:Region.wanted (⟨dst,.binOp .neq 40 x y t,ty,pos,aft,grd⟩:Oper) (yielded ops a.tmps)=true:=by first|rfl|exact zAO rfl (zAG rfl (by first|rfl|(simp only[pe];rfl)))) (hx:a.eval x=setV s:=by (try simp only[pe]);with_reducible rfl) (hy:a.eval y=setV u:=by (try simp only[pe]);with_reducible rfl) (hq:eqS s u=q:=by first|assumption|rfl):wpList Tryz.prog ops Q ((⟨dst,.binOp .neq 40 x y t,ty,pos,aft,grd⟩:Oper)::rest) a w :=
 zAZ hg (by
  have he:=zF0 s u w;rw[hq]at he;simp only[execOp,hx,hy];unfold setV
  simp[go_sem,he]) h
theorem aGb (H:HoldG M w0 w l) {T:TypeId} {x:Operand} {i b:Nat} {cs:Array Value} {U:TypeId} {k:Nat} {z q:Bool} (h:wpList Tryz.prog ops Q rest (a.put dst (.bool q)) w) (hg:Region.wanted (⟨dst,.load T x,ty,pos,aft,grd⟩:Oper) (yielded ops a.tmps)=true:=by first|rfl|exact zAO rfl (zAG rfl (by first|rfl|(simp only[pe];rfl)))) (hx:a.eval x=.pointer (some ⟨b,k,none⟩):=by exact rfl) (hi:At l i (.blk b cs U):=by repeat (first|(with_reducible exact At.zero)|apply At.succ)) (hT:oneB Tryz.prog T=true:=by first|(with_reducible exact one_words)|(with_reducible exact one_errno)|(with_reducible exact one_ptr)|(with_reducible exact one_kind)|(with_reducible exact zAH)|(with_reducible exact zB0)|(with_reducible exact zEE)|(with_reducible exact zIY)|(with_reducible exact zAd)|(with_reducible exact one_u64)|(with_reducible exact zDZ)|(with_reducible exact zE5)|(with_reducible exact one_p10)|(with_reducible exact zBC)|(with_reducible exact zBc)|(with_reducible exact zB7)|(with_reducible exact zHM)|(with_reducible exact zBI)) (hv:cs[k]?=some (.bool z):=by first|(with_reducible exact wg0 _)|(with_reducible exact wg1 _)|(with_reducible exact wg2 _)|(with_reducible exact wg3 _)|(with_reducible exact wg4 _)|(with_reducible exact wg5 _)|(with_reducible exact wg6 _)|(with_reducible exact wg7 _)|(with_reducible exact wg8 _)|(with_reducible exact wg9 _)|(with_reducible exact wg10 _)|(with_reducible exact wg11 _)|(with_reducible exact wg12 _)|(with_reducible exact wg13 _)|(with_reducible exact wg14 _)|(with_reducible exact wg15 _)|(with_reducible exact wg16 _)|(with_reducible exact fg0 _)|(with_reducible exact fg1 _)|(with_reducible exact fg2 _)|(with_reducible exact ng0 _ _)|(with_reducible exact ng1 _ _)|(with_reducible exact ng2 _ _)|(with_reducible exact ng3 _ _)|(with_reducible exact ng4 _ _)|(with_reducible exact ng5 _ _)|(with_reducible exact ng6 _ _)|(with_reducible exact ng7 _ _)|(with_reducible exact ng8 _ _)|(with_reducible exact ng9 _ _)|rfl) (hq:z=q:=by assumption):wpList Tryz.prog ops Q ((⟨dst,.load T x,ty,pos,aft,grd⟩:Oper)::rest) a w :=
 by subst hq;exact zAp hg T x rfl hx H hi hT hv h
theorem aVn (H:HoldG M w0 w l) {T:TypeId} {x:Operand} {i b:Nat} {d:NodeD} {s:Value} {U:TypeId} (h:wpList Tryz.prog ops Q rest (a.put dst (setV d.set)) w) (hg:Region.wanted (⟨dst,.load T x,ty,pos,aft,grd⟩:Oper) (yielded ops a.tmps)=true:=by first|rfl|exact zAO rfl (zAG rfl (by first|rfl|(simp only[pe];rfl)))) (hx:a.eval x=.pointer (some ⟨b,1,none⟩):=by exact rfl) (hi:At l i (.blk b (zAU d s) U):=by repeat (first|(with_reducible exact At.zero)|apply At.succ)) (hT:rowB Tryz.prog T 4=true:=by with_reducible exact zBY):wpList Tryz.prog ops Q ((⟨dst,.load T x,ty,pos,aft,grd⟩:Oper)::rest) a w :=
 zJT hg T x rfl hx H hi (setC d.set) hT rfl h
end
theorem cht {M:Nat→Prop} {P:Program} {f:FuncId} {args:Array Value} {w w0:World} {l:List Res} {t:Tree} {G:Nat→Prop} {R:Ending→World→Prop} (c:Calls P f args w fun e w'=>zCP w G t e w'∧Below w.heap.size w w') (H:HoldG M w0 w l) (hG:Still l G)
  (k:∀ p n F w',(∀ b,F b→w0.heap.size≤b∨G b)→HoldG M w0 w' (l++[.kn F (fun V=>ForestR V F p n t.kids)])→R (.returned (zAc t.d (.slice p t.kids.length n))) w'):Calls P f args w R:=c.mono fun _ w' h=>by
 obtain⟨⟨p,n,F,rfl,hs,hF⟩,hb⟩:=h;exact k p n F w' (fun b h=>(hF b h).2.imp (fun h=>Nat.le_trans H.keep.size h) id) (H.learn hb hG hF (fun V hV=>hs.kept hV))
end
section
open Go.RowKit
theorem zIs (t:Array Value) (n:Nat) (h:t.size=n):t=((List.range n).map (fun i=>t.getD i undef)).toArray:=by
 subst h;apply Array.ext
 ·simp
 ·intro i h1 h2;simp[h1]
section
variable {P:Program} {ops:Array Oper} {o:Oper} {a:Act} {w:World} {D:Prop}
theorem zSQ {j:Nat} {d:Tmp} {want c b:Bool} {v:Value} (hgd:o.guard=some (j,want)) (hj:(ops[j]?).bind (·.dst)=some d) (hy:a.eval (.tmp d)=bif c then .bool b else undef) (hr:c=true→b=want→(execOp a.eval o).run P w=.ok (.value v) w) (hD:¬ D) :
  zA7 P ops o a w (fun v' _=>v'=(bif (c&&(b == want)) then v else undef)∧(D→w.heap.size≤blk v')):=by
 cases c with
 | false =>
  exact zKW (zJr hgd (zIT hj hy)) ⟨rfl,fun h=>(hD h).elim⟩
 | true =>
  by_cases hb:b=want
  ·subst hb;refine zBr (zAO hgd (zAG hj hy)) (hr rfl rfl) (Below.refl _ w) ⟨?_,fun h=>(hD h).elim⟩
   simp
  ·refine zKW (zCt hgd (zAG hj hy) hb) ⟨?_,fun h=>(hD h).elim⟩
   have:(b == want)=false:=by simpa using hb
   simp[this]
abbrev iT (c b want:Bool) (v:Value):Value:=bif c&&(b == want) then v else undef
theorem sy_ {j:Nat} {d:Tmp} {want c b:Bool} {v:Value} (hy:a.eval (.tmp d)=bif c then .bool b else undef) (hr:(c&&(b == want))=true→(execOp a.eval o).run P w=.ok (.value v) w) (hgd:o.guard=some (j,want):=by rfl) (hj:(ops[j]?).bind (·.dst)=some d:=by rfl) (hD:¬ D:=by decide) :
  zA7 P ops o a w (fun v' _=>v'=(bif (c&&(b == want)) then v else undef)∧(D→w.heap.size≤blk v')) :=
 zSQ hgd hj hy (fun hc hb=>hr (Bool.and_eq_true_iff.2 ⟨hc,beq_iff_eq.2 hb⟩)) hD
theorem zA1 {x y:Operand} {b q:Bool} (hop:o.op=Op.pick x y (.const (.bool false))) (hx:a.eval x=.bool b) (hy:b=true→a.eval y=.bool q):(execOp a.eval o).run P w=.ok (.value (.bool (b&&q))) w:=by
 cases b with
 | false=>simp only[execOp,hop,hx];rfl
 | true=>simp only[execOp,hop,hx,hy rfl];rfl
theorem zCA {x y:Operand} {b q:Bool} (hop:o.op=Op.pick x (.const (.bool true)) y) (hx:a.eval x=.bool b) (hy:b=false→a.eval y=.bool q):(execOp a.eval o).run P w=.ok (.value (.bool (b || q))) w:=by
 cases b with
 | true=>simp only[execOp,hop,hx];rfl
 | false=>simp only[execOp,hop,hx,hy rfl];rfl
theorem zAN {x:Operand} {v:Value} (hop:o.op=Op.move x∨o.op=Op.assign x) (hx:a.eval x=v):(execOp a.eval o).run P w=.ok (.value v) w:=by
 rcases hop with h|h<;>(simp only[execOp,h,hx];rfl)
theorem zAD {α:Type} {x u v:α} {c:Bool} (h:x=bif c then u else v) (hc:c=true):x=u:=by rw[h,hc];rfl
end
structure InstD where
 kind:Int
 set:Nat→Nat:=zAE
 next:Int:=0
 other:Int:=0
 slot:Int:=0
 spot:Int:=0
abbrev zA2:=List Int
abbrev Ent:=Nat × Nat × zA2
abbrev Way:=Nat × zA2
def zMN (b:Nat):Bool:=decide (48≤b)&&decide (b≤57) || decide (97≤b)&&decide (b≤122) || decide (65≤b)&&decide (b≤90) || b == 95
def zEP (s:Str) (i:Int):Bool:=if i<0∨(s.length:Int)≤i then false else zMN (byt s i.toNat)
def zCS (k:Int) (s:Str) (i:Int):Bool :=
 if i<0∨(s.length:Int)<i then false
 else if k=8 then i == 0
 else if k=9 then i == s.length
 else if k=10 then i == 0 || byt s (i - 1).toNat == 10
 else if k=11 then i == s.length || byt s i.toNat == 10
 else if k=12 then zEP s (i - 1) != zEP s i
 else if k=13 then zEP s (i - 1) == zEP s i
 else false
def inN (n:Nat) (x:Int):Bool:=decide (0≤x)&&decide (x<n)
def zBa (n:Nat) (x:InstD):Bool :=
 if x.kind=1 then !eqS x.set zAE&&inN n x.next&&(x.other == 0)&&(x.slot == 0)&&(x.spot == 0)
 else if x.kind=2 then eqS x.set zAE&&inN n x.next&&inN n x.other&&(x.slot == 0)&&(x.spot == 0)
 else if x.kind=3 then eqS x.set zAE&&inN n x.next&&(x.other == 0)&&inN 42 x.slot&&(x.spot == 0)
 else if x.kind=4 then eqS x.set zAE&&inN n x.next&&(x.other == 0)&&(x.slot == 0)&&(decide (8≤x.spot)&&decide (x.spot≤13))
 else if x.kind=5∨x.kind=6 then eqS x.set zAE&&(x.next == 0)&&(x.other == 0)&&(x.slot == 0)&&(x.spot == 0)
 else false
def zA3 (p:List InstD):Bool:=decide (1≤p.length)&&decide (p.length≤4000)&&p.all (zBa p.length)
def zJP (p:List InstD):Nat:=p.foldl (fun m x=>max m x.slot.toNat) 1
def zCe (p:List InstD):Nat:=zJP p / 2 * 2+2
section
variable (p:List InstD) (s:Str)
def atI (k:Nat):InstD:=p.getD k {kind:=6}
def sucE (k i:Nat) (sl:zA2):List Ent :=
 let x:=atI p k
 if x.kind=1 then (if i<s.length∧hasB x.set (byt s i)=true then [(x.next.toNat,i+1,sl)] else [])
 else if x.kind=2 then [(x.next.toNat,i,sl),(x.other.toNat,i,sl)]
 else if x.kind=3 then [(x.next.toNat,i,sl.set x.slot.toNat i)]
 else if x.kind=4 then (if zCS x.spot s i=true then [(x.next.toNat,i,sl)] else [])
 else []
def upS (S:Nat→Nat→Bool) (k i:Nat):Nat→Nat→Bool:=fun a j=>if a=k∧j=i then true else S a j
inductive Dfs (f:Option zA2):List Ent→(Nat→Nat→Bool)→Option zA2→Prop
 | nil (S):Dfs f [] S f
 | seen (k i sl r S res) (h:S k i=true) (hr:Dfs f r S res):Dfs f ((k,i,sl)::r) S res
 | hit (k i sl r S) (h:S k i=false) (hk:(atI p k).kind=5):Dfs f ((k,i,sl)::r) S (some sl)
 | go (k i sl r S res) (h:S k i=false) (hk:(atI p k).kind≠5) (hr:Dfs f (sucE p s k i sl++r) (upS S k i) res):Dfs f ((k,i,sl)::r) S res
def zAl (i:Nat):Nat→List Way→List Int→List Int × List Way
 | 0,_,m=>(m,[])
 | _+1,[],m=>(m,[])
 | n+1,(k,sl)::r,m =>
  if m.getD k 0=(i:Int)+1 then zAl i n r m
  else
   let x:=atI p k
   let m':=m.set k ((i:Int)+1)
   if x.kind=2 then zAl i n ((x.next.toNat,sl)::(x.other.toNat,sl)::r) m'
   else if x.kind=3 then zAl i n ((x.next.toNat,sl.set x.slot.toNat i)::r) m'
   else if x.kind=4 then (if zCS x.spot s i=true then zAl i n ((x.next.toNat,sl)::r) m' else zAl i n r m')
   else if x.kind=1∨x.kind=5 then ((zAl i n r m').1,(k,sl)::(zAl i n r m').2)
   else zAl i n r m'
def zCU:Nat:=3 * p.length+2
def zBt (i:Nat):List Way→List Int→List Int × List Way
 | [],m=>(m,[])
 | e::r,m=>((zBt i r (zAl p s i (zCU p) [e] m).1).1,(zAl p s i (zCU p) [e] m).2++(zBt i r (zAl p s i (zCU p) [e] m).1).2)
def zBN (i:Nat):List Way→Option zA2 × List Way
 | []=>(none,[])
 | (k,sl)::r =>
  if (atI p k).kind=5 then (some sl,[])
  else if i<s.length∧hasB (atI p k).set (byt s i)=true then ((zBN i r).1,((atI p k).next.toNat,sl)::(zBN i r).2)
  else zBN i r
def orP (a b:Option zA2):Option zA2:=match a with|some x=>some x|none=>b
def zEb (none_:zA2) (found:Option zA2) (l:List Way):List Way:=match found with|some _=>l|none=>l++[(0,none_)]
def zHZ (none_:zA2):Nat→Nat→List Way→Option zA2→List Int→Option zA2
 | 0,_,_,found,_=>found
 | n+1,i,l,found,m =>
  let a:=zBt p s i (zEb none_ found l) m
  let b:=zBN p s i a.2
  if (orP b.1 found).isSome&&b.2.isEmpty then orP b.1 found else zHZ none_ n (i+1) b.2 (orP b.1 found) a.1
def runP (at_:Int):Option zA2 :=
 if at_<0∨(s.length:Int)<at_∨zA3 p=false then none
 else zHZ p s (List.replicate (zCe p) (-1)) (s.length+1 - at_.toNat) at_.toNat [] none (List.replicate p.length 0)
variable {p s}
theorem Dfs.one {f:Option zA2} {st:List Ent} {S:Nat→Nat→Bool} {a b:Option zA2} (h:Dfs p s f st S a) (k:Dfs p s f st S b):a=b:=by
 induction h generalizing b with
 | nil S=>cases k;rfl
 | seen k i sl r S res hs hr ih =>
  cases k with
  | seen _ _ _ _ _ _ _ h=>exact ih h
  | hit _ _ _ _ _ h=>rw[hs]at h;cases h
  | go _ _ _ _ _ _ h=>rw[hs]at h;cases h
 | hit k i sl r S hs hk =>
  cases k with
  | seen _ _ _ _ _ _ h=>rw[hs]at h;cases h
  | hit=>rfl
  | go _ _ _ _ _ _ _ h=>exact absurd hk h
 | go k i sl r S res hs hk hr ih =>
  cases k with
  | seen _ _ _ _ _ _ h=>rw[hs]at h;cases h
  | hit _ _ _ _ _ _ h=>exact absurd h hk
  | go _ _ _ _ _ _ _ _ h=>exact ih h
def Above (i:Nat) (st:List Ent):Prop:=∀ e ∈ st,i≤e.2.1
theorem Above.cons {i:Nat} {e:Ent} {st:List Ent} (h:Above i (e::st)):Above i st:=fun x hx=>h x (List.mem_cons_of_mem _ hx)
theorem Above.append {i:Nat} {a b:List Ent} (h:Above i a) (k:Above i b):Above i (a++b):=fun x hx=>(List.mem_append.1 hx).elim (h x) (k x)
theorem zJt {k i j:Nat} {sl:zA2} (h:j≤i):Above j (sucE p s k i sl):=by
 intro e he;unfold sucE at he;simp only at he;split at he
 ·split at he
  ·simp at he;subst he;simp;omega
  ·cases he
 split at he
 ·simp at he;rcases he with rfl|rfl<;>simpa
 split at he
 ·simp at he;subst he;simpa
 split at he
 ·split at he
  ·simp at he;subst he;simpa
  ·cases he
 ·cases he
theorem Dfs.frame {f:Option zA2} {st:List Ent} {S T:Nat→Nat→Bool} {res:Option zA2} {i:Nat} (h:Dfs p s f st S res) (ha:Above i st) (hST:∀ k j,i≤j→T k j=S k j):Dfs p s f st T res:=by
 induction h generalizing T with
 | nil S=>exact .nil T
 | seen k j sl r S res hs hr ih=>exact .seen _ _ _ _ _ _ ((hST k j (ha _ (List.mem_cons_self ..))).trans hs) (ih ha.cons hST)
 | hit k j sl r S hs hk=>exact .hit _ _ _ _ _ ((hST k j (ha _ (List.mem_cons_self ..))).trans hs) hk
 | go k j sl r S res hs hk hr ih =>
  have hj:=ha _ (List.mem_cons_self ..);refine .go _ _ _ _ _ _ ((hST k j hj).trans hs) hk (ih ((zJt hj).append ha.cons) fun a b hb=>?_)
  unfold upS;split
  ·rfl
  ·exact hST a b hb
def lvl (S:Nat→Nat→Bool) (i:Nat) (m:List Int):Nat→Nat→Bool:=fun k j=>if j=i then m.getD k 0 == (i:Int)+1 else S k j
theorem zRL (S:Nat→Nat→Bool) (i:Nat) (m m':List Int):lvl (lvl S i m) i m'=lvl S i m':=by
 funext k j;unfold lvl;split<;>rfl
theorem Dfs.swap {f g:Option zA2} {A B:List Ent} {res:Option zA2} {i:Nat} {m m':List Int}
  (K:∀ T:Nat→Nat→Bool,(∀ k,T k i=(m.getD k 0 == (i:Int)+1))→Dfs p s g A (lvl T i m') res→Dfs p s f B T res) :
  ∀ {st:List Ent} {V:Nat→Nat→Bool} {r:Option zA2},Dfs p s g st V r→r=res→∀ (X:List Ent) (S:Nat→Nat→Bool),st=X++A→V=lvl S i m'→Above (i+1) X→(∀ k,S k i=(m.getD k 0 == (i:Int)+1))→Dfs p s f (X++B) S res:=by
 intro st V r h
 induction h with
 | nil V =>
  intro hr X S e hV ha hS;obtain⟨rfl,rfl⟩:=List.append_eq_nil_iff.1 e.symm;subst hV hr;exact K S hS (.nil _)
 | seen k j sl r V res' hs hr ih =>
  intro hres X S e hV ha hS
  cases X with
  | nil =>
   simp only[List.nil_append]at e ⊢;subst hV hres;rw[← e]at K;exact K S hS (.seen _ _ _ _ _ _ hs hr)
  | cons x X =>
   simp only[List.cons_append,List.cons.injEq]at e;obtain⟨rfl,rfl⟩:=e;have hj:=ha _ (List.mem_cons_self ..);simp only at hj;refine .seen _ _ _ _ _ _ ?_ (ih hres X S rfl hV ha.cons hS);rw[hV]at hs;unfold lvl at hs
   rwa [if_neg (by omega)]at hs
 | hit k j sl r V hs hk =>
  intro hres X S e hV ha hS
  cases X with
  | nil =>
   simp only[List.nil_append]at e ⊢;subst hV hres;rw[← e]at K;exact K S hS (.hit _ _ _ _ _ hs hk)
  | cons x X =>
   simp only[List.cons_append,List.cons.injEq]at e;obtain⟨rfl,rfl⟩:=e;have hj:=ha _ (List.mem_cons_self ..);simp only at hj;subst hres;refine .hit _ _ _ _ _ ?_ hk;rw[hV]at hs;unfold lvl at hs
   rwa [if_neg (by omega)]at hs
 | go k j sl r V res' hs hk hr ih =>
  intro hres X S e hV ha hS
  cases X with
  | nil =>
   simp only[List.nil_append]at e ⊢;subst hV hres;rw[← e]at K;exact K S hS (.go _ _ _ _ _ _ hs hk hr)
  | cons x X =>
   simp only[List.cons_append,List.cons.injEq]at e;obtain⟨rfl,rfl⟩:=e;have hj:=ha _ (List.mem_cons_self ..);simp only at hj;refine .go _ _ _ _ _ _ ?_ hk ?_
   ·rw[hV]at hs;unfold lvl at hs
    rwa [if_neg (by omega)]at hs
   ·show Dfs p s f (sucE p s k j sl++(X++B)) _ _
    rw[← List.append_assoc];refine ih hres _ (upS S k j) (by rw[List.append_assoc]) ?_ ((zJt hj).append ha.cons) (fun a=>?_)
    ·rw[hV];funext a b;unfold upS lvl
     by_cases hb:b=i
     ·simp[hb];omega
     ·simp[hb]
    ·unfold upS;rw[if_neg (by omega)];exact hS a
def at_ (i:Nat) (l:List Way):List Ent:=l.map fun e=>(e.1,i,e.2)
theorem zLj (i j:Nat) (l:List Way) (h:i≤j):Above i (at_ j l):=by
 intro e he;obtain⟨x,_,rfl⟩:=List.mem_map.1 he;exact h
theorem zNh (i:Nat) (a b:List Way):at_ i (a++b)=at_ i a++at_ i b:=by simp[at_]
def remF (o:Option zA2) (R:List Ent):List Ent:=match o with|some _=>[]|none=>R
theorem zEK (i:Nat):∀ a b:List Way,zBN p s i (a++b)=match zBN p s i a with|(some x,l)=>(some x,l)|(none,l)=>((zBN p s i b).1,l++(zBN p s i b).2)
 | [],b=>by simp[zBN]
 | (k,sl)::r,b=>by
  simp only[List.cons_append,zBN];split
  ·rfl
  ·rw[zEK i r b];split
   ·rcases zBN p s i r with ⟨_|x,l⟩<;>rfl
   ·rcases zBN p s i r with ⟨_|x,l⟩<;>rfl
def unm (i:Nat) (m:List Int):Nat:=m.countP (fun x=>!(x == (i:Int)+1))
theorem zKh {i:Nat}:∀ {m:List Int} {k:Nat},k<m.length→m.getD k 0≠(i:Int)+1→unm i (m.set k ((i:Int)+1))+1=unm i m
 | [],_,h,_=>by simp at h
 | x::m,0,_,hx=>by
  have hx':x≠(i:Int)+1:=by simpa using hx
  simp[unm,hx']
 | x::m,k+1,h,hx=>by
  have ih:=zKh (i:=i) (m:=m) (k:=k) (by simpa using h) (by simpa using hx)
  simp only[unm,List.set_cons_succ,List.countP_cons]at *;omega
theorem zFs {m:List Int} {k:Nat} {v:Int} (h:k<m.length):(m.set k v).getD k 0=v:=by simp[List.getD_eq_getElem?_getD,h]
theorem zFB {m:List Int} {k j:Nat} {v:Int} (h:j≠k):(m.set k v).getD j 0=m.getD j 0:=by simp[List.getD_eq_getElem?_getD,Ne.symm h]
theorem zOZ (i:Nat) (m:List Int):unm i m≤m.length:=List.countP_le_length
def zFW (p:List InstD):Prop:=0<p.length∧∀ k,k<p.length→((atI p k).kind≠5→(atI p k).next.toNat<p.length)∧((atI p k).kind=2→(atI p k).other.toNat<p.length)
def InW (p:List InstD) (l:List Way):Prop:=∀ e ∈ l,e.1<p.length
theorem InW.cons {e:Way} {l:List Way} (h:e.1<p.length) (k:InW p l):InW p (e::l):=fun x hx=>(List.mem_cons.1 hx).elim (fun e=>e ▸ h) (k x)
theorem InW.tail {e:Way} {l:List Way} (h:InW p (e::l)):InW p l:=fun x hx=>h x (List.mem_cons_of_mem _ hx)
theorem InW.append {a b:List Way} (h:InW p a) (k:InW p b):InW p (a++b):=fun x hx=>(List.mem_append.1 hx).elim (h x) (k x)
theorem zHO (S:Nat→Nat→Bool) (k i:Nat) (m:List Int):lvl (upS S k i) i m=lvl S i m:=by
 funext a j;unfold lvl upS
 by_cases h:j=i
 ·simp[h]
 ·simp[h]
theorem zKz {S:Nat→Nat→Bool} {i:Nat} {m:List Int} (h:∀ k,S k i=(m.getD k 0 == (i:Int)+1)):lvl S i m=S:=by
 funext a j;unfold lvl
 split
 ·rename_i e;subst e;exact(h a).symm
 ·rfl
theorem zPr {T:Nat→Nat→Bool} {i k:Nat} {m:List Int} (hk:k<m.length) (hT:∀ k,T k i=(m.getD k 0 == (i:Int)+1)):∀ a,upS T k i a i=((m.set k ((i:Int)+1)).getD a 0 == (i:Int)+1):=by
 intro a;unfold upS
 by_cases h:a=k
 ·subst h;rw[zFs hk];simp
 ·rw[zFB h];simp[h,hT]
theorem zCK (i:Nat):∀ (n:Nat) (l:List Way) (m:List Int),(zAl p s i n l m).1.length=m.length
 | 0,_,_=>rfl
 | _+1,[],_=>rfl
 | n+1,(k,sl)::r,m=>by
  simp only[zAl];split
  ·exact zCK i n r m
  split
  ·rw[zCK];simp
  split
  ·rw[zCK];simp
  split
  ·split
   ·rw[zCK];simp
   ·rw[zCK];simp
  split
  ·simp only;rw[zCK];simp
  ·rw[zCK];simp
theorem zDe (i:Nat) {j:Int} (hj:(i:Int)+1≤j):∀ (n:Nat) (l:List Way) (m:List Int),(∀ k,m.getD k 0≤j)→∀ k,(zAl p s i n l m).1.getD k 0≤j
 | 0,_,_,h=>h
 | _+1,[],_,h=>h
 | n+1,(k,sl)::r,m,h=>by
  have h':∀ a,(m.set k ((i:Int)+1)).getD a 0≤j:=fun a=>by
   by_cases e:a=k
   ·subst e
    by_cases hl:a<m.length
    ·rw[zFs hl];exact hj
    ·rw[List.set_eq_of_length_le (by omega)];exact h a
   ·rw[zFB e];exact h a
  simp only[zAl];split
  ·exact zDe i hj n r m h
  split
  ·exact zDe i hj n _ _ h'
  split
  ·exact zDe i hj n _ _ h'
  split
  ·split
   ·exact zDe i hj n _ _ h'
   ·exact zDe i hj n _ _ h'
  split
  ·exact zDe i hj n _ _ h'
  ·exact zDe i hj n _ _ h'
theorem zDa (hp:zFW p) (i:Nat):∀ (n:Nat) (l:List Way) (m:List Int),InW p l→InW p (zAl p s i n l m).2
 | 0,_,_,_=>fun _ h=>by cases h
 | _+1,[],_,_=>fun _ h=>by cases h
 | n+1,(k,sl)::r,m,h=>by
  have hk:k<p.length:=h (k,sl) (List.mem_cons_self ..);obtain⟨h1,h2⟩:=hp.2 k hk;simp only[zAl];split
  ·exact zDa hp i n r m h.tail
  split
  ·rename_i hk2;exact zDa hp i n _ _ (.cons (h1 (by rw[hk2];decide)) (.cons (h2 hk2) h.tail))
  split
  ·rename_i hk2;exact zDa hp i n _ _ (.cons (h1 (by rw[hk2];decide)) h.tail)
  split
  ·rename_i hk2;split
   ·exact zDa hp i n _ _ (.cons (h1 (by rw[hk2];decide)) h.tail)
   ·exact zDa hp i n _ _ h.tail
  split
  ·exact .cons hk (zDa hp i n _ _ h.tail)
  ·exact zDa hp i n _ _ h.tail
theorem zKa (hp:zFW p) (i:Nat):∀ l:List Way,InW p l→InW p (zBN p s i l).2
 | [],_=>fun _ h=>by cases h
 | (k,sl)::r,h=>by
  have hk:k<p.length:=h (k,sl) (List.mem_cons_self ..);simp only[zBN];split
  ·intro _ h;cases h
  split
  ·rename_i h5 _;exact .cons ((hp.2 k hk).1 h5) (zKa hp i r h.tail)
  ·exact zKa hp i r h.tail
theorem zLO {i:Nat} (h:s.length≤i):∀ l:List Way,(zBN p s i l).2=[]
 | []=>rfl
 | (k,sl)::r=>by
  simp only[zBN];split
  ·rfl
  split
  ·omega
  ·exact zLO h r
theorem zI1 (i:Nat):∀ (l:List Way) (m:List Int),(zBt p s i l m).1.length=m.length
 | [],_=>rfl
 | e::r,m=>by simp only[zBt];rw[zI1,zCK]
theorem zMp (i:Nat) {j:Int} (hj:(i:Int)+1≤j):∀ (l:List Way) (m:List Int),(∀ k,m.getD k 0≤j)→∀ k,(zBt p s i l m).1.getD k 0≤j
 | [],_,h=>h
 | e::r,m,h=>by simp only[zBt];exact zMp i hj r _ (zDe i hj _ _ _ h)
theorem zKI (hp:zFW p) (i:Nat):∀ (l:List Way) (m:List Int),InW p l→InW p (zBt p s i l m).2
 | [],_,_=>fun _ h=>by cases h
 | e::r,m,h=>by
  simp only[zBt];exact(zDa hp i _ _ _ (.cons (h e (List.mem_cons_self ..)) (fun _ h=>by cases h))).append (zKI hp i r _ h.tail)
theorem zBj (hp:zFW p) (i:Nat):∀ (n:Nat) (l:List Way) (m:List Int),m.length=p.length→InW p l→3 * unm i m+l.length<n→∀ (f:Option zA2) (R:List Ent) (T:Nat→Nat→Bool) (res:Option zA2),(∀ k,T k i=(m.getD k 0 == (i:Int)+1)) →
  Dfs p s (orP (zBN p s i (zAl p s i n l m).2).1 f) (at_ (i+1) (zBN p s i (zAl p s i n l m).2).2++remF (zBN p s i (zAl p s i n l m).2).1 R) (lvl T i (zAl p s i n l m).1) res→Dfs p s f (at_ i l++R) T res
 | 0,_,_,_,_,h=>by omega
 | n+1,[],m,_,_,_=>fun f R T res hT h=>by
  simp only[zAl,zBN,orP,remF,at_,List.map_nil,List.nil_append]at h ⊢
  rwa [zKz hT]at h
 | n+1,(k,sl)::r,m,hm,hl,hn=>fun f R T res hT h=>by
  have hk:k<p.length:=hl (k,sl) (List.mem_cons_self ..);have hkm:k<m.length:=by omega
  obtain⟨h1,h2⟩:=hp.2 k hk;simp only[List.length_cons]at hn
  show Dfs p s f ((k,i,sl)::(at_ i r++R)) T res
  by_cases hmk:m.getD k 0=(i:Int)+1
  ·simp only[zAl,if_pos hmk]at h;exact .seen _ _ _ _ _ _ (by rw[hT,hmk];simp) (zBj hp i n r m hm hl.tail (by omega) f R T res hT h)
  ·have hu:=zKh hkm hmk;have hTk:T k i=false:=by rw[hT,beq_eq_false_iff_ne];exact hmk
   have hT':=zPr hkm hT;have hm':(m.set k ((i:Int)+1)).length=p.length:=by simpa using hm
   simp only[zAl,if_neg hmk]at h
   by_cases k2:(atI p k).kind=2
   ·simp only[if_pos k2]at h;have hn5:(atI p k).kind≠5:=by rw[k2];decide
    refine .go _ _ _ _ _ _ hTk hn5 ?_
    have hs:sucE p s k i sl=[((atI p k).next.toNat,i,sl),((atI p k).other.toNat,i,sl)]:=by
     unfold sucE;simp[k2]
    rw[hs];exact zBj hp i n _ _ hm' (.cons (h1 hn5) (.cons (h2 k2) hl.tail)) (by simp only[List.length_cons];omega) f R _ res hT' (by rw[zHO];exact h)
   ·simp only[if_neg k2]at h
    by_cases k3:(atI p k).kind=3
    ·simp only[if_pos k3]at h;have hn5:(atI p k).kind≠5:=by rw[k3];decide
     refine .go _ _ _ _ _ _ hTk hn5 ?_
     have hs:sucE p s k i sl=[((atI p k).next.toNat,i,sl.set (atI p k).slot.toNat i)]:=by
      unfold sucE;simp[k3]
     rw[hs];exact zBj hp i n _ _ hm' (.cons (h1 hn5) hl.tail) (by simp only[List.length_cons];omega) f R _ res hT' (by rw[zHO];exact h)
    ·simp only[if_neg k3]at h
     by_cases k4:(atI p k).kind=4
     ·simp only[if_pos k4]at h;have hn5:(atI p k).kind≠5:=by rw[k4];decide
      refine .go _ _ _ _ _ _ hTk hn5 ?_
      by_cases hsp:zCS (atI p k).spot s i=true
      ·simp only[if_pos hsp]at h;have hs:sucE p s k i sl=[((atI p k).next.toNat,i,sl)]:=by
        unfold sucE;simp[k4,hsp]
       rw[hs];exact zBj hp i n _ _ hm' (.cons (h1 hn5) hl.tail) (by simp only[List.length_cons];omega) f R _ res hT' (by rw[zHO];exact h)
      ·simp only[if_neg hsp]at h;have hs:sucE p s k i sl=[]:=by
        unfold sucE;simp[k4,hsp]
       rw[hs];exact zBj hp i n _ _ hm' hl.tail (by omega) f R _ res hT' (by rw[zHO];exact h)
     ·simp only[if_neg k4]at h
      by_cases k15:(atI p k).kind=1∨(atI p k).kind=5
      ·simp only[if_pos k15]at h
       by_cases k5:(atI p k).kind=5
       ·simp only[zBN,if_pos k5,orP,remF,at_,List.map_nil,List.nil_append]at h
        cases h
        exact .hit _ _ _ _ _ hTk k5
       ·have k1:(atI p k).kind=1:=k15.resolve_right k5;refine .go _ _ _ _ _ _ hTk k5 ?_
        by_cases hb:i<s.length∧hasB (atI p k).set (byt s i)=true
        ·simp only[zBN,if_neg k5,if_pos hb]at h;have hs:sucE p s k i sl=[((atI p k).next.toNat,i+1,sl)]:=by
          unfold sucE;simp[k1,hb]
         rw[hs];refine Dfs.swap (i:=i) (m:=m.set k ((i:Int)+1)) (m':=(zAl p s i n r (m.set k ((i:Int)+1))).1) (fun T' hT2 h2=>zBj hp i n r _ hm' hl.tail (by omega) f R T' res hT2 h2) (by rw[zHO];exact h) rfl [_] _ rfl rfl (fun x hx=>?_) hT'
         simp at hx;subst hx;exact Nat.le_refl _
        ·simp only[zBN,if_neg k5,if_neg hb]at h;have hs:sucE p s k i sl=[]:=by
          unfold sucE;simp only[k1];simp[hb]
         rw[hs];exact zBj hp i n _ _ hm' hl.tail (by omega) f R _ res hT' (by rw[zHO];exact h)
      ·simp only[if_neg k15]at h;have hn5:(atI p k).kind≠5:=fun e=>k15 (.inr e)
       have hn1:(atI p k).kind≠1:=fun e=>k15 (.inl e)
       refine .go _ _ _ _ _ _ hTk hn5 ?_
       have hs:sucE p s k i sl=[]:=by
        unfold sucE;simp[k2,k3,k4,hn1]
       rw[hs];exact zBj hp i n _ _ hm' hl.tail (by omega) f R _ res hT' (by rw[zHO];exact h)
theorem zHp (hp:zFW p) (i:Nat):∀ (l:List Way) (m:List Int),m.length=p.length→InW p l→∀ (f:Option zA2) (R:List Ent) (T:Nat→Nat→Bool) (res:Option zA2),(∀ k,T k i=(m.getD k 0 == (i:Int)+1)) →
  Dfs p s (orP (zBN p s i (zBt p s i l m).2).1 f) (at_ (i+1) (zBN p s i (zBt p s i l m).2).2++remF (zBN p s i (zBt p s i l m).2).1 R) (lvl T i (zBt p s i l m).1) res→Dfs p s f (at_ i l++R) T res
 | [],m,_,_=>fun f R T res hT h=>by
  simp only[zBt,zBN,orP,remF,at_,List.map_nil,List.nil_append]at h ⊢
  rwa [zKz hT]at h
 | e::r,m,hm,hl=>fun f R T res hT h=>by
  have hm1:=(zCK (p:=p) (s:=s) i (zCU p) [e] m).trans hm;have hE:InW p [e]:=.cons (hl e (List.mem_cons_self ..)) (fun _ h=>by cases h)
  have hfu:3 * unm i m+[e].length<zCU p:=by
   have:=zOZ i m;simp only[List.length_cons,List.length_nil,zCU];omega
  have key:=zBj (s:=s) hp i (zCU p) [e] m hm hE hfu f (at_ i r++R) T res hT;refine key ?_
  simp only[zBt]at h;rw[zEK]at h
  revert h
  generalize hst:zBN p s i (zAl p s i (zCU p) [e] m).2=st
  rcases st with ⟨_|x,l1⟩
  ·intro h;simp only[orP,remF]at h ⊢;have hh:=Dfs.swap (p:=p) (s:=s) (f:=f) (g:=orP (zBN p s i (zBt p s i r (zAl p s i (zCU p) [e] m).1).2).1 f) (A:=at_ (i+1) (zBN p s i (zBt p s i r (zAl p s i (zCU p) [e] m).1).2).2++remF (zBN p s i (zBt p s i r (zAl p s i (zCU p) [e] m).1).2).1 R) (B:=at_ i r++R) (res:=res) (i:=i) (m:=(zAl p s i (zCU p) [e] m).1) (m':=(zBt p s i r (zAl p s i (zCU p) [e] m).1).1)
    (fun T' hT2 h2=>zHp hp i r _ hm1 hl.tail f R T' res hT2 h2)
    (st:=at_ (i+1) l1++(at_ (i+1) (zBN p s i (zBt p s i r (zAl p s i (zCU p) [e] m).1).2).2++remF (zBN p s i (zBt p s i r (zAl p s i (zCU p) [e] m).1).2).1 R))
    (V:=lvl T i (zBt p s i r (zAl p s i (zCU p) [e] m).1).1) (r:=res)
    (by rw[zNh,List.append_assoc]at h;exact h) rfl (at_ (i+1) l1) (lvl T i (zAl p s i (zCU p) [e] m).1) rfl (zRL ..).symm (zLj _ _ _ (Nat.le_refl _)) (fun k=>by unfold lvl;rw[if_pos rfl])
   exact hh
  ·intro h;simp only[orP,remF,List.append_nil]at h ⊢;exact h.frame (zLj _ _ _ (Nat.le_refl _)) (fun k j hj=>by unfold lvl;rw[if_neg (by omega),if_neg (by omega)])
def zCY (none_:zA2) (found:Option zA2) (i n:Nat):List Ent:=match found with|some _=>[]|none=>(List.range' i n).map fun j=>(0,j,none_)
theorem zM9 (hp:zFW p) (none_:zA2):∀ (n i:Nat) (l:List Way) (found:Option zA2) (m:List Int),n+i=s.length+1→(n=0→l=[])→m.length=p.length→(∀ k,m.getD k 0≤i)→InW p l→∀ S:Nat→Nat→Bool,(∀ k j,i≤j→S k j=false) →
  Dfs p s found (at_ i l++zCY none_ found i n) S (zHZ p s none_ n i l found m)
 | 0,i,l,found,m,hn,h0,hm,hmi,hl,S,hS=>by
  rw[h0 rfl];simp only[zHZ,at_,List.map_nil,List.nil_append]
  cases found<;>exact .nil S
 | n+1,i,l,found,m,hn,h0,hm,hmi,hl,S,hS=>by
  have e:at_ i l++zCY none_ found i (n+1)=at_ i (zEb none_ found l)++zCY none_ found (i+1) n:=by
   cases found with
   | some x=>rfl
   | none=>simp[zCY,zEb,at_,List.range'_succ]
  have hl':InW p (zEb none_ found l):=by
   cases found with
   | some x=>exact hl
   | none=>exact hl.append (.cons hp.1 (fun _ h=>by cases h))
  have hT:∀ k,S k i=(m.getD k 0 == (i:Int)+1):=fun k=>by
   rw[hS k i (Nat.le_refl _)];have:=hmi k
   symm;rw[beq_eq_false_iff_ne];omega
  rw[e];refine zHp hp i _ m hm hl' found _ S _ hT ?_
  have hin:=zKa (s:=s) hp i _ (zKI (s:=s) hp i _ m hl');have hle:=zMp (p:=p) (s:=s) i (Int.le_refl _) (zEb none_ found l) m (fun k=>Int.le_trans (hmi k) (by omega))
  have hlen:=(zI1 (p:=p) (s:=s) i (zEb none_ found l) m).trans hm;have hend:n=0→(zBN p s i (zBt p s i (zEb none_ found l) m).2).2=[]:=fun h=>zLO (by omega) _
  simp only[zHZ]
  revert hin hle hlen hend
  generalize zBt p s i (zEb none_ found l) m=a
  generalize zBN p s i a.2=b
  intro hin hle hlen hend;have er:remF b.1 (zCY none_ found (i+1) n)=zCY none_ (orP b.1 found) (i+1) n:=by
   rcases b with ⟨_|x,l1⟩<;>rfl
  rw[er];split
  ·rename_i hc;simp only[Bool.and_eq_true,List.isEmpty_iff]at hc;rw[hc.2];obtain⟨x,hx⟩:=Option.isSome_iff_exists.1 hc.1;rw[hx];exact .nil _
  ·exact zM9 hp none_ n (i+1) _ _ _ (by omega) hend hlen (fun k=>by have:=hle k;omega) hin _ (fun k j hj=>by unfold lvl;rw[if_neg (by omega)];exact hS k j (by omega))
theorem zGq (h:zA3 p=true):zFW p:=by
 simp only[zA3,Bool.and_eq_true,decide_eq_true_eq,List.all_eq_true]at h;obtain⟨⟨h1,_⟩,h3⟩:=h;refine⟨h1,fun k hk=>?_⟩
 have hx:=h3 (atI p k) (by unfold atI;rw[List.getD_eq_getElem?_getD,List.getElem?_eq_getElem hk];exact List.getElem_mem hk)
 revert hx
 generalize atI p k=x
 intro hx;unfold zBa at hx;split at hx
 ·simp[inN]at hx;refine⟨fun _=>by omega,fun h=>by omega⟩
 split at hx
 ·simp[inN]at hx;refine⟨fun _=>by omega,fun h=>by omega⟩
 split at hx
 ·simp[inN]at hx;refine⟨fun _=>by omega,fun h=>by omega⟩
 split at hx
 ·simp[inN]at hx;refine⟨fun _=>by omega,fun h=>by omega⟩
 split at hx
 ·simp at hx;refine⟨fun _=>by omega,fun h=>by omega⟩
 ·cases hx
theorem zK4 {a:Int} (h0:0≤a) (h1:a≤s.length) (h:zA3 p=true):Dfs p s none (zCY (List.replicate (zCe p) (-1)) none a.toNat (s.length+1 - a.toNat)) (fun _ _=>false) (runP p s a):=by
 unfold runP;rw[if_neg (by rw[h];simp;omega)]
 have:=zM9 (s:=s) (zGq h) (List.replicate (zCe p) (-1)) (s.length+1 - a.toNat) a.toNat [] none (List.replicate p.length 0) (by omega) (fun _=>rfl) (by simp) (fun k=>by
  rw[List.getD_eq_getElem?_getD]
  by_cases hk:k<p.length
  ·simp[hk];omega
  ·simp[hk];omega) (fun _ h=>by cases h) (fun _ _=>false) (fun _ _ _=>rfl)
 simpa [at_] using this
end
end
end Go.Proofs.YtdoflhjhaciepaaGreat
