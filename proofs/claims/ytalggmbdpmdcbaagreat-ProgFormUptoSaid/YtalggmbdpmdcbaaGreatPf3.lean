/-
  Laws of walks, and walks.
-/
import Derived.Test.YtalggmbdpmdcbaaGreatPf2
import Derived.Test.YtalggmbdpmdcbaaGreatRows
import Derived.Test.YtalggmbdpmdcbaaGreatPf1
set_option linter.unusedVariables false
set_option linter.unusedSimpArgs false
set_option maxRecDepth 100000
set_option maxHeartbeats 16000000
namespace Go.Proofs.YtalggmbdpmdcbaaGreat
section
open Go.RowKit
structure NodeD where
 kind:Int
 set:Nat->Nat:=zAN
 lo:Int:=0
 hi:Int:=0
 lazy:Bool:=false
 group:Int:=0
inductive Tree where
 | mk (d:NodeD) (kids:List Tree)
def Tree.d:Tree->NodeD|.mk d _=>d
def Tree.kids:Tree->List Tree|.mk _ k=>k
theorem Tree.eta (t:Tree):Tree.mk t.d t.kids=t:=by cases t;rfl
mutual
def zAB:Tree->Nat
 | .mk _ ks=>1+zAF ks
def zAF:List Tree->Nat
 | []=>0
 | t::r=>zAB t+zAF r
end
mutual
def zC4:Tree->Nat
 | .mk _ ks=>zBJ ks+1
def zBJ:List Tree->Nat
 | []=>0
 | t::r=>max (zC4 t) (zBJ r)
end
theorem zC0 (t:Tree):zAB t=1+zAF t.kids:=by cases t;simp[zAB,Tree.kids]
theorem zJ1 (t:Tree):zC4 t=zBJ t.kids+1:=by cases t;simp[zC4,Tree.kids]
theorem zBX (t:Tree):0<zAB t:=by rw[zC0];omega
theorem zAZ:∀ (a b:List Tree),zAF (a++b)=zAF a+zAF b
 | [],b=>by simp[zAF]
 | t::r,b=>by simp only[List.cons_append,zAF];rw[zAZ r b];omega
theorem zDU:∀ (a b:List Tree),zBJ (a++b)=max (zBJ a) (zBJ b)
 | [],b=>by simp[zBJ]
 | t::r,b=>by simp only[List.cons_append,zBJ];rw[zDU r b];omega
theorem zAx (t:Tree):zAF [t]=zAB t:=by simp[zAF]
theorem zD5 (t:Tree):zBJ [t]=zC4 t:=by simp[zBJ]
theorem zBb {α:Type} {l:List α} {i:Nat} {x:α} (h:l[i]?=some x):l.take (i+1)=l.take i++[x]:=by
 rw[List.take_add_one,h];rfl
theorem zET {ts:List Tree} {i:Nat} {t:Tree} (h:ts[i]?=some t):zAF (ts.take (i+1))=zAF (ts.take i)+zAB t:=by
 rw[zBb h,zAZ,zAx]
theorem zI3 {ts:List Tree} {i:Nat} {t:Tree} (h:ts[i]?=some t):zBJ (ts.take (i+1))=max (zBJ (ts.take i)) (zC4 t):=by
 rw[zBb h,zDU,zD5]
theorem zD4 {ts:List Tree} {i:Nat} {t:Tree} (h:ts[i]?=some t):zAF (ts.take i)+zAB t<=zAF ts:=by
 rw[← zET h]
 conv=>rhs;rw[← List.take_append_drop (i+1) ts,zAZ]
 omega
theorem zBp:∀ ts:List Tree,ts.length<=zAF ts
 | []=>by simp
 | t::r=>by have:=zBp r;have:=zBX t;simp only[List.length_cons,zAF];omega
mutual
theorem zGG:∀ t:Tree,zC4 t<=zAB t
 | .mk d ks=>by have:=zFN ks;simp only[zC4,zAB];omega
theorem zFN:∀ ts:List Tree,zBJ ts<=zAF ts
 | []=>by simp[zBJ]
 | t::r=>by have:=zGG t;have:=zFN r;simp only[zBJ,zAF];omega
end
def zAR (d:NodeD) (s:Value):Array Value:=#[.int .i64 d.kind,.int .u64 (d.set 0),.int .u64 (d.set 1),.int .u64 (d.set 2),.int .u64 (d.set 3),s,.int .i64 d.lo,.int .i64 d.hi,.bool d.lazy,.int .i64 d.group]
theorem ng0 (d:NodeD) (s:Value):(zAR d s)[0]?=some (.int .i64 d.kind):=rfl
theorem ng5 (d:NodeD) (s:Value):(zAR d s)[5]?=some s:=rfl
theorem ng6 (d:NodeD) (s:Value):(zAR d s)[6]?=some (.int .i64 d.lo):=rfl
theorem ng7 (d:NodeD) (s:Value):(zAR d s)[7]?=some (.int .i64 d.hi):=rfl
theorem ng8 (d:NodeD) (s:Value):(zAR d s)[8]?=some (.bool d.lazy):=rfl
theorem ng9 (d:NodeD) (s:Value):(zAR d s)[9]?=some (.int .i64 d.group):=rfl
abbrev zAV (d:NodeD) (s:Value):Value:=.agg (zAR d s)
abbrev nilS:Value:=.slice none 0 0
abbrev TV:=Tree × Option Addr × Nat
abbrev zAT (x:TV):Array Value:=zAR x.1.d (.slice x.2.1 x.1.kids.length x.2.2)
theorem zAl (x:TV):(zAT x).size=10:=rfl
theorem zBy (xs:List TV):∀ r ∈ xs.map zAT,r.size=10:=by
 intro r hr;obtain⟨x,_,rfl⟩:=List.mem_map.1 hr;rfl
inductive ForestR (W:World) (F:Nat->Prop):Option Addr->Nat->List Tree->Prop where
 | mk (p:Option Addr) (c:Nat) (ts:List Tree) (xs:List TV) (h:RdN 10 W F (.slice p ts.length c) (xs.map zAT)) (hk:∀ x ∈ xs,ForestR W F x.2.1 x.2.2 x.1.kids) (e:ts=xs.map (·.1)):ForestR W F p c ts
theorem ForestR.kept {W V:World} {F:Nat->Prop} {p:Option Addr} {c:Nat} {ts:List Tree} (h:ForestR W F p c ts) (hk:∀ b,F b->V.heap[b]?=W.heap[b]?):ForestR V F p c ts:=by
 induction h with
 | mk p c ts xs h _ e ih=>exact .mk p c ts xs (h.kept hk) ih e
theorem ForestR.mono {W:World} {F G:Nat->Prop} {p:Option Addr} {c:Nat} {ts:List Tree} (h:ForestR W F p c ts) (hFG:∀ b,F b->G b):ForestR W G p c ts:=by
 induction h with
 | mk p c ts xs h _ e ih=>exact .mk p c ts xs (h.mono hFG) ih e
theorem ForestR.nil (W:World) (F:Nat->Prop) (p:Option Addr):ForestR W F p 0 []:=.mk _ _ _ [] (RdN.nil ..) (fun _ h=>by cases h) rfl
def ListR (W:World) (F:Nat->Prop) (xs:List TV):Prop:=∀ x ∈ xs,ForestR W F x.2.1 x.2.2 x.1.kids
theorem ListR.kept {W V:World} {F:Nat->Prop} {xs:List TV} (h:ListR W F xs) (hk:∀ b,F b->V.heap[b]?=W.heap[b]?):ListR V F xs:=fun x hx=>(h x hx).kept hk
theorem ListR.mono {W:World} {F G:Nat->Prop} {xs:List TV} (h:ListR W F xs) (hFG:∀ b,F b->G b):ListR W G xs:=fun x hx=>(h x hx).mono hFG
theorem ListR.append {W:World} {F:Nat->Prop} {xs ys:List TV} (h:ListR W F xs) (k:ListR W F ys):ListR W F (xs++ys):=fun x hx=>(List.mem_append.1 hx).elim (h x) (k x)
theorem ListR.nil (W:World) (F:Nat->Prop):ListR W F []:=fun _ h=>by cases h
theorem ListR.one {W:World} {F:Nat->Prop} {t:Tree} {p:Option Addr} {c:Nat} (h:ForestR W F p c t.kids):ListR W F [(t,p,c)]:=fun x hx=>by
 rw[List.mem_singleton]at hx;subst hx;exact h
theorem ForestR.open {W:World} {F:Nat->Prop} {p:Option Addr} {c:Nat} {ts:List Tree} (h:ForestR W F p c ts):∃ xs:List TV,RdN 10 W F (.slice p xs.length c) (xs.map zAT)/\ListR W F xs/\ts=xs.map (·.1):=by
 cases h with
 | mk p c ts xs h hk e =>
  have hl:ts.length=xs.length:=by rw[e,List.length_map]
  rw[hl]at h;exact⟨xs,h,hk,e⟩
def zCf (w:World) (G:Nat->Prop) (t:Tree) (e:Ending) (w':World):Prop :=
 ∃ p c F,e=.returned (zAV t.d (.slice p t.kids.length c))/\ForestR w' F p c t.kids/\∀ b,F b->b<w'.heap.size/\(w.heap.size<=b\/G b)
def zCY (s:Nat->Nat):Nat->(Nat->Nat)
 | 0=>s
 | n+1=>if hasB s (97+n) || hasB s (65+n) then addS (addS (zCY s n) (97+n)) (65+n) else zCY s n
def zNd (s:Nat->Nat):Nat->Nat:=zCY s 26
theorem zDv {s:Nat->Nat} (hs:zAv s):∀ n,zAv (zCY s n)
 | 0=>hs
 | n+1=>by
  unfold zCY;split
  ·exact zFJ (zFJ (zDv hs n) _) _
  ·exact zDv hs n
abbrev zBL:=Bool × Bool × Bool
def zEL (f:zBL):Array Value:=#[.bool f.1,.bool f.2.1,.bool f.2.2]
abbrev zCN (f:zBL):Value:=.agg (zEL f)
theorem fg0 (f:zBL):(zEL f)[0]?=some (.bool f.1):=rfl
theorem fg1 (f:zBL):(zEL f)[1]?=some (.bool f.2.1):=rfl
theorem fg2 (f:zBL):(zEL f)[2]?=some (.bool f.2.2):=rfl
def zBs (k:Int):Tree:=.mk {kind:=k} []
def rowT (k:Int) (ts:List Tree):Tree:=match ts with
 | []=>zBs 1
 | [t]=>t
 | _=>.mk {kind:=k} ts
def zGR (f:zBL) (w:WordD):zBL:=((f.1 || w.on.1)&&!w.off.1,(f.2.1 || w.on.2.1)&&!w.off.2.1,(f.2.2 || w.on.2.2)&&!w.off.2.2)
def setT (s:Nat->Nat):Tree:=if eqS s zAN then zBs 2 else .mk {kind:=3,set:=s} []
def zLk (f:zBL) (a b:Int):Tree:=zBs (if f.2.1 then b else a)
def zFM (w:WordD) (f:zBL):Tree :=
 if w.kind=1 then
  let s:=if f.1 then zNd w.set else w.set
  setT (if w.neg then notS s else s)
 else if w.kind=2 then (if f.2.2 then setT (zBn 0 256) else setT (notS (ofS [10])))
 else if w.kind=3 then zLk f 8 10
 else if w.kind=4 then zLk f 9 11
 else zBs w.spot
def zA7 (w:WordD):Bool:=w.kind == 6 || w.kind == 7
def repT (w:WordD) (t:Tree):Tree:=.mk {kind:=6,lo:=w.lo,hi:=w.hi,lazy:=w.lazy} [t]
def zFv (k:Nat) (t:Tree):Tree:=.mk {kind:=7,group:=k} [t]
def zAq:Nat->zBL->List WordD->Nat->List Tree->List Tree->Option (Tree × List WordD × Nat)
 | 0,_,_,_,_,_=>none
 | _+1,_,[],g,all,items=>some (rowT 5 (all++[rowT 4 items]),[],g)
 | n+1,f,w::r,g,all,items =>
  if w.kind=9 then some (rowT 5 (all++[rowT 4 items]),w::r,g)
  else if w.kind=8 then zAq n (zGR f w) r g all items
  else if w.kind=10 then zAq n f r g (all++[rowT 4 items]) []
  else if w.kind=11 then
   match items.getLast? with
   | none=>none
   | some last=>zAq n f r g all (items.dropLast++[repT w last])
  else if w.kind=7 then
   match zAq n (zGR f w) r g [] [] with
   | some (t,_::r',g')=>zAq n f r' g' all (items++[t])
   | _=>none
  else if w.kind=6 then
   match zAq n f r (g+1) [] [] with
   | some (t,_::r',g')=>zAq n f r' g' all (items++[zFv (g+1) t])
   | _=>none
  else zAq n f r g all (items++[zFM w f])
def zBA:Bool->List Nat->List WordD->Option Nat
 | _,open_,[]=>open_.getLast?
 | bare,open_,w::r =>
  if w.kind=11/\bare=true\/w.kind=9/\open_=[] then some w.place
  else
   let o:=if zA7 w then open_++[w.place] else open_
   zBA (zA7 w || w.kind == 8 || w.kind == 10 || w.kind == 11) (if w.kind=9 then o.dropLast else o) r
def zCy (l:List WordD):Option Nat:=zBA true [] l
def zHY (w:WordD):Bool:=zA7 w || w.kind == 8 || w.kind == 10 || w.kind == 11
def zCg (ws:List WordD):Nat->Bool
 | 0=>true
 | j+1=>match ws[j]? with|some w=>zHY w|none=>true
theorem zDY {ws:List WordD} {j:Nat} {w:WordD} (h:ws[j]?=some w):zCg ws (j+1)=zHY w:=by simp[zCg,h]
theorem zCr {α:Type} {ws:List α} {j:Nat} {w:α} (h:ws[j]?=some w):ws.drop j=w::ws.drop (j+1):=by
 obtain⟨hlt,rfl⟩:=List.getElem?_eq_some_iff.1 h;exact List.drop_eq_getElem_cons hlt
theorem zIa {bare:Bool} {op:List Nat} {ws:List WordD} {j:Nat} {w:WordD} (h:ws[j]?=some w) (hc:w.kind=11/\bare=true\/w.kind=9/\op=[]):zBA bare op (ws.drop j)=some w.place:=by
 rw[zCr h,zBA,if_pos hc]
theorem zJt {bare:Bool} {op:List Nat} {ws:List WordD} {j:Nat} {w:WordD} (h:ws[j]?=some w) (hc:¬ (w.kind=11/\bare=true\/w.kind=9/\op=[])) (ho:zA7 w=false) (h9:w.kind≠9) :
  zBA bare op (ws.drop j)=zBA (zCg ws (j+1)) op (ws.drop (j+1)):=by
 rw[zCr h,zBA,if_neg hc,zDY h];simp[ho,h9,zHY]
theorem zKW {bare:Bool} {op:List Nat} {ws:List WordD} {j:Nat} {w:WordD} (h:ws[j]?=some w) (ho:zA7 w=true):zBA bare op (ws.drop j)=zBA (zCg ws (j+1)) (op++[w.place]) (ws.drop (j+1)):=by
 have hk:w.kind=6\/w.kind=7:=by simpa [zA7] using ho
 rw[zCr h,zBA,if_neg (by omega),zDY h]
 have h9:w.kind≠9:=by omega
 simp[ho,h9,zHY]
theorem zJW {bare:Bool} {op:List Nat} {ws:List WordD} {j:Nat} {w:WordD} (h:ws[j]?=some w) (h9:w.kind=9) (hne:op≠[]):zBA bare op (ws.drop j)=zBA (zCg ws (j+1)) op.dropLast (ws.drop (j+1)):=by
 have ho:zA7 w=false:=by simp[zA7,h9]
 rw[zCr h,zBA,if_neg (by simp[h9,hne]),zDY h]
 simp[ho,h9,zHY]
theorem zMc {bare:Bool} {op:List Nat} {ws:List WordD} {j:Nat} (h:ws.length<=j):zBA bare op (ws.drop j)=op.getLast?:=by
 rw[List.drop_eq_nil_of_le h,zBA]
end
section
open Go.ChangeShapes Go.WideShapes Go.ChangeAt Go.RowKit
theorem zJI:(Tryz.prog.underlying 28).map (fun d=>match d with|.struct fs=>fs.map (fun f=>(f.type,f.offset))|_=>#[])=some #[(22,0),(25,1),(26,5),(3,6),(3,7),(4,8),(3,9)]:=by kernel_rfl
theorem zF1:∃ fs:Array Field,Tryz.prog.underlying 28=some (.struct fs)/\fs.map (fun f=>(f.type,f.offset))=#[(22,0),(25,1),(26,5),(3,6),(3,7),(4,8),(3,9)]:=by
 have h:=zJI
 cases hu:Tryz.prog.underlying 28 with
 | none=>rw[hu]at h;cases h
 | some d =>
  rw[hu]at h;simp only[Option.map_some,Option.some.injEq]at h
  cases d with
  | struct fs=>exact⟨fs,rfl,h⟩
  | _=>simp at h
theorem zHM {H:Type}:∀ {l:List (DataW H)} {d:DataW H},d ∈ l->Rows.uptoBulk d<=Rows.uptoBulkAll l
 | x::r,d,h=>by
  simp only[Rows.uptoBulkAll];rcases List.mem_cons.1 h with rfl|h
  ·omega
  ·have:=zHM h;omega
theorem zG5 {H:Type} {F:Nat->Tree} {D:Nat->DataW H}:∀ l:List Nat,(∀ i ∈ l,zAB (F i)<=Rows.uptoBulk (D i))->zAF (l.map F)<=Rows.uptoBulkAll (l.map D)
 | [],_=>by simp[zAF,Rows.uptoBulkAll]
 | i::r,h=>by
  simp only[List.map_cons,zAF,Rows.uptoBulkAll];have h1:=h i (List.mem_cons_self ..);have h2:=zG5 r (fun j hj=>h j (List.mem_cons_of_mem _ hj))
  omega
theorem zGl {H:Type} {enc:TypeId × Value->H} {W:World}:∀ (m:Nat) {fuel:Nat} {cs:List Value} {x:DataW H × List MemPlace},Rows.uptoBulk x.1<=m ->
  DataW.trod enc Tryz.prog W 0 (fun _=>true) true fuel 28 cs=some x->∃ (t:Tree) (p:Option Addr) (c:Nat),cs=(zAR t.d (.slice p t.kids.length c)).toList/\ForestR W (fun b=>b<W.heap.size) p c t.kids/\zAB t<=Rows.uptoBulk x.1:=by
 intro m
 induction m using Nat.strongRecOn with
 | _ m IH =>
 intro fuel cs x hm hf;obtain⟨fs,hu,hfs⟩:=zF1;obtain⟨xs,n,_,hx,hl,hlen,hg⟩:=DataW.trod_struct hu hf;have h10:cs.length=10:=by rw[hl];kernel_rfl
 have hsz:fs.size=7:=by have:=congrArg Array.size hfs;simpa using this
 have get:∀ (i:Nat) (t off k:Nat),(#[(22,0),(25,1),(26,5),(3,6),(3,7),(4,8),(3,9)]:Array (TypeId × Nat))[i]?=some (t,off)->Tryz.prog.cellsOf t=k->∃ y,DataW.trod enc Tryz.prog W 0 (fun _=>true) true n t ((cs.drop off).take k)=some y/\xs[i]?=some y:=by
  intro i t off k hi hk;rw[← hfs,Array.getElem?_map]at hi;obtain⟨f,hfi,he⟩:=Option.map_eq_some_iff.1 hi;simp only[Prod.mk.injEq]at he;have h1:=hg i f hfi;rw[he.1,he.2,hk]at h1;have hi6:i<xs.length:=by rw[hlen];exact(Array.getElem?_eq_some_iff.1 hfi).1
  exact⟨xs[i],by rw[h1,List.getElem?_eq_getElem hi6],List.getElem?_eq_getElem hi6⟩
 obtain⟨y0,g0,_⟩:=get 0 22 0 1 rfl (by kernel_rfl)
 obtain⟨y1,g1,_⟩:=get 1 25 1 4 rfl (by kernel_rfl)
 obtain⟨y2,g2,hx2⟩:=get 2 26 5 1 rfl (by kernel_rfl)
 obtain⟨y3,g3,_⟩:=get 3 3 6 1 rfl (by kernel_rfl)
 obtain⟨y4,g4,_⟩:=get 4 3 7 1 rfl (by kernel_rfl)
 obtain⟨y5,g5,_⟩:=get 5 4 8 1 rfl (by kernel_rfl)
 obtain⟨y6,g6,_⟩:=get 6 3 9 1 rfl (by kernel_rfl)
 obtain⟨k,e0,_,_⟩:=DataW.trod_int Tryz.underlying22 g0;obtain⟨s,e1,hs⟩:=zHO g1;obtain⟨n3,e3,_,_⟩:=DataW.trod_int Tryz.underlying3 g3;obtain⟨n4,e4,_,_⟩:=DataW.trod_int Tryz.underlying3 g4;obtain⟨n5,e5,_⟩:=DataW.trod_bool Tryz.underlying4 g5;obtain⟨n6,e6,_,_⟩:=DataW.trod_int Tryz.underlying3 g6;have hb2:Rows.uptoBulk y2.1+1<=Rows.uptoBulk x.1:=by
  rw[hx];simp only[Rows.uptoBulk];have:=zHM (List.mem_map_of_mem (f:=fun q:DataW H × List MemPlace=>q.1) (List.mem_of_getElem? hx2))
  omega
 have hc10:Tryz.prog.cellsOf 28=10:=by kernel_rfl
 have hkids:∃ (ts:List Tree) (p:Option Addr) (c:Nat),(cs.drop 5).take 1=[.slice p ts.length c]/\ForestR W (fun b=>b<W.heap.size) p c ts/\zAF ts+1<=Rows.uptoBulk y2.1:=by
  rcases Go.Deep.open_slice Tryz.underlying26 g2 with ⟨hcs,hy⟩|⟨a,l0,cap,m2,n2,D,Pl,hcs,_,hl0,hcap,hm2,hy,hel⟩
  ·refine⟨[],none,0,hcs,ForestR.nil ..,?_⟩
   rw[hy];simp[zAF,Rows.uptoBulk]
  ·simp only[if_true]at hm2;subst hm2;rw[hc10]at hel;have hbd:∀ i,i<l0->Rows.uptoBulk (D i)<Rows.uptoBulk y2.1:=by
    intro i hi;rw[hy];simp only[Rows.uptoBulk];have:=zHM (List.mem_map_of_mem (f:=D) (List.mem_range.2 hi));omega
   have hA:∀ i,i<l0->∃ q:TV,zAB q.1<=Rows.uptoBulk (D i)/\ForestR W (fun b=>b<W.heap.size) q.2.1 q.2.2 q.1.kids/\W.cells? 0 (a.add (i * 10)) 10=some (zAT q).toList:=by
    intro i hi;obtain⟨cs2,h1,h2⟩:=hel i (by omega)
    obtain⟨t,p,c,rfl,hF,hS⟩:=IH (Rows.uptoBulk (D i)) (by have:=hbd i hi;omega) (Nat.le_refl _) h2
    exact⟨(t,p,c),hS,hF,h1⟩
   haveI inhT:Inhabited TV:=⟨(zBs 0,none,0)⟩
   obtain⟨F,hF⟩:=Go.Deep.choose_lt (α:=TV) hA;have hsum:zAF ((List.range l0).map fun i=>(F i).1)<=Rows.uptoBulkAll ((List.range l0).map D):=zG5 (F:=fun i=>(F i).1) (List.range l0) (fun i hi=>(hF i (List.mem_range.1 hi)).1)
   have hmm:(List.range l0).map (fun i=>(F i).1)=((List.range l0).map F).map (·.1):=by rw[List.map_map];rfl
   refine⟨(List.range l0).map fun i=>(F i).1,some a,m2,by rw[hcs];simp,?_,by rw[hy];simp only[Rows.uptoBulk];omega⟩
   refine .mk _ _ _ ((List.range l0).map F) ?_ (fun q hq=>?_) hmm
   ·refine⟨some a,m2,by simp,by simpa using hl0,hcap,(fun h=>by cases h),fun j r hr=>?_⟩
    rw[List.getElem?_map]at hr;obtain⟨q,hq,rfl⟩:=Option.map_eq_some_iff.1 hr;rw[List.getElem?_map]at hq;obtain⟨j',hj',rfl⟩:=Option.map_eq_some_iff.1 hq;obtain⟨hlt,e⟩:=List.getElem?_eq_some_iff.1 hj';simp at hlt e;subst e;obtain⟨_,_,hc0⟩:=World.cells?_some (hF 0 (by omega)).2.2
    have had0:=hc0 0 (by decide)
    rw[Go.Deep.add_add]at had0;obtain⟨b,off0,hxe,hb⟩:=zKz (by rw[had0];exact List.getElem?_eq_getElem (by rw[Array.length_toList,zAl];decide))
    have hx0:a=⟨b,off0,none⟩:=by
     obtain⟨xb,xo,xs⟩:=a;simp only[Addr.add]at hxe;split at hxe<;>simp_all
    subst hx0;clear hxe had0 hc0;obtain⟨_,_,hc⟩:=World.cells?_some (hF j hlt).2.2;have had:∀ j,(⟨b,off0,none⟩:Addr).add j=⟨b,off0+j,none⟩:=fun j=>by unfold Addr.add;split<;>simp_all
    refine⟨b,off0,rfl,hb,zAl _,fun k hk=>?_⟩
    have:=hc k hk;rw[Go.Deep.add_add,had,← Nat.add_assoc]at this;rw[this,Array.getElem?_toList]
   ·obtain⟨i,hi,rfl⟩:=List.mem_map.1 hq;exact(hF i (List.mem_range.1 hi)).2.1
 obtain⟨ts,p,c,e2,hFo,hSz⟩:=hkids;refine⟨.mk {kind:=k,set:=s,lo:=n3,hi:=n4,lazy:=n5,group:=n6} ts,p,c,?_,hFo,by simp only[zAB];omega⟩
 match cs,h10 with
 | [x0,x1,x2,x3,x4,x5,x6,x7,x8,x9],_ =>
  simp[setC]at e0 e1 e2 e3 e4 e5 e6;obtain⟨rfl,rfl,rfl,rfl⟩:=e1;subst e0 e2 e3 e4 e5 e6;rfl
theorem zMM {H:Type} {enc:TypeId × Value->H} {W:World} {r:Reach} {b0:Nat} {v:Value} {d:DataW H} {p:List MemPlace} (hv:Value.okWide Tryz.prog W r b0 28 v)
  (h:DataW.Trod enc Tryz.prog W 0 (fun _=>true) true 28 v d p):∃ (t:Tree) (q:Option Addr) (c:Nat),v=zAV t.d (.slice q t.kids.length c)/\ForestR W (fun b=>b<W.heap.size) q c t.kids/\zAB t<=Rows.uptoBulk d:=by
 obtain⟨fs,hu,hfs⟩:=zF1;obtain⟨cs,rfl,h3⟩:=okWide_struct hu hv;obtain⟨fuel,hf⟩:=h;obtain⟨t,q,c,e,h1,h2⟩:=zGl _ (Nat.le_refl _) hf;refine⟨t,q,c,?_,h1,h2⟩;have e':cs.toList=(zAR t.d (.slice q t.kids.length c)).toList:=e;rw[show cs=zAR t.d (.slice q t.kids.length c) from Array.toList_inj.1 e']
end
section
open Go.RowKit
theorem zEc:zAv zG3:=zCO _
theorem zGD:zAv zJ3:=zCO _
theorem zF3:zAv zKD:=zCO _
theorem zIE:zAv zLf:=zCO _
theorem ok2 {s t:Nat->Nat} (hs:zAv s) (ht:zAv t):∀ x ∈ [s,t],zAv x:=by intro x hx;simp at hx;rcases hx with rfl|rfl<;>assumption
theorem ok3 {s t u:Nat->Nat} (hs:zAv s) (ht:zAv t) (hu:zAv u):∀ x ∈ [s,t,u],zAv x:=by intro x hx;simp at hx;rcases hx with rfl|rfl|rfl<;>assumption
theorem zIK:zAv zIV:=zCv (ok3 zEc zGD zF3)
theorem zJc:zAv zNK:=zCv (ok2 zIK (zCO _))
theorem zCu (lo n:Nat):zAv (zBn lo n):=zCO _
theorem zNJ:∀ p ∈ namesL,zAv p.2:=by
 intro p hp;simp only[namesL,List.mem_cons,List.not_mem_nil,or_false]at hp;rcases hp with rfl|rfl|rfl|rfl|rfl|rfl|rfl|rfl|rfl|rfl|rfl|rfl|rfl|rfl
 ·exact zIK
 ·exact zCv (ok2 zGD zF3)
 ·exact zCu _ _
 ·exact zCO _
 ·exact zCv (ok2 (zCu _ _) (zCO _))
 ·exact zEc
 ·exact zIE
 ·exact zGD
 ·exact zCu _ _
 ·exact zN8 (ok2 zIE (zFA _))
 ·exact zCv (ok2 (zCu _ _) (zCO _))
 ·exact zF3
 ·exact zJc
 ·exact zCv (ok3 zEc (zCu _ _) (zCu _ _))
theorem zLh {n:Str} {s:Nat->Nat} (h:zMJ n=some s):zAv s:=by
 unfold zMJ at h;obtain⟨p,hp,rfl⟩:=Option.map_eq_some_iff.1 h;exact zNJ p (List.mem_of_find?_eq_some hp)
theorem zJw {c:Nat} {s:Nat->Nat} (h:zNZ c=some s):zAv s:=by
 unfold zNZ at h;obtain⟨p,hp,rfl⟩:=Option.map_eq_some_iff.1 h;have:=List.mem_of_find?_eq_some hp;simp only[sortsL,List.mem_cons,List.not_mem_nil,or_false]at this;rcases this with rfl|rfl|rfl|rfl|rfl|rfl
 ·exact zEc
 ·exact zJc
 ·exact zCO _
 ·exact zFA _
 ·exact zFA _
 ·exact zFA _
theorem zOM {L t:Str} {i:Nat} (h:L.length<i+t.length) (ht:t≠[]):atP L i t=false:=by
 unfold atP;rw[Bool.eq_false_iff];intro hc;have:=List.IsPrefix.length_le (List.isPrefixOf_iff_prefix.1 hc);simp at this;have:0<t.length:=List.length_pos_iff.2 ht;omega
theorem zQA {L t:Str} {i:Nat} (h:i+t.length<=L.length):((L.take (i+t.length)).drop i == t)=atP L i t:=by
 unfold atP;have e:(L.take (i+t.length)).drop i=(L.drop i).take t.length:=by rw[List.drop_take];congr 1;omega
 rw[e,Bool.eq_iff_iff,beq_iff_eq,List.isPrefixOf_iff_prefix,List.prefix_iff_eq_take,eq_comm]
theorem zLL (l:Str) (c:UInt8):numF (l++[c])=min (10 * numF l+(c.toNat - 48)) 101:=by simp[numF]
theorem zPH (l:Str):numF l<=101:=by
 rcases List.eq_nil_or_concat l with rfl|⟨l',c,rfl⟩
 ·simp[numF]
 ·rw[List.concat_eq_append,zLL];omega
theorem zPC {L:Str} {k:Nat} (h:k<L.length):byt L k=L[k].toNat:=by
 unfold byt;rw[List.getD_eq_getElem?_getD,List.getElem?_eq_getElem h];rfl
theorem zL2 {L:Str} {i b e:Nat} (h:escP L i=some (b,e)):i+2<=e/\e<=L.length/\b<256:=by
 unfold escP at h;split at h
 ·rename_i h1;split at h
  ·rename_i b' hp
   cases h
   refine⟨by omega,by omega,?_⟩
   unfold zOC at hp
   (repeat' split at hp)<;>first|(cases hp;omega)|cases hp
  ·split at h
   ·split at h
    ·split at h
     ·cases h
     ·rename_i x hx;split at h
      ·split at h
       ·cases h
       ·rename_i y hy
        cases h
        have hx1:x<=15:=by unfold hexP at hx;(repeat' split at hx)<;>first|(cases hx;omega)|cases hx
        have hy1:y<=15:=by unfold hexP at hy;(repeat' split at hy)<;>first|(cases hy;omega)|cases hy
        omega
      ·cases h
    ·cases h
   ·split at h
    ·cases h
    ·split at h
     ·cases h
     ·cases h
      have:=zJr L (i+1);omega
 ·cases h
theorem zIY {L:Str} {i b e:Nat} (h:zJj L i=some (b,e)):i+1<=e/\e<=L.length/\b<256:=by
 unfold zJj at h;split at h
 ·split at h
  ·have:=zL2 h;omega
  ·cases h
   have:=zJr L i;omega
 ·cases h
theorem zJ2 {t:Str}:∀ {l:Str} {k:Nat},zMd t l=some k->k+t.length<=l.length
 | [],k,h=>by
  unfold zMd at h;split at h
  ·rename_i hp
   cases h
   have:=List.IsPrefix.length_le (List.isPrefixOf_iff_prefix.1 hp)
   simpa using this
  ·cases h
 | c::l,k,h=>by
  unfold zMd at h;split at h
  ·rename_i hp
   cases h
   have:=List.IsPrefix.length_le (List.isPrefixOf_iff_prefix.1 hp);omega
  ·obtain⟨k',hk,rfl⟩:=Option.map_eq_some_iff.1 h;have:=zJ2 hk;simp;omega
theorem zIB {L t:Str} {i:Nat} (h:atP L i t=true) (ht:t≠[]):i+t.length<=L.length:=by
 by_cases hc:i+t.length<=L.length
 ·exact hc
 ·rw[zOM (by omega) ht]at h;cases h
theorem zNt {L:Str} {i e:Nat} {s:Nat->Nat} (h:zPO L i=some (some (s,e))):i+4<=e/\e<=L.length/\zAv s:=by
 unfold zPO at h;split at h
 ·rename_i ha;have hl:=zIB ha (by simp)
  simp at hl;split at h
  ·cases h
  ·rename_i k hf;have hk:=zJ2 hf;simp at hk;simp only[]at h;split at h
   ·cases h
   ·rename_i s' hn;simp only[Option.some.injEq,Prod.mk.injEq]at h;obtain⟨h1,h2⟩:=h;refine⟨by omega,by omega,?_⟩
    subst h1;split
    ·exact zFA _
    ·exact zLh hn
 ·cases h
theorem zI4 {L:Str} {i e:Nat} {s:Nat->Nat} (h:zHf L i=some (s,e)):i+1<=e/\e<=L.length/\zAv s:=by
 unfold zHf at h;split at h
 ·cases h
 ·rename_i lo k ht;have h1:=zIY ht;split at h
  ·split at h
   ·cases h
   ·rename_i hi e' ht2;have h2:=zIY ht2;split at h
    ·cases h
     exact⟨by omega,by omega,zCu _ _⟩
    ·cases h
  ·cases h
   exact⟨by omega,by omega,zCO _⟩
theorem zJe {L:Str} {i e:Nat} {s:Nat->Nat} (h:zOY L i=some (s,e)):i+1<=e/\e<=L.length/\zAv s:=by
 unfold zOY at h;split at h
 ·rename_i r hr;subst h;have:=zNt hr;exact⟨by omega,this.2.1,this.2.2⟩
 ·split at h
  ·rename_i s' hs;split at hs
   ·rename_i hc
    cases h
    exact⟨by omega,by omega,zJw hs⟩
   ·cases hs
  ·exact zI4 h
section
variable {P:Program} {ops:Array Oper} {rest:List Oper} {o:Oper} {a:Act} {w w0:World} {Q:Exit->Act->World->Prop} {l:List Res}
end
def WordR (o:Option (WordD × Nat)) (e:Ending):Prop:=match o with
 | some (w,k)=>e=.returned (.tuple #[zC3 w,.int .i64 k])
 | none=>∃ w,e=.returned (.tuple #[zC3 w,.int .i64 (-1)])
theorem WordR.ok {o:Option (WordD × Nat)} {w:WordD} {k:Nat} (h:o=some (w,k)):WordR o (.returned (.tuple #[zC3 w,.int .i64 k])):=by subst h;rfl
theorem zGw {L:Str} {i n k:Nat} (h:zHX L i=some (n,k)) (hi:i<=L.length):i+1<=k/\k<=L.length/\n<=101:=by
 unfold zHX at h;simp only[]at h;split at h
 ·cases h
 ·rename_i hc;simp only[Option.some.injEq,Prod.mk.injEq]at h;obtain⟨rfl,rfl⟩:=h;have h1:((L.drop i).takeWhile zJD).length<=(L.drop i).length:=(List.takeWhile_prefix _).length_le;have h2:((L.drop i).takeWhile zJD).length≠0:=fun e=>hc (.inl (List.length_eq_zero_iff.1 e))
  simp at h1;exact⟨by omega,by omega,zPH _⟩
theorem zE8 {L:Str}:∀ (f k:Nat) (b:Bool) (S S':Nat->Nat) (e:Nat),k<=L.length->zEZ L f k b S=some (S',e)->k+1<=e/\e<=L.length
 | 0,_,_,_,_,_,_,h=>by cases h
 | f+1,k,b,S,S',e,hk,h=>by
  rw[zEZ]at h;split at h
  ·rename_i hc;have:=zIB hc.2 (by simp)
   simp at this
   cases h
   omega
  ·split at h
   ·cases h
   ·rename_i t e' hi;have h1:=zJe hi;have:=zE8 f e' false _ S' e h1.2.1 h;omega
theorem zMo {L:Str} {i e:Nat} {d:WordD} (hi:i<L.length) (h:zIs L i=some (d,e)):i+1<=e/\e<=L.length:=by
 unfold zIs at h;obtain⟨⟨S,e'⟩,h1,h2⟩:=Option.map_eq_some_iff.1 h
 cases h2
 split at h1
 ·rename_i ha;have:=zIB ha (by simp)
  simp at this;have:=zE8 _ _ _ _ _ _ (by omega) h1
  omega
 ·have:=zE8 _ _ _ _ _ _ (by omega) h1
  omega
theorem zDC {L:Str}:∀ (f k:Nat) (a b:Bool) (d d':WordD) (e:Nat),zC6 L f k a b d=some (d',e)->k+1<=e/\e<=L.length
 | 0,_,_,_,_,_,_,h=>by cases h
 | f+1,k,a,b,d,d',e,h=>by
  rw[zC6]at h;split at h
  ·rename_i hk;simp only[]at h;split at h
   ·have:=zDC f _ _ _ _ _ _ h;omega
   ·split at h
    ·have:=zDC f _ _ _ _ _ _ h;omega
    ·split at h
     ·have:=zDC f _ _ _ _ _ _ h;omega
     ·split at h
      ·split at h
       ·cases h
       ·have:=zDC f _ _ _ _ _ _ h;omega
      ·split at h
       ·split at h
        ·cases h;omega
        ·cases h
       ·split at h
        ·split at h
         ·cases h;omega
         ·cases h
        ·cases h
  ·cases h
theorem zMz {L:Str} {i e:Nat} {d:WordD} (h:zIh L i=some (d,e)):i+1<=e/\e<=L.length:=by
 unfold zIh at h;split at h
 ·rename_i s hs;split at hs
  ·cases h;omega
  ·cases hs
 ·split at h
  ·rename_i k hk;split at hk
   ·cases h;omega
   ·cases hk
  ·obtain⟨⟨b,e'⟩,h1,h2⟩:=Option.map_eq_some_iff.1 h
   cases h2
   have:=zL2 h1;omega
theorem zD2 {L:Str} {i e k:Nat} {lo hi:Int} {d:WordD} (he:e<=L.length) (h:zA3 L i lo hi e=.ok (d,k)):e<=k/\k<=L.length:=by
 unfold zA3 at h;split at h
 ·cases h
 ·split at h
  ·rename_i ha;have:=zIB ha (by simp)
   simp at this
   cases h;omega
  ·cases h;omega
theorem zHg {α:Type} {o:Option α} {x:α} (h:zIW o=.ok x):o=some x:=by cases o<;>cases h;rfl
theorem zKk {L:Str} {i lo e:Nat} {hi:Int} (h:zJT L i=some (lo,hi,e)) (hi2:i<L.length):i+2<=e/\e<=L.length:=by
 unfold zJT at h;split at h
 ·cases h
 ·rename_i n k hn;have h1:=zGw hn (by omega)
  split at h
  ·rename_i ha;have:=zIB ha (by simp)
   simp at this
   cases h
   omega
  ·split at h
   ·rename_i ha;have h2:=zIB ha (by simp)
    simp at h2;split at h
    ·cases h
    ·rename_i m e' hm;have h3:=zGw hm (by omega)
     split at h
     ·rename_i hb;have h4:=zIB hb (by simp)
      simp at h4
      cases h
      omega
     ·cases h
   ·split at h
    ·rename_i hb;have h4:=zIB hb (by simp)
     simp at h4
     cases h
     omega
    ·cases h
theorem zJp {L:Str} {i k:Nat} {d:WordD} (hi:i<L.length) (h:zBl L i=.ok (d,k)):i+1<=k/\k<=L.length:=by
 unfold zBl at h;simp only[]at h;split at h
 ·exact zMz (zHg h)
 ·split at h
  ·exact zMo hi (zHg h)
  ·split at h
   ·split at h
    ·have:=zDC _ _ _ _ _ _ _ (zHg h);omega
    ·cases h;omega
   ·split at h
    ·split at h
     ·rename_i lo hi2 e hb;have h1:=zKk hb hi;have:=zD2 (by omega) h
      omega
     ·cases h;omega
    ·split at h
     ·have:=zD2 (by omega) h;omega
     ·split at h
      ·have:=zD2 (by omega) h;omega
      ·split at h
       ·have:=zD2 (by omega) h;omega
       ·split at h
        ·cases h;omega
        ·cases h;omega
def wcat (ws:List WordD):Except (Nat × Nat) (List WordD)->Except (Nat × Nat) (List WordD)
 | .error x=>.error x
 | .ok l=>.ok (ws++l)
theorem zNW (r:Except (Nat × Nat) (List WordD)):wcat [] r=r:=by cases r<;>rfl
theorem zNk {L:Str} {f j k:Nat} {d:WordD} {ws:List WordD} (hj:j<L.length) (h:zBl L j=.ok (d,k)):wcat ws (zBV L (f+1) j)=wcat (ws++[d]) (zBV L f k):=by
 rw[zBV,if_pos hj,h];simp only[]
 cases zBV L f k with
 | error x=>rfl
 | ok l=>simp[wcat]
theorem zMe {L:Str} {f j x:Nat} {ws:List WordD} (hj:j<L.length) (h:zBl L j=.error x):wcat ws (zBV L (f+1) j)=.error (j,x):=by
 rw[zBV,if_pos hj,h];rfl
theorem zLT {L:Str} {f j:Nat} {ws:List WordD} (hj:¬ j<L.length):wcat ws (zBV L f j)=.ok ws:=by
 cases f with
 | zero=>rw[zBV,if_neg hj];simp[wcat]
 | succ f=>rw[zBV,if_neg hj];simp[wcat]
def zHP (ws:List WordD):List Value:=ws.flatMap (fun d=>(zB1 d).toList)
theorem zKi (ws:List WordD) (d:WordD):zHP (ws++[d])=zHP ws++(zB1 d).toList:=by simp[zHP]
theorem zDh {L:Str} {i e x:Nat} {lo hi:Int} (h:zA3 L i lo hi e=.error x):x=6:=by
 unfold zA3 at h;split at h
 ·cases h;rfl
 ·split at h<;>cases h
theorem zFo {α:Type} {o:Option α} {x:Nat} (h:zIW o=.error x):x=4:=by cases o<;>cases h;rfl
theorem zIq {L:Str} {i x:Nat} (h:zBl L i=.error x):x=4\/x=6:=by
 unfold zBl at h;simp only[]at h;split at h
 ·exact .inl (zFo h)
 ·split at h
  ·exact .inl (zFo h)
  ·split at h
   ·split at h
    ·exact .inl (zFo h)
    ·cases h
   ·split at h
    ·split at h
     ·exact .inr (zDh h)
     ·cases h
    ·split at h
     ·exact .inr (zDh h)
     ·split at h
      ·exact .inr (zDh h)
      ·split at h
       ·exact .inr (zDh h)
       ·split at h<;>cases h
end
section
open Go.RowKit Go.Shelf
theorem zAC:oneB Tryz.prog 3=true:=by kernel_rfl
theorem zA9:oneB Tryz.prog 4=true:=by kernel_rfl
theorem zAh:oneB Tryz.prog 22=true:=by kernel_rfl
theorem zBY:rowB Tryz.prog 25 4=true:=by kernel_rfl
theorem zBQ:rowB Tryz.prog 260 17=true:=by kernel_rfl
theorem zSet:zBx Tryz.prog 25=setC zAN:=by kernel_rfl
theorem zPY:zBx Tryz.prog 260=zB1 {kind:=0,place:=0}:=by kernel_rfl
theorem zBk:oneB Tryz.prog 33=true:=by kernel_rfl
theorem zAz:oneB Tryz.prog 26=true:=by kernel_rfl
theorem zD9:oneB Tryz.prog 168=true:=by kernel_rfl
theorem zAd:oneB Tryz.prog 45=true:=by kernel_rfl
theorem zBW:oneB Tryz.prog 32=true:=by kernel_rfl
theorem zAP:rowB Tryz.prog 28 10=true:=by kernel_rfl
theorem zCL:rowB Tryz.prog 104 3=true:=by kernel_rfl
theorem zQD:zBx Tryz.prog 28=zAR {kind:=0} nilS:=by kernel_rfl
theorem zPZ:zBx Tryz.prog 104=zEL (false,false,false):=by kernel_rfl
theorem zInt:zBx Tryz.prog 3=#[.int .i64 0]:=by kernel_rfl
theorem zP0:zBx Tryz.prog 33=#[.int .i64 0]:=by kernel_rfl
theorem nrm:zBx Tryz.prog 25=setC zAN/\zBx Tryz.prog 260=zB1 {kind:=0,place:=0}/\zBx Tryz.prog 28=zAR {kind:=0} nilS/\zBx Tryz.prog 104=zEL (false,false,false)/\zBx Tryz.prog 3=#[.int .i64 0]/\zBx Tryz.prog 33=#[.int .i64 0]:=⟨zSet,zPY,zQD,zPZ,zInt,zP0⟩
theorem nrl {α:Type}:(∀ (a:α) (l r:List α),a::l++r=a::(l++r))/\(∀ l:List α,[]++l=l)/\(∀ l:List α,l++[]=l)/\(∀ (a b:α) (l:List α),(a::l).set 0 b=b::l)/\(∀ (a b:α) (l:List α) (n:Nat),(a::l).set (n+1) b=a::l.set n b)/\∀ (a:α) (l:List α) (n:Nat),l.toArray.setIfInBounds n a=(l.set n a).toArray :=
 ⟨fun _ _ _=>rfl,fun _=>rfl,List.append_nil,fun _ _ _=>rfl,fun _ _ _ _=>rfl,fun _ _ _=>List.setIfInBounds_toArray ..⟩
theorem nr:(zBx Tryz.prog 25=setC zAN/\zBx Tryz.prog 260=zB1 {kind:=0,place:=0}/\zBx Tryz.prog 28=zAR {kind:=0} nilS/\zBx Tryz.prog 104=zEL (false,false,false)/\zBx Tryz.prog 3=#[.int .i64 0]/\zBx Tryz.prog 33=#[.int .i64 0])/\(∀ {α:Type},(∀ (a:α) (l r:List α),a::l++r=a::(l++r))/\(∀ l:List α,[]++l=l)/\(∀ l:List α,l++[]=l)/\(∀ (a b:α) (l:List α),(a::l).set 0 b=b::l)/\(∀ (a b:α) (l:List α) (n:Nat),(a::l).set (n+1) b=a::l.set n b)/\∀ (a:α) (l:List α) (n:Nat),l.toArray.setIfInBounds n a=(l.set n a).toArray)/\(∀ (k:IntKind) (n:Int),(Value.int k n).cells=#[Value.int k n])/\(∀ (b:Bool),(Value.bool b).cells=#[Value.bool b])/\(∀ (s:ByteArray),(Value.string s).cells=#[Value.string s])/\(∀ (p:Option Addr),(Value.pointer p).cells=#[Value.pointer p])/\(∀ (p:Option Addr) (n c:Nat),(Value.slice p n c).cells=#[Value.slice p n c])/\(∀ (r:Option Nat),(Value.map r).cells=#[Value.map r])/\∀ cs:Array Value,(Value.agg cs).cells=cs :=
 ⟨nrm,nrl,fun _ _=>rfl,fun _=>rfl,fun _=>rfl,fun _=>rfl,fun _ _ _=>rfl,fun _=>rfl,fun _=>rfl⟩
theorem ch {M:Nat->Prop} {P:Program} {f:FuncId} {args:Array Value} {w w0:World} {l:List Res} {e0:Ending} {R:Ending->World->Prop} (c:Calls P f args w fun e w'=>e=e0/\Below w.heap.size w w') (H:HoldG M w0 w l)
  (k:∀ w',HoldG M w0 w' l->R e0 w'):Calls P f args w R:=c.mono fun _ w' h=>h.1 ▸ k w' (H.call h.2)
section
variable {M:Nat->Prop} {ops:Array Oper} {dst:Option Tmp} {ty:TypeId} {pos:String} {aft:Array Edge} {grd:Option (Nat × Bool)} {rest:List Oper} {a:Act} {w w0:World} {l:List Res} {Q:Exit->Act->World->Prop}
theorem gT {T:TypeId} {x y:Operand} (h:wpList Tryz.prog ops Q ((⟨dst,.store T x y,ty,pos,aft,grd⟩:Oper)::rest) a w):wpList Tryz.prog ops Q ((⟨dst,.store T x y,ty,pos,aft,grd⟩:Oper)::rest) a w:=h
theorem gL {T:TypeId} {x:Operand} (h:wpList Tryz.prog ops Q ((⟨dst,.load T x,ty,pos,aft,grd⟩:Oper)::rest) a w):wpList Tryz.prog ops Q ((⟨dst,.load T x,ty,pos,aft,grd⟩:Oper)::rest) a w:=h
theorem gX {T:TypeId} {x:Operand} (h:wpList Tryz.prog ops Q ((⟨dst,.box T x,ty,pos,aft,grd⟩:Oper)::rest) a w):wpList Tryz.prog ops Q ((⟨dst,.box T x,ty,pos,aft,grd⟩:Oper)::rest) a w:=h
theorem gA {T:TypeId} (h:wpList Tryz.prog ops Q ((⟨dst,.alloc T,ty,pos,aft,grd⟩:Oper)::rest) a w):wpList Tryz.prog ops Q ((⟨dst,.alloc T,ty,pos,aft,grd⟩:Oper)::rest) a w:=h
theorem gZ {T:TypeId} {parts:Array (Nat × Operand)} (h:wpList Tryz.prog ops Q ((⟨dst,.build T parts,ty,pos,aft,grd⟩:Oper)::rest) a w):wpList Tryz.prog ops Q ((⟨dst,.build T parts,ty,pos,aft,grd⟩:Oper)::rest) a w:=h
theorem gI {T:TypeId} {x y:Operand} (h:wpList Tryz.prog ops Q ((⟨dst,.index T x y,ty,pos,aft,grd⟩:Oper)::rest) a w):wpList Tryz.prog ops Q ((⟨dst,.index T x y,ty,pos,aft,grd⟩:Oper)::rest) a w:=h
theorem gC {T:TypeId} {x y z:Operand} (h:wpList Tryz.prog ops Q ((⟨dst,.slice T x (some y) (some z) none,ty,pos,aft,grd⟩:Oper)::rest) a w):wpList Tryz.prog ops Q ((⟨dst,.slice T x (some y) (some z) none,ty,pos,aft,grd⟩:Oper)::rest) a w:=h
theorem gE {T U:TypeId} {x y:Operand} (h:wpList Tryz.prog ops Q ((⟨dst,.binOp .eql T x y U,ty,pos,aft,grd⟩:Oper)::rest) a w):wpList Tryz.prog ops Q ((⟨dst,.binOp .eql T x y U,ty,pos,aft,grd⟩:Oper)::rest) a w:=h
theorem kgX (k:Tmp) {T:TypeId} {x:Operand} (h:wpList Tryz.prog ops Q ((⟨some k,.box T x,ty,pos,aft,grd⟩:Oper)::rest) a w):wpList Tryz.prog ops Q ((⟨some k,.box T x,ty,pos,aft,grd⟩:Oper)::rest) a w:=h
theorem kg (k:Tmp) {p:Op} (h:wpList Tryz.prog ops Q ((⟨some k,p,ty,pos,aft,grd⟩:Oper)::rest) a w):wpList Tryz.prog ops Q ((⟨some k,p,ty,pos,aft,grd⟩:Oper)::rest) a w:=h
theorem kgA (k:Tmp) {T:TypeId} (h:wpList Tryz.prog ops Q ((⟨some k,.alloc T,ty,pos,aft,grd⟩:Oper)::rest) a w):wpList Tryz.prog ops Q ((⟨some k,.alloc T,ty,pos,aft,grd⟩:Oper)::rest) a w:=h
theorem aS (H:HoldG M w0 w l) {T:TypeId} {x y:Operand} {i b:Nat} {cs:Array Value} {U:TypeId} {s:Nat->Nat} (h:∀ w',HoldG M w0 w' (l.set i (.blk b (setC s) U))->wpList Tryz.prog ops Q rest (a.put dst undef) w') (hg:Region.wanted (⟨dst,.store T x y,ty,pos,aft,grd⟩:Oper) (yielded ops a.tmps)=true:=by first|rfl|exact zAQ rfl (zAI rfl (by first|rfl|(simp only[pe];rfl)))) (hx:a.eval x=.pointer (some ⟨b,0,none⟩):=by exact rfl) (hy:a.eval y=setV s:=by (try simp only[pe]);with_reducible rfl) (hi:At l i (.blk b cs U):=by repeat (first|(with_reducible exact At.zero)|apply At.succ)) (hT:zCe Tryz.prog T 4=true:=by with_reducible exact zAr zBY) (hn:cs.size=4:=by rfl):wpList Tryz.prog ops Q ((⟨dst,.store T x y,ty,pos,aft,grd⟩:Oper)::rest) a w :=
 zKc hg T x y rfl hx hy H hi hT hn h
theorem aV (H:HoldG M w0 w l) {T:TypeId} {x:Operand} {i b:Nat} {d:WordD} {U:TypeId} (h:wpList Tryz.prog ops Q rest (a.put dst (setV d.set)) w) (hg:Region.wanted (⟨dst,.load T x,ty,pos,aft,grd⟩:Oper) (yielded ops a.tmps)=true:=by first|rfl|exact zAQ rfl (zAI rfl (by first|rfl|(simp only[pe];rfl)))) (hx:a.eval x=.pointer (some ⟨b,2,none⟩):=by exact rfl) (hi:At l i (.blk b (zB1 d) U):=by repeat (first|(with_reducible exact At.zero)|apply At.succ)) (hT:rowB Tryz.prog T 4=true:=by with_reducible exact zBY):wpList Tryz.prog ops Q ((⟨dst,.load T x,ty,pos,aft,grd⟩:Oper)::rest) a w :=
 zGJ hg T x rfl hx H hi (setC d.set) hT rfl h
theorem aZ  (h:wpList Tryz.prog ops Q rest (a.put dst (setV zAN)) w) (hg:Region.wanted (⟨dst,.build 25 #[],ty,pos,aft,grd⟩:Oper) (yielded ops a.tmps)=true:=by first|rfl|exact zAQ rfl (zAI rfl (by first|rfl|(simp only[pe];rfl)))):wpList Tryz.prog ops Q ((⟨dst,.build 25 #[],ty,pos,aft,grd⟩:Oper)::rest) a w :=
 zNn hg rfl h
theorem aL (H:HoldG M w0 w l) {T:TypeId} {x:Operand} {i b:Nat} {s:Nat->Nat} {U:TypeId} (h:wpList Tryz.prog ops Q rest (a.put dst (setV s)) w) (hg:Region.wanted (⟨dst,.load T x,ty,pos,aft,grd⟩:Oper) (yielded ops a.tmps)=true:=by first|rfl|exact zAQ rfl (zAI rfl (by first|rfl|(simp only[pe];rfl)))) (hx:a.eval x=.pointer (some ⟨b,0,none⟩):=by exact rfl) (hi:At l i (.blk b (setC s) U):=by repeat (first|(with_reducible exact At.zero)|apply At.succ)) (hT:rowB Tryz.prog T 4=true:=by with_reducible exact zBY):wpList Tryz.prog ops Q ((⟨dst,.load T x,ty,pos,aft,grd⟩:Oper)::rest) a w :=
 zLW hg T x rfl hx H hi hT h
theorem bS (H:HoldG M w0 w l) {T:TypeId} {x:Operand} {s:Nat->Nat} (h:∀ b w',HoldG M w0 w' (l++[.blk b (setC s) T])->wpList Tryz.prog ops Q rest (a.put dst (.pointer (some ⟨b,0,none⟩))) w') (hg:Region.wanted (⟨dst,.box T x,ty,pos,aft,grd⟩:Oper) (yielded ops a.tmps)=true:=by first|rfl|exact zAQ rfl (zAI rfl (by first|rfl|(simp only[pe];rfl)))) (hx:a.eval x=setV s:=by (try simp only[pe]);with_reducible rfl):wpList Tryz.prog ops Q ((⟨dst,.box T x,ty,pos,aft,grd⟩:Oper)::rest) a w :=
 zKE hg T x rfl hx H h
theorem bA (H:HoldG M w0 w l) {T:TypeId} (h:∀ b w',HoldG M w0 w' (l++[.blk b (zBx Tryz.prog T) T])->wpList Tryz.prog ops Q rest (a.put dst (.pointer (some ⟨b,0,none⟩))) w') (hg:Region.wanted (⟨dst,.alloc T,ty,pos,aft,grd⟩:Oper) (yielded ops a.tmps)=true:=by first|rfl|exact zAQ rfl (zAI rfl (by first|rfl|(simp only[pe];rfl)))) (hi:((Tryz.prog.info? T).bind (·.zero)).isSome=true:=by kernel_rfl):wpList Tryz.prog ops Q ((⟨dst,.alloc T,ty,pos,aft,grd⟩:Oper)::rest) a w :=
 zH2 hg T rfl H hi h
theorem bB (H:HoldG M w0 w l) {T:TypeId} {x:Operand} {v:Value} (h:∀ b w',HoldG M w0 w' (l++[.blk b v.cells T])->wpList Tryz.prog ops Q rest (a.put dst (.pointer (some ⟨b,0,none⟩))) w') (hg:Region.wanted (⟨dst,.box T x,ty,pos,aft,grd⟩:Oper) (yielded ops a.tmps)=true:=by first|rfl|exact zAQ rfl (zAI rfl (by first|rfl|(simp only[pe];rfl)))) (hx:a.eval x=v:=by first|(simp only[pe];done)|(simp only[pe];rfl)):wpList Tryz.prog ops Q ((⟨dst,.box T x,ty,pos,aft,grd⟩:Oper)::rest) a w :=
 zIy hg T x rfl hx H h
theorem kS (k:Tmp) (H:HoldG M w0 w l) {T:TypeId} {x:Operand} {s:Nat->Nat} (h:∀ b w',HoldG M w0 w' (l++[.blk b (setC s) T])->wpList Tryz.prog ops Q rest (a.put (some k) (.pointer (some ⟨b,0,none⟩))) w') (hg:Region.wanted (⟨some k,.box T x,ty,pos,aft,grd⟩:Oper) (yielded ops a.tmps)=true:=by first|rfl|exact zAQ rfl (zAI rfl (by first|rfl|(simp only[pe];rfl)))) (hx:a.eval x=setV s:=by (try simp only[pe]);with_reducible rfl):wpList Tryz.prog ops Q ((⟨some k,.box T x,ty,pos,aft,grd⟩:Oper)::rest) a w :=
 zKE hg T x rfl hx H h
theorem kA (k:Tmp) (H:HoldG M w0 w l) {T:TypeId} (h:∀ b w',HoldG M w0 w' (l++[.blk b (zBx Tryz.prog T) T])->wpList Tryz.prog ops Q rest (a.put (some k) (.pointer (some ⟨b,0,none⟩))) w') (hg:Region.wanted (⟨some k,.alloc T,ty,pos,aft,grd⟩:Oper) (yielded ops a.tmps)=true:=by first|rfl|exact zAQ rfl (zAI rfl (by first|rfl|(simp only[pe];rfl)))) (hi:((Tryz.prog.info? T).bind (·.zero)).isSome=true:=by kernel_rfl):wpList Tryz.prog ops Q ((⟨some k,.alloc T,ty,pos,aft,grd⟩:Oper)::rest) a w :=
 zH2 hg T rfl H hi h
theorem kB (k:Tmp) (H:HoldG M w0 w l) {T:TypeId} {x:Operand} {v:Value} (h:∀ b w',HoldG M w0 w' (l++[.blk b v.cells T])->wpList Tryz.prog ops Q rest (a.put (some k) (.pointer (some ⟨b,0,none⟩))) w') (hg:Region.wanted (⟨some k,.box T x,ty,pos,aft,grd⟩:Oper) (yielded ops a.tmps)=true:=by first|rfl|exact zAQ rfl (zAI rfl (by first|rfl|(simp only[pe];rfl)))) (hx:a.eval x=v:=by first|(simp only[pe];done)|(simp only[pe];rfl)):wpList Tryz.prog ops Q ((⟨some k,.box T x,ty,pos,aft,grd⟩:Oper)::rest) a w :=
 zIy hg T x rfl hx H h
theorem aO (H:HoldG M w0 w l) {T:TypeId} {x y:Operand} {i b:Nat} {cs:Array Value} {U:TypeId} {k:Nat} {v:Value} (h:∀ w',HoldG M w0 w' (l.set i (.blk b (cs.setIfInBounds k v) U))->wpList Tryz.prog ops Q rest (a.put dst undef) w') (hg:Region.wanted (⟨dst,.store T x y,ty,pos,aft,grd⟩:Oper) (yielded ops a.tmps)=true:=by first|rfl|exact zAQ rfl (zAI rfl (by first|rfl|(simp only[pe];rfl)))) (hx:a.eval x=.pointer (some ⟨b,k,none⟩):=by exact rfl) (hy:a.eval y=v:=by first|(simp only[pe];done)|(simp only[pe];rfl)) (hi:At l i (.blk b cs U):=by repeat (first|(with_reducible exact At.zero)|apply At.succ)) (h1:v.oneCell'=true:=by rfl) (hk:k<cs.size:=by first|(simp;done)|(simp[zB1];done)|(simp[zAR];done)|(simp[zEL];done)) (hT:zCe Tryz.prog T 1=true:=by first|(with_reducible exact zAE zBk)|(with_reducible exact zAE zAC)|(with_reducible exact zAE one_u8)|(with_reducible exact zAE zA9)|(with_reducible exact zAE one_str)|(with_reducible exact zAE zAh)|(with_reducible exact zAE one_u64)|(with_reducible exact zAE zAz)|(with_reducible exact zAE zD9)|(with_reducible exact zAE one_p10)|(with_reducible exact zAE zAd)|(with_reducible exact zAE one_ints)|(with_reducible exact zAE zBW)|(with_reducible exact zAE one_bools)|(with_reducible exact zAE one_bytes)):wpList Tryz.prog ops Q ((⟨dst,.store T x y,ty,pos,aft,grd⟩:Oper)::rest) a w :=
 zAi hg T x y rfl hx hy H hi h1 hk hT h
theorem aT (H:HoldG M w0 w l) {T:TypeId} {x y:Operand} {i b:Nat} {cs:Array Value} {U:TypeId} {n:Nat} {vs:Array Value} (h:∀ w',HoldG M w0 w' (l.set i (.blk b vs U))->wpList Tryz.prog ops Q rest (a.put dst undef) w') (hg:Region.wanted (⟨dst,.store T x y,ty,pos,aft,grd⟩:Oper) (yielded ops a.tmps)=true:=by first|rfl|exact zAQ rfl (zAI rfl (by first|rfl|(simp only[pe];rfl)))) (hx:a.eval x=.pointer (some ⟨b,0,none⟩):=by exact rfl) (hy:a.eval y=.agg vs:=by first|(simp only[pe];done)|(simp only[pe];rfl)) (hi:At l i (.blk b cs U):=by repeat (first|(with_reducible exact At.zero)|apply At.succ)) (hT:zCe Tryz.prog T n=true:=by first|(with_reducible exact zAr zBQ)|(with_reducible exact zAr zBY)|(with_reducible exact zAr zAP)|(with_reducible exact zAr zCL)|(with_reducible exact zAr row_P10)) (hv:vs.size=n:=by rfl) (hn:cs.size=n:=by rfl) (h1:vs.toList.all (·.oneCell')=true:=by rfl):wpList Tryz.prog ops Q ((⟨dst,.store T x y,ty,pos,aft,grd⟩:Oper)::rest) a w :=
 zDx hg T x y rfl hx hy H hi hT hv hn h1 h
theorem aN (H:HoldG M w0 w l) {T:TypeId} {x y:Operand} {i b:Nat} {cs:Array Value} {U:TypeId} {n k:Nat} {vs:Array Value} (h:∀ w',HoldG M w0 w' (l.set i (.blk b (zBS cs k vs.toList) U))->wpList Tryz.prog ops Q rest (a.put dst undef) w') (hg:Region.wanted (⟨dst,.store T x y,ty,pos,aft,grd⟩:Oper) (yielded ops a.tmps)=true:=by first|rfl|exact zAQ rfl (zAI rfl (by first|rfl|(simp only[pe];rfl)))) (hx:a.eval x=.pointer (some ⟨b,k,none⟩):=by exact rfl) (hy:a.eval y=.agg vs:=by first|(simp only[pe];done)|(simp only[pe];rfl)) (hi:At l i (.blk b cs U):=by repeat (first|(with_reducible exact At.zero)|apply At.succ)) (hT:zCe Tryz.prog T n=true:=by first|(with_reducible exact zAr zBQ)|(with_reducible exact zAr zBY)|(with_reducible exact zAr zAP)|(with_reducible exact zAr zCL)|(with_reducible exact zAr row_P10)) (hv:vs.size=n:=by rfl) (h1:vs.toList.all (·.oneCell')=true:=by rfl) (hk:k+n<=cs.size:=by first|(simp;done)|(simp[zB1];done)|(simp[zAR];done)|(simp[zEL];done)):wpList Tryz.prog ops Q ((⟨dst,.store T x y,ty,pos,aft,grd⟩:Oper)::rest) a w :=
 zFK hg T x y rfl hx hy H hi hT hv h1 hk h
theorem aG (H:HoldG M w0 w l) {T:TypeId} {x:Operand} {i b:Nat} {cs:Array Value} {U:TypeId} {k:Nat} {v:Value} (h:wpList Tryz.prog ops Q rest (a.put dst v) w) (hg:Region.wanted (⟨dst,.load T x,ty,pos,aft,grd⟩:Oper) (yielded ops a.tmps)=true:=by first|rfl|exact zAQ rfl (zAI rfl (by first|rfl|(simp only[pe];rfl)))) (hx:a.eval x=.pointer (some ⟨b,k,none⟩):=by exact rfl) (hi:At l i (.blk b cs U):=by repeat (first|(with_reducible exact At.zero)|apply At.succ)) (hT:oneB Tryz.prog T=true:=by first|(with_reducible exact zBk)|(with_reducible exact zAC)|(with_reducible exact one_u8)|(with_reducible exact zA9)|(with_reducible exact one_str)|(with_reducible exact zAh)|(with_reducible exact one_u64)|(with_reducible exact zAz)|(with_reducible exact zD9)|(with_reducible exact one_p10)|(with_reducible exact zAd)|(with_reducible exact one_ints)|(with_reducible exact zBW)|(with_reducible exact one_bools)|(with_reducible exact one_bytes)) (hv:cs[k]?=some v:=by first|(with_reducible exact wg0 _)|(with_reducible exact wg1 _)|(with_reducible exact wg2 _)|(with_reducible exact wg3 _)|(with_reducible exact wg4 _)|(with_reducible exact wg5 _)|(with_reducible exact wg6 _)|(with_reducible exact wg7 _)|(with_reducible exact wg8 _)|(with_reducible exact wg9 _)|(with_reducible exact wg10 _)|(with_reducible exact wg11 _)|(with_reducible exact wg12 _)|(with_reducible exact wg13 _)|(with_reducible exact wg14 _)|(with_reducible exact wg15 _)|(with_reducible exact wg16 _)|(with_reducible exact fg0 _)|(with_reducible exact fg1 _)|(with_reducible exact fg2 _)|(with_reducible exact ng0 _ _)|(with_reducible exact ng1 _ _)|(with_reducible exact ng2 _ _)|(with_reducible exact ng3 _ _)|(with_reducible exact ng4 _ _)|(with_reducible exact ng5 _ _)|(with_reducible exact ng6 _ _)|(with_reducible exact ng7 _ _)|(with_reducible exact ng8 _ _)|(with_reducible exact ng9 _ _)|rfl):wpList Tryz.prog ops Q ((⟨dst,.load T x,ty,pos,aft,grd⟩:Oper)::rest) a w :=
 zEq hg T x rfl hx H hi hT hv h
theorem aD (H:HoldG M w0 w l) {T:TypeId} {x:Operand} {i b:Nat} {cs:Array Value} {U:TypeId} {n:Nat} (h:wpList Tryz.prog ops Q rest (a.put dst (.agg cs)) w) (hg:Region.wanted (⟨dst,.load T x,ty,pos,aft,grd⟩:Oper) (yielded ops a.tmps)=true:=by first|rfl|exact zAQ rfl (zAI rfl (by first|rfl|(simp only[pe];rfl)))) (hx:a.eval x=.pointer (some ⟨b,0,none⟩):=by exact rfl) (hi:At l i (.blk b cs U):=by repeat (first|(with_reducible exact At.zero)|apply At.succ)) (hT:rowB Tryz.prog T n=true:=by first|(with_reducible exact zBQ)|(with_reducible exact zBY)|(with_reducible exact zAP)|(with_reducible exact zCL)|(with_reducible exact row_P10)) (hn:cs.size=n:=by rfl):wpList Tryz.prog ops Q ((⟨dst,.load T x,ty,pos,aft,grd⟩:Oper)::rest) a w :=
 zFk hg T x rfl hx H hi hT hn h
theorem aI {T:TypeId} {x lo:Operand} {L:Str} {y:Int} {i:Nat} (h:wpList Tryz.prog ops Q rest (a.put dst (.int .u8 (byt L i))) w) (hg:Region.wanted (⟨dst,.index T x lo,ty,pos,aft,grd⟩:Oper) (yielded ops a.tmps)=true:=by first|rfl|exact zAQ rfl (zAI rfl (by first|rfl|(simp only[pe];rfl)))) (hT:Tryz.prog.underlying T=some .string:=by exact Tryz.underlying9) (hx:a.eval x=.string ⟨L.toArray⟩:=by exact rfl) (hl:a.eval lo=.int .i64 y:=by first|(simp only[pe];done)|(simp only[pe];rfl)) (hy:y=(i:Int):=by first|with_reducible exact hNC|with_reducible exact nc1 _|with_reducible exact nc2 _|with_reducible exact nc3 _|with_reducible exact nca _ _|with_reducible exact nc0 _|with_reducible exact ncl0|with_reducible exact ncl1|rfl) (h1:i<L.length:=by first|omega|(simp only[List.length_cons,List.length_nil];omega)):wpList Tryz.prog ops Q ((⟨dst,.index T x lo,ty,pos,aft,grd⟩:Oper)::rest) a w :=
 zMA hg T x lo rfl hT hx hl hy h1 h
theorem aC {T:TypeId} {x lo hi:Operand} {L:Str} {y z:Int} {i j:Nat} (h:wpList Tryz.prog ops Q rest (a.put dst (.string ⟨((L.take j).drop i).toArray⟩)) w) (hg:Region.wanted (⟨dst,.slice T x (some lo) (some hi) none,ty,pos,aft,grd⟩:Oper) (yielded ops a.tmps)=true:=by first|rfl|exact zAQ rfl (zAI rfl (by first|rfl|(simp only[pe];rfl)))) (hT:Tryz.prog.underlying T=some .string:=by exact Tryz.underlying9) (hx:a.eval x=.string ⟨L.toArray⟩:=by exact rfl) (hl:a.eval lo=.int .i64 y:=by first|(simp only[pe];done)|(simp only[pe];rfl)) (hy:y=(i:Int):=by first|with_reducible exact hNC|with_reducible exact nc1 _|with_reducible exact nc2 _|with_reducible exact nc3 _|with_reducible exact nca _ _|with_reducible exact nc0 _|with_reducible exact ncl0|with_reducible exact ncl1|rfl) (hh:a.eval hi=.int .i64 z:=by first|(simp only[pe];done)|(simp only[pe];rfl)) (hz:z=(j:Int):=by first|with_reducible exact hNC|with_reducible exact nc1 _|with_reducible exact nc2 _|with_reducible exact nc3 _|with_reducible exact nca _ _|with_reducible exact nc0 _|with_reducible exact ncl0|with_reducible exact ncl1|rfl) (h1:i<=j:=by first|omega|(simp only[List.length_cons,List.length_nil];omega)) (h2:j<=L.length:=by first|omega|(simp only[List.length_cons,List.length_nil];omega)):wpList Tryz.prog ops Q ((⟨dst,.slice T x (some lo) (some hi) none,ty,pos,aft,grd⟩:Oper)::rest) a w :=
 zMb hg T x lo hi rfl hT hx hl hy hh hz h1 h2 h
theorem aE {T:TypeId} {x y:Operand} {U:TypeId} {L L':Str} (h:wpList Tryz.prog ops Q rest (a.put dst (.bool (L == L'))) w) (hg:Region.wanted (⟨dst,.binOp .eql T x y U,ty,pos,aft,grd⟩:Oper) (yielded ops a.tmps)=true:=by first|rfl|exact zAQ rfl (zAI rfl (by first|rfl|(simp only[pe];rfl)))) (hx:a.eval x=.string ⟨L.toArray⟩:=by exact rfl) (hy:a.eval y=.string ⟨L'.toArray⟩:=by exact rfl) (hq:∀ w:World,(eqGuard .eql T x y (.string ⟨L.toArray⟩) (.string ⟨L'.toArray⟩)).run Tryz.prog w=.ok () w:=by exact fun _=>rfl):wpList Tryz.prog ops Q ((⟨dst,.binOp .eql T x y U,ty,pos,aft,grd⟩:Oper)::rest) a w :=
 zOy hg T x y U rfl hx hy hq h
end
section
variable {M:Nat->Prop} {a:Act} {w w0:World} {l:List Res} {fn:Func} {R:Ending->World->Prop} {p q r:Tmp} {T:TypeId} {b i n:Nat} {cs:Array Value} {U:TypeId} {s:Nat->Nat} {v u:Value}
theorem xc (hres:fn.results=#[.cell p T]) (H:HoldG M w0 w l) (h:R (.returned (.agg cs)) w) (hp:a.tmps.getD p undef=.pointer (some ⟨b,0,none⟩):=by exact rfl) (hi:At l i (.blk b cs U):=by repeat (first|(with_reducible exact At.zero)|apply At.succ)) (hT:rowB Tryz.prog T n=true:=by first|(with_reducible exact zBQ)|(with_reducible exact zBY)|(with_reducible exact zAP)|(with_reducible exact zCL)) (hn:cs.size=n:=by rfl) (hd:a.defers=[]:=by exact rfl):bodyPost Tryz.prog fn R .ret a w:=zLU hres hp H hi hT hn hd h
theorem xct (hres:fn.results=#[.cell p T,.tmp q]) (H:HoldG M w0 w l) (h:R (.returned (.tuple #[.agg cs,v])) w) (hp:a.tmps.getD p undef=.pointer (some ⟨b,0,none⟩):=by exact rfl) (hq:a.tmps.getD q undef=v:=by first|rfl|(simp only[pl];rfl)) (hi:At l i (.blk b cs U):=by repeat (first|(with_reducible exact At.zero)|apply At.succ)) (hT:rowB Tryz.prog T n=true:=by first|(with_reducible exact zBQ)|(with_reducible exact zBY)|(with_reducible exact zAP)|(with_reducible exact zCL)) (hn:cs.size=n:=by rfl) (hd:a.defers=[]:=by exact rfl):bodyPost Tryz.prog fn R .ret a w:=zEz hres hp hq H hi hT hn hd h
theorem xctt (hres:fn.results=#[.cell p T,.tmp q,.tmp r]) (H:HoldG M w0 w l) (h:R (.returned (.tuple #[.agg cs,v,u])) w) (hp:a.tmps.getD p undef=.pointer (some ⟨b,0,none⟩):=by exact rfl) (hq:a.tmps.getD q undef=v:=by first|rfl|(simp only[pl];rfl)) (hr:a.tmps.getD r undef=u:=by first|rfl|(simp only[pl];rfl)) (hi:At l i (.blk b cs U):=by repeat (first|(with_reducible exact At.zero)|apply At.succ)) (hT:rowB Tryz.prog T n=true:=by first|(with_reducible exact zBQ)|(with_reducible exact zBY)|(with_reducible exact zAP)|(with_reducible exact zCL)) (hn:cs.size=n:=by rfl) (hd:a.defers=[]:=by exact rfl):bodyPost Tryz.prog fn R .ret a w:=zPM hres hp hq hr H hi hT hn hd h
theorem xcS (hres:fn.results=#[.cell p T]) (H:HoldG M w0 w l) (h:R (.returned (setV s)) w) (hp:a.tmps.getD p undef=.pointer (some ⟨b,0,none⟩):=by exact rfl) (hi:At l i (.blk b (setC s) U):=by repeat (first|(with_reducible exact At.zero)|apply At.succ)) (hT:rowB Tryz.prog T 4=true:=by with_reducible exact zBY) (hd:a.defers=[]:=by exact rfl):bodyPost Tryz.prog fn R .ret a w:=zP6 hres hp H hi hT hd h
theorem xctS (hres:fn.results=#[.cell p T,.tmp q]) (H:HoldG M w0 w l) (h:R (.returned (.tuple #[setV s,v])) w) (hp:a.tmps.getD p undef=.pointer (some ⟨b,0,none⟩):=by exact rfl) (hq:a.tmps.getD q undef=v:=by first|rfl|(simp only[pl];rfl)) (hi:At l i (.blk b (setC s) U):=by repeat (first|(with_reducible exact At.zero)|apply At.succ)) (hT:rowB Tryz.prog T 4=true:=by with_reducible exact zBY) (hd:a.defers=[]:=by exact rfl):bodyPost Tryz.prog fn R .ret a w:=zOn hres hp hq H hi hT hd h
end
theorem ca {α:Type}:(∀ (a:α) (l r:List α),a::l++r=a::(l++r))/\∀ l:List α,[]++l=l:=⟨fun _ _ _=>rfl,fun _=>rfl⟩
theorem sc {α:Type}:(∀ (a b:α) (l:List α) (n:Nat),(a::l).set (n+1) b=a::l.set n b)/\∀ (a b:α) (l:List α),(a::l).set 0 b=b::l:=⟨fun _ _ _ _=>rfl,fun _ _ _=>rfl⟩
theorem ml {α β:Type} {f:α->β}:(∀ l:List α,l.toArray.map f=(l.map f).toArray)/\(∀ (a:α) (l:List α),(a::l).map f=f a::l.map f)/\([]:List α).map f=[]:=⟨fun _=>List.map_toArray ..,fun _ _=>rfl,rfl⟩
section
variable {ops:Array Oper} {dst:Option Tmp} {ty:TypeId} {pos:String} {aft:Array Edge} {grd:Option (Nat × Bool)} {rest:List Oper} {a:Act} {w:World} {Q:Exit->Act->World->Prop}
theorem gBS {x0:TypeId} {x1:Nat} {x2:Array (Nat × Operand)} (h:wpList Tryz.prog ops Q ((⟨dst,.buildSlice x0 x1 x2,ty,pos,aft,grd⟩:Oper)::rest) a w):wpList Tryz.prog ops Q ((⟨dst,.buildSlice x0 x1 x2,ty,pos,aft,grd⟩:Oper)::rest) a w:=h
theorem gIA {x0:TypeId} {x1 x2:Operand} (h:wpList Tryz.prog ops Q ((⟨dst,.indexAddr x0 x1 x2,ty,pos,aft,grd⟩:Oper)::rest) a w):wpList Tryz.prog ops Q ((⟨dst,.indexAddr x0 x1 x2,ty,pos,aft,grd⟩:Oper)::rest) a w:=h
theorem gCV {x0 x1:TypeId} {x2:Operand} (h:wpList Tryz.prog ops Q ((⟨dst,.convert x0 x1 x2,ty,pos,aft,grd⟩:Oper)::rest) a w):wpList Tryz.prog ops Q ((⟨dst,.convert x0 x1 x2,ty,pos,aft,grd⟩:Oper)::rest) a w:=h
theorem gSl {x0:TypeId} {x1:Operand} {x2 x3 x4:Option Operand} (h:wpList Tryz.prog ops Q ((⟨dst,.slice x0 x1 x2 x3 x4,ty,pos,aft,grd⟩:Oper)::rest) a w):wpList Tryz.prog ops Q ((⟨dst,.slice x0 x1 x2 x3 x4,ty,pos,aft,grd⟩:Oper)::rest) a w:=h
theorem gMS {x0:TypeId} {x1 x2:Operand} (h:wpList Tryz.prog ops Q ((⟨dst,.makeSlice x0 x1 x2,ty,pos,aft,grd⟩:Oper)::rest) a w):wpList Tryz.prog ops Q ((⟨dst,.makeSlice x0 x1 x2,ty,pos,aft,grd⟩:Oper)::rest) a w:=h
theorem gBd {x0:TypeId} {x1:Array (Nat × Operand)} (h:wpList Tryz.prog ops Q ((⟨dst,.build x0 x1,ty,pos,aft,grd⟩:Oper)::rest) a w):wpList Tryz.prog ops Q ((⟨dst,.build x0 x1,ty,pos,aft,grd⟩:Oper)::rest) a w:=h
end
theorem zPI (W:World):(Instr.build 28 #[]).run Tryz.prog W=.ok (zAV {kind:=0} nilS) W:=by kernel_rfl
theorem zOz (k:Int) (W:World):(Instr.build 28 #[(0,.int .i64 k)]).run Tryz.prog W=.ok (zAV {kind:=k} nilS) W:=by simp[go_sem];rfl
theorem zOm (k:Int) (s:Nat->Nat) (W:World):(Instr.build 28 #[(0,.int .i64 k),(1,setV s)]).run Tryz.prog W=.ok (zAV {kind:=k,set:=s} nilS) W:=by unfold setV;simp[go_sem];rfl
theorem zOr (k:Int) (p:Option Addr) (n c:Nat) (W:World):(Instr.build 28 #[(0,.int .i64 k),(2,.slice p n c)]).run Tryz.prog W=.ok (zAV {kind:=k} (.slice p n c)) W:=by simp[go_sem];rfl
theorem zOT (k g:Int) (p:Option Addr) (n c:Nat) (W:World):(Instr.build 28 #[(0,.int .i64 k),(2,.slice p n c),(6,.int .i64 g)]).run Tryz.prog W=.ok (zAV {kind:=k,group:=g} (.slice p n c)) W:=by simp[go_sem];rfl
theorem zPD (k lo hi:Int) (z:Bool) (p:Option Addr) (n c:Nat) (W:World):(Instr.build 28 #[(0,.int .i64 k),(2,.slice p n c),(3,.int .i64 lo),(4,.int .i64 hi),(5,.bool z)]).run Tryz.prog W=.ok (zAV {kind:=k,lo:=lo,hi:=hi,lazy:=z} (.slice p n c)) W:=by simp[go_sem];rfl
theorem zO1 (x y z:Bool) (W:World):(Instr.build 104 #[(0,.bool x),(1,.bool y),(2,.bool z)]).run Tryz.prog W=.ok (zCN (x,y,z)) W:=by simp[go_sem];rfl
theorem zCX (d:NodeD) (s:Value) (W:World):(Instr.buildSlice 26 1 #[(0,zAV d s)]).run Tryz.prog W=.ok (.slice (some ⟨W.heap.size,0,none⟩) 1 1) (W.alloc (.cells (zAR d s) 28)):=by kernel_rfl
section
variable {M:Nat->Prop} {ops:Array Oper} {dst:Option Tmp} {ty:TypeId} {pos:String} {aft:Array Edge} {grd:Option (Nat × Bool)} {rest:List Oper} {a:Act} {w w0:World} {l:List Res} {Q:Exit->Act->World->Prop}
theorem gES {U:TypeId} {x y:Operand} (h:wpList Tryz.prog ops Q ((⟨dst,.binOp .eql 25 x y U,ty,pos,aft,grd⟩:Oper)::rest) a w):wpList Tryz.prog ops Q ((⟨dst,.binOp .eql 25 x y U,ty,pos,aft,grd⟩:Oper)::rest) a w:=h
theorem nb0 (h:wpList Tryz.prog ops Q rest (a.put dst (zAV {kind:=0} nilS)) w) (hg:Region.wanted (⟨dst,.build 28 #[],ty,pos,aft,grd⟩:Oper) (yielded ops a.tmps)=true:=by first|rfl|exact zAQ rfl (zAI rfl (by first|rfl|(simp only[pe];rfl)))):wpList Tryz.prog ops Q ((⟨dst,.build 28 #[],ty,pos,aft,grd⟩:Oper)::rest) a w :=
 zAK hg (by
  simp only[execOp,List.map_toArray,List.map_nil,Sem.run_bind,zPI];rfl) h
theorem nb1 {x:Operand} {k:Int} (h:wpList Tryz.prog ops Q rest (a.put dst (zAV {kind:=k} nilS)) w) (hg:Region.wanted (⟨dst,.build 28 #[(0,x)],ty,pos,aft,grd⟩:Oper) (yielded ops a.tmps)=true:=by first|rfl|exact zAQ rfl (zAI rfl (by first|rfl|(simp only[pe];rfl)))) (h0:a.eval x=.int .i64 k:=by first|(simp only[pe];done)|(simp only[pe];rfl)):wpList Tryz.prog ops Q ((⟨dst,.build 28 #[(0,x)],ty,pos,aft,grd⟩:Oper)::rest) a w :=
 zAK hg (by
  simp only[execOp,List.map_toArray,List.map_cons,List.map_nil,h0,Sem.run_bind,zOz];rfl) h
theorem nbS {x y:Operand} {k:Int} {s:Nat->Nat} (h:wpList Tryz.prog ops Q rest (a.put dst (zAV {kind:=k,set:=s} nilS)) w) (hg:Region.wanted (⟨dst,.build 28 #[(0,x),(1,y)],ty,pos,aft,grd⟩:Oper) (yielded ops a.tmps)=true:=by first|rfl|exact zAQ rfl (zAI rfl (by first|rfl|(simp only[pe];rfl)))) (h0:a.eval x=.int .i64 k:=by first|(simp only[pe];done)|(simp only[pe];rfl)) (h1:a.eval y=setV s:=by (try simp only[pe]);with_reducible rfl):wpList Tryz.prog ops Q ((⟨dst,.build 28 #[(0,x),(1,y)],ty,pos,aft,grd⟩:Oper)::rest) a w :=
 zAK hg (by
  simp only[execOp,List.map_toArray,List.map_cons,List.map_nil,h0,h1,Sem.run_bind,zOm];rfl) h
theorem nbK {x y:Operand} {k:Int} {p:Option Addr} {n c:Nat} (h:wpList Tryz.prog ops Q rest (a.put dst (zAV {kind:=k} (.slice p n c))) w) (hg:Region.wanted (⟨dst,.build 28 #[(0,x),(2,y)],ty,pos,aft,grd⟩:Oper) (yielded ops a.tmps)=true:=by first|rfl|exact zAQ rfl (zAI rfl (by first|rfl|(simp only[pe];rfl)))) (h0:a.eval x=.int .i64 k:=by first|(simp only[pe];done)|(simp only[pe];rfl)) (h1:a.eval y=.slice p n c:=by first|(simp only[pe];done)|(simp only[pe];rfl)):wpList Tryz.prog ops Q ((⟨dst,.build 28 #[(0,x),(2,y)],ty,pos,aft,grd⟩:Oper)::rest) a w :=
 zAK hg (by
  simp only[execOp,List.map_toArray,List.map_cons,List.map_nil,h0,h1,Sem.run_bind,zOr];rfl) h
theorem nbG {x y z:Operand} {k g:Int} {p:Option Addr} {n c:Nat} (h:wpList Tryz.prog ops Q rest (a.put dst (zAV {kind:=k,group:=g} (.slice p n c))) w) (hg:Region.wanted (⟨dst,.build 28 #[(0,x),(2,y),(6,z)],ty,pos,aft,grd⟩:Oper) (yielded ops a.tmps)=true:=by first|rfl|exact zAQ rfl (zAI rfl (by first|rfl|(simp only[pe];rfl)))) (h0:a.eval x=.int .i64 k:=by first|(simp only[pe];done)|(simp only[pe];rfl)) (h1:a.eval y=.slice p n c:=by first|(simp only[pe];done)|(simp only[pe];rfl)) (h2:a.eval z=.int .i64 g:=by first|(simp only[pe];done)|(simp only[pe];rfl)):wpList Tryz.prog ops Q ((⟨dst,.build 28 #[(0,x),(2,y),(6,z)],ty,pos,aft,grd⟩:Oper)::rest) a w :=
 zAK hg (by
  simp only[execOp,List.map_toArray,List.map_cons,List.map_nil,h0,h1,h2,Sem.run_bind,zOT];rfl) h
theorem nbR {x y u v z:Operand} {k lo hi:Int} {q:Bool} {p:Option Addr} {n c:Nat} (h:wpList Tryz.prog ops Q rest (a.put dst (zAV {kind:=k,lo:=lo,hi:=hi,lazy:=q} (.slice p n c))) w) (hg:Region.wanted (⟨dst,.build 28 #[(0,x),(2,y),(3,u),(4,v),(5,z)],ty,pos,aft,grd⟩:Oper) (yielded ops a.tmps)=true:=by first|rfl|exact zAQ rfl (zAI rfl (by first|rfl|(simp only[pe];rfl)))) (h0:a.eval x=.int .i64 k:=by first|(simp only[pe];done)|(simp only[pe];rfl)) (h1:a.eval y=.slice p n c:=by first|(simp only[pe];done)|(simp only[pe];rfl)) (h2:a.eval u=.int .i64 lo:=by first|(simp only[pe];done)|(simp only[pe];rfl)) (h3:a.eval v=.int .i64 hi:=by first|(simp only[pe];done)|(simp only[pe];rfl)) (h4:a.eval z=.bool q:=by first|(simp only[pe];done)|(simp only[pe];rfl)):wpList Tryz.prog ops Q ((⟨dst,.build 28 #[(0,x),(2,y),(3,u),(4,v),(5,z)],ty,pos,aft,grd⟩:Oper)::rest) a w :=
 zAK hg (by
  simp only[execOp,List.map_toArray,List.map_cons,List.map_nil,h0,h1,h2,h3,h4,Sem.run_bind,zPD];rfl) h
theorem fb3 {x y z:Operand} {p q r:Bool} (h:wpList Tryz.prog ops Q rest (a.put dst (zCN (p,q,r))) w) (hg:Region.wanted (⟨dst,.build 104 #[(0,x),(1,y),(2,z)],ty,pos,aft,grd⟩:Oper) (yielded ops a.tmps)=true:=by first|rfl|exact zAQ rfl (zAI rfl (by first|rfl|(simp only[pe];rfl)))) (h0:a.eval x=.bool p:=by first|(simp only[pe];done)|(simp only[pe];rfl)) (h1:a.eval y=.bool q:=by first|(simp only[pe];done)|(simp only[pe];rfl)) (h2:a.eval z=.bool r:=by first|(simp only[pe];done)|(simp only[pe];rfl)):wpList Tryz.prog ops Q ((⟨dst,.build 104 #[(0,x),(1,y),(2,z)],ty,pos,aft,grd⟩:Oper)::rest) a w :=
 zAK hg (by
  simp only[execOp,List.map_toArray,List.map_cons,List.map_nil,h0,h1,h2,Sem.run_bind,zO1];rfl) h
theorem qS {x y:Operand} {t:TypeId} {s u:Nat->Nat} {q:Bool} (h:wpList Tryz.prog ops Q rest (a.put dst (.bool q)) w) (hg:Region.wanted (⟨dst,.binOp .eql 25 x y t,ty,pos,aft,grd⟩:Oper) (yielded ops a.tmps)=true:=by first|rfl|exact zAQ rfl (zAI rfl (by first|rfl|(simp only[pe];rfl)))) (hx:a.eval x=setV s:=by (try simp only[pe]);with_reducible rfl) (hy:a.eval y=setV u:=by (try simp only[pe]);with_reducible rfl) (hq:eqS s u=q:=by first|assumption|rfl):wpList Tryz.prog ops Q ((⟨dst,.binOp .eql 25 x y t,ty,pos,aft,grd⟩:Oper)::rest) a w :=
 zAK hg (by
  have he:=zGb s u w;rw[hq]at he;simp only[execOp,hx,hy];unfold setV
  simp[go_sem,he]) h
theorem aGb (H:HoldG M w0 w l) {T:TypeId} {x:Operand} {i b:Nat} {cs:Array Value} {U:TypeId} {k:Nat} {z q:Bool} (h:wpList Tryz.prog ops Q rest (a.put dst (.bool q)) w) (hg:Region.wanted (⟨dst,.load T x,ty,pos,aft,grd⟩:Oper) (yielded ops a.tmps)=true:=by first|rfl|exact zAQ rfl (zAI rfl (by first|rfl|(simp only[pe];rfl)))) (hx:a.eval x=.pointer (some ⟨b,k,none⟩):=by exact rfl) (hi:At l i (.blk b cs U):=by repeat (first|(with_reducible exact At.zero)|apply At.succ)) (hT:oneB Tryz.prog T=true:=by first|(with_reducible exact one_words)|(with_reducible exact zBk)|(with_reducible exact one_ptr)|(with_reducible exact one_kind)|(with_reducible exact zAC)|(with_reducible exact one_u8)|(with_reducible exact zA9)|(with_reducible exact one_str)|(with_reducible exact zAh)|(with_reducible exact one_u64)|(with_reducible exact zAz)|(with_reducible exact zD9)|(with_reducible exact one_p10)|(with_reducible exact zAd)|(with_reducible exact one_ints)|(with_reducible exact zBW)|(with_reducible exact one_bools)|(with_reducible exact one_bytes)) (hv:cs[k]?=some (.bool z):=by first|(with_reducible exact wg0 _)|(with_reducible exact wg1 _)|(with_reducible exact wg2 _)|(with_reducible exact wg3 _)|(with_reducible exact wg4 _)|(with_reducible exact wg5 _)|(with_reducible exact wg6 _)|(with_reducible exact wg7 _)|(with_reducible exact wg8 _)|(with_reducible exact wg9 _)|(with_reducible exact wg10 _)|(with_reducible exact wg11 _)|(with_reducible exact wg12 _)|(with_reducible exact wg13 _)|(with_reducible exact wg14 _)|(with_reducible exact wg15 _)|(with_reducible exact wg16 _)|(with_reducible exact fg0 _)|(with_reducible exact fg1 _)|(with_reducible exact fg2 _)|(with_reducible exact ng0 _ _)|(with_reducible exact ng1 _ _)|(with_reducible exact ng2 _ _)|(with_reducible exact ng3 _ _)|(with_reducible exact ng4 _ _)|(with_reducible exact ng5 _ _)|(with_reducible exact ng6 _ _)|(with_reducible exact ng7 _ _)|(with_reducible exact ng8 _ _)|(with_reducible exact ng9 _ _)|rfl) (hq:z=q:=by assumption):wpList Tryz.prog ops Q ((⟨dst,.load T x,ty,pos,aft,grd⟩:Oper)::rest) a w :=
 by subst hq;exact zEq hg T x rfl hx H hi hT hv h
theorem aVn (H:HoldG M w0 w l) {T:TypeId} {x:Operand} {i b:Nat} {d:NodeD} {s:Value} {U:TypeId} (h:wpList Tryz.prog ops Q rest (a.put dst (setV d.set)) w) (hg:Region.wanted (⟨dst,.load T x,ty,pos,aft,grd⟩:Oper) (yielded ops a.tmps)=true:=by first|rfl|exact zAQ rfl (zAI rfl (by first|rfl|(simp only[pe];rfl)))) (hx:a.eval x=.pointer (some ⟨b,1,none⟩):=by exact rfl) (hi:At l i (.blk b (zAR d s) U):=by repeat (first|(with_reducible exact At.zero)|apply At.succ)) (hT:rowB Tryz.prog T 4=true:=by with_reducible exact zBY):wpList Tryz.prog ops Q ((⟨dst,.load T x,ty,pos,aft,grd⟩:Oper)::rest) a w :=
 zGJ hg T x rfl hx H hi (setC d.set) hT rfl h
end
theorem cht {M:Nat->Prop} {P:Program} {f:FuncId} {args:Array Value} {w w0:World} {l:List Res} {t:Tree} {G:Nat->Prop} {R:Ending->World->Prop} (c:Calls P f args w fun e w'=>zCf w G t e w'/\Below w.heap.size w w') (H:HoldG M w0 w l) (hG:Still l G)
  (k:∀ p n F w',(∀ b,F b->w0.heap.size<=b\/G b)->HoldG M w0 w' (l++[.kn F (fun V=>ForestR V F p n t.kids)])->R (.returned (zAV t.d (.slice p t.kids.length n))) w'):Calls P f args w R:=c.mono fun _ w' h=>by
 obtain⟨⟨p,n,F,rfl,hs,hF⟩,hb⟩:=h;exact k p n F w' (fun b h=>(hF b h).2.imp (fun h=>Nat.le_trans H.keep.size h) id) (H.learn hb hG hF (fun V hV=>hs.kept hV))
end
end Go.Proofs.YtalggmbdpmdcbaaGreat
