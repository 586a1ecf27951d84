/-
  Laws of walks, and walks.
-/
import Derived.Test.YtdoflhjhaciepaaGreatVd3
import Derived.Test.YtdoflhjhaciepaaGreatVd2
import Derived.Test.YtdoflhjhaciepaaGreatVd1
import Derived.Deep.CutRange
set_option linter.unusedVariables false
set_option linter.unusedSimpArgs false
set_option maxRecDepth 100000
set_option maxHeartbeats 16000000
namespace Go.Proofs.YtdoflhjhaciepaaGreat
section
open Go.RowKit Go.Shelf
def zAY (x:InstD):Array Value:=#[.int .i64 x.kind,.int .u64 (x.set 0),.int .u64 (x.set 1),.int .u64 (x.set 2),.int .u64 (x.set 3),.int .i64 x.next,.int .i64 x.other,.int .i64 x.slot,.int .i64 x.spot]
abbrev zAu (x:InstD):Value:=.agg (zAY x)
theorem ig0 (x:InstD):(zAY x)[0]?=some (.int .i64 x.kind):=rfl
theorem ig5 (x:InstD):(zAY x)[5]?=some (.int .i64 x.next):=rfl
theorem ig6 (x:InstD):(zAY x)[6]?=some (.int .i64 x.other):=rfl
theorem ig7 (x:InstD):(zAY x)[7]?=some (.int .i64 x.slot):=rfl
theorem ig8 (x:InstD):(zAY x)[8]?=some (.int .i64 x.spot):=rfl
theorem zBX (xs:List InstD):∀ r ∈ xs.map zAY,r.size=9:=by
 intro r hr;obtain⟨x,_,rfl⟩:=List.mem_map.1 hr;rfl
def InstsR (F:Nat→Prop) (p:Option Addr) (c:Nat) (xs:List InstD) (V:World):Prop:=RdN 9 V F (.slice p xs.length c) (xs.map zAY)
section
variable {F:Nat→Prop} {p:Option Addr} {n c:Nat} {xs:List InstD} {V W w0:World}
theorem InstsR.kept (h:InstsR F p c xs W) (hV:∀ b,F b→V.heap[b]?=W.heap[b]?):InstsR F p c xs V:=RdN.kept h hV
theorem InstsR.bound (h:InstsR F p c xs W):xs.length≤c∧c≤9223372036854775807:=by
 obtain⟨p',c',e,h1,h2,_⟩:=h;simp only[Value.slice.injEq]at e;obtain⟨rfl,_,rfl⟩:=e;rw[List.length_map]at h1;exact⟨h1,by simpa [maxLen] using h2⟩
theorem InstsR.at (h:InstsR F p c xs W) (hn:0<xs.length):∃ b off,p=some ⟨b,off,none⟩:=by
 obtain⟨p',c',e,_,_,_,h3⟩:=h;simp only[Value.slice.injEq]at e;obtain⟨rfl,_,rfl⟩:=e;obtain⟨b,off,e2,_⟩:=h3 0 (zAY xs[0]) (by rw[List.getElem?_map,List.getElem?_eq_getElem hn];rfl)
 exact⟨b,off,e2⟩
theorem InstsR.cells {b off:Nat} (h:InstsR F (some ⟨b,off,none⟩) c xs V) {j:Nat} {x:InstD} (hj:xs[j]?=some x) {q:Nat} (hq:off+j * 9=q):∀ k,k<9→V.cell? ⟨b,q+k,none⟩=(zAY x)[k]?:=by
 obtain⟨p,c,e1,_,_,_,h3⟩:=h;obtain⟨b',off',e2,_,_,h4⟩:=h3 j (zAY x) (by rw[List.getElem?_map,hj];rfl)
 simp only[Value.slice.injEq]at e1;obtain⟨rfl,_,rfl⟩:=e1
 cases e2;subst hq
 exact h4
theorem Hold.insts (hF:∀ b,F b→b<w0.heap.size) (h:InstsR F p c xs w0):Hold w0 w0 [.kn F (InstsR F p c xs)] :=
 (Hold.start w0).know F (InstsR F p c xs) hF (fun i r h=>by simp at h) (fun V hV=>h.kept hV)
end
theorem zAk:rowB Tryz.prog 43 9=true:=by kernel_rfl
theorem zIr:zCG Tryz.prog 43=zAY {kind:=0}:=by kernel_rfl
theorem zHx:(zCG Tryz.prog 43).size=9:=by kernel_rfl
theorem zOg {o:Oper} {a:Act} {w:World} {x y:Operand} {U:TypeId} {s u:Nat→Nat} (hop:o.op=.binOp .neq 40 x y U) (hx:a.eval x=setV s) (hy:a.eval y=setV u):(execOp a.eval o).run Tryz.prog w=.ok (.value (.bool (!(eqS s u)))) w:=by
 have he:=zF0 s u w;simp only[execOp,hop,hx,hy];unfold setV;simp[go_sem,he]
theorem zLg {o:Oper} {a:Act} {w:World} (hop:o.op=.build 40 #[]):(execOp a.eval o).run Tryz.prog w=.ok (.value (setV zAE)) w:=by
 have h:(Instr.build 40 #[]).run Tryz.prog w=.ok (setV zAE) w:=by kernel_rfl
 simp only[execOp,hop,List.map_toArray,List.map_nil,Sem.run_bind,h];rfl
theorem zLX {P:Program} {o:Oper} {a:Act} {w:World} {x:Operand} {t e:TypeId} (hu:P.underlying t=some (.slice e)) {p:Option Addr} {n c:Nat} (hop:o.op=Op.call {callee:=Callee.builtin Builtin.len,args:=#[x],argTypes:=#[t]}) (hx:a.eval x=.slice p n c) :
  (execOp a.eval o).run P w=.ok (.value (.int .i64 n)) w:=by
 simp only[execOp,hop,resolve,invoke,builtin,List.map_toArray,List.map_cons,List.map_nil,hx];simp[go_sem,Builtin.len_,run_underlying hu]
theorem zQb (k:Int) (W:World):(Instr.build 43 #[(0,.int .i64 k)]).run Tryz.prog W=.ok (zAu {kind:=k}) W:=by simp[go_sem];rfl
theorem zQz (k n:Int) (s:Nat→Nat) (W:World):(Instr.build 43 #[(0,.int .i64 k),(1,setV s),(2,.int .i64 n)]).run Tryz.prog W=.ok (zAu {kind:=k,set:=s,next:=n}) W:=by unfold setV;simp[go_sem];rfl
theorem zQ0 (k n o:Int) (W:World):(Instr.build 43 #[(0,.int .i64 k),(2,.int .i64 n),(3,.int .i64 o)]).run Tryz.prog W=.ok (zAu {kind:=k,next:=n,other:=o}) W:=by simp[go_sem];rfl
theorem zQK (k l n:Int) (W:World):(Instr.build 43 #[(0,.int .i64 k),(4,.int .i64 l),(2,.int .i64 n)]).run Tryz.prog W=.ok (zAu {kind:=k,slot:=l,next:=n}) W:=by simp[go_sem];rfl
theorem zQ2 (k p n:Int) (W:World):(Instr.build 43 #[(0,.int .i64 k),(5,.int .i64 p),(2,.int .i64 n)]).run Tryz.prog W=.ok (zAu {kind:=k,spot:=p,next:=n}) W:=by simp[go_sem];rfl
theorem zRS (k n:Int) (W:World):(Instr.build 43 #[(0,.int .i64 k),(2,.int .i64 n)]).run Tryz.prog W=.ok (zAu {kind:=k,next:=n}) W:=by simp[go_sem];rfl
theorem zQh (W:World):(Instr.build 43 #[]).run Tryz.prog W=.ok (zAu {kind:=0}) W:=by kernel_rfl
section
variable {M:Nat→Prop} {ops:Array Oper} {dst:Option Tmp} {ty:TypeId} {pos:String} {aft:Array Edge} {grd:Option (Nat × Bool)} {rest:List Oper} {a:Act} {w w0:World} {l:List Res} {Q:Exit→Act→World→Prop}
theorem gTi {x y:Operand} (h:wpList Tryz.prog ops Q ((⟨dst,.store 43 x y,ty,pos,aft,grd⟩:Oper)::rest) a w):wpList Tryz.prog ops Q ((⟨dst,.store 43 x y,ty,pos,aft,grd⟩:Oper)::rest) a w:=h
theorem gLi {x:Operand} (h:wpList Tryz.prog ops Q ((⟨dst,.load 43 x,ty,pos,aft,grd⟩:Oper)::rest) a w):wpList Tryz.prog ops Q ((⟨dst,.load 43 x,ty,pos,aft,grd⟩:Oper)::rest) a w:=h
theorem gBi {x:Array (Nat × Operand)} (h:wpList Tryz.prog ops Q ((⟨dst,.build 43 x,ty,pos,aft,grd⟩:Oper)::rest) a w):wpList Tryz.prog ops Q ((⟨dst,.build 43 x,ty,pos,aft,grd⟩:Oper)::rest) a w:=h
theorem ib1 {x0:Operand} {k:Int} (h:wpList Tryz.prog ops Q rest (a.put dst (zAu {kind:=k})) w) (hg:Region.wanted (⟨dst,.build 43 #[(0,x0)],ty,pos,aft,grd⟩:Oper) (yielded ops a.tmps)=true:=by first|rfl|exact zAO rfl (zAG rfl (by first|rfl|(simp only[pe];rfl)))) (h0:a.eval x0=.int .i64 k:=by first|(simp only[pe];done)|(simp only[pe];rfl)):wpList Tryz.prog ops Q ((⟨dst,.build 43 #[(0,x0)],ty,pos,aft,grd⟩:Oper)::rest) a w :=
 zAZ hg (by
  simp only[execOp,List.map_toArray,List.map_cons,List.map_nil,h0,Sem.run_bind,zQb];rfl) h
theorem ib2 {x0 x1 x2:Operand} {k n:Int} {s:Nat→Nat} (h:wpList Tryz.prog ops Q rest (a.put dst (zAu {kind:=k,set:=s,next:=n})) w) (hg:Region.wanted (⟨dst,.build 43 #[(0,x0),(1,x1),(2,x2)],ty,pos,aft,grd⟩:Oper) (yielded ops a.tmps)=true:=by first|rfl|exact zAO rfl (zAG rfl (by first|rfl|(simp only[pe];rfl)))) (h0:a.eval x0=.int .i64 k:=by first|(simp only[pe];done)|(simp only[pe];rfl)) (h1:a.eval x1=setV s:=by (try simp only[pe]);with_reducible rfl) (h2:a.eval x2=.int .i64 n:=by first|(simp only[pe];done)|(simp only[pe];rfl)):wpList Tryz.prog ops Q ((⟨dst,.build 43 #[(0,x0),(1,x1),(2,x2)],ty,pos,aft,grd⟩:Oper)::rest) a w :=
 zAZ hg (by
  simp only[execOp,List.map_toArray,List.map_cons,List.map_nil,h0,h1,h2,Sem.run_bind,zQz];rfl) h
theorem ib3 {x0 x2 x3:Operand} {k n o:Int} (h:wpList Tryz.prog ops Q rest (a.put dst (zAu {kind:=k,next:=n,other:=o})) w) (hg:Region.wanted (⟨dst,.build 43 #[(0,x0),(2,x2),(3,x3)],ty,pos,aft,grd⟩:Oper) (yielded ops a.tmps)=true:=by first|rfl|exact zAO rfl (zAG rfl (by first|rfl|(simp only[pe];rfl)))) (h0:a.eval x0=.int .i64 k:=by first|(simp only[pe];done)|(simp only[pe];rfl)) (h2:a.eval x2=.int .i64 n:=by first|(simp only[pe];done)|(simp only[pe];rfl)) (h3:a.eval x3=.int .i64 o:=by first|(simp only[pe];done)|(simp only[pe];rfl)):wpList Tryz.prog ops Q ((⟨dst,.build 43 #[(0,x0),(2,x2),(3,x3)],ty,pos,aft,grd⟩:Oper)::rest) a w :=
 zAZ hg (by
  simp only[execOp,List.map_toArray,List.map_cons,List.map_nil,h0,h2,h3,Sem.run_bind,zQ0];rfl) h
theorem ib4 {x0 x4 x2:Operand} {k l n:Int} (h:wpList Tryz.prog ops Q rest (a.put dst (zAu {kind:=k,slot:=l,next:=n})) w) (hg:Region.wanted (⟨dst,.build 43 #[(0,x0),(4,x4),(2,x2)],ty,pos,aft,grd⟩:Oper) (yielded ops a.tmps)=true:=by first|rfl|exact zAO rfl (zAG rfl (by first|rfl|(simp only[pe];rfl)))) (h0:a.eval x0=.int .i64 k:=by first|(simp only[pe];done)|(simp only[pe];rfl)) (h4:a.eval x4=.int .i64 l:=by first|(simp only[pe];done)|(simp only[pe];rfl)) (h2:a.eval x2=.int .i64 n:=by first|(simp only[pe];done)|(simp only[pe];rfl)):wpList Tryz.prog ops Q ((⟨dst,.build 43 #[(0,x0),(4,x4),(2,x2)],ty,pos,aft,grd⟩:Oper)::rest) a w :=
 zAZ hg (by
  simp only[execOp,List.map_toArray,List.map_cons,List.map_nil,h0,h4,h2,Sem.run_bind,zQK];rfl) h
theorem ib5 {x0 x5 x2:Operand} {k p n:Int} (h:wpList Tryz.prog ops Q rest (a.put dst (zAu {kind:=k,spot:=p,next:=n})) w) (hg:Region.wanted (⟨dst,.build 43 #[(0,x0),(5,x5),(2,x2)],ty,pos,aft,grd⟩:Oper) (yielded ops a.tmps)=true:=by first|rfl|exact zAO rfl (zAG rfl (by first|rfl|(simp only[pe];rfl)))) (h0:a.eval x0=.int .i64 k:=by first|(simp only[pe];done)|(simp only[pe];rfl)) (h5:a.eval x5=.int .i64 p:=by first|(simp only[pe];done)|(simp only[pe];rfl)) (h2:a.eval x2=.int .i64 n:=by first|(simp only[pe];done)|(simp only[pe];rfl)):wpList Tryz.prog ops Q ((⟨dst,.build 43 #[(0,x0),(5,x5),(2,x2)],ty,pos,aft,grd⟩:Oper)::rest) a w :=
 zAZ hg (by
  simp only[execOp,List.map_toArray,List.map_cons,List.map_nil,h0,h5,h2,Sem.run_bind,zQ2];rfl) h
theorem ib6 {x0 x2:Operand} {k n:Int} (h:wpList Tryz.prog ops Q rest (a.put dst (zAu {kind:=k,next:=n})) w) (hg:Region.wanted (⟨dst,.build 43 #[(0,x0),(2,x2)],ty,pos,aft,grd⟩:Oper) (yielded ops a.tmps)=true:=by first|rfl|exact zAO rfl (zAG rfl (by first|rfl|(simp only[pe];rfl)))) (h0:a.eval x0=.int .i64 k:=by first|(simp only[pe];done)|(simp only[pe];rfl)) (h2:a.eval x2=.int .i64 n:=by first|(simp only[pe];done)|(simp only[pe];rfl)):wpList Tryz.prog ops Q ((⟨dst,.build 43 #[(0,x0),(2,x2)],ty,pos,aft,grd⟩:Oper)::rest) a w :=
 zAZ hg (by
  simp only[execOp,List.map_toArray,List.map_cons,List.map_nil,h0,h2,Sem.run_bind,zRS];rfl) h
theorem aTi (H:HoldG M w0 w l) {x y:Operand} {i b:Nat} {cs:Array Value} {U:TypeId} {d:InstD} (h:∀ w',HoldG M w0 w' (l.set i (.blk b (zAY d) U))→wpList Tryz.prog ops Q rest (a.put dst undef) w') (hg:Region.wanted (⟨dst,.store 43 x y,ty,pos,aft,grd⟩:Oper) (yielded ops a.tmps)=true:=by first|rfl|exact zAO rfl (zAG rfl (by first|rfl|(simp only[pe];rfl)))) (hx:a.eval x=.pointer (some ⟨b,0,none⟩):=by exact rfl) (hy:a.eval y=zAu d:=by first|(simp only[pe];done)|(simp only[pe];rfl)) (hi:At l i (.blk b cs U):=by repeat (first|(with_reducible exact At.zero)|apply At.succ)) (hn:cs.size=9:=by first|(with_reducible exact zHx)|rfl):wpList Tryz.prog ops Q ((⟨dst,.store 43 x y,ty,pos,aft,grd⟩:Oper)::rest) a w :=
 zFj hg 43 x y rfl hx hy H hi (zBG zAk) rfl hn rfl h
theorem aLi (H:HoldG M w0 w l) {x:Operand} {i b:Nat} {cs:Array Value} {U:TypeId} (h:wpList Tryz.prog ops Q rest (a.put dst (.agg cs)) w) (hg:Region.wanted (⟨dst,.load 43 x,ty,pos,aft,grd⟩:Oper) (yielded ops a.tmps)=true:=by first|rfl|exact zAO rfl (zAG rfl (by first|rfl|(simp only[pe];rfl)))) (hx:a.eval x=.pointer (some ⟨b,0,none⟩):=by exact rfl) (hi:At l i (.blk b cs U):=by repeat (first|(with_reducible exact At.zero)|apply At.succ)) (hn:cs.size=9:=by first|(with_reducible exact zHx)|rfl):wpList Tryz.prog ops Q ((⟨dst,.load 43 x,ty,pos,aft,grd⟩:Oper)::rest) a w :=
 zIf hg 43 x rfl hx H hi zAk hn h
theorem aGi (H:HoldG M w0 w l) {T:TypeId} {x:Operand} {i b:Nat} {d:InstD} {U:TypeId} {k:Nat} {v:Value} (h:wpList Tryz.prog ops Q rest (a.put dst v) w) (hg:Region.wanted (⟨dst,.load T x,ty,pos,aft,grd⟩:Oper) (yielded ops a.tmps)=true:=by first|rfl|exact zAO rfl (zAG rfl (by first|rfl|(simp only[pe];rfl)))) (hx:a.eval x=.pointer (some ⟨b,k,none⟩):=by exact rfl) (hi:At l i (.blk b (zAY d) U):=by repeat (first|(with_reducible exact At.zero)|apply At.succ)) (hv:(zAY d)[k]?=some v:=by first|(with_reducible exact ig0 _)|(with_reducible exact ig5 _)|(with_reducible exact ig6 _)|(with_reducible exact ig7 _)|(with_reducible exact ig8 _)) (hT:oneB Tryz.prog T=true:=by first|(with_reducible exact zAH)|(with_reducible exact zBC)|(with_reducible exact zAd)):wpList Tryz.prog ops Q ((⟨dst,.load T x,ty,pos,aft,grd⟩:Oper)::rest) a w :=
 zAp hg T x rfl hx H hi hT hv h
end
end
section
open Go.RowKit Go.Shelf
attribute [local go_sem] Oper.semAt_some
def BytesR (F:Nat→Prop) (p:Option Addr) (c:Nat) (L:Str) (V:World):Prop:=RdN 1 V F (.slice p L.length c) (L.map fun b=>#[.int .u8 b.toNat])
section
variable {F:Nat→Prop} {p:Option Addr} {c:Nat} {L:Str} {V W w0:World}
theorem BytesR.kept (h:BytesR F p c L W) (hV:∀ b,F b→V.heap[b]?=W.heap[b]?):BytesR F p c L V:=RdN.kept h hV
theorem BytesR.bound (h:BytesR F p c L W):L.length≤c∧c≤9223372036854775807:=by
 obtain⟨p',c',e,h1,h2,_⟩:=h;simp only[Value.slice.injEq]at e;obtain⟨rfl,_,rfl⟩:=e;rw[List.length_map]at h1;exact⟨h1,by simpa [maxLen] using h2⟩
theorem BytesR.at (h:BytesR F p c L W) (hn:0<L.length):∃ b off,p=some ⟨b,off,none⟩:=by
 obtain⟨p',c',e,_,_,_,h3⟩:=h;simp only[Value.slice.injEq]at e;obtain⟨rfl,_,rfl⟩:=e;obtain⟨b,off,e2,_⟩:=h3 0 #[.int .u8 L[0].toNat] (by rw[List.getElem?_map,List.getElem?_eq_getElem hn];rfl)
 exact⟨b,off,e2⟩
theorem BytesR.cell {b off:Nat} (h:BytesR F (some ⟨b,off,none⟩) c L V) {j:Nat} (hj:j<L.length):V.cell? ⟨b,off+j,none⟩=some (.int .u8 (byt L j)):=by
 obtain⟨p,c,e1,_,_,_,h3⟩:=h;obtain⟨b',off',e2,_,_,h4⟩:=h3 j #[.int .u8 L[j].toNat] (by rw[List.getElem?_map,List.getElem?_eq_getElem hj];rfl)
 simp only[Value.slice.injEq]at e1;obtain⟨rfl,_,rfl⟩:=e1
 cases e2
 have:=h4 0 (by decide)
 rw[Nat.mul_one,Nat.add_zero]at this;rw[this];simp[byt,List.getD_eq_getElem?_getD,hj]
theorem Hold.bytes (hF:∀ b,F b→b<w0.heap.size) (h:BytesR F p c L w0):Hold w0 w0 [.kn F (BytesR F p c L)] :=
 (Hold.start w0).know F (BytesR F p c L) hF (fun i r h=>by simp at h) (fun V hV=>h.kept hV)
end
theorem zBO {a b:Bool} (h:a=b):Ending.returned (.bool a)=Ending.returned (.bool b):=by rw[h]
theorem zMu (bv:Nat):((decide ((48:Int)≤bv)&&decide ((bv:Int)≤57) || decide ((97:Int)≤bv)&&decide ((bv:Int)≤122) || decide ((65:Int)≤bv)&&decide ((bv:Int)≤90)) || (bv:Int) == 95)=zMN bv:=by
 unfold zMN;rw[Bool.eq_iff_iff];simp;omega
theorem zNf:∀ n:Fin 256,zMN n.val=((decide (48≤n.val)&&decide (n.val≤57) || (decide ((97:Int)≤bits BinOp.or IntKind.u8 (n.val:Int) 32)&&decide (bits BinOp.or IntKind.u8 (n.val:Int) 32≤(122:Int)))&&decide (n.val<128)) || n.val == 95):=by decide +kernel
theorem zI3 (bv:Nat) (u:Int) (hu:bits BinOp.or IntKind.u8 (bv:Int) 32=u) (hb:bv<256):zMN bv=((decide (48≤bv)&&decide (bv≤57) || (decide ((97:Int)≤u)&&decide (u≤(122:Int)))&&decide (bv<128)) || bv == 95):=by
 subst hu;exact zNf ⟨bv,hb⟩
def zGR (s:Str) (i:Int):Bool:=if i<0∨(s.length:Int)≤i then true else byt s i.toNat == 10
theorem zIZ {L:Str} {j:Nat} (h:j<L.length):zGR L j=(byt L j == 10):=by
 unfold zGR;rw[if_neg (by omega)];simp
theorem zFo {L:Str} {i:Int} (h:i<0∨(L.length:Int)≤i):zGR L i=true:=by
 unfold zGR;rw[if_pos h]
theorem zLY {L:Str} {j:Nat} (h:j<L.length):zEP L j=zMN (byt L j):=by
 unfold zEP;rw[if_neg (by omega)];simp
theorem zFi {L:Str} {i:Int} (h:i<0∨(L.length:Int)≤i):zEP L i=false:=by
 unfold zEP;rw[if_pos h]
theorem zMW (p:Option Addr) (c:Nat) (L:Str) (i:Int) (F:Nat→Prop) (w0:World) (hF:∀ b,F b→b<w0.heap.size) (h:BytesR F p c L w0) :
  Calls Tryz.prog 115 #[.slice p L.length c,.int .i64 i] w0 (Rt (.bool (zEP L i)) w0):=by
 have hp:=h.at;have H:=Hold.bytes hF h;clear h;obtain⟨n,hn⟩:∃ n,L.length=n:=⟨_,rfl⟩;have HN:=Lib.hid hn;rw[hn]at hp ⊢;clear hn
 by_cases h1:i<0
 ·have d1:decide (i<0)=true:=by simp;exact h1
  have E:=Lib.hid (zFi (L:=L) (.inl h1));clear h1
  go_enter Tryz.func115,Tryz.ntmps115
  go_wp2_with (first|fail)
  go_ret;exact⟨by rw[E.out];rfl,H.below⟩
 have d1:decide (i<0)=false:=by simp;omega
 by_cases h2:(n:Int)≤i
 ·have d2:decide ((n:Int)≤i)=true:=by simp;exact h2
  have E:=Lib.hid (zFi (L:=L) (.inr (by rw[HN.out];exact h2)))
  clear h1 h2
  go_enter Tryz.func115,Tryz.ntmps115
  go_wp2_with (first|fail)
  go_ret;exact⟨by rw[E.out];rfl,H.below⟩
 have d2:decide ((n:Int)≤i)=false:=by simp;omega
 obtain⟨j,rfl⟩:∃ j:Nat,i=j:=⟨i.toNat,by omega⟩
 have hj:j<n:=by omega
 obtain⟨b,off,rfl⟩:=hp (by omega)
 have E:=Lib.hid (zLY (L:=L) (j:=j) (by rw[HN.out];exact hj))
 have hcell:∀ V,BytesR F (some ⟨b,off,none⟩) c L V→V.cell? ⟨b,off+j,none⟩=some (.int .u8 (byt L j)):=fun V h=>h.cell (by rw[HN.out];exact hj)
 obtain⟨bv,hv⟩:∃ bv,byt L j=bv:=⟨_,rfl⟩;rw[hv]at hcell E;clear hv h1 h2
 go_enter Tryz.func115,Tryz.ntmps115
 go_upto_region 4 with (first|((with_reducible refine gL ?_);refine zAJ wtd_ _ _ rfl rfl zB0 (hcell _ (H.kn (i:=0) .zero)) ?_)|fail)
 refine ws_ 26 [fun v _=>v=Value.int .u8 (((bv:Nat):Int)),fun v _=>v=Value.bool (decide ((48)≤(((bv:Nat):Int)))),fun v _=>v=Value.bool (decide ((48)≤(((bv:Nat):Int)))),fun v _=>v=iT (true) (decide ((48)≤(((bv:Nat):Int)))) true (.int .u8 (((bv:Nat):Int))),fun v _=>v=iT (true) (decide ((48)≤(((bv:Nat):Int)))) true (.bool (decide ((((bv:Nat):Int))≤(57)))),fun v _=>v=Value.bool ((decide ((48)≤(((bv:Nat):Int))))&&(decide ((((bv:Nat):Int))≤(57)))),fun v _=>v=Value.bool ((decide ((48)≤(((bv:Nat):Int))))&&(decide ((((bv:Nat):Int))≤(57)))),fun v _=>v=iT (true) ((decide ((48)≤(((bv:Nat):Int))))&&(decide ((((bv:Nat):Int))≤(57)))) false (.int .u8 (((bv:Nat):Int))),fun v _=>v=iT (true) ((decide ((48)≤(((bv:Nat):Int))))&&(decide ((((bv:Nat):Int))≤(57)))) false (.bool (decide ((97)≤(((bv:Nat):Int))))),fun v _=>v=iT (true) ((decide ((48)≤(((bv:Nat):Int))))&&(decide ((((bv:Nat):Int))≤(57)))) false (.bool (decide ((97)≤(((bv:Nat):Int))))),fun v _=>v=iT ((true)&&(((decide ((48)≤(((bv:Nat):Int))))&&(decide ((((bv:Nat):Int))≤(57)))) == false)) (decide ((97)≤(((bv:Nat):Int)))) true (.int .u8 (((bv:Nat):Int))),fun v _=>v=iT ((true)&&(((decide ((48)≤(((bv:Nat):Int))))&&(decide ((((bv:Nat):Int))≤(57)))) == false)) (decide ((97)≤(((bv:Nat):Int)))) true (.bool (decide ((((bv:Nat):Int))≤(122)))),fun v _=>v=iT (true) ((decide ((48)≤(((bv:Nat):Int))))&&(decide ((((bv:Nat):Int))≤(57)))) false (.bool ((decide ((97)≤(((bv:Nat):Int))))&&(decide ((((bv:Nat):Int))≤(122))))),fun v _=>v=Value.bool (((decide ((48)≤(((bv:Nat):Int))))&&(decide ((((bv:Nat):Int))≤(57)))) || ((decide ((97)≤(((bv:Nat):Int))))&&(decide ((((bv:Nat):Int))≤(122))))),fun v _=>v=Value.bool (((decide ((48)≤(((bv:Nat):Int))))&&(decide ((((bv:Nat):Int))≤(57)))) || ((decide ((97)≤(((bv:Nat):Int))))&&(decide ((((bv:Nat):Int))≤(122))))),fun v _=>v=iT (true) (((decide ((48)≤(((bv:Nat):Int))))&&(decide ((((bv:Nat):Int))≤(57)))) || ((decide ((97)≤(((bv:Nat):Int))))&&(decide ((((bv:Nat):Int))≤(122))))) false (.int .u8 (((bv:Nat):Int))),fun v _=>v=iT (true) (((decide ((48)≤(((bv:Nat):Int))))&&(decide ((((bv:Nat):Int))≤(57)))) || ((decide ((97)≤(((bv:Nat):Int))))&&(decide ((((bv:Nat):Int))≤(122))))) false (.bool (decide ((65)≤(((bv:Nat):Int))))),fun v _=>v=iT (true) (((decide ((48)≤(((bv:Nat):Int))))&&(decide ((((bv:Nat):Int))≤(57)))) || ((decide ((97)≤(((bv:Nat):Int))))&&(decide ((((bv:Nat):Int))≤(122))))) false (.bool (decide ((65)≤(((bv:Nat):Int))))),fun v _=>v=iT ((true)&&((((decide ((48)≤(((bv:Nat):Int))))&&(decide ((((bv:Nat):Int))≤(57)))) || ((decide ((97)≤(((bv:Nat):Int))))&&(decide ((((bv:Nat):Int))≤(122))))) == false)) (decide ((65)≤(((bv:Nat):Int)))) true (.int .u8 (((bv:Nat):Int))),fun v _=>v=iT ((true)&&((((decide ((48)≤(((bv:Nat):Int))))&&(decide ((((bv:Nat):Int))≤(57)))) || ((decide ((97)≤(((bv:Nat):Int))))&&(decide ((((bv:Nat):Int))≤(122))))) == false)) (decide ((65)≤(((bv:Nat):Int)))) true (.bool (decide ((((bv:Nat):Int))≤(90)))),fun v _=>v=iT (true) (((decide ((48)≤(((bv:Nat):Int))))&&(decide ((((bv:Nat):Int))≤(57)))) || ((decide ((97)≤(((bv:Nat):Int))))&&(decide ((((bv:Nat):Int))≤(122))))) false (.bool ((decide ((65)≤(((bv:Nat):Int))))&&(decide ((((bv:Nat):Int))≤(90))))),fun v _=>v=Value.bool ((((decide ((48)≤(((bv:Nat):Int))))&&(decide ((((bv:Nat):Int))≤(57)))) || ((decide ((97)≤(((bv:Nat):Int))))&&(decide ((((bv:Nat):Int))≤(122))))) || ((decide ((65)≤(((bv:Nat):Int))))&&(decide ((((bv:Nat):Int))≤(90))))),fun v _=>v=Value.bool ((((decide ((48)≤(((bv:Nat):Int))))&&(decide ((((bv:Nat):Int))≤(57)))) || ((decide ((97)≤(((bv:Nat):Int))))&&(decide ((((bv:Nat):Int))≤(122))))) || ((decide ((65)≤(((bv:Nat):Int))))&&(decide ((((bv:Nat):Int))≤(90))))),fun v _=>v=iT (true) ((((decide ((48)≤(((bv:Nat):Int))))&&(decide ((((bv:Nat):Int))≤(57)))) || ((decide ((97)≤(((bv:Nat):Int))))&&(decide ((((bv:Nat):Int))≤(122))))) || ((decide ((65)≤(((bv:Nat):Int))))&&(decide ((((bv:Nat):Int))≤(90))))) false (.int .u8 (((bv:Nat):Int))),fun v _=>v=iT (true) ((((decide ((48)≤(((bv:Nat):Int))))&&(decide ((((bv:Nat):Int))≤(57)))) || ((decide ((97)≤(((bv:Nat):Int))))&&(decide ((((bv:Nat):Int))≤(122))))) || ((decide ((65)≤(((bv:Nat):Int))))&&(decide ((((bv:Nat):Int))≤(90))))) false (.bool ((((bv:Nat):Int)) == (95))),fun v _=>v=Value.bool (((((decide ((48)≤(((bv:Nat):Int))))&&(decide ((((bv:Nat):Int))≤(57)))) || ((decide ((97)≤(((bv:Nat):Int))))&&(decide ((((bv:Nat):Int))≤(122))))) || ((decide ((65)≤(((bv:Nat):Int))))&&(decide ((((bv:Nat):Int))≤(90))))) || ((((bv:Nat):Int)) == (95)))] ?ob ?en
 case ob =>
  refine⟨?_,?_,?_,?_,?_,?_,?_,?_,?_,?_,?_,?_,?_,?_,?_,?_,?_,?_,?_,?_,?_,?_,?_,?_,?_,?_,trivial⟩<;>intro A W h
  ·exact zAA rfl (zAN (.inl rfl) (h.f 5))
  ·exact zAA rfl ((by have e18:A.eval (.tmp 18)=Value.int .u8 (((bv:Nat):Int)):=h.d 0 18;simp only[execOp,e18];simp[go_sem]))
  ·exact zAA rfl (zAN (.inl rfl) (h.d 1 19))
  ·refine sy_ (h.d 2 20) fun hC=>?_;exact zAN (.inl rfl) (h.f 5)
  ·refine sy_ (h.d 2 20) fun hC=>?_;exact(by have e21:A.eval (.tmp 21)=Value.int .u8 (((bv:Nat):Int)):=zAD (h.d 3 21) hC;simp only[execOp,e21];simp[go_sem])
  ·exact zAA rfl (zA1 rfl (h.d 2 20) (fun hb2=>zAD (h.d 4 22) (by (first|(rw[hb2];rfl)|simp[hb2]))))
  ·exact zAA rfl (zAN (.inl rfl) (h.d 5 23))
  ·refine sy_ (h.d 6 24) fun hC=>?_;exact zAN (.inl rfl) (h.f 5)
  ·refine sy_ (h.d 6 24) fun hC=>?_;exact(by have e25:A.eval (.tmp 25)=Value.int .u8 (((bv:Nat):Int)):=zAD (h.d 7 25) hC;simp only[execOp,e25];simp[go_sem])
  ·refine sy_ (h.d 6 24) fun hC=>?_;exact zAN (.inl rfl) (zAD (h.d 8 26) hC)
  ·refine sy_ (h.d 9 27) fun hC=>?_;exact zAN (.inl rfl) (h.f 5)
  ·refine sy_ (h.d 9 27) fun hC=>?_;exact(by have e28:A.eval (.tmp 28)=Value.int .u8 (((bv:Nat):Int)):=zAD (h.d 10 28) hC;simp only[execOp,e28];simp[go_sem])
  ·refine sy_ (h.d 6 24) fun hC=>?_;exact zA1 rfl (zAD (h.d 9 27) hC) (fun hb2=>zAD (h.d 11 29) (by (first|(rw[hC,hb2];rfl)|(rw[hb2];rfl)|simp[hb2,hC])))
  ·exact zAA rfl (zCA rfl (h.d 6 24) (fun hb2=>zAD (h.d 12 30) (by (first|(rw[hb2];rfl)|simp[hb2]))))
  ·exact zAA rfl (zAN (.inl rfl) (h.d 13 31))
  ·refine sy_ (h.d 14 32) fun hC=>?_;exact zAN (.inl rfl) (h.f 5)
  ·refine sy_ (h.d 14 32) fun hC=>?_;exact(by have e33:A.eval (.tmp 33)=Value.int .u8 (((bv:Nat):Int)):=zAD (h.d 15 33) hC;simp only[execOp,e33];simp[go_sem])
  ·refine sy_ (h.d 14 32) fun hC=>?_;exact zAN (.inl rfl) (zAD (h.d 16 34) hC)
  ·refine sy_ (h.d 17 35) fun hC=>?_;exact zAN (.inl rfl) (h.f 5)
  ·refine sy_ (h.d 17 35) fun hC=>?_;exact(by have e36:A.eval (.tmp 36)=Value.int .u8 (((bv:Nat):Int)):=zAD (h.d 18 36) hC;simp only[execOp,e36];simp[go_sem])
  ·refine sy_ (h.d 14 32) fun hC=>?_;exact zA1 rfl (zAD (h.d 17 35) hC) (fun hb2=>zAD (h.d 19 37) (by (first|(rw[hC,hb2];rfl)|(rw[hb2];rfl)|simp[hb2,hC])))
  ·exact zAA rfl (zCA rfl (h.d 14 32) (fun hb2=>zAD (h.d 20 38) (by (first|(rw[hb2];rfl)|simp[hb2]))))
  ·exact zAA rfl (zAN (.inl rfl) (h.d 21 39))
  ·refine sy_ (h.d 22 40) fun hC=>?_;exact zAN (.inl rfl) (h.f 5)
  ·refine sy_ (h.d 22 40) fun hC=>?_;exact(by have e41:A.eval (.tmp 41)=Value.int .u8 (((bv:Nat):Int)):=zAD (h.d 23 41) hC;simp only[execOp,e41];simp[go_sem])
  ·exact zAA rfl (zCA rfl (h.d 22 40) (fun hb2=>zAD (h.d 24 42) (by (first|(rw[hb2];rfl)|simp[hb2]))))
 case en =>
  intro vals W hbw hv _;have v25:vals 25=_:=hv 25 (by omega)
  simp only[fa,Nat.reduceAdd];rw[v25];clear hv v25
  try simp only[pl]
  have H:=H.call hbw
  go_wp2_with fail
  go_ret;refine⟨?_,H.below⟩;rw[E.out];exact zBO (zMu bv)
theorem zRQ (p:Option Addr) (c:Nat) (L:Str) (i:Int) (F:Nat→Prop) (w0:World) (hF:∀ b,F b→b<w0.heap.size) (h:BytesR F p c L w0) :
  Calls Tryz.prog 144 #[.slice p L.length c,.int .i64 i] w0 (Rt (.bool (zGR L i)) w0):=by
 have hp:=h.at;have H:=Hold.bytes hF h;clear h;obtain⟨n,hn⟩:∃ n,L.length=n:=⟨_,rfl⟩;have HN:=Lib.hid hn;rw[hn]at hp ⊢;clear hn
 by_cases h1:i<0
 ·have d1:decide (i<0)=true:=by simp;exact h1
  have E:=Lib.hid (zFo (L:=L) (.inl h1));clear h1
  go_enter Tryz.func144,Tryz.ntmps144
  go_wp2_with (first|fail)
  go_ret;exact⟨by rw[E.out];rfl,H.below⟩
 have d1:decide (i<0)=false:=by simp;omega
 by_cases h2:(n:Int)≤i
 ·have d2:decide ((n:Int)≤i)=true:=by simp;exact h2
  have E:=Lib.hid (zFo (L:=L) (.inr (by rw[HN.out];exact h2)))
  clear h1 h2
  go_enter Tryz.func144,Tryz.ntmps144
  go_wp2_with (first|fail)
  go_ret;exact⟨by rw[E.out];rfl,H.below⟩
 have d2:decide ((n:Int)≤i)=false:=by simp;omega
 obtain⟨j,rfl⟩:∃ j:Nat,i=j:=⟨i.toNat,by omega⟩
 have hj:j<n:=by omega
 have d3:decide (n≤j)=false:=decide_eq_false (by omega)
 obtain⟨b,off,rfl⟩:=hp (by omega)
 have E:=Lib.hid (zIZ (L:=L) (j:=j) (by rw[HN.out];exact hj))
 have hcell:∀ V,BytesR F (some ⟨b,off,none⟩) c L V→V.cell? ⟨b,off+j,none⟩=some (.int .u8 (byt L j)):=fun V h=>h.cell (by rw[HN.out];exact hj)
 have hbl:=zCf L j;obtain⟨bv,hv⟩:∃ bv,byt L j=bv:=⟨_,rfl⟩;rw[hv]at hcell E hbl;clear hv h1 h2
 go_enter Tryz.func144,Tryz.ntmps144
 go_wp2_with (first|((with_reducible refine gL ?_);refine zAJ wtd_ _ _ rfl rfl zB0 (hcell _ (H.kn (i:=0) .zero)) ?_)|fail)
 go_ret;refine⟨?_,H.below⟩;rw[E.out];exact zBO (by rw[Bool.eq_iff_iff];simp;omega)
theorem zQp (p:Option Addr) (c:Nat) (L:Str) (i:Int) (F:Nat→Prop) (w0:World) (hF:∀ b,F b→b<w0.heap.size) (h:BytesR F p c L w0) :
  Calls Tryz.prog 145 #[.slice p L.length c,.int .i64 i] w0 (Rt (.bool (zEP L i)) w0):=by
 have hp:=h.at;have H:=Hold.bytes hF h;clear h;obtain⟨n,hn⟩:∃ n,L.length=n:=⟨_,rfl⟩;have HN:=Lib.hid hn;rw[hn]at hp ⊢;clear hn
 by_cases h1:i<0
 ·have d1:decide (i<0)=true:=by simp;exact h1
  have E:=Lib.hid (zFi (L:=L) (.inl h1));clear h1
  go_enter Tryz.func145,Tryz.ntmps145
  go_wp2_with (first|fail)
  go_ret;exact⟨by rw[E.out];rfl,H.below⟩
 have d1:decide (i<0)=false:=by simp;omega
 by_cases h2:(n:Int)≤i
 ·have d2:decide ((n:Int)≤i)=true:=by simp;exact h2
  have E:=Lib.hid (zFi (L:=L) (.inr (by rw[HN.out];exact h2)))
  clear h1 h2
  go_enter Tryz.func145,Tryz.ntmps145
  go_wp2_with (first|fail)
  go_ret;exact⟨by rw[E.out];rfl,H.below⟩
 have d2:decide ((n:Int)≤i)=false:=by simp;omega
 obtain⟨j,rfl⟩:∃ j:Nat,i=j:=⟨i.toNat,by omega⟩
 have hj:j<n:=by omega
 have d3:decide (n≤j)=false:=decide_eq_false (by omega)
 obtain⟨b,off,rfl⟩:=hp (by omega)
 have E:=Lib.hid (zLY (L:=L) (j:=j) (by rw[HN.out];exact hj))
 have hcell:∀ V,BytesR F (some ⟨b,off,none⟩) c L V→V.cell? ⟨b,off+j,none⟩=some (.int .u8 (byt L j)):=fun V h=>h.cell (by rw[HN.out];exact hj)
 have hbl:=zCf L j;obtain⟨bv,hv⟩:∃ bv,byt L j=bv:=⟨_,rfl⟩;rw[hv]at hcell E hbl;clear hv h1 h2
 go_enter Tryz.func145,Tryz.ntmps145
 go_upto_region 4 with (first|((with_reducible refine gL ?_);refine zAJ wtd_ _ _ rfl rfl zB0 (hcell _ (H.kn (i:=0) .zero)) ?_)|fail)
 obtain⟨u,hu⟩:∃ u,bits BinOp.or IntKind.u8 (bv:Int) 32=u:=⟨_,rfl⟩;rw[hu];have hu:=Lib.hid hu
 by_cases a1:48≤bv
 ·have ea1:decide (48≤bv)=true:=decide_eq_true a1;have ia1:decide ((48:Int)≤bv)=true:=decide_eq_true (by omega)
  clear a1
  by_cases a2:bv≤57
  ·have ea2:decide (bv≤57)=true:=decide_eq_true a2;have ia2:decide ((bv:Int)≤57)=true:=decide_eq_true (by omega)
   clear a2
   go_wp2_with (first|((with_reducible refine gL ?_);refine zAJ wtd_ _ _ rfl rfl zB0 (hcell _ (H.kn (i:=0) .zero)) ?_)|fail)
   go_ret;refine⟨?_,H.below⟩;rw[E.out,zI3 bv u hu.out hbl];exact zBO (by simp only[ea1,ea2];first|rfl|(rw[Bool.eq_iff_iff];simp<;>omega))
  ·have ea2:decide (bv≤57)=false:=decide_eq_false a2;have ia2:decide ((bv:Int)≤57)=false:=decide_eq_false (by omega)
   clear a2
   by_cases a3:(97:Int)≤u
   ·have ea3:decide ((97:Int)≤u)=true:=decide_eq_true a3;clear a3
    by_cases a4:u≤(122:Int)
    ·have ea4:decide (u≤(122:Int))=true:=decide_eq_true a4;clear a4
     by_cases a5:bv<128
     ·have ea5:decide (bv<128)=true:=decide_eq_true a5;have ia5:decide ((bv:Int)<128)=true:=decide_eq_true (by omega)
      clear a5
      go_wp2_with (first|((with_reducible refine gL ?_);refine zAJ wtd_ _ _ rfl rfl zB0 (hcell _ (H.kn (i:=0) .zero)) ?_)|fail)
      go_ret;refine⟨?_,H.below⟩;rw[E.out,zI3 bv u hu.out hbl];exact zBO (by simp only[ea1,ea2,ea3,ea4,ea5];first|rfl|(rw[Bool.eq_iff_iff];simp<;>omega))
     ·have ea5:decide (bv<128)=false:=decide_eq_false a5;have ia5:decide ((bv:Int)<128)=false:=decide_eq_false (by omega)
      clear a5
      go_wp2_with (first|((with_reducible refine gL ?_);refine zAJ wtd_ _ _ rfl rfl zB0 (hcell _ (H.kn (i:=0) .zero)) ?_)|fail)
      go_ret;refine⟨?_,H.below⟩;rw[E.out,zI3 bv u hu.out hbl];exact zBO (by simp only[ea1,ea2,ea3,ea4,ea5];first|rfl|(rw[Bool.eq_iff_iff];simp<;>omega))
    ·have ea4:decide (u≤(122:Int))=false:=decide_eq_false a4;clear a4
     go_wp2_with (first|((with_reducible refine gL ?_);refine zAJ wtd_ _ _ rfl rfl zB0 (hcell _ (H.kn (i:=0) .zero)) ?_)|fail)
     go_ret;refine⟨?_,H.below⟩;rw[E.out,zI3 bv u hu.out hbl];exact zBO (by simp only[ea1,ea2,ea3,ea4];first|rfl|(rw[Bool.eq_iff_iff];simp<;>omega))
   ·have ea3:decide ((97:Int)≤u)=false:=decide_eq_false a3;clear a3
    go_wp2_with (first|((with_reducible refine gL ?_);refine zAJ wtd_ _ _ rfl rfl zB0 (hcell _ (H.kn (i:=0) .zero)) ?_)|fail)
    go_ret;refine⟨?_,H.below⟩;rw[E.out,zI3 bv u hu.out hbl];exact zBO (by simp only[ea1,ea2,ea3];first|rfl|(rw[Bool.eq_iff_iff];simp<;>omega))
 ·have ea1:decide (48≤bv)=false:=decide_eq_false a1;have ia1:decide ((48:Int)≤bv)=false:=decide_eq_false (by omega)
  clear a1
  by_cases a3:(97:Int)≤u
  ·have ea3:decide ((97:Int)≤u)=true:=decide_eq_true a3;clear a3
   by_cases a4:u≤(122:Int)
   ·have ea4:decide (u≤(122:Int))=true:=decide_eq_true a4;clear a4
    by_cases a5:bv<128
    ·have ea5:decide (bv<128)=true:=decide_eq_true a5;have ia5:decide ((bv:Int)<128)=true:=decide_eq_true (by omega)
     clear a5
     go_wp2_with (first|((with_reducible refine gL ?_);refine zAJ wtd_ _ _ rfl rfl zB0 (hcell _ (H.kn (i:=0) .zero)) ?_)|fail)
     go_ret;refine⟨?_,H.below⟩;rw[E.out,zI3 bv u hu.out hbl];exact zBO (by simp only[ea1,ea3,ea4,ea5];first|rfl|(rw[Bool.eq_iff_iff];simp<;>omega))
    ·have ea5:decide (bv<128)=false:=decide_eq_false a5;have ia5:decide ((bv:Int)<128)=false:=decide_eq_false (by omega)
     clear a5
     go_wp2_with (first|((with_reducible refine gL ?_);refine zAJ wtd_ _ _ rfl rfl zB0 (hcell _ (H.kn (i:=0) .zero)) ?_)|fail)
     go_ret;refine⟨?_,H.below⟩;rw[E.out,zI3 bv u hu.out hbl];exact zBO (by simp only[ea1,ea3,ea4,ea5];first|rfl|(rw[Bool.eq_iff_iff];simp<;>omega))
   ·have ea4:decide (u≤(122:Int))=false:=decide_eq_false a4;clear a4
    go_wp2_with (first|((with_reducible refine gL ?_);refine zAJ wtd_ _ _ rfl rfl zB0 (hcell _ (H.kn (i:=0) .zero)) ?_)|fail)
    go_ret;refine⟨?_,H.below⟩;rw[E.out,zI3 bv u hu.out hbl];exact zBO (by simp only[ea1,ea3,ea4];first|rfl|(rw[Bool.eq_iff_iff];simp<;>omega))
  ·have ea3:decide ((97:Int)≤u)=false:=decide_eq_false a3;clear a3
   go_wp2_with (first|((with_reducible refine gL ?_);refine zAJ wtd_ _ _ rfl rfl zB0 (hcell _ (H.kn (i:=0) .zero)) ?_)|fail)
   go_ret;refine⟨?_,H.below⟩;rw[E.out,zI3 bv u hu.out hbl];exact zBO (by simp only[ea1,ea3];first|rfl|(rw[Bool.eq_iff_iff];simp<;>omega))
theorem zOh {k:Int} {L:Str} {j:Nat} (h:j≤L.length):zCS k L j=(if k=8 then (j:Int) == 0 else if k=9 then (j:Int) == L.length else if k=10 then zGR L ((j:Int) - 1) else if k=11 then zGR L j else if k=12 then zEP L ((j:Int) - 1) != zEP L j else if k=13 then zEP L ((j:Int) - 1) == zEP L j else false):=by
 unfold zCS;rw[if_neg (by omega)]
 have h10:((j:Int) == 0 || byt L ((j:Int) - 1).toNat == 10)=zGR L ((j:Int) - 1):=by
  unfold zGR
  by_cases h0:j=0
  ·subst h0;simp
  ·rw[if_neg (by omega)]
   have:((j:Int) == 0)=false:=by rw[beq_eq_false_iff_ne];omega
   rw[this,Bool.false_or]
 have h11:((j:Int) == L.length || byt L (j:Int).toNat == 10)=zGR L j:=by
  unfold zGR
  by_cases h0:j=L.length
  ·rw[if_pos (by omega)];simp[h0]
  ·rw[if_neg (by omega)]
   have:((j:Int) == L.length)=false:=by rw[beq_eq_false_iff_ne];omega
   rw[this,Bool.false_or]
 rw[h10,h11]
theorem zG2 {k:Int} {L:Str} {i:Int} (h:i<0∨(L.length:Int)<i):zCS k L i=false:=by
 unfold zCS;rw[if_pos h]
section
variable (p:Option Addr) (c:Nat) (L:Str) (F:Nat→Prop) (w0:World) (hF:∀ b,F b→b<w0.heap.size) (h:BytesR F p c L w0)
include hF h
theorem zQg (k:Int) (j:Nat) (hj:j≤L.length) :
  Calls Tryz.prog 114 #[.slice p L.length c,.int .i64 k,.int .i64 j] w0 (Rt (.bool (zCS k L j)) w0):=by
 have hbd:=h.bound;have H:=Hold.bytes hF h;clear h;have hfe:=fun w i h1 h2=>zRQ p c L i F w h1 h2
 have hwo:=fun w i h1 h2=>zQp p c L i F w h1 h2
 have E:=zOh (k:=k) hj;obtain⟨n,hn⟩:∃ n,L.length=n:=⟨_,rfl⟩;rw[hn]at hj hfe hwo hbd E ⊢;clear hn;have hw1:IntKind.i64.wrap ((j:Int) - 1)=(j:Int) - 1:=by rw[IntKind.wrap_i64];omega
 have hfe1:=fun w=>hfe w ((j:Int) - 1)
 have hfe2:=fun w=>hfe w (j:Int)
 have hwo1:=fun w=>hwo w ((j:Int) - 1)
 have hwo2:=fun w=>hwo w (j:Int)
 clear hfe hwo
 generalize zCS k L j=res at E ⊢
 generalize zGR L ((j:Int) - 1)=f1 at E hfe1
 generalize zGR L (j:Int)=f2 at E hfe2
 generalize zEP L ((j:Int) - 1)=q1 at E hwo1
 generalize zEP L (j:Int)=q2 at E hwo2
 by_cases k8:k=8
 ·have d8:(k == 8)=true:=by rw[beq_iff_eq];exact k8
  rw[if_pos k8]at E;have E:=Lib.hid E;clear k8
  go_enter Tryz.func114,Tryz.ntmps114
  go_wp2_with (first|fail)
  go_ret;refine⟨?_,H.below⟩;rw[E.out];rfl
 have d8:(k == 8)=false:=by rw[beq_eq_false_iff_ne];exact k8
 by_cases k9:k=9
 ·have d9:(k == 9)=true:=by rw[beq_iff_eq];exact k9
  rw[if_neg k8,if_pos k9]at E;have E:=Lib.hid E;clear k8 k9
  go_enter Tryz.func114,Tryz.ntmps114
  go_wp2_with (first|fail)
  go_ret;refine⟨?_,H.below⟩;rw[E.out];rfl
 have d9:(k == 9)=false:=by rw[beq_eq_false_iff_ne];exact k9
 by_cases k10:k=10
 ·have d10:(k == 10)=true:=by rw[beq_iff_eq];exact k10
  rw[if_neg k8,if_neg k9,if_pos k10]at E;have E:=Lib.hid E;clear k8 k9 k10
  go_enter Tryz.func114,Tryz.ntmps114
  go_wp2_with (first|fail|(go_at_call 144;refine ch (hfe1 _ (H.knlt (i:=0) .zero) (H.kn (i:=0) .zero)) H ?_;clear H;intro w H))
  go_ret;refine⟨?_,H.below⟩;rw[E.out];rfl
 have d10:(k == 10)=false:=by rw[beq_eq_false_iff_ne];exact k10
 by_cases k11:k=11
 ·have d11:(k == 11)=true:=by rw[beq_iff_eq];exact k11
  rw[if_neg k8,if_neg k9,if_neg k10,if_pos k11]at E;have E:=Lib.hid E;clear k8 k9 k10 k11
  go_enter Tryz.func114,Tryz.ntmps114
  go_wp2_with (first|fail|(go_at_call 144;refine ch (hfe2 _ (H.knlt (i:=0) .zero) (H.kn (i:=0) .zero)) H ?_;clear H;intro w H))
  go_ret;refine⟨?_,H.below⟩;rw[E.out];rfl
 have d11:(k == 11)=false:=by rw[beq_eq_false_iff_ne];exact k11
 by_cases k12:k=12
 ·have d12:(k == 12)=true:=by rw[beq_iff_eq];exact k12
  rw[if_neg k8,if_neg k9,if_neg k10,if_neg k11,if_pos k12]at E;have E:=Lib.hid E;clear k8 k9 k10 k11 k12
  go_enter Tryz.func114,Tryz.ntmps114
  go_wp2_with (first|fail|(go_at_call 145;first|(with_reducible refine ch (hwo1 _ (H.knlt (i:=0) .zero) (H.kn (i:=0) .zero)) H ?_;clear H;intro w H)|(with_reducible refine ch (hwo2 _ (H.knlt (i:=0) .zero) (H.kn (i:=0) .zero)) H ?_;clear H;intro w H)))
  go_ret;refine⟨?_,H.below⟩;rw[E.out];exact zBO (by cases q1<;>cases q2<;>rfl)
 have d12:(k == 12)=false:=by rw[beq_eq_false_iff_ne];exact k12
 by_cases k13:k=13
 ·have d13:(k == 13)=true:=by rw[beq_iff_eq];exact k13
  rw[if_neg k8,if_neg k9,if_neg k10,if_neg k11,if_neg k12,if_pos k13]at E;have E:=Lib.hid E;clear k8 k9 k10 k11 k12 k13
  go_enter Tryz.func114,Tryz.ntmps114
  go_wp2_with (first|fail|(go_at_call 145;first|(with_reducible refine ch (hwo1 _ (H.knlt (i:=0) .zero) (H.kn (i:=0) .zero)) H ?_;clear H;intro w H)|(with_reducible refine ch (hwo2 _ (H.knlt (i:=0) .zero) (H.kn (i:=0) .zero)) H ?_;clear H;intro w H)))
  go_ret;refine⟨?_,H.below⟩;rw[E.out];exact zBO (by cases q1<;>cases q2<;>rfl)
 have d13:(k == 13)=false:=by rw[beq_eq_false_iff_ne];exact k13
 rw[if_neg k8,if_neg k9,if_neg k10,if_neg k11,if_neg k12,if_neg k13]at E;have E:=Lib.hid E;clear k8 k9 k10 k11 k12 k13
 go_enter Tryz.func114,Tryz.ntmps114
 go_wp2_with (first|fail)
 go_ret;exact⟨by rw[E.out];rfl,H.below⟩
theorem zMt (k:Int) (i:Int) :
  Calls Tryz.prog 77 #[.int .i64 k,.slice p L.length c,.int .i64 i] w0 (Rt (.bool (zCS k L i)) w0):=by
 have hsp:=fun w h1 h2=>zQg p c L F w h1 h2 k
 have H:=Hold.bytes hF h;clear h
 by_cases h1:i<0
 ·have d1:decide (0≤i)=false:=decide_eq_false (by omega)
  have E:=Lib.hid (zG2 (k:=k) (L:=L) (.inl h1));clear h1 hsp
  go_enter Tryz.func77,Tryz.ntmps77
  go_wp2_with (first|fail)
  go_ret;exact⟨by rw[E.out];rfl,H.below⟩
 by_cases h2:(L.length:Int)<i
 ·have d1:decide (0≤i)=true:=decide_eq_true (by omega)
  have d2:decide (i≤(L.length:Int))=false:=decide_eq_false (by omega)
  have E:=Lib.hid (zG2 (k:=k) (L:=L) (.inr h2));clear h1 h2 hsp
  go_enter Tryz.func77,Tryz.ntmps77
  go_wp2_with (first|fail)
  go_ret;exact⟨by rw[E.out];rfl,H.below⟩
 obtain⟨j,rfl⟩:∃ j:Nat,i=j:=⟨i.toNat,by omega⟩
 have hj:j≤L.length:=by omega
 have hs2:=fun w h1 h2=>hsp w h1 h2 j hj
 have d2:decide (j≤L.length)=true:=decide_eq_true hj;have d3:decide ((j:Int)≤(L.length:Int))=true:=decide_eq_true (by omega)
 clear hsp h1 h2 hj
 generalize zCS k L j=res at hs2 ⊢
 go_enter Tryz.func77,Tryz.ntmps77
 go_wp2_with (first|fail|((with_reducible refine ch (hs2 _ (H.knlt (i:=0) .zero) (H.kn (i:=0) .zero)) H ?_);clear H;intro w H))
 go_ret;exact⟨zBO (by simp),H.below⟩
theorem zL1 (k:Int) (i:Int) :
  Calls Tryz.prog 79 #[.int .i64 k,.slice p L.length c,.int .i64 i] w0 (Rt (.bool (zCS k L i)) w0):=by
 have hbd:=h.bound;have hp:=h.at;have H:=Hold.bytes hF h;clear h;have hwo:=fun w i h1 h2=>zMW p c L i F w h1 h2
 by_cases h1:i<0
 ·have d1:decide (i<0)=true:=decide_eq_true (by omega)
  have E:=Lib.hid (zG2 (k:=k) (L:=L) (.inl h1));clear h1 hwo
  go_enter Tryz.func79,Tryz.ntmps79
  go_wp2_with (first|fail)
  go_ret;exact⟨by rw[E.out];rfl,H.below⟩
 by_cases h2:(L.length:Int)<i
 ·have d1:decide (i<0)=false:=decide_eq_false (by omega)
  have d2:decide ((L.length:Int)<i)=true:=decide_eq_true h2;have E:=Lib.hid (zG2 (k:=k) (L:=L) (.inr h2));clear h1 h2 hwo
  go_enter Tryz.func79,Tryz.ntmps79
  go_wp2_with (first|fail)
  go_ret;exact⟨by rw[E.out];rfl,H.below⟩
 obtain⟨j,rfl⟩:∃ j:Nat,i=j:=⟨i.toNat,by omega⟩
 have hj:j≤L.length:=by omega
 have E:=zOh (k:=k) hj;obtain⟨n,hn⟩:∃ n,L.length=n:=⟨_,rfl⟩;rw[hn]at hj hwo hbd hp E ⊢;have HN:=Lib.hid hn;clear hn h1 h2;have d2:decide (n<j)=false:=decide_eq_false (by omega)
 have d3:decide ((n:Int)<(j:Int))=false:=decide_eq_false (by omega)
 have hw1:IntKind.i64.wrap ((j:Int) - 1)=(j:Int) - 1:=by rw[IntKind.wrap_i64];omega
 have hwo1:=fun w=>hwo w ((j:Int) - 1)
 have hwo2:=fun w=>hwo w (j:Int)
 clear hwo
 generalize zCS k L j=res at E ⊢
 by_cases k8:k=8
 ·have d8:(k == 8)=true:=by rw[beq_iff_eq];exact k8
  rw[if_pos k8]at E;have E:=Lib.hid E;clear k8
  go_enter Tryz.func79,Tryz.ntmps79
  go_wp2_with (first|fail)
  go_ret;refine⟨?_,H.below⟩;rw[E.out];rfl
 have d8:(k == 8)=false:=by rw[beq_eq_false_iff_ne];exact k8
 by_cases k9:k=9
 ·have d9:(k == 9)=true:=by rw[beq_iff_eq];exact k9
  rw[if_neg k8,if_pos k9]at E;have E:=Lib.hid E;clear k8 k9
  go_enter Tryz.func79,Tryz.ntmps79
  go_wp2_with (first|fail)
  go_ret;refine⟨?_,H.below⟩;rw[E.out];rfl
 have d9:(k == 9)=false:=by rw[beq_eq_false_iff_ne];exact k9
 by_cases k10:k=10
 ·have d10:(k == 10)=true:=by rw[beq_iff_eq];exact k10
  rw[if_neg k8,if_neg k9,if_pos k10]at E
  by_cases h0:j=0
  ·subst h0;have E:res=true:=by rw[E];exact zFo (.inl (by omega))
   have E:=Lib.hid E;clear k8 k9 k10
   go_enter Tryz.func79,Tryz.ntmps79
   go_wp2_with (first|fail)
   go_ret;refine⟨?_,H.below⟩;rw[E.out];rfl
  ·obtain⟨q,rfl⟩:∃ q,j=q+1:=⟨j - 1,by omega⟩
   have E:res=(byt L q == 10):=by rw[E,show ((q+1:Nat):Int) - 1=(q:Int) by omega];exact zIZ (by rw[HN.out];omega)
   have d4:(((q+1:Nat):Int) == 0)=false:=by rw[beq_eq_false_iff_ne];omega
   have d5:((q:Int)+1 == 0)=false:=by rw[beq_eq_false_iff_ne];omega
   obtain⟨b,off,rfl⟩:=hp (by omega)
   have hcell:∀ V,BytesR F (some ⟨b,off,none⟩) c L V→V.cell? ⟨b,off+q,none⟩=some (.int .u8 (byt L q)):=fun V h=>h.cell (by rw[HN.out];omega)
   generalize byt L q=bv at E hcell
   have E:=Lib.hid E;clear hw1 hwo1 hwo2 h0;clear k8 k9 k10
   go_enter Tryz.func79,Tryz.ntmps79
   go_wp2_with (first|((with_reducible refine gL ?_);refine zAJ wtd_ _ _ rfl rfl zB0 (hcell _ (H.kn (i:=0) .zero)) ?_)|fail)
   go_ret;refine⟨?_,H.below⟩;rw[E.out];exact zBO (by rw[Bool.eq_iff_iff];simp;omega)
 have d10:(k == 10)=false:=by rw[beq_eq_false_iff_ne];exact k10
 by_cases k11:k=11
 ·have d11:(k == 11)=true:=by rw[beq_iff_eq];exact k11
  rw[if_neg k8,if_neg k9,if_neg k10,if_pos k11]at E
  by_cases h0:j=n
  ·subst h0;have E:res=true:=by rw[E];exact zFo (.inr (by rw[HN.out];omega))
   have E:=Lib.hid E;clear k8 k9 k10 k11
   go_enter Tryz.func79,Tryz.ntmps79
   go_wp2_with (first|fail)
   go_ret;refine⟨?_,H.below⟩;rw[E.out];rfl
  ·have E:res=(byt L j == 10):=by rw[E];exact zIZ (by rw[HN.out];omega)
   have d4:((j:Int) == (n:Int))=false:=by rw[beq_eq_false_iff_ne];omega
   obtain⟨b,off,rfl⟩:=hp (by omega)
   have hcell:∀ V,BytesR F (some ⟨b,off,none⟩) c L V→V.cell? ⟨b,off+j,none⟩=some (.int .u8 (byt L j)):=fun V h=>h.cell (by rw[HN.out];omega)
   have hjn:j<n:=by omega
   generalize byt L j=bv at E hcell
   have E:=Lib.hid E;clear hw1 hwo1 hwo2;clear k8 k9 k10 k11
   go_enter Tryz.func79,Tryz.ntmps79
   go_wp2_with (first|((with_reducible refine gL ?_);refine zAJ wtd_ _ _ rfl rfl zB0 (hcell _ (H.kn (i:=0) .zero)) ?_)|fail)
   go_ret;refine⟨?_,H.below⟩;rw[E.out];exact zBO (by rw[Bool.eq_iff_iff];simp;omega)
 have d11:(k == 11)=false:=by rw[beq_eq_false_iff_ne];exact k11
 generalize zEP L ((j:Int) - 1)=q1 at E hwo1
 generalize zEP L (j:Int)=q2 at E hwo2
 by_cases k12:k=12
 ·have d12:(k == 12)=true:=by rw[beq_iff_eq];exact k12
  rw[if_neg k8,if_neg k9,if_neg k10,if_neg k11,if_pos k12]at E;have E:=Lib.hid E;clear k8 k9 k10 k11 k12
  go_enter Tryz.func79,Tryz.ntmps79
  go_wp2_with (first|(go_at_call 115;first|(with_reducible refine ch (hwo1 _ (H.knlt (i:=0) .zero) (H.kn (i:=0) .zero)) H ?_;clear H;intro w H)|(with_reducible refine ch (hwo2 _ (H.knlt (i:=0) .zero) (H.kn (i:=0) .zero)) H ?_;clear H;intro w H))|fail)
  go_ret;refine⟨?_,H.below⟩;rw[E.out];exact zBO (by cases q1<;>cases q2<;>rfl)
 have d12:(k == 12)=false:=by rw[beq_eq_false_iff_ne];exact k12
 by_cases k13:k=13
 ·have d13:(k == 13)=true:=by rw[beq_iff_eq];exact k13
  rw[if_neg k8,if_neg k9,if_neg k10,if_neg k11,if_neg k12,if_pos k13]at E;have E:=Lib.hid E;clear k8 k9 k10 k11 k12 k13
  go_enter Tryz.func79,Tryz.ntmps79
  go_wp2_with (first|(go_at_call 115;first|(with_reducible refine ch (hwo1 _ (H.knlt (i:=0) .zero) (H.kn (i:=0) .zero)) H ?_;clear H;intro w H)|(with_reducible refine ch (hwo2 _ (H.knlt (i:=0) .zero) (H.kn (i:=0) .zero)) H ?_;clear H;intro w H))|fail)
  go_ret;refine⟨?_,H.below⟩;rw[E.out];exact zBO (by cases q1<;>cases q2<;>rfl)
 have d13:(k == 13)=false:=by rw[beq_eq_false_iff_ne];exact k13
 rw[if_neg k8,if_neg k9,if_neg k10,if_neg k11,if_neg k12,if_neg k13]at E;have E:=Lib.hid E;clear k8 k9 k10 k11 k12 k13
 go_enter Tryz.func79,Tryz.ntmps79
 go_wp2_with (first|fail)
 go_ret;exact⟨by rw[E.out];rfl,H.below⟩
end
end
section
open Go.RowKit
def Sof (L:Nat) (sn:List Bool):Nat→Nat→Bool:=fun a j=>decide (j≤L)&&sn.getD (a * (L+1)+j) false
theorem zMx {L a j k i:Nat} (hj:j≤L) (hi:i≤L) (h:a * (L+1)+j=k * (L+1)+i):a=k∧j=i:=by
 have e1:(a * (L+1)+j) / (L+1)=a:=by rw[Nat.mul_comm,Nat.mul_add_div (by omega),Nat.div_eq_of_lt (by omega),Nat.add_zero]
 have e2:(k * (L+1)+i) / (L+1)=k:=by rw[Nat.mul_comm,Nat.mul_add_div (by omega),Nat.div_eq_of_lt (by omega),Nat.add_zero]
 have e:a=k:=by rw[← e1,← e2,h]
 subst e;exact⟨rfl,by omega⟩
theorem zPe {L k i n:Nat} (hk:k<n) (hi:i≤L):k * (L+1)+i<n * (L+1):=by
 have:(k+1) * (L+1)≤n * (L+1):=Nat.mul_le_mul_right _ hk;rw[Nat.succ_mul]at this;omega
theorem zQR {L k i:Nat} {sn:List Bool} (hi:i≤L) (hk:k * (L+1)+i<sn.length):Sof L (sn.set (k * (L+1)+i) true)=upS (Sof L sn) k i:=by
 funext a j
 unfold Sof upS
 by_cases hj:j≤L
 ·by_cases e:a * (L+1)+j=k * (L+1)+i
  ·obtain⟨rfl,rfl⟩:=zMx hj hi e;simp[hj,List.getD_eq_getElem?_getD,hk]
  ·have e2:¬ (a=k∧j=i):=fun h=>e (by rw[h.1,h.2])
   simp[hj,e2,List.getD_eq_getElem?_getD,Ne.symm e]
 ·have e2:¬ (a=k∧j=i):=fun h=>hj (h.2 ▸ hi)
  simp[hj,e2]
theorem zP9 {L k i:Nat} {sn:List Bool} {b:Bool} (hi:i≤L) (h:sn[k * (L+1)+i]?=some b):Sof L sn k i=b:=by
 unfold Sof;simp[hi,List.getD_eq_getElem?_getD,h]
def unF (sn:List Bool):Nat:=sn.countP (fun b=>!b)
theorem zN4:∀ {sn:List Bool} {k:Nat},sn[k]?=some false→unF (sn.set k true)+1=unF sn
 | [],_,h=>by simp at h
 | x::r,0,h=>by simp at h;subst h;simp[unF]
 | x::r,k+1,h=>by
  have:=zN4 (sn:=r) (k:=k) (by simpa using h)
  simp only[unF,List.set_cons_succ,List.countP_cons]at *;omega
structure WayT (p:List InstD) (s:Str) (k i:Nat) (sl:zA2) (sn:List Bool) (b:Bool) (sn':List Bool) (sl':zA2):Prop where
 len:sn'.length=sn.length
 slen:sl'.length=sl.length
 un:unF sn'≤unF sn
 hit:b=true→∀ (f:Option zA2) (r:List Ent),Dfs p s f ((k,i,sl)::r) (Sof s.length sn) (some sl')
 miss:b=false→sl'=sl∧∀ (f:Option zA2) (r:List Ent) (res:Option zA2),Dfs p s f r (Sof s.length sn') res→Dfs p s f ((k,i,sl)::r) (Sof s.length sn) res
section
variable {p:List InstD} {s:Str} {k i:Nat} {sl sl1 sl2:zA2} {sn sn1 sn2:List Bool} {b:Bool}
theorem WayT.seen (hi:i≤s.length) (h:sn[k * (s.length+1)+i]?=some true):WayT p s k i sl sn false sn sl :=
 ⟨rfl,rfl,Nat.le_refl _,fun h=>(by cases h),fun _=>⟨rfl,fun f r res hr=>.seen _ _ _ _ _ _ (zP9 hi h) hr⟩⟩
structure Marked (s:Str) (k i:Nat) (sn sn1:List Bool):Prop where
 at0:Sof s.length sn k i=false
 up:Sof s.length sn1=upS (Sof s.length sn) k i
 len:sn1.length=sn.length
 un:unF sn1+1=unF sn
theorem Marked.of (hi:i≤s.length) (h:sn[k * (s.length+1)+i]?=some false):Marked s k i sn (sn.set (k * (s.length+1)+i) true) :=
 ⟨zP9 hi h,zQR hi (List.getElem?_eq_some_iff.1 h).1,by simp,zN4 h⟩
theorem WayT.match (h:Marked s k i sn sn1) (hk:(atI p k).kind=5):WayT p s k i sl sn true sn1 sl :=
 ⟨h.len,rfl,by have:=h.un;omega,fun _ f r=>.hit _ _ _ _ _ h.at0 hk,fun h=>by cases h⟩
theorem WayT.none (h:Marked s k i sn sn1) (hk:(atI p k).kind≠5) (hs:sucE p s k i sl=[]):WayT p s k i sl sn false sn1 sl :=
 ⟨h.len,rfl,by have:=h.un;omega,fun h=>(by cases h),fun _=>⟨rfl,fun f r res hr=>.go _ _ _ _ _ _ h.at0 hk (by rw[hs,← h.up];exact hr)⟩⟩
theorem WayT.one (h:Marked s k i sn sn1) (hk:(atI p k).kind≠5) {k2 i2:Nat} (hs:sucE p s k i sl=[(k2,i2,sl)]) (hw:WayT p s k2 i2 sl sn1 b sn2 sl2):WayT p s k i sl sn b sn2 sl2 :=
 ⟨hw.len.trans h.len,hw.slen,by have:=h.un;have:=hw.un;omega,fun hb f r=>.go _ _ _ _ _ _ h.at0 hk (by rw[hs,← h.up];exact hw.hit hb f r),fun hb=>⟨(hw.miss hb).1,fun f r res hr=>.go _ _ _ _ _ _ h.at0 hk (by rw[hs,← h.up];exact(hw.miss hb).2 f r res hr)⟩⟩
theorem WayT.first (h:Marked s k i sn sn1) (hk:(atI p k).kind≠5) {k2 i2:Nat} {e:Ent} (hs:sucE p s k i sl=[(k2,i2,sl),e]) (hw:WayT p s k2 i2 sl sn1 true sn2 sl2):WayT p s k i sl sn true sn2 sl2 :=
 ⟨hw.len.trans h.len,hw.slen,by have:=h.un;have:=hw.un;omega,fun hb f r=>.go _ _ _ _ _ _ h.at0 hk (by rw[hs,← h.up];exact hw.hit rfl f _),fun hb=>by cases hb⟩
theorem WayT.second (h:Marked s k i sn sn1) (hk:(atI p k).kind≠5) {k2 i2 k3 i3:Nat} {sn3:List Bool} {sl3:zA2} (hs:sucE p s k i sl=[(k2,i2,sl),(k3,i3,sl)]) (hw:WayT p s k2 i2 sl sn1 false sn2 sl2) (hv:WayT p s k3 i3 sl sn2 b sn3 sl3):WayT p s k i sl sn b sn3 sl3 :=
 ⟨(hv.len.trans hw.len).trans h.len,hv.slen,by have:=h.un;have:=hw.un;have:=hv.un;omega,fun hb f r=>.go _ _ _ _ _ _ h.at0 hk (by rw[hs,← h.up];exact(hw.miss rfl).2 f _ _ (hv.hit hb f r)),
  fun hb=>⟨(hv.miss hb).1,fun f r res hr=>.go _ _ _ _ _ _ h.at0 hk (by rw[hs,← h.up];exact(hw.miss rfl).2 f _ _ ((hv.miss hb).2 f r res hr))⟩⟩
theorem WayT.saved (h:Marked s k i sn sn1) (hk:(atI p k).kind≠5) {k2 i2 j:Nat} {v:Int} (hs:sucE p s k i sl=[(k2,i2,sl.set j v)]) (hw:WayT p s k2 i2 (sl.set j v) sn1 true sn2 sl2):WayT p s k i sl sn true sn2 sl2 :=
 ⟨hw.len.trans h.len,by have:=hw.slen;simpa using this,by have:=h.un;have:=hw.un;omega,fun hb f r=>.go _ _ _ _ _ _ h.at0 hk (by rw[hs,← h.up];exact hw.hit rfl f r),fun hb=>by cases hb⟩
theorem WayT.unsaved (h:Marked s k i sn sn1) (hk:(atI p k).kind≠5) {k2 i2 j:Nat} {v:Int} (hs:sucE p s k i sl=[(k2,i2,sl.set j v)]) (hw:WayT p s k2 i2 (sl.set j v) sn1 false sn2 sl2):WayT p s k i sl sn false sn2 sl :=
 ⟨hw.len.trans h.len,rfl,by have:=h.un;have:=hw.un;omega,fun hb=>(by cases hb),fun hb=>⟨rfl,fun f r res hr=>.go _ _ _ _ _ _ h.at0 hk (by rw[hs,← h.up];exact(hw.miss rfl).2 f r res hr)⟩⟩
theorem zB5 {x:InstD} (h:p[k]?=some x):atI p k=x:=by unfold atI;simp[List.getD_eq_getElem?_getD,h]
theorem zQS {x:InstD} (h:p[k]?=some x) (h1:x.kind=1) (hb:i<s.length) (hh:hasB x.set (byt s i)=true):sucE p s k i sl=[(x.next.toNat,i+1,sl)]:=by
 unfold sucE;rw[zB5 h];simp[h1,hb,hh]
theorem zLh {x:InstD} (h:p[k]?=some x) (h1:x.kind=1) (hb:¬ (i<s.length∧hasB x.set (byt s i)=true)):sucE p s k i sl=[]:=by
 unfold sucE;rw[zB5 h];simp only[h1,if_true];rw[if_neg hb]
theorem zN0 {x:InstD} (h:p[k]?=some x) (h1:x.kind=2):sucE p s k i sl=[(x.next.toNat,i,sl),(x.other.toNat,i,sl)]:=by
 unfold sucE;rw[zB5 h];simp[h1]
theorem zP2 {x:InstD} (h:p[k]?=some x) (h1:x.kind=3):sucE p s k i sl=[(x.next.toNat,i,sl.set x.slot.toNat i)]:=by
 unfold sucE;rw[zB5 h];simp[h1]
theorem zPt {x:InstD} (h:p[k]?=some x) (h1:x.kind=4) (hb:zCS x.spot s i=true):sucE p s k i sl=[(x.next.toNat,i,sl)]:=by
 unfold sucE;rw[zB5 h];simp[h1,hb]
theorem zMn {x:InstD} (h:p[k]?=some x) (h1:x.kind=4) (hb:zCS x.spot s i=false):sucE p s k i sl=[]:=by
 unfold sucE;rw[zB5 h];simp[h1,hb]
theorem zPM {x:InstD} (h:p[k]?=some x) (h1:x.kind≠1) (h2:x.kind≠2) (h3:x.kind≠3) (h4:x.kind≠4):sucE p s k i sl=[]:=by
 unfold sucE;rw[zB5 h];simp[h1,h2,h3,h4]
end
def zDp (w:World) (l:List Res) (b:Nat):Prop:=b<w.heap.size∧∀ r ∈ l,r.place≠some b
def zEf (w:World) (l:List Res) (V:World):Prop:=∀ b,zDp w l b→V.heap[b]?=w.heap[b]?
structure Turned (M:Nat→Prop) (w0 w:World) (l1 l2:List Res) (w':World):Prop where
 hold:HoldG M w0 w' l2
 rest:zEf w l1 w'
 lt:∀ b,zDp w l1 b→b<w'.heap.size
 place:∀ r ∈ l2,∀ b,r.place=some b→(∃ s ∈ l1,s.place=some b)∨w.heap.size≤b
 foot:∀ r ∈ l2,∀ b,r.foot b→(∃ s ∈ l1,s.foot b)∨w.heap.size≤b
theorem Res.Holds.keptF {M:Nat→Prop} {base:Nat} {W W':World} {r:Res} (h:r.Holds M base W) (hk:∀ b,r.foot b→W'.heap[b]?=W.heap[b]?) (hs:∀ b,r.foot b→b<W'.heap.size):r.Holds M base W':=by
 cases r with
 | blk b' cs T=>exact⟨h.1,(hk b' rfl).trans h.2⟩
 | row v e sz n xs =>
  obtain⟨hl,h'|⟨g,cap,cur,rfl,hb,hg,r⟩⟩:=h
  ·exact⟨hl,.inl h'⟩
  ·exact⟨hl,.inr ⟨g,cap,cur,rfl,hb,(hk g rfl).trans hg,r⟩⟩
 | mp b' es c=>exact⟨h.1,(hk b' rfl).trans h.2⟩
 | kn F S=>exact⟨hs,fun W2 h2=>h.2 W2 (fun b hb=>(h2 b hb).trans (hk b hb))⟩
section
variable {M:Nat→Prop} {w0 w w':World} {l l1 l2 l3:List Res}
theorem HoldG.framed (H:HoldG M w0 w l):HoldG M w0 w (l++[.kn (zDp w l) (zEf w l)]) :=
 H.know (zDp w l) (zEf w l) (fun b h=>h.1) (fun i r hi b hp hF=>hF.2 r (List.mem_of_getElem? hi) hp) (fun V hV b hb=>hV b hb)
theorem zE0 {js:List Nat} (h:js.map (fun j=>l[j]?)=l1.map some) {k:Nat} {r:Res} (hk:l1[k]?=some r):∃ j,js[k]?=some j∧l[j]?=some r:=by
 have h1:(l1.map some)[k]?=some (some r):=by rw[List.getElem?_map,hk];rfl
 rw[← h,List.getElem?_map]at h1;exact Option.map_eq_some_iff.1 h1
theorem zHi {r:Res} (hr:∀ F S,r≠.kn F S) {b:Nat} (h:r.foot b):r.place=some b:=by
 cases r with
 | kn F S=>exact absurd rfl (hr F S)
 | _=>exact h
theorem Turned.of {W:World} (H:HoldG M w0 W l) {i:Nat} (hi:At l i (.kn (zDp w l1) (zEf w l1))) (js:List Nat) (hn:js.Nodup) (hij:i ∉ js) (h:js.map (fun j=>l[j]?)=l2.map some)
  (hk:∀ F S,Res.kn F S ∈ l2→∀ b,F b→(∃ s ∈ l1,s.foot b)∨w.heap.size≤b):Turned M w0 w l1 l2 W:=by
 have hp:∀ r ∈ l2,∀ b,r.place=some b→(∃ s ∈ l1,s.place=some b)∨w.heap.size≤b:=by
  intro r hr b hb;obtain⟨k,hk⟩:=List.getElem?_of_mem hr;obtain⟨j,hj,e⟩:=zE0 h hk;have hne:j≠i:=fun e=>hij (e ▸ List.mem_of_getElem? hj)
  have ha:=H.apart j i r _ hne e hi.get b hb
  by_cases hlt:b<w.heap.size
  ·refine .inl (Classical.byContradiction fun hno=>ha ⟨hlt,fun s hs hsb=>hno ⟨s,hs,hsb⟩⟩)
  ·exact .inr (by omega)
 refine⟨H.pick js l2 hn h,H.kn hi,H.knlt hi,hp,fun r hr b hb=>?_⟩
 cases r with
 | kn F S=>exact hk F S hr b hb
 | blk b' cs T=>exact(hp _ hr b hb).imp (fun ⟨s,h1,h2⟩=>⟨s,h1,Res.place_foot h2⟩) id
 | row v e sz n xs=>exact(hp _ hr b hb).imp (fun ⟨s,h1,h2⟩=>⟨s,h1,Res.place_foot h2⟩) id
 | mp b' es c=>exact(hp _ hr b hb).imp (fun ⟨s,h1,h2⟩=>⟨s,h1,Res.place_foot h2⟩) id
theorem HoldG.callIn (H:HoldG M w0 w l) (T:Turned M w0 w l1 l2 w') (js ks:List Nat) (h1:js.map (fun j=>l[j]?)=l1.map some) (h3:ks.map (fun j=>l[j]?)=l3.map some) (hn:ks.Nodup) (hd:∀ j ∈ js,j ∉ ks):HoldG M w0 w' (l2++l3):=by
 have A:∀ (k:Nat) (r s:Res),l3[k]?=some r→s ∈ l1→zKR s r∧zKR r s:=by
  intro k r s hk hs;obtain⟨m,hm⟩:=List.getElem?_of_mem hs;obtain⟨j,hj,e⟩:=zE0 h1 hm;obtain⟨q,hq,e'⟩:=zE0 h3 hk;have hne:j≠q:=fun e=>hd j (List.mem_of_getElem? hj) (e ▸ List.mem_of_getElem? hq)
  exact⟨H.apart j q s r hne e e',H.apart q j r s (Ne.symm hne) e' e⟩
 have B:∀ (k:Nat) (r:Res),l3[k]?=some r→r.Holds M w0.heap.size w:=by
  intro k r hk;obtain⟨q,_,e'⟩:=zE0 h3 hk;exact H.all q r e'
 refine⟨T.hold.keep,fun i r hi=>?_,fun i j r s hij hr hs=>?_⟩
 ·rw[List.getElem?_append]at hi;split at hi
  ·exact T.hold.all i r hi
  ·have hr:∀ b,r.foot b→zDp w l1 b:=fun b hb=>⟨(B _ r hi).ltf b hb,fun s hs hsb=>(A _ r s hi hs).1 b hsb hb⟩
   exact(B _ r hi).keptF (fun b hb=>T.rest b (hr b hb)) (fun b hb=>T.lt b (hr b hb))
 ·rw[List.getElem?_append]at hr hs;split at hr
  ·split at hs
   ·exact T.hold.apart i j r s hij hr hs
   ·intro b hb hf;rcases T.place r (List.mem_of_getElem? hr) b hb with ⟨q,hq,hqb⟩|h
    ·exact(A _ s q hs hq).1 b hqb hf
    ·have:=(B _ s hs).ltf b hf;omega
  ·split at hs
   ·intro b hb hf;rcases T.foot s (List.mem_of_getElem? hs) b hf with ⟨q,hq,hqb⟩|h
    ·exact(A _ r q hr hq).2 b hb hqb
    ·have:=((B _ r hr).lt b hb).2;omega
   ·obtain⟨p,hp,e⟩:=zE0 h3 hr;obtain⟨q,hq,e'⟩:=zE0 h3 hs;refine H.apart p q r s (fun epq=>hij ?_) e e'
    subst epq;obtain⟨a1,a2⟩:=List.getElem?_eq_some_iff.1 hp;obtain⟨b1,b2⟩:=List.getElem?_eq_some_iff.1 hq;have:=(List.getElem_inj hn).1 (a2.trans b2.symm);omega
end
end
section
open Go.RowKit Go.Shelf
attribute [local go_sem] Oper.semAt_some
theorem zO5 (x j:Nat):x / 2 ^ (j+1)=x / 2 ^ j / 2:=by rw[Nat.pow_succ,Nat.div_div_eq_div_mul]
theorem zOy (x j:Nat):(((x:Int) / 2 ^ j).tmod 2 == 1)=x.testBit j:=by
 have e:(x:Int) / 2 ^ j=((x / 2 ^ j:Nat):Int):=by push_cast;rfl
 rw[e,Int.tmod_eq_emod_of_nonneg (Int.natCast_nonneg _),Bool.eq_iff_iff,← zKC];simp;omega
theorem zD9 (s:Nat→Nat) (hs:zAW s) (b:Nat) (hb:b<256) (w:World) :
  Calls Tryz.prog 78 #[setV s,.int .u8 b] w fun e w'=>e=.returned (.bool (hasB s b))∧Below w.heap.size w w':=by
 obtain⟨r,hr,hr1,hr2,h⟩:=zGJ hb;have hlt:s (b / 64)<2 ^ 64:=hs _ (by omega)
 unfold setV;rcases h with ⟨h1,hq⟩|⟨h1,hq⟩|⟨h1,hq⟩|⟨h1,hq⟩
 all_goals
  rw[h1]at hlt;have H1:=Lib.hid h1;clear h1;have HR:=Lib.hid hr1;clear hr1
  go_enter Tryz.func78,Tryz.ntmps78
  go_wp2_with fail
  go_loop [5,6] (fun n i=>∃ j:Nat,j≤r∧i=.int .u8 j∧n=.int .u64 ((s (b / 64) / 2 ^ j:Nat):Int)) (fun _ i=>r - (intOf i).toNat)
  case atStart=>exact⟨0,by omega,rfl,by rw[H1.out];simp⟩
  case round =>
   obtain⟨j,hj,rfl,rfl⟩:=hrel;rw[H1.out]
   by_cases hlt2:j<r
   ·obtain⟨y,hy⟩:∃ y,y=s (b / 64) / 2 ^ j:=⟨_,rfl⟩;have hn:=zO5 (s (b / 64)) j;rw[H1.out]at hn hy;rw[← hy]at hn ⊢;have hyb:y≤18446744073709551615:=by have:=Nat.div_le_self (s (b / 64)) (2 ^ j);rw[H1.out]at this;rw[hy];omega
    have HN:=Lib.hid hn;clear hn;have HY:=Lib.hid hy;clear hy
    go_wp2
    go_round
    case rel=>exact⟨j+1,by omega,by go_num,by rw[HN.out];first|rfl|(congr 1)⟩
    case measure=>simp[intOf];omega
   ·obtain rfl:j=r:=by omega
    have ht:=zKC (s (b / 64)) j;rw[H1.out]at ht;have HT:=Lib.hid ht;clear ht;have hyb:=Nat.div_le_self (s (b / 64)) (2 ^ j);rw[H1.out]at hyb
    go_wp2
    go_ret;refine⟨?_,(Below.refl _ _).alloc (Nat.le_refl _) _⟩;unfold hasB;rw[H1.out,HR.out];exact congrArg (fun x=>Ending.returned (Value.bool x)) (zOy _ _)
theorem zRd {x r:Nat} (hx:x<2 ^ 64) (hr:r<64) (h:x.testBit r=false):x+2 ^ r=x ||| 2 ^ r:=by
 have hr2:2 ^ r<2 ^ 64:=Nat.pow_lt_pow_right (by omega) hr
 have e:=BitVec.add_eq_or_of_and_eq_zero (BitVec.ofNat 64 x) (BitVec.ofNat 64 (2 ^ r)) (by
  apply BitVec.eq_of_getLsbD_eq;intro i hi;simp only[BitVec.getLsbD_and,BitVec.getLsbD_ofNat,BitVec.getLsbD_zero,Nat.testBit_two_pow]
  by_cases e:r=i
  ·subst e;simp[h]
  ·simp[e])
 have e2:=congrArg BitVec.toNat e;rw[BitVec.toNat_add,BitVec.toNat_or,BitVec.toNat_ofNat,BitVec.toNat_ofNat,Nat.mod_eq_of_lt hx,Nat.mod_eq_of_lt hr2]at e2;have hor:x ||| 2 ^ r<2 ^ 64:=Nat.or_lt_two_pow hx hr2
 have hle:x+2 ^ r<2 ^ 64+2 ^ 64:=by omega
 by_cases hc:x+2 ^ r<2 ^ 64
 ·rwa [Nat.mod_eq_of_lt hc]at e2
 ·exfalso
  have h1:(x+2 ^ r) % 2 ^ 64=x+2 ^ r - 2 ^ 64:=by omega
  rw[h1]at e2;have h2:x≤x ||| 2 ^ r:=Nat.left_le_or
  omega
theorem zOx {s:Nat→Nat} (hs:zAW s) {b:Nat} (h:hasB s b=true):setV s=setV (addS s b) :=
 zG5 hs (zEj hs b) fun c _=>by
  rw[zI4]
  by_cases e:c=b
  ·subst e;simp[h]
  ·simp[e]
theorem zD7 (s:Nat→Nat) (hs:zAW s) (b:Nat) (hb:b<256) (w:World) :
  Calls Tryz.prog 151 #[setV s,.int .u8 b] w fun e w'=>e=.returned (setV (addS s b))∧Below w.heap.size w w':=by
 obtain⟨r,hr,hr1,hr2,h⟩:=zGJ hb;obtain⟨q,hq4,hq,hqi⟩:∃ q:Nat,q<4∧b / 64=q∧(b:Int) / 64=q:=⟨b / 64,by omega,rfl,by omega⟩
 clear h;have h2r:∀ j,j≤r→2 ^ j≤9223372036854775808:=fun j hj=>by
  have:2 ^ j≤2 ^ 63:=Nat.pow_le_pow_right (by omega) (by omega)
  omega
 rw[show setV s=.agg #[.int .u64 (s 0),.int .u64 (s 1),.int .u64 (s 2),.int .u64 (s 3)] from rfl]
 have b1:SBox (w.alloc (.cells (setC s) 40)) w.heap.size 40 s:=SBox.new w _ _;have b2:SBox ((w.alloc (.cells (setC s) 40)).alloc (.cells (setC zAE) 40)) w.heap.size 40 s:=b1.alloc _;have e2:SBox ((w.alloc (.cells (setC s) 40)).alloc (.cells (setC zAE) 40)) (w.heap.size+1) 40 zAE:=by have:=SBox.new (w.alloc (.cells (setC s) 40)) 40 zAE;rwa [World.size_alloc]at this
 have bel:Below w.heap.size w ((w.alloc (.cells (setC s) 40)).alloc (.cells (setC zAE) 40)):=((Below.refl _ w).alloc (Nat.le_refl _) _).alloc (by simp) _
 have HS:=Lib.hid hs;clear hs;have HQ:=Lib.hid hq;clear hq;have HR:=Lib.hid hr1;clear hr1;have H2R:=Lib.hid h2r;clear h2r;clear b1
 go_enter Tryz.func151,Tryz.ntmps151
 go_wp2_with fail
 refine(zD9 s HS.out b hb _).mono ?_
 rintro e w1 ⟨rfl,bel1⟩;have sz1:=bel1.size;simp at sz1;have b3:=b2.below bel1 b2.lt;have e3:=e2.below bel1 e2.lt;have bel2:Below w.heap.size w w1:=bel.trans (bel1.mono (by simp;omega))
 clear b2 e2 bel bel1;have f0:=e3.frozen 0;have f1:=e3.frozen 1;have f2:=e3.frozen 2;have f3:=e3.frozen 3;have r0:=e3.cell (k:=0) (by omega);have r1:=e3.cell (k:=1) (by omega);have r2:=e3.cell (k:=2) (by omega);have r3:=e3.cell (k:=3) (by omega)
 have E3:=Lib.hid e3;clear e3;have BEL2:=Lib.hid bel2;clear bel2
 cases hh:hasB s b with
 | true =>
  have HH:=Lib.hid hh;clear hh;have c0:=b3.cell (k:=0) (by omega);have c1:=b3.cell (k:=1) (by omega);have c2:=b3.cell (k:=2) (by omega);have c3:=b3.cell (k:=3) (by omega)
  clear b3
  go_wp2
  have b4:=E3.out.set4 s;have g0:=b4.cell (k:=0) (by omega);have g1:=b4.cell (k:=1) (by omega);have g2:=b4.cell (k:=2) (by omega);have g3:=b4.cell (k:=3) (by omega)
  exact bodyPost_ret (v:=setV s) (by unfold setV;simp[results,Tryz.results151,go_sem,g0,g1,g2,g3]) rfl ⟨by rw[zOx HS.out HH.out],zBq BEL2.out (by omega) _ _ _ _⟩
 | false =>
  have HH:=Lib.hid hh;clear hh;have B3:=Lib.hid b3;have k1:=b3.cell hq4;have k2:=b3.frozen q;clear b3
  go_wp2_with fail
  go_loop [5,6] (fun n i=>∃ j:Nat,j≤r∧i=.int .u8 j∧n=.int .u64 ((2 ^ j:Nat):Int)) (fun _ i=>r - (intOf i).toNat)
  case atStart=>exact⟨0,by omega,rfl,rfl⟩
  case round =>
   obtain⟨j,hj,rfl,rfl⟩:=hrel
   by_cases hlt:j<r
   ·have hp:=H2R.out (j+1) (by omega)
    rw[Nat.pow_succ]at hp;have hs2:2 ^ (j+1)=2 ^ j * 2:=Nat.pow_succ ..;have HS2:=Lib.hid hs2;clear hs2;obtain⟨y,hy⟩:∃ y,y=2 ^ j:=⟨_,rfl⟩;rw[← hy]at hp HS2 ⊢;clear hy;have hw:IntKind.u64.wrap (2 * (y:Int))=2 * (y:Int):=by rw[IntKind.wrap_u64];omega
    go_wp2
    go_round
    case rel=>exact⟨j+1,by omega,by go_num,by rw[HS2.out];go_num⟩
    case measure=>simp[intOf];omega
   ·obtain rfl:j=r:=by omega
    have hadd:=zRd (HS.out q hq4) hr (by have:=HH.out;unfold hasB at this;rwa [HQ.out,HR.out]at this)
    have hp:=H2R.out j (Nat.le_refl _);have hor:s q ||| 2 ^ j<2 ^ 64:=Nat.or_lt_two_pow (HS.out q hq4) (by omega)
    rw[← hadd]at hor;have HADD:=Lib.hid hadd;clear hadd;obtain⟨y,hy⟩:∃ y,y=2 ^ j:=⟨_,rfl⟩;rw[← hy]at hp hor HADD ⊢;have HY:=Lib.hid hy;clear hy;have hw:IntKind.u64.wrap (((s q:Nat):Int)+(y:Int))=((s q+y:Nat):Int):=by rw[IntKind.wrap_u64];omega
    have b5:SBox (w1.setCell ⟨w.heap.size,q,none⟩ (.int .u64 (((s q:Nat):Int)+(y:Int)))) w.heap.size 40 (addS s b):=by
     have h1:=B3.out.set hq4 (s q+y);rw[HADD.out,HY.out,zQr HQ.out HR.out,← HY.out,← HADD.out]at h1
     simpa using h1
    have e5:SBox (w1.setCell ⟨w.heap.size,q,none⟩ (.int .u64 (((s q:Nat):Int)+(y:Int)))) (w.heap.size+1) 40 zAE:=E3.out.other (by omega) _ _
    have bel5:Below w.heap.size w (w1.setCell ⟨w.heap.size,q,none⟩ (.int .u64 (((s q:Nat):Int)+(y:Int)))):=BEL2.out.setCell (p:=⟨w.heap.size,q,none⟩) (Nat.le_refl _) _;have B5:=Lib.hid bel5;clear bel5;have c0:=b5.cell (k:=0) (by omega);have c1:=b5.cell (k:=1) (by omega);have c2:=b5.cell (k:=2) (by omega);have c3:=b5.cell (k:=3) (by omega)
    clear f0 f1 f2 f3 r0 r1 r2 r3 B3 E3;have f0:=e5.frozen 0;have f1:=e5.frozen 1;have f2:=e5.frozen 2;have f3:=e5.frozen 3;have r0:=e5.cell (k:=0) (by omega);have r1:=e5.cell (k:=1) (by omega);have r2:=e5.cell (k:=2) (by omega);have r3:=e5.cell (k:=3) (by omega)
    clear b5;have E5:=Lib.hid e5;clear e5
    go_wp2
    have b4:=E5.out.set4 (addS s b);have g0:=b4.cell (k:=0) (by omega);have g1:=b4.cell (k:=1) (by omega);have g2:=b4.cell (k:=2) (by omega);have g3:=b4.cell (k:=3) (by omega)
    exact bodyPost_ret (v:=setV (addS s b)) (by unfold setV;simp[results,Tryz.results151,go_sem,g0,g1,g2,g3]) rfl ⟨rfl,zBq B5.out (by omega) _ _ _ _⟩
theorem zLL (v:Value) (xs:List Int) (hx:∀ x ∈ xs,0≤x∧x≤255) (w:World) (h:Rd w w.heap.size v (xs.map (.int .u8))) :
  Calls Tryz.prog 135 #[v] w fun e w'=>e=.returned (setV (ofS xs))∧Below w.heap.size w w':=by
 have b1:SBox (w.alloc (.cells (setC zAE) 40)) w.heap.size 40 zAE:=SBox.new w _ _;have b2:SBox ((w.alloc (.cells (setC zAE) 40)).alloc (.cells (setC zAE) 40)) w.heap.size 40 zAE:=b1.alloc _;have e2:SBox ((w.alloc (.cells (setC zAE) 40)).alloc (.cells (setC zAE) 40)) (w.heap.size+1) 40 zAE:=by have:=SBox.new (w.alloc (.cells (setC zAE) 40)) 40 zAE;rwa [World.size_alloc]at this
 have bel:Below w.heap.size w ((w.alloc (.cells (setC zAE) 40)).alloc (.cells (setC zAE) 40)):=((Below.refl _ w).alloc (Nat.le_refl _) _).alloc (by simp) _
 clear b1;have hl:xs.length≤9223372036854775807:=by simpa using h.len
 obtain⟨p,cap,rfl⟩:∃ p cap,v=.slice p xs.length cap:=by rcases h with ⟨⟨q,h⟩,h'⟩|⟨b,off,cap,h,_⟩;(obtain rfl:xs=[]:=by simpa using h');exact⟨_,_,h⟩;exact⟨some ⟨b,off,none⟩,cap,by simpa using h⟩
 have H:=Lib.hid h;clear h;have HX:=Lib.hid hx;clear hx
 go_enter Tryz.func135,Tryz.ntmps135
 go_wp2_with fail
 go_loopw [4] (fun i wr=>∃ k:Nat,k≤xs.length∧i=.int .i64 k∧Hid (SBox wr (w.heap.size+1) 40 (ofS (xs.take k))∧SBox wr w.heap.size 40 zAE∧Below w.heap.size w wr)) (fun i _=>xs.length - (intOf i).toNat)
 case atStart=>exact⟨0,by omega,rfl,e2,b2,bel⟩
 case round =>
  clear e2 b2 bel;obtain⟨k,hk,rfl,G⟩:=hrel
  by_cases hlt:k<xs.length
  ·obtain⟨b0,off,rfl,hb0,hcell⟩:∃ b0 off,p=some ⟨b0,off,none⟩∧b0<w.heap.size∧w.cell? ⟨b0,off+k,none⟩=some (.int .u8 xs[k]):=by
    rcases H.out with ⟨⟨q,h⟩,h'⟩|⟨b,off,cap,h,h1,_,_,h4⟩
    ·simp at h';subst h';simp at hlt
    ·injection h with h2 _ _;exact⟨b,off,h2,h1,by have:=h4 k (by simpa using hlt);simpa using this⟩
   have hxk:=HX.out xs[k] (List.getElem_mem hlt);have hnext:ofS (xs.take (k+1))=addS (ofS (xs.take k)) xs[k].toNat:=by rw[List.take_succ_eq_append_getElem hlt,zLS]
   have hS:zAW (ofS (xs.take k)):=zB3 _;have HN:=Lib.hid hnext;clear hnext;have HS:=Lib.hid hS;clear hS
   generalize ofS (xs.take k)=S at G HN HS
   generalize xs[k]=x at hcell hxk HN
   obtain⟨hx0,hx1⟩:=hxk;obtain⟨x,rfl⟩:∃ n:Nat,x=n:=⟨x.toNat,by omega⟩
   have HC:=Lib.hid hcell;clear hcell
   go_upto_region 5 with fail
   refine wr_ 6 [fun v _=>v=setV S,fun v _=>v=.slice (some ⟨b0,off,none⟩) xs.length cap,fun v _=>v=.int .i64 (k:Int),fun v _=>v=.pointer (some ⟨b0,off+k,none⟩),fun v _=>v=.int .u8 (x:Int),fun v _=>v=setV (addS S x)] ?ob ?en
   case ob =>
    refine⟨?_,?_,?_,?_,?_,?_,trivial⟩<;>intro A W h
    ·exact zDC (s:=S) rfl rfl (h.f 3) (G.out.1.below h.below G.out.1.lt) (by decide)
    ·exact zAB rfl rfl (h.f 0)
    ·exact zAB rfl rfl (h.f 4)
    ·exact zAo (sz:=1) Tryz.underlying23 (fun w=>by kernel_rfl) rfl rfl (h.d 1 12) (h.d 2 13) (by omega) (by omega)
    ·(have e14:A.eval (.tmp 14)=.pointer (some ⟨b0,off+k,none⟩):=h.d 3 14;refine zAA rfl ?_;simp only[execOp,e14];(have q:=((G.out.2.2.trans (h.below.mono G.out.2.2.size)).cell (p:=⟨b0,off+k,none⟩) hb0).trans HC.out;simp[go_sem,q]))
    ·exact zAm rfl rfl (enters_of Tryz.func151 (by kernel_rfl) rfl) (zBz ⟨(h.d 0 11),(h.d 4 15)⟩) (zD7 S HS.out x (by omega) W)
   case en =>
    intro vals W hbw hv _;simp only[fa,Nat.reduceAdd];rw[e_ hv 0,e_ hv 1,e_ hv 2,e_ hv 3,e_ hv 4,e_ hv 5];clear hv
    try simp only[pl]
    have s1:=G.out.1.below hbw G.out.1.lt;have s2:=G.out.2.1.below hbw G.out.2.1.lt;have s3:=G.out.2.2.trans (hbw.mono G.out.2.2.size);have f0:=s1.frozen 0;have f1:=s1.frozen 1;have f2:=s1.frozen 2;have f3:=s1.frozen 3;have r0:=s1.cell (k:=0) (by omega);have r1:=s1.cell (k:=1) (by omega);have r2:=s1.cell (k:=2) (by omega);have r3:=s1.cell (k:=3) (by omega)
    have S1:=Lib.hid s1;clear s1;have S2:=Lib.hid s2;clear s2;have S3:=Lib.hid s3;clear s3;have sz:=G.out.1.lt;clear hbw G;rw[show setV (addS S x)=.agg #[.int .u64 (addS S x 0),.int .u64 (addS S x 1),.int .u64 (addS S x 2),.int .u64 (addS S x 3)] from rfl]
    go_wp2_with fail
    go_roundw
    case rel=>exact⟨k+1,by omega,by go_num,by rw[HN.out];exact S1.out.set4 _,(((S2.out.other (by omega) _ _).other (by omega) _ _).other (by omega) _ _).other (by omega) _ _,zBq S3.out (by omega) _ _ _ _⟩
    case measure=>simp[intOf];omega
  ·obtain rfl:k=xs.length:=by omega
   have ⟨s1,s2,s3⟩:=G.out;rw[List.take_length]at s1;clear G;have f0:=s2.frozen 0;have f1:=s2.frozen 1;have f2:=s2.frozen 2;have f3:=s2.frozen 3;have r0:=s2.cell (k:=0) (by omega);have r1:=s2.cell (k:=1) (by omega);have r2:=s2.cell (k:=2) (by omega);have r3:=s2.cell (k:=3) (by omega)
   have c0:=s1.cell (k:=0) (by omega);have c1:=s1.cell (k:=1) (by omega);have c2:=s1.cell (k:=2) (by omega);have c3:=s1.cell (k:=3) (by omega)
   clear s1;have S2:=Lib.hid s2;clear s2;have S3:=Lib.hid s3;clear s3
   go_wp2
   have b4:=S2.out.set4 (ofS xs);have g0:=b4.cell (k:=0) (by omega);have g1:=b4.cell (k:=1) (by omega);have g2:=b4.cell (k:=2) (by omega);have g3:=b4.cell (k:=3) (by omega)
   exact bodyPost_ret (v:=setV (ofS xs)) (by unfold setV;simp[results,Tryz.results135,go_sem,g0,g1,g2,g3]) rfl ⟨rfl,zBq S3.out (by omega) _ _ _ _⟩
end
end Go.Proofs.YtdoflhjhaciepaaGreat
