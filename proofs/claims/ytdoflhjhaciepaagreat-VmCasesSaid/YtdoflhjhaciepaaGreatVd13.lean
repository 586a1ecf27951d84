/-
  Laws of walks, and walks.
-/
import Derived.Test.YtdoflhjhaciepaaGreatVd3
import Derived.Test.YtdoflhjhaciepaaGreatVd2
import Derived.Test.YtdoflhjhaciepaaGreatVd10
import Derived.MapKept
import Derived.Test.YtdoflhjhaciepaaGreatVd8
set_option linter.unusedVariables false
set_option linter.unusedSimpArgs false
set_option maxRecDepth 100000
set_option maxHeartbeats 16000000
namespace Go.Proofs.YtdoflhjhaciepaaGreat
section
open Go.RowKit
def zA6 (n:Nat) (v:Int):Int:=min (max v 0) (n - 1)
def zD1 (n:Nat) (x:InstD):InstD × Bool :=
 if x.kind=1 then ({kind:=x.kind,set:=x.set,next:=zA6 n x.next},!eqS x.set zAE)
 else if x.kind=2 then ({kind:=x.kind,next:=zA6 n x.next,other:=zA6 n x.other},true)
 else if x.kind=3 then ({kind:=x.kind,slot:=min (max x.slot 0) 41,next:=zA6 n x.next},true)
 else if x.kind=4 then ({kind:=x.kind,spot:=min (max x.spot 8) 13,next:=zA6 n x.next},true)
 else if x.kind=5∨x.kind=6 then ({kind:=x.kind},true)
 else ({kind:=x.kind},false)
def eqI (x y:InstD):Bool:=(x.kind == y.kind)&&(eqS x.set y.set&&((x.next == y.next)&&((x.other == y.other)&&((x.slot == y.slot)&&(x.spot == y.spot)))))
theorem zLs (n:Nat) (hn:0<n) (x:InstD):((zD1 n x).2&&eqI x (zD1 n x).1)=zBa n x:=by
 obtain⟨k,s,a,b,c,d⟩:=x;unfold zD1 zBa inN zA6 eqI;have hs:eqS s s=true:=zIi s;simp only
 by_cases h1:k=1
 ·subst h1;simp only[if_true,hs]
  generalize eqS s zAE=q
  rw[Bool.eq_iff_iff];cases q<;>simp<;>omega
 by_cases h2:k=2
 ·subst h2;simp only[if_true];simp only[show ¬ (2:Int)=1 by decide,if_false]
  generalize eqS s zAE=q
  rw[Bool.eq_iff_iff];cases q<;>simp<;>omega
 by_cases h3:k=3
 ·subst h3;simp only[show ¬ (3:Int)=1 by decide,show ¬ (3:Int)=2 by decide,if_false,if_true]
  generalize eqS s zAE=q
  rw[Bool.eq_iff_iff];cases q<;>simp<;>omega
 by_cases h4:k=4
 ·subst h4;simp only[show ¬ (4:Int)=1 by decide,show ¬ (4:Int)=2 by decide,show ¬ (4:Int)=3 by decide,if_false,if_true]
  generalize eqS s zAE=q
  rw[Bool.eq_iff_iff];cases q<;>simp<;>omega
 by_cases h5:k=5∨k=6
 ·simp only[if_neg h1,if_neg h2,if_neg h3,if_neg h4,if_pos h5]
  generalize eqS s zAE=q
  rw[Bool.eq_iff_iff];cases q<;>simp
  intros;constructor<;>(intros;omega)
 ·simp only[if_neg h1,if_neg h2,if_neg h3,if_neg h4,if_neg h5];rfl
end
section
open Go.RowKit Go.MapKept
def Sub (d:TypeDesc) (F:Value→Option Value) (es:Array MapEntry):Prop:=∀ e ∈ es.toList,IsKey d e.key∧F e.key=some e.val
def HasK (es:Array MapEntry) (k:Value):Prop:=∃ e ∈ es.toList,e.key=k
section
variable {P:Program} {w:World} {T kt et:TypeId} {d:TypeDesc} {F:Value→Option Value} {es:Array MapEntry} {c mb:Nat}
end
structure RelM (d:TypeDesc) (F:Value→Option Value) (n0:Nat) (w w':World):Prop where
 os:w'.os=w.os
 tape:w'.tape=w.tape
 output:w'.output=w.output
 size:w.heap.size≤w'.heap.size
 block:∀ k,k<w.heap.size→w'.heap[k]?=w.heap[k]?∨(n0≤k∧∃ es c es' c',w.heap[k]?=some (.map es c)∧w'.heap[k]?=some (.map es' c')∧(Sub d F es→Sub d F es'∧∀ x,HasK es x→HasK es' x))
section
variable {d:TypeDesc} {F:Value→Option Value} {n0:Nat}
theorem RelM.trans (u v w:World) (h:RelM d F n0 u v) (k:RelM d F n0 v w):RelM d F n0 u w:=by
 refine⟨k.os.trans h.os,k.tape.trans h.tape,k.output.trans h.output,Nat.le_trans h.size k.size,fun i hi=>?_⟩
 rcases h.block i hi with e1|⟨hn,es,c,es',c',e1,e2,e3⟩
 ·rcases k.block i (Nat.lt_of_lt_of_le hi h.size) with e2|⟨hn,es,c,es',c',f1,f2,f3⟩
  ·exact .inl (e2.trans e1)
  ·exact .inr ⟨hn,es,c,es',c',e1 ▸ f1,f2,f3⟩
 ·rcases k.block i (Nat.lt_of_lt_of_le hi h.size) with f1|⟨_,fs,x,fs',x',f1,f2,f3⟩
  ·exact .inr ⟨hn,es,c,es',c',e1,f1.trans e2,e3⟩
  ·rw[e2]at f1;cases f1
   exact .inr ⟨hn,es,c,fs',x',e1,f2,fun hs=>⟨(f3 (e3 hs).1).1,fun y hy=>(f3 (e3 hs).1).2 y ((e3 hs).2 y hy)⟩⟩
theorem RelM.cells {w w':World} (h:RelM d F n0 w w') {b:Nat} {cs:Array Value} {T:TypeId} {f:Nat × Nat} (hb:w.heap[b]?=some (.cells cs T f)):w'.heap[b]?=some (.cells cs T f):=by
 rcases h.block b (Array.getElem?_eq_some_iff.1 hb).1 with e|⟨_,es,c,es',c',e,_⟩
 ·exact e.trans hb
 ·rw[hb]at e;cases e
theorem RelM.cell {w w':World} (h:RelM d F n0 w w') {a:Addr} {v:Value} (hb:w.cell? a=some v):w'.cell? a=some v:=by
 rcases h.block a.block (by
  rcases Nat.lt_or_ge a.block w.heap.size with h1|h1
  ·exact h1
  ·unfold World.cell? at hb;simp[Array.getElem?_eq_none h1]at hb) with e|⟨_,es,c,es',c',e,_⟩
 ·unfold World.cell? at hb ⊢;rw[e];exact hb
 ·unfold World.cell? at hb;simp[e]at hb
section
variable {P:Program} {ops:Array Oper} {o:Oper} {a:Act} {w:World} {R:World→World→Prop} {S:Value→World→Prop}
theorem zDB {t:Tmp} (hd:o.dst=some t) (h:zDT P ops R o a w S):zDT P ops R o a w (fun v w'=>S v w'∧(o.dst=none→v=zIN o a)):=by
 have hn:∀ v:Value,o.dst=none→v=zIN o a:=fun v e=>by rw[hd]at e;cases e
 unfold zDT at h ⊢;split at h
 ·rename_i hw;rw[if_pos hw];exact Oper.wp_mono (fun a' w' ⟨v,e,h1,h2⟩=>⟨v,e,h1,h2,hn v⟩) h
 ·rename_i hw;rw[if_neg hw];exact⟨h,hn _⟩
end
end
end
section
open Go.RowKit
structure RelS (b0:Nat) (C:Array Value) (T:TypeId) (w w':World):Prop where
 os:w'.os=w.os
 tape:w'.tape=w.tape
 output:w'.output=w.output
 size:w.heap.size≤w'.heap.size
 old:∀ k,k<w.heap.size→k≠b0→w'.heap[k]?=w.heap[k]?
 at0:w'.heap[b0]?=w.heap[b0]?∨w'.heap[b0]?=some (.cells C T (0,0))∨w.heap.size≤b0
section
variable {b0:Nat} {C:Array Value} {T:TypeId}
theorem RelS.refl (w:World):RelS b0 C T w w:=⟨rfl,rfl,rfl,Nat.le_refl _,fun _ _ _=>rfl,.inl rfl⟩
theorem RelS.trans (u v w:World) (h:RelS b0 C T u v) (k:RelS b0 C T v w):RelS b0 C T u w:=by
 refine⟨k.os.trans h.os,k.tape.trans h.tape,k.output.trans h.output,Nat.le_trans h.size k.size,fun i h1 h2=>(k.old i (Nat.lt_of_lt_of_le h1 h.size) h2).trans (h.old i h1 h2),?_⟩
 have:=h.size;rcases k.at0 with e|e|e
 ·rcases h.at0 with f|f|f
  ·exact .inl (e.trans f)
  ·exact .inr (.inl (e.trans f))
  ·exact .inr (.inr f)
 ·exact .inr (.inl e)
 ·exact .inr (.inr (by omega))
theorem RelS.drew (w:World):RelS b0 C T w {w with drawn:=w.drawn+1}:=⟨rfl,rfl,rfl,Nat.le_refl _,fun _ _ _=>rfl,.inl rfl⟩
theorem RelS.of_below {w w':World} (h:Below w.heap.size w w'):RelS b0 C T w w':=⟨h.os,h.tape,h.output,h.size,fun k hk _=>h.block k hk,by
 by_cases hb:b0<w.heap.size
 ·exact .inl (h.block b0 hb)
 ·exact .inr (.inr (by omega))⟩
def zKB (b0:Nat) (C:Array Value) (T:TypeId) (v:Value) (w:World):Prop:=v=pt b0 0∧w.heap[b0]?=some (.cells C T (0,0))
theorem zDX:zIy (RelS b0 C T) (zKB b0 C T):=fun v w w' ⟨e,h⟩ hr=>⟨e,by
 have hlt:=(Array.getElem?_eq_some_iff.1 h).1;rcases hr.at0 with f|f|f
 ·exact f.trans h
 ·exact f
 ·omega⟩
theorem HoldG.relS {M:Nat→Prop} {w0 w W:World} {l:List Res} (H:HoldG M w0 w l) {i:Nat} {cs:Array Value} (hi:At l i (.blk b0 cs T)) (hr:RelS b0 C T w W):∃ ds,(ds=cs∨ds=C)∧HoldG M w0 W (l.set i (.blk b0 ds T)):=by
 have hb:=H.blk hi;have hlt:=(Array.getElem?_eq_some_iff.1 hb.2).1;have hg:w.grownBy W (some b0):=⟨hr.os,hr.tape,hr.output,hr.size,fun k h1 h2=>hr.old k h1 (fun e=>h2 (by rw[e]))⟩
 rcases hr.at0 with f|f|f
 ·exact⟨cs,.inl rfl,H.upd hi.get hg ⟨hb.1,f.trans hb.2⟩ (fun _ e=>.inl e)⟩
 ·exact⟨C,.inr rfl,H.upd hi.get hg ⟨hb.1,f⟩ (fun _ e=>.inl e)⟩
 ·omega
theorem HoldG.laidS {M:Nat→Prop} {w0 w W:World} {l:List Res} (H:HoldG M w0 w l) {i:Nat} {cs:Array Value} (hi:At l i (.blk b0 cs T)) (hr:RelS b0 C T w W) {v:Value} (h:zKB b0 C T v W):HoldG M w0 W (l.set i (.blk b0 C T)) :=
 H.upd hi.get ⟨hr.os,hr.tape,hr.output,hr.size,fun k h1 h2=>hr.old k h1 (fun e=>h2 (by rw[e];rfl))⟩ ⟨(H.blk hi).1,h.2⟩ (fun _ e=>.inl e)
theorem zIL {P:Program} {ops:Array Oper} {o:Oper} {a:Act} {w:World} {S:TypeId} {m:Tmp} {y:Operand} (hg:Region.wanted o (yielded ops a.tmps)=true) (hop:o.op=.store S (.tmp m) y) (hdst:o.dst=none) (hm:a.eval (.tmp m)=.pointer (some ⟨b0,0,none⟩)) {cs:Array Value} (hb:w.heap[b0]?=some (.cells cs T (0,0))) (hs:cs.size=C.size) (hy:a.eval y=.agg C) (hT:zDL P S C.size=true) (h1:C.toList.all (·.oneCell')=true) :
  zDT P ops (RelS b0 C T) o a w (fun v w'=>zKB b0 C T v w'∧(o.dst=none→v=zIN o a)):=by
 have hth:w.there b0 0 C.size:=fun j hj=>by
  rw[cell_of_row w b0 (0+j) cs T (0,0) hb];simp[World.frozen?,hb];omega
 unfold zDT;rw[if_pos hg];unfold Oper.wp;have hr':(execOp a.eval o).run P w=.ok .skip (w.setCells b0 0 C.toList):=by
  unfold execOp;simp only[hop,hm,hy,Instr.storeAt,Instr.sureAddr,Sem.run_bind,Sem.run_pure,Result.andThen_ok,run_storeVar_mid (P:=P) w b0 0 S C hth (by simpa [zDL] using hT) (by rw[Array.all_toList]at h1;exact h1)]
 rw[hr'];simp only[Oper.upon];have hg2:=zCj C.toList 0 w b0;have hh:=zC7 C.toList 0 w b0 cs T _ hb;rw[zGg (by omega)]at hh
 refine⟨.pointer (some ⟨b0,0,none⟩),(by rw[hdst];rfl),⟨hg2.os,hg2.tape,hg2.output,hg2.size,fun j hj hne=>hg2.block j hj (fun e=>by cases e;exact hne rfl),.inr (.inl hh)⟩,⟨rfl,hh⟩,fun _=>?_⟩
 unfold zIN ownT;rw[hop];exact hm.symm
end
end
section
open Go.RowKit Go.Shelf
attribute [local go_sem] Oper.semAt_some
theorem zIG (u s:Nat→Nat) (W:World):(Op.equalIn 9999 40 (.agg #[.int .u64 (u 0),.int .u64 (u 1),.int .u64 (u 2),.int .u64 (u 3)]) (.agg #[.int .u64 (s 0),.int .u64 (s 1),.int .u64 (s 2),.int .u64 (s 3)])).run Tryz.prog W=.ok (eqS u s) W:=by
 have hi:(Tryz.prog.info? 38).isSome=true:=by kernel_rfl
 obtain⟨i,hi⟩:=Option.isSome_iff_exists.1 hi;have hu:Tryz.prog.underlying 38=some (.int .u64):=by kernel_rfl
 have hc:Tryz.prog.cellsOf 38=1:=by kernel_rfl
 have hst:∀ (x:Nat→Nat) (k:Nat),k<4→∀ W,(part 38 #[.int .u64 (x 0),.int .u64 (x 1),.int .u64 (x 2),.int .u64 (x 3)] (k * 1)).run Tryz.prog W=.ok (.int .u64 (x k)) W:=by
  intro x k hk W;rw[Nat.mul_one]
  match k,hk with
  | 0,_=>simp[go_sem]
  | 1,_=>simp[go_sem]
  | 2,_=>simp[go_sem]
  | 3,_=>simp[go_sem]
 rw[run_equalIn_array W 9998 (n:=4) _ _ (by kernel_rfl) hi,hc]
 have hl:List.range 4=[0,1,2,3]:=by decide
 have he:∀ (a b:Nat),((a:Int) == (b:Int))=(a == b):=by intro a b;rw[Bool.eq_iff_iff];simp;omega
 rw[hl];unfold eqS;simp only[Op.eqItems,Sem.run_bind];simp only[hst u 0 (by decide),hst s 0 (by decide),Result.andThen_ok,run_equalIn_int _ _ _ _ _ _ _ hu,he]
 cases u 0 == s 0
 ·simp
 simp only[Bool.not_true,Bool.false_eq_true,if_false,Bool.true_and,Sem.run_bind];simp only[hst u 1 (by decide),hst s 1 (by decide),Result.andThen_ok,run_equalIn_int _ _ _ _ _ _ _ hu,he]
 cases u 1 == s 1
 ·simp
 simp only[Bool.not_true,Bool.false_eq_true,if_false,Bool.true_and,Sem.run_bind];simp only[hst u 2 (by decide),hst s 2 (by decide),Result.andThen_ok,run_equalIn_int _ _ _ _ _ _ _ hu,he]
 cases u 2 == s 2
 ·simp
 simp only[Bool.not_true,Bool.false_eq_true,if_false,Bool.true_and,Sem.run_bind];simp only[hst u 3 (by decide),hst s 3 (by decide),Result.andThen_ok,run_equalIn_int _ _ _ _ _ _ _ hu,he]
 cases u 3 == s 3<;>simp
theorem zQX {o:Oper} {a:Act} {w:World} {x y:Operand} {U:TypeId} {d e:InstD} (hop:o.op=.binOp .neq 43 x y U) (hx:a.eval x=zAu d) (hy:a.eval y=zAu e):(execOp a.eval o).run Tryz.prog w=.ok (.value (.bool (!(eqI d e)))) w:=by
 have he:=zIG d.set e.set w;simp only[execOp,hop,hx,hy];unfold zAu zAY eqI;simp[go_sem,he]
 by_cases h0:d.kind=e.kind
 ·cases h1:eqS d.set e.set
  ·simp[h0]
  ·by_cases h2:d.next=e.next
   ·by_cases h3:d.other=e.other
    ·by_cases h4:d.slot=e.slot
     ·by_cases h5:d.spot=e.spot<;>simp[h0,h2,h3,h4,h5]
     ·simp[h0,h2,h3,h4]
    ·simp[h0,h2,h3]
   ·simp[h0,h2]
 ·simp[h0]
theorem zQ7 {z z':Int} (h:z=z'):Ending.returned (.int .i64 z)=Ending.returned (.int .i64 z'):=by rw[h]
theorem zRm (a b:Int):Builtin.max2 (.int .i64 a) (.int .i64 b)=pure (.int .i64 (max a b)):=by
 show (pure (.int .i64 (if b > a then b else a)):Sem Value)=_
 rw[show (if b > a then b else a)=max a b by omega]
theorem zEX (v:Int) (n b:Nat) (w0:World) (hn:0<n) (hn2:n≤1000000) (hb:w0.cell? ⟨b,0,none⟩=some (.int .i64 n)):Calls Tryz.prog 72 #[.int .i64 v,.pointer (some ⟨b,0,none⟩)] w0 (Rt (.int .i64 (zA6 n v)) w0):=by
 have hlt:b<w0.heap.size:=by
  unfold World.cell? at hb
  cases h:w0.heap[b]? with
  | none=>simp[h]at hb
  | some x=>exact(Array.getElem?_eq_some_iff.1 h).1
 have H:=(Hold.start w0).know (·=b) (fun V=>V.cell? ⟨b,0,none⟩=some (.int .i64 n)) (fun _ h=>by omega) (fun i r h=>by simp at h) (fun V hV=>by rw[← hb];simp[World.cell?,hV b rfl])
 simp only[List.nil_append]at H
 go_enter Tryz.func72,Tryz.ntmps72
 go_wp2_with (first|((with_reducible refine gL ?_);refine zAJ wtd_ _ _ rfl rfl zAH (H.kn (i:=0) .zero) ?_)|fail)
 all_goals (go_ret;exact⟨zQ7 (by unfold zA6;omega),H.below⟩)
theorem zRg (a b:Int):Builtin.min2 (.int .i64 a) (.int .i64 b)=pure (.int .i64 (min a b)):=by
 show (pure (.int .i64 (if b<a then b else a)):Sem Value)=_
 rw[show (if b<a then b else a)=min a b by omega]
theorem zLT {P:Program} {ev:Operand→Value} {w:World} {o:Oper} {x y:Operand} {ts:Array TypeId} {i j:Int} (hop:o.op=Op.call {callee:=.builtin .max,args:=#[x,y],argTypes:=ts}) (hx:ev x=.int .i64 i) (hy:ev y=.int .i64 j) :
  (execOp ev o).run P w=.ok (.value (.int .i64 (max i j))) w:=by
 simp[execOp,hop,hx,hy,go_sem,Builtin.max_,zRm]
theorem zLN {P:Program} {ev:Operand→Value} {w:World} {o:Oper} {x y:Operand} {ts:Array TypeId} {i j:Int} (hop:o.op=Op.call {callee:=.builtin .min,args:=#[x,y],argTypes:=ts}) (hx:ev x=.int .i64 i) (hy:ev y=.int .i64 j) :
  (execOp ev o).run P w=.ok (.value (.int .i64 (min i j))) w:=by
 simp[execOp,hop,hx,hy,go_sem,Builtin.min_,zRg]
theorem zFh {P:Program} {ops:Array Oper} {o:Oper} {a:Act} {w:World} {D:Prop} {f:FuncId} {x y:Operand} {ts:Array TypeId} {v c r:Value} (hg:Region.wanted o (yielded ops a.tmps)=true) (hop:o.op=Op.call {callee:=Callee.value x,args:=#[y],argTypes:=ts}) (hf:∀ args w,(callFunc f args).run P w=.ok (.enter f args) w)
  (hx:a.eval x=.func (.func f) #[] #[c]) (hy:a.eval y=v) (hc:Calls P f #[v,c] w fun e w'=>e=.returned r∧Below w.heap.size w w') (hD:¬ D):zA7 P ops o a w (fun v' w'=>v'=r∧(D→w.heap.size≤blk v')):=by
 refine zKs hg (f:=f) (args:=#[v,c]) ?_ (hc.mono fun _ _ ⟨he,hb⟩=>⟨r,he,hb,rfl,fun h=>(hD h).elim⟩)
 simp only[execOp,hop];simp[resolve,hx,hy,Deferred.ofValue,invoke,hf]
theorem zCi (x:InstD) (v:Int):(zAY x).setIfInBounds 0 (.int .i64 v)=zAY {x with kind:=v}:=rfl
theorem zDn (x:InstD) (v:Int):(zAY x).setIfInBounds 5 (.int .i64 v)=zAY {x with next:=v}:=rfl
theorem zLy (x:InstD) (v:Int):(zAY x).setIfInBounds 6 (.int .i64 v)=zAY {x with other:=v}:=rfl
theorem zL2 (x:InstD) (v:Int):(zAY x).setIfInBounds 7 (.int .i64 v)=zAY {x with slot:=v}:=rfl
theorem zL9 (x:InstD) (v:Int):(zAY x).setIfInBounds 8 (.int .i64 v)=zAY {x with spot:=v}:=rfl
theorem zMY (x:InstD) (s:Nat→Nat):zCc (zAY x) 1 (setC s).toList=zAY {x with set:=s}:=rfl
theorem zQq (x:InstD) (n:Nat) (w0:World) (hn:0<n) (hn2:n≤1000000):Calls Tryz.prog 33 #[zAu x,.int .i64 n] w0 (Rt (.tuple #[zAu (zD1 n x).1,.bool (zD1 n x).2]) w0):=by
 have H:=Hold.start w0
 by_cases k1:x.kind=1
 ·have d1:(x.kind == 1)=true:=by rw[beq_iff_eq];exact k1
  have E:=Lib.hid (show zD1 n x=({kind:=x.kind,set:=x.set,next:=zA6 n x.next},!eqS x.set zAE) by unfold zD1;rw[if_pos k1])
  clear k1
  go_enter Tryz.func33,Tryz.ntmps33
  go_upto_region 1 with (first|((first|((with_reducible refine kgA 2 ?_);refine kA 2 H ?_)|((with_reducible refine kgX 2 ?_);(first|refine kS 2 H ?_|refine kB 2 H ?_)));clear H;intro b2 w H;try simp only[nr]at H)|((first|((with_reducible refine kgA 3 ?_);refine kA 3 H ?_)|((with_reducible refine kgX 3 ?_);(first|refine kS 3 H ?_|refine kB 3 H ?_)));clear H;intro b3 w H;try simp only[nr]at H)|((first|((with_reducible refine kgA 4 ?_);refine kA 4 H ?_)|((with_reducible refine kgX 4 ?_);(first|refine kS 4 H ?_|refine kB 4 H ?_)));clear H;intro b4 w H;try simp only[nr]at H)|fail)
  rw[zIr]at H
  try simp only[Value.cells]at H
  go_upto_region 6 with (first|((with_reducible refine gT ?_);refine zAQ wtd_ _ _ _ rfl rfl evd_ H (i:=2) i_2 rfl (by show 0<9;omega) (by first|(with_reducible exact zAI zAH)|(with_reducible exact zAI zAd)|(with_reducible exact zAI zBC)) ?_;clear H;intro w H;(rw[zCi]at H);simp only[sc]at H)|((with_reducible refine gL ?_);refine aGi H ?_))
  refine zAr 7 [fun u _=>u=pt b2 1,fun u _=>u=setV x.set,fun u _=>u=.func (.func 72) #[] #[.pointer (some ⟨b3,0,none⟩)],fun u _=>u=pt b2 5,fun u _=>u=.int .i64 (x.next),fun u _=>u=.int .i64 (zA6 n (x.next)),fun u _=>u=pt b4 1] (fun _=>false) (by kernel_rfl) (by kernel_rfl) (by kernel_rfl) ⟨zAF _,zAF _,zAF _,zAF _,zAF _,zAF _,zAF _,trivial⟩ (fun _ _ h=>by cases h) ?ob ?en
  case ob =>
   refine⟨?_,?_,?_,?_,?_,?_,?_,trivial⟩<;>intro A W h
   ·(have e:A.eval (.tmp 2)=.pointer (some ⟨b2,0,none⟩):=h.f 2;refine zAA rfl ?_ (by decide);simp only[execOp,e];simp[go_sem])
   ·exact zAA rfl (zAb rfl (h.d 0 16) zBY rfl (fun j hj=>by have h1:=(H.call h.below).cell (i:=0) .zero (1+j);rcases j with _|_|_|_|j<;>first|exact h1|omega)) (by decide)
   ·exact zAB rfl rfl (h.f 6) (by decide)
   ·(have e:A.eval (.tmp 2)=.pointer (some ⟨b2,0,none⟩):=h.f 2;refine zAA rfl ?_ (by decide);simp only[execOp,e];simp[go_sem])
   ·exact zAA rfl (zAC rfl (h.d 3 19) zAH ((H.call h.below).cell (i:=0) .zero 5)) (by decide)
   ·exact zFh rfl rfl (enters_of Tryz.func72 (by kernel_rfl) rfl) (h.d 2 18) (h.d 4 20) (zEX _ n b3 W hn hn2 ((H.call h.below).cell (i:=1) i_1 0)) (by decide)
   ·(have e:A.eval (.tmp 4)=.pointer (some ⟨b4,0,none⟩):=h.f 4;refine zAA rfl ?_ (by decide);simp only[execOp,e];simp[go_sem])
  case en =>
   intro vals W hbw hv _;have v0:vals 0=.pointer (some ⟨b2,1,none⟩):=hv 0 (by omega)
   have v1:vals 1=setV x.set:=hv 1 (by omega)
   have v2:vals 2=.func (.func 72) #[] #[.pointer (some ⟨b3,0,none⟩)]:=hv 2 (by omega)
   have v3:vals 3=.pointer (some ⟨b2,5,none⟩):=hv 3 (by omega)
   have v4:vals 4=.int .i64 (x.next):=hv 4 (by omega)
   have v5:vals 5=.int .i64 (zA6 n (x.next)):=hv 5 (by omega)
   have v6:vals 6=.pointer (some ⟨b4,1,none⟩):=hv 6 (by omega)
   simp only[fa,Nat.reduceAdd];rw[v0,v1,v2,v3,v4,v5,v6];clear hv v0 v1 v2 v3 v4 v5 v6;simp only[pl];replace H:=H.call hbw
   go_upto_region 7 with (first|((with_reducible refine gT ?_);refine zEr wtd_ _ _ _ rfl rfl (vs:=setC x.set) evd_ H (i:=2) i_2 (zBG zBY) rfl rfl (by show 1+4≤9;omega) ?_;clear H;intro w H;(rw[zMY]at H);simp only[sc]at H)|((with_reducible refine gT ?_);refine zAQ wtd_ _ _ _ rfl rfl evd_ H (i:=2) i_2 rfl (by show 5<9;omega) (by first|(with_reducible exact zAI zAH)|(with_reducible exact zAI zAd)|(with_reducible exact zAI zBC)) ?_;clear H;intro w H;(rw[zDn]at H);simp only[sc]at H)|fail)
   have hS:∀ W,RelS b4 (zAY {kind:=x.kind,set:=x.set,next:=zA6 n x.next}) 43 w W→∃ ds,ds.size=9∧Hold w0 W [.blk b2 (zAY x) 43,.blk b3 #[.int .i64 n] 3,.blk b4 ds 43]∧ds=zAY {kind:=x.kind,set:=x.set,next:=zA6 n x.next}:=fun W hr=>by
    obtain⟨ds,hds,H2⟩:=H.relS (i:=2) i_2 hr;exact⟨ds,by rcases hds with rfl|rfl<;>rfl,H2,by rcases hds with rfl|rfl<;>rfl⟩
   refine zCb (RelS b4 (zAY {kind:=x.kind,set:=x.set,next:=zA6 n x.next}) 43) RelS.refl RelS.trans RelS.drew 6 [fun u _=>u=zAu {kind:=x.kind,set:=x.set,next:=zA6 n x.next},fun u _=>u=pt b2 1,fun u _=>u=setV x.set,fun u _=>u=setV zAE,fun u _=>u=.bool (!(eqS x.set zAE)),zKB b4 (zAY {kind:=x.kind,set:=x.set,next:=zA6 n x.next}) 43]
    ⟨zAi _,zAi _,zAi _,zAi _,zAi _,zDX,trivial⟩ (by kernel_rfl) (by kernel_rfl) (by kernel_rfl) ?ob ?en
   case ob =>
    refine⟨?_,?_,?_,?_,?_,?_,trivial⟩<;>intro A W h
    ·obtain⟨ds,_,H2,rfl⟩:=hS W h.rel;exact zDB rfl (zAM RelS.refl rfl (zAb rfl (h.f 4) zAk rfl (fun k _=>by rw[Nat.zero_add];exact H2.cell (i:=2) i_2 k)))
    ·(have e:A.eval (.tmp 2)=.pointer (some ⟨b2,0,none⟩):=h.f 2;refine zDB rfl (zAM RelS.refl rfl ?_);simp only[execOp,e];simp[go_sem])
    ·obtain⟨ds,_,H2,rfl⟩:=hS W h.rel;exact zDB rfl (zAM RelS.refl rfl (zAb rfl (h.d 1 25) zBY rfl (fun j hj=>by have h1:=H2.cell (i:=0) .zero (1+j);rcases j with _|_|_|_|j<;>first|exact h1|omega)))
    ·exact zDB rfl (zAM RelS.refl rfl (zLg rfl))
    ·exact zDB rfl (zAM RelS.refl rfl (zOg rfl (h.d 2 26) (h.d 3 27)))
    ·obtain⟨ds,hsz,H2,_⟩:=hS W h.rel;exact zIL rfl rfl rfl (h.f 4) (H2.blk (i:=2) i_2).2 hsz (h.d 0 24) (zBG (n:=9) zAk) rfl
   case en =>
    intro vals W1 hrel hv hlk;have v0:vals 0=zAu {kind:=x.kind,set:=x.set,next:=zA6 n x.next}:=hv 0 (by omega)
    have v1:vals 1=.pointer (some ⟨b2,1,none⟩):=hv 1 (by omega)
    have v2:vals 2=setV x.set:=hv 2 (by omega)
    have v3:vals 3=setV zAE:=hv 3 (by omega)
    have v4:vals 4=.bool (!(eqS x.set zAE)):=hv 4 (by omega)
    have H2:=H.laidS (i:=2) i_2 hrel (hv 5 (by omega))
    simp only[fa,Nat.reduceAdd];rw[v0,v1,v2,v3,v4];clear hv v0 v1 v2 v3 v4 hlk hrel H hS;have H:=H2;clear H2;simp only[sc]at H;simp only[pl]
    go_wp2_with (first|fail)
    (refine zFf Tryz.results33 rfl (by first|rfl|(simp only[pl];rfl)) H (i:=2) i_2 zAk rfl rfl ?_)
    exact⟨by rw[E.out];rfl,H.below⟩
 have d1:(x.kind == 1)=false:=by rw[beq_eq_false_iff_ne];exact k1
 by_cases k2:x.kind=2
 ·have d2:(x.kind == 2)=true:=by rw[beq_iff_eq];exact k2
  have E:=Lib.hid (show zD1 n x=({kind:=x.kind,next:=zA6 n x.next,other:=zA6 n x.other},true) by unfold zD1;rw[if_neg k1,if_pos k2])
  clear k1 k2
  go_enter Tryz.func33,Tryz.ntmps33
  go_upto_region 1 with (first|((first|((with_reducible refine kgA 2 ?_);refine kA 2 H ?_)|((with_reducible refine kgX 2 ?_);(first|refine kS 2 H ?_|refine kB 2 H ?_)));clear H;intro b2 w H;try simp only[nr]at H)|((first|((with_reducible refine kgA 3 ?_);refine kA 3 H ?_)|((with_reducible refine kgX 3 ?_);(first|refine kS 3 H ?_|refine kB 3 H ?_)));clear H;intro b3 w H;try simp only[nr]at H)|((first|((with_reducible refine kgA 4 ?_);refine kA 4 H ?_)|((with_reducible refine kgX 4 ?_);(first|refine kS 4 H ?_|refine kB 4 H ?_)));clear H;intro b4 w H;try simp only[nr]at H)|fail)
  rw[zIr]at H
  try simp only[Value.cells]at H
  go_upto_region 9 with (first|((with_reducible refine gT ?_);refine zAQ wtd_ _ _ _ rfl rfl evd_ H (i:=2) i_2 rfl (by show 0<9;omega) (by first|(with_reducible exact zAI zAH)|(with_reducible exact zAI zAd)|(with_reducible exact zAI zBC)) ?_;clear H;intro w H;(rw[zCi]at H);simp only[sc]at H)|((with_reducible refine gL ?_);refine aGi H ?_))
  refine zAr 9 [fun u _=>u=.func (.func 72) #[] #[.pointer (some ⟨b3,0,none⟩)],fun u _=>u=pt b2 5,fun u _=>u=.int .i64 (x.next),fun u _=>u=.int .i64 (zA6 n (x.next)),fun u _=>u=.func (.func 72) #[] #[.pointer (some ⟨b3,0,none⟩)],fun u _=>u=pt b2 6,fun u _=>u=.int .i64 (x.other),fun u _=>u=.int .i64 (zA6 n (x.other)),fun u _=>u=pt b4 5] (fun _=>false) (by kernel_rfl) (by kernel_rfl) (by kernel_rfl) ⟨zAF _,zAF _,zAF _,zAF _,zAF _,zAF _,zAF _,zAF _,zAF _,trivial⟩ (fun _ _ h=>by cases h) ?ob ?en
  case ob =>
   refine⟨?_,?_,?_,?_,?_,?_,?_,?_,?_,trivial⟩<;>intro A W h
   ·exact zAB rfl rfl (h.f 6) (by decide)
   ·(have e:A.eval (.tmp 2)=.pointer (some ⟨b2,0,none⟩):=h.f 2;refine zAA rfl ?_ (by decide);simp only[execOp,e];simp[go_sem])
   ·exact zAA rfl (zAC rfl (h.d 1 32) zAH ((H.call h.below).cell (i:=0) .zero 5)) (by decide)
   ·exact zFh rfl rfl (enters_of Tryz.func72 (by kernel_rfl) rfl) (h.d 0 31) (h.d 2 33) (zEX _ n b3 W hn hn2 ((H.call h.below).cell (i:=1) i_1 0)) (by decide)
   ·exact zAB rfl rfl (h.f 6) (by decide)
   ·(have e:A.eval (.tmp 2)=.pointer (some ⟨b2,0,none⟩):=h.f 2;refine zAA rfl ?_ (by decide);simp only[execOp,e];simp[go_sem])
   ·exact zAA rfl (zAC rfl (h.d 5 36) zAH ((H.call h.below).cell (i:=0) .zero 6)) (by decide)
   ·exact zFh rfl rfl (enters_of Tryz.func72 (by kernel_rfl) rfl) (h.d 4 35) (h.d 6 37) (zEX _ n b3 W hn hn2 ((H.call h.below).cell (i:=1) i_1 0)) (by decide)
   ·(have e:A.eval (.tmp 4)=.pointer (some ⟨b4,0,none⟩):=h.f 4;refine zAA rfl ?_ (by decide);simp only[execOp,e];simp[go_sem])
  case en =>
   intro vals W hbw hv _;have v0:vals 0=.func (.func 72) #[] #[.pointer (some ⟨b3,0,none⟩)]:=hv 0 (by omega)
   have v1:vals 1=.pointer (some ⟨b2,5,none⟩):=hv 1 (by omega)
   have v2:vals 2=.int .i64 (x.next):=hv 2 (by omega)
   have v3:vals 3=.int .i64 (zA6 n (x.next)):=hv 3 (by omega)
   have v4:vals 4=.func (.func 72) #[] #[.pointer (some ⟨b3,0,none⟩)]:=hv 4 (by omega)
   have v5:vals 5=.pointer (some ⟨b2,6,none⟩):=hv 5 (by omega)
   have v6:vals 6=.int .i64 (x.other):=hv 6 (by omega)
   have v7:vals 7=.int .i64 (zA6 n (x.other)):=hv 7 (by omega)
   have v8:vals 8=.pointer (some ⟨b4,5,none⟩):=hv 8 (by omega)
   simp only[fa,Nat.reduceAdd];rw[v0,v1,v2,v3,v4,v5,v6,v7,v8];clear hv v0 v1 v2 v3 v4 v5 v6 v7 v8;simp only[pl];replace H:=H.call hbw
   go_wp2_with (first|((with_reducible refine gT ?_);refine zAQ wtd_ _ _ _ rfl rfl evd_ H (i:=2) i_2 rfl (by show 5<9;omega) (by first|(with_reducible exact zAI zAH)|(with_reducible exact zAI zAd)|(with_reducible exact zAI zBC)) ?_;clear H;intro w H;(rw[zDn]at H);simp only[sc]at H)|((with_reducible refine gT ?_);refine zAQ wtd_ _ _ _ rfl rfl evd_ H (i:=2) i_2 rfl (by show 6<9;omega) (by first|(with_reducible exact zAI zAH)|(with_reducible exact zAI zAd)|(with_reducible exact zAI zBC)) ?_;clear H;intro w H;(rw[zLy]at H);simp only[sc]at H)|(first|((with_reducible refine gTi ?_);refine aTi H ?_;clear H;intro w H;try simp only[nr]at H)|((with_reducible refine gLi ?_);refine aLi H ?_)))
   (refine zFf Tryz.results33 rfl (by first|rfl|(simp only[pl];rfl)) H (i:=2) i_2 zAk rfl rfl ?_)
   exact⟨by rw[E.out];rfl,H.below⟩
 have d2:(x.kind == 2)=false:=by rw[beq_eq_false_iff_ne];exact k2
 by_cases k3:x.kind=3
 ·have d3:(x.kind == 3)=true:=by rw[beq_iff_eq];exact k3
  have E:=Lib.hid (show zD1 n x=({kind:=x.kind,slot:=min (max x.slot 0) 41,next:=zA6 n x.next},true) by unfold zD1;rw[if_neg k1,if_neg k2,if_pos k3])
  clear k1 k2 k3
  go_enter Tryz.func33,Tryz.ntmps33
  go_upto_region 1 with (first|((first|((with_reducible refine kgA 2 ?_);refine kA 2 H ?_)|((with_reducible refine kgX 2 ?_);(first|refine kS 2 H ?_|refine kB 2 H ?_)));clear H;intro b2 w H;try simp only[nr]at H)|((first|((with_reducible refine kgA 3 ?_);refine kA 3 H ?_)|((with_reducible refine kgX 3 ?_);(first|refine kS 3 H ?_|refine kB 3 H ?_)));clear H;intro b3 w H;try simp only[nr]at H)|((first|((with_reducible refine kgA 4 ?_);refine kA 4 H ?_)|((with_reducible refine kgX 4 ?_);(first|refine kS 4 H ?_|refine kB 4 H ?_)));clear H;intro b4 w H;try simp only[nr]at H)|fail)
  rw[zIr]at H
  try simp only[Value.cells]at H
  go_upto_region 11 with (first|((with_reducible refine gT ?_);refine zAQ wtd_ _ _ _ rfl rfl evd_ H (i:=2) i_2 rfl (by show 0<9;omega) (by first|(with_reducible exact zAI zAH)|(with_reducible exact zAI zAd)|(with_reducible exact zAI zBC)) ?_;clear H;intro w H;(rw[zCi]at H);simp only[sc]at H)|((with_reducible refine gL ?_);refine aGi H ?_))
  refine zAr 9 [fun u _=>u=pt b2 7,fun u _=>u=.int .i64 (x.slot),fun u _=>u=.int .i64 (max (x.slot) 0),fun u _=>u=.int .i64 (min (max x.slot 0) 41),fun u _=>u=.func (.func 72) #[] #[.pointer (some ⟨b3,0,none⟩)],fun u _=>u=pt b2 5,fun u _=>u=.int .i64 (x.next),fun u _=>u=.int .i64 (zA6 n (x.next)),fun u _=>u=pt b4 7] (fun _=>false) (by kernel_rfl) (by kernel_rfl) (by kernel_rfl) ⟨zAF _,zAF _,zAF _,zAF _,zAF _,zAF _,zAF _,zAF _,zAF _,trivial⟩ (fun _ _ h=>by cases h) ?ob ?en
  case ob =>
   refine⟨?_,?_,?_,?_,?_,?_,?_,?_,?_,trivial⟩<;>intro A W h
   ·(have e:A.eval (.tmp 2)=.pointer (some ⟨b2,0,none⟩):=h.f 2;refine zAA rfl ?_ (by decide);simp only[execOp,e];simp[go_sem])
   ·exact zAA rfl (zAC rfl (h.d 0 43) zAH ((H.call h.below).cell (i:=0) .zero 7)) (by decide)
   ·exact zAA rfl (zLT rfl (h.d 1 44) rfl) (by decide)
   ·exact zAA rfl (zLN rfl (h.d 2 45) rfl) (by decide)
   ·exact zAB rfl rfl (h.f 6) (by decide)
   ·(have e:A.eval (.tmp 2)=.pointer (some ⟨b2,0,none⟩):=h.f 2;refine zAA rfl ?_ (by decide);simp only[execOp,e];simp[go_sem])
   ·exact zAA rfl (zAC rfl (h.d 5 48) zAH ((H.call h.below).cell (i:=0) .zero 5)) (by decide)
   ·exact zFh rfl rfl (enters_of Tryz.func72 (by kernel_rfl) rfl) (h.d 4 47) (h.d 6 49) (zEX _ n b3 W hn hn2 ((H.call h.below).cell (i:=1) i_1 0)) (by decide)
   ·(have e:A.eval (.tmp 4)=.pointer (some ⟨b4,0,none⟩):=h.f 4;refine zAA rfl ?_ (by decide);simp only[execOp,e];simp[go_sem])
  case en =>
   intro vals W hbw hv _;have v0:vals 0=.pointer (some ⟨b2,7,none⟩):=hv 0 (by omega)
   have v1:vals 1=.int .i64 (x.slot):=hv 1 (by omega)
   have v2:vals 2=.int .i64 (max (x.slot) 0):=hv 2 (by omega)
   have v3:vals 3=.int .i64 (min (max x.slot 0) 41):=hv 3 (by omega)
   have v4:vals 4=.func (.func 72) #[] #[.pointer (some ⟨b3,0,none⟩)]:=hv 4 (by omega)
   have v5:vals 5=.pointer (some ⟨b2,5,none⟩):=hv 5 (by omega)
   have v6:vals 6=.int .i64 (x.next):=hv 6 (by omega)
   have v7:vals 7=.int .i64 (zA6 n (x.next)):=hv 7 (by omega)
   have v8:vals 8=.pointer (some ⟨b4,7,none⟩):=hv 8 (by omega)
   simp only[fa,Nat.reduceAdd];rw[v0,v1,v2,v3,v4,v5,v6,v7,v8];clear hv v0 v1 v2 v3 v4 v5 v6 v7 v8;simp only[pl];replace H:=H.call hbw
   go_wp2_with (first|((with_reducible refine gT ?_);refine zAQ wtd_ _ _ _ rfl rfl evd_ H (i:=2) i_2 rfl (by show 7<9;omega) (by first|(with_reducible exact zAI zAH)|(with_reducible exact zAI zAd)|(with_reducible exact zAI zBC)) ?_;clear H;intro w H;(rw[zL2]at H);simp only[sc]at H)|((with_reducible refine gT ?_);refine zAQ wtd_ _ _ _ rfl rfl evd_ H (i:=2) i_2 rfl (by show 5<9;omega) (by first|(with_reducible exact zAI zAH)|(with_reducible exact zAI zAd)|(with_reducible exact zAI zBC)) ?_;clear H;intro w H;(rw[zDn]at H);simp only[sc]at H)|(first|((with_reducible refine gTi ?_);refine aTi H ?_;clear H;intro w H;try simp only[nr]at H)|((with_reducible refine gLi ?_);refine aLi H ?_)))
   (refine zFf Tryz.results33 rfl (by first|rfl|(simp only[pl];rfl)) H (i:=2) i_2 zAk rfl rfl ?_)
   exact⟨by rw[E.out];rfl,H.below⟩
 have d3:(x.kind == 3)=false:=by rw[beq_eq_false_iff_ne];exact k3
 by_cases k4:x.kind=4
 ·have d4:(x.kind == 4)=true:=by rw[beq_iff_eq];exact k4
  have E:=Lib.hid (show zD1 n x=({kind:=x.kind,spot:=min (max x.spot 8) 13,next:=zA6 n x.next},true) by unfold zD1;rw[if_neg k1,if_neg k2,if_neg k3,if_pos k4])
  clear k1 k2 k3 k4
  go_enter Tryz.func33,Tryz.ntmps33
  go_upto_region 1 with (first|((first|((with_reducible refine kgA 2 ?_);refine kA 2 H ?_)|((with_reducible refine kgX 2 ?_);(first|refine kS 2 H ?_|refine kB 2 H ?_)));clear H;intro b2 w H;try simp only[nr]at H)|((first|((with_reducible refine kgA 3 ?_);refine kA 3 H ?_)|((with_reducible refine kgX 3 ?_);(first|refine kS 3 H ?_|refine kB 3 H ?_)));clear H;intro b3 w H;try simp only[nr]at H)|((first|((with_reducible refine kgA 4 ?_);refine kA 4 H ?_)|((with_reducible refine kgX 4 ?_);(first|refine kS 4 H ?_|refine kB 4 H ?_)));clear H;intro b4 w H;try simp only[nr]at H)|fail)
  rw[zIr]at H
  try simp only[Value.cells]at H
  go_upto_region 13 with (first|((with_reducible refine gT ?_);refine zAQ wtd_ _ _ _ rfl rfl evd_ H (i:=2) i_2 rfl (by show 0<9;omega) (by first|(with_reducible exact zAI zAH)|(with_reducible exact zAI zAd)|(with_reducible exact zAI zBC)) ?_;clear H;intro w H;(rw[zCi]at H);simp only[sc]at H)|((with_reducible refine gL ?_);refine aGi H ?_))
  refine zAr 9 [fun u _=>u=pt b2 8,fun u _=>u=.int .i64 (x.spot),fun u _=>u=.int .i64 (max (x.spot) 8),fun u _=>u=.int .i64 (min (max x.spot 8) 13),fun u _=>u=.func (.func 72) #[] #[.pointer (some ⟨b3,0,none⟩)],fun u _=>u=pt b2 5,fun u _=>u=.int .i64 (x.next),fun u _=>u=.int .i64 (zA6 n (x.next)),fun u _=>u=pt b4 8] (fun _=>false) (by kernel_rfl) (by kernel_rfl) (by kernel_rfl) ⟨zAF _,zAF _,zAF _,zAF _,zAF _,zAF _,zAF _,zAF _,zAF _,trivial⟩ (fun _ _ h=>by cases h) ?ob ?en
  case ob =>
   refine⟨?_,?_,?_,?_,?_,?_,?_,?_,?_,trivial⟩<;>intro A W h
   ·(have e:A.eval (.tmp 2)=.pointer (some ⟨b2,0,none⟩):=h.f 2;refine zAA rfl ?_ (by decide);simp only[execOp,e];simp[go_sem])
   ·exact zAA rfl (zAC rfl (h.d 0 55) zAd ((H.call h.below).cell (i:=0) .zero 8)) (by decide)
   ·exact zAA rfl (zLT rfl (h.d 1 56) rfl) (by decide)
   ·exact zAA rfl (zLN rfl (h.d 2 57) rfl) (by decide)
   ·exact zAB rfl rfl (h.f 6) (by decide)
   ·(have e:A.eval (.tmp 2)=.pointer (some ⟨b2,0,none⟩):=h.f 2;refine zAA rfl ?_ (by decide);simp only[execOp,e];simp[go_sem])
   ·exact zAA rfl (zAC rfl (h.d 5 60) zAH ((H.call h.below).cell (i:=0) .zero 5)) (by decide)
   ·exact zFh rfl rfl (enters_of Tryz.func72 (by kernel_rfl) rfl) (h.d 4 59) (h.d 6 61) (zEX _ n b3 W hn hn2 ((H.call h.below).cell (i:=1) i_1 0)) (by decide)
   ·(have e:A.eval (.tmp 4)=.pointer (some ⟨b4,0,none⟩):=h.f 4;refine zAA rfl ?_ (by decide);simp only[execOp,e];simp[go_sem])
  case en =>
   intro vals W hbw hv _;have v0:vals 0=.pointer (some ⟨b2,8,none⟩):=hv 0 (by omega)
   have v1:vals 1=.int .i64 (x.spot):=hv 1 (by omega)
   have v2:vals 2=.int .i64 (max (x.spot) 8):=hv 2 (by omega)
   have v3:vals 3=.int .i64 (min (max x.spot 8) 13):=hv 3 (by omega)
   have v4:vals 4=.func (.func 72) #[] #[.pointer (some ⟨b3,0,none⟩)]:=hv 4 (by omega)
   have v5:vals 5=.pointer (some ⟨b2,5,none⟩):=hv 5 (by omega)
   have v6:vals 6=.int .i64 (x.next):=hv 6 (by omega)
   have v7:vals 7=.int .i64 (zA6 n (x.next)):=hv 7 (by omega)
   have v8:vals 8=.pointer (some ⟨b4,8,none⟩):=hv 8 (by omega)
   simp only[fa,Nat.reduceAdd];rw[v0,v1,v2,v3,v4,v5,v6,v7,v8];clear hv v0 v1 v2 v3 v4 v5 v6 v7 v8;simp only[pl];replace H:=H.call hbw
   go_wp2_with (first|((with_reducible refine gT ?_);refine zAQ wtd_ _ _ _ rfl rfl evd_ H (i:=2) i_2 rfl (by show 8<9;omega) (by first|(with_reducible exact zAI zAH)|(with_reducible exact zAI zAd)|(with_reducible exact zAI zBC)) ?_;clear H;intro w H;(rw[zL9]at H);simp only[sc]at H)|((with_reducible refine gT ?_);refine zAQ wtd_ _ _ _ rfl rfl evd_ H (i:=2) i_2 rfl (by show 5<9;omega) (by first|(with_reducible exact zAI zAH)|(with_reducible exact zAI zAd)|(with_reducible exact zAI zBC)) ?_;clear H;intro w H;(rw[zDn]at H);simp only[sc]at H)|(first|((with_reducible refine gTi ?_);refine aTi H ?_;clear H;intro w H;try simp only[nr]at H)|((with_reducible refine gLi ?_);refine aLi H ?_)))
   (refine zFf Tryz.results33 rfl (by first|rfl|(simp only[pl];rfl)) H (i:=2) i_2 zAk rfl rfl ?_)
   exact⟨by rw[E.out];rfl,H.below⟩
 have d4:(x.kind == 4)=false:=by rw[beq_eq_false_iff_ne];exact k4
 by_cases k5:x.kind=5
 ·have d5:(x.kind == 5)=true:=by rw[beq_iff_eq];exact k5
  have E:=Lib.hid (show zD1 n x=({kind:=x.kind},true) by unfold zD1;rw[if_neg k1,if_neg k2,if_neg k3,if_neg k4,if_pos (.inl k5)])
  clear k1 k2 k3 k4 k5
  go_enter Tryz.func33,Tryz.ntmps33
  go_upto_region 1 with (first|((first|((with_reducible refine kgA 2 ?_);refine kA 2 H ?_)|((with_reducible refine kgX 2 ?_);(first|refine kS 2 H ?_|refine kB 2 H ?_)));clear H;intro b2 w H;try simp only[nr]at H)|((first|((with_reducible refine kgA 3 ?_);refine kA 3 H ?_)|((with_reducible refine kgX 3 ?_);(first|refine kS 3 H ?_|refine kB 3 H ?_)));clear H;intro b3 w H;try simp only[nr]at H)|((first|((with_reducible refine kgA 4 ?_);refine kA 4 H ?_)|((with_reducible refine kgX 4 ?_);(first|refine kS 4 H ?_|refine kB 4 H ?_)));clear H;intro b4 w H;try simp only[nr]at H)|fail)
  rw[zIr]at H
  try simp only[Value.cells]at H
  go_wp2_with (first|((with_reducible refine gT ?_);refine zAQ wtd_ _ _ _ rfl rfl evd_ H (i:=2) i_2 rfl (by show 0<9;omega) (by first|(with_reducible exact zAI zAH)|(with_reducible exact zAI zAd)|(with_reducible exact zAI zBC)) ?_;clear H;intro w H;(rw[zCi]at H);simp only[sc]at H)|(first|((with_reducible refine gTi ?_);refine aTi H ?_;clear H;intro w H;try simp only[nr]at H)|((with_reducible refine gLi ?_);refine aLi H ?_)|((with_reducible refine gL ?_);refine aGi H ?_)))
  (refine zFf Tryz.results33 rfl (by first|rfl|(simp only[pl];rfl)) H (i:=2) i_2 zAk rfl rfl ?_)
  exact⟨by rw[E.out];rfl,H.below⟩
 have d5:(x.kind == 5)=false:=by rw[beq_eq_false_iff_ne];exact k5
 by_cases k6:x.kind=6
 ·have d6:(x.kind == 6)=true:=by rw[beq_iff_eq];exact k6
  have E:=Lib.hid (show zD1 n x=({kind:=x.kind},true) by unfold zD1;rw[if_neg k1,if_neg k2,if_neg k3,if_neg k4,if_pos (.inr k6)])
  clear k1 k2 k3 k4 k5 k6
  go_enter Tryz.func33,Tryz.ntmps33
  go_upto_region 1 with (first|((first|((with_reducible refine kgA 2 ?_);refine kA 2 H ?_)|((with_reducible refine kgX 2 ?_);(first|refine kS 2 H ?_|refine kB 2 H ?_)));clear H;intro b2 w H;try simp only[nr]at H)|((first|((with_reducible refine kgA 3 ?_);refine kA 3 H ?_)|((with_reducible refine kgX 3 ?_);(first|refine kS 3 H ?_|refine kB 3 H ?_)));clear H;intro b3 w H;try simp only[nr]at H)|((first|((with_reducible refine kgA 4 ?_);refine kA 4 H ?_)|((with_reducible refine kgX 4 ?_);(first|refine kS 4 H ?_|refine kB 4 H ?_)));clear H;intro b4 w H;try simp only[nr]at H)|fail)
  rw[zIr]at H
  try simp only[Value.cells]at H
  go_wp2_with (first|((with_reducible refine gT ?_);refine zAQ wtd_ _ _ _ rfl rfl evd_ H (i:=2) i_2 rfl (by show 0<9;omega) (by first|(with_reducible exact zAI zAH)|(with_reducible exact zAI zAd)|(with_reducible exact zAI zBC)) ?_;clear H;intro w H;(rw[zCi]at H);simp only[sc]at H)|(first|((with_reducible refine gTi ?_);refine aTi H ?_;clear H;intro w H;try simp only[nr]at H)|((with_reducible refine gLi ?_);refine aLi H ?_)|((with_reducible refine gL ?_);refine aGi H ?_)))
  (refine zFf Tryz.results33 rfl (by first|rfl|(simp only[pl];rfl)) H (i:=2) i_2 zAk rfl rfl ?_)
  exact⟨by rw[E.out];rfl,H.below⟩
 ·have d6:(x.kind == 6)=false:=by rw[beq_eq_false_iff_ne];exact k6
  have E:=Lib.hid (show zD1 n x=({kind:=x.kind},false) by unfold zD1;rw[if_neg k1,if_neg k2,if_neg k3,if_neg k4,if_neg (fun h=>h.elim k5 k6)])
  clear k1 k2 k3 k4 k5 k6
  go_enter Tryz.func33,Tryz.ntmps33
  go_upto_region 1 with (first|((first|((with_reducible refine kgA 2 ?_);refine kA 2 H ?_)|((with_reducible refine kgX 2 ?_);(first|refine kS 2 H ?_|refine kB 2 H ?_)));clear H;intro b2 w H;try simp only[nr]at H)|((first|((with_reducible refine kgA 3 ?_);refine kA 3 H ?_)|((with_reducible refine kgX 3 ?_);(first|refine kS 3 H ?_|refine kB 3 H ?_)));clear H;intro b3 w H;try simp only[nr]at H)|((first|((with_reducible refine kgA 4 ?_);refine kA 4 H ?_)|((with_reducible refine kgX 4 ?_);(first|refine kS 4 H ?_|refine kB 4 H ?_)));clear H;intro b4 w H;try simp only[nr]at H)|fail)
  rw[zIr]at H
  try simp only[Value.cells]at H
  go_wp2_with (first|((with_reducible refine gT ?_);refine zAQ wtd_ _ _ _ rfl rfl evd_ H (i:=2) i_2 rfl (by show 0<9;omega) (by first|(with_reducible exact zAI zAH)|(with_reducible exact zAI zAd)|(with_reducible exact zAI zBC)) ?_;clear H;intro w H;(rw[zCi]at H);simp only[sc]at H)|(first|((with_reducible refine gTi ?_);refine aTi H ?_;clear H;intro w H;try simp only[nr]at H)|((with_reducible refine gLi ?_);refine aLi H ?_)|((with_reducible refine gL ?_);refine aGi H ?_)))
  (refine zFf Tryz.results33 rfl (by first|rfl|(simp only[pl];rfl)) H (i:=2) i_2 zAk rfl rfl ?_)
  exact⟨by rw[E.out];rfl,H.below⟩
section
variable {M:Nat→Prop} {ops:Array Oper} {dst:Option Tmp} {ty:TypeId} {pos:String} {aft:Array Edge} {grd:Option (Nat × Bool)} {rest:List Oper} {a:Act} {w w0:World} {l:List Res} {Q:Exit→Act→World→Prop}
theorem gNI {U:TypeId} {x y:Operand} (h:wpList Tryz.prog ops Q ((⟨dst,.binOp .neq 43 x y U,ty,pos,aft,grd⟩:Oper)::rest) a w):wpList Tryz.prog ops Q ((⟨dst,.binOp .neq 43 x y U,ty,pos,aft,grd⟩:Oper)::rest) a w:=h
theorem nI {U:TypeId} {x y:Operand} {d e:InstD} (h:wpList Tryz.prog ops Q rest (a.put dst (.bool (!(eqI d e)))) w) (hg:Region.wanted (⟨dst,.binOp .neq 43 x y U,ty,pos,aft,grd⟩:Oper) (yielded ops a.tmps)=true:=by first|rfl|exact zAO rfl (zAG rfl (by first|rfl|(simp only[pe];rfl)))) (hx:a.eval x=zAu d:=by first|(simp only[pe];done)|(simp only[pe];rfl)) (hy:a.eval y=zAu e:=by first|(simp only[pe];done)|(simp only[pe];rfl)):wpList Tryz.prog ops Q ((⟨dst,.binOp .neq 43 x y U,ty,pos,aft,grd⟩:Oper)::rest) a w :=
 zAZ hg (zQX rfl hx hy) h
end
theorem zNF (x:InstD) (q:Option Addr) (n c b:Nat) (w0:World) (hn:0<n) (hn2:n≤1000000) (hlt:b<w0.heap.size) (hb:w0.cell? ⟨b,0,none⟩=some (.slice q n c)):Calls Tryz.prog 32 #[zAu x,.pointer (some ⟨b,0,none⟩)] w0 (Rt (.bool (!(zBa n x))) w0):=by
 have H:=(Hold.start w0).know (·=b) (fun V=>V.cell? ⟨b,0,none⟩=some (.slice q n c)) (fun _ h=>by omega) (fun i r h=>by simp at h) (fun V hV=>by rw[← hb];simp[World.cell?,hV b rfl])
 simp only[List.nil_append]at H;have hba:=fun w=>zQq x n w hn hn2
 have E:=Lib.hid (zLs n hn x)
 cases hz:(zD1 n x).2 with
 | true =>
  rw[hz]at hba
  go_enter Tryz.func32,Tryz.ntmps32
  go_wp2_with (first|((with_reducible refine gNI ?_);refine nI ?_)|((with_reducible refine gL ?_);refine zAJ wtd_ _ _ rfl rfl zB7 (H.kn (i:=0) .zero) ?_)|(first|((with_reducible refine gTi ?_);refine aTi H ?_;clear H;intro w H;try simp only[nr]at H)|((with_reducible refine gLi ?_);refine aLi H ?_)|((with_reducible refine gX ?_);(refine bB H ?_;clear H;intro b w H;try simp only[nr]at H))|((with_reducible refine gA ?_);(refine bA H ?_;clear H;intro b w H;try simp only[nr]at H)))|((with_reducible refine ch (hba _) H ?_);clear H;intro w H))
  go_ret;refine⟨?_,H.below⟩;rw[← E.out,hz];rfl
 | false =>
  rw[hz]at hba
  go_enter Tryz.func32,Tryz.ntmps32
  go_wp2_with (first|((with_reducible refine gL ?_);refine zAJ wtd_ _ _ rfl rfl zB7 (H.kn (i:=0) .zero) ?_)|(first|((with_reducible refine gTi ?_);refine aTi H ?_;clear H;intro w H;try simp only[nr]at H)|((with_reducible refine gLi ?_);refine aLi H ?_)|((with_reducible refine gX ?_);(refine bB H ?_;clear H;intro b w H;try simp only[nr]at H))|((with_reducible refine gA ?_);(refine bA H ?_;clear H;intro b w H;try simp only[nr]at H)))|((with_reducible refine ch (hba _) H ?_);clear H;intro w H))
  go_ret;refine⟨?_,H.below⟩;rw[← E.out,hz];rfl
theorem zNW (p q:Option Addr) (c cq b:Nat) (xs:List InstD) (F:Nat→Prop) (w0:World) (hn:0<xs.length) (hn2:xs.length≤1000000) (hF:∀ b,F b→b<w0.heap.size) (h:InstsR F p c xs w0) (hlt:b<w0.heap.size) (hb:w0.cell? ⟨b,0,none⟩=some (.slice q xs.length cq)) :
  Calls Tryz.prog 71 #[.slice p xs.length c,.func (.func 32) #[] #[.pointer (some ⟨b,0,none⟩)]] w0 fun e w'=>∃ r:Int,e=.returned (.int .i64 r)∧decide (0≤r)=!(xs.all (zBa xs.length))∧Below w0.heap.size w0 w':=by
 have hc:=h.bound;have hp:=h.at;have H:=Hold.insts hF h
 replace H:=H.know (·=b) (fun V=>V.cell? ⟨b,0,none⟩=some (.slice q xs.length cq)) (fun _ h=>by omega) (fun i r h=>by
  rcases i with _|i
  ·simp at h;subst h;intro b hb;cases hb
  ·simp at h) (fun V hV=>by rw[← hb];simp[World.cell?,hV b rfl])
 simp only[ca]at H;clear h hb;obtain⟨n,hnn⟩:∃ n,xs.length=n:=⟨_,rfl⟩;rw[hnn]at hc hp hn hn2 H ⊢;have HN:=Lib.hid hnn;clear hnn;have hr1:=fun w x (hl:b<w.heap.size) (hb:w.cell? ⟨b,0,none⟩=some (.slice q n cq))=>zNF x q n cq b w hn hn2 hl hb
 go_enter Tryz.func71,Tryz.ntmps71
 go_wp2_with (first|fail)
 go_loopw [8] (fun ix wr=>∃ (j:Nat),j≤n∧ix=.int .i64 j∧Hid ((xs.take j).all (zBa n)=true)∧Hold w0 wr [.kn F (InstsR F p c xs),.kn (·=b) (fun V=>V.cell? ⟨b,0,none⟩=some (.slice q n cq))]) (fun ix _=>n+1 - (intOf ix).toNat)
 case atStart=>exact⟨0,by omega,rfl,Lib.hid rfl,H⟩
 case round =>
  clear H;obtain⟨j,hj,rfl,EA,H⟩:=hrel
  by_cases hlt:j<n
  ·have dj:decide ((j:Int)<(n:Int))=true:=by simp;omega
   obtain⟨x,hx⟩:∃ x,xs[j]?=some x:=⟨_,List.getElem?_eq_getElem (by rw[HN.out];exact hlt)⟩
   obtain⟨b1,off,rfl⟩:=hp (by omega)
   have hcell:∀ V,InstsR F (some ⟨b1,off,none⟩) c xs V→∀ k,k<9→V.cell? ⟨b1,off+j * 9+k,none⟩=(zAY x)[k]?:=fun V h=>h.cells hx rfl
   cases hr:zBa n x with
   | true =>
    have E:=Lib.hid (zJq hx EA.out hr);have hr2:=fun w (hl:b<w.heap.size) (hb:w.cell? ⟨b,0,none⟩=some (.slice q n cq))=>hr1 w x hl hb
    rw[hr]at hr2;clear hx hr EA hr1 hp
    go_wp2_with (first|((with_reducible refine gL ?_);refine zAS wtd_ _ _ rfl rfl zAk rfl (hcell _ (H.kn (i:=0) .zero)) ?_)|fail|(go_at_call 32;refine ch (hr2 _ (H.knlt (i:=1) i_1 b rfl) (H.kn (i:=1) i_1)) H ?_;clear H;intro w H))
    go_roundw
    case rel=>exact⟨j+1,by omega,by go_num,E,H⟩
    case measure=>simp[intOf];omega
   | false =>
    have E:=Lib.hid (show xs.all (zBa n)=false by rw[List.all_eq_false];exact⟨x,List.mem_of_getElem? hx,by rw[hr];decide⟩)
    have hr2:=fun w (hl:b<w.heap.size) (hb:w.cell? ⟨b,0,none⟩=some (.slice q n cq))=>hr1 w x hl hb
    rw[hr]at hr2;clear hx hr EA hr1 hp
    go_wp2_with (first|((with_reducible refine gL ?_);refine zAS wtd_ _ _ rfl rfl zAk rfl (hcell _ (H.kn (i:=0) .zero)) ?_)|fail|(go_at_call 32;refine ch (hr2 _ (H.knlt (i:=1) i_1 b rfl) (H.kn (i:=1) i_1)) H ?_;clear H;intro w H))
    go_ret;exact⟨j,rfl,by rw[E.out];simp,H.below⟩
  ·have hjn:j=n:=by omega
   have dj:decide ((j:Int)<(n:Int))=false:=by simp;omega
   have E:=Lib.hid (show xs.all (zBa n)=true by
    have h:=EA.out
    rwa [List.take_of_length_le (by rw[HN.out];omega)]at h)
   clear hp EA hjn hr1
   go_wp2_with (first|fail)
   go_ret;exact⟨-1,rfl,by rw[E.out];simp,H.below⟩
theorem chR {M:Nat→Prop} {P:Program} {f:FuncId} {args:Array Value} {w w0:World} {l:List Res} {D:Int→Prop} {R:Ending→World→Prop} (c:Calls P f args w fun e w'=>∃ r:Int,e=.returned (.int .i64 r)∧D r∧Below w.heap.size w w') (H:HoldG M w0 w l)
  (k:∀ r w',D r→HoldG M w0 w' l→R (.returned (.int .i64 r)) w'):Calls P f args w R:=c.mono fun _ w' ⟨r,e,hd,hb⟩=>by subst e;exact k r w' hd (H.call hb)
theorem zJx (p q:Option Addr) (c cq b:Nat) (xs:List InstD) (F:Nat→Prop) (w0:World) (hn:0<xs.length) (hn2:xs.length≤1000000) (hF:∀ b,F b→b<w0.heap.size) (h:InstsR F p c xs w0) (hlt:b<w0.heap.size) (hb:w0.cell? ⟨b,0,none⟩=some (.slice q xs.length cq)) :
  Calls Tryz.prog 31 #[.slice p xs.length c,.func (.func 32) #[] #[.pointer (some ⟨b,0,none⟩)]] w0 fun e w'=>e=.returned (.bool (!(xs.all (zBa xs.length))))∧Below w0.heap.size w0 w':=by
 have hix:=zNW p q c cq b xs F w0 hn hn2 hF h hlt hb;have H:=Hold.start w0;obtain⟨bb,hbb⟩:∃ bb,xs.all (zBa xs.length)=bb:=⟨_,rfl⟩;rw[hbb]at hix ⊢;obtain⟨n,hnn⟩:∃ n,xs.length=n:=⟨_,rfl⟩;rw[hnn]at hix ⊢;clear hn hn2 hb h hF hlt hnn hbb
 go_enter Tryz.func31,Tryz.ntmps31
 go_wp2_with (first|fail|(go_at_call 71;refine chR hix H ?_;clear H hix;intro r w hd H))
 go_ret;exact⟨by rw[← hd];rfl,H.below⟩
theorem zPI (p:Option Addr) (c:Nat) (xs:List InstD) (F:Nat→Prop) (w0:World) (hF:∀ b,F b→b<w0.heap.size) (h:InstsR F p c xs w0) :
  Calls Tryz.prog 19 #[.slice p xs.length c] w0 (Rt (.bool (zA3 xs)) w0):=by
 have H:=Hold.insts hF h;clear h
 by_cases h1:xs.length<1
 ·have d1:decide ((xs.length:Int)<1)=true:=by simp;omega
  have E:=Lib.hid (show zA3 xs=false by unfold zA3;rw[decide_eq_false (by omega),Bool.false_and,Bool.false_and])
  go_enter Tryz.func19,Tryz.ntmps19
  go_wp2_with (first|(first|((with_reducible refine gL ?_);refine aG H ?_)|((with_reducible refine gX ?_);(refine bB H ?_;clear H;intro b w H;try simp only[nr]at H))))
  go_ret;exact⟨by rw[E.out];rfl,H.below⟩
 have d1:decide ((xs.length:Int)<1)=false:=by simp;omega
 by_cases h2:4000<xs.length
 ·have d2:decide ((4000:Int)<(xs.length:Int))=true:=by simp;omega
  have E:=Lib.hid (show zA3 xs=false by unfold zA3;rw[decide_eq_false (p:=xs.length≤4000) (by omega),Bool.and_false,Bool.false_and])
  go_enter Tryz.func19,Tryz.ntmps19
  go_wp2_with (first|(first|((with_reducible refine gL ?_);refine aG H ?_)|((with_reducible refine gX ?_);(refine bB H ?_;clear H;intro b w H;try simp only[nr]at H))))
  go_ret;exact⟨by rw[E.out];rfl,H.below⟩
 have d2:decide ((4000:Int)<(xs.length:Int))=false:=by simp;omega
 have E:=Lib.hid (show zA3 xs=xs.all (zBa xs.length) by unfold zA3;rw[decide_eq_true (by omega),decide_eq_true (by omega)];rfl)
 have hco:=fun w b (h1:∀ b,F b→b<w.heap.size) (h2:InstsR F p c xs w) (h3:b<w.heap.size) (h4:w.cell? ⟨b,0,none⟩=some (.slice p xs.length c))=>zJx p p c c b xs F w (by omega) (by omega) h1 h2 h3 h4
 clear h1 h2
 go_enter Tryz.func19,Tryz.ntmps19
 go_wp2_with (first|((first|((with_reducible refine kgA 1 ?_);refine kA 1 H ?_)|((with_reducible refine kgX 1 ?_);(first|refine kS 1 H ?_|refine kB 1 H ?_)));clear H;intro b1 w H;try simp only[nr]at H)|((with_reducible refine gL ?_);refine aG H ?_)|(go_at_call 31;refine ch (hco _ b1 (H.knlt (i:=0) .zero) (H.kn (i:=0) .zero) ((Array.getElem?_eq_some_iff.1 (H.blk (i:=1) i_1).2).1) (H.cell (i:=1) i_1 0)) H ?_;clear H;intro w H))
 go_ret;exact⟨by rw[E.out];simp,H.below⟩
theorem zOn (p:Option Addr) (c:Nat) (xs:List InstD) (F:Nat→Prop) (w0:World) (hF:∀ b,F b→b<w0.heap.size) (h:InstsR F p c xs w0) :
  Calls Tryz.prog 21 #[.slice p xs.length c] w0 (Rt (.int .i64 (zHy xs)) w0):=by
 have hc:=h.bound;have hp:=h.at;have H:=Hold.insts hF h;clear h;obtain⟨n,hn⟩:∃ n,xs.length=n:=⟨_,rfl⟩;rw[hn]at hc hp ⊢;have HN:=Lib.hid hn;clear hn
 go_enter Tryz.func21,Tryz.ntmps21
 go_wp2_with (first|fail)
 go_loopw [3,8] (fun vs ix wr=>∃ (j:Nat),j≤n∧vs=.int .i64 (zEh (xs.take j))∧ix=.int .i64 j∧Hold w0 wr [.kn F (InstsR F p c xs)]) (fun _ ix _=>n+1 - (intOf ix).toNat)
 case atStart=>exact⟨0,by omega,rfl,rfl,H⟩
 case round =>
  clear H;obtain⟨j,hj,rfl,rfl,H⟩:=hrel
  by_cases hlt:j<n
  ·have dj:decide ((j:Int)<(n:Int))=true:=by simp;omega
   obtain⟨x,hx⟩:∃ x,xs[j]?=some x:=⟨_,List.getElem?_eq_getElem (by rw[HN.out];exact hlt)⟩
   obtain⟨b,off,rfl⟩:=hp (by omega)
   have hcell:∀ V,InstsR F (some ⟨b,off,none⟩) c xs V→∀ k,k<9→V.cell? ⟨b,off+j * 9+k,none⟩=(zAY x)[k]?:=fun V h=>h.cells hx rfl
   have E:=Lib.hid (zHs hx);clear hx hp
   go_wp2_with (first|((with_reducible refine gL ?_);refine zAS wtd_ _ _ rfl rfl zAk rfl (hcell _ (H.kn (i:=0) .zero)) ?_)|(first|((with_reducible refine gTi ?_);refine aTi H ?_;clear H;intro w H;try simp only[nr]at H)|((with_reducible refine gL ?_);refine aGi H ?_)|((with_reducible refine gA ?_);(refine bA H ?_;clear H;intro b w H;try simp only[nr]at H))))
   all_goals (go_roundw)
   case rel=>exact⟨j+1,by omega,by rw[E.out,show (if zEh (List.take j xs)<x.slot then x.slot else zEh (List.take j xs))=max (zEh (List.take j xs)) x.slot by omega],by go_num,H.pick [0] _ (by decide) rfl⟩
   case measure=>simp[intOf];omega
  ·have hjn:j=n:=by omega
   subst hjn;have dj:decide ((j:Int)<(j:Int))=false:=by simp
   have E:=Lib.hid (show zEh (xs.take j)=zEh xs by rw[List.take_of_length_le (by rw[HN.out];omega)])
   clear hp
   go_wp2_with (first|fail)
   go_ret;exact⟨by unfold zHy;rw[← E.out];rfl,H.below⟩
end
end Go.Proofs.YtdoflhjhaciepaaGreat
