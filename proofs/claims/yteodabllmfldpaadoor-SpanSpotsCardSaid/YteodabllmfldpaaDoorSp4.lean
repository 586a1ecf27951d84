/-
  Laws of walks, and walks.
-/
import Derived.Test.YteodabllmfldpaaDoorSp3
import Derived.OrdersIn
import Derived.Test.YteodabllmfldpaaDoorSp1
set_option linter.unusedVariables false
set_option linter.unusedSimpArgs false
set_option maxRecDepth 100000
set_option maxHeartbeats 16000000
namespace Go.Proofs.YteodabllmfldpaaDoor
section
open Go.RowKit
theorem nthN_app:∀ (a b:List Nat) (i:Nat),i<a.length→nthN (a++b) i=nthN a i
 | [],_,_,h=>by simp at h
 | x::a,b,0,_=>rfl
 | x::a,b,i+1,h=>nthN_app a b i (by simpa using h)
theorem nthN_at:∀ (a:List Nat) (x:Nat) (b:List Nat),nthN (a++x::b) a.length=x
 | [],_,_=>rfl
 | y::a,x,b=>nthN_at a x b
theorem befGo_pre:∀ (l:List Oper) (acc:List Nat),∃ r,befGo l acc=acc++r
 | [],acc=>⟨[],by simp[befGo]⟩
 | o::l,acc=>by
  obtain⟨r,h⟩:=befGo_pre l (acc++[maskOf acc o.after.toList]);exact⟨maskOf acc o.after.toList::r,by simp[befGo,h]⟩
theorem maskOf_bit:∀ {acc:List Nat} {l:List Edge} {j:Nat},(maskOf acc l).testBit j=true→∃ e ∈ l,Region.binds .any e=true∧(j=e.on∨(nthN acc e.on).testBit j=true)
 | acc,[],j,h=>by simp[maskOf]at h
 | acc,e::r,j,h=>by
  simp only[maskOf]at h
  cases hb:Region.binds .any e with
  | true =>
   rw[hb,cond_true,Nat.testBit_or,Nat.testBit_or,Bool.or_eq_true,Bool.or_eq_true]at h;rcases h with (h|h)|h
   ·obtain⟨e',h1,h2⟩:=maskOf_bit h;exact⟨e',List.mem_cons_of_mem _ h1,h2⟩
   ·rw[Nat.testBit_two_pow]at h;exact⟨e,List.mem_cons_self ..,hb,.inl (by simpa using (of_decide_eq_true h).symm)⟩
   ·exact⟨e,List.mem_cons_self ..,hb,.inr h⟩
  | false =>
   rw[hb,cond_false]at h;obtain⟨e',h1,h2⟩:=maskOf_bit h;exact⟨e',List.mem_cons_of_mem _ h1,h2⟩
theorem bef_bit:∀ {l:List Oper} {acc:List Nat} {k j:Nat} {o:Oper},l[k]?=some o→(nthN (befGo l acc) (acc.length+k)).testBit j=true→∃ e ∈ o.after.toList,Region.binds .any e=true∧(j=e.on∨∃ q,q=e.on∧(acc.length+k≤q∨(nthN (befGo l acc) q).testBit j=true))
 | [],_,_,_,_,h,_=>by simp at h
 | p::l,acc,0,j,o,h,hb=>by
  simp at h;subst h;simp only[befGo]at hb;obtain⟨r,hr⟩:=befGo_pre l (acc++[maskOf acc p.after.toList]);have h1:nthN (befGo l (acc++[maskOf acc p.after.toList])) (acc.length+0)=maskOf acc p.after.toList:=by
   rw[hr,List.append_assoc];exact nthN_at acc _ _
  rw[h1]at hb;obtain⟨e,h2,h3,h4⟩:=maskOf_bit hb;refine⟨e,h2,h3,?_⟩
  rcases h4 with h4|h4
  ·exact .inl h4
  ·refine .inr ⟨e.on,rfl,?_⟩
   by_cases hlt:e.on<acc.length
   ·right;simp only[befGo];rw[hr,List.append_assoc,nthN_app _ _ _ hlt];exact h4
   ·left;omega
 | p::l,acc,k+1,j,o,h,hb=>by
  simp only[befGo]at hb ⊢;have hlen:(acc++[maskOf acc p.after.toList]).length+k=acc.length+(k+1):=by simp;omega
  have:=bef_bit (l:=l) (acc:=acc++[maskOf acc p.after.toList]) (k:=k) (j:=j) (o:=o) (by simpa using h) (by rw[hlen];exact hb)
  rwa [hlen]at this
def Anc (ops:Array Oper) (i j:Nat):Prop:=(nthN (befL ops.toList) i).testBit j=true
theorem edges_at:∀ {l:List Oper} {i k:Nat} {o:Oper},edgesOk l i=true→l[k]?=some o→∀ e ∈ o.after.toList,Region.binds .any e=true→e.on<i+k
 | [],_,_,_,_,h=>by simp at h
 | p::l,i,0,o,hE,h=>by
  simp at h;subst h;simp only[edgesOk,Bool.and_eq_true]at hE;intro e he hb;have:=List.all_eq_true.1 hE.1 e he;rw[hb]at this
  simpa using this
 | p::l,i,k+1,o,hE,h=>by
  simp only[edgesOk,Bool.and_eq_true]at hE;intro e he hb;have:=edges_at hE.2 (k:=k) (by simpa using h) e he hb
  omega
section
variable {ops:Array Oper}
theorem anc_ready {D:Array Bool} {i:Nat} (hE:edgesOk ops.toList 0=true) (hd:∀ i<ops.size,D.getD i false=true→∀ j,Anc ops i j→D.getD j false=true) (hr:i ∈ Region.ready .any ops D):i<ops.size∧D.getD i true=false∧∀ j,Anc ops i j→D.getD j false=true:=by
 simp only[Region.ready,List.mem_filter,List.mem_range,Bool.and_eq_true,Bool.not_eq_true']at hr;obtain⟨h1,h2,h3⟩:=hr;refine⟨h1,h2,fun j hj=>?_⟩
 have ho:ops[i]?=some ops[i]:=Array.getElem?_eq_getElem h1;rw[ho]at h3;simp only[Option.map_some,Option.getD_some]at h3;have hall:∀ e ∈ (ops[i]).after.toList,Region.binds .any e=true→D.getD e.on false=true:=by
  intro e he hb;have:=(Array.all_eq_true_iff_forall_mem.1 h3) e (by simpa using he)
  rw[hb]at this
  simpa using this
 have hol:ops.toList[i]?=some ops[i]:=by rw[Array.getElem?_toList];exact ho
 obtain⟨e,h4,h5,h6⟩:=bef_bit (acc:=[]) hol (by simpa [Anc,befL] using hj)
 have hlt:=edges_at hE hol e h4 h5;rcases h6 with rfl|⟨q,rfl,h6⟩
 ·exact hall e h4 h5
 ·rcases h6 with h6|h6
  ·simp at h6;omega
  ·exact hd e.on (by omega) (hall e h4 h5) j h6
theorem ready_nil {D:Array Bool} (hE:edgesOk ops.toList 0=true) (hs:D.size=ops.size) (hr:Region.ready .any ops D=[]):∀ i<ops.size,D.getD i false=true:=by
 intro i
 induction i using Nat.strongRecOn with
 | _ i ih =>
  intro hi
  cases hD:D.getD i false with
  | true=>rfl
  | false =>
   exfalso
   have ho:ops[i]?=some ops[i]:=Array.getElem?_eq_getElem hi;have hol:ops.toList[i]?=some ops[i]:=by rw[Array.getElem?_toList];exact ho
   have hD':D.getD i true=false:=by
    have:D[i]?=some D[i]:=Array.getElem?_eq_getElem (by omega)
    simp only[Array.getD_eq_getD_getElem?,this,Option.getD_some]at hD ⊢;exact hD
   have:i ∈ Region.ready .any ops D:=by
    simp only[Region.ready,List.mem_filter,List.mem_range,Bool.and_eq_true,Bool.not_eq_true'];refine⟨hi,hD',?_⟩
    rw[ho];simp only[Option.map_some,Option.getD_some];rw[Array.all_eq_true_iff_forall_mem];intro e he
    cases hb:Region.binds .any e with
    | false=>rfl
    | true =>
     have hlt:=edges_at hE hol e (by simpa using he) hb
     simp only[Bool.not_true,Bool.false_or];exact ih e.on (by omega) (by omega)
   rw[hr]at this
   cases this
end
structure Seq (P:Program) (G:Nat) (rec:Ev) (ops:Array Oper) where
 T:Nat→List Value
 H:Nat→AH
 X:Nat→Fx
 V:Nat→Value
 K:Nat→Option Kd
def SAt (P:Program) (G:Nat) (rec:Ev) (ops:List Oper) (bef:List Nat) (S:Seq P G rec ops.toArray) (j:Nat) (o:Oper):Prop :=
 S.T (j+1)=putA (S.T j) o.dst (S.V j) ∧
 ((S.K j=none∧wantedA ops (S.T j) o=false∧S.V j=undef∧S.H (j+1)=S.H j∧S.X (j+1)=S.X j) ∨
  ∃ k h1,S.K j=some k∧wantedA ops (S.T j) o=true∧okK k bef j (S.X j) (S.H j)=true ∧
   evAny P G rec (S.T j) {S.H j with hid:=hidK k (nthN bef j) (S.X j) (S.H j).next++(S.H j).hid,floor:=floorK k (S.H j)} o=some (S.V j,h1) ∧
   S.H (j+1)={h1 with hid:=(S.H j).hid,floor:=(S.H j).floor}∧S.X (j+1)=fxK k j (S.X j) (S.H j).next h1.next)
theorem draw_seq {P:Program} {G:Nat} {rec:Ev} {ops:List Oper} {bef:List Nat}:∀ {l:List Oper} {i:Nat} {fx:Fx} {t t':List Value} {h h':AH},evDraw P G rec ops bef l i fx t h=some (t',h') →
  ∃ S:Seq P G rec ops.toArray,S.T i=t∧S.H i=h∧S.X i=fx∧S.T (i+l.length)=t'∧S.H (i+l.length)=h'∧∀ k o,l[k]?=some o→SAt P G rec ops bef S (i+k) o
 | [],i,fx,t,t',h,h',e=>by
  simp only[evDraw,Option.some.injEq,Prod.mk.injEq]at e;obtain⟨rfl,rfl⟩:=e;exact⟨⟨fun _=>t,fun _=>h,fun _=>fx,fun _=>undef,fun _=>none⟩,rfl,rfl,rfl,rfl,rfl,fun k o hk=>by simp at hk⟩
 | o::r,i,fx,t,t',h,h',e=>by
  have ext:∀ (v:Value) (k0:Option Kd) (h2:AH) (fx2:Fx) (S:Seq P G rec ops.toArray),S.T (i+1)=putA t o.dst v→S.H (i+1)=h2→S.X (i+1)=fx2→S.T (i+1+r.length)=t'→S.H (i+1+r.length)=h'→(∀ k o,r[k]?=some o→SAt P G rec ops bef S (i+1+k) o) →
    ((k0=none∧wantedA ops t o=false∧v=undef∧h2=h∧fx2=fx)∨∃ k h1,k0=some k∧wantedA ops t o=true∧okK k bef i fx h=true∧evAny P G rec t {h with hid:=hidK k (nthN bef i) fx h.next++h.hid,floor:=floorK k h} o=some (v,h1)∧h2={h1 with hid:=h.hid,floor:=h.floor}∧fx2=fxK k i fx h.next h1.next) →
    ∃ S:Seq P G rec ops.toArray,S.T i=t∧S.H i=h∧S.X i=fx∧S.T (i+(o::r).length)=t'∧S.H (i+(o::r).length)=h'∧∀ k p,(o::r)[k]?=some p→SAt P G rec ops bef S (i+k) p:=by
   intro v k0 h2 fx2 S a1 a2 a3 a4 a5 a6 a7;have hlen:i+(o::r).length=i+1+r.length:=by simp;omega
   refine⟨⟨fun j=>if j=i then t else S.T j,fun j=>if j=i then h else S.H j,fun j=>if j=i then fx else S.X j,fun j=>if j=i then v else S.V j,fun j=>if j=i then k0 else S.K j⟩,by simp,by simp,by simp,?_,?_,?_⟩
   ·simp only[hlen];rw[if_neg (by omega)];exact a4
   ·simp only[hlen];rw[if_neg (by omega)];exact a5
   ·intro k p hk
    cases k with
    | zero =>
     simp at hk;subst hk;simp only[SAt,Nat.add_zero,if_true,show ¬ (i+1=i) from by omega,if_false,a1,a2,a3,true_and]
     exact a7
    | succ k =>
     have:=a6 k p (by simpa using hk)
     rw[show i+1+k=i+(k+1) from by omega]at this
     simp only[SAt]at this ⊢;rw[if_neg (show ¬ (i+(k+1)=i) from by omega),if_neg (show ¬ (i+(k+1)+1=i) from by omega)]
     simp only[show ¬ (i+(k+1)=i) from by omega,show ¬ (i+(k+1)+1=i) from by omega,if_false]
     exact this
  simp only[evDraw]at e
  cases hw:wantedA ops t o with
  | false =>
   simp only[hw]at e;obtain⟨S,a1,a2,a3,a4,a5,a6⟩:=draw_seq e;exact ext undef none h fx S a1 a2 a3 a4 a5 a6 (.inl ⟨rfl,hw,rfl,rfl,rfl⟩)
  | true =>
   simp only[hw]at e;rw[cond_some]at e;obtain⟨hok,e⟩:=e;split at e
   ·cases e
   ·rename_i v h1 he;obtain⟨S,a1,a2,a3,a4,a5,a6⟩:=draw_seq e;exact ext v _ _ _ S a1 a2 a3 a4 a5 a6 (.inr ⟨_,h1,rfl,hw,hok,he,rfl,rfl⟩)
section
variable {P:Program} {G:Nat} {t t':List Value} {h:AH} {ty:TypeId}
theorem aevs_congr:∀ {l:List Operand},(∀ x ∈ l,aev G t x=aev G t' x)→aevs G t l=aevs G t' l
 | [],_=>rfl
 | x::l,hx=>by
  simp only[aevs,hx x (List.mem_cons_self ..),aevs_congr (fun y hy=>hx y (List.mem_cons_of_mem _ hy))]
theorem aevp_congr:∀ {l:List (Nat × Operand)},(∀ x ∈ l,aev G t x.2=aev G t' x.2)→aevp G t l=aevp G t' l
 | [],_=>rfl
 | (i,x)::l,hx=>by
  have h1:aev G t x=aev G t' x:=hx (i,x) (List.mem_cons_self ..);simp only[aevp,h1,aevp_congr (fun y hy=>hx y (List.mem_cons_of_mem _ hy))]
theorem loA_congr {lo:Option Operand} (hx:∀ x ∈ lo,aev G t x=aev G t' x):loA G t lo=loA G t' lo:=by
 cases lo with
 | none=>rfl
 | some x=>exact hx x rfl
theorem hiA_congr {v:Value} {hi:Option Operand} (hx:∀ x ∈ hi,aev G t x=aev G t' x):hiA G t v hi=hiA G t' v hi:=by
 cases hi with
 | none=>cases v<;>rfl
 | some x=>exact hx x rfl
theorem evOp_congr {op:Op} (hx:∀ x ∈ op.operands.toList,aev G t x=aev G t' x):evOp P G t h ty op=evOp P G t' h ty op:=by
 cases op with
 | move x=>have h1:=hx x (by simp[Op.operands]);simp only[evOp,h1]
 | assign x=>have h1:=hx x (by simp[Op.operands]);simp only[evOp,h1]
 | pick c a b=>have h1:=hx c (by simp[Op.operands]);have h2:=hx a (by simp[Op.operands]);have h3:=hx b (by simp[Op.operands]);simp only[evOp,h1,h2,h3]
 | alloc T=>rfl
 | box T x=>have h1:=hx x (by simp[Op.operands]);simp only[evOp,h1]
 | build T ps =>
  have h1:aevp G t ps.toList=aevp G t' ps.toList:=aevp_congr fun y hy=>hx y.2 (by simp only[Op.operands];simpa using ⟨y.1,by simpa using hy⟩)
  simp only[evOp,h1]
 | buildSlice T n ps =>
  have h1:aevp G t ps.toList=aevp G t' ps.toList:=aevp_congr fun y hy=>hx y.2 (by simp only[Op.operands];simpa using ⟨y.1,by simpa using hy⟩)
  simp only[evOp,h1]
 | load T x=>have h1:=hx x (by simp[Op.operands]);simp only[evOp,h1]
 | store T x y=>have h1:=hx x (by simp[Op.operands]);have h2:=hx y (by simp[Op.operands]);simp only[evOp,h1,h2]
 | nilCheck x=>have h1:=hx x (by simp[Op.operands]);simp only[evOp,h1]
 | binOp op T x y U=>have h1:=hx x (by simp[Op.operands]);have h2:=hx y (by simp[Op.operands]);simp only[evOp,h1,h2]
 | unOp op T x=>have h1:=hx x (by simp[Op.operands]);simp only[evOp,h1]
 | convert S D x=>have h1:=hx x (by simp[Op.operands]);simp only[evOp,h1]
 | makeInterface T x=>have h1:=hx x (by simp[Op.operands]);simp only[evOp,h1]
 | makeFunc f a b =>
  have h1:aevs G t a.toList=aevs G t' a.toList:=aevs_congr fun y hy=>hx y (by simp only[Op.operands];simp;exact .inl (by simpa using hy))
  have h2:aevs G t b.toList=aevs G t' b.toList:=aevs_congr fun y hy=>hx y (by simp only[Op.operands];simp;exact .inr (by simpa using hy))
  cases f<;>simp only[evOp,h1,h2]
 | makeMap T r=>cases r<;>rfl
 | makeSlice T x y=>have h1:=hx x (by simp[Op.operands]);have h2:=hx y (by simp[Op.operands]);simp only[evOp,h1,h2]
 | slice T x lo hi mx =>
  have h1:=hx x (by simp[Op.operands])
  have h2:loA G t lo=loA G t' lo:=loA_congr fun y hy=>hx y (by simp only[Op.operands];simp;exact .inr (.inl (by simpa using hy)))
  have h3:∀ v,hiA G t v hi=hiA G t' v hi:=fun v=>hiA_congr fun y hy=>hx y (by simp only[Op.operands];simp;exact .inr (.inr (.inl (by simpa using hy))))
  cases mx<;>simp only[evOp,h1,h2,h3]
 | fieldAddr T x f=>have h1:=hx x (by simp[Op.operands]);simp only[evOp,h1]
 | field T x f=>have h1:=hx x (by simp[Op.operands]);simp only[evOp,h1]
 | indexAddr T x y=>have h1:=hx x (by simp[Op.operands]);have h2:=hx y (by simp[Op.operands]);simp only[evOp,h1,h2]
 | index T x y=>have h1:=hx x (by simp[Op.operands]);have h2:=hx y (by simp[Op.operands]);simp only[evOp,h1,h2]
 | lookup T x y ok=>have h1:=hx x (by simp[Op.operands]);have h2:=hx y (by simp[Op.operands]);simp only[evOp,h1,h2]
 | insert T x y z=>have h1:=hx x (by simp[Op.operands]);have h2:=hx y (by simp[Op.operands]);have h3:=hx z (by simp[Op.operands]);simp only[evOp,h1,h2,h3]
 | mapUpdate T x y z=>have h1:=hx x (by simp[Op.operands]);have h2:=hx y (by simp[Op.operands]);have h3:=hx z (by simp[Op.operands]);simp only[evOp,h1,h2,h3]
 | typeAssert x S A ok=>have h1:=hx x (by simp[Op.operands]);simp only[evOp,h1]
 | extract x i=>have h1:=hx x (by simp[Op.operands]);simp only[evOp,h1]
 | call c =>
  obtain⟨cal,xs,ts⟩:=c;have h0:∀ y ∈ xs.toList,aev G t y=aev G t' y:=fun y hy=>hx y (by simp only[Op.operands,Call.operands];simp;exact .inr (by simpa using hy))
  have h1:aevs G t xs.toList=aevs G t' xs.toList:=aevs_congr h0
  cases cal with
  | builtin b =>
   cases b with
   | max=>simp only[evOp,h1]
   | min=>simp only[evOp,h1]
   | len =>
    simp only[evOp];rcases ts.toList with _|⟨T,tr⟩<;>rcases hxs:xs.toList with _|⟨x,r⟩<;>first|rfl|(have h2:=h0 x (by rw[hxs];exact List.mem_cons_self ..);simp only[h2])
   | append =>
    simp only[evOp];rcases ts.toList with _|⟨T,_|⟨U,_|⟨W,tr⟩⟩⟩<;>rcases hxs:xs.toList with _|⟨x,_|⟨y,_|⟨z,r⟩⟩⟩<;>first|rfl|(have h2:=h0 x (by rw[hxs];simp);have h3:=h0 y (by rw[hxs];simp);simp only[h2,h3])
   | _=>rfl
  | _=>rfl
 | _=>rfl
theorem evAny_congr {rec:Ev} {o:Oper} (hx:∀ x ∈ tmpsOf o,nth t x=nth t' x):evAny P G rec t h o=evAny P G rec t' h o:=by
 have hop:∀ x ∈ o.op.operands.toList,aev G t x=aev G t' x:=by
  intro x hxm
  cases x with
  | tmp i =>
   have:i ∈ tmpsOf o:=by
    unfold tmpsOf;rw[List.mem_append];right;rw[List.mem_filterMap];exact⟨.tmp i,hxm,rfl⟩
   simp only[aev,hx i this]
  | _=>rfl
 unfold evAny;have h1:∀ ty,evOp P G t h ty o.op=evOp P G t' h ty o.op:=fun ty=>evOp_congr hop
 cases hc:o.op with
 | call c =>
  obtain⟨cal,xs,ts⟩:=c
  cases cal with
  | value f =>
   rw[hc]at hop;have h2:=hop f (by simp[Op.operands,Call.operands])
   have h3:aevs G t xs.toList=aevs G t' xs.toList:=aevs_congr fun y hy=>hop y (by simp only[Op.operands,Call.operands];simp;exact .inr (by simpa using hy))
   simp only[h2,h3]
  | _=>rw[hc]at h1;exact h1 _
 | _=>rw[hc]at h1;exact h1 _
theorem wantedA_congr {ops:List Oper} {o:Oper} (hx:∀ x ∈ guardT ops o,nth t x=nth t' x):wantedA ops t o=wantedA ops t' o:=by
 unfold wantedA;unfold guardT at hx
 cases hg:o.guard with
 | none=>rfl
 | some g =>
  obtain⟨j,want⟩:=g;rw[hg]at hx;simp only at hx ⊢
  cases hd:ops.drop j with
  | nil=>rfl
  | cons p r =>
   rw[hd]at hx;obtain⟨dst,a1,a2,a3,a4,a5⟩:=p
   cases dst with
   | none=>rfl
   | some d =>
    have:=hx d (by simp)
    simp only[this]
theorem putA_len (t:List Value) (d:Option Tmp) (v:Value):(putA t d v).length=t.length:=by cases d<;>simp[putA]
theorem nth_set_ne:∀ (t:List Value) (d x:Nat) (v:Value),d≠x→nth (t.set d v) x=nth t x
 | [],_,_,_,_=>rfl
 | y::t,0,0,v,h=>absurd rfl h
 | y::t,0,x+1,v,_=>rfl
 | y::t,d+1,0,v,_=>rfl
 | y::t,d+1,x+1,v,h=>nth_set_ne t d x v (by omega)
theorem nth_set_eq:∀ (t u:List Value) (x:Nat) (v:Value),t.length=u.length→nth (t.set x v) x=nth (u.set x v) x
 | [],[],_,_,_=>rfl
 | [],_::_,_,_,h=>by simp at h
 | _::_,[],_,_,h=>by simp at h
 | y::t,z::u,0,v,h=>rfl
 | y::t,z::u,x+1,v,h=>nth_set_eq t u x v (by simpa using h)
theorem putA_ne {t:List Value} {d:Option Tmp} {v:Value} {x:Nat} (h:d≠some x):nth (putA t d v) x=nth t x:=by
 cases d with
 | none=>rfl
 | some d=>exact nth_set_ne t d x v (fun e=>h (by rw[e]))
theorem putA_comm {t:List Value} {d e:Option Tmp} {u v:Value} (h:d=none∨e=none∨d≠e):putA (putA t d u) e v=putA (putA t e v) d u:=by
 cases d with
 | none=>rfl
 | some d =>
  cases e with
  | none=>rfl
  | some e =>
   have:d≠e:=by
    rcases h with h|h|h
    ·cases h
    ·cases h
    ·exact fun x=>h (by rw[x])
   simp only[putA];exact List.set_comm _ _ this
end
theorem ble_no {a b:Nat} (h:Nat.ble a b=false):b<a:=by
 rcases Nat.lt_or_ge b a with hl|hl
 ·exact hl
 ·have:Nat.ble a b=true:=by rw[Nat.ble_eq];exact hl
  rw[h]at this;cases this
theorem blt_no {a b:Nat} (h:Nat.blt a b=false):b≤a:=by
 rcases Nat.lt_or_ge a b with hl|hl
 ·have:Nat.blt a b=true:=by rw[Nat.blt_eq];exact hl
  rw[h]at this;cases this
 ·exact hl
theorem inR_app (a b:List (Nat × Nat)) (x:Nat):inR (a++b) x=(inR a x || inR b x):=by
 induction a with
 | nil=>simp[inR]
 | cons p a ih=>obtain⟨u,v⟩:=p;simp[inR,ih,Bool.or_assoc]
theorem inR_hidOf {b x:Nat}:∀ {frs:List (Nat × Nat × Nat)},inR (hidOf b frs) x=true↔∃ p ∈ frs,b.testBit p.1=false∧p.2.1≤x∧x<p.2.2
 | []=>by simp[hidOf,inR]
 | (j,lo,hi)::r=>by
  have ih:=inR_hidOf (b:=b) (x:=x) (frs:=r)
  cases hb:b.testBit j with
  | true =>
   simp only[hidOf,hb,cond_true,ih];constructor
   ·rintro⟨p,h1,h2⟩;exact⟨p,List.mem_cons_of_mem _ h1,h2⟩
   ·rintro⟨p,h1,h2,h3⟩;rcases List.mem_cons.1 h1 with rfl|h1
    ·simp only at h2;rw[hb]at h2;cases h2
    ·exact⟨p,h1,h2,h3⟩
  | false =>
   simp only[hidOf,hb,cond_false,inR,Bool.or_eq_true,Bool.and_eq_true,Nat.ble_eq,Nat.blt_eq,ih];constructor
   ·rintro(⟨h1,h2⟩|⟨p,h1,h2⟩)
    ·exact⟨(j,lo,hi),List.mem_cons_self ..,hb,h1,h2⟩
    ·exact⟨p,List.mem_cons_of_mem _ h1,h2⟩
   ·rintro⟨p,h1,h2,h3⟩;rcases List.mem_cons.1 h1 with rfl|h1
    ·exact .inl h3
    ·exact .inr ⟨p,h1,h2,h3⟩
structure SOk (P:Program) (G:Nat) (rec:Ev) (ops:Array Oper) (S:Seq P G rec ops.toList.toArray):Prop where
 R0:RecOk P G rec
 at_:∀ k o,ops.toList[k]?=some o→SAt P G rec ops.toList (befL ops.toList) S k o
 x0:S.X 0=⟨[],[],[],[]⟩
 tmp:tmpOk ops.toList (befL ops.toList) ops.toList 0=true
 edg:edgesOk ops.toList 0=true
section
variable {P:Program} {G:Nat} {rec:Ev} {ops:Array Oper} {S:Seq P G rec ops.toList.toArray}
theorem SOk.oper (O:SOk P G rec ops S) {i:Nat} (hi:i<ops.size):∃ o,ops[i]?=some o∧ops.toList[i]?=some o∧SAt P G rec ops.toList (befL ops.toList) S i o:=by
 have h1:ops[i]?=some ops[i]:=Array.getElem?_eq_getElem hi;have h2:ops.toList[i]?=some ops[i]:=by rw[Array.getElem?_toList];exact h1
 exact⟨_,h1,h2,O.at_ i _ h2⟩
theorem SOk.keep (O:SOk P G rec ops S) {i:Nat} (hi:i<ops.size):(S.H i).next≤(S.H (i+1)).next∧(S.H (i+1)).hid=(S.H i).hid∧(S.H (i+1)).floor=(S.H i).floor∧(∀ x,x<(S.H i).next→S.K i≠some (.write x)→(S.H (i+1)).t.get x=(S.H i).t.get x)∧(S.K i=none→(S.H (i+1)).next=(S.H i).next):=by
 obtain⟨o,_,_,_,h⟩:=O.oper hi;rcases h with ⟨hk,_,_,hH,_⟩|⟨k,h1,hk,_,_,he,hH,_⟩
 ·rw[hH];exact⟨Nat.le_refl _,rfl,rfl,fun _ _ _=>rfl,fun _=>rfl⟩
 ·have K:=(evAny_ok O.R0 he).1;rw[hH];refine⟨K.next,rfl,rfl,fun x hx hne=>K.kept x hx ?_,fun h=>by rw[hk]at h;cases h⟩
  cases k with
  | free =>
   right
   show inR ([(0,(S.H i).next)]++(S.H i).hid) x=true
   rw[inR_app];simp[inR,hx]
  | read b=>exact .inl hx
  | call=>exact .inl hx
  | write b =>
   right;have hxb:x≠b:=fun e=>hne (by rw[hk,e])
   show inR ([(0,b),(b+1,(S.H i).next)]++(S.H i).hid) x=true
   rw[inR_app];rcases Nat.lt_or_gt_of_ne hxb with h|h
   ·simp[inR,h]
   ·have:b+1≤x:=h;simp[inR,hx,this]
theorem SOk.fix (O:SOk P G rec ops S):∀ {i:Nat},i≤ops.size→(S.H i).hid=(S.H 0).hid∧(S.H i).floor=(S.H 0).floor
 | 0,_=>⟨rfl,rfl⟩
 | i+1,h=>by
  have h1:=O.keep (i:=i) (by omega)
  have h2:=SOk.fix O (i:=i) (by omega)
  exact⟨h1.2.1.trans h2.1,h1.2.2.1.trans h2.2⟩
theorem SOk.mono (O:SOk P G rec ops S) {i:Nat}:∀ {j:Nat},i≤j→j≤ops.size→(S.H i).next≤(S.H j).next
 | 0,h,_=>by rw[Nat.le_zero.1 h];exact Nat.le_refl _
 | j+1,h,hj=>by
  rcases Nat.lt_or_ge i (j+1) with hl|hl
  ·exact Nat.le_trans (SOk.mono O (j:=j) (by omega) (by omega)) (O.keep (i:=j) (by omega)).1
  ·rw[show i=j+1 from by omega];exact Nat.le_refl _
theorem SOk.uniq (O:SOk P G rec ops S) {i j x:Nat} (hi:i<ops.size) (hj:j<ops.size) (h1:(S.H i).next≤x) (h2:x<(S.H (i+1)).next) (h3:(S.H j).next≤x) (h4:x<(S.H (j+1)).next):i=j:=by
 rcases Nat.lt_trichotomy i j with h|h|h
 ·have:=O.mono (i:=i+1) (j:=j) h (by omega);omega
 ·exact h
 ·have:=O.mono (i:=j+1) (j:=i) h (by omega);omega
theorem SOk.find (O:SOk P G rec ops S) {x:Nat}:∀ {i:Nat},i≤ops.size→x<(S.H i).next→x<(S.H 0).next∨∃ j,j<i∧(S.H j).next≤x∧x<(S.H (j+1)).next
 | 0,_,h=>.inl h
 | i+1,hi,h=>by
  rcases Nat.lt_or_ge x (S.H i).next with hl|hl
  ·rcases SOk.find O (i:=i) (by omega) hl with h1|⟨j,h1,h2⟩
   ·exact .inl h1
   ·exact .inr ⟨j,by omega,h2⟩
  ·exact .inr ⟨i,by omega,hl,h⟩
theorem SOk.fx (O:SOk P G rec ops S):∀ {i:Nat},i≤ops.size →
  (∀ j,j<i→S.K j≠none→(j,(S.H j).next,(S.H (j+1)).next) ∈ (S.X i).frs)∧(∀ p ∈ (S.X i).frs,p.1<i∧p.2.1=(S.H p.1).next∧p.2.2=(S.H (p.1+1)).next) ∧
  (∀ j b,j<i→S.K j=some (.write b)→(j,b) ∈ (S.X i).wrs)∧(∀ j b,j<i→S.K j=some (.read b)→(j,b) ∈ (S.X i).rds)∧(∀ j,j<i→S.K j=some .call→j ∈ (S.X i).cls)
 | 0,_=>by
  refine⟨fun j h=>by omega,?_,fun j b h=>by omega,fun j b h=>by omega,fun j h=>by omega⟩
  rw[O.x0];intro p hp;cases hp
 | i+1,hi=>by
  obtain⟨f1,f2,f3,f4,f5⟩:=SOk.fx O (i:=i) (by omega)
  obtain⟨o,_,_,_,h⟩:=O.oper (i:=i) (by omega)
  rcases h with ⟨hk,_,_,hH,hX⟩|⟨k,h1,hk,_,_,he,hH,hX⟩
  ·rw[hX];refine⟨fun j hj hn=>?_,fun p hp=>?_,fun j b hj hw=>?_,fun j b hj hw=>?_,fun j hj hw=>?_⟩
   ·rcases Nat.lt_or_ge j i with hl|hl
    ·exact f1 j hl hn
    ·rw[show j=i from by omega]at hn;exact absurd hk hn
   ·obtain⟨a,b⟩:=f2 p hp;exact⟨by omega,b⟩
   ·rcases Nat.lt_or_ge j i with hl|hl
    ·exact f3 j b hl hw
    ·rw[show j=i from by omega,hk]at hw;cases hw
   ·rcases Nat.lt_or_ge j i with hl|hl
    ·exact f4 j b hl hw
    ·rw[show j=i from by omega,hk]at hw;cases hw
   ·rcases Nat.lt_or_ge j i with hl|hl
    ·exact f5 j hl hw
    ·rw[show j=i from by omega,hk]at hw;cases hw
  ·have hn1:h1.next=(S.H (i+1)).next:=by rw[hH]
   have hfr:(S.X (i+1)).frs=(i,(S.H i).next,(S.H (i+1)).next)::(S.X i).frs:=by rw[hX,← hn1];cases k<;>rfl
   rw[hfr];refine⟨fun j hj hn=>?_,fun p hp=>?_,fun j b hj hw=>?_,fun j b hj hw=>?_,fun j hj hw=>?_⟩
   ·rcases Nat.lt_or_ge j i with hl|hl
    ·exact List.mem_cons_of_mem _ (f1 j hl hn)
    ·rw[show j=i from by omega];exact List.mem_cons_self ..
   ·rcases List.mem_cons.1 hp with rfl|hp
    ·exact⟨Nat.lt_succ_self _,rfl,rfl⟩
    ·obtain⟨a,b⟩:=f2 p hp;exact⟨by omega,b⟩
   ·rw[hX];rcases Nat.lt_or_ge j i with hl|hl
    ·have:=f3 j b hl hw
     cases k<;>first|exact this|exact List.mem_cons_of_mem _ this
    ·have e:j=i:=by omega
     subst e;rw[hk]at hw;cases hw
     exact List.mem_cons_self ..
   ·rw[hX];rcases Nat.lt_or_ge j i with hl|hl
    ·have:=f4 j b hl hw
     cases k<;>first|exact this|exact List.mem_cons_of_mem _ this
    ·have e:j=i:=by omega
     subst e;rw[hk]at hw;cases hw
     exact List.mem_cons_self ..
   ·rw[hX];rcases Nat.lt_or_ge j i with hl|hl
    ·have:=f5 j hl hw
     cases k<;>first|exact this|exact List.mem_cons_of_mem _ this
    ·have e:j=i:=by omega
     subst e;rw[hk]at hw;cases hw
     exact List.mem_cons_self ..
theorem SOk.wr (O:SOk P G rec ops S) {i b:Nat} (hi:i<ops.size) (hk:S.K i=some (.write b)):(∃ ob,(S.H i).get b=some ob)∧(S.H i).floor≤b:=by
 obtain⟨o,_,_,_,h⟩:=O.oper hi;rcases h with ⟨hk',_⟩|⟨k,h1,hk',_,hok,_⟩
 ·rw[hk']at hk;cases hk
 ·rw[hk']at hk;cases hk
  simp only[okK,Bool.and_eq_true,Nat.ble_eq]at hok;exact⟨Option.isSome_iff_exists.1 hok.1.2,hok.2⟩
def Tch (S:Seq P G rec ops.toList.toArray) (i x:Nat):Prop:=S.K i=some (.write x)∨((S.H i).next≤x∧x<(S.H (i+1)).next)
open Classical in
noncomputable def Cn (S:Seq P G rec ops.toList.toArray) (D:Nat→Prop):Nat→Nat→Option AObj
 | 0,x=>if x<(S.H 0).next then (S.H 0).t.get x else none
 | k+1,x=>if D k∧Tch S k x then (S.H (k+1)).t.get x else Cn S D k x
theorem Cn_zero {D:Nat→Prop} {x:Nat} (h:x<(S.H 0).next):Cn S D 0 x=(S.H 0).t.get x:=by simp only[Cn];rw[if_pos h]
theorem Cn_no {D:Nat→Prop} {k x:Nat} (h:¬ (D k∧Tch S k x)):Cn S D (k+1) x=Cn S D k x:=by simp only[Cn];rw[if_neg h]
theorem Cn_yes {D:Nat→Prop} {k x:Nat} (h:D k∧Tch S k x):Cn S D (k+1) x=(S.H (k+1)).t.get x:=by simp only[Cn];rw[if_pos h]
theorem Cn_late {D:Nat→Prop} {i x:Nat}:∀ {k:Nat},i≤k→(∀ j,i≤j→j<k→¬ (D j∧Tch S j x))→Cn S D k x=Cn S D i x
 | 0,h,_=>by rw[Nat.le_zero.1 h]
 | k+1,h,hn=>by
  rcases Nat.lt_or_ge i (k+1) with hl|hl
  ·rw[Cn_no (hn k (by omega) (Nat.lt_succ_self _))]
   exact Cn_late (by omega) (fun j h1 h2=>hn j h1 (by omega))
  ·rw[show i=k+1 from by omega]
def Rel (S:Seq P G rec ops.toList.toArray) (i x:Nat):Prop :=
 (x<(S.H 0).next∨∃ j,j<i∧Anc ops i j∧(S.H j).next≤x∧x<(S.H (j+1)).next)∧(∀ m,m<i→S.K m=some (.write x)→Anc ops i m)∧(∀ m,i<m→m<ops.size→S.K m=some (.write x)→Anc ops m i)
theorem SOk.content (O:SOk P G rec ops S) {D:Nat→Prop} {i x:Nat} (hd:∀ i<ops.size,D i→∀ j,Anc ops i j→D j) (ha:∀ j,Anc ops i j→D j) (hn:¬ D i) (hi:i<ops.size) (hr:Rel S i x):Cn S D ops.size x=(S.H i).t.get x:=by
 obtain⟨r1,r2,r3⟩:=hr;have hxi:x<(S.H i).next:=by
  rcases r1 with h|⟨j,h1,_,_,h2⟩
  ·exact Nat.lt_of_lt_of_le h (O.mono (Nat.zero_le _) (by omega))
  ·exact Nat.lt_of_lt_of_le h2 (O.mono h1 (by omega))
 rw[Cn_late (i:=i) (by omega) (fun j h1 h2 hj=>by
  obtain⟨hD,hT⟩:=hj;rcases Nat.eq_or_lt_of_le h1 with e|h1
  ·subst e;exact hn hD
  ·rcases hT with hT|⟨hT,_⟩
   ·exact hn (hd j h2 hD i (r3 j h1 h2 hT))
   ·have:=O.mono (i:=i) (j:=j) (by omega) (by omega);omega)]
 have key:∀ k,k≤i→x<(S.H k).next→Cn S D k x=(S.H k).t.get x:=by
  intro k
  induction k with
  | zero=>intro _ hx;exact Cn_zero hx
  | succ k ih =>
   intro hk hx
   by_cases hT:Tch S k x
   ·have hD:D k:=by
     rcases hT with hT|⟨h1,h2⟩
     ·exact ha k (r2 k (by omega) hT)
     ·rcases r1 with h|⟨j,h3,h4,h5,h6⟩
      ·have:=O.mono (i:=0) (j:=k) (by omega) (by omega);omega
      ·rw[O.uniq (i:=k) (j:=j) (by omega) (by omega) h1 h2 h5 h6];exact ha j h4
    exact Cn_yes ⟨hD,hT⟩
   ·rw[Cn_no (fun h=>hT h.2)]
    have hxk:x<(S.H k).next:=by
     rcases Nat.lt_or_ge x (S.H k).next with h|h
     ·exact h
     ·exact absurd (.inr ⟨h,hx⟩) hT
    rw[ih (by omega) hxk]
    exact((O.keep (i:=k) (by omega)).2.2.2.1 x hxk (fun h=>hT (.inl h))).symm
 exact key i (Nat.le_refl _) hxi
theorem SOk.rel (O:SOk P G rec ops S) {i x:Nat} {k:Kd} (hi:i<ops.size) (hk:S.K i=some k) {ob:AObj} (hv:({S.H i with hid:=hidK k (nthN (befL ops.toList) i) (S.X i) (S.H i).next++(S.H i).hid,floor:=floorK k (S.H i)}:AH).get x=some ob):Rel S i x∧(∀ b,k=.read b∨k=.write b→x=b)∧k≠.free:=by
 obtain⟨hx,hh,_⟩:=AH.get_parts hv;have hx:x<(S.H i).next:=hx;have hh:inR (hidK k (nthN (befL ops.toList) i) (S.X i) (S.H i).next++(S.H i).hid) x=false:=hh;rw[inR_app,Bool.or_eq_false_iff]at hh;obtain⟨f1,f2,f3,f4,f5⟩:=O.fx (i:=i) (by omega)
 obtain⟨o,_,_,_,h⟩:=O.oper hi;have hok:okK k (befL ops.toList) i (S.X i) (S.H i)=true:=by
  rcases h with ⟨hk',_⟩|⟨k',h1,hk',_,hok,_⟩
  ·rw[hk']at hk;cases hk
  ·rw[hk']at hk;cases hk;exact hok
 have late:∀ m,i<m→m<ops.size→S.K m=some (.write x)→(k=.read x∨k=.write x∨(k=.call∧inR (hidOf (nthN (befL ops.toList) i) (S.X m).frs) x=false))→Anc ops m i:=by
  intro m hm hmn hkm hc;obtain⟨g1,g2,g3,g4,g5⟩:=O.fx (i:=m) (by omega)
  obtain⟨om,_,_,_,h'⟩:=O.oper hmn;have hokm:okK (.write x) (befL ops.toList) m (S.X m) (S.H m)=true:=by
   rcases h' with ⟨hk',_⟩|⟨k',h1,hk',_,hok,_⟩
   ·rw[hk']at hkm;cases hkm
   ·rw[hk']at hkm;cases hkm;exact hok
  simp only[okK,Bool.and_eq_true]at hokm;rcases hc with rfl|rfl|⟨rfl,hc⟩
  ·have:=List.all_eq_true.1 hokm.1.1.1.2 _ (g4 i x hm hk)
   simpa [Anc] using this
  ·have:=List.all_eq_true.1 hokm.1.1.1.1.2 _ (g3 i x hm hk)
   simpa [Anc] using this
  ·have:=List.all_eq_true.1 hokm.1.1.2 _ (g5 i hm hk);rw[hc]at this
   simpa [Anc] using this
 have one:∀ b,(k=.read b∨k=.write b)→x=b:=by
  intro b hb;have h1:inR [(0,b),(b+1,(S.H i).next)] x=false:=by rcases hb with rfl|rfl<;>exact hh.1
  simp only[inR,Bool.or_eq_false_iff,Bool.and_eq_false_iff]at h1;rcases Nat.lt_trichotomy x b with h|h|h
  ·rcases h1.1 with h2|h2
   ·have:=ble_no h2;omega
   ·have:=blt_no h2;omega
  ·exact h
  ·rcases h1.2.1 with h2|h2
   ·have:=ble_no h2;omega
   ·have:=blt_no h2;omega
 have fresh:∀ b,freshOk b (nthN (befL ops.toList) i) (S.X i).frs=true→b<(S.H i).next→(b<(S.H 0).next∨∃ j,j<i∧Anc ops i j∧(S.H j).next≤b∧b<(S.H (j+1)).next):=by
  intro b hf hb;rcases O.find (i:=i) (by omega) hb with h1|⟨j,h1,h2,h3⟩
  ·exact .inl h1
  ·refine .inr ⟨j,h1,?_,h2,h3⟩;have hne:S.K j≠none:=fun e=>by have:=(O.keep (i:=j) (by omega)).2.2.2.2 e;omega
   have:=List.all_eq_true.1 hf _ (f1 j h1 hne);simp only[Bool.or_eq_true,Bool.not_eq_true',Bool.and_eq_false_iff]at this;rcases this with h|h|h
   ·exact h
   ·rw[← Bool.not_eq_true,Nat.ble_eq]at h;exact absurd h2 h
   ·rw[← Bool.not_eq_true,Nat.blt_eq]at h;exact absurd h3 h
 cases k with
 | free =>
  exfalso
  have:=hh.1;simp only[hidK,inR,Bool.or_eq_false_iff,Bool.and_eq_false_iff]at this;rcases this.1 with h2|h2
  ·have:=ble_no h2;omega
  ·have:=blt_no h2;omega
 | read b =>
  have e:=one b (.inl rfl);subst e;simp only[okK,Bool.and_eq_true]at hok;refine⟨⟨fresh x hok.1.1 hx,fun m hm hw=>?_,fun m hm hmn hw=>late m hm hmn hw (.inl rfl)⟩,fun b' hb'=>one b' hb',by simp⟩
  have:=List.all_eq_true.1 hok.1.2 _ (f3 m x hm hw)
  simpa [Anc] using this
 | write b =>
  have e:=one b (.inr rfl);subst e;simp only[okK,Bool.and_eq_true]at hok;refine⟨⟨fresh x hok.1.1.1.1.1 hx,fun m hm hw=>?_,fun m hm hmn hw=>late m hm hmn hw (.inr (.inl rfl))⟩,fun b' hb'=>one b' hb',by simp⟩
  have:=List.all_eq_true.1 hok.1.1.1.1.2 _ (f3 m x hm hw)
  simpa [Anc] using this
 | call =>
  have hvis:inR (hidOf (nthN (befL ops.toList) i) (S.X i).frs) x=false:=hh.1;have hanc:∀ j,j<i→(S.H j).next≤x→x<(S.H (j+1)).next→Anc ops i j:=by
   intro j h1 h2 h3;have hne:S.K j≠none:=fun e=>by have:=(O.keep (i:=j) (by omega)).2.2.2.2 e;omega
   cases hb:(nthN (befL ops.toList) i).testBit j with
   | true=>exact hb
   | false =>
    have:=inR_hidOf.2 ⟨_,f1 j h1 hne,hb,h2,h3⟩;rw[hvis]at this;cases this
  refine⟨⟨?_,fun m hm hw=>?_,fun m hm hmn hw=>late m hm hmn hw (.inr (.inr ⟨rfl,?_⟩))⟩,fun b' hb'=>one b' hb',by simp⟩
  ·rcases O.find (i:=i) (by omega) hx with h1|⟨j,h1,h2,h3⟩
   ·exact .inl h1
   ·exact .inr ⟨j,h1,hanc j h1 h2 h3,h2,h3⟩
  ·simp only[okK]at hok;have:=List.all_eq_true.1 hok _ (f3 m x hm hw);simp only at this;rw[hvis,Bool.or_false]at this;exact this
  ·rw[Bool.eq_false_iff];intro hc;obtain⟨p,h1,h2,h3,h4⟩:=inR_hidOf.1 hc;obtain⟨g1,g2,_⟩:=O.fx (i:=m) (by omega)
   obtain⟨h5,h6,h7⟩:=g2 p h1;rw[h6]at h3;rw[h7]at h4;rcases Nat.lt_or_ge p.1 i with hl|hl
   ·have:=hanc p.1 hl h3 h4;unfold Anc at this;rw[h2]at this;cases this
   ·have:=O.mono (i:=i) (j:=p.1) hl (by omega);omega
end
section
variable {P:Program} {G:Nat} {rec:Ev} {ops:Array Oper} {S:Seq P G rec ops.toList.toArray}
theorem tmp_row {bef:List Nat} {L:List Oper}:∀ {l:List Oper} {i k:Nat} {o:Oper},tmpOk L bef l i=true→l[k]?=some o→∀ (j:Nat) (p:Oper) (d:Tmp),L[j]?=some p→i+k≠j→o.dst=some d→d ∈ tmpsOf p++guardT L p →
  p.dst≠some d∧(i+k<j→(nthN bef j).testBit (i+k)=true)∧(j<i+k→(nthN bef (i+k)).testBit j=true)
 | [],_,_,_,_,h=>by simp at h
 | q::l,i,0,o,hT,h=>by
  simp at h;subst h;intro j p d hp hne hd hm;simp only[tmpOk,Bool.and_eq_true]at hT;have:=List.all_eq_true.1 hT.1 (p,j) (List.mk_mem_zipIdx_iff_getElem?.2 hp);simp only[hd]at this;rw[Bool.or_eq_true]at this;rcases this with this|this
  ·rw[Nat.beq_eq]at this;exact absurd this hne
  ·rw[Bool.or_eq_true]at this;rcases this with this|this
   ·rw[Bool.not_eq_true',← Bool.not_eq_true,List.contains_iff_mem]at this;exact absurd hm this
   ·rw[Bool.and_eq_true]at this;obtain⟨h1,h2⟩:=this;refine⟨fun e=>by rw[e]at h1;simp at h1,fun hlt=>?_,fun hlt=>?_⟩
    ·have:Nat.blt i j=true:=by rw[Nat.blt_eq];exact hlt
     rw[this,cond_true]at h2;exact h2
    ·have:Nat.blt i j=false:=by
      rw[Bool.eq_false_iff];intro h;rw[Nat.blt_eq]at h;omega
     rw[this,cond_false]at h2;exact h2
 | q::l,i,k+1,o,hT,h=>by
  simp only[tmpOk,Bool.and_eq_true]at hT;have:=tmp_row hT.2 (k:=k) (by simpa using h)
  rwa [show i+1+k=i+(k+1) from by omega]at this
theorem SOk.tmpAt (O:SOk P G rec ops S) {i j:Nat} {oi oj:Oper} (hi:ops[i]?=some oi) (hj:ops[j]?=some oj) (hne:i≠j) {d:Tmp} (hd:oi.dst=some d) (hm:d ∈ tmpsOf oj++guardT ops.toList oj):oj.dst≠some d∧(i<j→Anc ops j i)∧(j<i→Anc ops i j):=by
 have:=tmp_row O.tmp (k:=i) (by rw[Array.getElem?_toList];exact hi) j oj d (by rw[Array.getElem?_toList];exact hj) (by omega) hd hm
 simpa [Anc] using this
def dstO (ops:Array Oper) (k:Nat):Option Tmp:=(ops[k]?).bind (·.dst)
open Classical in
noncomputable def TD (S:Seq P G rec ops.toList.toArray) (D:Nat→Prop):Nat→List Value
 | 0=>S.T 0
 | k+1=>if D k then putA (TD S D k) (dstO ops k) (S.V k) else TD S D k
theorem TD_yes {D:Nat→Prop} {k:Nat} (h:D k):TD S D (k+1)=putA (TD S D k) (dstO ops k) (S.V k):=by simp only[TD];rw[if_pos h]
theorem TD_no {D:Nat→Prop} {k:Nat} (h:¬ D k):TD S D (k+1)=TD S D k:=by simp only[TD];rw[if_neg h]
theorem SOk.step (O:SOk P G rec ops S) {k:Nat} (hk:k<ops.size):S.T (k+1)=putA (S.T k) (dstO ops k) (S.V k):=by
 obtain⟨o,h1,_,h2,_⟩:=O.oper hk;rw[h2,dstO,h1];rfl
theorem TD_len {D:Nat→Prop} (O:SOk P G rec ops S):∀ {k:Nat},k≤ops.size→(TD S D k).length=(S.T k).length
 | 0,_=>rfl
 | k+1,h=>by
  rw[O.step (by omega),putA_len]
  by_cases hD:D k
  ·rw[TD_yes hD,putA_len,TD_len O (by omega)]
  ·rw[TD_no hD,TD_len O (by omega)]
theorem SOk.temps (O:SOk P G rec ops S) {D:Nat→Prop} {i x:Nat} {o:Oper} (hd:∀ i<ops.size,D i→∀ j,Anc ops i j→D j) (ha:∀ j,Anc ops i j→D j) (hn:¬ D i) (hi:ops[i]?=some o) (hx:x ∈ tmpsOf o++guardT ops.toList o):nth (TD S D ops.size) x=nth (S.T i) x:=by
 have hlt:i<ops.size:=(Array.getElem?_eq_some_iff.1 hi).1;have late:∀ k,i≤k→k≤ops.size→nth (TD S D k) x=nth (TD S D i) x:=by
  intro k
  induction k with
  | zero=>intro h _;rw[Nat.le_zero.1 h]
  | succ k ih =>
   intro h1 h2;rcases Nat.eq_or_lt_of_le h1 with e|h1
   ·rw[e]
   ·rw[← ih (by omega) (by omega)]
    by_cases hD:D k
    ·rw[TD_yes hD];refine putA_ne (fun e=>?_)
     obtain⟨ok,hok,_,_⟩:=O.oper (i:=k) (by omega)
     have hdk:ok.dst=some x:=by simpa [dstO,hok] using e
     have hne:k≠i:=fun e=>hn (e ▸ hD)
     exact hn (hd k (by omega) hD i ((O.tmpAt hok hi hne hdk hx).2.2 (by omega)))
    ·rw[TD_no hD]
 have early:∀ k,k≤i→nth (TD S D k) x=nth (S.T k) x:=by
  intro k
  induction k with
  | zero=>intro _;rfl
  | succ k ih =>
   intro h1;have ih:=ih (by omega)
   rw[O.step (by omega)]
   obtain⟨ok,hok,_,_⟩:=O.oper (i:=k) (by omega)
   have hdk:dstO ops k=ok.dst:=by simp[dstO,hok]
   by_cases hD:D k
   ·rw[TD_yes hD,hdk]
    cases e:ok.dst with
    | none=>exact ih
    | some d =>
     by_cases hdx:d=x
     ·subst hdx;exact nth_set_eq _ _ _ _ (TD_len O (by omega))
     ·rw[putA_ne (by simpa using hdx),putA_ne (by simpa using hdx)];exact ih
   ·rw[TD_no hD,hdk,putA_ne (fun e=>?_)]
    ·exact ih
    ·exact hD (ha k ((O.tmpAt hok hi (by omega) e hx).2.1 (by omega)))
 rw[late _ (by omega) (Nat.le_refl _),early i (Nat.le_refl _)]
def Add (D:Nat→Prop) (i:Nat) (k:Nat):Prop:=D k∨k=i
theorem SOk.tempsAdd (O:SOk P G rec ops S) {D:Nat→Prop} {i:Nat} (hn:¬ D i) (hi:i<ops.size):TD S (Add D i) ops.size=putA (TD S D ops.size) (dstO ops i) (S.V i):=by
 have early:∀ k,k≤i→TD S (Add D i) k=TD S D k:=by
  intro k
  induction k with
  | zero=>intro _;rfl
  | succ k ih =>
   intro h
   by_cases hD:D k
   ·rw[TD_yes hD,TD_yes (D:=Add D i) (.inl hD),ih (by omega)]
   ·rw[TD_no hD,TD_no (D:=Add D i) (fun h'=>h'.elim hD (fun e=>by omega)),ih (by omega)]
 have late:∀ k,i<k→k≤ops.size→TD S (Add D i) k=putA (TD S D k) (dstO ops i) (S.V i):=by
  intro k
  induction k with
  | zero=>intro h _;omega
  | succ k ih =>
   intro h1 h2;rcases Nat.eq_or_lt_of_le (Nat.lt_succ_iff.1 h1) with e|h1
   ·subst e;rw[TD_yes (D:=Add D i) (.inr rfl),TD_no hn,early i (Nat.le_refl _)]
   ·have ih:=ih h1 (by omega)
    by_cases hD:D k
    ·rw[TD_yes hD,TD_yes (D:=Add D i) (.inl hD),ih];refine putA_comm ?_
     obtain⟨oi,hoi,_,_⟩:=O.oper hi;obtain⟨ok,hok,_,_⟩:=O.oper (i:=k) (by omega)
     have e1:dstO ops i=oi.dst:=by simp[dstO,hoi]
     have e2:dstO ops k=ok.dst:=by simp[dstO,hok]
     rw[e1,e2]
     cases h3:oi.dst with
     | none=>exact .inl rfl
     | some d =>
      refine .inr (.inr (fun e=>?_))
      have hm:d ∈ tmpsOf ok++guardT ops.toList ok:=by
       rw[List.mem_append];left;unfold tmpsOf;rw[← e];simp
      exact(O.tmpAt hoi hok (by omega) h3 hm).1 e.symm
    ·rw[TD_no hD,TD_no (D:=Add D i) (fun h'=>h'.elim hD (fun e=>by omega)),ih]
 exact late _ hi (Nat.le_refl _)
theorem SOk.tempsAll (O:SOk P G rec ops S) {D:Nat→Prop} (hD:∀ i<ops.size,D i):∀ {k:Nat},k≤ops.size→TD S D k=S.T k
 | 0,_=>rfl
 | k+1,h=>by rw[TD_yes (hD k (by omega)),SOk.tempsAll O hD (by omega),O.step (by omega)]
theorem SOk.touchAdd (O:SOk P G rec ops S) {D:Nat→Prop} {i x:Nat} (hd:∀ i<ops.size,D i→∀ j,Anc ops i j→D j) (hn:¬ D i) (hi:i<ops.size) (hT:Tch S i x):Cn S (Add D i) ops.size x=(S.H (i+1)).t.get x:=by
 rw[Cn_late (i:=i+1) hi (fun k h1 h2 hk=>?_)]
 ·exact Cn_yes ⟨.inr rfl,hT⟩
 ·obtain⟨hD,hK⟩:=hk;have hDk:D k:=hD.elim id (fun e=>by omega)
  have hanc:∀ (h:Anc ops k i),False:=fun h=>hn (hd k h2 hDk i h)
  obtain⟨f1,f2,f3,f4,f5⟩:=O.fx (i:=k) (by omega)
  rcases hK with hK|⟨h3,h4⟩
  ·obtain⟨ok,_,_,_,h⟩:=O.oper h2;have hok:okK (.write x) (befL ops.toList) k (S.X k) (S.H k)=true:=by
    rcases h with ⟨hk',_⟩|⟨k',h1,hk',_,hok,_⟩
    ·rw[hk']at hK;cases hK
    ·rw[hk']at hK;cases hK;exact hok
   simp only[okK,Bool.and_eq_true]at hok;rcases hT with hT|⟨h5,h6⟩
   ·have:=List.all_eq_true.1 hok.1.1.1.1.2 _ (f3 i x (by omega) hT)
    exact hanc (by simpa [Anc] using this)
   ·have hne:S.K i≠none:=fun e=>by have:=(O.keep hi).2.2.2.2 e;omega
    have:=List.all_eq_true.1 hok.1.1.1.1.1 _ (f1 i (by omega) hne)
    simp only[Bool.or_eq_true,Bool.not_eq_true',Bool.and_eq_false_iff]at this;rcases this with h|h|h
    ·exact hanc h
    ·have:=ble_no h;omega
    ·have:=blt_no h;omega
  ·rcases hT with hT|⟨h5,h6⟩
   ·obtain⟨⟨ob,hob⟩,_⟩:=O.wr hi hT;have:=(AH.get_parts hob).1;have:=O.mono (i:=i) (j:=k) (by omega) (by omega)
    omega
   ·have:=O.uniq (i:=i) (j:=k) hi h2 h5 h6 h3 h4;omega
theorem Cn_add_no {D:Nat→Prop} {i x:Nat} (hT:¬ Tch S i x):∀ k,Cn S (Add D i) k x=Cn S D k x
 | 0=>rfl
 | k+1=>by
  by_cases h:D k∧Tch S k x
  ·rw[Cn_yes h,Cn_yes (D:=Add D i) ⟨.inl h.1,h.2⟩]
  ·rw[Cn_no h,Cn_no (D:=Add D i) (fun h'=>h'.1.elim (fun hD=>h ⟨hD,h'.2⟩) (fun e=>hT (e ▸ h'.2))),Cn_add_no hT k]
theorem SOk.seqLive (O:SOk P G rec ops S) {x:Nat} (hx:x<(S.H 0).next):∀ {k:Nat} {ob:AObj},k≤ops.size→(S.H k).t.get x=some ob→∃ o0,(S.H 0).t.get x=some o0
 | 0,ob,_,h=>⟨ob,h⟩
 | k+1,ob,hk,h=>by
  by_cases hw:S.K k=some (.write x)
  ·obtain⟨⟨ob',hob⟩,_⟩:=O.wr (by omega) hw
   exact SOk.seqLive O hx (k:=k) (by omega) (AH.get_parts hob).2.2
  ·have:=O.mono (i:=0) (j:=k) (Nat.zero_le _) (by omega)
   rw[(O.keep (i:=k) (by omega)).2.2.2.1 x (by omega) hw]at h
   exact SOk.seqLive O hx (k:=k) (by omega) h
theorem SOk.cnLive (O:SOk P G rec ops S) {D:Nat→Prop} {x:Nat} (hx:x<(S.H 0).next):∀ {k:Nat} {ob:AObj},k≤ops.size→Cn S D k x=some ob→∃ o0,(S.H 0).t.get x=some o0
 | 0,ob,_,h=>⟨ob,by rw[Cn_zero hx]at h;exact h⟩
 | k+1,ob,hk,h=>by
  by_cases hc:D k∧Tch S k x
  ·rw[Cn_yes hc]at h;exact O.seqLive hx hk h
  ·rw[Cn_no hc]at h;exact SOk.cnLive O hx (by omega) h
theorem SOk.cnSame (O:SOk P G rec ops S) {D:Nat→Prop} {x:Nat} (hx:x<(S.H 0).next) (hs:x<(S.H 0).floor∨inR (S.H 0).hid x=true):∀ {k:Nat},k≤ops.size→Cn S D k x=(S.H 0).t.get x
 | 0,_=>Cn_zero hx
 | k+1,hk=>by
  rw[Cn_no (fun hc=>?_),SOk.cnSame O hx hs (by omega)]
  have hfix:=O.fix (i:=k) (by omega)
  rcases hc.2 with hw|⟨h1,_⟩
  ·obtain⟨⟨ob,hob⟩,hf⟩:=O.wr (by omega) hw
   rcases hs with hs|hs
   ·rw[hfix.2]at hf;omega
   ·have:=AH.get_hid hob;rw[hfix.1,hs]at this;cases this
  ·have:=O.mono (i:=0) (j:=k) (Nat.zero_le _) (by omega);omega
theorem SOk.cnAll (O:SOk P G rec ops S) {D:Nat→Prop} (hD:∀ i<ops.size,D i) {x:Nat}:∀ {k:Nat},k≤ops.size→x<(S.H k).next→Cn S D k x=(S.H k).t.get x
 | 0,_,hx=>Cn_zero hx
 | k+1,hk,hx=>by
  by_cases hT:Tch S k x
  ·exact Cn_yes ⟨hD k (by omega),hT⟩
  ·rw[Cn_no (fun h=>hT h.2)]
   have hxk:x<(S.H k).next:=by
    rcases Nat.lt_or_ge x (S.H k).next with h|h
    ·exact h
    ·exact absurd (.inr ⟨h,hx⟩) hT
   rw[SOk.cnAll O hD (by omega) hxk]
   exact((O.keep (i:=k) (by omega)).2.2.2.1 x hxk (fun h=>hT (.inl h))).symm
theorem tr_range (T:Tr) (f:Nat→Option AObj) (lo:Nat):∀ c,∃ T':Tr,∀ x,T'.get x=if lo≤x∧x<lo+c then f x else T.get x
 | 0=>⟨T,fun x=>by rw[if_neg (by omega)]⟩
 | c+1=>by
  obtain⟨T',h⟩:=tr_range T f lo c;refine⟨T'.set (lo+c) (f (lo+c)),fun x=>?_⟩
  rw[Tr.get_set,h]
  by_cases e:x=lo+c
  ·subst e;rw[if_pos rfl,if_pos (by omega)]
  ·rw[if_neg e]
   by_cases h2:lo≤x∧x<lo+c
   ·rw[if_pos h2,if_pos (by omega)]
   ·rw[if_neg h2,if_neg (by omega)]
theorem tr_ex (O:SOk P G rec ops S) (D:Nat→Prop):∀ k,k≤ops.size→∃ T:Tr,∀ x,T.get x=Cn S D k x
 | 0,_=>by
  obtain⟨T,h⟩:=tr_range .lf (fun x=>(S.H 0).t.get x) 0 (S.H 0).next
  refine⟨T,fun x=>?_⟩
  rw[h]
  by_cases hx:x<(S.H 0).next
  ·rw[if_pos (by omega),Cn_zero hx]
  ·rw[if_neg (by omega)]
   simp only[Cn];rw[if_neg hx];rfl
 | k+1,hk=>by
  obtain⟨T,h⟩:=tr_ex O D k (by omega)
  by_cases hD:D k
  ·obtain⟨T1,h1⟩:=tr_range T (fun x=>(S.H (k+1)).t.get x) (S.H k).next ((S.H (k+1)).next - (S.H k).next)
   have hm:=(O.keep (i:=k) (by omega)).1
   by_cases hw:∃ b,S.K k=some (.write b)
   ·obtain⟨b,hb⟩:=hw;refine⟨T1.set b ((S.H (k+1)).t.get b),fun x=>?_⟩
    rw[Tr.get_set]
    by_cases e:x=b
    ·subst e;rw[if_pos rfl,Cn_yes ⟨hD,.inl hb⟩]
    ·rw[if_neg e,h1]
     by_cases h2:(S.H k).next≤x∧x<(S.H (k+1)).next
     ·rw[if_pos (by omega),Cn_yes ⟨hD,.inr h2⟩]
     ·rw[if_neg (by omega),Cn_no (fun h'=>h'.2.elim (fun h3=>e (by rw[hb]at h3;cases h3;rfl)) h2),h]
   ·refine⟨T1,fun x=>?_⟩
    rw[h1]
    by_cases h2:(S.H k).next≤x∧x<(S.H (k+1)).next
    ·rw[if_pos (by omega),Cn_yes ⟨hD,.inr h2⟩]
    ·rw[if_neg (by omega),Cn_no (fun h'=>h'.2.elim (fun h3=>hw ⟨x,h3⟩) h2),h]
  ·exact⟨T,fun x=>by rw[h,Cn_no (fun h'=>hD h'.1)]⟩
end
section
variable {P:Program} {G:Nat} {rec:Ev} {ops:Array Oper} {S:Seq P G rec ops.toList.toArray}
structure Inv (G:Nat) (S:Seq P G rec ops.toList.toArray) (m0:NM) (w0:World) (ds:List Deferred) (D:Nat→Prop) (m:NM) (w:World) (a:Act):Prop where
 hd:∃ hd:AH,(∀ x,hd.t.get x=Cn S D ops.size x)∧hd.next=(S.H ops.size).next∧hd.floor=(S.H 0).floor∧hd.hid=(S.H 0).hid∧MT G m hd w∧EX m0 (S.H 0) w0 m hd w
 fr:∀ k,k<ops.size→¬ D k→FreeN m (S.H k).next (S.H (k+1)).next
 tl:LR m (TD S D ops.size) a.tmps.toList
 df:a.defers=ds
theorem Inv.skip (O:SOk P G rec ops S) {m0:NM} {w0:World} {ds:List Deferred} {D:Nat→Prop} {m:NM} {w:World} {a:Act} (I:Inv G S m0 w0 ds D m w a) {i:Nat} {o:Oper} (hi:i<ops.size) (ho:ops[i]?=some o) (hn:¬ D i) (hk:S.K i=none) (hv:S.V i=undef) :
  Inv G S m0 w0 ds (Add D i) m w (a.put o.dst undef):=by
 have hT:∀ x,¬ Tch S i x:=fun x h=>by
  rcases h with h|⟨h1,h2⟩
  ·rw[hk]at h;cases h
  ·have:=(O.keep hi).2.2.2.2 hk;omega
 obtain⟨hd,h1,h2,h3,h4,h5,h6⟩:=I.hd;refine⟨⟨hd,fun x=>by rw[h1,Cn_add_no (hT x)],h2,h3,h4,h5,h6⟩,fun k hk' hD=>I.fr k hk' (fun h=>hD (.inl h)),?_,?_⟩
 ·rw[O.tempsAdd hn hi,hv,show dstO ops i=o.dst from by simp[dstO,ho]]
  exact put_ok I.tl .undef o.dst
 ·rw[← I.df];cases o.dst<;>rfl
theorem Inv.add (O:SOk P G rec ops S) (fl0:(S.H 0).floor≤(S.H 0).next) {m0:NM} {w0:World} {ds:List Deferred} {D:Nat→Prop} {m:NM} {w:World} {a:Act} (I:Inv G S m0 w0 ds D m w a) (M0:MT G m0 (S.H 0) w0) (F0:FreeN m0 (S.H 0).next (S.H ops.size).next)
  {i:Nat} {o:Oper} {k:Kd} {h1:AH} (hi:i<ops.size) (ho:ops[i]?=some o) (hd0:∀ i<ops.size,D i→∀ j,Anc ops i j→D j) (ha:∀ j,Anc ops i j→D j) (hn:¬ D i) (hk:S.K i=some k) (hH:S.H (i+1)={h1 with hid:=(S.H i).hid,floor:=(S.H i).floor}) :
  MT G m {S.H i with hid:=hidK k (nthN (befL ops.toList) i) (S.X i) (S.H i).next++(S.H i).hid,floor:=floorK k (S.H i)} w ∧
  ∀ {m':NM} {w':World} {v':Value},EX m {S.H i with hid:=hidK k (nthN (befL ops.toList) i) (S.X i) (S.H i).next++(S.H i).hid,floor:=floorK k (S.H i)} w m' h1 w'→MT G m' h1 w'→VR m' (S.V i) v'→Inv G S m0 w0 ds (Add D i) m' w' (a.put o.dst v'):=by
 obtain⟨hd,g1,g2,g3,g4,M,E⟩:=I.hd;obtain⟨L,hL⟩:∃ L:AH,({S.H i with hid:=hidK k (nthN (befL ops.toList) i) (S.X i) (S.H i).next++(S.H i).hid,floor:=floorK k (S.H i)}:AH)=L:=⟨_,rfl⟩
 have Lt:L.t=(S.H i).t:=by rw[← hL]
 have Ln:L.next=(S.H i).next:=by rw[← hL]
 have Lf:L.floor=floorK k (S.H i):=by rw[← hL]
 have Lh:L.hid=hidK k (nthN (befL ops.toList) i) (S.X i) (S.H i).next++(S.H i).hid:=by rw[← hL]
 have hfix:=O.fix (i:=i) (by omega)
 have hN0:=O.mono (i:=0) (j:=i) (Nat.zero_le _) (by omega)
 have hNn:=O.mono (i:=i) (j:=ops.size) (by omega) (Nat.le_refl _)
 have hN1:=O.mono (i:=i+1) (j:=ops.size) hi (Nat.le_refl _);have hN1':=(O.keep hi).1;have t1:∀ x,(S.H (i+1)).t.get x=h1.t.get x:=fun x=>by rw[hH]
 have n1:(S.H (i+1)).next=h1.next:=by rw[hH]
 have vis:∀ {x:Nat} {ob:AObj},L.get x=some ob→hd.get x=some ob:=by
  intro x ob hx;rw[← hL]at hx;obtain⟨hr,_,_⟩:=O.rel hi hk hx;obtain⟨p1,p2,p3⟩:=AH.get_parts hx;have p1:x<(S.H i).next:=p1;have p2:inR (hidK k (nthN (befL ops.toList) i) (S.X i) (S.H i).next++(S.H i).hid) x=false:=p2;rw[inR_app,Bool.or_eq_false_iff]at p2;rw[AH.get_of (h:=hd) (by omega) (by rw[g4,← hfix.1];exact p2.2),g1,O.content hd0 ha hn hi hr]
  exact p3
 have one:∀ {x:Nat} {ob:AObj},L.get x=some ob→L.floor≤x→k=.write x:=by
  intro x ob hx hf;have hx':=hx;rw[← hL]at hx;obtain⟨_,h2,_⟩:=O.rel hi hk hx;have hlt:=(AH.get_parts hx').1;rw[Lf]at hf
  cases k with
  | write b=>rw[h2 b (.inr rfl)]
  | _=>exact absurd hf (by show ¬ (S.H i).next≤x;omega)
 have ML:MT G m L w:=by
  refine⟨M.lt,fun n1 n2 o1 o2 b r1 r2 e1 e2 e3 e4=>M.inj n1 n2 o1 o2 b r1 r2 (vis e1) (vis e2) e3 e4,fun n ob e=>M.obj n ob (vis e),M.glob,fun n ob e=>(AH.get_parts e).1,?_⟩
  rw[Lf,Ln]
  cases k with
  | write b=>show (S.H i).floor≤_;have:=fl0;omega
  | _=>exact Nat.le_refl _
 rw[hL];refine⟨ML,fun {m' w' v'} E' M' V'=>?_⟩
 have wvis:∀ {x:Nat},S.K i=some (.write x)→∃ ob,L.get x=some ob:=by
  intro x hw;rw[hk]at hw;cases hw
  obtain⟨⟨ob,hob⟩,_⟩:=O.wr hi hk;obtain⟨p1,p2,p3⟩:=AH.get_parts hob;refine⟨ob,?_⟩
  rw[AH.get_of (by rw[Ln];exact p1) (by
   rw[Lh,inR_app,p2];simp only[hidK,inR,Bool.or_false];have q1:Nat.blt x x=false:=by rw[Bool.eq_false_iff];intro h;rw[Nat.blt_eq]at h;omega
   have q2:Nat.ble (x+1) x=false:=by rw[Bool.eq_false_iff];intro h;rw[Nat.ble_eq]at h;omega
   rw[q1,q2];simp),Lt]
  exact p3
 have tvis:∀ {x:Nat} {ob:AObj},Tch S i x→h1.t.get x=some ob→inR (S.H 0).hid x=false→h1.get x=some ob:=by
  intro x ob hT hg hh;have hx1:x<h1.next:=by
   rcases hT with hT|⟨_,h⟩
   ·obtain⟨ob',hob'⟩:=wvis hT;have:=(AH.get_parts hob').1;rw[Ln]at this;omega
   ·omega
  rw[AH.get_of hx1 (by
   rw[E'.hid,Lh,inR_app,hfix.1,hh,Bool.or_false];rcases hT with hT|⟨h2,h3⟩
   ·obtain⟨ob',hob'⟩:=wvis hT;have:=AH.get_hid hob';rw[Lh,inR_app,Bool.or_eq_false_iff]at this;exact this.1
   ·rw[Bool.eq_false_iff];intro hc
    cases k with
    | free=>simp only[hidK,inR,Bool.or_false,Bool.and_eq_true,Nat.blt_eq]at hc;omega
    | read b =>
     have hb:b<(S.H i).next:=by
      obtain⟨oi,_,_,_,h⟩:=O.oper hi;rcases h with ⟨hk',_⟩|⟨k',h1',hk',_,hok,_⟩
      ·rw[hk']at hk;cases hk
      ·rw[hk']at hk;cases hk
       simp only[okK,Bool.and_eq_true]at hok;obtain⟨ob',hob'⟩:=Option.isSome_iff_exists.1 hok.2;exact(AH.get_parts hob').1
     simp only[hidK,inR,Bool.or_false,Bool.or_eq_true,Bool.and_eq_true,Nat.blt_eq]at hc;omega
    | write b =>
     obtain⟨⟨ob',hob'⟩,_⟩:=O.wr hi hk;have hb:=(AH.get_parts hob').1;simp only[hidK,inR,Bool.or_false,Bool.or_eq_true,Bool.and_eq_true,Nat.blt_eq]at hc;omega
    | call =>
     obtain⟨p,q1,_,q3,q4⟩:=inR_hidOf.1 hc;obtain⟨f1,f2,_⟩:=O.fx (i:=i) (by omega)
     obtain⟨q5,q6,q7⟩:=f2 p q1;have:=O.mono (i:=p.1+1) (j:=i) q5 (by omega)
     omega)]
  exact hg
 obtain⟨T',hT'⟩:=tr_ex O (Add D i) ops.size (Nat.le_refl _);have vis':∀ {x:Nat} {ob:AObj},(⟨T',(S.H ops.size).next,(S.H 0).floor,(S.H 0).hid⟩:AH).get x=some ob→(Tch S i x∧h1.get x=some ob)∨(¬ Tch S i x∧hd.get x=some ob):=by
  intro x ob hx;obtain⟨p1,p2,p3⟩:=AH.get_parts hx;have p3:T'.get x=some ob:=p3;rw[hT']at p3
  by_cases hT:Tch S i x
  ·rw[O.touchAdd hd0 hn hi hT,t1]at p3;exact .inl ⟨hT,tvis hT p3 p2⟩
  ·rw[Cn_add_no hT]at p3;refine .inr ⟨hT,?_⟩
   rw[AH.get_of (h:=hd) (by rw[g2];exact p1) (by rw[g4];exact p2),g1]
   exact p3
 have keepB:∀ {x:Nat} {ob:AObj} {b:Nat} {r:Option (Nat × Nat)},¬ Tch S i x→hd.get x=some ob→m x=some (b,r)→w'.heap[b]?=w.heap[b]?:=by
  intro x ob b r hT hg hm;refine E'.old b (M.lt x b r hm) (fun n1 o1 r1 hf hg1 hm1=>?_)
  have hw:=one hg1 hf;subst hw;have:=M.inj x n1 ob o1 b r r1 hg (vis hg1) hm hm1;subst this;exact hT (.inl hk)
 have newX:∀ {x b:Nat} {r:Option (Nat × Nat)},m x=none→m' x=some (b,r)→w.heap.size≤b∨∃ n0 o0 r0,k=.write n0∧L.get n0=some o0∧m n0=some (b,r0):=by
  intro x b r e1 e2;rcases E'.newb x b r e1 e2 with h|⟨n0,o0,r0,hf,hg,hm⟩
  ·exact .inl h
  ·exact .inr ⟨n0,o0,r0,one hg hf,hg,hm⟩
 have old0:∀ {n0 b:Nat} {o0:AObj} {r0:Option (Nat × Nat)},k=.write n0→L.get n0=some o0→m n0=some (b,r0)→w0.heap.size≤b∨∃ n2 o2 r2,(S.H 0).floor≤n2∧(S.H 0).get n2=some o2∧m0 n2=some (b,r2):=by
  intro n0 b o0 r0 hw hg hm
  cases h0:m0 n0 with
  | none=>exact E.newb n0 b r0 h0 hm
  | some y =>
   have:=E.mono n0 y h0;rw[hm]at this;cases this
   have hlt:n0<(S.H 0).next:=by
    rcases Nat.lt_or_ge n0 (S.H 0).next with h|h
    ·exact h
    ·have hx:=(AH.get_parts hg).1;rw[Ln]at hx;rw[F0 n0 h (by omega)]at h0;cases h0
   obtain⟨o2,ho2⟩:=E.live n0 o0 hlt (vis hg);subst hw;have:=(O.wr hi hk).2;rw[hfix.2]at this;exact .inr ⟨n0,o2,r0,this,ho2,h0⟩
 have sameM:∀ {x:Nat} {ob:AObj},hd.get x=some ob→∃ b r,m x=some (b,r)∧m' x=some (b,r):=by
  intro x ob hg;obtain⟨b,r,_,h,_,_⟩:=M.obj x ob hg;exact⟨b,r,h,E'.mono _ _ h⟩
 have cross:∀ {x1 x2:Nat} {o1 o2:AObj} {b:Nat} {r1 r2:Option (Nat × Nat)},Tch S i x1→h1.get x1=some o1→¬ Tch S i x2→hd.get x2=some o2→m' x1=some (b,r1)→m' x2=some (b,r2)→False:=by
  intro x1 x2 o1 o2 b r1 r2 hT1 hg1 hT2 hg2 e1 e2;obtain⟨b',r',k1,k2⟩:=sameM hg2;rw[e2]at k2;cases k2
  have hb:=M.lt x2 b r2 k1;rcases hT1 with hw|⟨h2,h3⟩
  ·obtain⟨ob,hob⟩:=wvis hw;obtain⟨b',r',k3,k4⟩:=sameM (vis hob);rw[e1]at k4;cases k4
   have:=M.inj x1 x2 ob o2 b r1 r2 (vis hob) hg2 k3 k1;subst this;exact hT2 (.inl hw)
  ·rcases newX (I.fr i hi hn x1 h2 h3) e1 with h|⟨n0,o0,r0,hw,hg,hm⟩
   ·omega
   ·have:=M.inj n0 x2 o0 o2 b r0 r2 (vis hg) hg2 hm k1;subst this;exact hT2 (.inl (by rw[hk,hw]))
 refine⟨⟨⟨T',(S.H ops.size).next,(S.H 0).floor,(S.H 0).hid⟩,hT',rfl,rfl,rfl,⟨M'.lt,?_,?_,M'.glob,fun n ob e=>(AH.get_parts e).1,by show (S.H 0).floor≤(S.H ops.size).next;have:=fl0;omega⟩,⟨fun n x e=>E'.mono _ _ (E.mono _ _ e),?_,?_,by show (S.H 0).next≤(S.H ops.size).next;omega,rfl,rfl,?_,?_,?_,E'.os.trans E.os,E'.tape.trans E.tape,E'.output.trans E.output,Nat.le_trans E.size E'.size,?_⟩⟩,?_,?_,?_⟩
 ·intro n1 n2 o1 o2 b r1 r2 e1 e2 e3 e4;rcases vis' e1 with ⟨a1,a2⟩|⟨a1,a2⟩<;>rcases vis' e2 with ⟨c1,c2⟩|⟨c1,c2⟩
  ·exact M'.inj n1 n2 o1 o2 b r1 r2 a2 c2 e3 e4
  ·exact(cross a1 a2 c1 c2 e3 e4).elim
  ·exact(cross c1 c2 a1 a2 e4 e3).elim
  ·obtain⟨b',r',k1,k2⟩:=sameM a2;rw[e3]at k2;cases k2
   obtain⟨b',r',k3,k4⟩:=sameM c2;rw[e4]at k4;cases k4
   exact M.inj n1 n2 o1 o2 b r1 r2 a2 c2 k1 k3
 ·intro n ob e;rcases vis' e with ⟨a1,a2⟩|⟨a1,a2⟩
  ·exact M'.obj n ob a2
  ·obtain⟨b,r,o',k1,k2,k3⟩:=M.obj n ob a2;exact⟨b,r,o',E'.mono _ _ k1,(keepB a1 a2 k1).trans k2,k3.mono E'.mono⟩
 ·intro n hnn;have hnn:¬ ((S.H 0).next≤n∧n<(S.H ops.size).next):=hnn;rw[E'.same n (by rw[Ln,← n1];omega),E.same n (by rw[g2];exact hnn)]
 ·intro n b r e1 e2
  cases h0:m n with
  | some y =>
   have:=E'.mono n y h0;rw[e2]at this;cases this
   exact E.newb n b r e1 h0
  | none =>
   rcases newX h0 e2 with h|⟨n0,o0,r0,hw,hg,hm⟩
   ·exact .inl (Nat.le_trans E.size h)
   ·exact old0 hw hg hm
 ·intro n ob hlt e;obtain⟨p1,p2,p3⟩:=AH.get_parts e;have p3:T'.get n=some ob:=p3;rw[hT']at p3;obtain⟨o0,h0⟩:=O.cnLive hlt (Nat.le_refl _) p3;exact⟨o0,by rw[AH.get_of hlt p2];exact h0⟩
 ·intro n hlt
  show T'.get n=_
  rw[hT'];exact O.cnSame (by have:=fl0;omega) (.inl hlt) (Nat.le_refl _)
 ·intro n hlt hh
  show T'.get n=_
  rw[hT'];exact O.cnSame hlt (.inr hh) (Nat.le_refl _)
 ·intro b hb hno;rw[E'.old b (Nat.lt_of_lt_of_le hb E.size) (fun n0 o0 r0 hf hg hm=>?_),E.old b hb hno]
  rcases old0 (one hg hf) hg hm with h|⟨n2,o2,r2,h2,h3,h4⟩
  ·omega
  ·exact hno n2 o2 r2 h2 h3 h4
 ·intro j hj hD x h2 h3;have hji:j≠i:=fun e=>hD (.inr e)
  rw[E'.same x (fun h=>?_)]
  ·exact I.fr j hj (fun h=>hD (.inl h)) x h2 h3
  ·rw[Ln,← n1]at h;exact hji (O.uniq hj hi h2 h3 h.1 h.2)
 ·rw[O.tempsAdd hn hi,show dstO ops i=o.dst from by simp[dstO,ho]]
  exact put_ok (I.tl.mono E'.mono) V' o.dst
 ·rw[← I.df];cases o.dst<;>rfl
theorem cnt_set:∀ {l:List Bool} {i:Nat},l[i]?=some false→(l.set i true).count false+1=l.count false
 | [],i,h=>by simp at h
 | b::l,0,h=>by simp at h;subst h;simp
 | b::l,i+1,h=>by
  have:=cnt_set (l:=l) (i:=i) (by simpa using h)
  simp only[List.set_cons_succ,List.count_cons];omega
theorem draw_go (O:SOk P G rec ops S) (fl0:(S.H 0).floor≤(S.H 0).next) {rr:Option Nat} {m0:NM} {w0:World} {ds:List Deferred} (M0:MT G m0 (S.H 0) w0) (F0:FreeN m0 (S.H 0).next (S.H ops.size).next) {Q:Exit→Act→World→Prop}
  (k:∀ m' w' a',EX m0 (S.H 0) w0 m' (S.H ops.size) w'→MT G m' (S.H ops.size) w'→LR m' (S.T ops.size) a'.tmps.toList→a'.defers=ds→Q .normal a' w') :
  ∀ (fuel:Nat) (L:Array Bool) (m:NM) (w:World) (a:Act),L.size=ops.size→L.toList.count false=fuel→(∀ i<ops.size,L.getD i false=true→∀ j,Anc ops i j→L.getD j false=true)→Inv G S m0 w0 ds (fun i=>L.getD i false=true) m w a→wpAnyIn (FenW rr) 0 P .any ops Q fuel L a w:=by
 have fin:∀ (L:Array Bool) (m:NM) (w:World) (a:Act),(∀ i<ops.size,L.getD i false=true)→Inv G S m0 w0 ds (fun i=>L.getD i false=true) m w a→Q .normal a w:=by
  intro L m w a hall I;obtain⟨hd,g1,g2,g3,g4,M,E⟩:=I.hd;have hfix:=O.fix (i:=ops.size) (Nat.le_refl _);have hget:∀ x,hd.get x=(S.H ops.size).get x:=by
   intro x
   by_cases hx:x<(S.H ops.size).next
   ·cases hh:inR (S.H 0).hid x with
    | true=>rw[AH.get_none (.inr (by rw[g4];exact hh)),AH.get_none (h:=S.H ops.size) (.inr (by rw[hfix.1];exact hh))]
    | false =>
     rw[AH.get_of (h:=hd) (by rw[g2];exact hx) (by rw[g4];exact hh),AH.get_of (h:=S.H ops.size) hx (by rw[hfix.1];exact hh),g1]
     exact O.cnAll hall (Nat.le_refl _) hx
   ·rw[AH.get_none (h:=hd) (.inl (by rw[g2];omega)),AH.get_none (h:=S.H ops.size) (.inl (by omega))]
  have hN0:=O.mono (i:=0) (j:=ops.size) (Nat.zero_le _) (Nat.le_refl _);refine k m w a ⟨E.mono,?_,E.newb,hN0,hfix.2,hfix.1,?_,?_,?_,E.os,E.tape,E.output,E.size,E.old⟩ ⟨M.lt,?_,?_,M.glob,fun n ob e=>(AH.get_parts e).1,?_⟩ ?_ I.df
  ·intro n hn;exact E.same n (by rw[g2];exact hn)
  ·intro n ob hlt e;exact E.live n ob hlt (by rw[hget];exact e)
  ·intro n hlt;have h0:=fl0;rw[← O.cnAll (D:=fun i=>L.getD i false=true) hall (Nat.le_refl _) (by omega),O.cnSame (by omega) (.inl hlt) (Nat.le_refl _)]
  ·intro n hlt hh;rw[← O.cnAll (D:=fun i=>L.getD i false=true) hall (Nat.le_refl _) (by omega),O.cnSame hlt (.inr hh) (Nat.le_refl _)]
  ·intro n1 n2 o1 o2 b r1 r2 e1 e2;exact M.inj n1 n2 o1 o2 b r1 r2 (by rw[hget];exact e1) (by rw[hget];exact e2)
  ·intro n ob e;exact M.obj n ob (by rw[hget];exact e)
  ·rw[hfix.2];have:=fl0;omega
  ·have:=I.tl;rw[O.tempsAll hall (Nat.le_refl _)]at this;exact this
 intro fuel
 induction fuel with
 | zero =>
  intro L m w a hs hc hd I;have hall:∀ i<ops.size,L.getD i false=true:=by
   intro i hi;have hne:false ∉ L.toList:=List.count_eq_zero.1 hc;have h1:L[i]?=some L[i]:=Array.getElem?_eq_getElem (by omega)
   have h2:L[i] ∈ L.toList:=by simp
   simp only[Array.getD_eq_getD_getElem?,h1,Option.getD_some]
   cases h3:L[i] with
   | true=>rfl
   | false=>rw[h3]at h2;exact absurd h2 hne
  refine⟨?_,fin L m w a hall I⟩;apply List.eq_nil_iff_forall_not_mem.2;intro i hi;obtain⟨h1,h2,_⟩:=anc_ready O.edg hd hi;have h3:=hall i h1;have h4:L[i]?=some L[i]:=Array.getElem?_eq_getElem (by omega)
  simp only[Array.getD_eq_getD_getElem?,h4,Option.getD_some]at h2 h3;rw[h2]at h3;cases h3
 | succ fuel ih =>
  intro L m w a hs hc hd I;refine⟨fun hr=>fin L m w a (ready_nil O.edg hs hr) I,fun i hir=>?_⟩
  obtain⟨hi,hLi,hanc⟩:=anc_ready O.edg hd hir;have h4:L[i]?=some L[i]:=Array.getElem?_eq_getElem (by omega)
  have hLf:L[i]?=some false:=by
   simp only[Array.getD_eq_getD_getElem?,h4,Option.getD_some]at hLi;rw[h4,hLi]
  have hn:¬ (L.getD i false=true):=by
   simp only[Array.getD_eq_getD_getElem?,hLf,Option.getD_some];simp
  have hset:∀ j,(L.setIfInBounds i true).getD j false=true↔(L.getD j false=true∨j=i):=by
   intro j;simp only[Array.getD_eq_getD_getElem?,Array.getElem?_setIfInBounds]
   by_cases e:i=j
   ·subst e;rw[if_pos rfl,if_pos (by omega)]
    simp
   ·rw[if_neg e];constructor
    ·exact .inl
    ·rintro(h|h)
     ·exact h
     ·exact absurd h.symm e
  have hset':(fun j=>(L.setIfInBounds i true).getD j false=true)=Add (fun j=>L.getD j false=true) i:=by
   funext j;exact propext (hset j)
  have go:∀ m' w' a',Inv G S m0 w0 ds (Add (fun j=>L.getD j false=true) i) m' w' a'→wpAnyIn (FenW rr) 0 P .any ops Q fuel (L.setIfInBounds i true) a' w':=by
   intro m' w' a' I';refine ih _ m' w' a' (by simpa using hs) ?_ ?_ (by rw[hset'];exact I')
   ·have:=cnt_set (l:=L.toList) (i:=i) (by rw[Array.getElem?_toList];exact hLf)
    rw[Array.toList_setIfInBounds];omega
   ·intro j hj hLj q hq;rw[hset]at hLj ⊢;rcases hLj with h|rfl
    ·exact .inl (hd j hj h q hq)
    ·exact .inl (hanc q hq)
  obtain⟨o,ho,hol,hstep,hcase⟩:=O.oper hi;have htm:∀ x ∈ tmpsOf o++guardT ops.toList o,nth (TD S (fun j=>L.getD j false=true) ops.size) x=nth (S.T i) x:=fun x hx=>O.temps hd hanc hn ho hx
  unfold wpOpIn;rw[ho];simp only;rw[wanted_ok (o:=o) I.tl,wantedA_congr (fun x hx=>htm x (List.mem_append_right _ hx))]
  rcases hcase with ⟨hk,hw,hv,hH,hX⟩|⟨kd,h1,hk,hw,hok,he,hH,hX⟩
  ·rw[hw];simp only[Bool.false_eq_true,if_false];exact⟨fun _ _=>trivial,go m w _ (I.skip O hi ho hn hk hv)⟩
  ·rw[hw];simp only[if_true];obtain⟨ML,hadd⟩:=I.add O fl0 M0 F0 hi ho hd hanc hn hk hH;rw[evAny_congr (t':=TD S (fun j=>L.getD j false=true) ops.size) (fun x hx=>(htm x (List.mem_append_left _ hx)).symm)]at he
   have n1:(S.H (i+1)).next=h1.next:=by rw[hH]
   exact(evAny_ok O.R0 he).2 rr m w a ML (by show FreeN m (S.H i).next h1.next;rw[← n1];exact I.fr i hi hn) I.tl _ Q (fun m' v' w' E' M' V'=>go m' w' _ (hadd E' M' V'))
end
theorem draw_ok {P:Program} {G:Nat} (hm:P.follows .mixedOrders=true) (rec:Ev) (R0:RecOk P G rec):DrawOk P G rec:=by
 intro ops t t' h h' hT e;rw[Bool.and_eq_true]at hT;obtain⟨S,s1,s2,s3,s4,s5,s6⟩:=draw_seq e;simp only[Nat.zero_add,Array.length_toList]at s4 s5 s6;have O:SOk P G rec ops S:=⟨R0,s6,s3,hT.1,hT.2⟩;subst s1 s2 s4 s5;have hfix:=O.fix (i:=ops.size) (Nat.le_refl _);refine⟨⟨O.mono (Nat.zero_le _) (Nat.le_refl _),hfix.2,hfix.1,fun n hn hk=>?_⟩,fun rr m w a id M F T Q k=>wpIn_region_any hm ?_⟩
 ·have:∀ k,k≤ops.size→(S.H k).t.get n=(S.H 0).t.get n:=by
   intro k
   induction k with
   | zero=>intro _;rfl
   | succ k ih =>
    intro hk';have hNk:=O.mono (i:=0) (j:=k) (Nat.zero_le _) (by omega)
    rw[(O.keep (i:=k) (by omega)).2.2.2.1 n (by omega) (fun hw=>?_),ih (by omega)]
    have hf:=O.fix (i:=k) (by omega)
    obtain⟨⟨ob,hob⟩,hfl⟩:=O.wr (by omega) hw
    rcases hk with h|h
    ·rw[hf.2]at hfl;omega
    ·have:=AH.get_hid hob;rw[hf.1,h]at this;cases this
  exact this _ (Nat.le_refl _)
 ·have M1:MT G m (S.H 0) {w with drawn:=w.drawn+1}:=⟨M.lt,M.inj,M.obj,M.glob,M.dom,M.fl⟩
  have E1:EX m (S.H 0) w m (S.H 0) {w with drawn:=w.drawn+1}:=by
   have:=EX.refl m (S.H 0) w;exact⟨this.mono,this.same,this.newb,this.next,this.floor,this.hid,this.live,this.low,this.hidt,rfl,rfl,rfl,Nat.le_refl _,fun _ _ _=>rfl⟩
  have hno:∀ i,i<ops.size→¬ ((Array.replicate ops.size false).getD i false=true):=by
   intro i hi;simp[Array.getD_eq_getD_getElem?,hi]
  have hcn:∀ x k,k≤ops.size→Cn S (fun i=>(Array.replicate ops.size false).getD i false=true) k x=if x<(S.H 0).next then (S.H 0).t.get x else none:=by
   intro x k
   induction k with
   | zero=>intro _;rfl
   | succ k ih=>intro hk;rw[Cn_no (fun h=>hno k (by omega) h.1),ih (by omega)]
  have htd:∀ k,k≤ops.size→TD S (fun i=>(Array.replicate ops.size false).getD i false=true) k=S.T 0:=by
   intro k
   induction k with
   | zero=>intro _;rfl
   | succ k ih=>intro hk;rw[TD_no (hno k (by omega)),ih (by omega)]
  have hN:=O.mono (i:=0) (j:=ops.size) (Nat.zero_le _) (Nat.le_refl _);obtain⟨T0,hT0⟩:=tr_ex O (fun i=>(Array.replicate ops.size false).getD i false=true) ops.size (Nat.le_refl _)
  have hT0':∀ x,T0.get x=if x<(S.H 0).next then (S.H 0).t.get x else none:=fun x=>(hT0 x).trans (hcn x _ (Nat.le_refl _))
  have hget:∀ x,(⟨T0,(S.H ops.size).next,(S.H 0).floor,(S.H 0).hid⟩:AH).get x=(S.H 0).get x:=by
   intro x
   by_cases hx:x<(S.H 0).next
   ·cases hh:inR (S.H 0).hid x with
    | true =>
     rw[AH.get_none (h:=S.H 0) (.inr hh)];exact AH.get_none (.inr hh)
    | false =>
     rw[AH.get_of (h:=⟨T0,(S.H ops.size).next,(S.H 0).floor,(S.H 0).hid⟩) (Nat.lt_of_lt_of_le hx hN) hh,AH.get_of (h:=S.H 0) hx hh]
     show T0.get x=_
     rw[hT0',if_pos hx]
   ·rw[AH.get_none (h:=S.H 0) (.inl (by omega))]
    cases hg:(⟨T0,(S.H ops.size).next,(S.H 0).floor,(S.H 0).hid⟩:AH).get x with
    | none=>rfl
    | some ob =>
     have:=(AH.get_parts hg).2.2;have this:T0.get x=some ob:=this;rw[hT0',if_neg hx]at this;cases this
  have hfl:=M.fl;refine draw_go O M.fl (m0:=m) (w0:=w) (ds:=a.defers) M F k ops.size (Array.replicate ops.size false) m _ a (by simp) (by simp[List.count_replicate]) (fun i hi h=>absurd h (hno i hi)) ⟨⟨⟨T0,(S.H ops.size).next,(S.H 0).floor,(S.H 0).hid⟩,hT0,rfl,rfl,rfl,⟨M1.lt,?_,?_,M1.glob,fun n ob e=>(AH.get_parts e).1,Nat.le_trans hfl hN⟩,⟨fun _ _ h=>h,fun _ _=>rfl,fun n b r e1 e2=>(by rw[e1]at e2;cases e2),hN,rfl,rfl,?_,?_,?_,rfl,rfl,rfl,Nat.le_refl _,fun _ _ _=>rfl⟩⟩,?_,?_,rfl⟩
  ·intro n1 n2 o1 o2 b r1 r2 e1 e2;rw[hget]at e1 e2;exact M1.inj n1 n2 o1 o2 b r1 r2 e1 e2
  ·intro n ob e1;rw[hget]at e1;exact M1.obj n ob e1
  ·intro n ob _ e1;rw[hget]at e1;exact⟨ob,e1⟩
  ·intro n hn
   show T0.get n=_
   rw[hT0',if_pos (by omega)]
  ·intro n hn _
   show T0.get n=_
   rw[hT0',if_pos hn]
  ·intro j hj _;exact F.le (O.mono (Nat.zero_le _) (by omega)) (O.mono hj (Nat.le_refl _))
  ·rw[htd _ (Nat.le_refl _)];exact T
theorem eng_calls {P:Program} {G n:Nat} {tr:Tr} {f:FuncId} {args:List Value} {args':Array Value} {v:Value} {h':AH} (hm:P.follows .mixedOrders=true) (e:evRun P G n tr f args=some (v,h')) {w:World} (m:NM)
  (M:MT G m ⟨tr,G,G,[]⟩ w) (F:∀ x,G≤x→m x=none) (A:LR m args args'.toList) {R:Ending→World→Prop} (k:∀ m' v' w',EX m ⟨tr,G,G,[]⟩ w m' h' w'→MT G m' h' w'→VR m' v v'→R (.returned v') w'):Calls P f args' w R :=
 callsIn_wide.1 ((evCall_ok (ev_ok (draw_ok hm) n).1 e).2.2 m w args' M (fun x h _=>F x h) A R k)
def gm (G:Nat):NM:=fun n=>if n<G then some (n,none) else none
theorem eng_true {P:Program} {G n:Nat} {tr:Tr} {f:FuncId} (hm:P.follows .mixedOrders=true) (e:isT (evRun P G n tr f [])=true) {w:World} (hG:G≤w.heap.size)
  (ho:∀ g o,g<G→tr.get g=some o→∃ o',w.heap[g]?=some o'∧OR (gm G) o none o'):Calls P f #[] w fun e w'=>e=.returned (.bool true)∧Below w.heap.size w w':=by
 cases hr:evRun P G n tr f [] with
 | none=>rw[hr]at e;cases e
 | some r =>
  obtain⟨v,h'⟩:=r;rw[hr]at e;have hv:v=.bool true:=by
   cases v with
   | bool b=>cases b<;>first|rfl|cases e
   | _=>cases e
  subst hv;have gmv:∀ {n b r},gm G n=some (b,r)→n<G∧b=n∧r=none:=by
   intro n b r h;unfold gm at h;split at h
   ·cases h;exact⟨by assumption,rfl,rfl⟩
   ·cases h
  refine eng_calls hm hr (gm G) ⟨fun n b r h=>?_,fun n1 n2 o1 o2 b r1 r2 _ _ h1 h2=>?_,fun n o h=>?_,fun g hg=>by unfold gm;rw[if_pos hg],fun n o h=>(AH.get_parts h).1,Nat.le_refl _⟩ (fun x hx=>by unfold gm;rw[if_neg (by omega)]) .nil (fun m' v' w' E M V=>⟨?_,E.os,E.tape,E.output,E.size,fun k hk=>E.old k hk (fun n o r hf hg _=>?_)⟩)
  ·obtain⟨h1,rfl,_⟩:=gmv h;omega
  ·obtain⟨_,h3,_⟩:=gmv h1;obtain⟨_,h4,_⟩:=gmv h2;rw[← h3,h4]
  ·obtain⟨p1,_,p3⟩:=AH.get_parts h;obtain⟨o',h1,h2⟩:=ho n o p1 p3;exact⟨n,none,o',by unfold gm;rw[if_pos p1],h1,h2⟩
  ·rw[V.bool_inv]
  ·have:=(AH.get_parts hg).1;have hf:G≤n:=hf;have this:n<G:=this;omega
structure WordD where
 kind:Nat
 place:Nat
 set:Nat→Nat:=emptyS
 neg:Bool:=false
 spot:Nat:=0
 lo:Int:=0
 hi:Int:=0
 lazy:Bool:=false
 on:Bool × Bool × Bool:=(false,false,false)
 off:Bool × Bool × Bool:=(false,false,false)
section
variable {P:Program} {ops:Array Oper} {rest:List Oper} {o:Oper} {a:Act} {w w0:World} {Q:Exit→Act→World→Prop} {l:List Res}
end

section
variable {M:Nat→Prop} {w0 W W':World} {l:List Res}
theorem HoldG.kn (H:HoldG M w0 W l) {i:Nat} {F:Nat→Prop} {S:World→Prop} (hi:At l i (.kn F S)):S W:=(H.all i _ hi.get).2 W (fun _ _=>rfl)
theorem HoldG.knlt (H:HoldG M w0 W l) {i:Nat} {F:Nat→Prop} {S:World→Prop} (hi:At l i (.kn F S)):∀ b,F b→b<W.heap.size:=(H.all i _ hi.get).1
theorem HoldG.know (H:HoldG M w0 W l) (F:Nat→Prop) (S:World→Prop) (hlt:∀ b,F b→b<W.heap.size) (hap:∀ (i:Nat) (r:Res),l[i]?=some r→∀ b,r.place=some b→¬ F b)
  (hS:∀ V:World,(∀ b,F b→V.heap[b]?=W.heap[b]?)→S V):HoldG M w0 W (l++[.kn F S]):=by
 refine⟨H.keep,?_,?_⟩
 ·intro j s hs;rw[List.getElem?_append]at hs;split at hs
  ·exact H.all j s hs
  ·rcases List.getElem?_eq_some_iff.1 hs with ⟨h1,h2⟩
   simp at h1;simp[h1]at h2;subst h2;exact⟨hlt,hS⟩
 ·intro j k s t hjk hs ht;rw[List.getElem?_append]at hs ht;split at hs
  ·split at ht
   ·exact H.apart j k s t hjk hs ht
   ·rcases List.getElem?_eq_some_iff.1 ht with ⟨h1,h2⟩
    simp at h1;simp[h1]at h2;subst h2;exact hap j s hs
  ·rcases List.getElem?_eq_some_iff.1 hs with ⟨h1,h2⟩
   simp at h1;simp[h1]at h2;subst h2;intro b h;cases h
def Still (l:List Res) (G:Nat→Prop):Prop:=∀ b,G b→∃ (i:Nat) (r:Res),l[i]?=some r∧r.place=none∧r.foot b
theorem Still.none:Still l (fun _=>False):=fun _ h=>h.elim
theorem Still.at {i:Nat} {F:Nat→Prop} {S:World→Prop} (hi:At l i (.kn F S)):Still l F:=fun b hb=>⟨i,_,hi.get,rfl,hb⟩
theorem Still.lt (H:HoldG M w0 W l) {G:Nat→Prop} (h:Still l G):∀ b,G b→b<W.heap.size:=fun b hb=>by
 obtain⟨j,s,hj,hs,hf⟩:=h b hb;exact(H.all j s hj).ltf b hf
end
def RdN (sz:Nat) (W:World) (F:Nat→Prop) (s:Value) (rows:List (Array Value)):Prop :=
 ∃ p cap,s=.slice p rows.length cap∧rows.length≤cap∧cap≤maxLen∧(p=none→cap=0) ∧
  ∀ (j:Nat) (r:Array Value),rows[j]?=some r→∃ b off,p=some ⟨b,off,none⟩∧F b∧r.size=sz∧∀ k,k<sz→W.cell? ⟨b,off+j * sz+k,none⟩=r[k]?
theorem RdN.kept {sz:Nat} {W V:World} {F:Nat→Prop} {s:Value} {rows:List (Array Value)} (h:RdN sz W F s rows) (hk:∀ b,F b→V.heap[b]?=W.heap[b]?):RdN sz V F s rows:=by
 obtain⟨p,cap,e,h1,h2,h0,h3⟩:=h;refine⟨p,cap,e,h1,h2,h0,fun j r hj=>?_⟩
 obtain⟨b,off,e1,e2,e3,e4⟩:=h3 j r hj;refine⟨b,off,e1,e2,e3,fun k hk'=>?_⟩
 rw[← e4 k hk'];simp[World.cell?,hk b e2]
theorem RdN.mono {sz:Nat} {W:World} {F G:Nat→Prop} {s:Value} {rows:List (Array Value)} (h:RdN sz W F s rows) (hFG:∀ b,F b→G b):RdN sz W G s rows:=by
 obtain⟨p,cap,e,h1,h2,h0,h3⟩:=h;exact⟨p,cap,e,h1,h2,h0,fun j r hj=>let ⟨b,off,e1,e2,e3⟩:=h3 j r hj;⟨b,off,e1,hFG b e2,e3⟩⟩
theorem RdN.nil (sz:Nat) (W:World) (F:Nat→Prop) (p:Option Addr):RdN sz W F (.slice p 0 0) []:=⟨p,0,rfl,Nat.le_refl _,by simp,fun _=>rfl,fun j r h=>by simp at h⟩
def flatR (rows:List (Array Value)):List Value:=(rows.map Array.toList).flatten
theorem flatR_get {sz:Nat}:∀ {rows:List (Array Value)},(∀ r ∈ rows,r.size=sz)→∀ {j:Nat} {r:Array Value} {k:Nat},rows[j]?=some r→k<sz→(flatR rows)[j * sz+k]?=r[k]?
 | [],_,_,_,_,h,_=>by simp at h
 | q::rows,hs,0,r,k,h,hk=>by
  simp at h;subst h;have h1:=hs q (List.mem_cons_self ..);simp only[flatR,List.map_cons,List.flatten_cons];rw[Nat.zero_mul,Nat.zero_add,List.getElem?_append_left (by simp;omega)]
  simp
 | q::rows,hs,j+1,r,k,h,hk=>by
  have h1:=hs q (List.mem_cons_self ..);have ih:=flatR_get (rows:=rows) (fun r hr=>hs r (List.mem_cons_of_mem _ hr)) (j:=j) (r:=r) (k:=k) (by simpa using h) hk
  simp only[flatR,List.map_cons,List.flatten_cons]at *;rw[Nat.succ_mul,List.getElem?_append_right (by simp;omega),← ih]
  simp only[Array.length_toList,h1]
  congr 1;omega
theorem RdN.of_own {sz:Nat} {w V:World} {base:Nat} {e:TypeId} {v:Value} {n:Nat} {rows:List (Array Value)} (h:w.ownsRow base e sz v n (flatR rows)) (hs:∀ r ∈ rows,r.size=sz) (hl:rows.length=n)
  (hk:∀ b,v.ownBlock=some b→V.heap[b]?=w.heap[b]?):RdN sz V (fun b=>v.ownBlock=some b) v rows:=by
 subst hl;obtain⟨_,⟨rfl,hn⟩|⟨g,cap,cur,rfl,hb,hg,hn,hc,hsz,ht⟩⟩:=h
 ·rw[List.length_eq_zero_iff.1 hn];exact RdN.nil ..
 ·refine⟨_,cap,rfl,hn,hc,(fun h=>by cases h),fun j r hj=>⟨g,0,rfl,rfl,hs r (List.mem_of_getElem? hj),fun k hk'=>?_⟩⟩
  have hg':V.heap[g]?=some (.cells cur e (0,0)):=(hk g rfl).trans hg;have hlt:=(List.getElem?_eq_some_iff.1 hj).1;rw[cell_of_row V g (0+j * sz+k) cur e (0,0) hg',Nat.zero_add,← flatR_get hs hj hk',← ht,List.getElem?_take,if_pos,Array.getElem?_toList];have:(j+1) * sz≤rows.length * sz:=Nat.mul_le_mul_right _ hlt;rw[Nat.succ_mul]at this;omega
section
variable {P:Program} {ops:Array Oper} {rest:List Oper} {o:Oper} {a:Act} {w w0:World} {Q:Exit→Act→World→Prop} {l:List Res} {M:Nat→Prop}
theorem run_load1K {T:TypeId} {x:Operand} (ho:o.op=.load T x) {ad:Addr} (hx:a.eval x=.pointer (some ad)) (hT:oneB P T=true) {v:Value} (hv:w.cell? ad=some v) :
  (execOp a.eval o).run P w=.ok (.value v) w:=by
 unfold execOp;simp only[ho,hx,Instr.loadAt,Instr.sureAddr,Sem.run_bind,Sem.run_pure,Result.andThen_ok,run_loadVar_one hT hv]
theorem own_load1K (hg:Region.wanted o (yielded ops a.tmps)=true) (T:TypeId) (x:Operand) (ho:o.op=.load T x) {ad:Addr} (hx:a.eval x=.pointer (some ad)) (hT:oneB P T=true) {v:Value} (hv:w.cell? ad=some v)
  (h:wpList P ops Q rest (a.put o.dst v) w):wpList P ops Q (o::rest) a w :=
 own_pure hg (run_load1K ho hx hT hv) h
end
section
variable {M:Nat→Prop} {w0 w:World} {l:List Res}
theorem HoldG.rowShape (H:HoldG M w0 w l) {i n sz:Nat} {e:TypeId} {v:Value} {xs:List Value} (hi:At l i (.row v e sz n xs)):∃ q cap,v=.slice q n cap∧n≤cap∧cap≤maxLen∧(0<n→∃ g,q=some ⟨g,0,none⟩):=by
 obtain⟨_,⟨hv,hn⟩|⟨g,cap,cur,hv,_,_,hn,hc,_⟩⟩:=H.all i _ hi.get
 ·exact⟨none,0,by rw[hv,hn],by omega,by simp,fun h=>by omega⟩
 ·exact⟨_,cap,hv,hn,hc,fun _=>⟨g,rfl⟩⟩
end
section
variable {M:Nat→Prop} {w0 W:World} {l:List Res}
end
structure NodeD where
 kind:Int
 set:Nat→Nat:=emptyS
 lo:Int:=0
 hi:Int:=0
 lazy:Bool:=false
 group:Int:=0
inductive Tree where
 | mk (d:NodeD) (kids:List Tree)
def Tree.d:Tree→NodeD|.mk d _=>d
def Tree.kids:Tree→List Tree|.mk _ k=>k
def nodeC (d:NodeD) (s:Value):Array Value:=#[.int .i64 d.kind,.int .u64 (d.set 0),.int .u64 (d.set 1),.int .u64 (d.set 2),.int .u64 (d.set 3),s,.int .i64 d.lo,.int .i64 d.hi,.bool d.lazy,.int .i64 d.group]
abbrev nilS:Value:=.slice none 0 0
abbrev TV:=Tree × Option Addr × Nat
abbrev nodeX (x:TV):Array Value:=nodeC x.1.d (.slice x.2.1 x.1.kids.length x.2.2)
inductive ForestR (W:World) (F:Nat→Prop):Option Addr→Nat→List Tree→Prop where
 | mk (p:Option Addr) (c:Nat) (ts:List Tree) (xs:List TV) (h:RdN 10 W F (.slice p ts.length c) (xs.map nodeX)) (hk:∀ x ∈ xs,ForestR W F x.2.1 x.2.2 x.1.kids) (e:ts=xs.map (·.1)):ForestR W F p c ts
theorem ForestR.mono {W:World} {F G:Nat→Prop} {p:Option Addr} {c:Nat} {ts:List Tree} (h:ForestR W F p c ts) (hFG:∀ b,F b→G b):ForestR W G p c ts:=by
 induction h with
 | mk p c ts xs h _ e ih=>exact .mk p c ts xs (h.mono hFG) ih e
theorem ForestR.nil (W:World) (F:Nat→Prop) (p:Option Addr):ForestR W F p 0 []:=.mk _ _ _ [] (RdN.nil ..) (fun _ h=>by cases h) rfl
def ListR (W:World) (F:Nat→Prop) (xs:List TV):Prop:=∀ x ∈ xs,ForestR W F x.2.1 x.2.2 x.1.kids
theorem ListR.mono {W:World} {F G:Nat→Prop} {xs:List TV} (h:ListR W F xs) (hFG:∀ b,F b→G b):ListR W G xs:=fun x hx=>(h x hx).mono hFG
theorem ListR.append {W:World} {F:Nat→Prop} {xs ys:List TV} (h:ListR W F xs) (k:ListR W F ys):ListR W F (xs++ys):=fun x hx=>(List.mem_append.1 hx).elim (h x) (k x)
theorem ListR.nil (W:World) (F:Nat→Prop):ListR W F []:=fun _ h=>by cases h
theorem ListR.one {W:World} {F:Nat→Prop} {t:Tree} {p:Option Addr} {c:Nat} (h:ForestR W F p c t.kids):ListR W F [(t,p,c)]:=fun x hx=>by
 rw[List.mem_singleton]at hx;subst hx;exact h

end
section
open Go.RowKit Go.Shelf
theorem one_u8:oneB Tryd.prog 5=true:=by kernel_rfl
theorem zSet:zeroC Tryd.prog 31=setC emptyS:=by kernel_rfl
theorem zNode:zeroC Tryd.prog 35=nodeC {kind:=0} nilS:=by kernel_rfl
theorem zInt:zeroC Tryd.prog 3=#[.int .i64 0]:=by kernel_rfl
theorem nrm:zeroC Tryd.prog 31=setC emptyS∧zeroC Tryd.prog 35=nodeC {kind:=0} nilS∧zeroC Tryd.prog 3=#[.int .i64 0]:=⟨zSet,zNode,zInt⟩
theorem nrl {α:Type}:(∀ (a:α) (l r:List α),a::l++r=a::(l++r))∧(∀ l:List α,[]++l=l)∧(∀ l:List α,l++[]=l)∧(∀ (a b:α) (l:List α),(a::l).set 0 b=b::l)∧(∀ (a b:α) (l:List α) (n:Nat),(a::l).set (n+1) b=a::l.set n b)∧∀ (a:α) (l:List α) (n:Nat),l.toArray.setIfInBounds n a=(l.set n a).toArray :=
 ⟨fun _ _ _=>rfl,fun _=>rfl,List.append_nil,fun _ _ _=>rfl,fun _ _ _ _=>rfl,fun _ _ _=>List.setIfInBounds_toArray ..⟩
theorem nr:(zeroC Tryd.prog 31=setC emptyS∧zeroC Tryd.prog 35=nodeC {kind:=0} nilS∧zeroC Tryd.prog 3=#[.int .i64 0])∧(∀ {α:Type},(∀ (a:α) (l r:List α),a::l++r=a::(l++r))∧(∀ l:List α,[]++l=l)∧(∀ l:List α,l++[]=l)∧(∀ (a b:α) (l:List α),(a::l).set 0 b=b::l)∧(∀ (a b:α) (l:List α) (n:Nat),(a::l).set (n+1) b=a::l.set n b)∧∀ (a:α) (l:List α) (n:Nat),l.toArray.setIfInBounds n a=(l.set n a).toArray)∧(∀ (k:IntKind) (n:Int),(Value.int k n).cells=#[Value.int k n])∧(∀ (b:Bool),(Value.bool b).cells=#[Value.bool b])∧(∀ (s:ByteArray),(Value.string s).cells=#[Value.string s])∧(∀ (p:Option Addr),(Value.pointer p).cells=#[Value.pointer p])∧(∀ (p:Option Addr) (n c:Nat),(Value.slice p n c).cells=#[Value.slice p n c])∧(∀ (r:Option Nat),(Value.map r).cells=#[Value.map r])∧∀ cs:Array Value,(Value.agg cs).cells=cs :=
 ⟨nrm,nrl,fun _ _=>rfl,fun _=>rfl,fun _=>rfl,fun _=>rfl,fun _ _ _=>rfl,fun _=>rfl,fun _=>rfl⟩
theorem ch {M:Nat→Prop} {P:Program} {f:FuncId} {args:Array Value} {w w0:World} {l:List Res} {e0:Ending} {R:Ending→World→Prop} (c:Calls P f args w fun e w'=>e=e0∧Below w.heap.size w w') (H:HoldG M w0 w l)
  (k:∀ w',HoldG M w0 w' l→R e0 w'):Calls P f args w R:=c.mono fun _ w' h=>h.1 ▸ k w' (H.call h.2)
section
variable {M:Nat→Prop} {ops:Array Oper} {dst:Option Tmp} {ty:TypeId} {pos:String} {aft:Array Edge} {grd:Option (Nat × Bool)} {rest:List Oper} {a:Act} {w w0:World} {l:List Res} {Q:Exit→Act→World→Prop}
theorem gL {T:TypeId} {x:Operand} (h:wpList Tryd.prog ops Q ((⟨dst,.load T x,ty,pos,aft,grd⟩:Oper)::rest) a w):wpList Tryd.prog ops Q ((⟨dst,.load T x,ty,pos,aft,grd⟩:Oper)::rest) a w:=h
end
section
variable {M:Nat→Prop} {a:Act} {w w0:World} {l:List Res} {fn:Func} {R:Ending→World→Prop} {p q r:Tmp} {T:TypeId} {b i n:Nat} {cs:Array Value} {U:TypeId} {s:Nat→Nat} {v u:Value}
end
section
variable {ops:Array Oper} {dst:Option Tmp} {ty:TypeId} {pos:String} {aft:Array Edge} {grd:Option (Nat × Bool)} {rest:List Oper} {a:Act} {w:World} {Q:Exit→Act→World→Prop}
end
section
variable {M:Nat→Prop} {ops:Array Oper} {dst:Option Tmp} {ty:TypeId} {pos:String} {aft:Array Edge} {grd:Option (Nat × Bool)} {rest:List Oper} {a:Act} {w w0:World} {l:List Res} {Q:Exit→Act→World→Prop}
end
end
section
open Go.RowKit
section
variable {P:Program} {ops:Array Oper} {o:Oper} {a:Act} {w:World} {D:Prop}
theorem sy_if {j:Nat} {d:Tmp} {want c b:Bool} {v:Value} (hgd:o.guard=some (j,want)) (hj:(ops[j]?).bind (·.dst)=some d) (hy:a.eval (.tmp d)=bif c then .bool b else undef) (hr:c=true→b=want→(execOp a.eval o).run P w=.ok (.value v) w) (hD:¬ D) :
  RStep P ops o a w (fun v' _=>v'=(bif (c&&(b == want)) then v else undef)∧(D→w.heap.size≤blk v')):=by
 cases c with
 | false =>
  exact rs_skip (not_wanted_u hgd (yielded_undef hj hy)) ⟨rfl,fun h=>(hD h).elim⟩
 | true =>
  by_cases hb:b=want
  ·subst hb;refine rs_val (wanted_g hgd (yielded_of hj hy)) (hr rfl rfl) (Below.refl _ w) ⟨?_,fun h=>(hD h).elim⟩
   simp
  ·refine rs_skip (not_wanted_g hgd (yielded_of hj hy) hb) ⟨?_,fun h=>(hD h).elim⟩
   have:(b == want)=false:=by simpa using hb
   simp[this]
abbrev iT (c b want:Bool) (v:Value):Value:=bif c&&(b == want) then v else undef
theorem sy_ {j:Nat} {d:Tmp} {want c b:Bool} {v:Value} (hy:a.eval (.tmp d)=bif c then .bool b else undef) (hr:(c&&(b == want))=true→(execOp a.eval o).run P w=.ok (.value v) w) (hgd:o.guard=some (j,want):=by rfl) (hj:(ops[j]?).bind (·.dst)=some d:=by rfl) (hD:¬ D:=by decide) :
  RStep P ops o a w (fun v' _=>v'=(bif (c&&(b == want)) then v else undef)∧(D→w.heap.size≤blk v')) :=
 sy_if hgd hj hy (fun hc hb=>hr (Bool.and_eq_true_iff.2 ⟨hc,beq_iff_eq.2 hb⟩)) hD
theorem run_and {x y:Operand} {b q:Bool} (hop:o.op=Op.pick x y (.const (.bool false))) (hx:a.eval x=.bool b) (hy:b=true→a.eval y=.bool q):(execOp a.eval o).run P w=.ok (.value (.bool (b&&q))) w:=by
 cases b with
 | false=>simp only[execOp,hop,hx];rfl
 | true=>simp only[execOp,hop,hx,hy rfl];rfl
theorem run_or {x y:Operand} {b q:Bool} (hop:o.op=Op.pick x (.const (.bool true)) y) (hx:a.eval x=.bool b) (hy:b=false→a.eval y=.bool q):(execOp a.eval o).run P w=.ok (.value (.bool (b || q))) w:=by
 cases b with
 | true=>simp only[execOp,hop,hx];rfl
 | false=>simp only[execOp,hop,hx,hy rfl];rfl
theorem run_cp {x:Operand} {v:Value} (hop:o.op=Op.move x∨o.op=Op.assign x) (hx:a.eval x=v):(execOp a.eval o).run P w=.ok (.value v) w:=by
 rcases hop with h|h<;>(simp only[execOp,h,hx];rfl)
theorem bif_at {α:Type} {x u v:α} {c:Bool} (h:x=bif c then u else v) (hc:c=true):x=u:=by rw[h,hc];rfl
end
end
end Go.Proofs.YteodabllmfldpaaDoor
