/-
  Laws of walks, and walks.
-/
import Derived.Test.YtphjgfjbiimkjaaGreatEc22
import Derived.OrdersIn
set_option linter.unusedVariables false
set_option linter.unusedSimpArgs false
set_option linter.unusedSectionVars false
set_option maxRecDepth 100000
set_option maxHeartbeats 16000000
namespace Go.Proofs.YtphjgfjbiimkjaaGreat
section
open Go.RowKit
theorem zKW:∀ (a b:List Nat) (i:Nat),i<a.length->nthN (a++b) i=nthN a i
 | [],_,_,h=>by simp at h
 | x::a,b,0,_=>rfl
 | x::a,b,i+1,h=>zKW a b i (by simpa using h)
theorem zMZ:∀ (a:List Nat) (x:Nat) (b:List Nat),nthN (a++x::b) a.length=x
 | [],_,_=>rfl
 | y::a,x,b=>zMZ a x b
theorem zH2:∀ (l:List Oper) (acc:List Nat),∃ r,zF7 l acc=acc++r
 | [],acc=>⟨[],by simp[zF7]⟩
 | o::l,acc=>by
  obtain⟨r,h⟩:=zH2 l (acc++[zCs acc o.after.toList]);exact⟨zCs acc o.after.toList::r,by simp[zF7,h]⟩
theorem zFB:∀ {acc:List Nat} {l:List Edge} {j:Nat},(zCs acc l).testBit j=true->∃ e ∈ l,Region.binds .any e=true/\(j=e.on\/(nthN acc e.on).testBit j=true)
 | acc,[],j,h=>by simp[zCs]at h
 | acc,e::r,j,h=>by
  simp only[zCs]at h
  cases hb:Region.binds .any e with
  | true =>
   rw[hb,cond_true,Nat.testBit_or,Nat.testBit_or,Bool.or_eq_true,Bool.or_eq_true]at h;rcases h with (h|h)|h
   ·obtain⟨e',h1,h2⟩:=zFB h;exact⟨e',List.mem_cons_of_mem _ h1,h2⟩
   ·rw[Nat.testBit_two_pow]at h;exact⟨e,List.mem_cons_self ..,hb,.inl (by simpa using (of_decide_eq_true h).symm)⟩
   ·exact⟨e,List.mem_cons_self ..,hb,.inr h⟩
  | false =>
   rw[hb,cond_false]at h;obtain⟨e',h1,h2⟩:=zFB h;exact⟨e',List.mem_cons_of_mem _ h1,h2⟩
theorem zL2:∀ {l:List Oper} {acc:List Nat} {k j:Nat} {o:Oper},l[k]?=some o->(nthN (zF7 l acc) (acc.length+k)).testBit j=true->∃ e ∈ o.after.toList,Region.binds .any e=true/\(j=e.on\/∃ q,q=e.on/\(acc.length+k<=q\/(nthN (zF7 l acc) q).testBit j=true))
 | [],_,_,_,_,h,_=>by simp at h
 | p::l,acc,0,j,o,h,hb=>by
  simp at h;subst h;simp only[zF7]at hb;obtain⟨r,hr⟩:=zH2 l (acc++[zCs acc p.after.toList]);have h1:nthN (zF7 l (acc++[zCs acc p.after.toList])) (acc.length+0)=zCs acc p.after.toList:=by
   rw[hr,List.append_assoc];exact zMZ acc _ _
  rw[h1]at hb;obtain⟨e,h2,h3,h4⟩:=zFB hb;refine⟨e,h2,h3,?_⟩
  rcases h4 with h4|h4
  ·exact .inl h4
  ·refine .inr ⟨e.on,rfl,?_⟩
   by_cases hlt:e.on<acc.length
   ·right;simp only[zF7];rw[hr,List.append_assoc,zKW _ _ _ hlt];exact h4
   ·left;omega
 | p::l,acc,k+1,j,o,h,hb=>by
  simp only[zF7]at hb ⊢;have hlen:(acc++[zCs acc p.after.toList]).length+k=acc.length+(k+1):=by simp;omega
  have:=zL2 (l:=l) (acc:=acc++[zCs acc p.after.toList]) (k:=k) (j:=j) (o:=o) (by simpa using h) (by rw[hlen];exact hb)
  rwa [hlen]at this
def Anc (ops:Array Oper) (i j:Nat):Prop:=(nthN (befL ops.toList) i).testBit j=true
theorem zHJ:∀ {l:List Oper} {i k:Nat} {o:Oper},zC6 l i=true->l[k]?=some o->∀ e ∈ o.after.toList,Region.binds .any e=true->e.on<i+k
 | [],_,_,_,_,h=>by simp at h
 | p::l,i,0,o,hE,h=>by
  simp at h;subst h;simp only[zC6,Bool.and_eq_true]at hE;intro e he hb;have:=List.all_eq_true.1 hE.1 e he;rw[hb]at this
  simpa using this
 | p::l,i,k+1,o,hE,h=>by
  simp only[zC6,Bool.and_eq_true]at hE;intro e he hb;have:=zHJ hE.2 (k:=k) (by simpa using h) e he hb
  omega
section
variable {ops:Array Oper}
theorem zIP {D:Array Bool} {i:Nat} (hE:zC6 ops.toList 0=true) (hd:∀ i<ops.size,D.getD i false=true->∀ j,Anc ops i j->D.getD j false=true) (hr:i ∈ Region.ready .any ops D):i<ops.size/\D.getD i true=false/\∀ j,Anc ops i j->D.getD j false=true:=by
 simp only[Region.ready,List.mem_filter,List.mem_range,Bool.and_eq_true,Bool.not_eq_true']at hr;obtain⟨h1,h2,h3⟩:=hr;refine⟨h1,h2,fun j hj=>?_⟩
 have ho:ops[i]?=some ops[i]:=Array.getElem?_eq_getElem h1;rw[ho]at h3;simp only[Option.map_some,Option.getD_some]at h3;have hall:∀ e ∈ (ops[i]).after.toList,Region.binds .any e=true->D.getD e.on false=true:=by
  intro e he hb;have:=(Array.all_eq_true_iff_forall_mem.1 h3) e (by simpa using he)
  rw[hb]at this
  simpa using this
 have hol:ops.toList[i]?=some ops[i]:=by rw[Array.getElem?_toList];exact ho
 obtain⟨e,h4,h5,h6⟩:=zL2 (acc:=[]) hol (by simpa [Anc,befL] using hj)
 have hlt:=zHJ hE hol e h4 h5;rcases h6 with rfl|⟨q,rfl,h6⟩
 ·exact hall e h4 h5
 ·rcases h6 with h6|h6
  ·simp at h6;omega
  ·exact hd e.on (by omega) (hall e h4 h5) j h6
theorem zNF {D:Array Bool} (hE:zC6 ops.toList 0=true) (hs:D.size=ops.size) (hr:Region.ready .any ops D=[]):∀ i<ops.size,D.getD i false=true:=by
 intro i
 induction i using Nat.strongRecOn with
 | _ i ih =>
  intro hi
  cases hD:D.getD i false with
  | true=>rfl
  | false =>
   exfalso
   have ho:ops[i]?=some ops[i]:=Array.getElem?_eq_getElem hi;have hol:ops.toList[i]?=some ops[i]:=by rw[Array.getElem?_toList];exact ho
   have hD':D.getD i true=false:=by
    have:D[i]?=some D[i]:=Array.getElem?_eq_getElem (by omega)
    simp only[Array.getD_eq_getD_getElem?,this,Option.getD_some]at hD ⊢;exact hD
   have:i ∈ Region.ready .any ops D:=by
    simp only[Region.ready,List.mem_filter,List.mem_range,Bool.and_eq_true,Bool.not_eq_true'];refine⟨hi,hD',?_⟩
    rw[ho];simp only[Option.map_some,Option.getD_some];rw[Array.all_eq_true_iff_forall_mem];intro e he
    cases hb:Region.binds .any e with
    | false=>rfl
    | true =>
     have hlt:=zHJ hE hol e (by simpa using he) hb
     simp only[Bool.not_true,Bool.false_or];exact ih e.on (by omega) (by omega)
   rw[hr]at this
   cases this
end
structure Seq (P:Program) (G:Nat) (O:Orc) (rec:Ev) (ops:Array Oper) where
 T:Nat->List Value
 H:Nat->AH
 X:Nat->Fx
 V:Nat->Value
 K:Nat->Option Kd
def SAt (P:Program) (G:Nat) (O:Orc) (rec:Ev) (ops:List Oper) (bef:List Nat) (S:Seq P G O rec ops.toArray) (j:Nat) (o:Oper):Prop :=
 S.T (j+1)=putA (S.T j) o.dst (S.V j) /\
 ((S.K j=none/\zBg ops (S.T j) o=false/\S.V j=undef/\S.H (j+1)=S.H j/\S.X (j+1)=S.X j) \/
  ∃ k h1,S.K j=some k/\zBg ops (S.T j) o=true/\okK k bef j (S.X j) (S.H j)=true /\
   zGI P G O rec (S.T j) {S.H j with hid:=hidK k (nthN bef j) (S.X j) (S.H j).next++(S.H j).hid,floor:=zDz k (S.H j)} o=some (S.V j,h1) /\
   S.H (j+1)={h1 with hid:=(S.H j).hid,floor:=(S.H j).floor}/\S.X (j+1)=fxK k j (S.X j) (S.H j).next h1.next)
theorem zJ4 {P:Program} {G:Nat} {O:Orc} {rec:Ev} {bef:List Nat} {i:Nat} {fx:Fx} {t:List Value} {h:AH} {o:Oper}:∀ {ks:List Kd} {k:Kd} {v:Value} {h':AH},zMB P G O rec bef i fx t h o ks=some (k,v,h') ->
  okK k bef i fx h=true/\zGI P G O rec t {h with hid:=hidK k (nthN bef i) fx h.next++h.hid,floor:=zDz k h} o=some (v,h')
 | [],_,_,_,e=>by simp[zMB]at e
 | k0::r,k,v,h',e=>by
  simp only[zMB]at e;split at e
  ·rename_i v1 h1 he;simp only[Option.some.injEq,Prod.mk.injEq]at e;obtain⟨rfl,rfl,rfl⟩:=e;rw[zAJ]at he;exact he
  ·exact zJ4 e
theorem zHB {P:Program} {G:Nat} {O:Orc} {rec:Ev} {ops:List Oper} {bef:List Nat}:∀ {l:List Oper} {i:Nat} {fx:Fx} {t t':List Value} {h h':AH},zFn P G O rec ops bef l i fx t h=some (t',h') ->
  ∃ S:Seq P G O rec ops.toArray,S.T i=t/\S.H i=h/\S.X i=fx/\S.T (i+l.length)=t'/\S.H (i+l.length)=h'/\∀ k o,l[k]?=some o->SAt P G O rec ops bef S (i+k) o
 | [],i,fx,t,t',h,h',e=>by
  simp only[zFn,Option.some.injEq,Prod.mk.injEq]at e;obtain⟨rfl,rfl⟩:=e;exact⟨⟨fun _=>t,fun _=>h,fun _=>fx,fun _=>undef,fun _=>none⟩,rfl,rfl,rfl,rfl,rfl,fun k o hk=>by simp at hk⟩
 | o::r,i,fx,t,t',h,h',e=>by
  have ext:∀ (v:Value) (k0:Option Kd) (h2:AH) (fx2:Fx) (S:Seq P G O rec ops.toArray),S.T (i+1)=putA t o.dst v->S.H (i+1)=h2->S.X (i+1)=fx2->S.T (i+1+r.length)=t'->S.H (i+1+r.length)=h'->(∀ k o,r[k]?=some o->SAt P G O rec ops bef S (i+1+k) o) ->
    ((k0=none/\zBg ops t o=false/\v=undef/\h2=h/\fx2=fx)\/∃ k h1,k0=some k/\zBg ops t o=true/\okK k bef i fx h=true/\zGI P G O rec t {h with hid:=hidK k (nthN bef i) fx h.next++h.hid,floor:=zDz k h} o=some (v,h1)/\h2={h1 with hid:=h.hid,floor:=h.floor}/\fx2=fxK k i fx h.next h1.next) ->
    ∃ S:Seq P G O rec ops.toArray,S.T i=t/\S.H i=h/\S.X i=fx/\S.T (i+(o::r).length)=t'/\S.H (i+(o::r).length)=h'/\∀ k p,(o::r)[k]?=some p->SAt P G O rec ops bef S (i+k) p:=by
   intro v k0 h2 fx2 S a1 a2 a3 a4 a5 a6 a7;have hlen:i+(o::r).length=i+1+r.length:=by simp;omega
   refine⟨⟨fun j=>if j=i then t else S.T j,fun j=>if j=i then h else S.H j,fun j=>if j=i then fx else S.X j,fun j=>if j=i then v else S.V j,fun j=>if j=i then k0 else S.K j⟩,by simp,by simp,by simp,?_,?_,?_⟩
   ·simp only[hlen];rw[if_neg (by omega)];exact a4
   ·simp only[hlen];rw[if_neg (by omega)];exact a5
   ·intro k p hk
    cases k with
    | zero =>
     simp at hk;subst hk;simp only[SAt,Nat.add_zero,if_true,show ¬ (i+1=i) from by omega,if_false,a1,a2,a3,true_and]
     exact a7
    | succ k =>
     have:=a6 k p (by simpa using hk)
     rw[show i+1+k=i+(k+1) from by omega]at this
     simp only[SAt]at this ⊢;rw[if_neg (show ¬ (i+(k+1)=i) from by omega),if_neg (show ¬ (i+(k+1)+1=i) from by omega)]
     simp only[show ¬ (i+(k+1)=i) from by omega,show ¬ (i+(k+1)+1=i) from by omega,if_false]
     exact this
  simp only[zFn]at e
  cases hw:zBg ops t o with
  | false =>
   simp only[hw]at e;obtain⟨S,a1,a2,a3,a4,a5,a6⟩:=zHB e;exact ext undef none h fx S a1 a2 a3 a4 a5 a6 (.inl ⟨rfl,hw,rfl,rfl,rfl⟩)
  | true =>
   simp only[hw]at e;split at e
   ·cases e
   ·rename_i kd v h1 he;obtain⟨hok,he⟩:=zJ4 he;obtain⟨S,a1,a2,a3,a4,a5,a6⟩:=zHB e;exact ext v _ _ _ S a1 a2 a3 a4 a5 a6 (.inr ⟨_,h1,rfl,hw,hok,he,rfl,rfl⟩)
section
variable {P:Program} {G:Nat} {O:Orc} {t t':List Value} {h:AH} {ty:TypeId}
theorem zCx:∀ {l:List Operand},(∀ x ∈ l,aev G t x=aev G t' x)->aevs G t l=aevs G t' l
 | [],_=>rfl
 | x::l,hx=>by
  simp only[aevs,hx x (List.mem_cons_self ..),zCx (fun y hy=>hx y (List.mem_cons_of_mem _ hy))]
theorem zE3:∀ {l:List (Nat × Operand)},(∀ x ∈ l,aev G t x.2=aev G t' x.2)->aevp G t l=aevp G t' l
 | [],_=>rfl
 | (i,x)::l,hx=>by
  have h1:aev G t x=aev G t' x:=hx (i,x) (List.mem_cons_self ..);simp only[aevp,h1,zE3 (fun y hy=>hx y (List.mem_cons_of_mem _ hy))]
theorem zMO {lo:Option Operand} (hx:∀ x ∈ lo,aev G t x=aev G t' x):loA G t lo=loA G t' lo:=by
 cases lo with
 | none=>rfl
 | some x=>exact hx x rfl
theorem zMD {v:Value} {hi:Option Operand} (hx:∀ x ∈ hi,aev G t x=aev G t' x):hiA G t v hi=hiA G t' v hi:=by
 cases hi with
 | none=>cases v<;>rfl
 | some x=>exact hx x rfl
theorem zKn {op:Op} (hx:∀ x ∈ op.operands.toList,aev G t x=aev G t' x):evOp P G O t h ty op=evOp P G O t' h ty op:=by
 cases op with
 | move x=>have h1:=hx x (by simp[Op.operands]);simp only[evOp,h1]
 | assign x=>have h1:=hx x (by simp[Op.operands]);simp only[evOp,h1]
 | pick c a b=>have h1:=hx c (by simp[Op.operands]);have h2:=hx a (by simp[Op.operands]);have h3:=hx b (by simp[Op.operands]);simp only[evOp,h1,h2,h3]
 | alloc T=>rfl
 | box T x=>have h1:=hx x (by simp[Op.operands]);simp only[evOp,h1]
 | build T ps =>
  have h1:aevp G t ps.toList=aevp G t' ps.toList:=zE3 fun y hy=>hx y.2 (by simp only[Op.operands];simpa using ⟨y.1,by simpa using hy⟩)
  simp only[evOp,h1]
 | buildSlice T n ps =>
  have h1:aevp G t ps.toList=aevp G t' ps.toList:=zE3 fun y hy=>hx y.2 (by simp only[Op.operands];simpa using ⟨y.1,by simpa using hy⟩)
  simp only[evOp,h1]
 | load T x=>have h1:=hx x (by simp[Op.operands]);simp only[evOp,h1]
 | store T x y=>have h1:=hx x (by simp[Op.operands]);have h2:=hx y (by simp[Op.operands]);simp only[evOp,h1,h2]
 | nilCheck x=>have h1:=hx x (by simp[Op.operands]);simp only[evOp,h1]
 | binOp op T x y U=>have h1:=hx x (by simp[Op.operands]);have h2:=hx y (by simp[Op.operands]);simp only[evOp,h1,h2]
 | unOp op T x=>have h1:=hx x (by simp[Op.operands]);simp only[evOp,h1]
 | convert S D x=>have h1:=hx x (by simp[Op.operands]);simp only[evOp,h1]
 | makeInterface T x=>have h1:=hx x (by simp[Op.operands]);simp only[evOp,h1]
 | makeFunc f a b =>
  have h1:aevs G t a.toList=aevs G t' a.toList:=zCx fun y hy=>hx y (by simp only[Op.operands];simp;exact .inl (by simpa using hy))
  have h2:aevs G t b.toList=aevs G t' b.toList:=zCx fun y hy=>hx y (by simp only[Op.operands];simp;exact .inr (by simpa using hy))
  cases f<;>simp only[evOp,h1,h2]
 | makeMap T r=>cases r<;>rfl
 | makeSlice T x y=>have h1:=hx x (by simp[Op.operands]);have h2:=hx y (by simp[Op.operands]);simp only[evOp,h1,h2]
 | slice T x lo hi mx =>
  have h1:=hx x (by simp[Op.operands])
  have h2:loA G t lo=loA G t' lo:=zMO fun y hy=>hx y (by simp only[Op.operands];simp;exact .inr (.inl (by simpa using hy)))
  have h3:∀ v,hiA G t v hi=hiA G t' v hi:=fun v=>zMD fun y hy=>hx y (by simp only[Op.operands];simp;exact .inr (.inr (.inl (by simpa using hy))))
  cases mx<;>simp only[evOp,h1,h2,h3]
 | fieldAddr T x f=>have h1:=hx x (by simp[Op.operands]);simp only[evOp,h1]
 | field T x f=>have h1:=hx x (by simp[Op.operands]);simp only[evOp,h1]
 | indexAddr T x y=>have h1:=hx x (by simp[Op.operands]);have h2:=hx y (by simp[Op.operands]);simp only[evOp,h1,h2]
 | index T x y=>have h1:=hx x (by simp[Op.operands]);have h2:=hx y (by simp[Op.operands]);simp only[evOp,h1,h2]
 | lookup T x y ok=>have h1:=hx x (by simp[Op.operands]);have h2:=hx y (by simp[Op.operands]);simp only[evOp,h1,h2]
 | insert T x y z=>have h1:=hx x (by simp[Op.operands]);have h2:=hx y (by simp[Op.operands]);have h3:=hx z (by simp[Op.operands]);simp only[evOp,h1,h2,h3]
 | mapUpdate T x y z=>have h1:=hx x (by simp[Op.operands]);have h2:=hx y (by simp[Op.operands]);have h3:=hx z (by simp[Op.operands]);simp only[evOp,h1,h2,h3]
 | typeAssert x S A ok=>have h1:=hx x (by simp[Op.operands]);simp only[evOp,h1]
 | extract x i=>have h1:=hx x (by simp[Op.operands]);simp only[evOp,h1]
 | call c =>
  obtain⟨cal,xs,ts⟩:=c;have h0:∀ y ∈ xs.toList,aev G t y=aev G t' y:=fun y hy=>hx y (by simp only[Op.operands,Call.operands];simp;exact .inr (by simpa using hy))
  have h1:aevs G t xs.toList=aevs G t' xs.toList:=zCx h0
  cases cal with
  | builtin b =>
   cases b with
   | max=>simp only[evOp,h1]
   | min=>simp only[evOp,h1]
   | len =>
    simp only[evOp];rcases ts.toList with _|⟨T,tr⟩<;>rcases hxs:xs.toList with _|⟨x,r⟩<;>first|rfl|(have h2:=h0 x (by rw[hxs];exact List.mem_cons_self ..);simp only[h2])
   | copy =>
    simp only[evOp];rcases ts.toList with _|⟨T,tr⟩<;>rcases hxs:xs.toList with _|⟨x,_|⟨y,_|⟨z,r⟩⟩⟩<;>first|rfl|(have h2:=h0 x (by rw[hxs];simp);have h3:=h0 y (by rw[hxs];simp);simp only[h2,h3])
   | append =>
    simp only[evOp];rcases ts.toList with _|⟨T,_|⟨U,_|⟨W,tr⟩⟩⟩<;>rcases hxs:xs.toList with _|⟨x,_|⟨y,_|⟨z,r⟩⟩⟩<;>first|rfl|(have h2:=h0 x (by rw[hxs];simp);have h3:=h0 y (by rw[hxs];simp);simp only[h2,h3])
   | _=>rfl
  | _=>rfl
 | _=>rfl
theorem zJD {rec:Ev} {o:Oper} (hx:∀ x ∈ zD3 o,nth t x=nth t' x):zGI P G O rec t h o=zGI P G O rec t' h o:=by
 have hop:∀ x ∈ o.op.operands.toList,aev G t x=aev G t' x:=by
  intro x hxm
  cases x with
  | tmp i =>
   have:i ∈ zD3 o:=by
    unfold zD3;rw[List.mem_append];right;rw[List.mem_filterMap];exact⟨.tmp i,hxm,rfl⟩
   simp only[aev,hx i this]
  | _=>rfl
 unfold zGI;have h1:∀ ty,evOp P G O t h ty o.op=evOp P G O t' h ty o.op:=fun ty=>zKn hop
 cases hc:o.op with
 | call c =>
  obtain⟨cal,xs,ts⟩:=c
  cases cal with
  | value f =>
   rw[hc]at hop;have h2:=hop f (by simp[Op.operands,Call.operands])
   have h3:aevs G t xs.toList=aevs G t' xs.toList:=zCx fun y hy=>hop y (by simp only[Op.operands,Call.operands];simp;exact .inr (by simpa using hy))
   simp only[h2,h3]
  | _=>rw[hc]at h1;exact h1 _
 | _=>rw[hc]at h1;exact h1 _
theorem zHn {ops:List Oper} {o:Oper} (hx:∀ x ∈ zFI ops o,nth t x=nth t' x):zBg ops t o=zBg ops t' o:=by
 unfold zBg;unfold zFI at hx
 cases hg:o.guard with
 | none=>rfl
 | some g =>
  obtain⟨j,want⟩:=g;rw[hg]at hx;simp only at hx ⊢
  cases hd:ops.drop j with
  | nil=>rfl
  | cons p r =>
   rw[hd]at hx;obtain⟨dst,a1,a2,a3,a4,a5⟩:=p
   cases dst with
   | none=>rfl
   | some d =>
    have:=hx d (by simp)
    simp only[this]
theorem zKV (t:List Value) (d:Option Tmp) (v:Value):(putA t d v).length=t.length:=by cases d<;>simp[putA]
theorem zGr:∀ (t:List Value) (d x:Nat) (v:Value),d≠x->nth (t.set d v) x=nth t x
 | [],_,_,_,_=>rfl
 | y::t,0,0,v,h=>absurd rfl h
 | y::t,0,x+1,v,_=>rfl
 | y::t,d+1,0,v,_=>rfl
 | y::t,d+1,x+1,v,h=>zGr t d x v (by omega)
theorem zGb:∀ (t u:List Value) (x:Nat) (v:Value),t.length=u.length->nth (t.set x v) x=nth (u.set x v) x
 | [],[],_,_,_=>rfl
 | [],_::_,_,_,h=>by simp at h
 | _::_,[],_,_,h=>by simp at h
 | y::t,z::u,0,v,h=>rfl
 | y::t,z::u,x+1,v,h=>zGb t u x v (by simpa using h)
theorem zHX {t:List Value} {d:Option Tmp} {v:Value} {x:Nat} (h:d≠some x):nth (putA t d v) x=nth t x:=by
 cases d with
 | none=>rfl
 | some d=>exact zGr t d x v (fun e=>h (by rw[e]))
theorem zLw {t:List Value} {d e:Option Tmp} {u v:Value} (h:d=none\/e=none\/d≠e):putA (putA t d u) e v=putA (putA t e v) d u:=by
 cases d with
 | none=>rfl
 | some d =>
  cases e with
  | none=>rfl
  | some e =>
   have:d≠e:=by
    rcases h with h|h|h
    ·cases h
    ·cases h
    ·exact fun x=>h (by rw[x])
   simp only[putA];exact List.set_comm _ _ this
end
theorem zJj {a b:Nat} (h:Nat.ble a b=false):b<a:=by
 rcases Nat.lt_or_ge b a with hl|hl
 ·exact hl
 ·have:Nat.ble a b=true:=by rw[Nat.ble_eq];exact hl
  rw[h]at this;cases this
theorem zKJ {a b:Nat} (h:Nat.blt a b=false):b<=a:=by
 rcases Nat.lt_or_ge a b with hl|hl
 ·have:Nat.blt a b=true:=by rw[Nat.blt_eq];exact hl
  rw[h]at this;cases this
 ·exact hl
theorem zB9 (a b:List (Nat × Nat)) (x:Nat):inR (a++b) x=(inR a x || inR b x):=by
 induction a with
 | nil=>simp[inR]
 | cons p a ih=>obtain⟨u,v⟩:=p;simp[inR,ih,Bool.or_assoc]
theorem zCy {b x:Nat}:∀ {frs:List (Nat × Nat × Nat)},inR (zDv b frs) x=true↔∃ p ∈ frs,b.testBit p.1=false/\p.2.1<=x/\x<p.2.2
 | []=>by simp[zDv,inR]
 | (j,lo,hi)::r=>by
  have ih:=zCy (b:=b) (x:=x) (frs:=r)
  cases hb:b.testBit j with
  | true =>
   simp only[zDv,hb,cond_true,ih];constructor
   ·rintro⟨p,h1,h2⟩;exact⟨p,List.mem_cons_of_mem _ h1,h2⟩
   ·rintro⟨p,h1,h2,h3⟩;rcases List.mem_cons.1 h1 with rfl|h1
    ·simp only at h2;rw[hb]at h2;cases h2
    ·exact⟨p,h1,h2,h3⟩
  | false =>
   simp only[zDv,hb,cond_false,inR,Bool.or_eq_true,Bool.and_eq_true,Nat.ble_eq,Nat.blt_eq,ih];constructor
   ·rintro(⟨h1,h2⟩|⟨p,h1,h2⟩)
    ·exact⟨(j,lo,hi),List.mem_cons_self ..,hb,h1,h2⟩
    ·exact⟨p,List.mem_cons_of_mem _ h1,h2⟩
   ·rintro⟨p,h1,h2,h3⟩;rcases List.mem_cons.1 h1 with rfl|h1
    ·exact .inl h3
    ·exact .inr ⟨p,h1,h2,h3⟩
theorem zDO {b x:Nat}:∀ {l:List (Nat × Nat)},inR (zGa b l) x=true↔∃ p ∈ l,b.testBit p.1=false/\p.2=x
 | []=>by simp[zGa,inR]
 | (j,c)::r=>by
  have ih:=zDO (b:=b) (x:=x) (l:=r)
  cases hb:b.testBit j with
  | true =>
   simp only[zGa,hb,cond_true,ih];constructor
   ·rintro⟨p,h1,h2⟩;exact⟨p,List.mem_cons_of_mem _ h1,h2⟩
   ·rintro⟨p,h1,h2,h3⟩;rcases List.mem_cons.1 h1 with rfl|h1
    ·simp only at h2;rw[hb]at h2;cases h2
    ·exact⟨p,h1,h2,h3⟩
  | false =>
   simp only[zGa,hb,cond_false,inR,Bool.or_eq_true,Bool.and_eq_true,Nat.ble_eq,Nat.blt_eq,ih];constructor
   ·rintro(⟨h1,h2⟩|⟨p,h1,h2⟩)
    ·exact⟨(j,c),List.mem_cons_self ..,hb,by show c=x;omega⟩
    ·exact⟨p,List.mem_cons_of_mem _ h1,h2⟩
   ·rintro⟨p,h1,h2,h3⟩;rcases List.mem_cons.1 h1 with rfl|h1
    ·left;have h3:c=x:=h3;omega
    ·exact .inr ⟨p,h1,h2,h3⟩
def Lh {P:Program} {G:Nat} {Oc:Orc} {rec:Ev} {ops:Array Oper} (S:Seq P G Oc rec ops.toList.toArray) (k:Kd) (i:Nat):AH:={S.H i with hid:=hidK k (nthN (befL ops.toList) i) (S.X i) (S.H i).next++(S.H i).hid,floor:=zDz k (S.H i)}
def Wr {P:Program} {G:Nat} {Oc:Orc} {rec:Ev} {ops:Array Oper} (S:Seq P G Oc rec ops.toList.toArray) (i x:Nat):Prop:=S.K i=some (.write x)\/(S.K i=some .wcall/\(S.H i).floor<=x/\∃ ob,(Lh S .wcall i).get x=some ob)
structure SOk (P:Program) (G:Nat) (Oc:Orc) (rec:Ev) (ops:Array Oper) (S:Seq P G Oc rec ops.toList.toArray):Prop where
 R0:zGO P G Oc rec
 at_:∀ k o,ops.toList[k]?=some o->SAt P G Oc rec ops.toList (befL ops.toList) S k o
 x0:S.X 0=⟨[],[],[],[],[]⟩
 tmp:zIy ops.toList (befL ops.toList) ops.toList 0=true
 edg:zC6 ops.toList 0=true
section
variable {P:Program} {G:Nat} {Oc:Orc} {rec:Ev} {ops:Array Oper} {S:Seq P G Oc rec ops.toList.toArray}
variable [OrcOk P G Oc]
theorem SOk.oper (O:SOk P G Oc rec ops S) {i:Nat} (hi:i<ops.size):∃ o,ops[i]?=some o/\ops.toList[i]?=some o/\SAt P G Oc rec ops.toList (befL ops.toList) S i o:=by
 have h1:ops[i]?=some ops[i]:=Array.getElem?_eq_getElem hi;have h2:ops.toList[i]?=some ops[i]:=by rw[Array.getElem?_toList];exact h1
 exact⟨_,h1,h2,O.at_ i _ h2⟩
theorem SOk.keep (O:SOk P G Oc rec ops S) {i:Nat} (hi:i<ops.size):(S.H i).next<=(S.H (i+1)).next/\(S.H (i+1)).hid=(S.H i).hid/\(S.H (i+1)).floor=(S.H i).floor/\(∀ x,x<(S.H i).next->¬ Wr S i x->(S.H (i+1)).t.get x=(S.H i).t.get x)/\(S.K i=none->(S.H (i+1)).next=(S.H i).next):=by
 obtain⟨o,_,_,_,h⟩:=O.oper hi;rcases h with ⟨hk,_,_,hH,_⟩|⟨k,h1,hk,_,_,he,hH,_⟩
 ·rw[hH];exact⟨Nat.le_refl _,rfl,rfl,fun _ _ _=>rfl,fun _=>rfl⟩
 ·have K:=(zHt O.R0 he).1;rw[hH];refine⟨K.next,rfl,rfl,fun x hx hne=>?_,fun h=>by rw[hk]at h;cases h⟩
  cases k with
  | wcall =>
   by_cases h1:x<(S.H i).floor
   ·exact K.kept x hx (.inl h1)
   ·cases h2:inR (Lh S .wcall i).hid x with
    | true=>exact K.kept x hx (.inr h2)
    | false =>
     cases h3:(S.H i).t.get x with
     | none=>exact K.dead x hx h3
     | some ob=>exact absurd (.inr ⟨hk,by omega,ob,by rw[AH.get_of (h:=Lh S .wcall i) hx h2];exact h3⟩) hne
  | free =>
   refine K.kept x hx ?_
   right
   show inR ([(0,(S.H i).next)]++(S.H i).hid) x=true
   rw[zB9];simp[inR,hx]
  | read b=>exact K.kept x hx (.inl hx)
  | call=>exact K.kept x hx (.inl hx)
  | write b =>
   refine K.kept x hx ?_
   right;have hxb:x≠b:=fun e=>hne (.inl (by rw[hk,e]))
   show inR ([(0,b),(b+1,(S.H i).next)]++(S.H i).hid) x=true
   rw[zB9];rcases Nat.lt_or_gt_of_ne hxb with h|h
   ·simp[inR,h]
   ·have:b+1<=x:=h;simp[inR,hx,this]
theorem SOk.fix (O:SOk P G Oc rec ops S):∀ {i:Nat},i<=ops.size->(S.H i).hid=(S.H 0).hid/\(S.H i).floor=(S.H 0).floor
 | 0,_=>⟨rfl,rfl⟩
 | i+1,h=>by
  have h1:=O.keep (i:=i) (by omega)
  have h2:=SOk.fix O (i:=i) (by omega)
  exact⟨h1.2.1.trans h2.1,h1.2.2.1.trans h2.2⟩
theorem SOk.mono (O:SOk P G Oc rec ops S) {i:Nat}:∀ {j:Nat},i<=j->j<=ops.size->(S.H i).next<=(S.H j).next
 | 0,h,_=>by rw[Nat.le_zero.1 h];exact Nat.le_refl _
 | j+1,h,hj=>by
  rcases Nat.lt_or_ge i (j+1) with hl|hl
  ·exact Nat.le_trans (SOk.mono O (j:=j) (by omega) (by omega)) (O.keep (i:=j) (by omega)).1
  ·rw[show i=j+1 from by omega];exact Nat.le_refl _
theorem SOk.uniq (O:SOk P G Oc rec ops S) {i j x:Nat} (hi:i<ops.size) (hj:j<ops.size) (h1:(S.H i).next<=x) (h2:x<(S.H (i+1)).next) (h3:(S.H j).next<=x) (h4:x<(S.H (j+1)).next):i=j:=by
 rcases Nat.lt_trichotomy i j with h|h|h
 ·have:=O.mono (i:=i+1) (j:=j) h (by omega);omega
 ·exact h
 ·have:=O.mono (i:=j+1) (j:=i) h (by omega);omega
theorem SOk.find (O:SOk P G Oc rec ops S) {x:Nat}:∀ {i:Nat},i<=ops.size->x<(S.H i).next->x<(S.H 0).next\/∃ j,j<i/\(S.H j).next<=x/\x<(S.H (j+1)).next
 | 0,_,h=>.inl h
 | i+1,hi,h=>by
  rcases Nat.lt_or_ge x (S.H i).next with hl|hl
  ·rcases SOk.find O (i:=i) (by omega) hl with h1|⟨j,h1,h2⟩
   ·exact .inl h1
   ·exact .inr ⟨j,by omega,h2⟩
  ·exact .inr ⟨i,by omega,hl,h⟩
theorem SOk.fx (O:SOk P G Oc rec ops S):∀ {i:Nat},i<=ops.size ->
  (∀ j,j<i->S.K j≠none->(j,(S.H j).next,(S.H (j+1)).next) ∈ (S.X i).frs)/\(∀ p ∈ (S.X i).frs,p.1<i/\p.2.1=(S.H p.1).next/\p.2.2=(S.H (p.1+1)).next) /\
  (∀ j b,j<i->S.K j=some (.write b)->(j,b) ∈ (S.X i).wrs)/\(∀ j b,j<i->S.K j=some (.read b)->(j,b) ∈ (S.X i).rds)/\(∀ j,j<i->S.K j=some .call->j ∈ (S.X i).cls)/\(∀ j,j<i->S.K j=some .wcall->j ∈ (S.X i).wcs)/\(∀ p ∈ (S.X i).rds,p.2<(S.H i).next)/\(∀ p ∈ (S.X i).wrs,p.2<(S.H i).next)
 | 0,_=>by
  refine⟨fun j h=>by omega,?_,fun j b h=>by omega,fun j b h=>by omega,fun j h=>by omega,fun j h=>by omega,?_,?_⟩ <;>
  ·rw[O.x0];intro p hp;cases hp
 | i+1,hi=>by
  obtain⟨f1,f2,f3,f4,f5,f6,f7,f8⟩:=SOk.fx O (i:=i) (by omega)
  obtain⟨o,_,_,_,h⟩:=O.oper (i:=i) (by omega)
  have hnx:=(O.keep (i:=i) (by omega)).1
  rcases h with ⟨hk,_,_,hH,hX⟩|⟨k,h1,hk,_,hok,he,hH,hX⟩
  ·rw[hX];refine⟨fun j hj hn=>?_,fun p hp=>?_,fun j b hj hw=>?_,fun j b hj hw=>?_,fun j hj hw=>?_,fun j hj hw=>?_,fun p hp=>Nat.lt_of_lt_of_le (f7 p hp) hnx,fun p hp=>Nat.lt_of_lt_of_le (f8 p hp) hnx⟩
   ·rcases Nat.lt_or_ge j i with hl|hl
    ·exact f1 j hl hn
    ·rw[show j=i from by omega]at hn;exact absurd hk hn
   ·obtain⟨a,b⟩:=f2 p hp;exact⟨by omega,b⟩
   ·rcases Nat.lt_or_ge j i with hl|hl
    ·exact f3 j b hl hw
    ·rw[show j=i from by omega,hk]at hw;cases hw
   ·rcases Nat.lt_or_ge j i with hl|hl
    ·exact f4 j b hl hw
    ·rw[show j=i from by omega,hk]at hw;cases hw
   ·rcases Nat.lt_or_ge j i with hl|hl
    ·exact f5 j hl hw
    ·rw[show j=i from by omega,hk]at hw;cases hw
   ·rcases Nat.lt_or_ge j i with hl|hl
    ·exact f6 j hl hw
    ·rw[show j=i from by omega,hk]at hw;cases hw
  ·have hn1:h1.next=(S.H (i+1)).next:=by rw[hH]
   have hfr:(S.X (i+1)).frs=(i,(S.H i).next,(S.H (i+1)).next)::(S.X i).frs:=by rw[hX,← hn1];cases k<;>rfl
   rw[hfr];refine⟨fun j hj hn=>?_,fun p hp=>?_,fun j b hj hw=>?_,fun j b hj hw=>?_,fun j hj hw=>?_,fun j hj hw=>?_,fun p hp=>?_,fun p hp=>?_⟩
   ·rcases Nat.lt_or_ge j i with hl|hl
    ·exact List.mem_cons_of_mem _ (f1 j hl hn)
    ·rw[show j=i from by omega];exact List.mem_cons_self ..
   ·rcases List.mem_cons.1 hp with rfl|hp
    ·exact⟨Nat.lt_succ_self _,rfl,rfl⟩
    ·obtain⟨a,b⟩:=f2 p hp;exact⟨by omega,b⟩
   ·rw[hX];rcases Nat.lt_or_ge j i with hl|hl
    ·have:=f3 j b hl hw
     cases k<;>first|exact this|exact List.mem_cons_of_mem _ this
    ·have e:j=i:=by omega
     subst e;rw[hk]at hw;cases hw
     exact List.mem_cons_self ..
   ·rw[hX];rcases Nat.lt_or_ge j i with hl|hl
    ·have:=f4 j b hl hw
     cases k<;>first|exact this|exact List.mem_cons_of_mem _ this
    ·have e:j=i:=by omega
     subst e;rw[hk]at hw;cases hw
     exact List.mem_cons_self ..
   ·rw[hX];rcases Nat.lt_or_ge j i with hl|hl
    ·have:=f5 j hl hw
     cases k<;>first|exact this|exact List.mem_cons_of_mem _ this
    ·have e:j=i:=by omega
     subst e;rw[hk]at hw;cases hw
     exact List.mem_cons_self ..
   ·rw[hX];rcases Nat.lt_or_ge j i with hl|hl
    ·have:=f6 j hl hw
     cases k<;>first|exact this|exact List.mem_cons_of_mem _ this
    ·have e:j=i:=by omega
     subst e;rw[hk]at hw;cases hw
     exact List.mem_cons_self ..
   ·rw[hX]at hp;refine Nat.lt_of_lt_of_le ?_ hnx
    cases k with
    | read b =>
     rcases List.mem_cons.1 hp with rfl|hp
     ·simp only[okK,Bool.and_eq_true]at hok;obtain⟨ob,hob⟩:=Option.isSome_iff_exists.1 hok.1.2;exact(AH.get_parts hob).1
     ·exact f7 p hp
    | _=>exact f7 p hp
   ·rw[hX]at hp;refine Nat.lt_of_lt_of_le ?_ hnx
    cases k with
    | write b =>
     rcases List.mem_cons.1 hp with rfl|hp
     ·simp only[okK,Bool.and_eq_true]at hok;obtain⟨ob,hob⟩:=Option.isSome_iff_exists.1 hok.1.1.2;exact(AH.get_parts hob).1
     ·exact f8 p hp
    | _=>exact f8 p hp
theorem SOk.wr (O:SOk P G Oc rec ops S) {i b:Nat} (hi:i<ops.size) (hk:Wr S i b):(∃ ob,(S.H i).get b=some ob)/\(S.H i).floor<=b:=by
 rcases hk with hk|⟨hk,hf,ob,hob⟩
 rotate_left
 ·obtain⟨p1,p2,p3⟩:=AH.get_parts hob;have p2:inR (hidK .wcall (nthN (befL ops.toList) i) (S.X i) (S.H i).next++(S.H i).hid) b=false:=p2;rw[zB9,Bool.or_eq_false_iff]at p2;exact⟨⟨ob,by rw[AH.get_of (h:=S.H i) p1 p2.2];exact p3⟩,hf⟩
 obtain⟨o,_,_,_,h⟩:=O.oper hi;rcases h with ⟨hk',_⟩|⟨k,h1,hk',_,hok,_⟩
 ·rw[hk']at hk;cases hk
 ·rw[hk']at hk;cases hk
  simp only[okK,Bool.and_eq_true,Nat.ble_eq]at hok;exact⟨Option.isSome_iff_exists.1 hok.1.1.2,hok.1.2⟩
def Tch (S:Seq P G Oc rec ops.toList.toArray) (i x:Nat):Prop:=Wr S i x\/((S.H i).next<=x/\x<(S.H (i+1)).next)
open Classical in
noncomputable def Cn (S:Seq P G Oc rec ops.toList.toArray) (D:Nat->Prop):Nat->Nat->Option AObj
 | 0,x=>if x<(S.H 0).next then (S.H 0).t.get x else none
 | k+1,x=>if D k/\Tch S k x then (S.H (k+1)).t.get x else Cn S D k x
theorem zFo {D:Nat->Prop} {x:Nat} (h:x<(S.H 0).next):Cn S D 0 x=(S.H 0).t.get x:=by simp only[Cn];rw[if_pos h]
theorem zHb {D:Nat->Prop} {k x:Nat} (h:¬ (D k/\Tch S k x)):Cn S D (k+1) x=Cn S D k x:=by simp only[Cn];rw[if_neg h]
theorem zGy {D:Nat->Prop} {k x:Nat} (h:D k/\Tch S k x):Cn S D (k+1) x=(S.H (k+1)).t.get x:=by simp only[Cn];rw[if_pos h]
theorem zJK {D:Nat->Prop} {i x:Nat}:∀ {k:Nat},i<=k->(∀ j,i<=j->j<k->¬ (D j/\Tch S j x))->Cn S D k x=Cn S D i x
 | 0,h,_=>by rw[Nat.le_zero.1 h]
 | k+1,h,hn=>by
  rcases Nat.lt_or_ge i (k+1) with hl|hl
  ·rw[zHb (hn k (by omega) (Nat.lt_succ_self _))]
   exact zJK (by omega) (fun j h1 h2=>hn j h1 (by omega))
  ·rw[show i=k+1 from by omega]
def Rel (S:Seq P G Oc rec ops.toList.toArray) (i x:Nat):Prop :=
 (x<(S.H 0).next\/∃ j,j<i/\Anc ops i j/\(S.H j).next<=x/\x<(S.H (j+1)).next)/\(∀ m,m<i->Wr S m x->Anc ops i m)/\(∀ m,i<m->m<ops.size->Wr S m x->Anc ops m i)
theorem SOk.content (O:SOk P G Oc rec ops S) {D:Nat->Prop} {i x:Nat} (hd:∀ i<ops.size,D i->∀ j,Anc ops i j->D j) (ha:∀ j,Anc ops i j->D j) (hn:¬ D i) (hi:i<ops.size) (hr:Rel S i x):Cn S D ops.size x=(S.H i).t.get x:=by
 obtain⟨r1,r2,r3⟩:=hr;have hxi:x<(S.H i).next:=by
  rcases r1 with h|⟨j,h1,_,_,h2⟩
  ·exact Nat.lt_of_lt_of_le h (O.mono (Nat.zero_le _) (by omega))
  ·exact Nat.lt_of_lt_of_le h2 (O.mono h1 (by omega))
 rw[zJK (i:=i) (by omega) (fun j h1 h2 hj=>by
  obtain⟨hD,hT⟩:=hj;rcases Nat.eq_or_lt_of_le h1 with e|h1
  ·subst e;exact hn hD
  ·rcases hT with hT|⟨hT,_⟩
   ·exact hn (hd j h2 hD i (r3 j h1 h2 hT))
   ·have:=O.mono (i:=i) (j:=j) (by omega) (by omega);omega)]
 have key:∀ k,k<=i->x<(S.H k).next->Cn S D k x=(S.H k).t.get x:=by
  intro k
  induction k with
  | zero=>intro _ hx;exact zFo hx
  | succ k ih =>
   intro hk hx
   by_cases hT:Tch S k x
   ·have hD:D k:=by
     rcases hT with hT|⟨h1,h2⟩
     ·exact ha k (r2 k (by omega) hT)
     ·rcases r1 with h|⟨j,h3,h4,h5,h6⟩
      ·have:=O.mono (i:=0) (j:=k) (by omega) (by omega);omega
      ·rw[O.uniq (i:=k) (j:=j) (by omega) (by omega) h1 h2 h5 h6];exact ha j h4
    exact zGy ⟨hD,hT⟩
   ·rw[zHb (fun h=>hT h.2)]
    have hxk:x<(S.H k).next:=by
     rcases Nat.lt_or_ge x (S.H k).next with h|h
     ·exact h
     ·exact absurd (.inr ⟨h,hx⟩) hT
    rw[ih (by omega) hxk]
    exact((O.keep (i:=k) (by omega)).2.2.2.1 x hxk (fun h=>hT (.inl h))).symm
 exact key i (Nat.le_refl _) hxi
theorem SOk.okAt (O:SOk P G Oc rec ops S) {i:Nat} {k:Kd} (hi:i<ops.size) (hk:S.K i=some k):okK k (befL ops.toList) i (S.X i) (S.H i)=true:=by
 obtain⟨o,_,_,_,h⟩:=O.oper hi;rcases h with ⟨hk',_⟩|⟨k',h1,hk',_,hok,_⟩
 ·rw[hk']at hk;cases hk
 ·rw[hk']at hk;cases hk;exact hok
theorem SOk.afterW (O:SOk P G Oc rec ops S) {i m:Nat} {k:Kd} (hi:i<ops.size) (hk:S.K i=some k) (hf:k≠.free) (hm:m<i) (hw:S.K m=some .wcall):Anc ops i m:=by
 have hok:=O.okAt hi hk;obtain⟨f1,f2,f3,f4,f5,f6,f7,f8⟩:=O.fx (i:=i) (by omega)
 have h6:=f6 m hm hw;have all:∀ {l:Bool},(l&&(S.X i).wcs.all fun m=>(nthN (befL ops.toList) i).testBit m)=true->Anc ops i m:=by
  intro l h;rw[Bool.and_eq_true]at h;have:=List.all_eq_true.1 h.2 _ h6
  simpa [Anc] using this
 cases k with
 | free=>exact absurd rfl hf
 | read b=>exact all hok
 | write b=>exact all hok
 | call=>exact all hok
 | wcall=>exact all hok
theorem SOk.seenRW (O:SOk P G Oc rec ops S) {m x:Nat} {ob:AObj} (hv:(Lh S .wcall m).get x=some ob):inR (zDv (nthN (befL ops.toList) m) (S.X m).frs) x=false/\(∀ j,(j,x) ∈ (S.X m).rds->Anc ops m j)/\(∀ j,(j,x) ∈ (S.X m).wrs->Anc ops m j):=by
 obtain⟨p1,p2,p3⟩:=AH.get_parts hv;have p2:inR ((zDv (nthN (befL ops.toList) m) (S.X m).frs++(zGa (nthN (befL ops.toList) m) (S.X m).rds++zGa (nthN (befL ops.toList) m) (S.X m).wrs))++(S.H m).hid) x=false:=p2;rw[zB9,zB9,zB9,Bool.or_eq_false_iff,Bool.or_eq_false_iff,Bool.or_eq_false_iff]at p2;obtain⟨⟨q1,q2,q3⟩,_⟩:=p2;refine⟨q1,fun j hj=>?_,fun j hj=>?_⟩
 ·cases hb:(nthN (befL ops.toList) m).testBit j with
  | true=>exact hb
  | false=>rw[zDO.2 ⟨_,hj,hb,rfl⟩]at q2;cases q2
 ·cases hb:(nthN (befL ops.toList) m).testBit j with
  | true=>exact hb
  | false=>rw[zDO.2 ⟨_,hj,hb,rfl⟩]at q3;cases q3
theorem SOk.rel (O:SOk P G Oc rec ops S) {i x:Nat} {k:Kd} (hi:i<ops.size) (hk:S.K i=some k) {ob:AObj} (hv:(Lh S k i).get x=some ob):Rel S i x/\(∀ b,k=.read b\/k=.write b->x=b)/\k≠.free:=by
 obtain⟨hx,hh,_⟩:=AH.get_parts hv;have hx:x<(S.H i).next:=hx;have hh:inR (hidK k (nthN (befL ops.toList) i) (S.X i) (S.H i).next++(S.H i).hid) x=false:=hh;rw[zB9,Bool.or_eq_false_iff]at hh;obtain⟨f1,f2,f3,f4,f5,f6,f7,f8⟩:=O.fx (i:=i) (by omega)
 have hok:=O.okAt hi hk;have hnf:k≠.free:=by
  rintro rfl;have:=hh.1;simp only[hidK,inR,Bool.or_eq_false_iff,Bool.and_eq_false_iff]at this;rcases this.1 with h2|h2
  ·have:=zJj h2;omega
  ·have:=zKJ h2;omega
 have late:∀ m,i<m->m<ops.size->Wr S m x->(k=.read x\/k=.write x\/k=.wcall\/(k=.call/\inR (zDv (nthN (befL ops.toList) i) (S.X m).frs) x=false))->Anc ops m i:=by
  intro m hm hmn hkm hc;obtain⟨g1,g2,g3,g4,g5,g6,g7,g8⟩:=O.fx (i:=m) (by omega)
  rcases hkm with hkm|⟨hkm,_,obm,hvm⟩
  ·have hokm:=O.okAt hmn hkm;simp only[okK,Bool.and_eq_true]at hokm;rcases hc with rfl|rfl|rfl|⟨rfl,hc⟩
   ·have:=List.all_eq_true.1 hokm.1.1.1.1.2 _ (g4 i x hm hk)
    simpa [Anc] using this
   ·have:=List.all_eq_true.1 hokm.1.1.1.1.1.2 _ (g3 i x hm hk)
    simpa [Anc] using this
   ·exact O.afterW hmn hkm (by simp) hm hk
   ·have:=List.all_eq_true.1 hokm.1.1.1.2 _ (g5 i hm hk);rw[hc]at this
    simpa [Anc] using this
  ·obtain⟨q1,q2,q3⟩:=O.seenRW hvm;rcases hc with rfl|rfl|rfl|⟨rfl,hc⟩
   ·exact q2 i (g4 i x hm hk)
   ·exact q3 i (g3 i x hm hk)
   ·exact O.afterW hmn hkm (by simp) hm hk
   ·have hokm:=O.okAt hmn hkm;simp only[okK,Bool.and_eq_true]at hokm;have:=List.all_eq_true.1 hokm.1 _ (g5 i hm hk)
    simpa [Anc] using this
 have one:∀ b,(k=.read b\/k=.write b)->x=b:=by
  intro b hb;have h1:inR [(0,b),(b+1,(S.H i).next)] x=false:=by rcases hb with rfl|rfl<;>exact hh.1
  simp only[inR,Bool.or_eq_false_iff,Bool.and_eq_false_iff]at h1;rcases Nat.lt_trichotomy x b with h|h|h
  ·rcases h1.1 with h2|h2
   ·have:=zJj h2;omega
   ·have:=zKJ h2;omega
  ·exact h
  ·rcases h1.2.1 with h2|h2
   ·have:=zJj h2;omega
   ·have:=zKJ h2;omega
 have fresh:∀ b,zIs b (nthN (befL ops.toList) i) (S.X i).frs=true->b<(S.H i).next->(b<(S.H 0).next\/∃ j,j<i/\Anc ops i j/\(S.H j).next<=b/\b<(S.H (j+1)).next):=by
  intro b hf hb;rcases O.find (i:=i) (by omega) hb with h1|⟨j,h1,h2,h3⟩
  ·exact .inl h1
  ·refine .inr ⟨j,h1,?_,h2,h3⟩;have hne:S.K j≠none:=fun e=>by have:=(O.keep (i:=j) (by omega)).2.2.2.2 e;omega
   have:=List.all_eq_true.1 hf _ (f1 j h1 hne);simp only[Bool.or_eq_true,Bool.not_eq_true',Bool.and_eq_false_iff]at this;rcases this with h|h|h
   ·exact h
   ·rw[← Bool.not_eq_true,Nat.ble_eq]at h;exact absurd h2 h
   ·rw[← Bool.not_eq_true,Nat.blt_eq]at h;exact absurd h3 h
 have hancC:inR (zDv (nthN (befL ops.toList) i) (S.X i).frs) x=false->∀ j,j<i->(S.H j).next<=x->x<(S.H (j+1)).next->Anc ops i j:=by
  intro hvis j h1 h2 h3;have hne:S.K j≠none:=fun e=>by have:=(O.keep (i:=j) (by omega)).2.2.2.2 e;omega
  cases hb:(nthN (befL ops.toList) i).testBit j with
  | true=>exact hb
  | false =>
   have:=zCy.2 ⟨_,f1 j h1 hne,hb,h2,h3⟩;rw[hvis]at this;cases this
 have freshC:inR (zDv (nthN (befL ops.toList) i) (S.X i).frs) x=false->(x<(S.H 0).next\/∃ j,j<i/\Anc ops i j/\(S.H j).next<=x/\x<(S.H (j+1)).next):=by
  intro hvis;rcases O.find (i:=i) (by omega) hx with h1|⟨j,h1,h2,h3⟩
  ·exact .inl h1
  ·exact .inr ⟨j,h1,hancC hvis j h1 h2 h3,h2,h3⟩
 have early:∀ m,m<i->Wr S m x->(S.K m=some (.write x)->Anc ops i m)->Anc ops i m:=by
  intro m hm hw hc;rcases hw with hw|⟨hw,_⟩
  ·exact hc hw
  ·exact O.afterW hi hk hnf hm hw
 cases k with
 | free=>exact absurd rfl hnf
 | read b =>
  have e:=one b (.inl rfl);subst e;simp only[okK,Bool.and_eq_true]at hok;refine⟨⟨fresh x hok.1.1.1 hx,fun m hm hw=>early m hm hw (fun hw=>?_),fun m hm hmn hw=>late m hm hmn hw (.inl rfl)⟩,fun b' hb'=>one b' hb',by simp⟩
  have:=List.all_eq_true.1 hok.1.1.2 _ (f3 m x hm hw)
  simpa [Anc] using this
 | write b =>
  have e:=one b (.inr rfl);subst e;simp only[okK,Bool.and_eq_true]at hok;refine⟨⟨fresh x hok.1.1.1.1.1.1 hx,fun m hm hw=>early m hm hw (fun hw=>?_),fun m hm hmn hw=>late m hm hmn hw (.inr (.inl rfl))⟩,fun b' hb'=>one b' hb',by simp⟩
  have:=List.all_eq_true.1 hok.1.1.1.1.1.2 _ (f3 m x hm hw)
  simpa [Anc] using this
 | wcall =>
  obtain⟨q1,q2,q3⟩:=O.seenRW hv;exact⟨⟨freshC q1,fun m hm hw=>early m hm hw (fun hw=>q3 m (f3 m x hm hw)),fun m hm hmn hw=>late m hm hmn hw (.inr (.inr (.inl rfl)))⟩,fun b' hb'=>one b' hb',by simp⟩
 | call =>
  have hvis:inR (zDv (nthN (befL ops.toList) i) (S.X i).frs) x=false:=hh.1;simp only[okK,Bool.and_eq_true]at hok;refine⟨⟨freshC hvis,fun m hm hw=>early m hm hw (fun hw=>?_),fun m hm hmn hw=>late m hm hmn hw (.inr (.inr (.inr ⟨rfl,?_⟩)))⟩,fun b' hb'=>one b' hb',by simp⟩
  ·have:=List.all_eq_true.1 hok.1 _ (f3 m x hm hw);simp only at this;rw[hvis,Bool.or_false]at this;exact this
  ·rw[Bool.eq_false_iff];intro hc;obtain⟨p,h1,h2,h3,h4⟩:=zCy.1 hc;obtain⟨g1,g2,_⟩:=O.fx (i:=m) (by omega)
   obtain⟨h5,h6,h7⟩:=g2 p h1;rw[h6]at h3;rw[h7]at h4;rcases Nat.lt_or_ge p.1 i with hl|hl
   ·have:=hancC hvis p.1 hl h3 h4;unfold Anc at this;rw[h2]at this;cases this
   ·have:=O.mono (i:=i) (j:=p.1) hl (by omega);omega
end
section
variable {P:Program} {G:Nat} {Oc:Orc} {rec:Ev} {ops:Array Oper} {S:Seq P G Oc rec ops.toList.toArray}
variable [OrcOk P G Oc]
theorem zLu {bef:List Nat} {L:List Oper}:∀ {l:List Oper} {i k:Nat} {o:Oper},zIy L bef l i=true->l[k]?=some o->∀ (j:Nat) (p:Oper) (d:Tmp),L[j]?=some p->i+k≠j->o.dst=some d->d ∈ zD3 p++zFI L p ->
  p.dst≠some d/\(i+k<j->(nthN bef j).testBit (i+k)=true)/\(j<i+k->(nthN bef (i+k)).testBit j=true)
 | [],_,_,_,_,h=>by simp at h
 | q::l,i,0,o,hT,h=>by
  simp at h;subst h;intro j p d hp hne hd hm;simp only[zIy,Bool.and_eq_true]at hT;have:=List.all_eq_true.1 hT.1 (p,j) (List.mk_mem_zipIdx_iff_getElem?.2 hp);simp only[hd]at this;rw[Bool.or_eq_true]at this;rcases this with this|this
  ·rw[Nat.beq_eq]at this;exact absurd this hne
  ·rw[Bool.or_eq_true]at this;rcases this with this|this
   ·rw[Bool.not_eq_true',← Bool.not_eq_true,List.contains_iff_mem]at this;exact absurd hm this
   ·rw[Bool.and_eq_true]at this;obtain⟨h1,h2⟩:=this;refine⟨fun e=>by rw[e]at h1;simp at h1,fun hlt=>?_,fun hlt=>?_⟩
    ·have:Nat.blt i j=true:=by rw[Nat.blt_eq];exact hlt
     rw[this,cond_true]at h2;exact h2
    ·have:Nat.blt i j=false:=by
      rw[Bool.eq_false_iff];intro h;rw[Nat.blt_eq]at h;omega
     rw[this,cond_false]at h2;exact h2
 | q::l,i,k+1,o,hT,h=>by
  simp only[zIy,Bool.and_eq_true]at hT;have:=zLu hT.2 (k:=k) (by simpa using h)
  rwa [show i+1+k=i+(k+1) from by omega]at this
theorem SOk.tmpAt (O:SOk P G Oc rec ops S) {i j:Nat} {oi oj:Oper} (hi:ops[i]?=some oi) (hj:ops[j]?=some oj) (hne:i≠j) {d:Tmp} (hd:oi.dst=some d) (hm:d ∈ zD3 oj++zFI ops.toList oj):oj.dst≠some d/\(i<j->Anc ops j i)/\(j<i->Anc ops i j):=by
 have:=zLu O.tmp (k:=i) (by rw[Array.getElem?_toList];exact hi) j oj d (by rw[Array.getElem?_toList];exact hj) (by omega) hd hm
 simpa [Anc] using this
def dstO (ops:Array Oper) (k:Nat):Option Tmp:=(ops[k]?).bind (·.dst)
open Classical in
noncomputable def TD (S:Seq P G Oc rec ops.toList.toArray) (D:Nat->Prop):Nat->List Value
 | 0=>S.T 0
 | k+1=>if D k then putA (TD S D k) (dstO ops k) (S.V k) else TD S D k
theorem zEU {D:Nat->Prop} {k:Nat} (h:D k):TD S D (k+1)=putA (TD S D k) (dstO ops k) (S.V k):=by simp only[TD];rw[if_pos h]
theorem zHe {D:Nat->Prop} {k:Nat} (h:¬ D k):TD S D (k+1)=TD S D k:=by simp only[TD];rw[if_neg h]
theorem SOk.step (O:SOk P G Oc rec ops S) {k:Nat} (hk:k<ops.size):S.T (k+1)=putA (S.T k) (dstO ops k) (S.V k):=by
 obtain⟨o,h1,_,h2,_⟩:=O.oper hk;rw[h2,dstO,h1];rfl
theorem zMd {D:Nat->Prop} (O:SOk P G Oc rec ops S):∀ {k:Nat},k<=ops.size->(TD S D k).length=(S.T k).length
 | 0,_=>rfl
 | k+1,h=>by
  rw[O.step (by omega),zKV]
  by_cases hD:D k
  ·rw[zEU hD,zKV,zMd O (by omega)]
  ·rw[zHe hD,zMd O (by omega)]
theorem SOk.temps (O:SOk P G Oc rec ops S) {D:Nat->Prop} {i x:Nat} {o:Oper} (hd:∀ i<ops.size,D i->∀ j,Anc ops i j->D j) (ha:∀ j,Anc ops i j->D j) (hn:¬ D i) (hi:ops[i]?=some o) (hx:x ∈ zD3 o++zFI ops.toList o):nth (TD S D ops.size) x=nth (S.T i) x:=by
 have hlt:i<ops.size:=(Array.getElem?_eq_some_iff.1 hi).1;have late:∀ k,i<=k->k<=ops.size->nth (TD S D k) x=nth (TD S D i) x:=by
  intro k
  induction k with
  | zero=>intro h _;rw[Nat.le_zero.1 h]
  | succ k ih =>
   intro h1 h2;rcases Nat.eq_or_lt_of_le h1 with e|h1
   ·rw[e]
   ·rw[← ih (by omega) (by omega)]
    by_cases hD:D k
    ·rw[zEU hD];refine zHX (fun e=>?_)
     obtain⟨ok,hok,_,_⟩:=O.oper (i:=k) (by omega)
     have hdk:ok.dst=some x:=by simpa [dstO,hok] using e
     have hne:k≠i:=fun e=>hn (e ▸ hD)
     exact hn (hd k (by omega) hD i ((O.tmpAt hok hi hne hdk hx).2.2 (by omega)))
    ·rw[zHe hD]
 have early:∀ k,k<=i->nth (TD S D k) x=nth (S.T k) x:=by
  intro k
  induction k with
  | zero=>intro _;rfl
  | succ k ih =>
   intro h1;have ih:=ih (by omega)
   rw[O.step (by omega)]
   obtain⟨ok,hok,_,_⟩:=O.oper (i:=k) (by omega)
   have hdk:dstO ops k=ok.dst:=by simp[dstO,hok]
   by_cases hD:D k
   ·rw[zEU hD,hdk]
    cases e:ok.dst with
    | none=>exact ih
    | some d =>
     by_cases hdx:d=x
     ·subst hdx;exact zGb _ _ _ _ (zMd O (by omega))
     ·rw[zHX (by simpa using hdx),zHX (by simpa using hdx)];exact ih
   ·rw[zHe hD,hdk,zHX (fun e=>?_)]
    ·exact ih
    ·exact hD (ha k ((O.tmpAt hok hi (by omega) e hx).2.1 (by omega)))
 rw[late _ (by omega) (Nat.le_refl _),early i (Nat.le_refl _)]
def Add (D:Nat->Prop) (i:Nat) (k:Nat):Prop:=D k\/k=i
theorem SOk.tempsAdd (O:SOk P G Oc rec ops S) {D:Nat->Prop} {i:Nat} (hn:¬ D i) (hi:i<ops.size):TD S (Add D i) ops.size=putA (TD S D ops.size) (dstO ops i) (S.V i):=by
 have early:∀ k,k<=i->TD S (Add D i) k=TD S D k:=by
  intro k
  induction k with
  | zero=>intro _;rfl
  | succ k ih =>
   intro h
   by_cases hD:D k
   ·rw[zEU hD,zEU (D:=Add D i) (.inl hD),ih (by omega)]
   ·rw[zHe hD,zHe (D:=Add D i) (fun h'=>h'.elim hD (fun e=>by omega)),ih (by omega)]
 have late:∀ k,i<k->k<=ops.size->TD S (Add D i) k=putA (TD S D k) (dstO ops i) (S.V i):=by
  intro k
  induction k with
  | zero=>intro h _;omega
  | succ k ih =>
   intro h1 h2;rcases Nat.eq_or_lt_of_le (Nat.lt_succ_iff.1 h1) with e|h1
   ·subst e;rw[zEU (D:=Add D i) (.inr rfl),zHe hn,early i (Nat.le_refl _)]
   ·have ih:=ih h1 (by omega)
    by_cases hD:D k
    ·rw[zEU hD,zEU (D:=Add D i) (.inl hD),ih];refine zLw ?_
     obtain⟨oi,hoi,_,_⟩:=O.oper hi;obtain⟨ok,hok,_,_⟩:=O.oper (i:=k) (by omega)
     have e1:dstO ops i=oi.dst:=by simp[dstO,hoi]
     have e2:dstO ops k=ok.dst:=by simp[dstO,hok]
     rw[e1,e2]
     cases h3:oi.dst with
     | none=>exact .inl rfl
     | some d =>
      refine .inr (.inr (fun e=>?_))
      have hm:d ∈ zD3 ok++zFI ops.toList ok:=by
       rw[List.mem_append];left;unfold zD3;rw[← e];simp
      exact(O.tmpAt hoi hok (by omega) h3 hm).1 e.symm
    ·rw[zHe hD,zHe (D:=Add D i) (fun h'=>h'.elim hD (fun e=>by omega)),ih]
 exact late _ hi (Nat.le_refl _)
theorem SOk.tempsAll (O:SOk P G Oc rec ops S) {D:Nat->Prop} (hD:∀ i<ops.size,D i):∀ {k:Nat},k<=ops.size->TD S D k=S.T k
 | 0,_=>rfl
 | k+1,h=>by rw[zEU (hD k (by omega)),SOk.tempsAll O hD (by omega),O.step (by omega)]
theorem SOk.touchAdd (O:SOk P G Oc rec ops S) {D:Nat->Prop} {i x:Nat} (hd:∀ i<ops.size,D i->∀ j,Anc ops i j->D j) (hn:¬ D i) (hi:i<ops.size) (hT:Tch S i x):Cn S (Add D i) ops.size x=(S.H (i+1)).t.get x:=by
 rw[zJK (i:=i+1) hi (fun k h1 h2 hk=>?_)]
 ·exact zGy ⟨.inr rfl,hT⟩
 ·obtain⟨hD,hK⟩:=hk;have hDk:D k:=hD.elim id (fun e=>by omega)
  have hanc:∀ (h:Anc ops k i),False:=fun h=>hn (hd k h2 hDk i h)
  obtain⟨f1,f2,f3,f4,f5,f6,f7,f8⟩:=O.fx (i:=k) (by omega)
  rcases hK with hK|⟨h3,h4⟩
  ·have hfr:(S.H i).next<=x->x<(S.H (i+1)).next->(i,(S.H i).next,(S.H (i+1)).next) ∈ (S.X k).frs:=fun h5 h6 =>
    f1 i (by omega) (fun e=>by have:=(O.keep hi).2.2.2.2 e;omega)
   rcases hK with hK|⟨hK,_,ob,hv⟩
   ·have hok:=O.okAt h2 hK;rcases hT with (hT|⟨hT,_⟩)|⟨h5,h6⟩
    ·simp only[okK,Bool.and_eq_true]at hok;have:=List.all_eq_true.1 hok.1.1.1.1.1.2 _ (f3 i x (by omega) hT)
     exact hanc (by simpa [Anc] using this)
    ·exact hanc (O.afterW h2 hK (by simp) (by omega) hT)
    ·simp only[okK,Bool.and_eq_true]at hok;have:=List.all_eq_true.1 hok.1.1.1.1.1.1 _ (hfr h5 h6);simp only[Bool.or_eq_true,Bool.not_eq_true',Bool.and_eq_false_iff]at this;rcases this with h|h|h
     ·exact hanc h
     ·have:=zJj h;omega
     ·have:=zKJ h;omega
   ·obtain⟨q1,q2,q3⟩:=O.seenRW hv;rcases hT with (hT|⟨hT,_⟩)|⟨h5,h6⟩
    ·exact hanc (q3 i (f3 i x (by omega) hT))
    ·exact hanc (O.afterW h2 hK (by simp) (by omega) hT)
    ·cases hb:(nthN (befL ops.toList) k).testBit i with
     | true=>exact hanc hb
     | false=>rw[zCy.2 ⟨_,hfr h5 h6,hb,h5,h6⟩]at q1;cases q1
  ·rcases hT with hT|⟨h5,h6⟩
   ·obtain⟨⟨ob,hob⟩,_⟩:=O.wr hi hT;have:=(AH.get_parts hob).1;have:=O.mono (i:=i) (j:=k) (by omega) (by omega)
    omega
   ·have:=O.uniq (i:=i) (j:=k) hi h2 h5 h6 h3 h4;omega
theorem zF2 {D:Nat->Prop} {i x:Nat} (hT:¬ Tch S i x):∀ k,Cn S (Add D i) k x=Cn S D k x
 | 0=>rfl
 | k+1=>by
  by_cases h:D k/\Tch S k x
  ·rw[zGy h,zGy (D:=Add D i) ⟨.inl h.1,h.2⟩]
  ·rw[zHb h,zHb (D:=Add D i) (fun h'=>h'.1.elim (fun hD=>h ⟨hD,h'.2⟩) (fun e=>hT (e ▸ h'.2))),zF2 hT k]
theorem SOk.seqLive (O:SOk P G Oc rec ops S) {x:Nat} (hx:x<(S.H 0).next):∀ {k:Nat} {ob:AObj},k<=ops.size->(S.H k).t.get x=some ob->∃ o0,(S.H 0).t.get x=some o0
 | 0,ob,_,h=>⟨ob,h⟩
 | k+1,ob,hk,h=>by
  by_cases hw:Wr S k x
  ·obtain⟨⟨ob',hob⟩,_⟩:=O.wr (by omega) hw
   exact SOk.seqLive O hx (k:=k) (by omega) (AH.get_parts hob).2.2
  ·have:=O.mono (i:=0) (j:=k) (Nat.zero_le _) (by omega)
   rw[(O.keep (i:=k) (by omega)).2.2.2.1 x (by omega) hw]at h
   exact SOk.seqLive O hx (k:=k) (by omega) h
theorem SOk.cnLive (O:SOk P G Oc rec ops S) {D:Nat->Prop} {x:Nat} (hx:x<(S.H 0).next):∀ {k:Nat} {ob:AObj},k<=ops.size->Cn S D k x=some ob->∃ o0,(S.H 0).t.get x=some o0
 | 0,ob,_,h=>⟨ob,by rw[zFo hx]at h;exact h⟩
 | k+1,ob,hk,h=>by
  by_cases hc:D k/\Tch S k x
  ·rw[zGy hc]at h;exact O.seqLive hx hk h
  ·rw[zHb hc]at h;exact SOk.cnLive O hx (by omega) h
theorem SOk.cnSame (O:SOk P G Oc rec ops S) {D:Nat->Prop} {x:Nat} (hx:x<(S.H 0).next) (hs:x<(S.H 0).floor\/inR (S.H 0).hid x=true):∀ {k:Nat},k<=ops.size->Cn S D k x=(S.H 0).t.get x
 | 0,_=>zFo hx
 | k+1,hk=>by
  rw[zHb (fun hc=>?_),SOk.cnSame O hx hs (by omega)]
  have hfix:=O.fix (i:=k) (by omega)
  rcases hc.2 with hw|⟨h1,_⟩
  ·obtain⟨⟨ob,hob⟩,hf⟩:=O.wr (by omega) hw
   rcases hs with hs|hs
   ·rw[hfix.2]at hf;omega
   ·have:=AH.get_hid hob;rw[hfix.1,hs]at this;cases this
  ·have:=O.mono (i:=0) (j:=k) (Nat.zero_le _) (by omega);omega
theorem SOk.cnAll (O:SOk P G Oc rec ops S) {D:Nat->Prop} (hD:∀ i<ops.size,D i) {x:Nat}:∀ {k:Nat},k<=ops.size->x<(S.H k).next->Cn S D k x=(S.H k).t.get x
 | 0,_,hx=>zFo hx
 | k+1,hk,hx=>by
  by_cases hT:Tch S k x
  ·exact zGy ⟨hD k (by omega),hT⟩
  ·rw[zHb (fun h=>hT h.2)]
   have hxk:x<(S.H k).next:=by
    rcases Nat.lt_or_ge x (S.H k).next with h|h
    ·exact h
    ·exact absurd (.inr ⟨h,hx⟩) hT
   rw[SOk.cnAll O hD (by omega) hxk]
   exact((O.keep (i:=k) (by omega)).2.2.2.1 x hxk (fun h=>hT (.inl h))).symm
theorem zG4 (T:Tr) (f:Nat->Option AObj) (lo:Nat):∀ c,∃ T':Tr,∀ x,T'.get x=if lo<=x/\x<lo+c then f x else T.get x
 | 0=>⟨T,fun x=>by rw[if_neg (by omega)]⟩
 | c+1=>by
  obtain⟨T',h⟩:=zG4 T f lo c;refine⟨T'.set (lo+c) (f (lo+c)),fun x=>?_⟩
  rw[Tr.get_set,h]
  by_cases e:x=lo+c
  ·subst e;rw[if_pos rfl,if_pos (by omega)]
  ·rw[if_neg e]
   by_cases h2:lo<=x/\x<lo+c
   ·rw[if_pos h2,if_pos (by omega)]
   ·rw[if_neg h2,if_neg (by omega)]
theorem zPC (O:SOk P G Oc rec ops S) (D:Nat->Prop):∀ k,k<=ops.size->∃ T:Tr,∀ x,T.get x=Cn S D k x
 | 0,_=>by
  obtain⟨T,h⟩:=zG4 .lf (fun x=>(S.H 0).t.get x) 0 (S.H 0).next
  refine⟨T,fun x=>?_⟩
  rw[h]
  by_cases hx:x<(S.H 0).next
  ·rw[if_pos (by omega),zFo hx]
  ·rw[if_neg (by omega)]
   simp only[Cn];rw[if_neg hx];rfl
 | k+1,hk=>by
  obtain⟨T,h⟩:=zPC O D k (by omega)
  obtain⟨T1,h1⟩:=zG4 T (fun x=>Cn S D (k+1) x) 0 (S.H (k+1)).next
  refine⟨T1,fun x=>?_⟩
  rw[h1]
  by_cases hx:x<(S.H (k+1)).next
  ·rw[if_pos (by omega)]
  ·rw[if_neg (by omega),h,zHb (fun h'=>?_)]
   have hm:=(O.keep (i:=k) (by omega)).1
   rcases h'.2 with hw|⟨_,h2⟩
   ·obtain⟨⟨ob,hob⟩,_⟩:=O.wr (by omega) hw
    have:=(AH.get_parts hob).1;omega
   ·exact hx h2
end
end
end Go.Proofs.YtphjgfjbiimkjaaGreat
