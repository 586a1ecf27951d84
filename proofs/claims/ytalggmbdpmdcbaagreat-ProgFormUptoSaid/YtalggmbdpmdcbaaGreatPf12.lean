/-
  Laws of walks, and walks.
-/
import Derived.Test.YtalggmbdpmdcbaaGreatPf11
import Derived.Test.YtalggmbdpmdcbaaGreatPf5
import Derived.Test.YtalggmbdpmdcbaaGreatPf3
set_option linter.unusedVariables false
set_option linter.unusedSimpArgs false
set_option maxRecDepth 100000
set_option maxHeartbeats 16000000
namespace Go.Proofs.YtalggmbdpmdcbaaGreat
section
open Go.RowKit
mutual
def zCw:Tree->Nat
 | .mk d ks=>(if d.kind=1\/d.kind=4 then 0 else if d.kind=5 then ks.length - 1 else if d.kind=7 then 2 else 1)+zBR ks
def zBR:List Tree->Nat
 | []=>0
 | t::r=>zCw t+zBR r
end
mutual
def grpT:Tree->Int
 | .mk d ks=>max d.group (zDe ks)
def zDe:List Tree->Int
 | []=>0
 | t::r=>max (grpT t) (zDe r)
end
theorem zDR:∀ ts:List Tree,0<=zDe ts
 | []=>by simp[zDe]
 | t::r=>by have:=zDR r;simp only[zDe];omega
theorem zEa (t:Tree):0<=grpT t:=by
 cases t with
 | mk d ks=>have:=zDR ks;simp only[grpT];omega
def cnt (j:Int) (ys:List InstD):Nat:=(ys.filter fun x=>x.kind == 3&&x.slot == j).length
theorem zBe (j:Int) (a b:List InstD):cnt j (a++b)=cnt j a+cnt j b:=by simp[cnt]
theorem zCj (j:Int) (x:InstD) (b:List InstD):cnt j (x::b)=(if x.kind=3/\x.slot=j then 1 else 0)+cnt j b:=by
 unfold cnt;rw[List.filter_cons]
 by_cases h:x.kind=3/\x.slot=j
 ·rw[if_pos (by simpa using h),if_pos h,List.length_cons];omega
 ·rw[if_neg (by simpa using h),if_neg h];omega
theorem zE5 (j:Int):cnt j []=0:=rfl
def Fine (N:Nat) (G:Int) (ys:List InstD):Prop :=
 0<=G/\ys.length=N/\(∀ x ∈ ys,x.kind≠5/\(x.kind=3->2<=x.slot/\x.slot<=41)/\(x.kind≠3->x.slot=0)/\x.slot<=2 * G+1)/\(∀ g:Int,cnt (2 * g) ys=cnt (2 * g+1) ys)/\(0<G->∃ x ∈ ys,x.kind=3/\x.slot=2 * G+1)
theorem Fine.nil:Fine 0 0 []:=⟨Int.le_refl _,rfl,fun _ h=>absurd h List.not_mem_nil,fun _=>rfl,fun h=>absurd h (by omega)⟩
theorem Fine.append {N M:Nat} {G K:Int} {a b:List InstD} (h:Fine N G a) (k:Fine M K b):Fine (N+M) (max G K) (a++b):=by
 obtain⟨h0,h1,h2,h3,h4⟩:=h;obtain⟨k0,k1,k2,k3,k4⟩:=k;refine⟨by omega,by rw[List.length_append];omega,fun x hx=>?_,fun g=>by rw[zBe,zBe,h3,k3],fun hg=>?_⟩
 ·rcases List.mem_append.1 hx with hx|hx
  ·obtain⟨a1,a2,a3,a4⟩:=h2 x hx;exact⟨a1,a2,a3,by omega⟩
  ·obtain⟨a1,a2,a3,a4⟩:=k2 x hx;exact⟨a1,a2,a3,by omega⟩
 ·by_cases hle:K<=G
  ·rw[Int.max_eq_left hle]at hg ⊢;obtain⟨x,hx,e⟩:=h4 hg;exact⟨x,List.mem_append_left _ hx,e⟩
  ·rw[Int.max_eq_right (by omega)]at hg ⊢
   obtain⟨x,hx,e⟩:=k4 hg;exact⟨x,List.mem_append_right _ hx,e⟩
theorem Fine.one {x:InstD} (h3:x.kind≠3) (h5:x.kind≠5) (hs:x.slot=0):Fine 1 0 [x]:=by
 refine⟨Int.le_refl _,rfl,fun y hy=>?_,fun g=>?_,fun h=>by omega⟩
 ·rw[List.mem_singleton]at hy;subst hy;exact⟨h5,fun e=>absurd e h3,fun _=>hs,by omega⟩
 ·rw[zCj,zCj,if_neg (fun e=>h3 e.1),if_neg (fun e=>h3 e.1)];rfl
theorem Fine.group {N:Nat} {G g:Int} {a:List InstD} {o1 o2:Int} (h:Fine N G a) (h0:0<g) (h1:g<=20):Fine (2+N) (max g G) (({kind:=3,slot:=2 * g+1,next:=o1}::a)++[{kind:=3,slot:=2 * g,next:=o2}]):=by
 obtain⟨b0,b1,b2,b3,b4⟩:=h;refine⟨by omega,by simp;omega,fun x hx=>?_,fun j=>?_,fun _=>?_⟩
 ·rcases List.mem_append.1 hx with hx|hx
  ·rcases List.mem_cons.1 hx with rfl|hx
   ·exact⟨by simp only;decide,fun _=>by simp only;omega,fun e=>absurd rfl e,by simp only;omega⟩
   ·obtain⟨a1,a2,a3,a4⟩:=b2 x hx;exact⟨a1,a2,a3,by omega⟩
  ·rw[List.mem_singleton]at hx;subst hx;exact⟨by simp only;decide,fun _=>by simp only;omega,fun e=>absurd rfl e,by simp only;omega⟩
 ·rw[zBe,zBe,zCj,zCj,zCj,zCj,zE5,zE5,b3 j];simp only[true_and]
  by_cases hj:j=g
  ·subst hj;rw[if_neg (by omega),if_pos rfl,if_pos rfl,if_neg (by omega)];omega
  ·rw[if_neg (by omega),if_neg (by omega),if_neg (by omega),if_neg (by omega)]
 ·by_cases hle:G<=g
  ·rw[Int.max_eq_left hle];exact⟨_,List.mem_append_left _ (List.mem_cons_self ..),rfl,rfl⟩
  ·rw[Int.max_eq_right (by omega)]
   obtain⟨x,hx,e⟩:=b4 (by omega)
   exact⟨x,List.mem_append_left _ (List.mem_cons_of_mem _ hx),e⟩
theorem zMC {d:NodeD} {ks:List Tree} (h:zAk (.mk d ks)=true):(d.kind=7->0<d.group/\d.group<=20)/\(d.kind≠7->d.group=0):=by
 simp only[zAk,zAu,Bool.and_eq_true]at h;have h1:=h.1.1;unfold zBM at h1;split at h1
 ·simp only[Bool.and_eq_true,beq_iff_eq,Bool.not_eq_true',bne_eq_false_iff_eq]at h1;exact⟨fun e=>by omega,fun _=>h1.2⟩
 split at h1
 ·simp only[Bool.and_eq_true,beq_iff_eq,Bool.not_eq_true',bne_eq_false_iff_eq,decide_eq_true_eq]at h1;exact⟨fun e=>by omega,fun _=>h1.2⟩
 split at h1
 ·simp only[Bool.and_eq_true,beq_iff_eq,Bool.not_eq_true',bne_eq_false_iff_eq,decide_eq_true_eq]at h1;exact⟨fun e=>by omega,fun _=>h1.1.1.1.2⟩
 split at h1
 ·simp only[Bool.and_eq_true,beq_iff_eq,Bool.not_eq_true',bne_eq_false_iff_eq,decide_eq_true_eq]at h1;exact⟨fun _=>⟨h1.1.2,h1.2⟩,fun e=>by omega⟩
 ·simp only[Bool.and_eq_true,beq_iff_eq,Bool.not_eq_true',bne_eq_false_iff_eq,decide_eq_true_eq]at h1;exact⟨fun e=>by omega,fun _=>h1.2⟩
theorem zG4 (d:NodeD) (i o:Int):Fine 1 0 [zCK d i o]:=by
 unfold zCK;split
 ·exact Fine.one (by simp only;decide) (by simp only;decide) rfl
 ·exact Fine.one (by simp only;decide) (by simp only;decide) rfl
theorem Fine.to {N M:Nat} {G K:Int} {ys:List InstD} (h:Fine N G ys) (e:N=M) (f:G=K):Fine M K ys:=by subst e f;exact h
mutual
theorem zEj:∀ (t:Tree) (out:Nat) (xs:List InstD),NF t->zAk t=true->∃ ys,(layP t out xs).2=xs++ys/\Fine (zCw t) (grpT t) ys
 | .mk d ks,out,xs,hn,hk=>by
  have hg:=zMC hk;have hkk:zAU ks=true:=zGs hk;have hks:NFs ks:=zHp hn;have hh:=fun out xs=>zLM ks out xs hks hkk
  have hg7:d.kind≠7->max d.group (zDe ks)=zDe ks:=fun h=>by rw[hg.2 h];exact Int.max_eq_right (zDR ks)
  unfold NF at hn;rcases hn with ⟨h,rfl⟩|⟨⟨m,lz,hm,rfl⟩,⟨k,rfl,h1,h2⟩,_⟩|⟨h7,⟨k,rfl,h2⟩,_⟩|⟨rfl,h2,h3,_⟩|⟨rfl,h2,h3,_⟩
  ·have h7:d.kind≠7:=by unfold zHq at h;omega
   simp only[grpT,hg7 h7];unfold zHq at h;rcases h with h|h|h|h
   ·simp only[layP,zCw,h,if_true,true_or,zBR];exact⟨[],by simp,Fine.nil⟩
   ·simp only[layP,zCw,h,if_true,Int.reduceEq,if_false,or_self,zBR];exact⟨_,rfl,Fine.one (by simp only;decide) (by simp only;decide) rfl⟩
   ·simp only[layP,zCw,h,if_true,Int.reduceEq,if_false,or_self,zBR];exact⟨_,rfl,Fine.one (by simp only;decide) (by simp only;decide) rfl⟩
   ·have n1:(d.kind=1)=False:=by simp;omega
    have n2:(d.kind=2)=False:=by simp;omega
    have n3:(d.kind=3)=False:=by simp;omega
    have n4:(d.kind=4)=False:=by simp;omega
    have n5:(d.kind=5)=False:=by simp;omega
    have n6:(d.kind=6)=False:=by simp;omega
    have n7:(d.kind=7)=False:=by simp;omega
    simp only[layP,zCw,n1,n2,n3,n4,n5,n6,n7,if_false,or_self,zBR];exact⟨_,rfl,Fine.one (by simp only;decide) (by simp only;decide) rfl⟩
  ·have e7:=hg7 (by simp only;decide)
   simp only[grpT,e7];simp only[layP,zCw,Int.reduceEq,if_false,if_true,or_self];rcases hm with rfl|rfl
   ·simp only[Int.reduceNeg,Int.reduceEq,if_false];obtain⟨ys,e,hf⟩:=hh xs.length (xs++[{kind:=2}]);rw[e];refine⟨zCK {kind:=6,hi := -1,lazy:=lz} (layH [k] xs.length (xs++[{kind:=2}])).1 out::ys,?_,((zG4 _ _ _).append (hf k rfl)).to rfl ?_⟩
    ·simp
    ·have:=zDR [k];omega
   ·simp only[if_true];obtain⟨ys,e,hf⟩:=hh out xs;rw[e];refine⟨ys++[zCK {kind:=6,hi:=1,lazy:=lz} (layH [k] out xs).1 out],by rw[List.append_assoc],(((hf k rfl).append (zG4 _ _ _)).to (Nat.add_comm _ _) ?_)⟩
    have:=zDR [k];omega
  ·obtain⟨g0,g1⟩:=hg.1 h7;obtain⟨ys,e,hf⟩:=hh xs.length (xs++[{kind:=3,slot:=2 * d.group+1,next:=out}]);simp only[grpT];simp only[layP,zCw,h7,Int.reduceEq,if_false,if_true,or_self,e];exact⟨({kind:=3,slot:=2 * d.group+1,next:=out}::ys)++[{kind:=3,slot:=2 * d.group,next:=(layH [k] xs.length (xs++[{kind:=3,slot:=2 * d.group+1,next:=out}])).1}],by simp,Fine.group (hf k rfl) g0 g1⟩
  ·have e7:=hg7 (by simp only;decide)
   simp only[grpT,e7];simp only[layP,zCw,Int.reduceEq,if_false,if_true,or_true,Nat.zero_add];exact zIj ks out xs hks hkk
  ·have e7:=hg7 (by simp only;decide)
   simp only[grpT,e7];simp only[layP,zCw,Int.reduceEq,if_false,if_true,or_self];exact zIA ks out xs hks hkk (by omega)
theorem zLM:∀ (ts:List Tree) (out:Nat) (xs:List InstD),NFs ts->zAU ts=true->∃ ys,(layH ts out xs).2=xs++ys/\(∀ k,ts=[k]->Fine (zBR ts) (zDe ts) ys)
 | [],out,xs,_,_=>⟨[],by simp[layH],fun k h=>by cases h⟩
 | k::r,out,xs,hn,hk=>by
  simp only[NFs]at hn;simp only[zAU,Bool.and_eq_true]at hk;obtain⟨ys,e,hf⟩:=zEj k out xs hn.1 hk.1;refine⟨ys,by simpa only[layH] using e,fun k' h=>?_⟩
  cases h
  refine hf.to (by simp[zBR]) ?_
  have:=zEa k;simp only[zDe];omega
theorem zIj:∀ (ts:List Tree) (out:Nat) (xs:List InstD),NFs ts->zAU ts=true->∃ ys,(layC ts out xs).2=xs++ys/\Fine (zBR ts) (zDe ts) ys
 | [],out,xs,_,_=>⟨[],by simp[layC],Fine.nil⟩
 | k::r,out,xs,hn,hk=>by
  simp only[NFs]at hn;simp only[zAU,Bool.and_eq_true]at hk;obtain⟨ys,e,hf⟩:=zIj r out xs hn.2 hk.2;obtain⟨zs,e2,hf2⟩:=zEj k (layC r out xs).1 (layC r out xs).2 hn.1 hk.1;refine⟨ys++zs,by simp only[layC];rw[e2,e,List.append_assoc],(hf.append hf2).to (by simp only[zBR];omega) (by simp only[zDe];omega)⟩
theorem zIA:∀ (ts:List Tree) (out:Nat) (xs:List InstD),NFs ts->zAU ts=true->1<=ts.length->∃ ys,(layA ts out xs).2=xs++ys/\Fine (ts.length - 1+zBR ts) (zDe ts) ys
 | [],out,xs,_,_,h=>by simp at h
 | [k],out,xs,hn,hk,_=>by
  simp only[NFs]at hn;simp only[zAU,Bool.and_eq_true]at hk;obtain⟨ys,e,hf⟩:=zEj k out xs hn.1 hk.1;refine⟨ys,by simpa only[layA] using e,hf.to (by simp[zBR]) ?_⟩
  have:=zEa k;simp only[zDe];omega
 | k::k2::r,out,xs,hn,hk,_=>by
  simp only[NFs]at hn;simp only[zAU,Bool.and_eq_true]at hk;obtain⟨ys,e,hf⟩:=zIA (k2::r) out xs (by simp only[NFs];exact hn.2) (by simp only[zAU,Bool.and_eq_true];exact hk.2) (by simp)
  obtain⟨zs,e2,hf2⟩:=zEj k out (layA (k2::r) out xs).2 hn.1 hk.1;simp only[layA];rw[e2,e];refine⟨ys++zs++[{kind:=2,next:=(layP k out (xs++ys)).1,other:=(layA (k2::r) out xs).1}],by simp only[List.append_assoc],((hf.append hf2).append (Fine.one (by simp only;decide) (by simp only;decide) rfl)).to ?_ ?_⟩
  ·simp only[zBR,List.length_cons];omega
  ·have:=zDR (k2::r);have:=zEa k;simp only[zDe]at *;omega
end
theorem zFB (j:Int) (zs:List InstD):cnt j (zBi zs)=cnt j zs:=by
 unfold zBi cnt;rw[List.filter_map,List.length_map];have:((fun x:InstD=>x.kind == 3&&x.slot == j) ∘ zDP (zs.length - 1))=fun x=>x.kind == 3&&x.slot == j:=rfl
 rw[this,List.filter_reverse,List.length_reverse]
theorem zE7 {zs:List InstD} {x:InstD} (h:x ∈ zBi zs):∃ y ∈ zs,x=zDP (zs.length - 1) y:=by
 unfold zBi at h;obtain⟨y,hy,e⟩:=List.mem_map.1 h;exact⟨y,List.mem_reverse.1 hy,e.symm⟩
theorem zG6 {zs:List InstD} {y:InstD} (h:y ∈ zs):zDP (zs.length - 1) y ∈ zBi zs:=List.mem_map.2 ⟨y,List.mem_reverse.2 h,rfl⟩
theorem zK0 (n:Nat) (h:n<=5000):wrap64 ((n:Int) - 0)=(n:Int):=by unfold wrap64;omega
theorem zLp (m:Nat):(zDP m {kind:=3,slot:=1,next:=0}).next=wrap64 ((m:Int) - 0):=by simp[zDP]
structure FormOk (s:Tree) (p:List InstD):Prop where
 len:p.length=zCw s+3
 most:p.length<=4000
 last:∀ (i:Nat) (x:InstD),p[i]?=some x->(x.kind=5↔i+1=p.length)
 slot:∀ x ∈ p,x.kind=3->0<=x.slot/\x.slot<=41
 none:∀ x ∈ p,x.kind≠3->x.slot=0
 even:∀ g:Int,cnt (2 * g) p=cnt (2 * g+1) p
 zero:cnt 0 p=1
 first:∃ x,p[0]?=some x/\x.kind=3/\x.slot=0
 save:∃ x,p[p.length - 2]?=some x/\x.kind=3/\x.slot=1/\x.next=((p.length - 1:Nat):Int)
 above:∀ x ∈ p,x.slot<=2 * grpT s+1
 found:∃ x ∈ p,x.slot=2 * grpT s+1
theorem zKt {t s:Tree} (h:zBB t=.ok s):NF s:=by
 unfold zBB at h;split at h
 ·rename_i h0;split at h
  ·cases h
  ·rename_i u hu
   cases h
   exact zGU h0.1 hu
 ·cases h
theorem zLj {s:Tree} {Z ys:List InstD} {q:InstD} (hZ:Z=zB5++ys++[q]) (hq1:q.kind=3/\q.slot=0) (hfine:Fine (zCw s) (grpT s) ys) (hle:Z.length<=4000) (hlt:Z.length<=5000):FormOk s (zBi Z):=by
 obtain⟨hg,hl,hf,hc,hx⟩:=hfine;have hlen:Z.length=zCw s+3:=by rw[hZ];simp[zB5,hl]
 have hpl:(zBi Z).length=Z.length:=zGp Z;have HL:=Lib.hid (And.intro hle hlt);clear hle hlt;have hat:∀ i,i<Z.length->(zBi Z)[i]?=(Z[Z.length - 1 - i]?).map (zDP (Z.length - 1)):=fun i hi=>by
  unfold zBi;rw[List.getElem?_map,List.getElem?_reverse hi]
 have hkind:∀ (m:Nat) (y:InstD),(zDP m y).kind=y.kind/\(zDP m y).slot=y.slot:=fun _ _=>⟨rfl,rfl⟩
 have hz0:Z[0]?=some {kind:=5}:=by rw[hZ];rfl
 have hz1:Z[1]?=some {kind:=3,slot:=1,next:=0}:=by rw[hZ];rfl
 have hzl:Z[Z.length - 1]?=some q:=by
  rw[hlen,hZ,List.getElem?_append_right (by simp[zB5,hl])]
  simp[zB5,hl]
 have hmid:∀ (i:Nat) (y:InstD),Z[i]?=some y->y.kind=5->i=0:=fun i y hi h5=>by
  rw[hZ,List.append_assoc]at hi
  match i,hi with
  | 0,_=>rfl
  | 1,hi=>cases hi;cases h5
  | i+2,hi =>
   have hi2:(ys++[q])[i]?=some y:=hi;rcases List.mem_append.1 (List.mem_of_getElem? hi2) with h|h
   ·exact absurd h5 (hf y h).1
   ·rw[List.mem_singleton]at h;subst h;rw[hq1.1]at h5;cases h5
 have hmem:∀ y ∈ Z,y.kind=5/\y.slot=0\/y.kind=3/\(y.slot=1\/y.slot=0)\/y ∈ ys:=fun y hy=>by
  rw[hZ]at hy;rcases List.mem_append.1 hy with hy|hy
  ·rcases List.mem_append.1 hy with hy|hy
   ·simp only[zB5,List.mem_cons,List.not_mem_nil,or_false]at hy;rcases hy with rfl|rfl
    ·exact .inl ⟨rfl,rfl⟩
    ·exact .inr (.inl ⟨rfl,.inl rfl⟩)
   ·exact .inr (.inr hy)
  ·rw[List.mem_singleton]at hy;subst hy;exact .inr (.inl ⟨hq1.1,.inr hq1.2⟩)
 refine⟨by rw[hpl,hlen],by rw[hpl];exact HL.out.1,fun i x hi=>?_,fun x hx3 h3=>?_,fun x hx3 h3=>?_,fun g=>?_,?_,?_,?_,fun x hx3=>?_,?_⟩
 ·have hil:i<Z.length:=by rw[← hpl];exact(List.getElem?_eq_some_iff.1 hi).1
  rw[hat i hil]at hi;obtain⟨y,hy,rfl⟩:=Option.map_eq_some_iff.1 hi;rw[(hkind _ y).1,hpl];refine⟨fun h5=>by have:=hmid _ y hy h5;omega,fun hl2=>?_⟩
  rw[show Z.length - 1 - i=0 by omega,hz0]at hy
  cases hy;rfl
 ·obtain⟨y,hy,rfl⟩:=zE7 hx3;rw[(hkind _ y).1]at h3;rw[(hkind _ y).2];rcases hmem y hy with ⟨h5,_⟩|⟨_,h⟩|h
  ·omega
  ·omega
  ·have:=(hf y h).2.1 h3;omega
 ·obtain⟨y,hy,rfl⟩:=zE7 hx3;rw[(hkind _ y).1]at h3;rw[(hkind _ y).2];rcases hmem y hy with ⟨_,h⟩|⟨h,_⟩|h
  ·exact h
  ·exact absurd h h3
  ·exact(hf y h).2.2.1 h3
 ·rw[zFB,zFB,hZ,zBe,zBe,zBe,zBe,hc g];simp only[zB5,zCj,zE5,hq1.1,hq1.2,true_and,Int.reduceEq,false_and,if_false]
  by_cases h0:g=0
  ·subst h0;simp only[Int.mul_zero,Int.zero_add,Int.reduceEq,if_true,if_false];omega
  ·rw[if_neg (by omega),if_neg (by omega),if_neg (by omega),if_neg (by omega)]
 ·have hc0:cnt 0 ys=0:=by
   unfold cnt;rw[List.length_eq_zero_iff,List.filter_eq_nil_iff];intro y hy;simp only[Bool.and_eq_true,beq_iff_eq,not_and];intro h3 h0;have:=(hf y hy).2.1 h3;omega
  rw[zFB,hZ,zBe,zBe,hc0];simp only[zB5,zCj,zE5,hq1.1,hq1.2,true_and,Int.reduceEq,false_and,if_false,if_true]
 ·refine⟨zDP (Z.length - 1) q,?_,hq1.1,hq1.2⟩;rw[hat 0 (by omega),Nat.sub_zero,hzl];rfl
 ·refine⟨zDP (Z.length - 1) {kind:=3,slot:=1,next:=0},?_,rfl,rfl,?_⟩
  ·rw[hpl,hat _ (by omega),show Z.length - 1 - (Z.length - 2)=1 by omega,hz1];rfl
  ·rw[hpl];rw[zLp];exact zK0 _ (Nat.le_trans (Nat.sub_le ..) HL.out.2)
 ·obtain⟨y,hy,rfl⟩:=zE7 hx3;rw[(hkind _ y).2];rcases hmem y hy with ⟨_,h⟩|⟨_,h⟩|h
  ·omega
  ·omega
  ·exact(hf y h).2.2.2
 ·by_cases h0:0<grpT s
  ·obtain⟨y,hy,_,e2⟩:=hx h0;exact⟨_,zG6 (zs:=Z) (y:=y) (by rw[hZ];simp[hy]),by rw[(hkind _ y).2];exact e2⟩
  ·refine⟨_,zG6 (zs:=Z) (y:={kind:=3,slot:=1,next:=0}) (List.mem_of_getElem? hz1),?_⟩
   rw[(hkind _ _).2];simp only;omega
theorem zOf {t s:Tree} {p:List InstD} (hs:zBB t=.ok s) (hm:zCh t=.ok p):FormOk s p:=by
 have hk:=zD7 hs;have hn:=zKt hs;unfold zCh at hm;rw[hs]at hm;simp only at hm;split at hm
 ·cases hm
 rename_i hle
 cases hm
 obtain⟨ys,e,hfine⟩:=zEj s 1 zB5 hn hk.1;have h4:(zFb s).length<=4000:=by
  have h:=Nat.lt_of_not_le hle;exact Nat.le_of_pred_lt h
 refine zLj (ys:=ys) (q:={kind:=3,next:=(layP s 1 zB5).1}) ?_ ⟨rfl,rfl⟩ hfine h4 (Nat.le_trans h4 (by decide))
 unfold zFb;rw[e]
end
section
open Go.RowKit Go.Shelf
attribute [local go_sem] Oper.semAt_some
theorem zJQ (m:Nat) (pb:Nat) (FW:Nat->Prop) (p:Option Addr) (n c:Nat) (ws:List WordD) (j0 g0:Nat) (f0:zBL) (t:Tree) (r':List WordD) (g':Nat) (w0:World) (hP:AltPre pb 174 FW p n c ws j0 g0 w0)
  (hres:zAq m f0 (ws.drop j0) g0 [] []=some (t,r',g'))
  (IH:∀ k,k<m->∀ (j1 g1:Nat) (f1:zBL) (t1:Tree) (r1:List WordD) (g2:Nat) (w:World),AltPre pb 174 FW p n c ws j1 g1 w->zAq k f1 (ws.drop j1) g1 [] []=some (t1,r1,g2) ->
   Calls Tryz.prog 101 #[.pointer (some ⟨pb,0,none⟩),zCN f1] w (zGE pb 174 p n c t1 (n - r1.length) g2 w)) :
  Calls Tryz.prog 101 #[.pointer (some ⟨pb,0,none⟩),zCN f0] w0 (zGE pb 174 p n c t (n - r'.length) g' w0):=by
 obtain⟨i0,hi0,hz0,hz1,hz2⟩:=info_parts zDo
 have H:=(HoldG.startB hP.cells).know FW (WKnows FW p n c ws) hP.lt (fun i r h b hb=>by
  match i,h with
  | 0,h=>cases h;cases hb;exact hP.ne) (fun V hV=>hP.words.kept hV)
 simp only[ca]at H;have hlen:=hP.len;have hb:=hP.words.bound;have hp:=hP.words.at;have HN:=Lib.hid hb.1;have hc1:=hb.2.1;have hc2:=hb.2.2;clear hb;have hjn0:=hP.jn;have hgj0:=hP.gn;have HPN:=Lib.hid hP.ne;have HOK:=Lib.hid hP.ok;clear hP
 go_enter Tryz.func101,Tryz.ntmps101
 go_wp2_with (first|((with_reducible refine kg 3 ?_);(first|refine kA 3 H ?_|refine kS 3 H ?_|refine kB 3 H ?_);clear H;intro b3 w H;try simp only[nr]at H)|((with_reducible refine kg 4 ?_);(first|refine kA 4 H ?_|refine kS 4 H ?_|refine kB 4 H ?_);clear H;intro b4 w H;try simp only[nr]at H)|fail)
 replace H:=(H.addNil 28 10).addNil 28 10;have H1:=H.know (fun _=>False) (fun V=>ListR V (fun _=>False) ([]++[])) (fun _ h=>h.elim) (fun _ _ _ _ _ h=>h) (fun V _=>ListR.nil _ _)
 simp only[List.nil_append,List.cons_append]at H1;clear H
 go_loopw [5,6] (fun vA vI wr=>∃ (j g k:Nat) (f:zBL) (xa xi:List TV) (F:Nat->Prop),j<=n/\g<=j/\xa.length<=j/\xi.length<=j/\(∀ b,F b->w0.heap.size<=b)/\Hid (zAq k f (ws.drop j) g (xa.map (·.1)) (xi.map (·.1))=some (t,r',g')/\k<=m)
  /\ HoldG (·=pb) w0 wr [.blk pb (pC p n c j g) 174,.kn FW (WKnows FW p n c ws),.blk b3 (zEL f) 104,.blk b4 (zAR {kind:=0} nilS) 28,
   .row vA 28 10 xa.length (zAG (xa.map zAT)),.row vI 28 10 xi.length (zAG (xi.map zAT)),.kn F (fun V=>ListR V F (xa++xi))])
  (fun _ _ wr=>posM pb n wr)
 case atStart=>exact⟨j0,g0,m,f0,[],[],fun _=>False,hjn0,hgj0,by simp,by simp,fun _ h=>h.elim,Lib.hid ⟨hres,Nat.le_refl _⟩,H1⟩
 case round =>
  clear H1;obtain⟨j,g,k,f,xa,xi,F,hj,hgj,hla,hli,hF,G,H⟩:=hrel;have HM:=Lib.hid ((H.cell .zero 1).trans rfl:wr.cell? ⟨pb,1,none⟩=some (.int .i64 (j:Int)));obtain⟨k,rfl⟩:∃ k',k=k'+1:=by
   cases k with
   | zero=>have:=G.out.1;simp[zAq]at this
   | succ k=>exact⟨k,rfl⟩
  have hp0:∀ W,Below wr.heap.size wr W->W.cell? ⟨pb,0,none⟩=some (.slice p n c):=fun W hb=>(H.call hb).cell .zero 0
  have hp1:∀ W,Below wr.heap.size wr W->W.cell? ⟨pb,1,none⟩=some (.int .i64 (j:Int)):=fun W hb=>(H.call hb).cell .zero 1
  by_cases hlt:j<n
  ·obtain⟨d,hd⟩:∃ d,ws[j]?=some d:=⟨_,List.getElem?_eq_getElem (by rw[← HN.out];exact hlt)⟩
   obtain⟨b,off,rfl⟩:=hp (by rw[← HN.out];omega)
   clear hp;have hokd:=HOK.out d (List.mem_of_getElem? hd);have hdj:decide ((j:Int)<(n:Int))=true:=by simp;omega
   have hkd:∀ W,Below wr.heap.size wr W->W.cell? ⟨b,off+j * 17,none⟩=some (.int .i64 d.kind):=fun W hb=>WKnows.kind ((H.call hb).kn i_1) hd
   have hcell:∀ W,Below wr.heap.size wr W->∀ k,k<17->W.cell? ⟨b,off+j * 17+k,none⟩=(zB1 d)[k]?:=fun W hb=>WKnows.cells ((H.call hb).kn i_1) hd rfl
   have HD:=Lib.hid (zCr hd);have HDD:=Lib.hid hd;clear hd
   by_cases h9:d.kind=9
   ·have d9:((d.kind:Int) != 9)=false:=by rw[bne_eq_false_iff_eq];omega
    have E:=Lib.hid (show some (rowT 5 (xa.map (·.1)++[rowT 4 (xi.map (·.1))]),ws.drop j,g)=some (t,r',g') by rw[← G.out.1,HD.out,zPl h9])
    clear h9
    go_upto_region 2 with fail
    obtain⟨T,hT,fw,hf,h0⟩:=fam wr;have e0:=fun x=>hp0 _ (hf x)
    have e1:=fun x=>hp1 _ (hf x)
    have e2:=fun x=>hkd _ (hf x)
    refine zDZ fw (by kernel_rfl) (by kernel_rfl) h0 ?_
    repeat (go_big_quiet_step (fail))
    refine wpQuiet_nil ?_
    rintro _ ⟨x,rfl⟩;replace H:=H.call (hf x);obtain⟨wq,hwq⟩:∃ wq,fw x=wq:=⟨_,rfl⟩;rw[hwq]at H ⊢;clear hwq e0 e1 e2 h0 hf hp0 hp1 hkd hcell;clear x fw hT T;obtain⟨qi,ci,rfl,hqi1,hqi2,_⟩:=H.rowShape (i:=5) i_5;obtain⟨GF,hGF,H2⟩:=H.rowForest (i:=5) (xs:=xi) (K:=F) i_5 rfl (Still.at (i:=6) i_6) (fun x hx=>(H.kn (i:=6) i_6) x (List.mem_append.2 (.inr hx)))
    clear H;have H:=H2;clear H2;simp only[sc]at H;have hGFl:∀ b,GF b->w0.heap.size<=b:=fun b h=>(hGF b h).elim id (hF b)
    clear hGF
    generalize hrt:rowT 4 (xi.map (·.1))=rt at E
    have hr4:∀ (w:World) (l:List Res),HoldG (·=pb) w0 w l->At l 5 (.kn GF (fun V=>ForestR V GF qi ci (xi.map (·.1))))->Calls Tryz.prog 152 #[.int .i64 4,.slice qi xi.length ci] w fun e w'=>zCf w GF rt e w'/\Below w.heap.size w w':=fun w l h hi=>hrt ▸ zDq 4 qi ci xi.length GF (xi.map (·.1)) w (h.knlt hi) (h.kn hi) (by rw[List.length_map])
    have HRT:=Lib.hid hrt;clear hrt;simp only[Option.some.injEq,Prod.mk.injEq]at E;obtain⟨ht5,hr5',rfl⟩:=E;have hjr:n - r'.length=j:=by rw[← hr5',List.length_drop,← HN.out];omega
    have hr5:∀ (w:World) (l:List Res) (qa:Option Addr) (ca:Nat) (G3:Nat->Prop),HoldG (·=pb) w0 w l->At l 4 (.kn G3 (fun V=>ForestR V G3 qa ca (xa.map (·.1)++[rt])))->Calls Tryz.prog 152 #[.int .i64 5,.slice qa (xa.length+1) ca] w fun e w'=>zCf w G3 t e w'/\Below w.heap.size w w':=fun w l qa ca G3 h hi=>ht5 ▸ zDq 5 qa ca (xa.length+1) G3 (xa.map (·.1)++[rt]) w (h.knlt hi) (h.kn hi) (by rw[List.length_append,List.length_map];rfl)
    have HJR:=Lib.hid hjr;clear hjr hr5' ht5 hli
    go_wp2_with (first|(at_builtin;refine zA8 rfl _ _ 26 rfl H evd_ rfl atd_ atd_ Tryz.underlying26 hi0 hz0 hz1 hz2 rfl (by decide) rfl rfl (by unfold maxLen;omega) (by omega) ?_;clear H;intro v2 w H;try simp only[nr]at H)|((with_reducible refine gBS ?_);refine zAY wtd_ _ _ _ rfl H (zAR (rt.d) (.slice q2 rt.kids.length c2)) 28 (by intro W;simp only[ml];(try simp only[pe]);exact zCX _ _ W) ?_;clear H;intro bk w H;try simp only[nr]at H)|((with_reducible refine gT ?_);(refine aT H ?_;clear H;intro w H;try simp only[nr]at H))|(go_at_call 152;(with_reducible refine cht (hr4 _ _ H i_5) H (Still.at (i:=5) i_5) ?_);clear H;intro q2 c2 F2 w hF2 H)|(go_at_call 152;(obtain⟨qa,ca,G3,rfl,hG3,H3⟩:=H.rowForest1 (i:=4) (k:=6) (k2:=7) (xs:=xa) (ys:=xa++xi) i_4 i_6 (fun x hx=>List.mem_append.2 (.inl hx)) i_7);clear H;(have H:=H3);clear H3;(simp only[sc]at H);(with_reducible refine cht (hr5 _ _ _ _ _ H i_4) H (Still.at (i:=4) i_4) ?_);clear H;intro q5 c5 F5 w hF5 H;try simp only[nr]at H))
    (refine xc Tryz.results101 H ?_)
    have hG3l:∀ b,G3 b->w0.heap.size<=b:=fun b h=>(hG3 b h).elim id (fun h=>h.elim (hF b) (fun h=>(hF2 b h).elim id (hGFl b)))
    rw[HJR.out];exact⟨H.keep,(H.blk .zero).2,q5,c5,F5,rfl,(H.all 9 _ rfl).2 _ (fun _ _=>rfl),fun b h=>⟨(H.all 9 _ rfl).1 b h,.inl ((hF5 b h).elim id (hG3l b))⟩⟩
   ·have d9:((d.kind:Int) != 9)=true:=by rw[bne_iff_ne];omega
    go_upto_region 2 with fail
    obtain⟨T,hT,fw,hf,h0⟩:=fam wr;have e0:=fun x=>hp0 _ (hf x)
    have e1:=fun x=>hp1 _ (hf x)
    have e2:=fun x=>hkd _ (hf x)
    refine zDZ fw (by kernel_rfl) (by kernel_rfl) h0 ?_
    repeat (go_big_quiet_step (fail))
    refine wpQuiet_nil ?_
    rintro _ ⟨x,rfl⟩;replace H:=H.call (hf x);obtain⟨wq,hwq⟩:∃ wq,fw x=wq:=⟨_,rfl⟩;rw[hwq]at H ⊢;have hq0:∀ W,Below wq.heap.size wq W->W.cell? ⟨pb,0,none⟩=some (.slice (some ⟨b,off,none⟩) n c):=fun W hb=>(H.call hb).cell .zero 0
    have hq1:∀ W,Below wq.heap.size wq W->W.cell? ⟨pb,1,none⟩=some (.int .i64 (j:Int)):=fun W hb=>(H.call hb).cell .zero 1
    have hqc:∀ W,Below wq.heap.size wq W->∀ k,k<17->W.cell? ⟨b,off+j * 17+k,none⟩=(zB1 d)[k]?:=fun W hb=>WKnows.cells ((H.call hb).kn i_1) HDD.out rfl
    clear hwq e0 e1 e2 h0 hf hp0 hp1 hkd hcell;clear x fw hT T
    go_upto_region 3 with fail
    refine zAg 11 [fun v _=>v=pt pb 0,fun v _=>v=pt pb 0,fun v _=>v=pt pb 0,fun v _=>v=.slice (some ⟨b,off,none⟩) n c,fun v _=>v=pt pb 0,fun v _=>v=pt pb 0,fun v _=>v=pt pb 1,fun v _=>v=.int .i64 (j:Int),fun v _=>v=.pointer (some ⟨b,off+j * 17,none⟩),fun v _=>v=zC3 d,zJq wq.heap.size (zB1 {kind:=0,place:=0}) 260] (fun _=>false) (by kernel_rfl) (by kernel_rfl) (by kernel_rfl) (by repeat (first|exact trivial|refine⟨zAL _,?_⟩|refine⟨zIl _ _ _,?_⟩)) (fun _ _ h=>by cases h) ?ob ?en
    case ob =>
     refine⟨?_,?_,?_,?_,?_,?_,?_,?_,?_,?_,?_,trivial⟩<;>intro A W h
     ·exact zAH rfl rfl (h.f 0)
     ·(have e34:A.eval (.tmp 34)=.pointer (some ⟨pb,0,none⟩):=h.d 0 34;refine zAA rfl ?_;simp only[execOp,e34];simp[go_sem])
     ·(have e35:A.eval (.tmp 35)=.pointer (some ⟨pb,0,none⟩):=h.d 1 35;refine zAA rfl ?_;simp only[execOp,e35];simp[go_sem])
     ·exact zAA rfl (zAD rfl (h.d 2 36) zD9 (hq0 _ h.below)) (by decide)
     ·exact zAH rfl rfl (h.f 0)
     ·(have e38:A.eval (.tmp 38)=.pointer (some ⟨pb,0,none⟩):=h.d 4 38;refine zAA rfl ?_;simp only[execOp,e38];simp[go_sem])
     ·(have e39:A.eval (.tmp 39)=.pointer (some ⟨pb,0,none⟩):=h.d 5 39;refine zAA rfl ?_;simp only[execOp,e39];simp[go_sem])
     ·exact zAA rfl (zAD rfl (h.d 6 40) zAC (hq1 _ h.below)) (by decide)
     ·exact zBr (sz:=17) Tryz.underlying168 (fun w=>by kernel_rfl) rfl rfl (h.d 3 37) (h.d 7 41) (by omega) (by omega)
     ·exact zAA rfl (zAb rfl (h.d 8 42) zBQ rfl (hqc _ h.below)) (by decide)
     ·exact zNs rfl rfl (by kernel_rfl) zPY h.below.size (by decide)
    case en =>
     intro vals W hbw hv _;have x10:=hv 10 (by omega);simp only[zAe]at x10
     simp only[fa,Nat.reduceAdd];rw[e_ hv 0,e_ hv 1,e_ hv 2,e_ hv 3,e_ hv 4,e_ hv 5,e_ hv 6,e_ hv 7,e_ hv 8,e_ hv 9];clear hv
     try simp only[pl]
     obtain⟨b7,e7,H7⟩:=H.gainB hbw x10;rw[e7];clear x10 e7 hq0 hq1 hqc H hbw;have H:=H7;clear H7;simp only[ca]at H
     go_upto_region 6 with (first|(first|((with_reducible refine gT ?_);((first|refine aO H ?_|refine aT H ?_);clear H;intro w H;try simp only[nr]at H))|((with_reducible refine gL ?_);refine aG H ?_)))
     have hnx:(∀ b,F b->w0.heap.size<=b):=hF
     by_cases h8:d.kind=8
     ·have d8:((d.kind:Int) == 8)=true:=by rw[beq_iff_eq];omega
      have G2:=Lib.hid (show zAq k (zGR f d) (ws.drop (j+1)) g (xa.map (·.1)) (xi.map (·.1))=some (t,r',g')/\k<=m from ⟨by rw[← zPx h8,← HD.out];exact G.out.1,by have:=G.out.2;omega⟩)
      have htu:=fun w=>zG7 f d w
      clear h8
      go_wp2_with (first|(first|((with_reducible refine gT ?_);(refine aT H ?_;clear H;intro w H;try simp only[nr]at H))|((with_reducible refine gL ?_);(first|refine aG H ?_|refine aD H ?_)))|((with_reducible refine ch (htu _) H ?_);clear H;intro w H))
      have HC:w.cell? ⟨pb,1,none⟩=some (.int .i64 ((j:Int)+1)):=H.cell .zero 1;go_roundw
      case rel=>(repeat apply Exists.intro);refine⟨?_,rfl⟩;exact⟨j+1,g,k,zGR f d,xa,xi,F,by omega,by omega,by omega,by omega,hF,G2,H.pick [0,1,2,3,4,5,6] _ (by decide) rfl⟩
      case measure=>rw[zC5 HM.out,zC5 HC];omega
     ·have d8:((d.kind:Int) == 8)=false:=by rw[beq_eq_false_iff_ne];omega
      by_cases h10:d.kind=10
      ·have d10:((d.kind:Int) == 10)=true:=by rw[beq_iff_eq];omega
       have G2:=Lib.hid (show zAq k f (ws.drop (j+1)) g (xa.map (·.1)++[rowT 4 (xi.map (·.1))]) []=some (t,r',g')/\k<=m from ⟨by rw[← zOh h10,← HD.out];exact G.out.1,by have:=G.out.2;omega⟩)
       clear h10 h8 h9;obtain⟨qi,ci,rfl,hqi1,hqi2,_⟩:=H.rowShape (i:=5) i_5;obtain⟨GF,hGF,H2⟩:=H.rowForest (i:=5) (xs:=xi) (K:=F) i_5 rfl (Still.at (i:=6) i_6) (fun x hx=>(H.kn (i:=6) i_6) x (List.mem_append.2 (.inr hx)))
       clear H;have H:=H2;clear H2;simp only[sc]at H;have hGFl:∀ b,GF b->w0.heap.size<=b:=fun b h=>(hGF b h).elim id (hF b)
       clear hGF
       generalize hrt:rowT 4 (xi.map (·.1))=rt at G2
       have hr4:∀ (w:World) (l:List Res),HoldG (·=pb) w0 w l->At l 5 (.kn GF (fun V=>ForestR V GF qi ci (xi.map (·.1))))->Calls Tryz.prog 152 #[.int .i64 4,.slice qi xi.length ci] w fun e w'=>zCf w GF rt e w'/\Below w.heap.size w w':=fun w l h hi=>hrt ▸ zDq 4 qi ci xi.length GF (xi.map (·.1)) w (h.knlt hi) (h.kn hi) (by rw[List.length_map])
       have HRT:=Lib.hid hrt;clear hrt
       go_wp2_with (first|(at_builtin;refine zA8 rfl _ _ 26 rfl H evd_ rfl atd_ atd_ Tryz.underlying26 hi0 hz0 hz1 hz2 rfl (by decide) rfl rfl (by unfold maxLen;omega) (by omega) ?_;clear H;intro v2 w H;try simp only[nr]at H)|((with_reducible refine gBS ?_);refine zAY wtd_ _ _ _ rfl H (zAR (rt.d) (.slice q2 rt.kids.length c2)) 28 (by intro W;simp only[ml];(try simp only[pe]);exact zCX _ _ W) ?_;clear H;intro bk w H;try simp only[nr]at H)|((with_reducible refine gL ?_);refine aG H ?_)|(go_at_call 152;(with_reducible refine cht (hr4 _ _ H i_5) H (Still.at (i:=5) i_5) ?_);clear H;intro q2 c2 F2 w hF2 H))
       have hF3:∀ b,(F b\/F2 b)->w0.heap.size<=b:=fun b h=>h.elim (hF b) (fun h=>(hF2 b h).elim id (hGFl b))
       have H2:=(H.rowGrown (i:=4) (k:=6) (k2:=8) (xs:=xa) (ys:=xa++xi) i_4 i_6 i_8 ((xa++[(rt,q2,c2)])++[]) (fun x hx=>by
        rw[List.append_nil]at hx
        exact(List.mem_append.1 hx).imp (fun h=>List.mem_append.2 (.inl h)) List.mem_singleton.1)).addNil 28 10
       have HC:w.cell? ⟨pb,1,none⟩=some (.int .i64 ((j:Int)+1)):=H.cell .zero 1;go_roundw
       case rel=>first|exact⟨j+1,g,k,f,xa++[(rt,q2,c2)],[],(fun b=>F b\/F2 b),by omega,by omega,by (try simp only[List.length_append,List.length_singleton,List.length_nil]);omega,by (try simp only[List.length_append,List.length_singleton,List.length_nil]);omega,hF3,Lib.hid ⟨by (try rw[List.map_append]);exact G2.out.1,G2.out.2⟩,H2.pick [0,1,2,3,4,11,10] _ (by decide) rfl⟩|((repeat apply Exists.intro);refine⟨?_,rfl⟩;exact⟨j+1,g,k,f,xa++[(rt,q2,c2)],[],(fun b=>F b\/F2 b),by omega,by omega,by (try simp only[List.length_append,List.length_singleton,List.length_nil]);omega,by (try simp only[List.length_append,List.length_singleton,List.length_nil]);omega,hF3,Lib.hid ⟨by (try rw[List.map_append]);exact G2.out.1,G2.out.2⟩,H2.pick [0,1,2,3,4,11,10] _ (by decide) rfl⟩)
       case measure=>rw[zC5 HM.out,zC5 HC];omega
      ·have d10:((d.kind:Int) == 10)=false:=by rw[beq_eq_false_iff_ne];omega
       by_cases h11:d.kind=11
       ·have d11:((d.kind:Int) == 11)=true:=by rw[beq_iff_eq];omega
        obtain⟨ys,x,rfl,hou⟩:=zLi h11 (show zAq (k+1) f (d::ws.drop (j+1)) g (xa.map (·.1)) (xi.map (·.1))=some (t,r',g') by rw[← HD.out];exact G.out.1)
        have G2:=Lib.hid (show zAq k f (ws.drop (j+1)) g (xa.map (·.1)) (ys.map (·.1)++[repT d x.1])=some (t,r',g')/\k<=m from ⟨hou,by have:=G.out.2;omega⟩)
        clear hou h8 h9 h10 h11;obtain⟨qi,ci,rfl,hqi1,hqi2,hqi3⟩:=H.rowShape (i:=5) i_5;obtain⟨gI,rfl⟩:=hqi3 (by simp)
        clear hqi3;have hxg:((ys++[x]).map zAT)[ys.length]?=some (zAT x):=by simp
        have HXG:=Lib.hid hxg;clear hxg;have hyl:((ys++[x]).map zAT).length=ys.length+1:=by simp
        have HYL:=Lib.hid hyl;clear hyl;simp only[List.length_append,List.length_singleton]at H hqi1 hli;unfold maxLen at hqi2
        go_wp2_with (first|((with_reducible refine gL ?_);refine zAO wtd_ _ _ rfl rfl zAP (zAl x) (H.rowCell (i:=5) i_5 (zBy _) HYL.out HXG.out rfl) ?_)|((with_reducible refine gT ?_);refine zBH wtd_ _ _ _ rfl rfl (i:=ys.length) rfl evd_ H (j:=5) i_5 (zBy _) HYL.out (by with_reducible exact zAr zAP) rfl rfl (by omega) ?_;clear H;intro w H;try simp only[nr]at H)|((with_reducible refine gBS ?_);refine zAY wtd_ _ _ _ rfl H (zAR (x.1.d) (.slice x.2.1 x.1.kids.length x.2.2)) 28 (by intro W;simp only[ml];(try simp only[pe]);exact zCX _ _ W) ?_;clear H;intro bk w H;try simp only[nr]at H)|(first|((with_reducible refine gT ?_);(refine aT H ?_;clear H;intro w H;try simp only[nr]at H))|((with_reducible refine gL ?_);(first|refine aG H ?_|refine aD H ?_))|((with_reducible refine gA ?_);(refine bA H ?_;clear H;intro b w H;try simp only[nr]at H))|((with_reducible refine gZ ?_);refine nbR ?_)))
        have e:=zNF (ys:=ys) (x:=x) (x':=((repT d x.1,some ⟨bk,0,none⟩,1):TV)) (c:=zAR {kind:=6,lo:=d.lo,hi:=d.hi,lazy:=d.lazy} (.slice (some ⟨bk,0,none⟩) 1 1)) rfl;rw[e]at H;clear e;have H1:=H.also F (fun V=>ForestR V F x.2.1 x.2.2 x.1.kids) (Still.at (i:=6) i_6) (fun V hV=>((H.kn (i:=6) i_6) x (by simp)).kept hV)
        have hbk:=H.freshB (i:=8) i_8;have H3:=H1.kid (i:=9) (k:=10) i_9 i_10;have hF3:∀ z,((z=bk\/F z)\/F z)->w0.heap.size<=z:=fun z h=>h.elim (fun h=>h.elim (fun e=>e ▸ hbk) (hF z)) (hF z)
        have H2:=H3.also (fun z=>(z=bk\/F z)\/F z) (fun V=>ListR V (fun z=>(z=bk\/F z)\/F z) (xa++(ys++[(repT d x.1,some ⟨bk,0,none⟩,1)]))) ((Still.at (i:=11) (F:=fun z=>z=bk\/F z) (S:=fun V=>ForestR V (fun z=>z=bk\/F z) (some ⟨bk,0,none⟩) 1 [x.1]) i_11).or (Still.at (i:=6) i_6)) (fun V hV y hy=>by
         have hold:∀ y,y ∈ xa++(ys++[x])->ForestR V (fun z=>(z=bk\/F z)\/F z) y.2.1 y.2.2 y.1.kids:=fun y hy=>(((H.kn (i:=6) i_6) y hy).mono (fun _ h=>.inr h)).kept hV
         rcases List.mem_append.1 hy with h|h
         ·exact hold y (List.mem_append.2 (.inl h))
         ·rcases List.mem_append.1 h with h|h
          ·exact hold y (List.mem_append.2 (.inr (List.mem_append.2 (.inl h))))
          ·rw[List.mem_singleton]at h;subst h
           exact(((H3.all 11 _ rfl).2 w (fun _ _=>rfl)).mono (fun _ h=>.inl h)).kept hV)
        have HC:w.cell? ⟨pb,1,none⟩=some (.int .i64 ((j:Int)+1)):=H.cell .zero 1;go_roundw
        case rel=>first|exact⟨j+1,g,k,f,xa,ys++[(repT d x.1,some ⟨bk,0,none⟩,1)],(fun z=>(z=bk\/F z)\/F z),by omega,by omega,by (try simp only[List.length_append,List.length_singleton,List.length_nil]);omega,by (try simp only[List.length_append,List.length_singleton,List.length_nil]);omega,hF3,Lib.hid ⟨by (try rw[List.map_append]);exact G2.out.1,G2.out.2⟩,by rw[show (ys++[((repT d x.1,some ⟨bk,0,none⟩,1):TV)]).length=ys.length+1 from by simp];exact H2.pick [0,1,2,3,4,5,12] _ (by decide) rfl⟩|((repeat apply Exists.intro);refine⟨?_,rfl⟩;exact⟨j+1,g,k,f,xa,ys++[(repT d x.1,some ⟨bk,0,none⟩,1)],(fun z=>(z=bk\/F z)\/F z),by omega,by omega,by (try simp only[List.length_append,List.length_singleton,List.length_nil]);omega,by (try simp only[List.length_append,List.length_singleton,List.length_nil]);omega,hF3,Lib.hid ⟨by (try rw[List.map_append]);exact G2.out.1,G2.out.2⟩,by rw[show (ys++[((repT d x.1,some ⟨bk,0,none⟩,1):TV)]).length=ys.length+1 from by simp];exact H2.pick [0,1,2,3,4,5,12] _ (by decide) rfl⟩)
        case measure=>rw[zC5 HM.out,zC5 HC];omega
       ·have d11:((d.kind:Int) == 11)=false:=by rw[beq_eq_false_iff_ne];omega
        have hop:=fun w=>zF4 d w
        cases ho:zA7 d with
        | true =>
         rw[ho]at hop;obtain⟨t1,d1,r1,g1,hin,hou⟩:=zME ho (show zAq (k+1) f (d::ws.drop (j+1)) g (xa.map (·.1)) (xi.map (·.1))=some (t,r',g') by rw[← HD.out];exact G.out.1)
         have hfa:=zES _ _ _ _ _ _ _ _ _ hin;have hsuf:=drop_suffix HN.out (hfa.1.trans (List.drop_suffix _ _));have hl1:r1.length+1<=n - (j+1):=by have:=hfa.1.length_le;rw[List.length_drop,← HN.out]at this;exact this
         have hg1:g1+(r1.length+1)<=(if d.kind=7 then g else g+1)+(n - (j+1)):=by have:=hfa.2;rw[List.length_drop,← HN.out]at this;exact this
         have hgg:(if d.kind=7 then g else g+1)<=g+1:=by split<;>omega
         obtain⟨j',hj'⟩:∃ j',n - (r1.length+1)=j':=⟨_,rfl⟩;have hd1:ws.drop (j'+1)=r1:=by
          have h1:ws.drop j'=d1::r1:=by rw[← hj'];exact hsuf
          rw[← List.drop_drop,h1];rfl
         have hkm:k<m:=by have:=G.out.2;omega
         have hgr:=fun w hP=>zMT pb FW (some ⟨b,off,none⟩) n c ws (j+1) g f d t1 j' g1 w hP (by omega) (by omega) (by omega) (fun w h=>hj' ▸ IH k hkm (j+1) _ _ t1 (d1::r1) g1 w h hin)
         generalize htt:(if d.kind=7 then t1 else zFv (g+1) t1)=tt at hou hgr
         have G2:=Lib.hid (show zAq k f (ws.drop (j'+1)) g1 (xa.map (·.1)) (xi.map (·.1)++[tt])=some (t,r',g')/\k<=m from ⟨by rw[hd1];exact hou,by omega⟩)
         have hb1:j+1<=j':=by omega
         have hb2:j'<n:=by omega
         have hb3:g1<=j':=by omega
         have hpre:∀ (w:World) (l:List Res),HoldG (·=pb) w0 w (.blk pb #[.slice (some ⟨b,off,none⟩) n c,.int .i64 ((j:Int)+1),.int .i64 (g:Int)] 174::.kn FW (WKnows FW (some ⟨b,off,none⟩) n c ws)::l)->AltPre pb 174 FW (some ⟨b,off,none⟩) n c ws (j+1) g w:=fun w l h=>⟨(h.blk .zero).2,h.knlt i_1,HPN.out,h.kn i_1,HOK.out,hlen,hlt,by omega⟩
         clear hin hou hfa hsuf hl1 hg1 hgg hj' hd1 htt IH ho h8 h10 h11 h9
         go_wp2_with (first|(at_builtin;refine zA8 rfl _ _ 26 rfl H evd_ rfl atd_ atd_ Tryz.underlying26 hi0 hz0 hz1 hz2 rfl (by decide) rfl rfl (by unfold maxLen;omega) (by omega) ?_;clear H;intro v2 w H;try simp only[nr]at H)|((with_reducible refine gBS ?_);refine zAY wtd_ _ _ _ rfl H (zAR (tt.d) (.slice q2 tt.kids.length m2)) 28 (by intro W;simp only[ml];(try simp only[pe]);exact zCX _ _ W) ?_;clear H;intro bk w H;try simp only[nr]at H)|(first|((with_reducible refine gT ?_);(refine aT H ?_;clear H;intro w H;try simp only[nr]at H))|((with_reducible refine gL ?_);(first|refine aG H ?_|refine aD H ?_))|((with_reducible refine gA ?_);(refine bA H ?_;clear H;intro b w H;try simp only[nr]at H)))|((with_reducible refine ch (hop _) H ?_);clear H;intro w H)|(go_at_call 153;(with_reducible refine chA (hgr _ (hpre _ _ H)) H .zero ?_);clear H;intro q2 m2 F2 w hF2 H;try simp only[nr]at H))
         have H2:=H.rowGrown (i:=5) (k:=6) (k2:=8) (xs:=xi) (ys:=xa++xi) i_5 i_6 i_8 (xa++(xi++[(tt,q2,m2)])) (fun y hy=>by
          rcases List.mem_append.1 hy with h|h
          ·exact .inl (List.mem_append.2 (.inl h))
          ·exact(List.mem_append.1 h).imp (fun h=>List.mem_append.2 (.inr h)) List.mem_singleton.1)
         have hF3:∀ b,(F b\/F2 b)->w0.heap.size<=b:=fun b h=>h.elim (hF b) (hF2 b)
         have HC:w.cell? ⟨pb,1,none⟩=some (.int .i64 ((j':Int)+1)):=H.cell .zero 1;go_roundw
         case rel=>first|exact⟨j'+1,g1,k,f,xa,xi++[(tt,q2,m2)],(fun b=>F b\/F2 b),by omega,by omega,by (try simp only[List.length_append,List.length_singleton,List.length_nil]);omega,by (try simp only[List.length_append,List.length_singleton,List.length_nil]);omega,hF3,Lib.hid ⟨by (try rw[List.map_append]);exact G2.out.1,G2.out.2⟩,H2.pick [0,1,2,3,4,5,11] _ (by decide) rfl⟩|((repeat apply Exists.intro);refine⟨?_,rfl⟩;exact⟨j'+1,g1,k,f,xa,xi++[(tt,q2,m2)],(fun b=>F b\/F2 b),by omega,by omega,by (try simp only[List.length_append,List.length_singleton,List.length_nil]);omega,by (try simp only[List.length_append,List.length_singleton,List.length_nil]);omega,hF3,Lib.hid ⟨by (try rw[List.map_append]);exact G2.out.1,G2.out.2⟩,H2.pick [0,1,2,3,4,5,11] _ (by decide) rfl⟩)
         case measure=>rw[zC5 HM.out,zC5 HC];omega
        | false =>
         rw[ho]at hop;have h67:d.kind≠6/\d.kind≠7:=by simpa [zA7] using ho
         have G2:=Lib.hid (show zAq k f (ws.drop (j+1)) g (xa.map (·.1)) (xi.map (·.1)++[zFM d f])=some (t,r',g')/\k<=m from ⟨by rw[← zOu h9 h8 h10 h11 h67.2 h67.1,← HD.out];exact G.out.1,by have:=G.out.2;omega⟩)
         clear h8 h9 h10 h11 h67 ho
         generalize hta:zFM d f=ta at G2
         have hat:∀ w,Calls Tryz.prog 154 #[zC3 d,zCN f] w (Rt (zAV ta.d (.slice none ta.kids.length 0)) w):=fun w=>by
          have:=zN3 f d hokd w;rw[← hta,zHJ];exact this
         have hk0:ta.kids=[]:=by rw[← hta];exact zHJ d f
         have HK:=Lib.hid hk0;clear hk0 hta
         go_wp2_with (first|(at_builtin;refine zA8 rfl _ _ 26 rfl H evd_ rfl atd_ atd_ Tryz.underlying26 hi0 hz0 hz1 hz2 rfl (by decide) rfl rfl (by unfold maxLen;omega) (by omega) ?_;clear H;intro v2 w H;try simp only[nr]at H)|((with_reducible refine gBS ?_);refine zAY wtd_ _ _ _ rfl H (zAR (ta.d) (.slice none ta.kids.length 0)) 28 (by intro W;simp only[ml];(try simp only[pe]);exact zCX _ _ W) ?_;clear H;intro bk w H;try simp only[nr]at H)|((with_reducible refine gL ?_);(first|refine aG H ?_|refine aD H ?_))|((with_reducible first|refine ch (hop _) H ?_|refine ch (hat _) H ?_);clear H;intro w H))
         have H1:=H.know (fun _=>False) (fun V=>ForestR V (fun _=>False) none 0 ta.kids) (fun _ h=>h.elim) (fun _ _ _ _ _ h=>h) (fun V _=>by rw[HK.out];exact ForestR.nil _ _ _)
         have H2:=H1.rowGrown (i:=5) (k:=6) (k2:=9) (xs:=xi) (ys:=xa++xi) i_5 i_6 i_9 (xa++(xi++[(ta,none,0)])) (fun y hy=>by
          rcases List.mem_append.1 hy with h|h
          ·exact .inl (List.mem_append.2 (.inl h))
          ·exact(List.mem_append.1 h).imp (fun h=>List.mem_append.2 (.inr h)) List.mem_singleton.1)
         have hF3:∀ b,(F b\/False)->w0.heap.size<=b:=fun b h=>h.elim (hF b) False.elim
         have HC:w.cell? ⟨pb,1,none⟩=some (.int .i64 ((j:Int)+1)):=H.cell .zero 1;go_roundw
         case rel=>first|exact⟨j+1,g,k,f,xa,xi++[(ta,none,0)],(fun b=>F b\/False),by omega,by omega,by (try simp only[List.length_append,List.length_singleton,List.length_nil]);omega,by (try simp only[List.length_append,List.length_singleton,List.length_nil]);omega,hF3,Lib.hid ⟨by (try rw[List.map_append]);exact G2.out.1,G2.out.2⟩,H2.pick [0,1,2,3,4,5,10] _ (by decide) rfl⟩|((repeat apply Exists.intro);refine⟨?_,rfl⟩;exact⟨j+1,g,k,f,xa,xi++[(ta,none,0)],(fun b=>F b\/False),by omega,by omega,by (try simp only[List.length_append,List.length_singleton,List.length_nil]);omega,by (try simp only[List.length_append,List.length_singleton,List.length_nil]);omega,hF3,Lib.hid ⟨by (try rw[List.map_append]);exact G2.out.1,G2.out.2⟩,H2.pick [0,1,2,3,4,5,10] _ (by decide) rfl⟩)
         case measure=>rw[zC5 HM.out,zC5 HC];omega
  ·have hdj:decide ((j:Int)<(n:Int))=false:=by simp;omega
   have E:=Lib.hid (show some (rowT 5 (xa.map (·.1)++[rowT 4 (xi.map (·.1))]),ws.drop j,g)=some (t,r',g') by
    rw[← G.out.1,show ws.drop j=[] from List.drop_eq_nil_of_le (by rw[← HN.out];omega),zNu])
   go_upto_region 2 with fail
   obtain⟨T,hT,fw,hf,h0⟩:=fam wr;have e0:=fun x=>hp0 _ (hf x)
   have e1:=fun x=>hp1 _ (hf x)
   refine zDZ fw (by kernel_rfl) (by kernel_rfl) h0 ?_
   repeat (go_big_quiet_step (fail))
   refine wpQuiet_nil ?_
   rintro _ ⟨x,rfl⟩;replace H:=H.call (hf x);obtain⟨wq,hwq⟩:∃ wq,fw x=wq:=⟨_,rfl⟩;rw[hwq]at H ⊢;clear hwq e0 e1 h0 hf hp0 hp1;clear x fw hT T;obtain⟨qi,ci,rfl,hqi1,hqi2,_⟩:=H.rowShape (i:=5) i_5;obtain⟨GF,hGF,H2⟩:=H.rowForest (i:=5) (xs:=xi) (K:=F) i_5 rfl (Still.at (i:=6) i_6) (fun x hx=>(H.kn (i:=6) i_6) x (List.mem_append.2 (.inr hx)))
   clear H;have H:=H2;clear H2;simp only[sc]at H;have hGFl:∀ b,GF b->w0.heap.size<=b:=fun b h=>(hGF b h).elim id (hF b)
   clear hGF
   generalize hrt:rowT 4 (xi.map (·.1))=rt at E
   have hr4:∀ (w:World) (l:List Res),HoldG (·=pb) w0 w l->At l 5 (.kn GF (fun V=>ForestR V GF qi ci (xi.map (·.1))))->Calls Tryz.prog 152 #[.int .i64 4,.slice qi xi.length ci] w fun e w'=>zCf w GF rt e w'/\Below w.heap.size w w':=fun w l h hi=>hrt ▸ zDq 4 qi ci xi.length GF (xi.map (·.1)) w (h.knlt hi) (h.kn hi) (by rw[List.length_map])
   have HRT:=Lib.hid hrt;clear hrt;simp only[Option.some.injEq,Prod.mk.injEq]at E;obtain⟨ht5,hr5',rfl⟩:=E;have hjr:n - r'.length=j:=by rw[← hr5',List.length_drop,← HN.out];omega
   have hr5:∀ (w:World) (l:List Res) (qa:Option Addr) (ca:Nat) (G3:Nat->Prop),HoldG (·=pb) w0 w l->At l 4 (.kn G3 (fun V=>ForestR V G3 qa ca (xa.map (·.1)++[rt])))->Calls Tryz.prog 152 #[.int .i64 5,.slice qa (xa.length+1) ca] w fun e w'=>zCf w G3 t e w'/\Below w.heap.size w w':=fun w l qa ca G3 h hi=>ht5 ▸ zDq 5 qa ca (xa.length+1) G3 (xa.map (·.1)++[rt]) w (h.knlt hi) (h.kn hi) (by rw[List.length_append,List.length_map];rfl)
   have HJR:=Lib.hid hjr;clear hjr hr5' ht5 hli
   go_wp2_with (first|(at_builtin;refine zA8 rfl _ _ 26 rfl H evd_ rfl atd_ atd_ Tryz.underlying26 hi0 hz0 hz1 hz2 rfl (by decide) rfl rfl (by unfold maxLen;omega) (by omega) ?_;clear H;intro v2 w H;try simp only[nr]at H)|((with_reducible refine gBS ?_);refine zAY wtd_ _ _ _ rfl H (zAR (rt.d) (.slice q2 rt.kids.length c2)) 28 (by intro W;simp only[ml];(try simp only[pe]);exact zCX _ _ W) ?_;clear H;intro bk w H;try simp only[nr]at H)|((with_reducible refine gT ?_);(refine aT H ?_;clear H;intro w H;try simp only[nr]at H))|(go_at_call 152;(with_reducible refine cht (hr4 _ _ H i_5) H (Still.at (i:=5) i_5) ?_);clear H;intro q2 c2 F2 w hF2 H)|(go_at_call 152;(obtain⟨qa,ca,G3,rfl,hG3,H3⟩:=H.rowForest1 (i:=4) (k:=6) (k2:=7) (xs:=xa) (ys:=xa++xi) i_4 i_6 (fun x hx=>List.mem_append.2 (.inl hx)) i_7);clear H;(have H:=H3);clear H3;(simp only[sc]at H);(with_reducible refine cht (hr5 _ _ _ _ _ H i_4) H (Still.at (i:=4) i_4) ?_);clear H;intro q5 c5 F5 w hF5 H;try simp only[nr]at H))
   (refine xc Tryz.results101 H ?_)
   have hG3l:∀ b,G3 b->w0.heap.size<=b:=fun b h=>(hG3 b h).elim id (fun h=>h.elim (hF b) (fun h=>(hF2 b h).elim id (hGFl b)))
   rw[HJR.out];exact⟨H.keep,(H.blk .zero).2,q5,c5,F5,rfl,(H.all 9 _ rfl).2 _ (fun _ _=>rfl),fun b h=>⟨(H.all 9 _ rfl).1 b h,.inl ((hF5 b h).elim id (hG3l b))⟩⟩
end
section
open Go.RowKit
theorem zHF {L:Str}:∀ (f k:Nat) (first:Bool) (S:Nat->Nat) (T:Nat->Nat) (e:Nat),zAv S->zEZ L f k first S=some (T,e)->zAv T
 | 0,_,_,_,_,_,_,h=>by simp[zEZ]at h
 | f+1,k,first,S,T,e,hS,h=>by
  unfold zEZ at h;split at h
  ·cases h;exact hS
  ·split at h
   ·cases h
   ·rename_i t e1 hi;exact zHF f e1 false _ T e (zCv (ok2 hS (zJe hi).2.2)) h
theorem zMK {L:Str} {i:Nat} {d:WordD} {e:Nat} (h:zIs L i=some (d,e)):zAv d.set:=by
 unfold zIs at h;obtain⟨⟨S,e1⟩,h1,h2⟩:=Option.map_eq_some_iff.1 h
 cases h2
 exact zHF _ _ _ _ _ _ zBu h1
theorem zGI {L:Str}:∀ (f k:Nat) (off opn:Bool) (w d:WordD) (e:Nat),zC6 L f k off opn w=some (d,e)->d.set=w.set
 | 0,_,_,_,_,_,_,h=>by simp[zC6]at h
 | f+1,k,off,opn,w,d,e,h=>by
  unfold zC6 at h;have IH:=fun k off opn w=>zGI (L:=L) f k off opn w d e
  dsimp only at h
  split at h
  ·split at h
   ·rw[IH _ _ _ _ h];split<;>rfl
   split at h
   ·rw[IH _ _ _ _ h];split<;>rfl
   split at h
   ·rw[IH _ _ _ _ h];split<;>rfl
   split at h
   ·split at h
    ·cases h
    ·exact IH _ _ _ _ h
   split at h
   ·split at h
    ·cases h;rfl
    ·cases h
   split at h
   ·split at h
    ·cases h;rfl
    ·cases h
   ·cases h
  ·cases h
theorem zK3 {L:Str} {i:Nat} {d:WordD} {e:Nat} (h:zIh L i=some (d,e)):zAv d.set:=by
 unfold zIh at h;split at h
 ·rename_i s hs
  cases h
  split at hs
  ·exact zJw hs
  ·cases hs
 ·split at h
  ·cases h;exact zBu
  ·obtain⟨⟨b,e1⟩,h1,h2⟩:=Option.map_eq_some_iff.1 h
   cases h2;exact zCO _
theorem zD3 {L:Str} {i:Nat} {lo hi:Int} {k e:Nat} {d:WordD} (h:zA3 L i lo hi k=.ok (d,e)):zAv d.set:=by
 unfold zA3 at h;split at h
 ·cases h
 ·split at h<;>(cases h;exact zBu)
theorem zFL {α:Type} {o:Option α} {a:α} (h:zIW o=.ok a):o=some a:=by cases o<;>simp[zIW]at h ⊢;exact h
theorem zLG {L:Str} {i:Nat} {d:WordD} {e:Nat} (h:zBl L i=.ok (d,e)):zAv d.set:=by
 unfold zBl at h
 dsimp only at h
 split at h
 ·exact zK3 (zFL h)
 split at h
 ·exact zMK (zFL h)
 split at h
 ·split at h
  ·have h:=zFL h;unfold zM0 at h;rw[zGI _ _ _ _ _ _ _ h];exact zBu
  ·cases h;exact zBu
 split at h
 ·split at h
  ·exact zD3 h
  ·cases h;exact zCO _
 split at h
 ·exact zD3 h
 split at h
 ·exact zD3 h
 split at h
 ·exact zD3 h
 split at h
 ·cases h;exact zBu
 ·cases h;exact zCO _
theorem zFn {L:Str}:∀ (f i:Nat) (ws:List WordD),zBV L f i=.ok ws->∀ d ∈ ws,zAv d.set
 | 0,i,ws,h=>by
  unfold zBV at h;split at h
  ·cases h
  ·cases h;intro d hd;cases hd
 | f+1,i,ws,h=>by
  unfold zBV at h;split at h
  ·split at h
   ·cases h
   ·rename_i w j hw;split at h
    ·cases h
    ·rename_i l hl
     cases h
     intro d hd;rcases List.mem_cons.1 hd with rfl|hd
     ·exact zLG hw
     ·exact zFn f j l hl d hd
  ·cases h;intro d hd;cases hd
theorem zEI {L:Str}:∀ (f i:Nat) (ws:List WordD),zBV L f i=.ok ws->ws.length<=f
 | 0,i,ws,h=>by
  unfold zBV at h;split at h
  ·cases h
  ·cases h;simp
 | f+1,i,ws,h=>by
  unfold zBV at h;split at h
  ·split at h
   ·cases h
   ·rename_i w j hw;split at h
    ·cases h
    ·rename_i l hl
     cases h
     have:=zEI f j l hl;simp;omega
  ·cases h;simp
theorem zEf (k:Int) (ts:List Tree):zAB (rowT k ts)<=1+zAF ts:=by
 unfold rowT;split
 ·simp[zBs,zAB,zAF]
 ·simp[zAF]
 ·simp[zAB]
theorem zMr (d:WordD) (f:zBL):zAB (zFM d f)=1:=by
 have:(zFM d f).kids=[]:=by
  unfold zFM setT zLk zBs
  repeat' split
  all_goals first|rfl|(dsimp only;repeat' split)<;>rfl
 rw[zC0,this];rfl
theorem zGq:∀ (m:Nat) (f:zBL) (r:List WordD) (g:Nat) (all items:List Tree) (t:Tree) (r':List WordD) (g':Nat),zAq m f r g all items=some (t,r',g')->zAB t+3 * r'.length<=3 * r.length+zAF all+zAF items+2
 | 0,f,r,g,all,items,t,r',g',h=>by simp[zAq]at h
 | m+1,f,[],g,all,items,t,r',g',h=>by
  simp only[zAq,Option.some.injEq,Prod.mk.injEq]at h;obtain⟨rfl,rfl,rfl⟩:=h;have a:=zEf 5 (all++[rowT 4 items]);have b:=zEf 4 items;rw[zAZ,zAx]at a;simp only[List.length_nil];omega
 | m+1,f,w::r,g,all,items,t,r',g',h=>by
  have IH:=zGq m;unfold zAq at h;split at h
  ·simp only[Option.some.injEq,Prod.mk.injEq]at h;obtain⟨rfl,rfl,rfl⟩:=h;have a:=zEf 5 (all++[rowT 4 items]);have b:=zEf 4 items;rw[zAZ,zAx]at a;simp only[List.length_cons];omega
  split at h
  ·have:=IH _ _ _ _ _ _ _ _ h;simp only[List.length_cons];omega
  split at h
  ·have a:=IH _ _ _ _ _ _ _ _ h;have b:=zEf 4 items;rw[zAZ,zAx]at a;simp only[List.length_cons,zAF]at *;omega
  split at h
  ·split at h
   ·cases h
   ·rename_i last hl;have a:=IH _ _ _ _ _ _ _ _ h;rcases List.eq_nil_or_concat items with rfl|⟨ys,y,rfl⟩
    ·simp at hl
    ·simp at hl;subst hl;simp only[List.concat_eq_append,List.dropLast_concat,zAZ,zAx]at *;have:zAB (repT w y)=1+zAB y:=by simp[repT,zAB,zAF]
     simp only[List.length_cons];omega
  split at h
  ·split at h
   ·rename_i t1 d1 r1 g1 h1;have a:=IH _ _ _ _ _ _ _ _ h1;have b:=IH _ _ _ _ _ _ _ _ h;rw[zAZ,zAx]at b;simp only[List.length_cons,zAF]at *;omega
   ·cases h
  split at h
  ·split at h
   ·rename_i t1 d1 r1 g1 h1;have a:=IH _ _ _ _ _ _ _ _ h1;have b:=IH _ _ _ _ _ _ _ _ h;rw[zAZ,zAx]at b;have:zAB (zFv (g+1) t1)=1+zAB t1:=by simp[zFv,zAB,zAF]
    simp only[List.length_cons,zAF]at *;omega
   ·cases h
  ·have a:=IH _ _ _ _ _ _ _ _ h;rw[zAZ,zAx,zMr]at a;simp only[List.length_cons];omega
theorem zHE:∀ (m:Nat) (f:zBL) (r:List WordD) (g:Nat) (all items:List Tree) (t:Tree) (r':List WordD) (g':Nat),zAq m f r g all items=some (t,r',g')->r'.length<=r.length
 | 0,f,r,g,all,items,t,r',g',h=>by simp[zAq]at h
 | m+1,f,[],g,all,items,t,r',g',h=>by
  simp only[zAq,Option.some.injEq,Prod.mk.injEq]at h;obtain⟨_,rfl,rfl⟩:=h;exact Nat.le_refl _
 | m+1,f,w::r,g,all,items,t,r',g',h=>by
  have IH:=zHE m;unfold zAq at h;simp only[List.length_cons];split at h
  ·simp only[Option.some.injEq,Prod.mk.injEq]at h;obtain⟨_,rfl,rfl⟩:=h;simp
  split at h
  ·have:=IH _ _ _ _ _ _ _ _ h;omega
  split at h
  ·have:=IH _ _ _ _ _ _ _ _ h;omega
  split at h
  ·split at h
   ·cases h
   ·have:=IH _ _ _ _ _ _ _ _ h;omega
  split at h
  ·split at h
   ·rename_i h1;have:=IH _ _ _ _ _ _ _ _ h1;have:=IH _ _ _ _ _ _ _ _ h;simp only[List.length_cons]at *;omega
   ·cases h
  split at h
  ·split at h
   ·rename_i h1;have:=IH _ _ _ _ _ _ _ _ h1;have:=IH _ _ _ _ _ _ _ _ h;simp only[List.length_cons]at *;omega
   ·cases h
  ·have:=IH _ _ _ _ _ _ _ _ h;omega
theorem zID:∀ (m:Nat) (r:List WordD) (bare:Bool) (op:List Nat) (f:zBL) (g:Nat) (all items:List Tree),r.length<m->zBA bare op r=none->(bare=false->items≠[]) ->
  ∃ t r' g',zAq m f r g all items=some (t,r',g')/\((op=[]/\r'=[])\/(op≠[]/\∃ d r2,r'=d::r2/\zBA false op.dropLast r2=none))
 | 0,r,_,_,_,_,_,_,h,_,_=>by omega
 | m+1,[],bare,op,f,g,all,items,_,hw,_=>by
  refine⟨_,_,_,by simp only[zAq];rfl,.inl ⟨?_,rfl⟩⟩
  simpa [zBA] using hw
 | m+1,w::r,bare,op,f,g,all,items,hm,hw,hi=>by
  have IH:=zID m;simp only[List.length_cons]at hm;unfold zBA at hw;split at hw
  ·cases hw
  rename_i hc
  dsimp only at hw
  unfold zAq
  by_cases h9:w.kind=9
  ·rw[if_pos h9];have ho:zA7 w=false:=by simp[zA7,h9]
   refine⟨_,_,_,rfl,.inr ⟨fun e=>hc (.inr ⟨h9,e⟩),w,r,rfl,?_⟩⟩
   simpa [ho,h9] using hw
  rw[if_neg h9];rw[if_neg h9]at hw
  by_cases h8:w.kind=8
  ·rw[if_pos h8];have ho:zA7 w=false:=by simp[zA7,h8]
   refine IH r true op _ g all items (by omega) (by simpa [ho,h8] using hw) (fun h=>by cases h)
  rw[if_neg h8]
  by_cases h10:w.kind=10
  ·rw[if_pos h10];have ho:zA7 w=false:=by simp[zA7,h10]
   exact IH r true op _ g _ [] (by omega) (by simpa [ho,h10] using hw) (fun h=>by cases h)
  rw[if_neg h10]
  by_cases h11:w.kind=11
  ·rw[if_pos h11];have ho:zA7 w=false:=by simp[zA7,h11]
   have hb:bare=false:=by
    cases bare with
    | false=>rfl
    | true=>exact(hc (.inl ⟨h11,rfl⟩)).elim
   have hne:=hi hb;rw[List.getLast?_eq_some_getLast hne];exact IH r true op _ g _ _ (by omega) (by simpa [ho,h11] using hw) (fun h=>by cases h)
  rw[if_neg h11];have inner:∀ (f':zBL) (g1:Nat),zA7 w=true->∃ t1 d1 r1 g2,zAq m f' r g1 [] []=some (t1,d1::r1,g2)/\zBA false op r1=none/\r1.length<m:=fun f' g1 ho=>by
   obtain⟨t1,r',g2,h1,h2⟩:=IH r true (op++[w.place]) f' g1 [] [] (by omega) (by simpa [ho] using hw) (fun h=>by cases h)
   rcases h2 with ⟨h2,_⟩|⟨_,d1,r1,rfl,h3⟩
   ·simp at h2
   ·refine⟨t1,d1,r1,g2,h1,by simpa using h3,?_⟩
    have:=zHE _ _ _ _ _ _ _ _ _ h1;simp only[List.length_cons]at this;omega
  by_cases h7:w.kind=7
  ·rw[if_pos h7];obtain⟨t1,d1,r1,g2,h1,h2,h3⟩:=inner (zGR f w) g (by simp[zA7,h7])
   rw[h1];exact IH r1 false op f g2 all _ h3 h2 (fun _=>by simp)
  rw[if_neg h7]
  by_cases h6:w.kind=6
  ·rw[if_pos h6];obtain⟨t1,d1,r1,g2,h1,h2,h3⟩:=inner f (g+1) (by simp[zA7,h6])
   rw[h1];exact IH r1 false op f g2 all _ h3 h2 (fun _=>by simp)
  rw[if_neg h6];have ho:zA7 w=false:=by simp[zA7,h6,h7]
  have e8:(w.kind == 8)=false:=by simpa using h8
  have e10:(w.kind == 10)=false:=by simpa using h10
  have e11:(w.kind == 11)=false:=by simpa using h11
  exact IH r false op f g all _ (by omega) (by simpa [ho,e8,e10,e11] using hw) (fun _=>by simp)
theorem zKr {ws:List WordD} (f:zBL) (h:zCy ws=none):∃ t g,zAq (ws.length+1) f ws 0 [] []=some (t,[],g):=by
 obtain⟨t,r',g,h1,h2⟩:=zID (ws.length+1) ws true [] f 0 [] [] (by omega) h (fun h=>by cases h)
 rcases h2 with ⟨_,rfl⟩|⟨h,_⟩
 ·exact⟨t,g,h1⟩
 ·exact(h rfl).elim
def WordsR (T:TypeId) (base:Nat) (r:Except (Nat × Nat) (List WordD)) (e:Ending) (w':World):Prop:=match r with
 | .ok ws=>∃ v,e=.returned (.tuple #[v,.int .i64 0,.int .i64 0])/\w'.ownsRow base T 17 v ws.length (zHP ws)
 | .error (p,x)=>e=.returned (.tuple #[.slice none 0 0,.int .i64 p,.int .i64 x])
theorem WordsR.ok {T:TypeId} {base:Nat} {r:Except (Nat × Nat) (List WordD)} {v:Value} {w':World} {ws:List WordD} (h:r=.ok ws) (ho:w'.ownsRow base T 17 v ws.length (zHP ws)):WordsR T base r (.returned (.tuple #[v,.int .i64 0,.int .i64 0])) w':=by subst h;exact⟨v,rfl,ho⟩
theorem WordsR.no {T:TypeId} {base:Nat} {r:Except (Nat × Nat) (List WordD)} {w':World} {p x:Nat} (h:r=.error (p,x)):WordsR T base r (.returned (.tuple #[.slice none 0 0,.int .i64 p,.int .i64 x])) w':=by subst h;rfl
def zDQ (L:Str):Except (Nat × Nat) (List WordD):=if 1000<L.length then .error (0,3) else zJ6 L
def zFz (L:Str) (f:zBL):Except (Nat × Nat) (Tree × Nat) :=
 match zDQ L with
 | .error x=>.error x
 | .ok ws =>
  match zCy ws with
  | some a=>.error (a,4)
  | none =>
   match zAq (ws.length+1) f ws 0 [] [] with
   | none=>.error (0,0)
   | some (t,_,g)=>if 20<g\/2000<zAB t then .error (0,7) else if 50<zC4 t then .error (0,5) else .ok (t,g)
def ParseOut (w:World) (r:Except (Nat × Nat) (Tree × Nat)) (e:Ending) (w':World):Prop:=match r with
 | .error (a,x)=>e=.returned (.tuple #[zAV {kind:=0} nilS,.int .i64 0,.int .i64 a,.int .i64 x])
 | .ok (t,g)=>∃ p c F,e=.returned (.tuple #[zAV t.d (.slice p t.kids.length c),.int .i64 g,.int .i64 0,.int .i64 0])/\ForestR w' F p c t.kids/\∀ b,F b->b<w'.heap.size/\w.heap.size<=b
theorem ParseOut.no {w w':World} {r:Except (Nat × Nat) (Tree × Nat)} {a x:Nat} (h:r=.error (a,x)):ParseOut w r (.returned (.tuple #[zAV {kind:=0} nilS,.int .i64 0,.int .i64 a,.int .i64 x])) w':=by subst h;rfl
end
end Go.Proofs.YtalggmbdpmdcbaaGreat
