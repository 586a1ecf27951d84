/-
  Laws of walks, and walks.
-/
import Derived.Test.YtdpcemijdmbpiaaGreatPr6
import Derived.Test.YtdpcemijdmbpiaaGreatPr4
set_option linter.unusedVariables false
set_option linter.unusedSimpArgs false
set_option maxRecDepth 100000
set_option maxHeartbeats 16000000
namespace Go.Proofs.YtdpcemijdmbpiaaGreat
section
open Go.RowKit
theorem ble_no {a b:Nat} (h:Nat.ble a b=false):b<a:=by
 rcases Nat.lt_or_ge b a with hl|hl
 ·exact hl
 ·have:Nat.ble a b=true:=by rw[Nat.ble_eq];exact hl
  rw[h]at this;cases this
theorem blt_no {a b:Nat} (h:Nat.blt a b=false):b≤a:=by
 rcases Nat.lt_or_ge a b with hl|hl
 ·have:Nat.blt a b=true:=by rw[Nat.blt_eq];exact hl
  rw[h]at this;cases this
 ·exact hl
theorem inR_app (a b:List (Nat × Nat)) (x:Nat):inR (a++b) x=(inR a x || inR b x):=by
 induction a with
 | nil=>simp[inR]
 | cons p a ih=>obtain⟨u,v⟩:=p;simp[inR,ih,Bool.or_assoc]
theorem inR_hidOf {b x:Nat}:∀ {frs:List (Nat × Nat × Nat)},inR (hidOf b frs) x=true↔∃ p ∈ frs,b.testBit p.1=false∧p.2.1≤x∧x<p.2.2
 | []=>by simp[hidOf,inR]
 | (j,lo,hi)::r=>by
  have ih:=inR_hidOf (b:=b) (x:=x) (frs:=r)
  cases hb:b.testBit j with
  | true =>
   simp only[hidOf,hb,cond_true,ih];constructor
   ·rintro⟨p,h1,h2⟩;exact⟨p,List.mem_cons_of_mem _ h1,h2⟩
   ·rintro⟨p,h1,h2,h3⟩;rcases List.mem_cons.1 h1 with rfl|h1
    ·simp only at h2;rw[hb]at h2;cases h2
    ·exact⟨p,h1,h2,h3⟩
  | false =>
   simp only[hidOf,hb,cond_false,inR,Bool.or_eq_true,Bool.and_eq_true,Nat.ble_eq,Nat.blt_eq,ih];constructor
   ·rintro(⟨h1,h2⟩|⟨p,h1,h2⟩)
    ·exact⟨(j,lo,hi),List.mem_cons_self ..,hb,h1,h2⟩
    ·exact⟨p,List.mem_cons_of_mem _ h1,h2⟩
   ·rintro⟨p,h1,h2,h3⟩;rcases List.mem_cons.1 h1 with rfl|h1
    ·exact .inl h3
    ·exact .inr ⟨p,h1,h2,h3⟩
theorem inR_hidRW {b x:Nat}:∀ {l:List (Nat × Nat)},inR (hidRW b l) x=true↔∃ p ∈ l,b.testBit p.1=false∧p.2=x
 | []=>by simp[hidRW,inR]
 | (j,c)::r=>by
  have ih:=inR_hidRW (b:=b) (x:=x) (l:=r)
  cases hb:b.testBit j with
  | true =>
   simp only[hidRW,hb,cond_true,ih];constructor
   ·rintro⟨p,h1,h2⟩;exact⟨p,List.mem_cons_of_mem _ h1,h2⟩
   ·rintro⟨p,h1,h2,h3⟩;rcases List.mem_cons.1 h1 with rfl|h1
    ·simp only at h2;rw[hb]at h2;cases h2
    ·exact⟨p,h1,h2,h3⟩
  | false =>
   simp only[hidRW,hb,cond_false,inR,Bool.or_eq_true,Bool.and_eq_true,Nat.ble_eq,Nat.blt_eq,ih];constructor
   ·rintro(⟨h1,h2⟩|⟨p,h1,h2⟩)
    ·exact⟨(j,c),List.mem_cons_self ..,hb,by show c=x;omega⟩
    ·exact⟨p,List.mem_cons_of_mem _ h1,h2⟩
   ·rintro⟨p,h1,h2,h3⟩;rcases List.mem_cons.1 h1 with rfl|h1
    ·left;have h3:c=x:=h3;omega
    ·exact .inr ⟨p,h1,h2,h3⟩
def Lh {P:Program} {G:Nat} {rec:Ev} {ops:Array Oper} (S:Seq P G rec ops.toList.toArray) (k:Kd) (i:Nat):AH:={S.H i with hid:=hidK k (nthN (befL ops.toList) i) (S.X i) (S.H i).next++(S.H i).hid,floor:=floorK k (S.H i)}
def Wr {P:Program} {G:Nat} {rec:Ev} {ops:Array Oper} (S:Seq P G rec ops.toList.toArray) (i x:Nat):Prop:=S.K i=some (.write x)∨(S.K i=some .wcall∧(S.H i).floor≤x∧∃ ob,(Lh S .wcall i).get x=some ob)
structure SOk (P:Program) (G:Nat) (rec:Ev) (ops:Array Oper) (S:Seq P G rec ops.toList.toArray):Prop where
 R0:RecOk P G rec
 at_:∀ k o,ops.toList[k]?=some o→SAt P G rec ops.toList (befL ops.toList) S k o
 x0:S.X 0=⟨[],[],[],[],[]⟩
 tmp:tmpOk ops.toList (befL ops.toList) ops.toList 0=true
 edg:edgesOk ops.toList 0=true
section
variable {P:Program} {G:Nat} {rec:Ev} {ops:Array Oper} {S:Seq P G rec ops.toList.toArray}
theorem SOk.oper (O:SOk P G rec ops S) {i:Nat} (hi:i<ops.size):∃ o,ops[i]?=some o∧ops.toList[i]?=some o∧SAt P G rec ops.toList (befL ops.toList) S i o:=by
 have h1:ops[i]?=some ops[i]:=Array.getElem?_eq_getElem hi;have h2:ops.toList[i]?=some ops[i]:=by rw[Array.getElem?_toList];exact h1
 exact⟨_,h1,h2,O.at_ i _ h2⟩
theorem SOk.keep (O:SOk P G rec ops S) {i:Nat} (hi:i<ops.size):(S.H i).next≤(S.H (i+1)).next∧(S.H (i+1)).hid=(S.H i).hid∧(S.H (i+1)).floor=(S.H i).floor∧(∀ x,x<(S.H i).next→¬ Wr S i x→(S.H (i+1)).t.get x=(S.H i).t.get x)∧(S.K i=none→(S.H (i+1)).next=(S.H i).next):=by
 obtain⟨o,_,_,_,h⟩:=O.oper hi;rcases h with ⟨hk,_,_,hH,_⟩|⟨k,h1,hk,_,_,he,hH,_⟩
 ·rw[hH];exact⟨Nat.le_refl _,rfl,rfl,fun _ _ _=>rfl,fun _=>rfl⟩
 ·have K:=(evAny_ok O.R0 he).1;rw[hH];refine⟨K.next,rfl,rfl,fun x hx hne=>?_,fun h=>by rw[hk]at h;cases h⟩
  cases k with
  | wcall =>
   by_cases h1:x<(S.H i).floor
   ·exact K.kept x hx (.inl h1)
   ·cases h2:inR (Lh S .wcall i).hid x with
    | true=>exact K.kept x hx (.inr h2)
    | false =>
     cases h3:(S.H i).t.get x with
     | none=>exact K.dead x hx h3
     | some ob=>exact absurd (.inr ⟨hk,by omega,ob,by rw[AH.get_of (h:=Lh S .wcall i) hx h2];exact h3⟩) hne
  | free =>
   refine K.kept x hx ?_
   right
   show inR ([(0,(S.H i).next)]++(S.H i).hid) x=true
   rw[inR_app];simp[inR,hx]
  | read b=>exact K.kept x hx (.inl hx)
  | call=>exact K.kept x hx (.inl hx)
  | write b =>
   refine K.kept x hx ?_
   right;have hxb:x≠b:=fun e=>hne (.inl (by rw[hk,e]))
   show inR ([(0,b),(b+1,(S.H i).next)]++(S.H i).hid) x=true
   rw[inR_app];rcases Nat.lt_or_gt_of_ne hxb with h|h
   ·simp[inR,h]
   ·have:b+1≤x:=h;simp[inR,hx,this]
theorem SOk.fix (O:SOk P G rec ops S):∀ {i:Nat},i≤ops.size→(S.H i).hid=(S.H 0).hid∧(S.H i).floor=(S.H 0).floor
 | 0,_=>⟨rfl,rfl⟩
 | i+1,h=>by
  have h1:=O.keep (i:=i) (by omega)
  have h2:=SOk.fix O (i:=i) (by omega)
  exact⟨h1.2.1.trans h2.1,h1.2.2.1.trans h2.2⟩
theorem SOk.mono (O:SOk P G rec ops S) {i:Nat}:∀ {j:Nat},i≤j→j≤ops.size→(S.H i).next≤(S.H j).next
 | 0,h,_=>by rw[Nat.le_zero.1 h];exact Nat.le_refl _
 | j+1,h,hj=>by
  rcases Nat.lt_or_ge i (j+1) with hl|hl
  ·exact Nat.le_trans (SOk.mono O (j:=j) (by omega) (by omega)) (O.keep (i:=j) (by omega)).1
  ·rw[show i=j+1 from by omega];exact Nat.le_refl _
theorem SOk.uniq (O:SOk P G rec ops S) {i j x:Nat} (hi:i<ops.size) (hj:j<ops.size) (h1:(S.H i).next≤x) (h2:x<(S.H (i+1)).next) (h3:(S.H j).next≤x) (h4:x<(S.H (j+1)).next):i=j:=by
 rcases Nat.lt_trichotomy i j with h|h|h
 ·have:=O.mono (i:=i+1) (j:=j) h (by omega);omega
 ·exact h
 ·have:=O.mono (i:=j+1) (j:=i) h (by omega);omega
theorem SOk.find (O:SOk P G rec ops S) {x:Nat}:∀ {i:Nat},i≤ops.size→x<(S.H i).next→x<(S.H 0).next∨∃ j,j<i∧(S.H j).next≤x∧x<(S.H (j+1)).next
 | 0,_,h=>.inl h
 | i+1,hi,h=>by
  rcases Nat.lt_or_ge x (S.H i).next with hl|hl
  ·rcases SOk.find O (i:=i) (by omega) hl with h1|⟨j,h1,h2⟩
   ·exact .inl h1
   ·exact .inr ⟨j,by omega,h2⟩
  ·exact .inr ⟨i,by omega,hl,h⟩
theorem SOk.fx (O:SOk P G rec ops S):∀ {i:Nat},i≤ops.size →
  (∀ j,j<i→S.K j≠none→(j,(S.H j).next,(S.H (j+1)).next) ∈ (S.X i).frs)∧(∀ p ∈ (S.X i).frs,p.1<i∧p.2.1=(S.H p.1).next∧p.2.2=(S.H (p.1+1)).next) ∧
  (∀ j b,j<i→S.K j=some (.write b)→(j,b) ∈ (S.X i).wrs)∧(∀ j b,j<i→S.K j=some (.read b)→(j,b) ∈ (S.X i).rds)∧(∀ j,j<i→S.K j=some .call→j ∈ (S.X i).cls)∧(∀ j,j<i→S.K j=some .wcall→j ∈ (S.X i).wcs)∧(∀ p ∈ (S.X i).rds,p.2<(S.H i).next)∧(∀ p ∈ (S.X i).wrs,p.2<(S.H i).next)
 | 0,_=>by
  refine⟨fun j h=>by omega,?_,fun j b h=>by omega,fun j b h=>by omega,fun j h=>by omega,fun j h=>by omega,?_,?_⟩ <;>
  ·rw[O.x0];intro p hp;cases hp
 | i+1,hi=>by
  obtain⟨f1,f2,f3,f4,f5,f6,f7,f8⟩:=SOk.fx O (i:=i) (by omega)
  obtain⟨o,_,_,_,h⟩:=O.oper (i:=i) (by omega)
  have hnx:=(O.keep (i:=i) (by omega)).1
  rcases h with ⟨hk,_,_,hH,hX⟩|⟨k,h1,hk,_,hok,he,hH,hX⟩
  ·rw[hX];refine⟨fun j hj hn=>?_,fun p hp=>?_,fun j b hj hw=>?_,fun j b hj hw=>?_,fun j hj hw=>?_,fun j hj hw=>?_,fun p hp=>Nat.lt_of_lt_of_le (f7 p hp) hnx,fun p hp=>Nat.lt_of_lt_of_le (f8 p hp) hnx⟩
   ·rcases Nat.lt_or_ge j i with hl|hl
    ·exact f1 j hl hn
    ·rw[show j=i from by omega]at hn;exact absurd hk hn
   ·obtain⟨a,b⟩:=f2 p hp;exact⟨by omega,b⟩
   ·rcases Nat.lt_or_ge j i with hl|hl
    ·exact f3 j b hl hw
    ·rw[show j=i from by omega,hk]at hw;cases hw
   ·rcases Nat.lt_or_ge j i with hl|hl
    ·exact f4 j b hl hw
    ·rw[show j=i from by omega,hk]at hw;cases hw
   ·rcases Nat.lt_or_ge j i with hl|hl
    ·exact f5 j hl hw
    ·rw[show j=i from by omega,hk]at hw;cases hw
   ·rcases Nat.lt_or_ge j i with hl|hl
    ·exact f6 j hl hw
    ·rw[show j=i from by omega,hk]at hw;cases hw
  ·have hn1:h1.next=(S.H (i+1)).next:=by rw[hH]
   have hfr:(S.X (i+1)).frs=(i,(S.H i).next,(S.H (i+1)).next)::(S.X i).frs:=by rw[hX,← hn1];cases k<;>rfl
   rw[hfr];refine⟨fun j hj hn=>?_,fun p hp=>?_,fun j b hj hw=>?_,fun j b hj hw=>?_,fun j hj hw=>?_,fun j hj hw=>?_,fun p hp=>?_,fun p hp=>?_⟩
   ·rcases Nat.lt_or_ge j i with hl|hl
    ·exact List.mem_cons_of_mem _ (f1 j hl hn)
    ·rw[show j=i from by omega];exact List.mem_cons_self ..
   ·rcases List.mem_cons.1 hp with rfl|hp
    ·exact⟨Nat.lt_succ_self _,rfl,rfl⟩
    ·obtain⟨a,b⟩:=f2 p hp;exact⟨by omega,b⟩
   ·rw[hX];rcases Nat.lt_or_ge j i with hl|hl
    ·have:=f3 j b hl hw
     cases k<;>first|exact this|exact List.mem_cons_of_mem _ this
    ·have e:j=i:=by omega
     subst e;rw[hk]at hw;cases hw
     exact List.mem_cons_self ..
   ·rw[hX];rcases Nat.lt_or_ge j i with hl|hl
    ·have:=f4 j b hl hw
     cases k<;>first|exact this|exact List.mem_cons_of_mem _ this
    ·have e:j=i:=by omega
     subst e;rw[hk]at hw;cases hw
     exact List.mem_cons_self ..
   ·rw[hX];rcases Nat.lt_or_ge j i with hl|hl
    ·have:=f5 j hl hw
     cases k<;>first|exact this|exact List.mem_cons_of_mem _ this
    ·have e:j=i:=by omega
     subst e;rw[hk]at hw;cases hw
     exact List.mem_cons_self ..
   ·rw[hX];rcases Nat.lt_or_ge j i with hl|hl
    ·have:=f6 j hl hw
     cases k<;>first|exact this|exact List.mem_cons_of_mem _ this
    ·have e:j=i:=by omega
     subst e;rw[hk]at hw;cases hw
     exact List.mem_cons_self ..
   ·rw[hX]at hp;refine Nat.lt_of_lt_of_le ?_ hnx
    cases k with
    | read b =>
     rcases List.mem_cons.1 hp with rfl|hp
     ·simp only[okK,Bool.and_eq_true]at hok;obtain⟨ob,hob⟩:=Option.isSome_iff_exists.1 hok.1.2;exact(AH.get_parts hob).1
     ·exact f7 p hp
    | _=>exact f7 p hp
   ·rw[hX]at hp;refine Nat.lt_of_lt_of_le ?_ hnx
    cases k with
    | write b =>
     rcases List.mem_cons.1 hp with rfl|hp
     ·simp only[okK,Bool.and_eq_true]at hok;obtain⟨ob,hob⟩:=Option.isSome_iff_exists.1 hok.1.1.2;exact(AH.get_parts hob).1
     ·exact f8 p hp
    | _=>exact f8 p hp
theorem SOk.wr (O:SOk P G rec ops S) {i b:Nat} (hi:i<ops.size) (hk:Wr S i b):(∃ ob,(S.H i).get b=some ob)∧(S.H i).floor≤b:=by
 rcases hk with hk|⟨hk,hf,ob,hob⟩
 rotate_left
 ·obtain⟨p1,p2,p3⟩:=AH.get_parts hob;have p2:inR (hidK .wcall (nthN (befL ops.toList) i) (S.X i) (S.H i).next++(S.H i).hid) b=false:=p2;rw[inR_app,Bool.or_eq_false_iff]at p2;exact⟨⟨ob,by rw[AH.get_of (h:=S.H i) p1 p2.2];exact p3⟩,hf⟩
 obtain⟨o,_,_,_,h⟩:=O.oper hi;rcases h with ⟨hk',_⟩|⟨k,h1,hk',_,hok,_⟩
 ·rw[hk']at hk;cases hk
 ·rw[hk']at hk;cases hk
  simp only[okK,Bool.and_eq_true,Nat.ble_eq]at hok;exact⟨Option.isSome_iff_exists.1 hok.1.1.2,hok.1.2⟩
def Tch (S:Seq P G rec ops.toList.toArray) (i x:Nat):Prop:=Wr S i x∨((S.H i).next≤x∧x<(S.H (i+1)).next)
open Classical in
noncomputable def Cn (S:Seq P G rec ops.toList.toArray) (D:Nat→Prop):Nat→Nat→Option AObj
 | 0,x=>if x<(S.H 0).next then (S.H 0).t.get x else none
 | k+1,x=>if D k∧Tch S k x then (S.H (k+1)).t.get x else Cn S D k x
theorem Cn_zero {D:Nat→Prop} {x:Nat} (h:x<(S.H 0).next):Cn S D 0 x=(S.H 0).t.get x:=by simp only[Cn];rw[if_pos h]
theorem Cn_no {D:Nat→Prop} {k x:Nat} (h:¬ (D k∧Tch S k x)):Cn S D (k+1) x=Cn S D k x:=by simp only[Cn];rw[if_neg h]
theorem Cn_yes {D:Nat→Prop} {k x:Nat} (h:D k∧Tch S k x):Cn S D (k+1) x=(S.H (k+1)).t.get x:=by simp only[Cn];rw[if_pos h]
theorem Cn_late {D:Nat→Prop} {i x:Nat}:∀ {k:Nat},i≤k→(∀ j,i≤j→j<k→¬ (D j∧Tch S j x))→Cn S D k x=Cn S D i x
 | 0,h,_=>by rw[Nat.le_zero.1 h]
 | k+1,h,hn=>by
  rcases Nat.lt_or_ge i (k+1) with hl|hl
  ·rw[Cn_no (hn k (by omega) (Nat.lt_succ_self _))]
   exact Cn_late (by omega) (fun j h1 h2=>hn j h1 (by omega))
  ·rw[show i=k+1 from by omega]
def Rel (S:Seq P G rec ops.toList.toArray) (i x:Nat):Prop :=
 (x<(S.H 0).next∨∃ j,j<i∧Anc ops i j∧(S.H j).next≤x∧x<(S.H (j+1)).next)∧(∀ m,m<i→Wr S m x→Anc ops i m)∧(∀ m,i<m→m<ops.size→Wr S m x→Anc ops m i)
theorem SOk.content (O:SOk P G rec ops S) {D:Nat→Prop} {i x:Nat} (hd:∀ i<ops.size,D i→∀ j,Anc ops i j→D j) (ha:∀ j,Anc ops i j→D j) (hn:¬ D i) (hi:i<ops.size) (hr:Rel S i x):Cn S D ops.size x=(S.H i).t.get x:=by
 obtain⟨r1,r2,r3⟩:=hr;have hxi:x<(S.H i).next:=by
  rcases r1 with h|⟨j,h1,_,_,h2⟩
  ·exact Nat.lt_of_lt_of_le h (O.mono (Nat.zero_le _) (by omega))
  ·exact Nat.lt_of_lt_of_le h2 (O.mono h1 (by omega))
 rw[Cn_late (i:=i) (by omega) (fun j h1 h2 hj=>by
  obtain⟨hD,hT⟩:=hj;rcases Nat.eq_or_lt_of_le h1 with e|h1
  ·subst e;exact hn hD
  ·rcases hT with hT|⟨hT,_⟩
   ·exact hn (hd j h2 hD i (r3 j h1 h2 hT))
   ·have:=O.mono (i:=i) (j:=j) (by omega) (by omega);omega)]
 have key:∀ k,k≤i→x<(S.H k).next→Cn S D k x=(S.H k).t.get x:=by
  intro k
  induction k with
  | zero=>intro _ hx;exact Cn_zero hx
  | succ k ih =>
   intro hk hx
   by_cases hT:Tch S k x
   ·have hD:D k:=by
     rcases hT with hT|⟨h1,h2⟩
     ·exact ha k (r2 k (by omega) hT)
     ·rcases r1 with h|⟨j,h3,h4,h5,h6⟩
      ·have:=O.mono (i:=0) (j:=k) (by omega) (by omega);omega
      ·rw[O.uniq (i:=k) (j:=j) (by omega) (by omega) h1 h2 h5 h6];exact ha j h4
    exact Cn_yes ⟨hD,hT⟩
   ·rw[Cn_no (fun h=>hT h.2)]
    have hxk:x<(S.H k).next:=by
     rcases Nat.lt_or_ge x (S.H k).next with h|h
     ·exact h
     ·exact absurd (.inr ⟨h,hx⟩) hT
    rw[ih (by omega) hxk]
    exact((O.keep (i:=k) (by omega)).2.2.2.1 x hxk (fun h=>hT (.inl h))).symm
 exact key i (Nat.le_refl _) hxi
theorem SOk.okAt (O:SOk P G rec ops S) {i:Nat} {k:Kd} (hi:i<ops.size) (hk:S.K i=some k):okK k (befL ops.toList) i (S.X i) (S.H i)=true:=by
 obtain⟨o,_,_,_,h⟩:=O.oper hi;rcases h with ⟨hk',_⟩|⟨k',h1,hk',_,hok,_⟩
 ·rw[hk']at hk;cases hk
 ·rw[hk']at hk;cases hk;exact hok
theorem SOk.afterW (O:SOk P G rec ops S) {i m:Nat} {k:Kd} (hi:i<ops.size) (hk:S.K i=some k) (hf:k≠.free) (hm:m<i) (hw:S.K m=some .wcall):Anc ops i m:=by
 have hok:=O.okAt hi hk;obtain⟨f1,f2,f3,f4,f5,f6,f7,f8⟩:=O.fx (i:=i) (by omega)
 have h6:=f6 m hm hw;have all:∀ {l:Bool},(l&&(S.X i).wcs.all fun m=>(nthN (befL ops.toList) i).testBit m)=true→Anc ops i m:=by
  intro l h;rw[Bool.and_eq_true]at h;have:=List.all_eq_true.1 h.2 _ h6
  simpa [Anc] using this
 cases k with
 | free=>exact absurd rfl hf
 | read b=>exact all hok
 | write b=>exact all hok
 | call=>exact all hok
 | wcall=>exact all hok
theorem SOk.seenRW (O:SOk P G rec ops S) {m x:Nat} {ob:AObj} (hv:(Lh S .wcall m).get x=some ob):inR (hidOf (nthN (befL ops.toList) m) (S.X m).frs) x=false∧(∀ j,(j,x) ∈ (S.X m).rds→Anc ops m j)∧(∀ j,(j,x) ∈ (S.X m).wrs→Anc ops m j):=by
 obtain⟨p1,p2,p3⟩:=AH.get_parts hv;have p2:inR ((hidOf (nthN (befL ops.toList) m) (S.X m).frs++(hidRW (nthN (befL ops.toList) m) (S.X m).rds++hidRW (nthN (befL ops.toList) m) (S.X m).wrs))++(S.H m).hid) x=false:=p2;rw[inR_app,inR_app,inR_app,Bool.or_eq_false_iff,Bool.or_eq_false_iff,Bool.or_eq_false_iff]at p2;obtain⟨⟨q1,q2,q3⟩,_⟩:=p2;refine⟨q1,fun j hj=>?_,fun j hj=>?_⟩
 ·cases hb:(nthN (befL ops.toList) m).testBit j with
  | true=>exact hb
  | false=>rw[inR_hidRW.2 ⟨_,hj,hb,rfl⟩]at q2;cases q2
 ·cases hb:(nthN (befL ops.toList) m).testBit j with
  | true=>exact hb
  | false=>rw[inR_hidRW.2 ⟨_,hj,hb,rfl⟩]at q3;cases q3
theorem SOk.rel (O:SOk P G rec ops S) {i x:Nat} {k:Kd} (hi:i<ops.size) (hk:S.K i=some k) {ob:AObj} (hv:(Lh S k i).get x=some ob):Rel S i x∧(∀ b,k=.read b∨k=.write b→x=b)∧k≠.free:=by
 obtain⟨hx,hh,_⟩:=AH.get_parts hv;have hx:x<(S.H i).next:=hx;have hh:inR (hidK k (nthN (befL ops.toList) i) (S.X i) (S.H i).next++(S.H i).hid) x=false:=hh;rw[inR_app,Bool.or_eq_false_iff]at hh;obtain⟨f1,f2,f3,f4,f5,f6,f7,f8⟩:=O.fx (i:=i) (by omega)
 have hok:=O.okAt hi hk;have hnf:k≠.free:=by
  rintro rfl;have:=hh.1;simp only[hidK,inR,Bool.or_eq_false_iff,Bool.and_eq_false_iff]at this;rcases this.1 with h2|h2
  ·have:=ble_no h2;omega
  ·have:=blt_no h2;omega
 have late:∀ m,i<m→m<ops.size→Wr S m x→(k=.read x∨k=.write x∨k=.wcall∨(k=.call∧inR (hidOf (nthN (befL ops.toList) i) (S.X m).frs) x=false))→Anc ops m i:=by
  intro m hm hmn hkm hc;obtain⟨g1,g2,g3,g4,g5,g6,g7,g8⟩:=O.fx (i:=m) (by omega)
  rcases hkm with hkm|⟨hkm,_,obm,hvm⟩
  ·have hokm:=O.okAt hmn hkm;simp only[okK,Bool.and_eq_true]at hokm;rcases hc with rfl|rfl|rfl|⟨rfl,hc⟩
   ·have:=List.all_eq_true.1 hokm.1.1.1.1.2 _ (g4 i x hm hk)
    simpa [Anc] using this
   ·have:=List.all_eq_true.1 hokm.1.1.1.1.1.2 _ (g3 i x hm hk)
    simpa [Anc] using this
   ·exact O.afterW hmn hkm (by simp) hm hk
   ·have:=List.all_eq_true.1 hokm.1.1.1.2 _ (g5 i hm hk);rw[hc]at this
    simpa [Anc] using this
  ·obtain⟨q1,q2,q3⟩:=O.seenRW hvm;rcases hc with rfl|rfl|rfl|⟨rfl,hc⟩
   ·exact q2 i (g4 i x hm hk)
   ·exact q3 i (g3 i x hm hk)
   ·exact O.afterW hmn hkm (by simp) hm hk
   ·have hokm:=O.okAt hmn hkm;simp only[okK,Bool.and_eq_true]at hokm;have:=List.all_eq_true.1 hokm.1 _ (g5 i hm hk)
    simpa [Anc] using this
 have one:∀ b,(k=.read b∨k=.write b)→x=b:=by
  intro b hb;have h1:inR [(0,b),(b+1,(S.H i).next)] x=false:=by rcases hb with rfl|rfl<;>exact hh.1
  simp only[inR,Bool.or_eq_false_iff,Bool.and_eq_false_iff]at h1;rcases Nat.lt_trichotomy x b with h|h|h
  ·rcases h1.1 with h2|h2
   ·have:=ble_no h2;omega
   ·have:=blt_no h2;omega
  ·exact h
  ·rcases h1.2.1 with h2|h2
   ·have:=ble_no h2;omega
   ·have:=blt_no h2;omega
 have fresh:∀ b,freshOk b (nthN (befL ops.toList) i) (S.X i).frs=true→b<(S.H i).next→(b<(S.H 0).next∨∃ j,j<i∧Anc ops i j∧(S.H j).next≤b∧b<(S.H (j+1)).next):=by
  intro b hf hb;rcases O.find (i:=i) (by omega) hb with h1|⟨j,h1,h2,h3⟩
  ·exact .inl h1
  ·refine .inr ⟨j,h1,?_,h2,h3⟩;have hne:S.K j≠none:=fun e=>by have:=(O.keep (i:=j) (by omega)).2.2.2.2 e;omega
   have:=List.all_eq_true.1 hf _ (f1 j h1 hne);simp only[Bool.or_eq_true,Bool.not_eq_true',Bool.and_eq_false_iff]at this;rcases this with h|h|h
   ·exact h
   ·rw[← Bool.not_eq_true,Nat.ble_eq]at h;exact absurd h2 h
   ·rw[← Bool.not_eq_true,Nat.blt_eq]at h;exact absurd h3 h
 have hancC:inR (hidOf (nthN (befL ops.toList) i) (S.X i).frs) x=false→∀ j,j<i→(S.H j).next≤x→x<(S.H (j+1)).next→Anc ops i j:=by
  intro hvis j h1 h2 h3;have hne:S.K j≠none:=fun e=>by have:=(O.keep (i:=j) (by omega)).2.2.2.2 e;omega
  cases hb:(nthN (befL ops.toList) i).testBit j with
  | true=>exact hb
  | false =>
   have:=inR_hidOf.2 ⟨_,f1 j h1 hne,hb,h2,h3⟩;rw[hvis]at this;cases this
 have freshC:inR (hidOf (nthN (befL ops.toList) i) (S.X i).frs) x=false→(x<(S.H 0).next∨∃ j,j<i∧Anc ops i j∧(S.H j).next≤x∧x<(S.H (j+1)).next):=by
  intro hvis;rcases O.find (i:=i) (by omega) hx with h1|⟨j,h1,h2,h3⟩
  ·exact .inl h1
  ·exact .inr ⟨j,h1,hancC hvis j h1 h2 h3,h2,h3⟩
 have early:∀ m,m<i→Wr S m x→(S.K m=some (.write x)→Anc ops i m)→Anc ops i m:=by
  intro m hm hw hc;rcases hw with hw|⟨hw,_⟩
  ·exact hc hw
  ·exact O.afterW hi hk hnf hm hw
 cases k with
 | free=>exact absurd rfl hnf
 | read b =>
  have e:=one b (.inl rfl);subst e;simp only[okK,Bool.and_eq_true]at hok;refine⟨⟨fresh x hok.1.1.1 hx,fun m hm hw=>early m hm hw (fun hw=>?_),fun m hm hmn hw=>late m hm hmn hw (.inl rfl)⟩,fun b' hb'=>one b' hb',by simp⟩
  have:=List.all_eq_true.1 hok.1.1.2 _ (f3 m x hm hw)
  simpa [Anc] using this
 | write b =>
  have e:=one b (.inr rfl);subst e;simp only[okK,Bool.and_eq_true]at hok;refine⟨⟨fresh x hok.1.1.1.1.1.1 hx,fun m hm hw=>early m hm hw (fun hw=>?_),fun m hm hmn hw=>late m hm hmn hw (.inr (.inl rfl))⟩,fun b' hb'=>one b' hb',by simp⟩
  have:=List.all_eq_true.1 hok.1.1.1.1.1.2 _ (f3 m x hm hw)
  simpa [Anc] using this
 | wcall =>
  obtain⟨q1,q2,q3⟩:=O.seenRW hv;exact⟨⟨freshC q1,fun m hm hw=>early m hm hw (fun hw=>q3 m (f3 m x hm hw)),fun m hm hmn hw=>late m hm hmn hw (.inr (.inr (.inl rfl)))⟩,fun b' hb'=>one b' hb',by simp⟩
 | call =>
  have hvis:inR (hidOf (nthN (befL ops.toList) i) (S.X i).frs) x=false:=hh.1;simp only[okK,Bool.and_eq_true]at hok;refine⟨⟨freshC hvis,fun m hm hw=>early m hm hw (fun hw=>?_),fun m hm hmn hw=>late m hm hmn hw (.inr (.inr (.inr ⟨rfl,?_⟩)))⟩,fun b' hb'=>one b' hb',by simp⟩
  ·have:=List.all_eq_true.1 hok.1 _ (f3 m x hm hw);simp only at this;rw[hvis,Bool.or_false]at this;exact this
  ·rw[Bool.eq_false_iff];intro hc;obtain⟨p,h1,h2,h3,h4⟩:=inR_hidOf.1 hc;obtain⟨g1,g2,_⟩:=O.fx (i:=m) (by omega)
   obtain⟨h5,h6,h7⟩:=g2 p h1;rw[h6]at h3;rw[h7]at h4;rcases Nat.lt_or_ge p.1 i with hl|hl
   ·have:=hancC hvis p.1 hl h3 h4;unfold Anc at this;rw[h2]at this;cases this
   ·have:=O.mono (i:=i) (j:=p.1) hl (by omega);omega
end
section
variable {P:Program} {G:Nat} {rec:Ev} {ops:Array Oper} {S:Seq P G rec ops.toList.toArray}
theorem tmp_row {bef:List Nat} {L:List Oper}:∀ {l:List Oper} {i k:Nat} {o:Oper},tmpOk L bef l i=true→l[k]?=some o→∀ (j:Nat) (p:Oper) (d:Tmp),L[j]?=some p→i+k≠j→o.dst=some d→d ∈ tmpsOf p++guardT L p →
  p.dst≠some d∧(i+k<j→(nthN bef j).testBit (i+k)=true)∧(j<i+k→(nthN bef (i+k)).testBit j=true)
 | [],_,_,_,_,h=>by simp at h
 | q::l,i,0,o,hT,h=>by
  simp at h;subst h;intro j p d hp hne hd hm;simp only[tmpOk,Bool.and_eq_true]at hT;have:=List.all_eq_true.1 hT.1 (p,j) (List.mk_mem_zipIdx_iff_getElem?.2 hp);simp only[hd]at this;rw[Bool.or_eq_true]at this;rcases this with this|this
  ·rw[Nat.beq_eq]at this;exact absurd this hne
  ·rw[Bool.or_eq_true]at this;rcases this with this|this
   ·rw[Bool.not_eq_true',← Bool.not_eq_true,List.contains_iff_mem]at this;exact absurd hm this
   ·rw[Bool.and_eq_true]at this;obtain⟨h1,h2⟩:=this;refine⟨fun e=>by rw[e]at h1;simp at h1,fun hlt=>?_,fun hlt=>?_⟩
    ·have:Nat.blt i j=true:=by rw[Nat.blt_eq];exact hlt
     rw[this,cond_true]at h2;exact h2
    ·have:Nat.blt i j=false:=by
      rw[Bool.eq_false_iff];intro h;rw[Nat.blt_eq]at h;omega
     rw[this,cond_false]at h2;exact h2
 | q::l,i,k+1,o,hT,h=>by
  simp only[tmpOk,Bool.and_eq_true]at hT;have:=tmp_row hT.2 (k:=k) (by simpa using h)
  rwa [show i+1+k=i+(k+1) from by omega]at this
theorem SOk.tmpAt (O:SOk P G rec ops S) {i j:Nat} {oi oj:Oper} (hi:ops[i]?=some oi) (hj:ops[j]?=some oj) (hne:i≠j) {d:Tmp} (hd:oi.dst=some d) (hm:d ∈ tmpsOf oj++guardT ops.toList oj):oj.dst≠some d∧(i<j→Anc ops j i)∧(j<i→Anc ops i j):=by
 have:=tmp_row O.tmp (k:=i) (by rw[Array.getElem?_toList];exact hi) j oj d (by rw[Array.getElem?_toList];exact hj) (by omega) hd hm
 simpa [Anc] using this
def dstO (ops:Array Oper) (k:Nat):Option Tmp:=(ops[k]?).bind (·.dst)
open Classical in
noncomputable def TD (S:Seq P G rec ops.toList.toArray) (D:Nat→Prop):Nat→List Value
 | 0=>S.T 0
 | k+1=>if D k then putA (TD S D k) (dstO ops k) (S.V k) else TD S D k
theorem TD_yes {D:Nat→Prop} {k:Nat} (h:D k):TD S D (k+1)=putA (TD S D k) (dstO ops k) (S.V k):=by simp only[TD];rw[if_pos h]
theorem TD_no {D:Nat→Prop} {k:Nat} (h:¬ D k):TD S D (k+1)=TD S D k:=by simp only[TD];rw[if_neg h]
theorem SOk.step (O:SOk P G rec ops S) {k:Nat} (hk:k<ops.size):S.T (k+1)=putA (S.T k) (dstO ops k) (S.V k):=by
 obtain⟨o,h1,_,h2,_⟩:=O.oper hk;rw[h2,dstO,h1];rfl
theorem TD_len {D:Nat→Prop} (O:SOk P G rec ops S):∀ {k:Nat},k≤ops.size→(TD S D k).length=(S.T k).length
 | 0,_=>rfl
 | k+1,h=>by
  rw[O.step (by omega),putA_len]
  by_cases hD:D k
  ·rw[TD_yes hD,putA_len,TD_len O (by omega)]
  ·rw[TD_no hD,TD_len O (by omega)]
theorem SOk.temps (O:SOk P G rec ops S) {D:Nat→Prop} {i x:Nat} {o:Oper} (hd:∀ i<ops.size,D i→∀ j,Anc ops i j→D j) (ha:∀ j,Anc ops i j→D j) (hn:¬ D i) (hi:ops[i]?=some o) (hx:x ∈ tmpsOf o++guardT ops.toList o):nth (TD S D ops.size) x=nth (S.T i) x:=by
 have hlt:i<ops.size:=(Array.getElem?_eq_some_iff.1 hi).1;have late:∀ k,i≤k→k≤ops.size→nth (TD S D k) x=nth (TD S D i) x:=by
  intro k
  induction k with
  | zero=>intro h _;rw[Nat.le_zero.1 h]
  | succ k ih =>
   intro h1 h2;rcases Nat.eq_or_lt_of_le h1 with e|h1
   ·rw[e]
   ·rw[← ih (by omega) (by omega)]
    by_cases hD:D k
    ·rw[TD_yes hD];refine putA_ne (fun e=>?_)
     obtain⟨ok,hok,_,_⟩:=O.oper (i:=k) (by omega)
     have hdk:ok.dst=some x:=by simpa [dstO,hok] using e
     have hne:k≠i:=fun e=>hn (e ▸ hD)
     exact hn (hd k (by omega) hD i ((O.tmpAt hok hi hne hdk hx).2.2 (by omega)))
    ·rw[TD_no hD]
 have early:∀ k,k≤i→nth (TD S D k) x=nth (S.T k) x:=by
  intro k
  induction k with
  | zero=>intro _;rfl
  | succ k ih =>
   intro h1;have ih:=ih (by omega)
   rw[O.step (by omega)]
   obtain⟨ok,hok,_,_⟩:=O.oper (i:=k) (by omega)
   have hdk:dstO ops k=ok.dst:=by simp[dstO,hok]
   by_cases hD:D k
   ·rw[TD_yes hD,hdk]
    cases e:ok.dst with
    | none=>exact ih
    | some d =>
     by_cases hdx:d=x
     ·subst hdx;exact nth_set_eq _ _ _ _ (TD_len O (by omega))
     ·rw[putA_ne (by simpa using hdx),putA_ne (by simpa using hdx)];exact ih
   ·rw[TD_no hD,hdk,putA_ne (fun e=>?_)]
    ·exact ih
    ·exact hD (ha k ((O.tmpAt hok hi (by omega) e hx).2.1 (by omega)))
 rw[late _ (by omega) (Nat.le_refl _),early i (Nat.le_refl _)]
def Add (D:Nat→Prop) (i:Nat) (k:Nat):Prop:=D k∨k=i
theorem SOk.tempsAdd (O:SOk P G rec ops S) {D:Nat→Prop} {i:Nat} (hn:¬ D i) (hi:i<ops.size):TD S (Add D i) ops.size=putA (TD S D ops.size) (dstO ops i) (S.V i):=by
 have early:∀ k,k≤i→TD S (Add D i) k=TD S D k:=by
  intro k
  induction k with
  | zero=>intro _;rfl
  | succ k ih =>
   intro h
   by_cases hD:D k
   ·rw[TD_yes hD,TD_yes (D:=Add D i) (.inl hD),ih (by omega)]
   ·rw[TD_no hD,TD_no (D:=Add D i) (fun h'=>h'.elim hD (fun e=>by omega)),ih (by omega)]
 have late:∀ k,i<k→k≤ops.size→TD S (Add D i) k=putA (TD S D k) (dstO ops i) (S.V i):=by
  intro k
  induction k with
  | zero=>intro h _;omega
  | succ k ih =>
   intro h1 h2;rcases Nat.eq_or_lt_of_le (Nat.lt_succ_iff.1 h1) with e|h1
   ·subst e;rw[TD_yes (D:=Add D i) (.inr rfl),TD_no hn,early i (Nat.le_refl _)]
   ·have ih:=ih h1 (by omega)
    by_cases hD:D k
    ·rw[TD_yes hD,TD_yes (D:=Add D i) (.inl hD),ih];refine putA_comm ?_
     obtain⟨oi,hoi,_,_⟩:=O.oper hi;obtain⟨ok,hok,_,_⟩:=O.oper (i:=k) (by omega)
     have e1:dstO ops i=oi.dst:=by simp[dstO,hoi]
     have e2:dstO ops k=ok.dst:=by simp[dstO,hok]
     rw[e1,e2]
     cases h3:oi.dst with
     | none=>exact .inl rfl
     | some d =>
      refine .inr (.inr (fun e=>?_))
      have hm:d ∈ tmpsOf ok++guardT ops.toList ok:=by
       rw[List.mem_append];left;unfold tmpsOf;rw[← e];simp
      exact(O.tmpAt hoi hok (by omega) h3 hm).1 e.symm
    ·rw[TD_no hD,TD_no (D:=Add D i) (fun h'=>h'.elim hD (fun e=>by omega)),ih]
 exact late _ hi (Nat.le_refl _)
theorem SOk.tempsAll (O:SOk P G rec ops S) {D:Nat→Prop} (hD:∀ i<ops.size,D i):∀ {k:Nat},k≤ops.size→TD S D k=S.T k
 | 0,_=>rfl
 | k+1,h=>by rw[TD_yes (hD k (by omega)),SOk.tempsAll O hD (by omega),O.step (by omega)]
theorem SOk.touchAdd (O:SOk P G rec ops S) {D:Nat→Prop} {i x:Nat} (hd:∀ i<ops.size,D i→∀ j,Anc ops i j→D j) (hn:¬ D i) (hi:i<ops.size) (hT:Tch S i x):Cn S (Add D i) ops.size x=(S.H (i+1)).t.get x:=by
 rw[Cn_late (i:=i+1) hi (fun k h1 h2 hk=>?_)]
 ·exact Cn_yes ⟨.inr rfl,hT⟩
 ·obtain⟨hD,hK⟩:=hk;have hDk:D k:=hD.elim id (fun e=>by omega)
  have hanc:∀ (h:Anc ops k i),False:=fun h=>hn (hd k h2 hDk i h)
  obtain⟨f1,f2,f3,f4,f5,f6,f7,f8⟩:=O.fx (i:=k) (by omega)
  rcases hK with hK|⟨h3,h4⟩
  ·have hfr:(S.H i).next≤x→x<(S.H (i+1)).next→(i,(S.H i).next,(S.H (i+1)).next) ∈ (S.X k).frs:=fun h5 h6 =>
    f1 i (by omega) (fun e=>by have:=(O.keep hi).2.2.2.2 e;omega)
   rcases hK with hK|⟨hK,_,ob,hv⟩
   ·have hok:=O.okAt h2 hK;rcases hT with (hT|⟨hT,_⟩)|⟨h5,h6⟩
    ·simp only[okK,Bool.and_eq_true]at hok;have:=List.all_eq_true.1 hok.1.1.1.1.1.2 _ (f3 i x (by omega) hT)
     exact hanc (by simpa [Anc] using this)
    ·exact hanc (O.afterW h2 hK (by simp) (by omega) hT)
    ·simp only[okK,Bool.and_eq_true]at hok;have:=List.all_eq_true.1 hok.1.1.1.1.1.1 _ (hfr h5 h6);simp only[Bool.or_eq_true,Bool.not_eq_true',Bool.and_eq_false_iff]at this;rcases this with h|h|h
     ·exact hanc h
     ·have:=ble_no h;omega
     ·have:=blt_no h;omega
   ·obtain⟨q1,q2,q3⟩:=O.seenRW hv;rcases hT with (hT|⟨hT,_⟩)|⟨h5,h6⟩
    ·exact hanc (q3 i (f3 i x (by omega) hT))
    ·exact hanc (O.afterW h2 hK (by simp) (by omega) hT)
    ·cases hb:(nthN (befL ops.toList) k).testBit i with
     | true=>exact hanc hb
     | false=>rw[inR_hidOf.2 ⟨_,hfr h5 h6,hb,h5,h6⟩]at q1;cases q1
  ·rcases hT with hT|⟨h5,h6⟩
   ·obtain⟨⟨ob,hob⟩,_⟩:=O.wr hi hT;have:=(AH.get_parts hob).1;have:=O.mono (i:=i) (j:=k) (by omega) (by omega)
    omega
   ·have:=O.uniq (i:=i) (j:=k) hi h2 h5 h6 h3 h4;omega
theorem Cn_add_no {D:Nat→Prop} {i x:Nat} (hT:¬ Tch S i x):∀ k,Cn S (Add D i) k x=Cn S D k x
 | 0=>rfl
 | k+1=>by
  by_cases h:D k∧Tch S k x
  ·rw[Cn_yes h,Cn_yes (D:=Add D i) ⟨.inl h.1,h.2⟩]
  ·rw[Cn_no h,Cn_no (D:=Add D i) (fun h'=>h'.1.elim (fun hD=>h ⟨hD,h'.2⟩) (fun e=>hT (e ▸ h'.2))),Cn_add_no hT k]
theorem SOk.seqLive (O:SOk P G rec ops S) {x:Nat} (hx:x<(S.H 0).next):∀ {k:Nat} {ob:AObj},k≤ops.size→(S.H k).t.get x=some ob→∃ o0,(S.H 0).t.get x=some o0
 | 0,ob,_,h=>⟨ob,h⟩
 | k+1,ob,hk,h=>by
  by_cases hw:Wr S k x
  ·obtain⟨⟨ob',hob⟩,_⟩:=O.wr (by omega) hw
   exact SOk.seqLive O hx (k:=k) (by omega) (AH.get_parts hob).2.2
  ·have:=O.mono (i:=0) (j:=k) (Nat.zero_le _) (by omega)
   rw[(O.keep (i:=k) (by omega)).2.2.2.1 x (by omega) hw]at h
   exact SOk.seqLive O hx (k:=k) (by omega) h
theorem SOk.cnLive (O:SOk P G rec ops S) {D:Nat→Prop} {x:Nat} (hx:x<(S.H 0).next):∀ {k:Nat} {ob:AObj},k≤ops.size→Cn S D k x=some ob→∃ o0,(S.H 0).t.get x=some o0
 | 0,ob,_,h=>⟨ob,by rw[Cn_zero hx]at h;exact h⟩
 | k+1,ob,hk,h=>by
  by_cases hc:D k∧Tch S k x
  ·rw[Cn_yes hc]at h;exact O.seqLive hx hk h
  ·rw[Cn_no hc]at h;exact SOk.cnLive O hx (by omega) h
theorem SOk.cnSame (O:SOk P G rec ops S) {D:Nat→Prop} {x:Nat} (hx:x<(S.H 0).next) (hs:x<(S.H 0).floor∨inR (S.H 0).hid x=true):∀ {k:Nat},k≤ops.size→Cn S D k x=(S.H 0).t.get x
 | 0,_=>Cn_zero hx
 | k+1,hk=>by
  rw[Cn_no (fun hc=>?_),SOk.cnSame O hx hs (by omega)]
  have hfix:=O.fix (i:=k) (by omega)
  rcases hc.2 with hw|⟨h1,_⟩
  ·obtain⟨⟨ob,hob⟩,hf⟩:=O.wr (by omega) hw
   rcases hs with hs|hs
   ·rw[hfix.2]at hf;omega
   ·have:=AH.get_hid hob;rw[hfix.1,hs]at this;cases this
  ·have:=O.mono (i:=0) (j:=k) (Nat.zero_le _) (by omega);omega
theorem SOk.cnAll (O:SOk P G rec ops S) {D:Nat→Prop} (hD:∀ i<ops.size,D i) {x:Nat}:∀ {k:Nat},k≤ops.size→x<(S.H k).next→Cn S D k x=(S.H k).t.get x
 | 0,_,hx=>Cn_zero hx
 | k+1,hk,hx=>by
  by_cases hT:Tch S k x
  ·exact Cn_yes ⟨hD k (by omega),hT⟩
  ·rw[Cn_no (fun h=>hT h.2)]
   have hxk:x<(S.H k).next:=by
    rcases Nat.lt_or_ge x (S.H k).next with h|h
    ·exact h
    ·exact absurd (.inr ⟨h,hx⟩) hT
   rw[SOk.cnAll O hD (by omega) hxk]
   exact((O.keep (i:=k) (by omega)).2.2.2.1 x hxk (fun h=>hT (.inl h))).symm
theorem tr_range (T:Tr) (f:Nat→Option AObj) (lo:Nat):∀ c,∃ T':Tr,∀ x,T'.get x=if lo≤x∧x<lo+c then f x else T.get x
 | 0=>⟨T,fun x=>by rw[if_neg (by omega)]⟩
 | c+1=>by
  obtain⟨T',h⟩:=tr_range T f lo c;refine⟨T'.set (lo+c) (f (lo+c)),fun x=>?_⟩
  rw[Tr.get_set,h]
  by_cases e:x=lo+c
  ·subst e;rw[if_pos rfl,if_pos (by omega)]
  ·rw[if_neg e]
   by_cases h2:lo≤x∧x<lo+c
   ·rw[if_pos h2,if_pos (by omega)]
   ·rw[if_neg h2,if_neg (by omega)]
theorem tr_ex (O:SOk P G rec ops S) (D:Nat→Prop):∀ k,k≤ops.size→∃ T:Tr,∀ x,T.get x=Cn S D k x
 | 0,_=>by
  obtain⟨T,h⟩:=tr_range .lf (fun x=>(S.H 0).t.get x) 0 (S.H 0).next
  refine⟨T,fun x=>?_⟩
  rw[h]
  by_cases hx:x<(S.H 0).next
  ·rw[if_pos (by omega),Cn_zero hx]
  ·rw[if_neg (by omega)]
   simp only[Cn];rw[if_neg hx];rfl
 | k+1,hk=>by
  obtain⟨T,h⟩:=tr_ex O D k (by omega)
  obtain⟨T1,h1⟩:=tr_range T (fun x=>Cn S D (k+1) x) 0 (S.H (k+1)).next
  refine⟨T1,fun x=>?_⟩
  rw[h1]
  by_cases hx:x<(S.H (k+1)).next
  ·rw[if_pos (by omega)]
  ·rw[if_neg (by omega),h,Cn_no (fun h'=>?_)]
   have hm:=(O.keep (i:=k) (by omega)).1
   rcases h'.2 with hw|⟨_,h2⟩
   ·obtain⟨⟨ob,hob⟩,_⟩:=O.wr (by omega) hw
    have:=(AH.get_parts hob).1;omega
   ·exact hx h2
end
section
variable {P:Program} {G:Nat} {rec:Ev} {ops:Array Oper} {S:Seq P G rec ops.toList.toArray}
structure Inv (G:Nat) (S:Seq P G rec ops.toList.toArray) (m0:NM) (w0:World) (ds:List Deferred) (D:Nat→Prop) (m:NM) (w:World) (a:Act):Prop where
 hd:∃ hd:AH,(∀ x,hd.t.get x=Cn S D ops.size x)∧hd.next=(S.H ops.size).next∧hd.floor=(S.H 0).floor∧hd.hid=(S.H 0).hid∧MT G m hd w∧EX m0 (S.H 0) w0 m hd w
 fr:∀ k,k<ops.size→¬ D k→FreeN m (S.H k).next (S.H (k+1)).next
 tl:LR m (TD S D ops.size) a.tmps.toList
 df:a.defers=ds
theorem Inv.skip (O:SOk P G rec ops S) {m0:NM} {w0:World} {ds:List Deferred} {D:Nat→Prop} {m:NM} {w:World} {a:Act} (I:Inv G S m0 w0 ds D m w a) {i:Nat} {o:Oper} (hi:i<ops.size) (ho:ops[i]?=some o) (hn:¬ D i) (hk:S.K i=none) (hv:S.V i=undef) :
  Inv G S m0 w0 ds (Add D i) m w (a.put o.dst undef):=by
 have hT:∀ x,¬ Tch S i x:=fun x h=>by
  rcases h with (h|⟨h,_⟩)|⟨h1,h2⟩
  ·rw[hk]at h;cases h
  ·rw[hk]at h;cases h
  ·have:=(O.keep hi).2.2.2.2 hk;omega
 obtain⟨hd,h1,h2,h3,h4,h5,h6⟩:=I.hd;refine⟨⟨hd,fun x=>by rw[h1,Cn_add_no (hT x)],h2,h3,h4,h5,h6⟩,fun k hk' hD=>I.fr k hk' (fun h=>hD (.inl h)),?_,?_⟩
 ·rw[O.tempsAdd hn hi,hv,show dstO ops i=o.dst from by simp[dstO,ho]]
  exact put_ok I.tl .undef o.dst
 ·rw[← I.df];cases o.dst<;>rfl
theorem Inv.add (O:SOk P G rec ops S) (fl0:(S.H 0).floor≤(S.H 0).next) {m0:NM} {w0:World} {ds:List Deferred} {D:Nat→Prop} {m:NM} {w:World} {a:Act} (I:Inv G S m0 w0 ds D m w a) (M0:MT G m0 (S.H 0) w0) (F0:FreeN m0 (S.H 0).next (S.H ops.size).next)
  {i:Nat} {o:Oper} {k:Kd} {h1:AH} (hi:i<ops.size) (ho:ops[i]?=some o) (hd0:∀ i<ops.size,D i→∀ j,Anc ops i j→D j) (ha:∀ j,Anc ops i j→D j) (hn:¬ D i) (hk:S.K i=some k) (hH:S.H (i+1)={h1 with hid:=(S.H i).hid,floor:=(S.H i).floor}) :
  MT G m {S.H i with hid:=hidK k (nthN (befL ops.toList) i) (S.X i) (S.H i).next++(S.H i).hid,floor:=floorK k (S.H i)} w ∧
  ∀ {m':NM} {w':World} {v':Value},EX m {S.H i with hid:=hidK k (nthN (befL ops.toList) i) (S.X i) (S.H i).next++(S.H i).hid,floor:=floorK k (S.H i)} w m' h1 w'→MT G m' h1 w'→VR m' (S.V i) v'→Inv G S m0 w0 ds (Add D i) m' w' (a.put o.dst v'):=by
 obtain⟨hd,g1,g2,g3,g4,M,E⟩:=I.hd;have hLh:∀ {x:Nat} {ob:AObj},({S.H i with hid:=hidK k (nthN (befL ops.toList) i) (S.X i) (S.H i).next++(S.H i).hid,floor:=floorK k (S.H i)}:AH).get x=some ob→(Lh S k i).get x=some ob:=fun h=>h
 obtain⟨L,hL⟩:∃ L:AH,({S.H i with hid:=hidK k (nthN (befL ops.toList) i) (S.X i) (S.H i).next++(S.H i).hid,floor:=floorK k (S.H i)}:AH)=L:=⟨_,rfl⟩
 have Lt:L.t=(S.H i).t:=by rw[← hL]
 have Ln:L.next=(S.H i).next:=by rw[← hL]
 have Lf:L.floor=floorK k (S.H i):=by rw[← hL]
 have Lh:L.hid=hidK k (nthN (befL ops.toList) i) (S.X i) (S.H i).next++(S.H i).hid:=by rw[← hL]
 have hfix:=O.fix (i:=i) (by omega)
 have hN0:=O.mono (i:=0) (j:=i) (Nat.zero_le _) (by omega)
 have hNn:=O.mono (i:=i) (j:=ops.size) (by omega) (Nat.le_refl _)
 have hN1:=O.mono (i:=i+1) (j:=ops.size) hi (Nat.le_refl _);have hN1':=(O.keep hi).1;have t1:∀ x,(S.H (i+1)).t.get x=h1.t.get x:=fun x=>by rw[hH]
 have n1:(S.H (i+1)).next=h1.next:=by rw[hH]
 have vis:∀ {x:Nat} {ob:AObj},L.get x=some ob→hd.get x=some ob:=by
  intro x ob hx;rw[← hL]at hx;obtain⟨hr,_,_⟩:=O.rel hi hk (hLh hx);obtain⟨p1,p2,p3⟩:=AH.get_parts hx;have p1:x<(S.H i).next:=p1;have p2:inR (hidK k (nthN (befL ops.toList) i) (S.X i) (S.H i).next++(S.H i).hid) x=false:=p2;rw[inR_app,Bool.or_eq_false_iff]at p2;rw[AH.get_of (h:=hd) (by omega) (by rw[g4,← hfix.1];exact p2.2),g1,O.content hd0 ha hn hi hr]
  exact p3
 have one:∀ {x:Nat} {ob:AObj},L.get x=some ob→L.floor≤x→Wr S i x:=by
  intro x ob hx hf;have hx':=hx;rw[← hL]at hx;obtain⟨_,h2,_⟩:=O.rel hi hk (hLh hx);have hlt:=(AH.get_parts hx').1;rw[Lf]at hf
  cases k with
  | write b=>rw[h2 b (.inr rfl)];exact .inl hk
  | wcall=>exact .inr ⟨hk,hf,ob,hLh hx⟩
  | _=>exact absurd hf (by show ¬ (S.H i).next≤x;omega)
 have ML:MT G m L w:=by
  refine⟨M.lt,fun n1 n2 o1 o2 b r1 r2 e1 e2 e3 e4=>M.inj n1 n2 o1 o2 b r1 r2 (vis e1) (vis e2) e3 e4,fun n ob e=>M.obj n ob (vis e),M.glob,fun n ob e=>(AH.get_parts e).1,?_⟩
  rw[Lf,Ln]
  cases k with
  | write b=>show (S.H i).floor≤_;have:=fl0;omega
  | wcall=>show (S.H i).floor≤_;have:=fl0;omega
  | _=>exact Nat.le_refl _
 rw[hL];refine⟨ML,fun {m' w' v'} E' M' V'=>?_⟩
 have wvis:∀ {x:Nat},Wr S i x→∃ ob,L.get x=some ob:=by
  intro x hw;have hw':=hw;rcases hw with hw|⟨hw,_,ob,hob⟩
  rotate_left
  ·rw[hk]at hw;cases hw
   exact⟨ob,by rw[← hL];exact hob⟩
  rw[hk]at hw;cases hw
  obtain⟨⟨ob,hob⟩,_⟩:=O.wr hi hw';obtain⟨p1,p2,p3⟩:=AH.get_parts hob;refine⟨ob,?_⟩
  rw[AH.get_of (by rw[Ln];exact p1) (by
   rw[Lh,inR_app,p2];simp only[hidK,inR,Bool.or_false];have q1:Nat.blt x x=false:=by rw[Bool.eq_false_iff];intro h;rw[Nat.blt_eq]at h;omega
   have q2:Nat.ble (x+1) x=false:=by rw[Bool.eq_false_iff];intro h;rw[Nat.ble_eq]at h;omega
   rw[q1,q2];simp),Lt]
  exact p3
 have tvis:∀ {x:Nat} {ob:AObj},Tch S i x→h1.t.get x=some ob→inR (S.H 0).hid x=false→h1.get x=some ob:=by
  intro x ob hT hg hh;have hx1:x<h1.next:=by
   rcases hT with hT|⟨_,h⟩
   ·obtain⟨ob',hob'⟩:=wvis hT;have:=(AH.get_parts hob').1;rw[Ln]at this;omega
   ·omega
  rw[AH.get_of hx1 (by
   rw[E'.hid,Lh,inR_app,hfix.1,hh,Bool.or_false];rcases hT with hT|⟨h2,h3⟩
   ·obtain⟨ob',hob'⟩:=wvis hT;have:=AH.get_hid hob';rw[Lh,inR_app,Bool.or_eq_false_iff]at this;exact this.1
   ·rw[Bool.eq_false_iff];intro hc
    cases k with
    | free=>simp only[hidK,inR,Bool.or_false,Bool.and_eq_true,Nat.blt_eq]at hc;omega
    | read b =>
     have hb:b<(S.H i).next:=by
      obtain⟨oi,_,_,_,h⟩:=O.oper hi;rcases h with ⟨hk',_⟩|⟨k',h1',hk',_,hok,_⟩
      ·rw[hk']at hk;cases hk
      ·rw[hk']at hk;cases hk
       simp only[okK,Bool.and_eq_true]at hok;obtain⟨ob',hob'⟩:=Option.isSome_iff_exists.1 hok.1.2;exact(AH.get_parts hob').1
     simp only[hidK,inR,Bool.or_false,Bool.or_eq_true,Bool.and_eq_true,Nat.blt_eq]at hc;omega
    | write b =>
     obtain⟨⟨ob',hob'⟩,_⟩:=O.wr hi (.inl hk);have hb:=(AH.get_parts hob').1;simp only[hidK,inR,Bool.or_false,Bool.or_eq_true,Bool.and_eq_true,Nat.blt_eq]at hc;omega
    | wcall =>
     obtain⟨f1,f2,f3,f4,f5,f6,f7,f8⟩:=O.fx (i:=i) (by omega)
     simp only[hidK]at hc;rw[inR_app,inR_app,Bool.or_eq_true,Bool.or_eq_true]at hc;rcases hc with hc|hc|hc
     ·obtain⟨p,q1,_,q3,q4⟩:=inR_hidOf.1 hc;obtain⟨q5,q6,q7⟩:=f2 p q1;have:=O.mono (i:=p.1+1) (j:=i) q5 (by omega)
      omega
     ·obtain⟨p,q1,_,q3⟩:=inR_hidRW.1 hc;have:=f7 p q1;omega
     ·obtain⟨p,q1,_,q3⟩:=inR_hidRW.1 hc;have:=f8 p q1;omega
    | call =>
     obtain⟨p,q1,_,q3,q4⟩:=inR_hidOf.1 hc;obtain⟨f1,f2,_⟩:=O.fx (i:=i) (by omega)
     obtain⟨q5,q6,q7⟩:=f2 p q1;have:=O.mono (i:=p.1+1) (j:=i) q5 (by omega)
     omega)]
  exact hg
 obtain⟨T',hT'⟩:=tr_ex O (Add D i) ops.size (Nat.le_refl _);have vis':∀ {x:Nat} {ob:AObj},(⟨T',(S.H ops.size).next,(S.H 0).floor,(S.H 0).hid⟩:AH).get x=some ob→(Tch S i x∧h1.get x=some ob)∨(¬ Tch S i x∧hd.get x=some ob):=by
  intro x ob hx;obtain⟨p1,p2,p3⟩:=AH.get_parts hx;have p3:T'.get x=some ob:=p3;rw[hT']at p3
  by_cases hT:Tch S i x
  ·rw[O.touchAdd hd0 hn hi hT,t1]at p3;exact .inl ⟨hT,tvis hT p3 p2⟩
  ·rw[Cn_add_no hT]at p3;refine .inr ⟨hT,?_⟩
   rw[AH.get_of (h:=hd) (by rw[g2];exact p1) (by rw[g4];exact p2),g1]
   exact p3
 have keepB:∀ {x:Nat} {ob:AObj} {b:Nat} {r:Option (Nat × Nat)},¬ Tch S i x→hd.get x=some ob→m x=some (b,r)→w'.heap[b]?=w.heap[b]?:=by
  intro x ob b r hT hg hm;refine E'.old b (M.lt x b r hm) (fun n1 o1 r1 hf hg1 hm1=>?_)
  have hw:=one hg1 hf;have:=M.inj x n1 ob o1 b r r1 hg (vis hg1) hm hm1;subst this;exact hT (.inl hw)
 have newX:∀ {x b:Nat} {r:Option (Nat × Nat)},m x=none→m' x=some (b,r)→w.heap.size≤b∨∃ n0 o0 r0,Wr S i n0∧L.get n0=some o0∧m n0=some (b,r0):=by
  intro x b r e1 e2;rcases E'.newb x b r e1 e2 with h|⟨n0,o0,r0,hf,hg,hm⟩
  ·exact .inl h
  ·exact .inr ⟨n0,o0,r0,one hg hf,hg,hm⟩
 have old0:∀ {n0 b:Nat} {o0:AObj} {r0:Option (Nat × Nat)},Wr S i n0→L.get n0=some o0→m n0=some (b,r0)→w0.heap.size≤b∨∃ n2 o2 r2,(S.H 0).floor≤n2∧(S.H 0).get n2=some o2∧m0 n2=some (b,r2):=by
  intro n0 b o0 r0 hw hg hm
  cases h0:m0 n0 with
  | none=>exact E.newb n0 b r0 h0 hm
  | some y =>
   have:=E.mono n0 y h0;rw[hm]at this;cases this
   have hlt:n0<(S.H 0).next:=by
    rcases Nat.lt_or_ge n0 (S.H 0).next with h|h
    ·exact h
    ·have hx:=(AH.get_parts hg).1;rw[Ln]at hx;rw[F0 n0 h (by omega)]at h0;cases h0
   obtain⟨o2,ho2⟩:=E.live n0 o0 hlt (vis hg);have:=(O.wr hi hw).2;rw[hfix.2]at this;exact .inr ⟨n0,o2,r0,this,ho2,h0⟩
 have sameM:∀ {x:Nat} {ob:AObj},hd.get x=some ob→∃ b r,m x=some (b,r)∧m' x=some (b,r):=by
  intro x ob hg;obtain⟨b,r,_,h,_,_⟩:=M.obj x ob hg;exact⟨b,r,h,E'.mono _ _ h⟩
 have cross:∀ {x1 x2:Nat} {o1 o2:AObj} {b:Nat} {r1 r2:Option (Nat × Nat)},Tch S i x1→h1.get x1=some o1→¬ Tch S i x2→hd.get x2=some o2→m' x1=some (b,r1)→m' x2=some (b,r2)→False:=by
  intro x1 x2 o1 o2 b r1 r2 hT1 hg1 hT2 hg2 e1 e2;obtain⟨b',r',k1,k2⟩:=sameM hg2;rw[e2]at k2;cases k2
  have hb:=M.lt x2 b r2 k1;rcases hT1 with hw|⟨h2,h3⟩
  ·obtain⟨ob,hob⟩:=wvis hw;obtain⟨b',r',k3,k4⟩:=sameM (vis hob);rw[e1]at k4;cases k4
   have:=M.inj x1 x2 ob o2 b r1 r2 (vis hob) hg2 k3 k1;subst this;exact hT2 (.inl hw)
  ·rcases newX (I.fr i hi hn x1 h2 h3) e1 with h|⟨n0,o0,r0,hw,hg,hm⟩
   ·omega
   ·have:=M.inj n0 x2 o0 o2 b r0 r2 (vis hg) hg2 hm k1;subst this;exact hT2 (.inl hw)
 refine⟨⟨⟨T',(S.H ops.size).next,(S.H 0).floor,(S.H 0).hid⟩,hT',rfl,rfl,rfl,⟨M'.lt,?_,?_,M'.glob,fun n ob e=>(AH.get_parts e).1,by show (S.H 0).floor≤(S.H ops.size).next;have:=fl0;omega⟩,⟨fun n x e=>E'.mono _ _ (E.mono _ _ e),?_,?_,by show (S.H 0).next≤(S.H ops.size).next;omega,rfl,rfl,?_,?_,?_,E'.os.trans E.os,E'.tape.trans E.tape,E'.output.trans E.output,Nat.le_trans E.size E'.size,?_⟩⟩,?_,?_,?_⟩
 ·intro n1 n2 o1 o2 b r1 r2 e1 e2 e3 e4;rcases vis' e1 with ⟨a1,a2⟩|⟨a1,a2⟩<;>rcases vis' e2 with ⟨c1,c2⟩|⟨c1,c2⟩
  ·exact M'.inj n1 n2 o1 o2 b r1 r2 a2 c2 e3 e4
  ·exact(cross a1 a2 c1 c2 e3 e4).elim
  ·exact(cross c1 c2 a1 a2 e4 e3).elim
  ·obtain⟨b',r',k1,k2⟩:=sameM a2;rw[e3]at k2;cases k2
   obtain⟨b',r',k3,k4⟩:=sameM c2;rw[e4]at k4;cases k4
   exact M.inj n1 n2 o1 o2 b r1 r2 a2 c2 k1 k3
 ·intro n ob e;rcases vis' e with ⟨a1,a2⟩|⟨a1,a2⟩
  ·exact M'.obj n ob a2
  ·obtain⟨b,r,o',k1,k2,k3⟩:=M.obj n ob a2;exact⟨b,r,o',E'.mono _ _ k1,(keepB a1 a2 k1).trans k2,k3.mono E'.mono⟩
 ·intro n hnn;have hnn:¬ ((S.H 0).next≤n∧n<(S.H ops.size).next):=hnn;rw[E'.same n (by rw[Ln,← n1];omega),E.same n (by rw[g2];exact hnn)]
 ·intro n b r e1 e2
  cases h0:m n with
  | some y =>
   have:=E'.mono n y h0;rw[e2]at this;cases this
   exact E.newb n b r e1 h0
  | none =>
   rcases newX h0 e2 with h|⟨n0,o0,r0,hw,hg,hm⟩
   ·exact .inl (Nat.le_trans E.size h)
   ·exact old0 hw hg hm
 ·intro n ob hlt e;obtain⟨p1,p2,p3⟩:=AH.get_parts e;have p3:T'.get n=some ob:=p3;rw[hT']at p3;obtain⟨o0,h0⟩:=O.cnLive hlt (Nat.le_refl _) p3;exact⟨o0,by rw[AH.get_of hlt p2];exact h0⟩
 ·intro n hlt
  show T'.get n=_
  rw[hT'];exact O.cnSame (by have:=fl0;omega) (.inl hlt) (Nat.le_refl _)
 ·intro n hlt hh
  show T'.get n=_
  rw[hT'];exact O.cnSame hlt (.inr hh) (Nat.le_refl _)
 ·intro b hb hno;rw[E'.old b (Nat.lt_of_lt_of_le hb E.size) (fun n0 o0 r0 hf hg hm=>?_),E.old b hb hno]
  rcases old0 (one hg hf) hg hm with h|⟨n2,o2,r2,h2,h3,h4⟩
  ·omega
  ·exact hno n2 o2 r2 h2 h3 h4
 ·intro j hj hD x h2 h3;have hji:j≠i:=fun e=>hD (.inr e)
  rw[E'.same x (fun h=>?_)]
  ·exact I.fr j hj (fun h=>hD (.inl h)) x h2 h3
  ·rw[Ln,← n1]at h;exact hji (O.uniq hj hi h2 h3 h.1 h.2)
 ·rw[O.tempsAdd hn hi,show dstO ops i=o.dst from by simp[dstO,ho]]
  exact put_ok (I.tl.mono E'.mono) V' o.dst
 ·rw[← I.df];cases o.dst<;>rfl
theorem cnt_set:∀ {l:List Bool} {i:Nat},l[i]?=some false→(l.set i true).count false+1=l.count false
 | [],i,h=>by simp at h
 | b::l,0,h=>by simp at h;subst h;simp
 | b::l,i+1,h=>by
  have:=cnt_set (l:=l) (i:=i) (by simpa using h)
  simp only[List.set_cons_succ,List.count_cons];omega
theorem draw_go (O:SOk P G rec ops S) (fl0:(S.H 0).floor≤(S.H 0).next) {rr:Option Nat} {m0:NM} {w0:World} {ds:List Deferred} (M0:MT G m0 (S.H 0) w0) (F0:FreeN m0 (S.H 0).next (S.H ops.size).next) {Q:Exit→Act→World→Prop}
  (k:∀ m' w' a',EX m0 (S.H 0) w0 m' (S.H ops.size) w'→MT G m' (S.H ops.size) w'→LR m' (S.T ops.size) a'.tmps.toList→a'.defers=ds→Q .normal a' w') :
  ∀ (fuel:Nat) (L:Array Bool) (m:NM) (w:World) (a:Act),L.size=ops.size→L.toList.count false=fuel→(∀ i<ops.size,L.getD i false=true→∀ j,Anc ops i j→L.getD j false=true)→Inv G S m0 w0 ds (fun i=>L.getD i false=true) m w a→wpAnyIn (FenW rr) 0 P .any ops Q fuel L a w:=by
 have fin:∀ (L:Array Bool) (m:NM) (w:World) (a:Act),(∀ i<ops.size,L.getD i false=true)→Inv G S m0 w0 ds (fun i=>L.getD i false=true) m w a→Q .normal a w:=by
  intro L m w a hall I;obtain⟨hd,g1,g2,g3,g4,M,E⟩:=I.hd;have hfix:=O.fix (i:=ops.size) (Nat.le_refl _);have hget:∀ x,hd.get x=(S.H ops.size).get x:=by
   intro x
   by_cases hx:x<(S.H ops.size).next
   ·cases hh:inR (S.H 0).hid x with
    | true=>rw[AH.get_none (.inr (by rw[g4];exact hh)),AH.get_none (h:=S.H ops.size) (.inr (by rw[hfix.1];exact hh))]
    | false =>
     rw[AH.get_of (h:=hd) (by rw[g2];exact hx) (by rw[g4];exact hh),AH.get_of (h:=S.H ops.size) hx (by rw[hfix.1];exact hh),g1]
     exact O.cnAll hall (Nat.le_refl _) hx
   ·rw[AH.get_none (h:=hd) (.inl (by rw[g2];omega)),AH.get_none (h:=S.H ops.size) (.inl (by omega))]
  have hN0:=O.mono (i:=0) (j:=ops.size) (Nat.zero_le _) (Nat.le_refl _);refine k m w a ⟨E.mono,?_,E.newb,hN0,hfix.2,hfix.1,?_,?_,?_,E.os,E.tape,E.output,E.size,E.old⟩ ⟨M.lt,?_,?_,M.glob,fun n ob e=>(AH.get_parts e).1,?_⟩ ?_ I.df
  ·intro n hn;exact E.same n (by rw[g2];exact hn)
  ·intro n ob hlt e;exact E.live n ob hlt (by rw[hget];exact e)
  ·intro n hlt;have h0:=fl0;rw[← O.cnAll (D:=fun i=>L.getD i false=true) hall (Nat.le_refl _) (by omega),O.cnSame (by omega) (.inl hlt) (Nat.le_refl _)]
  ·intro n hlt hh;rw[← O.cnAll (D:=fun i=>L.getD i false=true) hall (Nat.le_refl _) (by omega),O.cnSame hlt (.inr hh) (Nat.le_refl _)]
  ·intro n1 n2 o1 o2 b r1 r2 e1 e2;exact M.inj n1 n2 o1 o2 b r1 r2 (by rw[hget];exact e1) (by rw[hget];exact e2)
  ·intro n ob e;exact M.obj n ob (by rw[hget];exact e)
  ·rw[hfix.2];have:=fl0;omega
  ·have:=I.tl;rw[O.tempsAll hall (Nat.le_refl _)]at this;exact this
 intro fuel
 induction fuel with
 | zero =>
  intro L m w a hs hc hd I;have hall:∀ i<ops.size,L.getD i false=true:=by
   intro i hi;have hne:false ∉ L.toList:=List.count_eq_zero.1 hc;have h1:L[i]?=some L[i]:=Array.getElem?_eq_getElem (by omega)
   have h2:L[i] ∈ L.toList:=by simp
   simp only[Array.getD_eq_getD_getElem?,h1,Option.getD_some]
   cases h3:L[i] with
   | true=>rfl
   | false=>rw[h3]at h2;exact absurd h2 hne
  refine⟨?_,fin L m w a hall I⟩;apply List.eq_nil_iff_forall_not_mem.2;intro i hi;obtain⟨h1,h2,_⟩:=anc_ready O.edg hd hi;have h3:=hall i h1;have h4:L[i]?=some L[i]:=Array.getElem?_eq_getElem (by omega)
  simp only[Array.getD_eq_getD_getElem?,h4,Option.getD_some]at h2 h3;rw[h2]at h3;cases h3
 | succ fuel ih =>
  intro L m w a hs hc hd I;refine⟨fun hr=>fin L m w a (ready_nil O.edg hs hr) I,fun i hir=>?_⟩
  obtain⟨hi,hLi,hanc⟩:=anc_ready O.edg hd hir;have h4:L[i]?=some L[i]:=Array.getElem?_eq_getElem (by omega)
  have hLf:L[i]?=some false:=by
   simp only[Array.getD_eq_getD_getElem?,h4,Option.getD_some]at hLi;rw[h4,hLi]
  have hn:¬ (L.getD i false=true):=by
   simp only[Array.getD_eq_getD_getElem?,hLf,Option.getD_some];simp
  have hset:∀ j,(L.setIfInBounds i true).getD j false=true↔(L.getD j false=true∨j=i):=by
   intro j;simp only[Array.getD_eq_getD_getElem?,Array.getElem?_setIfInBounds]
   by_cases e:i=j
   ·subst e;rw[if_pos rfl,if_pos (by omega)]
    simp
   ·rw[if_neg e];constructor
    ·exact .inl
    ·rintro(h|h)
     ·exact h
     ·exact absurd h.symm e
  have hset':(fun j=>(L.setIfInBounds i true).getD j false=true)=Add (fun j=>L.getD j false=true) i:=by
   funext j;exact propext (hset j)
  have go:∀ m' w' a',Inv G S m0 w0 ds (Add (fun j=>L.getD j false=true) i) m' w' a'→wpAnyIn (FenW rr) 0 P .any ops Q fuel (L.setIfInBounds i true) a' w':=by
   intro m' w' a' I';refine ih _ m' w' a' (by simpa using hs) ?_ ?_ (by rw[hset'];exact I')
   ·have:=cnt_set (l:=L.toList) (i:=i) (by rw[Array.getElem?_toList];exact hLf)
    rw[Array.toList_setIfInBounds];omega
   ·intro j hj hLj q hq;rw[hset]at hLj ⊢;rcases hLj with h|rfl
    ·exact .inl (hd j hj h q hq)
    ·exact .inl (hanc q hq)
  obtain⟨o,ho,hol,hstep,hcase⟩:=O.oper hi;have htm:∀ x ∈ tmpsOf o++guardT ops.toList o,nth (TD S (fun j=>L.getD j false=true) ops.size) x=nth (S.T i) x:=fun x hx=>O.temps hd hanc hn ho hx
  unfold wpOpIn;rw[ho];simp only;rw[wanted_ok (o:=o) I.tl,wantedA_congr (fun x hx=>htm x (List.mem_append_right _ hx))]
  rcases hcase with ⟨hk,hw,hv,hH,hX⟩|⟨kd,h1,hk,hw,hok,he,hH,hX⟩
  ·rw[hw];simp only[Bool.false_eq_true,if_false];exact⟨fun _ _=>trivial,go m w _ (I.skip O hi ho hn hk hv)⟩
  ·rw[hw];simp only[if_true];obtain⟨ML,hadd⟩:=I.add O fl0 M0 F0 hi ho hd hanc hn hk hH;rw[evAny_congr (t':=TD S (fun j=>L.getD j false=true) ops.size) (fun x hx=>(htm x (List.mem_append_left _ hx)).symm)]at he
   have n1:(S.H (i+1)).next=h1.next:=by rw[hH]
   exact(evAny_ok O.R0 he).2 rr m w a ML (by show FreeN m (S.H i).next h1.next;rw[← n1];exact I.fr i hi hn) I.tl _ Q (fun m' v' w' E' M' V'=>go m' w' _ (hadd E' M' V'))
end
theorem draw_ok {P:Program} {G:Nat} (hm:P.follows .mixedOrders=true) (rec:Ev) (R0:RecOk P G rec):DrawOk P G rec:=by
 intro ops t t' h h' hT e;rw[Bool.and_eq_true]at hT;obtain⟨S,s1,s2,s3,s4,s5,s6⟩:=draw_seq e;simp only[Nat.zero_add,Array.length_toList]at s4 s5 s6;have O:SOk P G rec ops S:=⟨R0,s6,s3,hT.1,hT.2⟩;subst s1 s2 s4 s5;have hfix:=O.fix (i:=ops.size) (Nat.le_refl _);refine⟨⟨O.mono (Nat.zero_le _) (Nat.le_refl _),hfix.2,hfix.1,fun n hn hk=>?_,fun n hn hd=>?_⟩,fun rr m w a id M F T Q k=>wpIn_region_any hm ?_⟩
 ·have:∀ k,k≤ops.size→(S.H k).t.get n=(S.H 0).t.get n:=by
   intro k
   induction k with
   | zero=>intro _;rfl
   | succ k ih =>
    intro hk';have hNk:=O.mono (i:=0) (j:=k) (Nat.zero_le _) (by omega)
    rw[(O.keep (i:=k) (by omega)).2.2.2.1 n (by omega) (fun hw=>?_),ih (by omega)]
    have hf:=O.fix (i:=k) (by omega)
    obtain⟨⟨ob,hob⟩,hfl⟩:=O.wr (by omega) hw
    rcases hk with h|h
    ·rw[hf.2]at hfl;omega
    ·have:=AH.get_hid hob;rw[hf.1,h]at this;cases this
  exact this _ (Nat.le_refl _)
 ·cases h:(S.H ops.size).t.get n with
  | none=>rfl
  | some ob =>
   obtain⟨o0,h0⟩:=O.seqLive hn (Nat.le_refl _) h;rw[hd]at h0;cases h0
 ·have M1:MT G m (S.H 0) {w with drawn:=w.drawn+1}:=⟨M.lt,M.inj,M.obj,M.glob,M.dom,M.fl⟩
  have E1:EX m (S.H 0) w m (S.H 0) {w with drawn:=w.drawn+1}:=by
   have:=EX.refl m (S.H 0) w;exact⟨this.mono,this.same,this.newb,this.next,this.floor,this.hid,this.live,this.low,this.hidt,rfl,rfl,rfl,Nat.le_refl _,fun _ _ _=>rfl⟩
  have hno:∀ i,i<ops.size→¬ ((Array.replicate ops.size false).getD i false=true):=by
   intro i hi;simp[Array.getD_eq_getD_getElem?,hi]
  have hcn:∀ x k,k≤ops.size→Cn S (fun i=>(Array.replicate ops.size false).getD i false=true) k x=if x<(S.H 0).next then (S.H 0).t.get x else none:=by
   intro x k
   induction k with
   | zero=>intro _;rfl
   | succ k ih=>intro hk;rw[Cn_no (fun h=>hno k (by omega) h.1),ih (by omega)]
  have htd:∀ k,k≤ops.size→TD S (fun i=>(Array.replicate ops.size false).getD i false=true) k=S.T 0:=by
   intro k
   induction k with
   | zero=>intro _;rfl
   | succ k ih=>intro hk;rw[TD_no (hno k (by omega)),ih (by omega)]
  have hN:=O.mono (i:=0) (j:=ops.size) (Nat.zero_le _) (Nat.le_refl _);obtain⟨T0,hT0⟩:=tr_ex O (fun i=>(Array.replicate ops.size false).getD i false=true) ops.size (Nat.le_refl _)
  have hT0':∀ x,T0.get x=if x<(S.H 0).next then (S.H 0).t.get x else none:=fun x=>(hT0 x).trans (hcn x _ (Nat.le_refl _))
  have hget:∀ x,(⟨T0,(S.H ops.size).next,(S.H 0).floor,(S.H 0).hid⟩:AH).get x=(S.H 0).get x:=by
   intro x
   by_cases hx:x<(S.H 0).next
   ·cases hh:inR (S.H 0).hid x with
    | true =>
     rw[AH.get_none (h:=S.H 0) (.inr hh)];exact AH.get_none (.inr hh)
    | false =>
     rw[AH.get_of (h:=⟨T0,(S.H ops.size).next,(S.H 0).floor,(S.H 0).hid⟩) (Nat.lt_of_lt_of_le hx hN) hh,AH.get_of (h:=S.H 0) hx hh]
     show T0.get x=_
     rw[hT0',if_pos hx]
   ·rw[AH.get_none (h:=S.H 0) (.inl (by omega))]
    cases hg:(⟨T0,(S.H ops.size).next,(S.H 0).floor,(S.H 0).hid⟩:AH).get x with
    | none=>rfl
    | some ob =>
     have:=(AH.get_parts hg).2.2;have this:T0.get x=some ob:=this;rw[hT0',if_neg hx]at this;cases this
  have hfl:=M.fl;refine draw_go O M.fl (m0:=m) (w0:=w) (ds:=a.defers) M F k ops.size (Array.replicate ops.size false) m _ a (by simp) (by simp[List.count_replicate]) (fun i hi h=>absurd h (hno i hi)) ⟨⟨⟨T0,(S.H ops.size).next,(S.H 0).floor,(S.H 0).hid⟩,hT0,rfl,rfl,rfl,⟨M1.lt,?_,?_,M1.glob,fun n ob e=>(AH.get_parts e).1,Nat.le_trans hfl hN⟩,⟨fun _ _ h=>h,fun _ _=>rfl,fun n b r e1 e2=>(by rw[e1]at e2;cases e2),hN,rfl,rfl,?_,?_,?_,rfl,rfl,rfl,Nat.le_refl _,fun _ _ _=>rfl⟩⟩,?_,?_,rfl⟩
  ·intro n1 n2 o1 o2 b r1 r2 e1 e2;rw[hget]at e1 e2;exact M1.inj n1 n2 o1 o2 b r1 r2 e1 e2
  ·intro n ob e1;rw[hget]at e1;exact M1.obj n ob e1
  ·intro n ob _ e1;rw[hget]at e1;exact⟨ob,e1⟩
  ·intro n hn
   show T0.get n=_
   rw[hT0',if_pos (by omega)]
  ·intro n hn _
   show T0.get n=_
   rw[hT0',if_pos hn]
  ·intro j hj _;exact F.le (O.mono (Nat.zero_le _) (by omega)) (O.mono hj (Nat.le_refl _))
  ·rw[htd _ (Nat.le_refl _)];exact T
theorem eng_calls {P:Program} {G n:Nat} {tr:Tr} {f:FuncId} {args:List Value} {args':Array Value} {v:Value} {h':AH} (hm:P.follows .mixedOrders=true) (e:evRun P G n tr f args=some (v,h')) {w:World} (m:NM)
  (M:MT G m ⟨tr,G,G,[]⟩ w) (F:∀ x,G≤x→m x=none) (A:LR m args args'.toList) {R:Ending→World→Prop} (k:∀ m' v' w',EX m ⟨tr,G,G,[]⟩ w m' h' w'→MT G m' h' w'→VR m' v v'→R (.returned v') w'):Calls P f args' w R :=
 callsIn_wide.1 ((evCall_ok (ev_ok (draw_ok hm) n).1 e).2.2 m w args' M (fun x h _=>F x h) A R k)
def gm (G:Nat):NM:=fun n=>if n<G then some (n,none) else none
theorem eng_true {P:Program} {G n:Nat} {tr:Tr} {f:FuncId} (hm:P.follows .mixedOrders=true) (e:isT (evRun P G n tr f [])=true) {w:World} (hG:G≤w.heap.size)
  (ho:∀ g o,g<G→tr.get g=some o→∃ o',w.heap[g]?=some o'∧OR (gm G) o none o'):Calls P f #[] w fun e w'=>e=.returned (.bool true)∧Below w.heap.size w w':=by
 cases hr:evRun P G n tr f [] with
 | none=>rw[hr]at e;cases e
 | some r =>
  obtain⟨v,h'⟩:=r;rw[hr]at e;have hv:v=.bool true:=by
   cases v with
   | bool b=>cases b<;>first|rfl|cases e
   | _=>cases e
  subst hv;have gmv:∀ {n b r},gm G n=some (b,r)→n<G∧b=n∧r=none:=by
   intro n b r h;unfold gm at h;split at h
   ·cases h;exact⟨by assumption,rfl,rfl⟩
   ·cases h
  refine eng_calls hm hr (gm G) ⟨fun n b r h=>?_,fun n1 n2 o1 o2 b r1 r2 _ _ h1 h2=>?_,fun n o h=>?_,fun g hg=>by unfold gm;rw[if_pos hg],fun n o h=>(AH.get_parts h).1,Nat.le_refl _⟩ (fun x hx=>by unfold gm;rw[if_neg (by omega)]) .nil (fun m' v' w' E M V=>⟨?_,E.os,E.tape,E.output,E.size,fun k hk=>E.old k hk (fun n o r hf hg _=>?_)⟩)
  ·obtain⟨h1,rfl,_⟩:=gmv h;omega
  ·obtain⟨_,h3,_⟩:=gmv h1;obtain⟨_,h4,_⟩:=gmv h2;rw[← h3,h4]
  ·obtain⟨p1,_,p3⟩:=AH.get_parts h;obtain⟨o',h1,h2⟩:=ho n o p1 p3;exact⟨n,none,o',by unfold gm;rw[if_pos p1],h1,h2⟩
  ·rw[V.bool_inv]
  ·have:=(AH.get_parts hg).1;have hf:G≤n:=hf;have this:n<G:=this;omega
theorem awake_run:isT (evRun Tryz.prog 0 1000 Tr.lf 8 [])=true:=by kernel_rfl
theorem law_awake13 (w:World):Calls Tryz.prog 8 #[] w fun e w'=>e=.returned (.bool true)∧Below w.heap.size w w' :=
 eng_true (by kernel_rfl) awake_run (Nat.zero_le _) (fun g o hg e=>by omega)
end
section
open Go.RowKit Go.Shelf
attribute [local go_sem] Oper.semAt_some
theorem law_ProgRights (pp:Option Addr) (cp:Nat) (ps:List InstD) (Fp:Nat→Prop) (w0:World) (hset:∀ x ∈ ps,SetOk x.set) (hFp:∀ b,Fp b→b<w0.heap.size) (hp:InstsR Fp pp cp ps w0) :
  Calls Tryz.prog 4 #[.slice pp ps.length cp] w0 fun e w'=>e=.returned (.bool true)∧Below w0.heap.size w0 w':=by
 clear hset;have hb1:=hp.bound;have H:=Hold.insts hFp hp;clear hp
 by_cases hn:4200<ps.length
 ·have d3:decide ((4200:Int)<(ps.length:Int))=true:=decide_eq_true (by omega)
  have d4:decide (4200<ps.length)=true:=decide_eq_true hn;clear hn
  go_enter Tryz.func4,Tryz.ntmps4
  go_wp2_with (first|(go_at_call 8;(with_reducible refine ch (law_awake13 _) H ?_);clear H;intro w H)|(first|((with_reducible refine gTi ?_);refine aTi H ?_;clear H;intro w H;try simp only[nr]at H)|((with_reducible refine gLi ?_);refine aLi H ?_)|((with_reducible refine gL ?_);refine aGi H ?_)|((with_reducible refine gBi ?_);refine ib1 ?_)|((with_reducible refine gBi ?_);refine ib2 ?_)|((with_reducible refine gBi ?_);refine ib3 ?_)|((with_reducible refine gBi ?_);refine ib4 ?_)|((with_reducible refine gBi ?_);refine ib5 ?_)|((with_reducible refine gBi ?_);refine ib6 ?_)|((with_reducible refine gBi ?_);refine ib7 ?_)|((with_reducible refine gBi ?_);refine ib0 ?_)|((with_reducible refine gT ?_);(first|((first|refine aS H ?_|refine aW H ?_|refine aO H ?_|refine aT H ?_);clear H;intro w H;try simp only[nr]at H)|(refine aN H ?_;clear H;intro w H;(try simp only[nr]at H);try simp only[setSeg,nrl]at H)))|((with_reducible refine gL ?_);(first|refine aV H ?_|refine aL H ?_|refine aVn H ?_|refine aGb H ?_|refine aG H ?_|refine aD H ?_))|((with_reducible refine gX ?_);((first|refine bS H ?_|refine bB H ?_);clear H;intro b w H;try simp only[nr]at H))|((with_reducible refine gA ?_);(refine bA H ?_;clear H;intro b w H;try simp only[nr]at H))|((with_reducible refine gZ ?_);refine nb0 ?_)|((with_reducible refine gZ ?_);refine nb1 ?_)|((with_reducible refine gZ ?_);refine nbS ?_)|((with_reducible refine gZ ?_);refine nbK ?_)|((with_reducible refine gZ ?_);refine nbG ?_)|((with_reducible refine gZ ?_);refine nbR ?_)|((with_reducible refine gZ ?_);refine nbA ?_)|((with_reducible refine gZ ?_);refine fb3 ?_)|((with_reducible refine gES ?_);refine qS ?_)|((with_reducible refine gNS ?_);refine qN ?_)|((with_reducible refine gZ ?_);refine aZ ?_)|((with_reducible refine gI ?_);refine aI ?_)|((with_reducible refine gC ?_);refine aC ?_)|((with_reducible refine gF ?_);refine aF ?_)|((with_reducible refine gU ?_);refine aU ?_)|((with_reducible refine gE ?_);refine aE ?_)|((with_reducible refine gQ ?_);refine aQ ?_)))
  go_ret;exact⟨rfl,H.below⟩
 have d3:decide ((4200:Int)<(ps.length:Int))=false:=decide_eq_false (by omega)
 have d4:decide (4200<ps.length)=false:=decide_eq_false hn;have hn2:ps.length≤5000:=by omega
 have hli:=fun w h1 h2=>kit_LentInsts pp cp ps Fp w hn2 h1 h2
 have hki:=fun g cap w h1 h2 h3 h4=>kit_KeptInsts pp cp ps g cap Fp (·=g) w hn2 h1 h2 h3 h4
 have hpr:=fun q c F w h1 h2=>pg_Right q c ps F w h1 h2
 have hps:=fun q c F w h1 h2=>pg_Slots q c ps F w h1 h2
 have hrr:=fun w h1 h2=>ref_Right13 pp cp ps Fp w h1 h2
 have hrs:=fun w h1 h2=>ref_Slots13 pp cp ps Fp w h1 h2
 clear hn;obtain⟨rb,hrb⟩:∃ b,rightP ps=b:=⟨_,rfl⟩;obtain⟨sn,hsn⟩:∃ n,slotsI ps=n:=⟨_,rfl⟩;rw[hrb]at hpr hrr;rw[hsn]at hps hrs;clear hrb hsn
 go_enter Tryz.func4,Tryz.ntmps4
 go_wp2_with (first|(go_at_call 14;refine chLI (hli _ (H.knlt (i:=0) .zero) (H.kn (i:=0) .zero)) H ?_;clear H;intro g1 n1 w H;simp only[List.cons_append,List.nil_append]at H)|(go_at_call 15;refine ch (hpr _ _ _ _ (H.knlt (i:=1) i_1) (InstsR.pre (H.kn (i:=1) i_1))) H ?_;clear H;intro w H)|(go_at_call 17;refine ch (hps _ _ _ _ (H.knlt (i:=1) i_1) (InstsR.pre (H.kn (i:=1) i_1))) H ?_;clear H;intro w H)|(go_at_call 16;refine ch (hrr _ (H.knlt (i:=0) .zero) (H.kn (i:=0) .zero)) H ?_;clear H;intro w H)|(go_at_call 18;refine ch (hrs _ (H.knlt (i:=0) .zero) (H.kn (i:=0) .zero)) H ?_;clear H;intro w H)|(go_at_call 19;refine ch (hki _ _ _ (H.knlt (i:=0) .zero) (H.knlt (i:=1) i_1) (H.kn (i:=0) .zero) (H.kn (i:=1) i_1)) H ?_;clear H;intro w H)|(go_at_call 8;(with_reducible refine ch (law_awake13 _) H ?_);clear H;intro w H)|(first|((with_reducible refine gTi ?_);refine aTi H ?_;clear H;intro w H;try simp only[nr]at H)|((with_reducible refine gLi ?_);refine aLi H ?_)|((with_reducible refine gL ?_);refine aGi H ?_)|((with_reducible refine gBi ?_);refine ib1 ?_)|((with_reducible refine gBi ?_);refine ib2 ?_)|((with_reducible refine gBi ?_);refine ib3 ?_)|((with_reducible refine gBi ?_);refine ib4 ?_)|((with_reducible refine gBi ?_);refine ib5 ?_)|((with_reducible refine gBi ?_);refine ib6 ?_)|((with_reducible refine gBi ?_);refine ib7 ?_)|((with_reducible refine gBi ?_);refine ib0 ?_)|((with_reducible refine gT ?_);(first|((first|refine aS H ?_|refine aW H ?_|refine aO H ?_|refine aT H ?_);clear H;intro w H;try simp only[nr]at H)|(refine aN H ?_;clear H;intro w H;(try simp only[nr]at H);try simp only[setSeg,nrl]at H)))|((with_reducible refine gL ?_);(first|refine aV H ?_|refine aL H ?_|refine aVn H ?_|refine aGb H ?_|refine aG H ?_|refine aD H ?_))|((with_reducible refine gX ?_);((first|refine bS H ?_|refine bB H ?_);clear H;intro b w H;try simp only[nr]at H))|((with_reducible refine gA ?_);(refine bA H ?_;clear H;intro b w H;try simp only[nr]at H))|((with_reducible refine gZ ?_);refine nb0 ?_)|((with_reducible refine gZ ?_);refine nb1 ?_)|((with_reducible refine gZ ?_);refine nbS ?_)|((with_reducible refine gZ ?_);refine nbK ?_)|((with_reducible refine gZ ?_);refine nbG ?_)|((with_reducible refine gZ ?_);refine nbR ?_)|((with_reducible refine gZ ?_);refine nbA ?_)|((with_reducible refine gZ ?_);refine fb3 ?_)|((with_reducible refine gES ?_);refine qS ?_)|((with_reducible refine gNS ?_);refine qN ?_)|((with_reducible refine gZ ?_);refine aZ ?_)|((with_reducible refine gI ?_);refine aI ?_)|((with_reducible refine gC ?_);refine aC ?_)|((with_reducible refine gF ?_);refine aF ?_)|((with_reducible refine gU ?_);refine aU ?_)|((with_reducible refine gE ?_);refine aE ?_)|((with_reducible refine gQ ?_);refine aQ ?_)))
 go_ret;exact⟨rfl,H.below⟩
end
end Go.Proofs.YtdpcemijdmbpiaaGreat
