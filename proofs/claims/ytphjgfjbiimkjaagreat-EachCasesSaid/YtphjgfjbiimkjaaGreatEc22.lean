/-
  Laws of walks, and walks.
-/
import Derived.Test.YtphjgfjbiimkjaaGreatEc21
import Derived.RangeFuncRecord
import Derived.RangeFuncNested
import Derived.RecoverIn
import Derived.TacticsIn
import Derived.LoopNIn
set_option linter.unusedVariables false
set_option linter.unusedSimpArgs false
set_option maxRecDepth 100000
set_option maxHeartbeats 16000000
namespace Go.Proofs.YtphjgfjbiimkjaaGreat
section
open Go.RowKit
section
variable {P:Program} {G:Nat} {O:Orc} {o:Oper} {t:List Value} {h h':AH} {v:Value}
theorem zKo {T:TypeId} {n:Nat} (h:zBi P T=some n):∃ i,P.info? T=some i/\i.size=n:=Option.map_eq_some_iff.1 h
theorem zOc {T:TypeId} (ho:o.op=.alloc T) (e:evOp P G O t h o.type (.alloc T)=some (v,h')):OpD P G O o t h v h':=by
 simp only[evOp]at e;split at e
 ·cases e
 ·split at e
  ·cases e
  ·rw[zAJ]at e;obtain⟨e1,e2⟩:=e
   cases e2
   exact zN1 ho (by assumption) (by assumption) e1
theorem zN7 {T:TypeId} {ps:Array (Nat × Operand)} (ho:o.op=.build T ps) (e:evOp P G O t h o.type (.build T ps)=some (v,h')):OpD P G O o t h v h':=by
 simp only[evOp]at e;split at e
 ·cases e
 ·rename_i l hl;split at e
  ·cases e
  ·rename_i i hi;split at e
   ·cases e
   ·rename_i z hz;rw[zAJ]at e;obtain⟨e1,e⟩:=e;split at e
    ·rename_i fields hu;split at e
     ·rename_i c hc;rw[zAJ]at e;obtain⟨e2,e3⟩:=e
      cases e3
      exact zKP ho hl (fun m l' hl'=>zIL hi hz e1 hu hc e2 hl')
     ·cases e
    ·rename_i n el hu;split at e
     ·cases e
     ·rename_i n' hn;obtain⟨ie,hie,rfl⟩:=zKo hn;split at e
      ·rename_i c hc
       cases e
       exact zKP ho hl (fun m l' hl'=>zIw hi hz e1 hu hie hc hl')
      ·cases e
    ·cases e
theorem zHm {T:TypeId} {n:Nat} {ps:Array (Nat × Operand)} (ho:o.op=.buildSlice T n ps) (e:evOp P G O t h o.type (.buildSlice T n ps)=some (v,h')):OpD P G O o t h v h':=by
 simp only[evOp]at e;split at e
 ·cases e
 ·rename_i l hl;split at e
  ·rename_i el hu;split at e
   ·cases e
   ·rename_i i hi;split at e
    ·cases e
    ·rename_i z hz;rw[zAJ]at e;simp only[Bool.and_eq_true,Nat.beq_eq,Nat.ble_eq]at e;obtain⟨⟨⟨⟨e1,e2⟩,e3⟩,e4⟩,e⟩:=e;split at e
     ·rename_i c hc
      cases e
      exact zHk ho hl hu hi hz e1 e2 e3 e4 hc
     ·cases e
  ·cases e
theorem zPQ {T:TypeId} {x:Operand} (ho:o.op=.load T x) (e:evOp P G O t h o.type (.load T x)=some (v,h')):OpD P G O o t h v h':=by
 simp only[evOp]at e;split at e
 ·rename_i b off hx;split at e
  ·cases e
   exact zPU ho hx (by assumption)
  ·cases e
 ·cases e
theorem zOH {T:TypeId} {x y:Operand} (ho:o.op=.store T x y) (e:evOp P G O t h o.type (.store T x y)=some (v,h')):OpD P G O o t h v h':=by
 simp only[evOp]at e;split at e
 ·rename_i b off u hx hy;split at e
  ·cases e
  ·rename_i n hn;rw[zAJ,Nat.beq_eq]at e;obtain⟨rfl,e⟩:=e;split at e
   ·cases e
    exact zNf ho hx hy hn (by assumption)
   ·cases e
 ·cases e
theorem zJT {x:Operand} (ho:o.op=.nilCheck x) (e:evOp P G O t h o.type (.nilCheck x)=some (v,h')):OpD P G O o t h v h':=by
 simp only[evOp]at e;split at e
 ·rename_i a hx;obtain⟨b,off,sp⟩:=a
  cases sp with
  | none=>cases e;exact zEF ho hx rfl
  | some s =>
   cases e
   refine⟨Keep.refl _,?_⟩
   intro m w a M F T';have:=zAS M T' hx
   cases this
 ·rename_i f a b hx
  cases e;exact zEF ho hx rfl
 ·rename_i a hx
  cases e;exact zEF ho hx rfl
 ·cases e
theorem zOJ {op:BinOp} {T U:TypeId} {x y:Operand} (ho:o.op=.binOp op T x y U) (e:evOp P G O t h o.type (.binOp op T x y U)=some (v,h')):OpD P G O o t h v h':=by
 simp only[evOp]at e;split at e
 ·rename_i a b hx hy
  cases hc:plain a&&plain b with
  | true =>
   rw[hc]at e;simp only[cond_true]at e;rw[Bool.and_eq_true]at hc;split at e
   ·rename_i u hu;rw[zAJ]at e;obtain⟨e1,e2⟩:=e
    cases e2
    exact zO6 ho hx hy hc.1 hc.2 hu e1
   ·cases e
  | false =>
   rw[hc]at e;simp only[cond_false]at e;split at e
   ·rename_i d r hd hr;rw[zAJ,Bool.and_eq_true]at e;obtain⟨⟨e1,e2⟩,e⟩:=e;split at e
    ·cases e;exact zMF ho hx hy hd hr e1 e2 (.inl ⟨rfl,rfl⟩)
    ·cases e;exact zMF ho hx hy hd hr e1 e2 (.inr ⟨rfl,rfl⟩)
    ·cases e
   ·cases e
 ·cases e
theorem zPc {op:UnOp} {T:TypeId} {x:Operand} (ho:o.op=.unOp op T x) (e:evOp P G O t h o.type (.unOp op T x)=some (v,h')):OpD P G O o t h v h':=by
 simp only[evOp]at e;split at e
 ·rename_i a hx;rw[zAJ]at e;obtain⟨e1,e⟩:=e;split at e
  ·rw[zAJ]at e;obtain⟨e2,e3⟩:=e
   cases e3
   exact zQh ho hx e1 (by assumption) e2
  ·cases e
 ·cases e
theorem zKb {S D:TypeId} {x:Operand} (ho:o.op=.convert S D x) (e:evOp P G O t h o.type (.convert S D x)=some (v,h')):OpD P G O o t h v h':=by
 simp only[evOp]at e;split at e
 ·rename_i b off n c hx;split at e
  ·rename_i e1 e2 hs hd;split at e
   ·rename_i he;rw[zAJ,Nat.beq_eq]at e;obtain⟨rfl,e⟩:=e;split at e
    ·rename_i cs U hg;rw[zAJ,Nat.ble_eq]at e;obtain⟨hf,e⟩:=e
     cases e
     exact zOP ho hx hd he hg hf
    ·cases e
   ·cases e
  ·rename_i e1 hs hd;split at e
   ·rename_i he;split at e
    ·cases e
    ·rename_i l hl;split at e
     ·cases e
      exact zIt ho hx hs hd he hl (by assumption)
     ·cases e
   ·cases e
  ·cases e
 ·rename_i a hx;rw[zAJ]at e;obtain⟨e1,e⟩:=e;split at e
  ·rw[zAJ]at e;obtain⟨e2,e3⟩:=e
   cases e3
   exact zOz ho hx e1 (by assumption) e2
  ·cases e
 ·cases e
theorem zFO {T:TypeId} {x:Operand} (ho:o.op=.makeInterface T x) (e:evOp P G O t h o.type (.makeInterface T x)=some (v,h')):OpD P G O o t h v h':=by
 simp only[evOp]at e;split at e
 ·cases e
 ·rename_i u d hne hx hd
  cases e
  exact zOg ho hx hd (fun ms e=>hne ms e)
 ·cases e
theorem zI6 {f:Fn} {a b:Array Operand} (ho:o.op=.makeFunc f a b) (e:evOp P G O t h o.type (.makeFunc f a b)=some (v,h')):OpD P G O o t h v h':=by
 cases f<;>simp only[evOp]at e<;>try (cases e;done)
 split at e
 ·cases e
  exact zMN ho (by assumption) (by assumption)
 ·cases e
theorem zKr {T:TypeId} {r:Option Operand} (ho:o.op=.makeMap T r) (e:evOp P G O t h o.type (.makeMap T r)=some (v,h')):OpD P G O o t h v h':=by
 cases r<;>simp only[evOp]at e<;>try (cases e;done)
 cases e
 exact zLC ho
theorem zIi {T:TypeId} {x y:Operand} (ho:o.op=.makeSlice T x y) (e:evOp P G O t h o.type (.makeSlice T x y)=some (v,h')):OpD P G O o t h v h':=by
 simp only[evOp]at e;split at e
 ·rename_i a b hx hy;split at e
  ·rename_i el hu;split at e
   ·cases e
   ·rename_i i hi;split at e
    ·cases e
    ·rename_i z hz;rw[zAJ]at e;simp only[Bool.and_eq_true,Nat.beq_eq,Nat.ble_eq,decide_eq_true_eq]at e;obtain⟨⟨⟨⟨⟨⟨⟨e1,e2⟩,e3⟩,e4⟩,e5⟩,e6⟩,e7⟩,e⟩:=e;subst e4
     cases e
     exact zIa ho hx hy e5 hu hi hz e1 e2 e3 e6 e7
  ·cases e
 ·cases e
theorem zOL {T:TypeId} {x:Operand} {lo hi mx:Option Operand} (ho:o.op=.slice T x lo hi mx) (e:evOp P G O t h o.type (.slice T x lo hi mx)=some (v,h')):OpD P G O o t h v h':=by
 cases mx<;>simp only[evOp]at e<;>try (cases e;done)
 split at e
 ·rename_i u k l hx hl;split at e
  ·rename_i k' r hr;rw[zAJ]at e;simp only[Bool.and_eq_true,decide_eq_true_eq]at e;obtain⟨⟨h0,h1⟩,e⟩:=e;split at e
   ·rename_i q;split at e
    ·rename_i hu;rw[zAJ,Nat.ble_eq]at e;obtain⟨h2,e⟩:=e
     cases e
     exact zMK ho hx hl hr h0 h1 hu h2
    ·cases e
   ·split at e
    ·rename_i el hu;split at e
     ·rename_i sz hs;rw[zAJ,Nat.beq_eq]at e;obtain⟨h2,e⟩:=e
      cases e
      exact zLc ho hx hl hr h0 h1 hu hs h2
     ·cases e
    ·cases e
   ·rename_i b off n c;split at e
    ·rename_i el hu;split at e
     ·cases e
     ·rename_i sz hs;split at e
      ·rename_i cs U fr hg;rw[zAJ,Nat.ble_eq]at e;obtain⟨h2,e⟩:=e
       cases e
       exact zNB ho hx hl hr h0 h1 hu hs hg h2
      ·rename_i cs U sz' hg;rw[zAJ]at e;simp only[Bool.and_eq_true,Nat.beq_eq,Nat.ble_eq,Nat.blt_eq]at e;obtain⟨⟨⟨rfl,h2⟩,h3⟩,e⟩:=e
       cases e
       exact zM2 ho hx hl hr h0 h1 hu hs hg h2 h3
      ·cases e
    ·cases e
   ·cases e
  ·cases e
 ·cases e
theorem zIX {S:TypeId} {x:Operand} {f:Nat} (ho:o.op=.fieldAddr S x f) (e:evOp P G O t h o.type (.fieldAddr S x f)=some (v,h')):OpD P G O o t h v h':=by
 simp only[evOp]at e;split at e
 ·rename_i b off hx;split at e
  ·rename_i fields hu;split at e
   ·rename_i fd hf;split at e
    ·cases e
     exact zIK ho hx hu hf (by assumption)
    ·cases e
   ·cases e
  ·cases e
 ·cases e
theorem zNd {T:TypeId} {x:Operand} {f:Nat} (ho:o.op=.field T x f) (e:evOp P G O t h o.type (.field T x f)=some (v,h')):OpD P G O o t h v h':=by
 simp only[evOp]at e;split at e
 ·rename_i cs hx;split at e
  ·rename_i fields hu;split at e
   ·rename_i fd hf;split at e
    ·cases e
     exact zOR ho hx hu hf (by assumption)
    ·cases e
   ·cases e
  ·cases e
 ·cases e
theorem zH9 {T:TypeId} {x y:Operand} (ho:o.op=.indexAddr T x y) (e:evOp P G O t h o.type (.indexAddr T x y)=some (v,h')):OpD P G O o t h v h':=by
 simp only[evOp]at e;split at e
 ·rename_i u k i hx hy;rw[zAJ,decide_eq_true_eq]at e;obtain⟨h0,e⟩:=e;split at e
  ·rename_i n el b off hu;split at e
   ·rename_i sz hs;rw[zAJ,Nat.blt_eq]at e;obtain⟨h1,e⟩:=e
    cases e
    exact zL6 ho hx hy h0 hu hs h1
   ·cases e
  ·rename_i el b off n c hu;split at e
   ·rename_i sz hs;rw[zAJ,Nat.blt_eq]at e;obtain⟨h1,e⟩:=e
    cases e
    exact zLb ho hx hy h0 hu hs h1
   ·cases e
  ·cases e
 ·cases e
theorem zNk {T:TypeId} {x y:Operand} (ho:o.op=.index T x y) (e:evOp P G O t h o.type (.index T x y)=some (v,h')):OpD P G O o t h v h':=by
 simp only[evOp]at e;split at e
 ·rename_i u k i hx hy;rw[zAJ,decide_eq_true_eq]at e;obtain⟨h0,e⟩:=e;split at e
  ·rename_i n el cs hu;split at e
   ·rename_i sz hs;rw[zAJ,Nat.blt_eq]at e;obtain⟨h1,e⟩:=e;split at e
    ·cases e
     exact zLs ho hx hy h0 hu hs h1 (by assumption)
    ·cases e
   ·cases e
  ·rename_i q hu;split at e
   ·cases e
    exact zLT ho hx hy h0 hu (by assumption)
   ·cases e
  ·cases e
 ·cases e
theorem zL0 {T:TypeId} {x y:Operand} {ok:Bool} (ho:o.op=.lookup T x y ok) (e:evOp P G O t h o.type (.lookup T x y ok)=some (v,h')):OpD P G O o t h v h':=by
 simp only[evOp]at e;split at e
 ·rename_i u k hx hy;split at e
  ·rename_i kt el hu;split at e
   ·rename_i d es hd hm;rw[zAJ,Bool.and_eq_true]at e;obtain⟨⟨e1,e2⟩,e⟩:=e;split at e
    ·rename_i j u' hf
     cases e
     exact zIY ho hx hy hu hd hm e1 e2 hf (.inl ⟨j,rfl⟩)
    ·rename_i hf;split at e
     ·rename_i z hz;rw[zAJ]at e;obtain⟨e3,e⟩:=e
      cases e
      exact zIY ho hx hy hu hd hm e1 e2 hf (.inr ⟨rfl,hz,e3⟩)
     ·cases e
    ·cases e
   ·cases e
  ·cases e
 ·cases e
theorem zIc {T:TypeId} {x y z:Operand} {op:Op} (hop:op=.insert T x y z\/op=.mapUpdate T x y z) (ho:o.op=op) (e:evOp P G O t h o.type op=some (v,h')):OpD P G O o t h v h':=by
 have e':evOp P G O t h o.type (.insert T x y z)=some (v,h'):=by
  rcases hop with rfl|rfl
  ·exact e
  ·simpa only[evOp] using e
 clear e;simp only[evOp]at e';split at e'
 ·rename_i b k u hx hy hz;split at e'
  ·rename_i kt el hu;split at e'
   ·rename_i d es cl hd hg;rw[zAJ]at e';simp only[Bool.and_eq_true,Nat.ble_eq]at e';obtain⟨⟨⟨e1,e2⟩,e3⟩,e⟩:=e';split at e
    ·rename_i hf
     cases e
     exact zLz (by rw[ho];exact hop) hx hy hz hu hd hg e1 e3 e2 hf
    ·cases e
   ·cases e'
  ·cases e'
 ·cases e'
theorem zHw {S A:TypeId} {x:Operand} {ok:Bool} (ho:o.op=.typeAssert x S A ok) (e:evOp P G O t h o.type (.typeAssert x S A ok)=some (v,h')):OpD P G O o t h v h':=by
 simp only[evOp]at e;split at e
 ·cases e
 ·rename_i T u d hne hx hd;rw[zAJ,Nat.beq_eq]at e;obtain⟨rfl,e⟩:=e
  cases e
  exact zMv ho hx hd (fun ms e=>hne ms e)
 ·cases e
theorem zK1 {x:Operand} {i:Nat} (ho:o.op=.extract x i) (e:evOp P G O t h o.type (.extract x i)=some (v,h')):OpD P G O o t h v h':=by
 simp only[evOp]at e;split at e
 ·rename_i vs hx;split at e
  ·cases e
   exact zKv ho hx (by assumption)
  ·cases e
 ·cases e
theorem zPz {xs:Array Operand} {ts:Array TypeId} (ho:o.op=.call {callee:=.builtin .len,args:=xs,argTypes:=ts}) (e:evOp P G O t h o.type (.call {callee:=.builtin .len,args:=xs,argTypes:=ts})=some (v,h')):OpD P G O o t h v h':=by
 simp only[evOp]at e;split at e
 ·rename_i T tr x xr ht hx;split at e
  ·rename_i q hu hq
   cases e;exact zGB ho ht hx hq hu (.inl ⟨rfl,q,rfl,rfl⟩)
  ·rename_i el b n c hu hq
   cases e;exact zGB ho ht hx hq hu (.inr (.inl ⟨_,rfl,_,_,rfl⟩))
  ·rename_i n el u hu hq
   cases e;exact zGB ho ht hx hq hu (.inr (.inr (.inl ⟨_,rfl⟩)))
  ·rename_i hu hq
   cases e;exact zGB ho ht hx hq hu (.inr (.inr (.inr ⟨_,_,rfl,.inl ⟨rfl,rfl⟩⟩)))
  ·rename_i k el b hu hq;split at e
   ·rename_i es cl hg
    cases e;exact zGB ho ht hx hq hu (.inr (.inr (.inr ⟨_,_,rfl,.inr ⟨b,es,cl,rfl,hg,rfl⟩⟩)))
   ·cases e
  ·cases e
 ·cases e
theorem zMf {xs:Array Operand} {ts:Array TypeId} (ho:o.op=.call {callee:=.builtin .append,args:=xs,argTypes:=ts}) (e:evOp P G O t h o.type (.call {callee:=.builtin .append,args:=xs,argTypes:=ts})=some (v,h')):OpD P G O o t h v h':=by
 simp only[evOp]at e;split at e
 ·rename_i T U x y ht hx;split at e
  ·rename_i base n c src el ex ey hu;split at e
   ·cases e
   ·rename_i i hi;split at e
    ·cases e
    ·rename_i z hz;rw[zAJ]at e;simp only[Bool.and_eq_true,Nat.beq_eq,Nat.ble_eq]at e;obtain⟨⟨⟨⟨rfl,e1⟩,e2⟩,e3⟩,e⟩:=e;split at e
     ·cases e
     ·rename_i new hnew
      cases hl:Nat.beq new.length 0 with
      | true =>
       rw[hl,cond_true,zAJ]at e;obtain⟨e4,e⟩:=e
       cases e
       rw[Nat.beq_eq,List.length_eq_zero_iff]at hl;subst hl;refine zK9 ho ht hx ex ey hu hi e3 hnew ?_
       split at e4
       ·rw[Nat.beq_eq]at e4;exact .inl ⟨rfl,e4⟩
       ·rename_i b off;refine .inr ⟨b,off,rfl,?_⟩
        split at e4
        ·rename_i p q r hg;exact .inl ⟨_,_,_,hg⟩
        ·rename_i p q r hg;exact .inr ⟨⟨_,_,_,hg⟩,by simpa using e4⟩
        ·cases e4
       ·cases e4
      | false =>
       rw[hl,cond_false,zAJ]at e;simp only[Bool.and_eq_true,Nat.ble_eq]at e;obtain⟨⟨⟨e4,e5⟩,e6⟩,e⟩:=e;have hne:new.length≠0:=by intro h;rw[h]at hl;cases hl
       split at e
       ·rw[zAJ,Nat.beq_eq]at e;obtain⟨rfl,e⟩:=e
        cases e
        exact zKa ho ht hx ex ey hu hi hz e2 e3 hnew hne e4 (by simpa using e5) (by simpa using e6)
       ·rename_i b;split at e
        ·rename_i cs e' sz hg;rw[zAJ]at e;simp only[Bool.and_eq_true,Nat.beq_eq,Nat.ble_eq]at e;obtain⟨⟨⟨⟨rfl,rfl⟩,e9⟩,e10⟩,e⟩:=e
         cases e
         exact zK7 ho ht hx ex ey hu hi hz e2 e3 hnew hne e4 e5 e6 hg e9 e10
        ·rename_i cs e' fr hg;rw[zAJ]at e;simp only[Bool.and_eq_true,Nat.beq_eq]at e;obtain⟨⟨⟨rfl,rfl⟩,e9⟩,e⟩:=e
         cases e
         exact zKs ho ht hx ex ey hu hi hz e2 e3 hnew hne e4 e5 e6 hg e9
        ·cases e
       ·cases e
  ·cases e
 ·cases e
theorem zOs {b:Builtin} (hb:b=.max\/b=.min) {xs:Array Operand} {ts:Array TypeId} (ho:o.op=.call {callee:=.builtin b,args:=xs,argTypes:=ts}) (e:evOp P G O t h o.type (.call {callee:=.builtin b,args:=xs,argTypes:=ts})=some (v,h')):OpD P G O o t h v h':=by
 rcases hb with rfl|rfl
 all_goals
  simp only[evOp]at e;split at e
  ·rename_i l hl;rw[zAJ]at e;obtain⟨e1,e⟩:=e;split at e
   ·rw[zAJ]at e;obtain⟨e2,e3⟩:=e
    cases e3
    exact zMl ho (fun _ _=>rfl) hl e1 (by assumption) e2
   ·cases e
  ·cases e
theorem zNZ {w:World} {ts:Array TypeId} {xs:Array Value} {ty T e:TypeId} {b b2:Option Addr} {n k c c2 sz:Nat} (ht:ts[0]?=some T) (h0:xs[0]?=some (.slice b n c)) (h1:xs[1]?=some (.slice b2 k c2)) (hu:P.underlying T=some (.slice e)) (hs:zBi P e=some sz) (hm:Nat.min k n=0) :
  (Builtin.copy_ ts ty xs).run P w=.ok (.int .i64 0) w:=by
 unfold Builtin.copy_;have h2:(Builtin.firstCells sz 0 (.slice b2 k c2)).run P w=.ok #[] w:=by
  cases b2<;>simp[Builtin.firstCells,loadCells,loadCellsFrom]
 obtain⟨i,hi,hin⟩:∃ i,P.info? e=some i/\i.size=sz:=by
  unfold zBi at hs
  cases hi:P.info? e with
  | none=>rw[hi]at hs;cases hs
  | some i=>rw[hi]at hs;cases hs;exact⟨i,rfl,rfl⟩
 cases b<;>simp[ht,h0,h1,Sem.run_bind,run_underlying hu,Builtin.lenOf,hm,sizeOf,typeInfo,hi,hin,h2,goInt,storeCells]
theorem zPl {xs:Array Operand} {ts:Array TypeId} (ho:o.op=.call {callee:=.builtin .copy,args:=xs,argTypes:=ts}) (e:evOp P G O t h o.type (.call {callee:=.builtin .copy,args:=xs,argTypes:=ts})=some (v,h')):OpD P G O o t h v h':=by
 simp only[evOp]at e;split at e
 ·rename_i T tr x y ht hx;split at e
  ·rename_i b n c b2 k c2 el ex ey hu;split at e
   ·rename_i sz hs;rw[zAJ,Nat.beq_eq]at e;obtain⟨hm,e⟩:=e
    cases e
    refine .same fun m w a M T'=>?_
    have h1:=zAS M T' ex;have h2:=zAS M T' ey;have hx0:xs[0]?=some x:=zFd hx;have hx1:xs[1]?=some y:=by rw[← Array.getElem?_toList,hx];rfl
    have k1:∃ b' c',a.eval x=.slice b' n c':=by
     generalize a.eval x=q at h1
     cases h1<;>exact⟨_,_,rfl⟩
    have k2:∃ b' c',a.eval y=.slice b' k c':=by
     generalize a.eval y=q at h2
     cases h2<;>exact⟨_,_,rfl⟩
    obtain⟨b',c',e1⟩:=k1;obtain⟨b2',c2',e2⟩:=k2;exact⟨_,zDK ho rfl (zNZ (zFd ht) (by rw[Array.getElem?_map,hx0,Option.map_some,e1]) (by rw[Array.getElem?_map,hx1,Option.map_some,e2]) hu hs hm),.int _ _⟩
   ·cases e
  ·cases e
 ·cases e
theorem zJC (e:evOp P G O t h o.type o.op=some (v,h')):OpD P G O o t h v h':=by
 obtain⟨op,ho⟩:∃ op,o.op=op:=⟨_,rfl⟩;rw[ho]at e
 cases op with
 | move x =>
  simp only[evOp]at e;split at e
  ·cases e;exact zMS (.inl ho) (by assumption)
  ·cases e
 | assign x =>
  simp only[evOp]at e;split at e
  ·cases e;exact zMS (.inr ho) (by assumption)
  ·cases e
 | pick c a b =>
  simp only[evOp]at e;split at e
  ·split at e
   ·cases e;exact zL3 (b:=true) ho (by assumption) (by assumption)
   ·cases e
  ·split at e
   ·cases e;exact zL3 (b:=false) ho (by assumption) (by assumption)
   ·cases e
  ·cases e
 | alloc T=>exact zOc ho e
 | box T x =>
  simp only[evOp]at e;split at e
  ·cases e
  ·cases e;exact zQV ho (by assumption)
 | build T ps=>exact zN7 ho e
 | buildSlice T n ps=>exact zHm ho e
 | load T x=>exact zPQ ho e
 | store T x y=>exact zOH ho e
 | nilCheck x=>exact zJT ho e
 | binOp op T x y U=>exact zOJ ho e
 | unOp op T x=>exact zPc ho e
 | convert S D x=>exact zKb ho e
 | makeInterface T x=>exact zFO ho e
 | makeFunc f a b=>exact zI6 ho e
 | makeMap T r=>exact zKr ho e
 | makeSlice T x y=>exact zIi ho e
 | slice T x lo hi mx=>exact zOL ho e
 | fieldAddr S x f=>exact zIX ho e
 | field T x f=>exact zNd ho e
 | indexAddr T x y=>exact zH9 ho e
 | index T x y=>exact zNk ho e
 | lookup T x y ok=>exact zL0 ho e
 | insert T x y z=>exact zIc (.inl rfl) ho e
 | mapUpdate T x y z=>exact zIc (.inr rfl) ho e
 | typeAssert x S A ok=>exact zHw ho e
 | extract x i=>exact zK1 ho e
 | call c =>
  obtain⟨cal,xs,ts⟩:=c
  cases cal with
  | builtin b =>
   cases b with
   | len=>exact zPz ho e
   | copy=>exact zPl ho e
   | append=>exact zMf ho e
   | max=>exact zOs (.inl rfl) ho e
   | min=>exact zOs (.inr rfl) ho e
   | _=>simp[evOp]at e
  | _=>simp[evOp]at e
 | _=>simp[evOp]at e
end
def FenW (r:Option Nat):Fence:={Fence.wide with round:=r}
def RdR (m:NM):Option Nat->Option Nat->Prop
 | none,none=>True
 | some l,some l'=>m l=some (l',none)
 | _,_=>False
inductive DR (m:NM):List Deferred->List Deferred->Prop
 | nil:DR m [] []
 | mark {r r':Nat} {x:Array Value} {l l':List Deferred} (h:m r=some (r',none)) (t:DR m l l'):DR m ({target:=.collected r,args:=x}::l) ({target:=.collected r',args:=#[]}::l')
 | fn {g:FuncId} {c c' x x':Array Value} {l l':List Deferred} (h1:LR m c.toList c'.toList) (h2:LR m x.toList x'.toList) (t:DR m l l'):DR m ({target:=.fn (.func g) c,args:=x}::l) ({target:=.fn (.func g) c',args:=x'}::l')
theorem DR.mono {m m':NM} (hm:∀ n x,m n=some x->m' n=some x) {l l':List Deferred} (h:DR m l l'):DR m' l l':=by
 induction h with
 | nil=>exact .nil
 | mark h _ ih=>exact .mark (hm _ _ h) ih
 | fn h1 h2 _ ih=>exact .fn (h1.mono hm) (h2.mono hm) ih
theorem RdR.mono {m m':NM} (hm:∀ n x,m n=some x->m' n=some x) {r r':Option Nat} (h:RdR m r r'):RdR m' r r':=by
 cases r<;>cases r'<;>first|exact h|exact hm _ _ h
section
variable {P:Program} {G:Nat} {O:Orc} {o:Oper} {t:List Value} {h h':AH} {v:Value}
def OpW (P:Program) (G:Nat) (O:Orc) (o:Oper) (t:List Value) (h:AH) (v:Value) (h':AH):Prop :=
 Keep h h'/\∀ (rr:Option Nat) (m:NM) (w:World) (a:Act),MT G m h w->FreeN m h.next h'.next->LR m t a.tmps.toList ->
  ∀ (K:Act->World->Prop) (Q:Exit->Act->World->Prop),(∀ m' v' w',EX m h w m' h' w'->MT G m' h' w'->VR m' v v'->K (a.put o.dst v') w')->o.wpIn (FenW rr) 0 P a w K Q
theorem OpD.opW (hd:∀ c,o.op≠.defer c) (k:OpD P G O o t h v h'):OpW P G O o t h v h':=by
 refine⟨k.1,fun rr m w a M F T K Q hK=>?_⟩
 obtain⟨m',v',w',x,hr,hx,hE,hM,hv⟩:=k.2 m w a M F T;refine⟨fun _ _=>trivial,?_⟩
 rw[Oper.semAt_eq _ _ _ hd,hr];rcases hx with rfl|⟨rfl,rfl⟩
 ·exact hK m' v' w' hE hM hv
 ·exact hK m' undef w' hE hM hv
def zGO (P:Program) (G:Nat) (O:Orc) (rec:Ev):Prop:=∀ (rd:Option Nat) (c:Code) (t:List Value) (d:List Deferred) (h:AH) (e:Exit) (t':List Value) (d':List Deferred) (h':AH),rec rd c t d h=some (e,t',d',h') ->
 Keep h h'/\∀ (m:NM) (w:World) (a:Act) (rr:Option Nat),MT G m h w->FreeN m h.next h'.next->LR m t a.tmps.toList->DR m d a.defers->RdR m rd rr ->
  ∀ Q:Exit->Act->World->Prop,(∀ m' w' a',EX m h w m' h' w'->MT G m' h' w'->LR m' t' a'.tmps.toList->DR m' d' a'.defers->Q e a' w')->c.wpIn (FenW rr) 0 P Q a w
def zIN (tm:Array Value):ResultVar->Sem Value
 | .tmp t=>pure (tm.getD t undef)
 | .cell a t=>do loadVar t (← asAddr (tm.getD a undef))
theorem zKw (fn:Func) (tm:Array Value):results fn tm=(do let vs ← fn.results.mapM (zIN tm);pure (if h:vs.size=1 then vs[0] else .tuple vs)):=by
 unfold results
 congr 1
theorem zF5 {fn:Func} {tm:Array Value} {w:World} {l:List Value} (h:(fn.results.toList.mapM (zIN tm)).run P w=.ok l w):(results fn tm).run P w=.ok (tupA l) w:=by
 rw[zKw,Array.mapM_eq_mapM_toList];simp[Sem.run_bind,h]
 match l with
 | []=>rfl
 | [v]=>rfl
 | v::u::r=>rfl
theorem zFi {m:NM} {w:World} {tm:Array Value} (M:MT G m h w) (T:LR m t tm.toList):∀ {rs:List ResultVar} {l:List Value},zHI P t h rs=some l->∃ l',(rs.mapM (zIN tm)).run P w=.ok l' w/\LR m l l'
 | [],l,e=>by simp[zHI]at e;subst e;exact⟨[],by simp,.nil⟩
 | .tmp k::r,l,e=>by
  simp only[zHI]at e;split at e
  ·rename_i l0 hl
   cases e
   obtain⟨l',h1,h2⟩:=zFi M T hl;refine⟨tm.getD k undef::l',by simp[List.mapM_cons,Sem.run_bind,zIN,h1],.cons ?_ h2⟩
   have:=T.nth k;rw[zHY tm.toList]at this
   simpa using this
  ·cases e
 | .cell a T'::r,l,e=>by
  simp only[zHI]at e;split at e
  ·rename_i b off hb;split at e
   ·rename_i v l0 hv hl
    cases e
    obtain⟨l',h1,h2⟩:=zFi M T hl;have h3:=T.nth a;rw[hb,zHY tm.toList]at h3;obtain⟨b',r',h4,h5⟩:=h3.ptr_inv;obtain⟨v',h6,h7⟩:=zNH M h5 hv;have h8:tm.getD a undef=.pointer (some ⟨b',off,none⟩):=by simpa using h4
    exact⟨v'::l',by simp[List.mapM_cons,Sem.run_bind,zIN,h8,asAddr,h6,h1],.cons h7 h2⟩
   ·cases e
  ·cases e
theorem zQK {m:NM} {l l':List Value} (h:LR m l l'):VR m (tupA l) (tupA l'):=by
 cases h with
 | nil=>exact .tupL .nil
 | cons h t=>cases t with
  | nil=>exact h
  | cons h2 t2=>exact .tupL (.cons h (.cons h2 t2))
theorem zCf {m:NM} {ops:Array Oper} {t:List Value} {a:Act} (T:LR m t a.tmps.toList):Region.wanted o (yielded ops a.tmps)=zBg ops.toList t o:=by
 unfold Region.wanted zBg
 cases o.guard with
 | none=>rfl
 | some g =>
  obtain⟨j,want⟩:=g;simp only[yielded]
  cases hj:ops[j]? with
  | none =>
   have:ops.toList.drop j=[]:=by
    have h1:=Array.getElem?_eq_none_iff.1 hj;exact List.drop_eq_nil_of_le (by simpa using h1)
   rw[this];simp
  | some p =>
   obtain⟨hlt,hp⟩:=Array.getElem?_eq_some_iff.1 hj;have:ops.toList.drop j=p::ops.toList.drop (j+1):=by
    rw[List.drop_eq_getElem_cons (by simpa using hlt)]
    simp[hp]
   rw[this];obtain⟨dst,_,_,_,_,_⟩:=p
   cases dst with
   | none=>simp
   | some d =>
    simp only[Option.bind_some];have h2:=T.nth d;have h3:nth a.tmps.toList d=(a.tmps[d]?).getD undef:=by
     rw[zHY];simp[List.getD]
    rw[h3]at h2
    cases hd:a.tmps[d]? with
    | none =>
     rw[hd]at h2;simp only[Option.getD_none]at h2
     generalize nth t d=q at h2
     unfold undef at h2
     cases h2;rfl
    | some u =>
     rw[hd]at h2;simp only[Option.getD_some]at h2
     generalize nth t d=q at h2
     cases h2<;>first|rfl|(simp<;>rfl)
theorem zFN {m:NM} {t:List Value} {a:Act} {v v':Value} (T:LR m t a.tmps.toList) (hv:VR m v v') (d:Option Tmp):LR m (putA t d v) (a.put d v').tmps.toList:=by
 cases d with
 | none=>exact T
 | some d =>
  simp only[putA,Act.put]
  simpa using T.set hv d
theorem zCj {ops:Array Oper}:∀ {l:List Oper} {i:Nat},ops.toList.drop i=l->∀ {t t':List Value} {h h':AH},zCZ P G O ops.toList l t h=some (t',h')->Keep h h'/\∀ (m:NM) (w:World) (a:Act) (cs:List Frame),MT G m h w->FreeN m h.next h'.next->LR m t a.tmps.toList->recoverD cs=none ->
  ∀ Q:Exit->Act->List Frame->World->Prop,(∀ m' w' a',EX m h w m' h' w'->MT G m' h' w'->LR m' t' a'.tmps.toList->a'.defers=a.defers->Q .normal a' cs w')->wpOpsSIn (FenW none) 0 P ops Q (List.range' i (ops.size - i)) a cs w
 | [],i,hl,t,t',h,h',e=>by
  simp only[zCZ,Option.some.injEq,Prod.mk.injEq]at e;obtain⟨rfl,rfl⟩:=e;have:ops.size - i=0:=by
   have:=List.drop_eq_nil_iff.1 hl;simp at this;omega
  rw[this];exact⟨Keep.refl _,fun m w a cs M F T _ Q k=>k m w a (EX.refl _ _ _) M T rfl⟩
 | o::r,i,hl,t,t',h,h',e=>by
  have hlt:i<ops.size:=by
   rcases Nat.lt_or_ge i ops.size with h|h
   ·exact h
   ·rw[List.drop_eq_nil_of_le (by simpa using h)]at hl;cases hl
  have hc:=List.drop_eq_getElem_cons (l:=ops.toList) (i:=i) (by simpa using hlt)
  rw[hl]at hc;injection hc with h1 h2
  have ho:ops[i]?=some o:=by
   rw[Array.getElem?_eq_getElem hlt,h1];simp
  have hn:ops.size - i=(ops.size - (i+1))+1:=by omega
  rw[hn,List.range'_succ];simp only[zCZ]at e;have hput:∀ (a:Act) (v:Value),(a.put o.dst v).defers=a.defers:=fun a v=>by cases o.dst<;>rfl
  cases hw:zBg ops.toList t o with
  | false =>
   simp only[hw]at e;obtain⟨n1,S⟩:=zCj h2.symm e;refine⟨n1,fun m w a cs M F T hrec Q k=>?_⟩
   simp only[wpOpsSIn,ho];rw[zCf T,hw];exact⟨fun _ _=>trivial,S m w _ cs M F (zFN T .undef o.dst) hrec Q (fun m' w' a' E' M' T' D'=>k m' w' a' E' M' T' (D'.trans (hput _ _)))⟩
  | true =>
   simp only[hw]at e;split at e
   ·rename_i hr;obtain⟨n1,S⟩:=zCj h2.symm e;refine⟨n1,fun m w a cs M F T hrec Q k=>?_⟩
    have hrun:(execOp a.eval o).run P w=.ok .recover w:=by
     obtain⟨op,hop⟩:∃ op,o.op=op:=⟨_,rfl⟩;rw[hop]at hr;unfold zQU at hr;split at hr
     ·unfold execOp;simp[hop,resolve,Sem.run_bind,Sem.run_pure,Result.andThen_ok,invoke,builtin]
     ·cases hr
    simp only[wpOpsSIn,ho];rw[zCf T,hw];simp only[if_true,hrun,hrec];exact⟨fun _ _=>trivial,S m w _ cs M F (zFN T .nilIface o.dst) hrec Q (fun m' w' a' E' M' T' D'=>k m' w' a' E' M' T' (D'.trans (hput _ _)))⟩
   ·split at e
    ·cases e
    ·rename_i v h1 e1;have n0:=(zJC e1).1;obtain⟨n1,S⟩:=zCj h2.symm e;refine⟨n0.trans n1,fun m w a cs M F T hrec Q k=>?_⟩
     have F1:=F.le (Nat.le_refl _) n1.next;obtain⟨m1,v1,w1,x,hr,hx,E1,M1,V1⟩:=(zJC e1).2 m w a M F1 T;have fin:=S m1 w1 (a.put o.dst v1) cs M1 (FreeN.after E1 F) (zFN (T.mono E1.mono) V1 o.dst) hrec Q (fun m' w' a' E' M' T' D'=>k m' w' a' (E1.trans M1 F1 E') M' T' (D'.trans (hput _ _)))
     simp only[wpOpsSIn,ho];rw[zCf T,hw];simp only[if_true,hr];refine⟨fun _ _=>trivial,?_⟩
     rcases hx with rfl|⟨rfl,rfl⟩
     ·exact fin
     ·exact fin
theorem zDc:∀ {n:Nat} {c:Code} {t t':List Value} {h h':AH},zDM P G O n c t h=some (t',h')->Keep h h'/\∀ (m:NM) (w:World) (a:Act) (cs:List Frame),MT G m h w->FreeN m h.next h'.next->LR m t a.tmps.toList->recoverD cs=none ->
  ∀ Q:Exit->Act->List Frame->World->Prop,(∀ m' w' a',EX m h w m' h' w'->MT G m' h' w'->LR m' t' a'.tmps.toList->a'.defers=a.defers->Q .normal a' cs w')->c.wpSIn (FenW none) 0 P Q a cs w
 | 0,c,t,t',h,h',e=>by simp[zDM]at e
 | n+1,c,t,t',h,h',e=>by
  cases c with
  | skip =>
   simp only[zDM,Option.some.injEq,Prod.mk.injEq]at e;obtain⟨rfl,rfl⟩:=e;exact⟨Keep.refl _,fun m w a cs M F T _ Q k=>wpSIn_of_wpIn rfl (wpIn_skip (k m w a (EX.refl _ _ _) M T rfl))⟩
  | seq x y =>
   simp only[zDM]at e;split at e
   ·rename_i t1 h1 e1;obtain⟨n1,S1⟩:=zDc e1;obtain⟨n2,S2⟩:=zDc e;refine⟨n1.trans n2,fun m w a cs M F T hrec Q k=>wpSIn_seq ?_⟩
    have F1:=F.le (Nat.le_refl _) n2.next;refine S1 m w a cs M F1 T hrec _ (fun m1 w1 a1 E1 M1 T1 D1=>?_)
    exact S2 m1 w1 a1 cs M1 (FreeN.after E1 F) T1 hrec Q (fun m' w' a' E' M' T' D'=>k m' w' a' (E1.trans M1 F1 E') M' T' (D'.trans D1))
   ·cases e
  | cond c x y =>
   simp only[zDM]at e;split at e
   ·rename_i hc;obtain⟨n1,S1⟩:=zDc e;exact⟨n1,fun m w a cs M F T hrec Q k=>wpSIn_cond (t:=true) (zAS M T hc).bool_inv (by simpa using S1 m w a cs M F T hrec Q k)⟩
   ·rename_i hc;obtain⟨n1,S1⟩:=zDc e;exact⟨n1,fun m w a cs M F T hrec Q k=>wpSIn_cond (t:=false) (zAS M T hc).bool_inv (by simpa using S1 m w a cs M F T hrec Q k)⟩
   ·cases e
  | region id ops draw =>
   simp only[zDM]at e
   cases draw with
   | true=>cases e
   | false =>
    rw[cond_false]at e;obtain⟨n1,S1⟩:=zCj (i:=0) (ops:=ops) rfl e;refine⟨n1,fun m w a cs M F T hrec Q k=>wpSIn_region ?_⟩
    have:=S1 m w a cs M F T hrec Q k;rw[List.range_eq_range']
    simpa using this
  | _=>simp[zDM]at e
theorem zDq {fn:Func} {tm:Array Value} {R:Ending->World->Prop}:∀ {d:List Deferred} {h h2:AH},zED P G O d h=some h2->Keep h h2/\∀ {m:NM} {w:World} {ds:List Deferred},MT G m h w->FreeN m h.next h2.next->DR m d ds ->
  (∀ m2 w2,EX m h w m2 h2 w2->MT G m2 h2 w2->LeavesInM (FenW none) 0 P fn tm R [] .returning w2)->LeavesInM (FenW none) 0 P fn tm R ds .returning w
 | [],h,h2,e=>by
  simp only[zED,Option.some.injEq]at e;subst e;exact⟨Keep.refl _,fun M F D k=>by cases D;exact k _ _ (EX.refl _ _ _) M⟩
 | x::d,h,h2,e=>by
  obtain⟨tg,ar⟩:=x;unfold zED at e;split at e
  ·rename_i heq;cases heq
  ·rename_i r _ ds0 heq;injection heq with q1 q2
   injection q1 with q3 q4
   subst q2 q3;split at e
   ·rename_i hg;rw[zAJ,Nat.ble_eq]at e;obtain⟨hf,e⟩:=e;obtain⟨hn,ih⟩:=zDq (fn:=fn) (tm:=tm) (R:=R) e;refine⟨(Keep.put hg hf _).trans hn,fun {m w ds} M F D k=>?_⟩
    cases D with
    | @mark _ r' _ _ l' hm D' =>
     obtain⟨b,r2,o',k1,k2,k3⟩:=M.obj r _ hg;rw[hm]at k1;cases k1
     cases k3
     have hlt:=(Array.getElem?_eq_some_iff.1 k2).1;obtain⟨q1,q2⟩:=zCo M hg hf hm (w':=w.putObj r' (.deferred none)) ⟨rfl,rfl,rfl,by simp[World.putObj],fun j hj hne=>World.putObj_heap_other (fun e=>hne (by rw[e]))⟩ (World.putObj_heap_same hlt) .defn
     refine⟨by simp,.inl ⟨r',_,rfl,run_takeDeferred k2,?_⟩⟩
     refine ih q2 F D' (fun m2 w2 E2 M2=>k m2 w2 (q1.trans q2 (fun n h1 h2=>absurd (Nat.lt_of_le_of_lt h1 h2) (Nat.lt_irrefl _)) E2) M2)
   ·cases e
  ·rename_i g cap args ds0 heq;injection heq with q1 q2
   injection q1 with q3 q4
   subst q2 q3 q4;split at e
   ·cases e
   ·rename_i fn2 hf;split at e
    ·cases e
    ·rename_i c hb
     cases hname:(fn2.name == "runtime.NumGoroutine") with
     | true=>rw[hname]at e;cases e
     | false =>
      rw[hname,cond_false]at e;split at e
      ·rename_i t1 h1 e1;split at e
       ·rename_i l hres;obtain⟨n1,S1⟩:=zDc e1;obtain⟨n2,ih⟩:=zDq (fn:=fn) (tm:=tm) (R:=R) e;refine⟨n1.trans n2,fun {m w ds} M F D k=>?_⟩
        cases D with
        | @fn _ _ cap' _ args' _ l' hc hx D' =>
         have hL:LR m (ar.toList++cap.toList) (args'++cap').toList:=by rw[Array.toList_append];exact hx.append hc
         have hlen:=hL.len;have F1:=F.le (Nat.le_refl _) n2.next;have hent:(invoke (.fn (.func g) cap') args').run P w=.ok (.enter g (args'++cap')) w:=by
          simp[invoke,callFunc,Sem.run_bind,hf,(by simpa using hname:¬ fn2.name = "runtime.NumGoroutine"),hb]
         refine⟨by simp,.inr ⟨(fun h=>by cases h),.func g,cap',g,args'++cap',rfl,hent,fun _ _=>trivial,?_⟩⟩
         refine callsDIn_of_wpSIn (fn:=fn2) (c:=c) hf hb trivial fun c₀ cs hu=>?_
         have hrec:recoverD (c₀::cs)=none:=by simp[recoverD,hu]
         refine S1 m w _ (c₀::cs) M F1 ?_ hrec _ (fun m1 w1 a1 E1 M1 T1 D1=>?_)
         ·have h9:=hL.append (LR.rep (m:=m) (fn2.ntmps - (args'++cap').size));rw[hlen,Array.length_toList]
          show LR m _ ((args'++cap')++Array.replicate _ undef).toList
          rw[Array.toList_append,Array.toList_replicate];exact h9
         ·obtain⟨l',h5,h6⟩:=zFi M1 T1 hres;refine⟨D1,.returning,?_,tupA l',zF5 h5,?_⟩
          ·cases c₀;simp_all
          ·exact ih M1 (FreeN.after E1 F) (D'.mono E1.mono) (fun m2 w2 E2 M2=>k m2 w2 (E1.trans M1 F1 E2) M2)
       ·cases e
      ·cases e
  ·cases e
theorem zEq {n:Nat} {f:FuncId} {args:Array Value} {w:World} {R:Ending->World->Prop} (rr:Option Nat) (h:CallsIn (FenW none) n P f args w R):CallsIn (FenW rr) n P f args w R:=h
def zL9 (P:Program) (G:Nat) (O:Orc) (f:FuncId) (args:List Value) (h:AH) (v:Value) (h':AH):Prop:=Keep h h'/\(∀ (xs:Array Value) (w:World),(callFunc f xs).run P w=.ok (.enter f xs) w)/\∀ (m:NM) (w:World) (args':Array Value),MT G m h w->FreeN m h.next h'.next->LR m args args'.toList ->
  ∀ R:Ending->World->Prop,(∀ m' v' w',EX m h w m' h' w'->MT G m' h' w'->VR m' v v'->R (.returned v') w')->CallsIn (FenW none) 0 P f args' w R
class OrcOk (P:Program) (G:Nat) (O:Orc):Prop where
 enter:∀ {f:FuncId} {args:List Value} {h:AH} {v:Value},O f args h=some v->∀ (xs:Array Value) (w:World),(callFunc f xs).run P w=.ok (.enter f xs) w
 val:∀ {f:FuncId} {args:List Value} {h:AH} {v:Value},O f args h=some v->∀ m:NM,VR m v v
 ok:∀ {f:FuncId} {args:List Value} {h:AH} {v:Value},O f args h=some v->∀ {m:NM} {w:World} {args':Array Value},MT G m h w->LR m args args'.toList->Calls P f args' w fun e w'=>e=.returned v/\Below w.heap.size w w'
instance (P:Program) (G:Nat):OrcOk P G noO:=⟨fun e=>(by cases e),fun e=>(by cases e),fun e=>(by cases e)⟩
variable [OrcOk P G O]
theorem zP3 {f:FuncId} {args:List Value} (e:O f args h=some v):zL9 P G O f args h v h :=
 ⟨Keep.refl _,OrcOk.enter (P:=P) (G:=G) e,fun m w args' M F L R k=>callsIn_wide.2 ((OrcOk.ok (P:=P) (G:=G) e M L).mono fun e' w' ⟨h1,h2⟩=>by
  subst h1
  refine k m v w' ⟨fun _ _ h=>h,fun _=>fun _=>rfl,fun n b r h1 h2=>(by rw[h1]at h2;cases h2),Nat.le_refl _,rfl,rfl,fun n o _ h=>⟨o,h⟩,fun _ _=>rfl,fun _ _ _=>rfl,h2.os,h2.tape,h2.output,h2.size,fun b hb _=>h2.block b hb⟩ (M.world h2.size fun n o b r _ hm=>h2.block b (M.lt n b r hm)) (OrcOk.val (P:=P) (G:=G) e m))⟩
theorem zGH {rec:Ev} (R0:zGO P G O rec) {f:FuncId} {args:List Value} (e:zH8 P G O rec f args h=some (v,h')):zL9 P G O f args h v h':=by
 unfold zH8 at e;split at e
 ·rename_i v0 ho
  cases e
  exact zP3 ho
 split at e
 ·cases e
 ·rename_i fn hf;split at e
  ·cases e
  ·rename_i c hb
   cases hname:(fn.name == "runtime.NumGoroutine") with
   | true=>rw[hname]at e;cases e
   | false =>
    rw[hname,cond_false]at e;have key:∀ (x:Exit) (t2:List Value) (d2:List Deferred) (h1:AH),(x=.normal\/x=.ret)->rec none c (args++List.replicate (fn.ntmps - args.length) undef) [] h=some (x,t2,d2,h1) ->
      (match zED P G O d2 h1 with|none=>none|some h2=>match zHI P t2 h2 fn.results.toList with|some l=>some (tupA l,h2)|none=>none)=some (v,h')->zL9 P G O f args h v h':=by
     intro x t2 d2 h1 hx e1 e2;split at e2
     ·cases e2
     ·rename_i h2 hl;split at e2
      ·rename_i l hr
       cases e2
       obtain⟨n1,S1⟩:=R0 _ _ _ _ _ _ _ _ _ e1;have hlv:=(zDq (fn:=fn) (tm:=#[]) (R:=fun _ _=>True) (P:=P) (G:=G) (O:=O) hl).1
       refine⟨n1.trans hlv,fun xs w=>by simp[callFunc,Sem.run_bind,hf,(by simpa using hname:¬ fn.name = "runtime.NumGoroutine"),hb],fun m w args' M F L R k=>?_⟩
       refine callsIn_of_wp_marks (fn:=fn) (c:=c) hf hb trivial ?_ rfl;have hlen:args'.size=args.length:=by simpa using L.len.symm
       refine S1 m w _ none M (F.le (Nat.le_refl _) hlv.next) ?_ .nil trivial _ ?_
       ·have:=L.append (LR.rep (m:=m) (fn.ntmps - args.length))
        simpa [hlen] using this
       ·intro m1 w1 a1 E1 M1 T1 D1;have:LeavesInM (FenW none) 0 P fn a1.tmps R a1.defers .returning w1:=by
         obtain⟨hn,hk⟩:=zDq (fn:=fn) (tm:=a1.tmps) (R:=R) (P:=P) (G:=G) (O:=O) hl;refine hk M1 (FreeN.after E1 F) D1 (fun m2 w2 E2 M2=>?_)
         obtain⟨l',h5,h6⟩:=zFi M2 (T1.mono E2.mono) hr;exact⟨tupA l',zF5 h5,k _ _ _ (E1.trans M1 (F.le (Nat.le_refl _) hlv.next) E2) M2 (zQK h6)⟩
        rcases hx with rfl|rfl<;>exact this
      ·cases e2
    split at e
    ·exact key _ _ _ _ (.inl rfl) (by assumption) e
    ·exact key _ _ _ _ (.inr rfl) (by assumption) e
    ·cases e
theorem zKD {m:NM}:∀ {ps:List Tmp} {vs vs':List Value} {t:List Value} {t':Array Value},LR m vs vs'->LR m t t'.toList->LR m (zNz t ps vs) ((ps.zip vs').foldl (fun tm (p:Tmp × Value)=>tm.setIfInBounds p.1 p.2) t').toList
 | [],_,_,_,_,hv,ht=>by cases hv<;>exact ht
 | p::ps,_,_,_,_,.nil,ht=>ht
 | p::ps,_,_,_,_,.cons hv hvs,ht=>by
  simp only[zNz,List.zip_cons_cons,List.foldl_cons];exact zKD hvs (by simpa using ht.set hv p)
theorem zK3 {rec:Ev} (R0:zGO P G O rec) {l:Nat} {args:List Value} (e:zJM rec l args h=some (v,h')):Keep h h'/\∀ (m:NM) (w:World) (l':Nat) (args':Array Value),MT G m h w->FreeN m h.next h'.next->m l=some (l',none)->LR m args args'.toList ->
  ∃ fn tm sg bd,(Instr.yield l' args').run P w=.ok (.round l' fn tm sg bd) w/\∀ (rr:Option Nat) (R:Ending->World->Prop),(∀ m' v' w',EX m h w m' h' w'->MT G m' h' w'->VR m' v v'->R (.returned v') w')->RoundIn (FenW rr) 0 P l' fn tm sg bd w R:=by
 have _oc:=(inferInstance:OrcOk P G O);unfold zJM at e;split at e
 ·rename_i r hg;rw[zAJ]at e;simp only[Bool.and_eq_true,Nat.beq_eq,Nat.ble_eq]at e;obtain⟨⟨hlen,hf⟩,e⟩:=e;split at e
  ·rename_i t1 h1 e1;split at e
   ·rename_i r1 hg1;split at e
    ·rename_i hst;split at e
     ·rename_i ex t2 d2 h3 e2;obtain⟨n1,S1⟩:=R0 _ _ _ _ _ _ _ _ _ e1;obtain⟨n2,S2⟩:=R0 _ _ _ _ _ _ _ _ _ e2;have n2':h1.next<=h3.next:=n2.next;have hend:∃ (r3:Loop) (j:Option Code),h3.get l=some (.o (.loop r3))/\zNK ex=some j/\v=.bool j.isNone/\h'=h3.put l (.o (.loop {r3 with state:=if j.isNone then .ready else .done,pending:=j})):=by
       split at e
       ·rename_i r3 hg3 hj;cases e;exact⟨r3,none,hg3,hj,rfl,rfl⟩
       ·rename_i r3 j hg3 hj;cases e;exact⟨r3,some j,hg3,hj,rfl,rfl⟩
       ·cases e
      obtain⟨r3,j,hg3,hj,rfl,rfl⟩:=hend;clear e;refine⟨((n1.trans (Keep.put hg1 (by rw[n1.floor];exact hf) _)).trans n2).trans (Keep.put hg3 (by rw[n2.floor];show h1.floor<=l;rw[n1.floor];exact hf) _),fun m w l' args' M F hm L=>?_⟩
      have F':FreeN m h.next h3.next:=F;obtain⟨b,rr0,o',k1,k2,k3⟩:=M.obj l _ hg;rw[hm]at k1;cases k1
      cases k3 with
      | @loop _ r' hL =>
       obtain⟨q1,q2,q3,q4,q5,q6,q7⟩:=hL;have hsz:args'.size=args.length:=by simpa using L.len.symm
       refine⟨r'.fn,(r'.params.zip args').foldl (fun tm (p:Tmp × Value)=>tm.setIfInBounds p.1 p.2) r'.tmps,r'.assign,r'.body,?_,fun rr R k=>?_⟩
       ·have:¬ (args'.size≠r'.params.size):=by rw[q4,hsz];exact fun h=>h hlen
        simp only[Instr.yield,Sem.run_bind,run_getLoop k2,Result.andThen_ok,this,if_false,Sem.run_pure]
       ·refine roundIn_of_wpIn (F:=FenW rr) (n:=0) trivial ?_
        show r'.assign.wpIn (FenW (some l')) 0 P _ _ w
        rw[q5];refine S1 m w _ (some l') M (F'.le (Nat.le_refl _) n2') ?_ .nil hm _ ?_
        ·have:=zKD (ps:=r.params.toList) L q3;rw[← Array.foldl_toList,Array.toList_zip,q4];exact this
        ·intro m1 w1 a1 E1 M1 T1 D1;have hm1:=E1.mono _ _ hm;obtain⟨b1,rr1,o1',p1,p2,p3⟩:=M1.obj l _ hg1;rw[hm1]at p1;cases p1
         cases p3 with
         | @loop _ r1' hL1 =>
          obtain⟨s1,s2,s3,s4,s5,s6,s7⟩:=hL1;have hlt1:=(Array.getElem?_eq_some_iff.1 p2).1;refine⟨_,run_beginRound p2 (by rw[s1];exact hst),?_⟩
          obtain⟨E2,M2⟩:=zCo M1 hg1 (by rw[E1.floor];exact hf) hm1 (w':=w1.putObj l' (.loop {r1' with state:=.busy})) ⟨rfl,rfl,rfl,by simp[World.putObj],fun j hj hne=>World.putObj_heap_other (fun e=>hne (by rw[e]))⟩ (World.putObj_heap_same hlt1) (o:=.o (.loop {r1 with state:=.busy})) (.loop ⟨rfl,s2,s3,s4,s5,s6,s7⟩)
          show r'.body.wpIn (FenW (some l')) 0 P _ _ _
          rw[q6];have F1:FreeN m1 h1.next h3.next:=FreeN.after E1 (h2:=h3) F';refine S2 m1 _ a1 (some l') M2 F1 T1 D1 hm1 _ ?_
          intro m3 w3 a3 E3 M3 T3 D3;have hm3:=E3.mono _ _ hm1;obtain⟨b3,rr3,o3',u1,u2,u3⟩:=M3.obj l _ hg3;rw[hm3]at u1;cases u1
          cases u3 with
          | @loop _ r3' hL3 =>
           obtain⟨y1,y2,y3,y4,y5,y6,y7⟩:=hL3;have hlt3:=(Array.getElem?_eq_some_iff.1 u2).1;obtain⟨E4,M4⟩:=zCo M3 hg3 (by rw[E3.floor];show h1.floor<=l;rw[E1.floor];exact hf) hm3 (w':=w3.putObj l' (.loop {r3' with state:=if j.isNone then .ready else .done,pending:=j})) ⟨rfl,rfl,rfl,by simp[World.putObj],fun j hj hne=>World.putObj_heap_other (fun e=>hne (by rw[e]))⟩ (World.putObj_heap_same hlt3) (o:=.o (.loop {r3 with state:=if j.isNone then .ready else .done,pending:=j})) (.loop ⟨rfl,rfl,y3,y4,y5,y6,y7⟩)
           have E12:=E1.trans M1 (F'.le (Nat.le_refl _) n2') E2;have E13:=E12.trans M2 (F'.le (Nat.le_refl _) n2') E3;have E14:=E13.trans M3 F' E4;have fin:=k _ _ _ E14 M4 (.bool j.isNone);have hrun:=run_endRound (P:=P) j u2
           cases ex<;>simp[zNK]at hj<;>subst hj<;>exact⟨_,_,hrun,fin⟩
     ·cases e
    ·cases e
   ·cases e
  ·cases e
 ·cases e
end
section
variable {P:Program} {G:Nat} {O:Orc} {o:Oper} {t:List Value} {h h':AH} {v:Value}
variable [OrcOk P G O]
theorem LR.appA {m:NM} {a:List Value} {a':Array Value} (h:LR m a a'.toList) {b:List Value} {b':Array Value} (k:LR m b b'.toList):LR m (a++b) (a'++b').toList:=by
 rw[Array.toList_append];exact h.append k
theorem zHt {rec:Ev} (R0:zGO P G O rec) (e:zGI P G O rec t h o=some (v,h')):OpW P G O o t h v h':=by
 obtain⟨op,ho⟩:∃ op,o.op=op:=⟨_,rfl⟩;have gen:(∀ f xs ts,op≠.call {callee:=.value f,args:=xs,argTypes:=ts})->OpW P G O o t h v h':=by
  intro hne;have e':evOp P G O t h o.type o.op=some (v,h'):=by
   unfold zGI at e;rw[ho]at e ⊢
   cases op with
   | call c =>
    obtain⟨cal,xs,ts⟩:=c
    cases cal with
    | value f=>exact absurd rfl (hne f xs ts)
    | _=>exact e
   | _=>exact e
  refine(zJC e').opW (fun c hc=>?_)
  rw[hc]at e';simp[evOp]at e'
 cases op with
 | call c =>
  obtain⟨cal,xs,ts⟩:=c
  cases cal with
  | value f =>
   clear gen;unfold zGI at e;rw[ho]at e;simp only at e;split at e
   ·rename_i fv l hf hl;unfold evFn at e;have hnd:∀ c,o.op≠.defer c:=by intro c hc;rw[ho]at hc;cases hc
    split at e
    ·rename_i g first cap
     obtain⟨n1,he,S⟩:=zGH R0 e;refine⟨n1,fun rr m w a M F T K Q hK=>⟨fun _ _=>trivial,?_⟩⟩
     obtain⟨first',cap',e1,e2,e3⟩:=(zAS M T hf).func_inv
     have hargs:=zD7 M T hl;rw[Oper.semAt_eq _ _ _ hnd];have hrun:(execOp a.eval o).run P w=.ok (.enter g (first'++xs.map a.eval++cap')) w:=by
      unfold execOp;simp only[ho,resolve,e1,Deferred.ofValue,Sem.run_bind,Sem.run_pure,Result.andThen_ok,invoke,he]
     rw[hrun,Oper.uponIn_enter];refine⟨(fun h=>by cases h),zEq rr (S m w _ M F ?_ _ fun m' v' w' E' M' V'=>hK m' v' w' E' M' V')⟩
     have h4:LR m l (xs.map a.eval).toList:=by simpa using hargs
     exact LR.appA (LR.appA e2 h4) e3
    ·rename_i l0 x1 x2;obtain⟨n1,S⟩:=zK3 R0 e;refine⟨n1,fun rr m w a M F T K Q hK=>⟨fun _ _=>trivial,?_⟩⟩
     have hv:=zAS M T hf;obtain⟨l',e1,e2⟩:∃ l',a.eval f=.func (.yield l') #[] #[]/\m l0=some (l',none):=by
      generalize a.eval f=q at hv
      cases hv with
      | yield h=>exact⟨_,rfl,h⟩
     have hargs:=zD7 M T hl;rw[Oper.semAt_eq _ _ _ hnd];obtain⟨fn,tm,sg,bd,hy,S2⟩:=S m w l' (xs.map a.eval) M F e2 (by simpa using hargs)
     have hrun:(execOp a.eval o).run P w=.ok (.round l' fn tm sg bd) w:=by
      unfold execOp;have:(#[]:Array Value)++xs.map a.eval=xs.map a.eval:=by simp
      simp only[ho,resolve,e1,Deferred.ofValue,Sem.run_bind,Sem.run_pure,Result.andThen_ok,invoke,this,hy]
     rw[hrun,Oper.uponIn_round];exact⟨(fun h=>by cases h),S2 rr _ fun m' v' w' E' M' V'=>hK m' v' w' E' M' V'⟩
    ·cases e
   ·cases e
  | _=>exact gen (by intro f xs ts h;cases h)
 | _=>exact gen (by intro f xs ts h;cases h)
theorem zLo {m:NM} {w:World} {a:Act} {x:Deferred} {rd:Option Nat} (e:zM9 G t rd o.op=some x) (M:MT G m h w) (T:LR m t a.tmps.toList):rd=none/\∃ x',(execOp a.eval o).run P w=.ok (.defer x') w/\∀ d d',DR m d d'->DR m (x::d) (x'::d'):=by
 unfold zM9 at e;split at e
 ·rename_i f xs ts ho;split at e
  ·rename_i g first cap l hf hl
   cases e
   obtain⟨first',cap',e1,e2,e3⟩:=(zAS M T hf).func_inv
   have hargs:=zD7 M T hl;refine⟨rfl,{target:=.fn (.func g) cap',args:=first'++xs.map a.eval},?_,fun d d' hd=>.fn e3 ?_ hd⟩
   ·unfold execOp;simp only[ho,resolve,e1,Deferred.ofValue,Sem.run_bind,Sem.run_pure,Result.andThen_ok]
   ·have h4:LR m l (xs.map a.eval).toList:=by simpa using hargs
    rw[Array.toList_append,List.toList_toArray];exact e2.append h4
  ·cases e
 ·cases e
theorem zFa {rec:Ev} (R0:zGO P G O rec) (ops:Array Oper) {rd:Option Nat}:∀ {l:List Oper} {t t':List Value} {d d':List Deferred} {h h':AH},zJP P G O rec rd ops.toList l t d h=some (t',d',h')->Keep h h'/\∀ (rr:Option Nat) (m:NM) (w:World) (a:Act),MT G m h w->FreeN m h.next h'.next->LR m t a.tmps.toList->DR m d a.defers->RdR m rd rr ->
  ∀ Q:Exit->Act->World->Prop,(∀ m' w' a',EX m h w m' h' w'->MT G m' h' w'->LR m' t' a'.tmps.toList->DR m' d' a'.defers->Q .normal a' w')->wpListIn (FenW rr) 0 P ops Q l a w
 | [],t,t',d,d',h,h',e=>by
  simp only[zJP,Option.some.injEq,Prod.mk.injEq]at e;obtain⟨rfl,rfl,rfl⟩:=e;exact⟨Keep.refl _,fun rr m w a M F T DD RR Q k=>k m w a (EX.refl _ _ _) M T DD⟩
 | o::r,t,t',d,d',h,h',e=>by
  simp only[zJP]at e
  cases hw:zBg ops.toList t o with
  | false =>
   simp only[hw]at e;obtain⟨n1,S⟩:=zFa R0 ops e;refine⟨n1,fun rr m w a M F T DD RR Q k=>?_⟩
   unfold wpListIn;rw[zCf T,hw];have hput:(a.put o.dst undef).defers=a.defers:=by cases o.dst<;>rfl
   exact⟨fun _ _=>trivial,S rr m w _ M F (zFN T .undef o.dst) (hput ▸ DD) RR Q k⟩
  | true =>
   simp only[hw]at e;split at e
   ·rename_i x hx;obtain⟨n1,S⟩:=zFa R0 ops e;refine⟨n1,fun rr m w a M F T DD RR Q k=>?_⟩
    obtain⟨rfl,x',hr,hd⟩:=zLo (P:=P) hx M T
    cases rr with
    | some _=>exact RR.elim
    | none =>
     unfold wpListIn;rw[zCf T,hw];simp only[if_true];refine⟨fun _ _=>trivial,?_⟩
     rw[show (FenW none).round=none from rfl,Oper.semAt_none,hr]
     show wpListIn (FenW none) 0 P ops Q r ({a with defers:=x'::a.defers}.put o.dst undef) w
     refine S none m w _ M F (zFN (a:={a with defers:=x'::a.defers}) T .undef o.dst) ?_ RR Q k
     have:(({a with defers:=x'::a.defers}:Act).put o.dst undef).defers=x'::a.defers:=by cases o.dst<;>rfl
     rw[this];exact hd _ _ DD
   ·split at e
    ·cases e
    ·rename_i v h1 e1;obtain⟨n1,S1⟩:=zHt R0 e1;obtain⟨n2,S2⟩:=zFa R0 ops e;refine⟨n1.trans n2,fun rr m w a M F T DD RR Q k=>?_⟩
     unfold wpListIn;rw[zCf T,hw];simp only[if_true];have F1:=F.le (Nat.le_refl _) n2.next;refine S1 rr m w a M F1 T _ Q (fun m1 v1 w1 E1 M1 V1=>?_)
     refine S2 rr m1 w1 _ M1 (FreeN.after E1 F) (zFN (T.mono E1.mono) V1 o.dst) ?_ (RR.mono E1.mono) Q (fun m' w' a' E' M' T' D'=>k m' w' a' (E1.trans M1 F1 E') M' T' D')
     have:(a.put o.dst v1).defers=a.defers:=by cases o.dst<;>rfl
     rw[this];exact DD.mono E1.mono
end
section
variable {P:Program} {G:Nat} {O:Orc} {o:Oper} {t:List Value} {h h':AH} {v:Value}
variable [OrcOk P G O]
theorem zM6 {round rr:Option Nat} {D:Nat} {mark:List Deferred} {h1:AH} {m:NM} {w:World} (e:zC3 round h=some (D,mark,h1)) (M:MT G m h w) (F:FreeN m h.next h1.next) (R:RdR m round rr) :
  ∃ m1 w1 D' mark',EX m h w m1 h1 w1/\MT G m1 h1 w1/\m1 D=some (D',none)/\(∀ d d',DR m1 d d'->DR m1 (mark++d) (mark'++d')) /\
   ∀ (fn:FuncId) (tm:Array Value) (ps:Array Tmp) (sg bd:Code),(Instr.enterLoop fn tm ps sg bd rr).run P w=.ok (w1.heap.size,mark') (w1.alloc (.loop {state:=.ready,pending:=none,fn,tmps:=tm,params:=ps,assign:=sg,body:=bd,defers:=D'})):=by
 cases round with
 | none =>
  simp only[zC3,Option.some.injEq,Prod.mk.injEq]at e;obtain⟨rfl,rfl,rfl⟩:=e
  cases rr with
  | some l=>exact R.elim
  | none =>
   obtain⟨q1,q2,q3,q4⟩:=zEk M F (zBn w (.deferred (some []))) (World.alloc_heap_new w _) (o:=.o (.deferred (some []))) (r:=none) .defs;refine⟨_,_,w.heap.size,[{target:=.collected w.heap.size,args:=#[]}],q2,q3,q4,fun d d' hd=>.mark q4 hd,fun fn tm ps sg bd=>?_⟩
   rw[run_enterLoop_outer];have:(w.alloc (.deferred (some []))).heap.size=w.heap.size+1:=by
    show (w.heap.push _).size=_
    simp
   rw[this]
 | some l =>
  simp only[zC3]at e;split at e
  ·rename_i r hg;simp only[Option.some.injEq,Prod.mk.injEq]at e;obtain⟨rfl,rfl,rfl⟩:=e
   cases rr with
   | none=>exact R.elim
   | some l' =>
    obtain⟨b,r2,o',k1,k2,k3⟩:=M.obj l _ hg;rw[show m l=some (l',none) from R]at k1;cases k1
    cases k3 with
    | @loop _ r' hL =>
     exact⟨m,w,r'.defers,[],EX.refl _ _ _,M,hL.2.2.2.2.2.2,fun d d' hd=>hd,fun fn tm ps sg bd=>run_enterLoop_inner k2 fn tm ps sg bd⟩
  ·cases e
theorem zJB {round:Option Nat} {D:Nat} {mark:List Deferred} {h1:AH} (e:zC3 round h=some (D,mark,h1)):Keep h h1:=by
 cases round with
 | none =>
  simp only[zC3,Option.some.injEq,Prod.mk.injEq]at e;obtain⟨_,_,rfl⟩:=e;exact Keep.new _ _
 | some l =>
  simp only[zC3]at e;split at e
  ·simp only[Option.some.injEq,Prod.mk.injEq]at e;obtain⟨_,_,rfl⟩:=e;exact Keep.refl _
  ·cases e
def zOx (P:Program) (G:Nat) (O:Orc) (rd:Option Nat) (c:Code) (t:List Value) (d:List Deferred) (h:AH) (e:Exit) (t':List Value) (d':List Deferred) (h':AH):Prop :=
 Keep h h'/\∀ (m:NM) (w:World) (a:Act) (rr:Option Nat),MT G m h w->FreeN m h.next h'.next->LR m t a.tmps.toList->DR m d a.defers->RdR m rd rr ->
  ∀ Q:Exit->Act->World->Prop,(∀ m' w' a',EX m h w m' h' w'->MT G m' h' w'->LR m' t' a'.tmps.toList->DR m' d' a'.defers->Q e a' w')->c.wpIn (FenW rr) 0 P Q a w
theorem zK2 {rec:Ev} (R0:zGO P G O rec) {rd:Option Nat} {f:Operand} {params:Array Tmp} {sg bd:Code} {d d':List Deferred} {ex:Exit} {t':List Value} (e:zJJ P G O rec rd f params sg bd t d h=some (ex,t',d',h')):zOx P G O rd (.rangeFunc f params sg bd) t d h ex t' d' h':=by
 unfold zJJ at e;split at e
 ·cases e
 ·rename_i fv hf;split at e
  ·cases e
  ·rename_i D mark h1 ha;split at e
   ·cases e
   ·rename_i v0 h2 hgo;split at e
    ·rename_i r hg2
     cases hst':(r.state == .busy || Nat.blt h1.next h2.floor) with
     | true=>rw[hst']at e;cases e
     | false =>
      rw[hst',cond_false]at e;rw[Bool.or_eq_false_iff]at hst';have hst:=hst'.1;have hfl0:h2.floor<=h1.next:=by
       have:=hst'.2;rcases Nat.lt_or_ge h1.next h2.floor with hl|hl
       ·rw[← Nat.blt_eq,this]at hl;cases hl
       ·exact hl
      split at e
      ·rename_i ex' hex;simp only[Option.some.injEq,Prod.mk.injEq]at e;obtain⟨rfl,rfl,rfl,rfl⟩:=e;unfold evGo at hgo;split at hgo
       ·rename_i g first cap
        obtain⟨n2,he,S⟩:=zGH R0 hgo;have n0:=zJB ha;have n1:=n0.next;have n2':h1.next+1<=h2.next:=n2.next;refine⟨((n0.trans (Keep.new _ _)).trans n2).trans (Keep.put hg2 hfl0 _),fun m w a rr M F T DD RR Q k=>wpIn_rangeFunc fun fn _=>?_⟩
        have F':FreeN m h.next h2.next:=F;obtain⟨m1,w1,D',mark',E1,M1,hD,hmark,hent⟩:=zM6 (P:=P) (rr:=rr) ha M (F'.le (Nat.le_refl _) (by omega)) RR
        have F1:FreeN m1 h1.next h2.next:=FreeN.after E1 (h2:=h2) F';obtain⟨c1,E2,M2,hl⟩:=zEk M1 (F1.le (Nat.le_refl _) n2') (zBn w1 (.loop {state:=.ready,pending:=none,fn,tmps:=a.tmps,params,assign:=sg,body:=bd,defers:=D'})) (World.alloc_heap_new w1 _) (o:=.o (.loop {state:=.ready,pending:=none,fn:=0,tmps:=t.toArray,params,assign:=sg,body:=bd,defers:=D})) (r:=none) (.loop ⟨rfl,rfl,T.mono E1.mono,rfl,rfl,rfl,hD⟩)
        have F2:FreeN _ (h1.next+1) h2.next:=FreeN.after E2 (h2:=h2) F1;obtain⟨first',cap',e1,e2,e3⟩:=(((zAS M T hf).mono E1.mono).mono E2.mono).func_inv
        have E12:=E1.trans M1 (F'.le (Nat.le_refl _) (by omega)) E2
        have hent':=hent fn a.tmps params sg bd;obtain⟨W1,hW1⟩:∃ W,w1.alloc (.loop {state:=.ready,pending:=none,fn,tmps:=a.tmps,params,assign:=sg,body:=bd,defers:=D'})=W:=⟨_,rfl⟩;rw[hW1]at hent' E2 M2 E12;refine⟨w1.heap.size,mark',W1,{target:=.fn (.func g) cap',args:=first'++#[.func (.yield w1.heap.size) #[] #[]]},W1,g,first'++#[.func (.yield w1.heap.size) #[] #[]]++cap',W1,hent',?_,fun _ _=>trivial,?_,?_,zEq rr (S _ W1 _ M2 F2 ?_ _ ?_)⟩
        ·show (Deferred.ofValue (a.eval f) _).run P W1=_
         rw[e1,show (rangeCall f w1.heap.size).args.map a.eval=#[.func (.yield w1.heap.size) #[] #[]] from by simp[Act.eval]]
         rfl
        ·simp only[invoke,he]
        ·intro h;cases h
        ·exact LR.appA (LR.appA e2 (b':=#[.func (.yield w1.heap.size) #[] #[]]) (.cons (.yield hl) .nil)) e3
        ·intro m3 v3 w3 E3 M3 V3;obtain⟨b,r2,o',k1,k2,k3⟩:=M3.obj _ _ hg2;rw[E3.mono _ _ hl]at k1;cases k1
         cases k3 with
         | @loop _ r' hL =>
          obtain⟨q1,q2,q3,q4,q5,q6,q7⟩:=hL;have hlt:=(Array.getElem?_eq_some_iff.1 k2).1;have hnb:r'.state≠.busy:=by rw[q1];intro h;rw[h]at hst;cases hst
          have hfl:h2.floor<=h1.next:=by
           rw[E3.floor]
           show h1.floor<=h1.next
           exact M1.fl
          obtain⟨E4,M4⟩:=zCo M3 hg2 hfl (E3.mono _ _ hl) (w':=w3.putObj w1.heap.size (.loop {r' with state:=.exhausted})) ⟨rfl,rfl,rfl,by simp[World.putObj],fun j hj hne=>World.putObj_heap_other (fun e=>hne (by rw[e]))⟩ (World.putObj_heap_same hlt) (o:=.o (.loop {r with state:=.exhausted})) (.loop ⟨rfl,q2,q3,q4,q5,q6,q7⟩)
          have E13:=E12.trans M2 (F'.le (Nat.le_refl _) n2') E3;have E14:=E13.trans M3 F' E4;have hm14:∀ n x,m1 n=some x->m3 n=some x:=fun n x e=>E3.mono _ _ (E2.mono _ _ e)
          have hmk:DR m3 (mark++d) (mark'++a.defers):=(hmark d a.defers (DD.mono E1.mono)).mono hm14;have fin:=k _ _ {a with defers:=mark'++a.defers} E14 M4 (T.mono E14.mono) hmk
          refine⟨r.pending,w3.putObj w1.heap.size (.loop {r' with state:=.exhausted}),(by rw[← q2];exact run_endLoop k2 hnb),?_⟩
          cases hp:r.pending with
          | none=>rw[hp]at hex;simp[zLW]at hex;subst hex;exact fin
          | some c =>
           rw[hp]at hex
           cases c<;>simp[zLW]at hex<;>subst hex
           ·exact wpIn_exit fin
           ·exact wpIn_goto fin
           ·exact wpIn_ret fin
       ·cases hgo
      ·cases e
    ·cases e
def zLl (P:Program) (G:Nat) (O:Orc) (rec:Ev):Prop:=∀ (ops:Array Oper) (t t':List Value) (h h':AH),(zIy ops.toList (befL ops.toList) ops.toList 0&&zC6 ops.toList 0)=true->zFn P G O rec ops.toList (befL ops.toList) ops.toList 0 ⟨[],[],[],[],[]⟩ t h=some (t',h') ->
 Keep h h'/\∀ (rr:Option Nat) (m:NM) (w:World) (a:Act) (id:Nat),MT G m h w->FreeN m h.next h'.next->LR m t a.tmps.toList ->
  ∀ Q:Exit->Act->World->Prop,(∀ m' w' a',EX m h w m' h' w'->MT G m' h' w'->LR m' t' a'.tmps.toList->a'.defers=a.defers->Q .normal a' w')->(Code.region id ops true).wpIn (FenW rr) 0 P Q a w
theorem zJg {rec:Ev} (R0:zGO P G O rec) (D0:zLl P G O rec) {rd:Option Nat} {ops:Array Oper} {draw:Bool} {t':List Value} {d d':List Deferred} {id:Nat} (e:zHQ P G O rec rd ops draw t d h=some (t',d',h')) :
  Keep h h'/\∀ (rr:Option Nat) (m:NM) (w:World) (a:Act),MT G m h w->FreeN m h.next h'.next->LR m t a.tmps.toList->DR m d a.defers->RdR m rd rr ->
   ∀ Q:Exit->Act->World->Prop,(∀ m' w' a',EX m h w m' h' w'->MT G m' h' w'->LR m' t' a'.tmps.toList->DR m' d' a'.defers->Q .normal a' w')->(Code.region id ops draw).wpIn (FenW rr) 0 P Q a w:=by
 unfold zHQ at e
 cases draw with
 | true =>
  rw[cond_true,zAJ]at e;obtain⟨e0,e⟩:=e;split at e
  ·rename_i t1 h1 e1;simp only[Option.some.injEq,Prod.mk.injEq]at e;obtain⟨rfl,rfl,rfl⟩:=e;obtain⟨n1,S⟩:=D0 ops _ _ _ _ e0 e1;exact⟨n1,fun rr m w a M F T DD RR Q k=>S rr m w a id M F T Q (fun m' w' a' E' M' T' D'=>k m' w' a' E' M' T' (by rw[D'];exact DD.mono E'.mono))⟩
  ·cases e
 | false =>
  rw[cond_false]at e;obtain⟨n1,S⟩:=zFa R0 ops e;exact⟨n1,fun rr m w a M F T DD RR Q k=>wpIn_region_list (S rr m w a M F T DD RR Q k)⟩
def zOq (P:Program) (G:Nat) (O:Orc) (n:Nat):Prop:=∀ (rd:Option Nat) (b:Code) (t:List Value) (d:List Deferred) (h:AH) (e:Exit) (t':List Value) (d':List Deferred) (h':AH),ev P G O n rd (.loop b) t d h=some (e,t',d',h') ->
 Keep h h'/\∀ (m:NM) (w:World) (a:Act) (rr:Option Nat),MT G m h w->FreeN m h.next h'.next->LR m t a.tmps.toList->DR m d a.defers->RdR m rd rr ->
  ∀ Q:Exit->Act->World->Prop,(∀ m' w' a',EX m h w m' h' w'->MT G m' h' w'->LR m' t' a'.tmps.toList->DR m' d' a'.defers->Q e a' w')->Code.roundsIn (FenW rr) 0 P b Q n a w
theorem zQE (D0:∀ rec,zGO P G O rec->zLl P G O rec):∀ n,zGO P G O (ev P G O n)/\zOq P G O n
 | 0=>⟨fun _ _ _ _ _ _ _ _ _ e=>by simp[ev]at e,fun _ _ _ _ _ _ _ _ _ e=>by simp[ev]at e⟩
 | n+1=>by
  obtain⟨A,B⟩:=zQE D0 n;have L:zOq P G O (n+1):=by
   intro rd b t d h e t' d' h' hev;simp only[ev]at hev;split at hev
   ·rename_i t1 d1 h1 e1;obtain⟨n1,S1⟩:=A _ _ _ _ _ _ _ _ _ e1;obtain⟨n2,S2⟩:=B _ _ _ _ _ _ _ _ _ hev;refine⟨n1.trans n2,fun m w a rr M F T DD RR Q k=>?_⟩
    have F1:=F.le (Nat.le_refl _) n2.next;rw[roundsIn_succ];refine S1 m w a rr M F1 T DD RR _ (fun m1 w1 a1 E1 M1 T1 D1=>?_)
    exact S2 m1 w1 a1 rr M1 (FreeN.after E1 F) T1 D1 (RR.mono E1.mono) Q (fun m' w' a' E' M' T' D'=>k m' w' a' (E1.trans M1 F1 E') M' T' D')
   ·rename_i r hne;obtain⟨n1,S1⟩:=A _ _ _ _ _ _ _ _ _ hev;refine⟨n1,fun m w a rr M F T DD RR Q k=>?_⟩
    rw[roundsIn_succ];refine S1 m w a rr M F T DD RR _ (fun m' w' a' E' M' T' D'=>?_)
    have:=k m' w' a' E' M' T' D'
    cases e with
    | normal=>exact absurd hev (hne _ _ _)
    | _=>exact this
  refine⟨?_,L⟩;intro rd c t d h e t' d' h' hev
  cases c with
  | skip =>
   simp only[ev,Option.some.injEq,Prod.mk.injEq]at hev;obtain⟨rfl,rfl,rfl,rfl⟩:=hev;exact⟨Keep.refl _,fun m w a rr M F T DD RR Q k=>wpIn_skip (k m w a (EX.refl _ _ _) M T DD)⟩
  | label l =>
   simp only[ev,Option.some.injEq,Prod.mk.injEq]at hev;obtain⟨rfl,rfl,rfl,rfl⟩:=hev;exact⟨Keep.refl _,fun m w a rr M F T DD RR Q k=>wpIn_label (k m w a (EX.refl _ _ _) M T DD)⟩
  | region id ops draw =>
   simp only[ev]at hev;split at hev
   ·rename_i t1 d1 h1 e1;simp only[Option.some.injEq,Prod.mk.injEq]at hev;obtain⟨rfl,rfl,rfl,rfl⟩:=hev;obtain⟨n1,S1⟩:=zJg (id:=id) A (D0 _ A) e1;exact⟨n1,fun m w a rr M F T DD RR Q k=>S1 rr m w a M F T DD RR Q k⟩
   ·cases hev
  | seq x y =>
   simp only[ev]at hev;split at hev
   ·rename_i t1 d1 h1 e1;obtain⟨n1,S1⟩:=A _ _ _ _ _ _ _ _ _ e1;obtain⟨n2,S2⟩:=A _ _ _ _ _ _ _ _ _ hev;refine⟨n1.trans n2,fun m w a rr M F T DD RR Q k=>wpIn_seq ?_⟩
    have F1:=F.le (Nat.le_refl _) n2.next;refine S1 m w a rr M F1 T DD RR _ (fun m1 w1 a1 E1 M1 T1 D1=>?_)
    exact S2 m1 w1 a1 rr M1 (FreeN.after E1 F) T1 D1 (RR.mono E1.mono) Q (fun m' w' a' E' M' T' D'=>k m' w' a' (E1.trans M1 F1 E') M' T' D')
   ·rename_i r hne;obtain⟨n1,S1⟩:=A _ _ _ _ _ _ _ _ _ hev;refine⟨n1,fun m w a rr M F T DD RR Q k=>wpIn_seq ?_⟩
    refine S1 m w a rr M F T DD RR _ (fun m' w' a' E' M' T' D'=>?_)
    have:=k m' w' a' E' M' T' D'
    cases e with
    | normal=>exact absurd hev (hne _ _ _)
    | _=>exact this
  | cond c x y =>
   simp only[ev]at hev;split at hev
   ·rename_i hc;obtain⟨n1,S1⟩:=A _ _ _ _ _ _ _ _ _ hev;exact⟨n1,fun m w a rr M F T DD RR Q k=>wpIn_cond_true (zAS M T hc).bool_inv (S1 m w a rr M F T DD RR Q k)⟩
   ·rename_i hc;obtain⟨n1,S1⟩:=A _ _ _ _ _ _ _ _ _ hev;exact⟨n1,fun m w a rr M F T DD RR Q k=>wpIn_cond_false (zAS M T hc).bool_inv (S1 m w a rr M F T DD RR Q k)⟩
   ·cases hev
  | block id b =>
   simp only[ev]at hev;split at hev
   ·rename_i k0 t1 d1 h1 e1;obtain⟨n1,S1⟩:=A _ _ _ _ _ _ _ _ _ e1
    cases hk:Nat.beq k0 id with
    | true =>
     rw[hk,cond_true]at hev;simp only[Option.some.injEq,Prod.mk.injEq]at hev;obtain⟨rfl,rfl,rfl,rfl⟩:=hev;rw[Nat.beq_eq]at hk;refine⟨n1,fun m w a rr M F T DD RR Q k=>wpIn_block (S1 m w a rr M F T DD RR _ (fun m' w' a' E' M' T' D'=>?_))⟩
     simp only[Exit.inBlock,hk,if_true];exact k m' w' a' E' M' T' D'
    | false =>
     rw[hk,cond_false]at hev;simp only[Option.some.injEq,Prod.mk.injEq]at hev;obtain⟨rfl,rfl,rfl,rfl⟩:=hev;have hk':¬ k0=id:=fun h=>by rw[← Nat.beq_eq,hk]at h;cases h
     refine⟨n1,fun m w a rr M F T DD RR Q k=>wpIn_block (S1 m w a rr M F T DD RR _ (fun m' w' a' E' M' T' D'=>?_))⟩
     simp only[Exit.inBlock,hk',if_false];exact k m' w' a' E' M' T' D'
   ·rename_i r hne;obtain⟨n1,S1⟩:=A _ _ _ _ _ _ _ _ _ hev;refine⟨n1,fun m w a rr M F T DD RR Q k=>wpIn_block (S1 m w a rr M F T DD RR _ (fun m' w' a' E' M' T' D'=>?_))⟩
    have:=k m' w' a' E' M' T' D'
    cases e with
    | exit k0=>exact absurd hev (hne _ _ _ _)
    | _=>exact this
  | loop b =>
   obtain⟨n1,S1⟩:=L rd b t d h e t' d' h' hev;exact⟨n1,fun m w a rr M F T DD RR Q k=>wpIn_loop_rounds (n+1) (S1 m w a rr M F T DD RR Q k)⟩
  | rangeFunc f ps sg bd =>
   simp only[ev]at hev;exact zK2 A hev
  | exit id =>
   simp only[ev,Option.some.injEq,Prod.mk.injEq]at hev;obtain⟨rfl,rfl,rfl,rfl⟩:=hev;exact⟨Keep.refl _,fun m w a rr M F T DD RR Q k=>wpIn_exit (k m w a (EX.refl _ _ _) M T DD)⟩
  | scope b =>
   simp only[ev]at hev;split at hev
   ·cases hev
   ·rename_i r hne;obtain⟨n1,S1⟩:=A _ _ _ _ _ _ _ _ _ hev;refine⟨n1,fun m w a rr M F T DD RR Q k=>zGo (S1 m w a rr M F T DD RR _ (fun m' w' a' E' M' T' D'=>?_))⟩
    have:=k m' w' a' E' M' T' D'
    cases e with
    | goto k0=>exact absurd hev (hne _ _ _ _)
    | _=>exact this
  | goto l =>
   simp only[ev,Option.some.injEq,Prod.mk.injEq]at hev;obtain⟨rfl,rfl,rfl,rfl⟩:=hev;exact⟨Keep.refl _,fun m w a rr M F T DD RR Q k=>wpIn_goto (k m w a (EX.refl _ _ _) M T DD)⟩
  | ret =>
   simp only[ev,Option.some.injEq,Prod.mk.injEq]at hev;obtain⟨rfl,rfl,rfl,rfl⟩:=hev;exact⟨Keep.refl _,fun m w a rr M F T DD RR Q k=>wpIn_ret (k m w a (EX.refl _ _ _) M T DD)⟩
  | refuse s=>simp[ev]at hev
end
end
end Go.Proofs.YtphjgfjbiimkjaaGreat
