/-
  Laws of walks, and walks.
-/
import Derived.Test.YtphjgfjbiimkjaaGreatEc1
import Derived.Test.YtphjgfjbiimkjaaGreatEc2
set_option linter.unusedVariables false
set_option linter.unusedSimpArgs false
set_option maxRecDepth 100000
set_option maxHeartbeats 16000000
namespace Go.Proofs.YtphjgfjbiimkjaaGreat
section
open Go.RowKit
theorem zLX (t:Array Value) (n:Nat) (h:t.size=n):t=((List.range n).map (fun i=>t.getD i undef)).toArray:=by
 subst h;apply Array.ext
 ·simp
 ·intro i h1 h2;simp[h1]
section
variable {P:Program} {ops:Array Oper} {o:Oper} {a:Act} {w:World} {D:Prop}
theorem zQp {j:Nat} {d:Tmp} {want c b:Bool} {v:Value} (hgd:o.guard=some (j,want)) (hj:(ops[j]?).bind (·.dst)=some d) (hy:a.eval (.tmp d)=bif c then .bool b else undef) (hr:c=true->b=want->(execOp a.eval o).run P w=.ok (.value v) w) (hD:¬ D) :
  zA4 P ops o a w (fun v' _=>v'=(bif (c&&(b == want)) then v else undef)/\(D->w.heap.size<=blk v')):=by
 cases c with
 | false =>
  exact zI7 (zIR hgd (zHi hj hy)) ⟨rfl,fun h=>(hD h).elim⟩
 | true =>
  by_cases hb:b=want
  ·subst hb;refine zBo (zAT hgd (zAM hj hy)) (hr rfl rfl) (Below.refl _ w) ⟨?_,fun h=>(hD h).elim⟩
   simp
  ·refine zI7 (zFM hgd (zAM hj hy) hb) ⟨?_,fun h=>(hD h).elim⟩
   have:(b == want)=false:=by simpa using hb
   simp[this]
abbrev iT (c b want:Bool) (v:Value):Value:=bif c&&(b == want) then v else undef
theorem sy_ {j:Nat} {d:Tmp} {want c b:Bool} {v:Value} (hy:a.eval (.tmp d)=bif c then .bool b else undef) (hr:(c&&(b == want))=true->(execOp a.eval o).run P w=.ok (.value v) w) (hgd:o.guard=some (j,want):=by rfl) (hj:(ops[j]?).bind (·.dst)=some d:=by rfl) (hD:¬ D:=by decide) :
  zA4 P ops o a w (fun v' _=>v'=(bif (c&&(b == want)) then v else undef)/\(D->w.heap.size<=blk v')) :=
 zQp hgd hj hy (fun hc hb=>hr (Bool.and_eq_true_iff.2 ⟨hc,beq_iff_eq.2 hb⟩)) hD
theorem zCd {x y:Operand} {b q:Bool} (hop:o.op=Op.pick x y (.const (.bool false))) (hx:a.eval x=.bool b) (hy:b=true->a.eval y=.bool q):(execOp a.eval o).run P w=.ok (.value (.bool (b&&q))) w:=by
 cases b with
 | false=>simp only[execOp,hop,hx];rfl
 | true=>simp only[execOp,hop,hx,hy rfl];rfl
theorem zCV {x y:Operand} {b q:Bool} (hop:o.op=Op.pick x (.const (.bool true)) y) (hx:a.eval x=.bool b) (hy:b=false->a.eval y=.bool q):(execOp a.eval o).run P w=.ok (.value (.bool (b || q))) w:=by
 cases b with
 | true=>simp only[execOp,hop,hx];rfl
 | false=>simp only[execOp,hop,hx,hy rfl];rfl
theorem zAl {x:Operand} {v:Value} (hop:o.op=Op.move x\/o.op=Op.assign x) (hx:a.eval x=v):(execOp a.eval o).run P w=.ok (.value v) w:=by
 rcases hop with h|h<;>(simp only[execOp,h,hx];rfl)
theorem zAL {α:Type} {x u v:α} {c:Bool} (h:x=bif c then u else v) (hc:c=true):x=u:=by rw[h,hc];rfl
end
structure InstD where
 kind:Int
 set:Nat->Nat:=zAG
 next:Int:=0
 other:Int:=0
 slot:Int:=0
 spot:Int:=0
abbrev zAP:=List Int
abbrev Ent:=Nat × Nat × zAP
abbrev Way:=Nat × zAP
def zKp (b:Nat):Bool:=decide (48<=b)&&decide (b<=57) || decide (97<=b)&&decide (b<=122) || decide (65<=b)&&decide (b<=90) || b == 95
def zDN (s:Str) (i:Int):Bool:=if i<0\/(s.length:Int)<=i then false else zKp (byt s i.toNat)
def zBz (k:Int) (s:Str) (i:Int):Bool :=
 if i<0\/(s.length:Int)<i then false
 else if k=8 then i == 0
 else if k=9 then i == s.length
 else if k=10 then i == 0 || byt s (i - 1).toNat == 10
 else if k=11 then i == s.length || byt s i.toNat == 10
 else if k=12 then zDN s (i - 1) != zDN s i
 else if k=13 then zDN s (i - 1) == zDN s i
 else false
def inN (n:Nat) (x:Int):Bool:=decide (0<=x)&&decide (x<n)
def zBG (n:Nat) (x:InstD):Bool :=
 if x.kind=1 then !eqS x.set zAG&&inN n x.next&&(x.other == 0)&&(x.slot == 0)&&(x.spot == 0)
 else if x.kind=2 then eqS x.set zAG&&inN n x.next&&inN n x.other&&(x.slot == 0)&&(x.spot == 0)
 else if x.kind=3 then eqS x.set zAG&&inN n x.next&&(x.other == 0)&&inN 42 x.slot&&(x.spot == 0)
 else if x.kind=4 then eqS x.set zAG&&inN n x.next&&(x.other == 0)&&(x.slot == 0)&&(decide (8<=x.spot)&&decide (x.spot<=13))
 else if x.kind=5\/x.kind=6 then eqS x.set zAG&&(x.next == 0)&&(x.other == 0)&&(x.slot == 0)&&(x.spot == 0)
 else false
def zAq (p:List InstD):Bool:=decide (1<=p.length)&&decide (p.length<=4000)&&p.all (zBG p.length)
def zII (p:List InstD):Nat:=p.foldl (fun m x=>max m x.slot.toNat) 1
def zBY (p:List InstD):Nat:=zII p / 2 * 2+2
section
variable (p:List InstD) (s:Str)
def atI (k:Nat):InstD:=p.getD k {kind:=6}
def sucE (k i:Nat) (sl:zAP):List Ent :=
 let x:=atI p k
 if x.kind=1 then (if i<s.length/\hasB x.set (byt s i)=true then [(x.next.toNat,i+1,sl)] else [])
 else if x.kind=2 then [(x.next.toNat,i,sl),(x.other.toNat,i,sl)]
 else if x.kind=3 then [(x.next.toNat,i,sl.set x.slot.toNat i)]
 else if x.kind=4 then (if zBz x.spot s i=true then [(x.next.toNat,i,sl)] else [])
 else []
def upS (S:Nat->Nat->Bool) (k i:Nat):Nat->Nat->Bool:=fun a j=>if a=k/\j=i then true else S a j
inductive Dfs (f:Option zAP):List Ent->(Nat->Nat->Bool)->Option zAP->Prop
 | nil (S):Dfs f [] S f
 | seen (k i sl r S res) (h:S k i=true) (hr:Dfs f r S res):Dfs f ((k,i,sl)::r) S res
 | hit (k i sl r S) (h:S k i=false) (hk:(atI p k).kind=5):Dfs f ((k,i,sl)::r) S (some sl)
 | go (k i sl r S res) (h:S k i=false) (hk:(atI p k).kind≠5) (hr:Dfs f (sucE p s k i sl++r) (upS S k i) res):Dfs f ((k,i,sl)::r) S res
def zAa (i:Nat):Nat->List Way->List Int->List Int × List Way
 | 0,_,m=>(m,[])
 | _+1,[],m=>(m,[])
 | n+1,(k,sl)::r,m =>
  if m.getD k 0=(i:Int)+1 then zAa i n r m
  else
   let x:=atI p k
   let m':=m.set k ((i:Int)+1)
   if x.kind=2 then zAa i n ((x.next.toNat,sl)::(x.other.toNat,sl)::r) m'
   else if x.kind=3 then zAa i n ((x.next.toNat,sl.set x.slot.toNat i)::r) m'
   else if x.kind=4 then (if zBz x.spot s i=true then zAa i n ((x.next.toNat,sl)::r) m' else zAa i n r m')
   else if x.kind=1\/x.kind=5 then ((zAa i n r m').1,(k,sl)::(zAa i n r m').2)
   else zAa i n r m'
def zBv:Nat:=3 * p.length+2
def zBS (i:Nat):List Way->List Int->List Int × List Way
 | [],m=>(m,[])
 | e::r,m=>((zBS i r (zAa p s i (zBv p) [e] m).1).1,(zAa p s i (zBv p) [e] m).2++(zBS i r (zAa p s i (zBv p) [e] m).1).2)
def zA9 (i:Nat):List Way->Option zAP × List Way
 | []=>(none,[])
 | (k,sl)::r =>
  if (atI p k).kind=5 then (some sl,[])
  else if i<s.length/\hasB (atI p k).set (byt s i)=true then ((zA9 i r).1,((atI p k).next.toNat,sl)::(zA9 i r).2)
  else zA9 i r
def orP (a b:Option zAP):Option zAP:=match a with|some x=>some x|none=>b
def zDS (none_:zAP) (found:Option zAP) (l:List Way):List Way:=match found with|some _=>l|none=>l++[(0,none_)]
def zFu (none_:zAP):Nat->Nat->List Way->Option zAP->List Int->Option zAP
 | 0,_,_,found,_=>found
 | n+1,i,l,found,m =>
  let a:=zBS p s i (zDS none_ found l) m
  let b:=zA9 p s i a.2
  if (orP b.1 found).isSome&&b.2.isEmpty then orP b.1 found else zFu none_ n (i+1) b.2 (orP b.1 found) a.1
def runP (at_:Int):Option zAP :=
 if at_<0\/(s.length:Int)<at_\/zAq p=false then none
 else zFu p s (List.replicate (zBY p) (-1)) (s.length+1 - at_.toNat) at_.toNat [] none (List.replicate p.length 0)
variable {p s}
theorem Dfs.one {f:Option zAP} {st:List Ent} {S:Nat->Nat->Bool} {a b:Option zAP} (h:Dfs p s f st S a) (k:Dfs p s f st S b):a=b:=by
 induction h generalizing b with
 | nil S=>cases k;rfl
 | seen k i sl r S res hs hr ih =>
  cases k with
  | seen _ _ _ _ _ _ _ h=>exact ih h
  | hit _ _ _ _ _ h=>rw[hs]at h;cases h
  | go _ _ _ _ _ _ h=>rw[hs]at h;cases h
 | hit k i sl r S hs hk =>
  cases k with
  | seen _ _ _ _ _ _ h=>rw[hs]at h;cases h
  | hit=>rfl
  | go _ _ _ _ _ _ _ h=>exact absurd hk h
 | go k i sl r S res hs hk hr ih =>
  cases k with
  | seen _ _ _ _ _ _ h=>rw[hs]at h;cases h
  | hit _ _ _ _ _ _ h=>exact absurd h hk
  | go _ _ _ _ _ _ _ _ h=>exact ih h
def Above (i:Nat) (st:List Ent):Prop:=∀ e ∈ st,i<=e.2.1
theorem Above.cons {i:Nat} {e:Ent} {st:List Ent} (h:Above i (e::st)):Above i st:=fun x hx=>h x (List.mem_cons_of_mem _ hx)
theorem Above.append {i:Nat} {a b:List Ent} (h:Above i a) (k:Above i b):Above i (a++b):=fun x hx=>(List.mem_append.1 hx).elim (h x) (k x)
theorem zIO {k i j:Nat} {sl:zAP} (h:j<=i):Above j (sucE p s k i sl):=by
 intro e he;unfold sucE at he;simp only at he;split at he
 ·split at he
  ·simp at he;subst he;simp;omega
  ·cases he
 split at he
 ·simp at he;rcases he with rfl|rfl<;>simpa
 split at he
 ·simp at he;subst he;simpa
 split at he
 ·split at he
  ·simp at he;subst he;simpa
  ·cases he
 ·cases he
theorem Dfs.frame {f:Option zAP} {st:List Ent} {S T:Nat->Nat->Bool} {res:Option zAP} {i:Nat} (h:Dfs p s f st S res) (ha:Above i st) (hST:∀ k j,i<=j->T k j=S k j):Dfs p s f st T res:=by
 induction h generalizing T with
 | nil S=>exact .nil T
 | seen k j sl r S res hs hr ih=>exact .seen _ _ _ _ _ _ ((hST k j (ha _ (List.mem_cons_self ..))).trans hs) (ih ha.cons hST)
 | hit k j sl r S hs hk=>exact .hit _ _ _ _ _ ((hST k j (ha _ (List.mem_cons_self ..))).trans hs) hk
 | go k j sl r S res hs hk hr ih =>
  have hj:=ha _ (List.mem_cons_self ..);refine .go _ _ _ _ _ _ ((hST k j hj).trans hs) hk (ih ((zIO hj).append ha.cons) fun a b hb=>?_)
  unfold upS;split
  ·rfl
  ·exact hST a b hb
def lvl (S:Nat->Nat->Bool) (i:Nat) (m:List Int):Nat->Nat->Bool:=fun k j=>if j=i then m.getD k 0 == (i:Int)+1 else S k j
theorem zPq (S:Nat->Nat->Bool) (i:Nat) (m m':List Int):lvl (lvl S i m) i m'=lvl S i m':=by
 funext k j;unfold lvl;split<;>rfl
theorem Dfs.swap {f g:Option zAP} {A B:List Ent} {res:Option zAP} {i:Nat} {m m':List Int}
  (K:∀ T:Nat->Nat->Bool,(∀ k,T k i=(m.getD k 0 == (i:Int)+1))->Dfs p s g A (lvl T i m') res->Dfs p s f B T res) :
  ∀ {st:List Ent} {V:Nat->Nat->Bool} {r:Option zAP},Dfs p s g st V r->r=res->∀ (X:List Ent) (S:Nat->Nat->Bool),st=X++A->V=lvl S i m'->Above (i+1) X->(∀ k,S k i=(m.getD k 0 == (i:Int)+1))->Dfs p s f (X++B) S res:=by
 intro st V r h
 induction h with
 | nil V =>
  intro hr X S e hV ha hS;obtain⟨rfl,rfl⟩:=List.append_eq_nil_iff.1 e.symm;subst hV hr;exact K S hS (.nil _)
 | seen k j sl r V res' hs hr ih =>
  intro hres X S e hV ha hS
  cases X with
  | nil =>
   simp only[List.nil_append]at e ⊢;subst hV hres;rw[← e]at K;exact K S hS (.seen _ _ _ _ _ _ hs hr)
  | cons x X =>
   simp only[List.cons_append,List.cons.injEq]at e;obtain⟨rfl,rfl⟩:=e;have hj:=ha _ (List.mem_cons_self ..);simp only at hj;refine .seen _ _ _ _ _ _ ?_ (ih hres X S rfl hV ha.cons hS);rw[hV]at hs;unfold lvl at hs
   rwa [if_neg (by omega)]at hs
 | hit k j sl r V hs hk =>
  intro hres X S e hV ha hS
  cases X with
  | nil =>
   simp only[List.nil_append]at e ⊢;subst hV hres;rw[← e]at K;exact K S hS (.hit _ _ _ _ _ hs hk)
  | cons x X =>
   simp only[List.cons_append,List.cons.injEq]at e;obtain⟨rfl,rfl⟩:=e;have hj:=ha _ (List.mem_cons_self ..);simp only at hj;subst hres;refine .hit _ _ _ _ _ ?_ hk;rw[hV]at hs;unfold lvl at hs
   rwa [if_neg (by omega)]at hs
 | go k j sl r V res' hs hk hr ih =>
  intro hres X S e hV ha hS
  cases X with
  | nil =>
   simp only[List.nil_append]at e ⊢;subst hV hres;rw[← e]at K;exact K S hS (.go _ _ _ _ _ _ hs hk hr)
  | cons x X =>
   simp only[List.cons_append,List.cons.injEq]at e;obtain⟨rfl,rfl⟩:=e;have hj:=ha _ (List.mem_cons_self ..);simp only at hj;refine .go _ _ _ _ _ _ ?_ hk ?_
   ·rw[hV]at hs;unfold lvl at hs
    rwa [if_neg (by omega)]at hs
   ·show Dfs p s f (sucE p s k j sl++(X++B)) _ _
    rw[← List.append_assoc];refine ih hres _ (upS S k j) (by rw[List.append_assoc]) ?_ ((zIO hj).append ha.cons) (fun a=>?_)
    ·rw[hV];funext a b;unfold upS lvl
     by_cases hb:b=i
     ·simp[hb];omega
     ·simp[hb]
    ·unfold upS;rw[if_neg (by omega)];exact hS a
def at_ (i:Nat) (l:List Way):List Ent:=l.map fun e=>(e.1,i,e.2)
theorem zKC (i j:Nat) (l:List Way) (h:i<=j):Above i (at_ j l):=by
 intro e he;obtain⟨x,_,rfl⟩:=List.mem_map.1 he;exact h
theorem zMj (i:Nat) (a b:List Way):at_ i (a++b)=at_ i a++at_ i b:=by simp[at_]
def remF (o:Option zAP) (R:List Ent):List Ent:=match o with|some _=>[]|none=>R
theorem zC9 (i:Nat):∀ a b:List Way,zA9 p s i (a++b)=match zA9 p s i a with|(some x,l)=>(some x,l)|(none,l)=>((zA9 p s i b).1,l++(zA9 p s i b).2)
 | [],b=>by simp[zA9]
 | (k,sl)::r,b=>by
  simp only[List.cons_append,zA9];split
  ·rfl
  ·rw[zC9 i r b];split
   ·rcases zA9 p s i r with ⟨_|x,l⟩<;>rfl
   ·rcases zA9 p s i r with ⟨_|x,l⟩<;>rfl
def unm (i:Nat) (m:List Int):Nat:=m.countP (fun x=>!(x == (i:Int)+1))
theorem zJO {i:Nat}:∀ {m:List Int} {k:Nat},k<m.length->m.getD k 0≠(i:Int)+1->unm i (m.set k ((i:Int)+1))+1=unm i m
 | [],_,h,_=>by simp at h
 | x::m,0,_,hx=>by
  have hx':x≠(i:Int)+1:=by simpa using hx
  simp[unm,hx']
 | x::m,k+1,h,hx=>by
  have ih:=zJO (i:=i) (m:=m) (k:=k) (by simpa using h) (by simpa using hx)
  simp only[unm,List.set_cons_succ,List.countP_cons]at *;omega
theorem zER {m:List Int} {k:Nat} {v:Int} (h:k<m.length):(m.set k v).getD k 0=v:=by simp[List.getD_eq_getElem?_getD,h]
theorem zD5 {m:List Int} {k j:Nat} {v:Int} (h:j≠k):(m.set k v).getD j 0=m.getD j 0:=by simp[List.getD_eq_getElem?_getD,Ne.symm h]
theorem zNM (i:Nat) (m:List Int):unm i m<=m.length:=List.countP_le_length
def zEB (p:List InstD):Prop:=0<p.length/\∀ k,k<p.length->((atI p k).kind≠5->(atI p k).next.toNat<p.length)/\((atI p k).kind=2->(atI p k).other.toNat<p.length)
def InW (p:List InstD) (l:List Way):Prop:=∀ e ∈ l,e.1<p.length
theorem InW.cons {e:Way} {l:List Way} (h:e.1<p.length) (k:InW p l):InW p (e::l):=fun x hx=>(List.mem_cons.1 hx).elim (fun e=>e ▸ h) (k x)
theorem InW.tail {e:Way} {l:List Way} (h:InW p (e::l)):InW p l:=fun x hx=>h x (List.mem_cons_of_mem _ hx)
theorem InW.append {a b:List Way} (h:InW p a) (k:InW p b):InW p (a++b):=fun x hx=>(List.mem_append.1 hx).elim (h x) (k x)
theorem zFv (S:Nat->Nat->Bool) (k i:Nat) (m:List Int):lvl (upS S k i) i m=lvl S i m:=by
 funext a j;unfold lvl upS
 by_cases h:j=i
 ·simp[h]
 ·simp[h]
theorem zKM {S:Nat->Nat->Bool} {i:Nat} {m:List Int} (h:∀ k,S k i=(m.getD k 0 == (i:Int)+1)):lvl S i m=S:=by
 funext a j;unfold lvl
 split
 ·rename_i e;subst e;exact(h a).symm
 ·rfl
theorem zNt {T:Nat->Nat->Bool} {i k:Nat} {m:List Int} (hk:k<m.length) (hT:∀ k,T k i=(m.getD k 0 == (i:Int)+1)):∀ a,upS T k i a i=((m.set k ((i:Int)+1)).getD a 0 == (i:Int)+1):=by
 intro a;unfold upS
 by_cases h:a=k
 ·subst h;rw[zER hk];simp
 ·rw[zD5 h];simp[h,hT]
theorem zBx (i:Nat):∀ (n:Nat) (l:List Way) (m:List Int),(zAa p s i n l m).1.length=m.length
 | 0,_,_=>rfl
 | _+1,[],_=>rfl
 | n+1,(k,sl)::r,m=>by
  simp only[zAa];split
  ·exact zBx i n r m
  split
  ·rw[zBx];simp
  split
  ·rw[zBx];simp
  split
  ·split
   ·rw[zBx];simp
   ·rw[zBx];simp
  split
  ·simp only;rw[zBx];simp
  ·rw[zBx];simp
theorem zCn (i:Nat) {j:Int} (hj:(i:Int)+1<=j):∀ (n:Nat) (l:List Way) (m:List Int),(∀ k,m.getD k 0<=j)->∀ k,(zAa p s i n l m).1.getD k 0<=j
 | 0,_,_,h=>h
 | _+1,[],_,h=>h
 | n+1,(k,sl)::r,m,h=>by
  have h':∀ a,(m.set k ((i:Int)+1)).getD a 0<=j:=fun a=>by
   by_cases e:a=k
   ·subst e
    by_cases hl:a<m.length
    ·rw[zER hl];exact hj
    ·rw[List.set_eq_of_length_le (by omega)];exact h a
   ·rw[zD5 e];exact h a
  simp only[zAa];split
  ·exact zCn i hj n r m h
  split
  ·exact zCn i hj n _ _ h'
  split
  ·exact zCn i hj n _ _ h'
  split
  ·split
   ·exact zCn i hj n _ _ h'
   ·exact zCn i hj n _ _ h'
  split
  ·exact zCn i hj n _ _ h'
  ·exact zCn i hj n _ _ h'
theorem zCm (hp:zEB p) (i:Nat):∀ (n:Nat) (l:List Way) (m:List Int),InW p l->InW p (zAa p s i n l m).2
 | 0,_,_,_=>fun _ h=>by cases h
 | _+1,[],_,_=>fun _ h=>by cases h
 | n+1,(k,sl)::r,m,h=>by
  have hk:k<p.length:=h (k,sl) (List.mem_cons_self ..);obtain⟨h1,h2⟩:=hp.2 k hk;simp only[zAa];split
  ·exact zCm hp i n r m h.tail
  split
  ·rename_i hk2;exact zCm hp i n _ _ (.cons (h1 (by rw[hk2];decide)) (.cons (h2 hk2) h.tail))
  split
  ·rename_i hk2;exact zCm hp i n _ _ (.cons (h1 (by rw[hk2];decide)) h.tail)
  split
  ·rename_i hk2;split
   ·exact zCm hp i n _ _ (.cons (h1 (by rw[hk2];decide)) h.tail)
   ·exact zCm hp i n _ _ h.tail
  split
  ·exact .cons hk (zCm hp i n _ _ h.tail)
  ·exact zCm hp i n _ _ h.tail
theorem zJU (hp:zEB p) (i:Nat):∀ l:List Way,InW p l->InW p (zA9 p s i l).2
 | [],_=>fun _ h=>by cases h
 | (k,sl)::r,h=>by
  have hk:k<p.length:=h (k,sl) (List.mem_cons_self ..);simp only[zA9];split
  ·intro _ h;cases h
  split
  ·rename_i h5 _;exact .cons ((hp.2 k hk).1 h5) (zJU hp i r h.tail)
  ·exact zJU hp i r h.tail
theorem zJ8 {i:Nat} (h:s.length<=i):∀ l:List Way,(zA9 p s i l).2=[]
 | []=>rfl
 | (k,sl)::r=>by
  simp only[zA9];split
  ·rfl
  split
  ·omega
  ·exact zJ8 h r
theorem zG9 (i:Nat):∀ (l:List Way) (m:List Int),(zBS p s i l m).1.length=m.length
 | [],_=>rfl
 | e::r,m=>by simp only[zBS];rw[zG9,zBx]
theorem zLq (i:Nat) {j:Int} (hj:(i:Int)+1<=j):∀ (l:List Way) (m:List Int),(∀ k,m.getD k 0<=j)->∀ k,(zBS p s i l m).1.getD k 0<=j
 | [],_,h=>h
 | e::r,m,h=>by simp only[zBS];exact zLq i hj r _ (zCn i hj _ _ _ h)
theorem zJH (hp:zEB p) (i:Nat):∀ (l:List Way) (m:List Int),InW p l->InW p (zBS p s i l m).2
 | [],_,_=>fun _ h=>by cases h
 | e::r,m,h=>by
  simp only[zBS];exact(zCm hp i _ _ _ (.cons (h e (List.mem_cons_self ..)) (fun _ h=>by cases h))).append (zJH hp i r _ h.tail)
theorem zBM (hp:zEB p) (i:Nat):∀ (n:Nat) (l:List Way) (m:List Int),m.length=p.length->InW p l->3 * unm i m+l.length<n->∀ (f:Option zAP) (R:List Ent) (T:Nat->Nat->Bool) (res:Option zAP),(∀ k,T k i=(m.getD k 0 == (i:Int)+1)) ->
  Dfs p s (orP (zA9 p s i (zAa p s i n l m).2).1 f) (at_ (i+1) (zA9 p s i (zAa p s i n l m).2).2++remF (zA9 p s i (zAa p s i n l m).2).1 R) (lvl T i (zAa p s i n l m).1) res->Dfs p s f (at_ i l++R) T res
 | 0,_,_,_,_,h=>by omega
 | n+1,[],m,_,_,_=>fun f R T res hT h=>by
  simp only[zAa,zA9,orP,remF,at_,List.map_nil,List.nil_append]at h ⊢
  rwa [zKM hT]at h
 | n+1,(k,sl)::r,m,hm,hl,hn=>fun f R T res hT h=>by
  have hk:k<p.length:=hl (k,sl) (List.mem_cons_self ..);have hkm:k<m.length:=by omega
  obtain⟨h1,h2⟩:=hp.2 k hk;simp only[List.length_cons]at hn
  show Dfs p s f ((k,i,sl)::(at_ i r++R)) T res
  by_cases hmk:m.getD k 0=(i:Int)+1
  ·simp only[zAa,if_pos hmk]at h;exact .seen _ _ _ _ _ _ (by rw[hT,hmk];simp) (zBM hp i n r m hm hl.tail (by omega) f R T res hT h)
  ·have hu:=zJO hkm hmk;have hTk:T k i=false:=by rw[hT,beq_eq_false_iff_ne];exact hmk
   have hT':=zNt hkm hT;have hm':(m.set k ((i:Int)+1)).length=p.length:=by simpa using hm
   simp only[zAa,if_neg hmk]at h
   by_cases k2:(atI p k).kind=2
   ·simp only[if_pos k2]at h;have hn5:(atI p k).kind≠5:=by rw[k2];decide
    refine .go _ _ _ _ _ _ hTk hn5 ?_
    have hs:sucE p s k i sl=[((atI p k).next.toNat,i,sl),((atI p k).other.toNat,i,sl)]:=by
     unfold sucE;simp[k2]
    rw[hs];exact zBM hp i n _ _ hm' (.cons (h1 hn5) (.cons (h2 k2) hl.tail)) (by simp only[List.length_cons];omega) f R _ res hT' (by rw[zFv];exact h)
   ·simp only[if_neg k2]at h
    by_cases k3:(atI p k).kind=3
    ·simp only[if_pos k3]at h;have hn5:(atI p k).kind≠5:=by rw[k3];decide
     refine .go _ _ _ _ _ _ hTk hn5 ?_
     have hs:sucE p s k i sl=[((atI p k).next.toNat,i,sl.set (atI p k).slot.toNat i)]:=by
      unfold sucE;simp[k3]
     rw[hs];exact zBM hp i n _ _ hm' (.cons (h1 hn5) hl.tail) (by simp only[List.length_cons];omega) f R _ res hT' (by rw[zFv];exact h)
    ·simp only[if_neg k3]at h
     by_cases k4:(atI p k).kind=4
     ·simp only[if_pos k4]at h;have hn5:(atI p k).kind≠5:=by rw[k4];decide
      refine .go _ _ _ _ _ _ hTk hn5 ?_
      by_cases hsp:zBz (atI p k).spot s i=true
      ·simp only[if_pos hsp]at h;have hs:sucE p s k i sl=[((atI p k).next.toNat,i,sl)]:=by
        unfold sucE;simp[k4,hsp]
       rw[hs];exact zBM hp i n _ _ hm' (.cons (h1 hn5) hl.tail) (by simp only[List.length_cons];omega) f R _ res hT' (by rw[zFv];exact h)
      ·simp only[if_neg hsp]at h;have hs:sucE p s k i sl=[]:=by
        unfold sucE;simp[k4,hsp]
       rw[hs];exact zBM hp i n _ _ hm' hl.tail (by omega) f R _ res hT' (by rw[zFv];exact h)
     ·simp only[if_neg k4]at h
      by_cases k15:(atI p k).kind=1\/(atI p k).kind=5
      ·simp only[if_pos k15]at h
       by_cases k5:(atI p k).kind=5
       ·simp only[zA9,if_pos k5,orP,remF,at_,List.map_nil,List.nil_append]at h
        cases h
        exact .hit _ _ _ _ _ hTk k5
       ·have k1:(atI p k).kind=1:=k15.resolve_right k5;refine .go _ _ _ _ _ _ hTk k5 ?_
        by_cases hb:i<s.length/\hasB (atI p k).set (byt s i)=true
        ·simp only[zA9,if_neg k5,if_pos hb]at h;have hs:sucE p s k i sl=[((atI p k).next.toNat,i+1,sl)]:=by
          unfold sucE;simp[k1,hb]
         rw[hs];refine Dfs.swap (i:=i) (m:=m.set k ((i:Int)+1)) (m':=(zAa p s i n r (m.set k ((i:Int)+1))).1) (fun T' hT2 h2=>zBM hp i n r _ hm' hl.tail (by omega) f R T' res hT2 h2) (by rw[zFv];exact h) rfl [_] _ rfl rfl (fun x hx=>?_) hT'
         simp at hx;subst hx;exact Nat.le_refl _
        ·simp only[zA9,if_neg k5,if_neg hb]at h;have hs:sucE p s k i sl=[]:=by
          unfold sucE;simp only[k1];simp[hb]
         rw[hs];exact zBM hp i n _ _ hm' hl.tail (by omega) f R _ res hT' (by rw[zFv];exact h)
      ·simp only[if_neg k15]at h;have hn5:(atI p k).kind≠5:=fun e=>k15 (.inr e)
       have hn1:(atI p k).kind≠1:=fun e=>k15 (.inl e)
       refine .go _ _ _ _ _ _ hTk hn5 ?_
       have hs:sucE p s k i sl=[]:=by
        unfold sucE;simp[k2,k3,k4,hn1]
       rw[hs];exact zBM hp i n _ _ hm' hl.tail (by omega) f R _ res hT' (by rw[zFv];exact h)
theorem zGd (hp:zEB p) (i:Nat):∀ (l:List Way) (m:List Int),m.length=p.length->InW p l->∀ (f:Option zAP) (R:List Ent) (T:Nat->Nat->Bool) (res:Option zAP),(∀ k,T k i=(m.getD k 0 == (i:Int)+1)) ->
  Dfs p s (orP (zA9 p s i (zBS p s i l m).2).1 f) (at_ (i+1) (zA9 p s i (zBS p s i l m).2).2++remF (zA9 p s i (zBS p s i l m).2).1 R) (lvl T i (zBS p s i l m).1) res->Dfs p s f (at_ i l++R) T res
 | [],m,_,_=>fun f R T res hT h=>by
  simp only[zBS,zA9,orP,remF,at_,List.map_nil,List.nil_append]at h ⊢
  rwa [zKM hT]at h
 | e::r,m,hm,hl=>fun f R T res hT h=>by
  have hm1:=(zBx (p:=p) (s:=s) i (zBv p) [e] m).trans hm;have hE:InW p [e]:=.cons (hl e (List.mem_cons_self ..)) (fun _ h=>by cases h)
  have hfu:3 * unm i m+[e].length<zBv p:=by
   have:=zNM i m;simp only[List.length_cons,List.length_nil,zBv];omega
  have key:=zBM (s:=s) hp i (zBv p) [e] m hm hE hfu f (at_ i r++R) T res hT;refine key ?_
  simp only[zBS]at h;rw[zC9]at h
  revert h
  generalize hst:zA9 p s i (zAa p s i (zBv p) [e] m).2=st
  rcases st with ⟨_|x,l1⟩
  ·intro h;simp only[orP,remF]at h ⊢;have hh:=Dfs.swap (p:=p) (s:=s) (f:=f) (g:=orP (zA9 p s i (zBS p s i r (zAa p s i (zBv p) [e] m).1).2).1 f) (A:=at_ (i+1) (zA9 p s i (zBS p s i r (zAa p s i (zBv p) [e] m).1).2).2++remF (zA9 p s i (zBS p s i r (zAa p s i (zBv p) [e] m).1).2).1 R) (B:=at_ i r++R) (res:=res) (i:=i) (m:=(zAa p s i (zBv p) [e] m).1) (m':=(zBS p s i r (zAa p s i (zBv p) [e] m).1).1)
    (fun T' hT2 h2=>zGd hp i r _ hm1 hl.tail f R T' res hT2 h2)
    (st:=at_ (i+1) l1++(at_ (i+1) (zA9 p s i (zBS p s i r (zAa p s i (zBv p) [e] m).1).2).2++remF (zA9 p s i (zBS p s i r (zAa p s i (zBv p) [e] m).1).2).1 R))
    (V:=lvl T i (zBS p s i r (zAa p s i (zBv p) [e] m).1).1) (r:=res)
    (by rw[zMj,List.append_assoc]at h;exact h) rfl (at_ (i+1) l1) (lvl T i (zAa p s i (zBv p) [e] m).1) rfl (zPq ..).symm (zKC _ _ _ (Nat.le_refl _)) (fun k=>by unfold lvl;rw[if_pos rfl])
   exact hh
  ·intro h;simp only[orP,remF,List.append_nil]at h ⊢;exact h.frame (zKC _ _ _ (Nat.le_refl _)) (fun k j hj=>by unfold lvl;rw[if_neg (by omega),if_neg (by omega)])
def zBw (none_:zAP) (found:Option zAP) (i n:Nat):List Ent:=match found with|some _=>[]|none=>(List.range' i n).map fun j=>(0,j,none_)
theorem zMi (hp:zEB p) (none_:zAP):∀ (n i:Nat) (l:List Way) (found:Option zAP) (m:List Int),n+i=s.length+1->(n=0->l=[])->m.length=p.length->(∀ k,m.getD k 0<=i)->InW p l->∀ S:Nat->Nat->Bool,(∀ k j,i<=j->S k j=false) ->
  Dfs p s found (at_ i l++zBw none_ found i n) S (zFu p s none_ n i l found m)
 | 0,i,l,found,m,hn,h0,hm,hmi,hl,S,hS=>by
  rw[h0 rfl];simp only[zFu,at_,List.map_nil,List.nil_append]
  cases found<;>exact .nil S
 | n+1,i,l,found,m,hn,h0,hm,hmi,hl,S,hS=>by
  have e:at_ i l++zBw none_ found i (n+1)=at_ i (zDS none_ found l)++zBw none_ found (i+1) n:=by
   cases found with
   | some x=>rfl
   | none=>simp[zBw,zDS,at_,List.range'_succ]
  have hl':InW p (zDS none_ found l):=by
   cases found with
   | some x=>exact hl
   | none=>exact hl.append (.cons hp.1 (fun _ h=>by cases h))
  have hT:∀ k,S k i=(m.getD k 0 == (i:Int)+1):=fun k=>by
   rw[hS k i (Nat.le_refl _)];have:=hmi k
   symm;rw[beq_eq_false_iff_ne];omega
  rw[e];refine zGd hp i _ m hm hl' found _ S _ hT ?_
  have hin:=zJU (s:=s) hp i _ (zJH (s:=s) hp i _ m hl');have hle:=zLq (p:=p) (s:=s) i (Int.le_refl _) (zDS none_ found l) m (fun k=>Int.le_trans (hmi k) (by omega))
  have hlen:=(zG9 (p:=p) (s:=s) i (zDS none_ found l) m).trans hm;have hend:n=0->(zA9 p s i (zBS p s i (zDS none_ found l) m).2).2=[]:=fun h=>zJ8 (by omega) _
  simp only[zFu]
  revert hin hle hlen hend
  generalize zBS p s i (zDS none_ found l) m=a
  generalize zA9 p s i a.2=b
  intro hin hle hlen hend;have er:remF b.1 (zBw none_ found (i+1) n)=zBw none_ (orP b.1 found) (i+1) n:=by
   rcases b with ⟨_|x,l1⟩<;>rfl
  rw[er];split
  ·rename_i hc;simp only[Bool.and_eq_true,List.isEmpty_iff]at hc;rw[hc.2];obtain⟨x,hx⟩:=Option.isSome_iff_exists.1 hc.1;rw[hx];exact .nil _
  ·exact zMi hp none_ n (i+1) _ _ _ (by omega) hend hlen (fun k=>by have:=hle k;omega) hin _ (fun k j hj=>by unfold lvl;rw[if_neg (by omega)];exact hS k j (by omega))
theorem zFG (h:zAq p=true):zEB p:=by
 simp only[zAq,Bool.and_eq_true,decide_eq_true_eq,List.all_eq_true]at h;obtain⟨⟨h1,_⟩,h3⟩:=h;refine⟨h1,fun k hk=>?_⟩
 have hx:=h3 (atI p k) (by unfold atI;rw[List.getD_eq_getElem?_getD,List.getElem?_eq_getElem hk];exact List.getElem_mem hk)
 revert hx
 generalize atI p k=x
 intro hx;unfold zBG at hx;split at hx
 ·simp[inN]at hx;refine⟨fun _=>by omega,fun h=>by omega⟩
 split at hx
 ·simp[inN]at hx;refine⟨fun _=>by omega,fun h=>by omega⟩
 split at hx
 ·simp[inN]at hx;refine⟨fun _=>by omega,fun h=>by omega⟩
 split at hx
 ·simp[inN]at hx;refine⟨fun _=>by omega,fun h=>by omega⟩
 split at hx
 ·simp at hx;refine⟨fun _=>by omega,fun h=>by omega⟩
 ·cases hx
theorem zJx {a:Int} (h0:0<=a) (h1:a<=s.length) (h:zAq p=true):Dfs p s none (zBw (List.replicate (zBY p) (-1)) none a.toNat (s.length+1 - a.toNat)) (fun _ _=>false) (runP p s a):=by
 unfold runP;rw[if_neg (by rw[h];simp;omega)]
 have:=zMi (s:=s) (zFG h) (List.replicate (zBY p) (-1)) (s.length+1 - a.toNat) a.toNat [] none (List.replicate p.length 0) (by omega) (fun _=>rfl) (by simp) (fun k=>by
  rw[List.getD_eq_getElem?_getD]
  by_cases hk:k<p.length
  ·simp[hk];omega
  ·simp[hk];omega) (fun _ h=>by cases h) (fun _ _=>false) (fun _ _ _=>rfl)
 simpa [at_] using this
end
end
section
open Go.RowKit Go.Shelf
def zAf (x:InstD):Array Value:=#[.int .i64 x.kind,.int .u64 (x.set 0),.int .u64 (x.set 1),.int .u64 (x.set 2),.int .u64 (x.set 3),.int .i64 x.next,.int .i64 x.other,.int .i64 x.slot,.int .i64 x.spot]
abbrev zA8 (x:InstD):Value:=.agg (zAf x)
theorem ig0 (x:InstD):(zAf x)[0]?=some (.int .i64 x.kind):=rfl
theorem ig5 (x:InstD):(zAf x)[5]?=some (.int .i64 x.next):=rfl
theorem ig6 (x:InstD):(zAf x)[6]?=some (.int .i64 x.other):=rfl
theorem ig7 (x:InstD):(zAf x)[7]?=some (.int .i64 x.slot):=rfl
theorem ig8 (x:InstD):(zAf x)[8]?=some (.int .i64 x.spot):=rfl
theorem zDE (xs:List InstD):∀ r ∈ xs.map zAf,r.size=9:=by
 intro r hr;obtain⟨x,_,rfl⟩:=List.mem_map.1 hr;rfl
def InstsR (F:Nat->Prop) (p:Option Addr) (c:Nat) (xs:List InstD) (V:World):Prop:=RdN 9 V F (.slice p xs.length c) (xs.map zAf)
section
variable {F:Nat->Prop} {p:Option Addr} {n c:Nat} {xs:List InstD} {V W w0:World}
theorem InstsR.kept (h:InstsR F p c xs W) (hV:∀ b,F b->V.heap[b]?=W.heap[b]?):InstsR F p c xs V:=RdN.kept h hV
theorem InstsR.bound (h:InstsR F p c xs W):xs.length<=c/\c<=9223372036854775807:=by
 obtain⟨p',c',e,h1,h2,_⟩:=h;simp only[Value.slice.injEq]at e;obtain⟨rfl,_,rfl⟩:=e;rw[List.length_map]at h1;exact⟨h1,by simpa [maxLen] using h2⟩
theorem InstsR.at (h:InstsR F p c xs W) (hn:0<xs.length):∃ b off,p=some ⟨b,off,none⟩:=by
 obtain⟨p',c',e,_,_,_,h3⟩:=h;simp only[Value.slice.injEq]at e;obtain⟨rfl,_,rfl⟩:=e;obtain⟨b,off,e2,_⟩:=h3 0 (zAf xs[0]) (by rw[List.getElem?_map,List.getElem?_eq_getElem hn];rfl)
 exact⟨b,off,e2⟩
theorem InstsR.cells {b off:Nat} (h:InstsR F (some ⟨b,off,none⟩) c xs V) {j:Nat} {x:InstD} (hj:xs[j]?=some x) {q:Nat} (hq:off+j * 9=q):∀ k,k<9->V.cell? ⟨b,q+k,none⟩=(zAf x)[k]?:=by
 obtain⟨p,c,e1,_,_,_,h3⟩:=h;obtain⟨b',off',e2,_,_,h4⟩:=h3 j (zAf x) (by rw[List.getElem?_map,hj];rfl)
 simp only[Value.slice.injEq]at e1;obtain⟨rfl,_,rfl⟩:=e1
 cases e2;subst hq
 exact h4
theorem Hold.insts (hF:∀ b,F b->b<w0.heap.size) (h:InstsR F p c xs w0):Hold w0 w0 [.kn F (InstsR F p c xs)] :=
 (Hold.start w0).know F (InstsR F p c xs) hF (fun i r h=>by simp at h) (fun V hV=>h.kept hV)
end
theorem zAp:rowB Tryz.prog 33 9=true:=by kernel_rfl
theorem zHL:zBa Tryz.prog 33=zAf {kind:=0}:=by kernel_rfl
theorem zGj:(zBa Tryz.prog 33).size=9:=by kernel_rfl
theorem zMa {o:Oper} {a:Act} {w:World} {x y:Operand} {U:TypeId} {s u:Nat->Nat} (hop:o.op=.binOp .neq 30 x y U) (hx:a.eval x=setV s) (hy:a.eval y=setV u):(execOp a.eval o).run Tryz.prog w=.ok (.value (.bool (!(eqS s u)))) w:=by
 have he:=zIg s u w;simp only[execOp,hop,hx,hy];unfold setV;simp[go_sem,he]
theorem zKK {o:Oper} {a:Act} {w:World} (hop:o.op=.build 30 #[]):(execOp a.eval o).run Tryz.prog w=.ok (.value (setV zAG)) w:=by
 have h:(Instr.build 30 #[]).run Tryz.prog w=.ok (setV zAG) w:=by kernel_rfl
 simp only[execOp,hop,List.map_toArray,List.map_nil,Sem.run_bind,h];rfl
theorem zJm {P:Program} {o:Oper} {a:Act} {w:World} {x:Operand} {t e:TypeId} (hu:P.underlying t=some (.slice e)) {p:Option Addr} {n c:Nat} (hop:o.op=Op.call {callee:=Callee.builtin Builtin.len,args:=#[x],argTypes:=#[t]}) (hx:a.eval x=.slice p n c) :
  (execOp a.eval o).run P w=.ok (.value (.int .i64 n)) w:=by
 simp only[execOp,hop,resolve,invoke,builtin,List.map_toArray,List.map_cons,List.map_nil,hx];simp[go_sem,Builtin.len_,run_underlying hu]
theorem zPO (k:Int) (W:World):(Instr.build 33 #[(0,.int .i64 k)]).run Tryz.prog W=.ok (zA8 {kind:=k}) W:=by simp[go_sem];rfl
theorem zPs (k l n:Int) (W:World):(Instr.build 33 #[(0,.int .i64 k),(4,.int .i64 l),(2,.int .i64 n)]).run Tryz.prog W=.ok (zA8 {kind:=k,slot:=l,next:=n}) W:=by simp[go_sem];rfl
theorem zPw (W:World):(Instr.build 33 #[]).run Tryz.prog W=.ok (zA8 {kind:=0}) W:=by kernel_rfl
section
variable {M:Nat->Prop} {ops:Array Oper} {dst:Option Tmp} {ty:TypeId} {pos:String} {aft:Array Edge} {grd:Option (Nat × Bool)} {rest:List Oper} {a:Act} {w w0:World} {l:List Res} {Q:Exit->Act->World->Prop}
theorem gTi {x y:Operand} (h:wpList Tryz.prog ops Q ((⟨dst,.store 33 x y,ty,pos,aft,grd⟩:Oper)::rest) a w):wpList Tryz.prog ops Q ((⟨dst,.store 33 x y,ty,pos,aft,grd⟩:Oper)::rest) a w:=h
theorem gLi {x:Operand} (h:wpList Tryz.prog ops Q ((⟨dst,.load 33 x,ty,pos,aft,grd⟩:Oper)::rest) a w):wpList Tryz.prog ops Q ((⟨dst,.load 33 x,ty,pos,aft,grd⟩:Oper)::rest) a w:=h
theorem gBi {x:Array (Nat × Operand)} (h:wpList Tryz.prog ops Q ((⟨dst,.build 33 x,ty,pos,aft,grd⟩:Oper)::rest) a w):wpList Tryz.prog ops Q ((⟨dst,.build 33 x,ty,pos,aft,grd⟩:Oper)::rest) a w:=h
theorem ib1 {x0:Operand} {k:Int} (h:wpList Tryz.prog ops Q rest (a.put dst (zA8 {kind:=k})) w) (hg:Region.wanted (⟨dst,.build 33 #[(0,x0)],ty,pos,aft,grd⟩:Oper) (yielded ops a.tmps)=true:=by first|rfl|exact zAT rfl (zAM rfl (by first|rfl|(simp only[pe];rfl)))) (h0:a.eval x0=.int .i64 k:=by first|(simp only[pe];done)|(simp only[pe];rfl)):wpList Tryz.prog ops Q ((⟨dst,.build 33 #[(0,x0)],ty,pos,aft,grd⟩:Oper)::rest) a w :=
 zAh hg (by
  simp only[execOp,List.map_toArray,List.map_cons,List.map_nil,h0,Sem.run_bind,zPO];rfl) h
theorem ib4 {x0 x4 x2:Operand} {k l n:Int} (h:wpList Tryz.prog ops Q rest (a.put dst (zA8 {kind:=k,slot:=l,next:=n})) w) (hg:Region.wanted (⟨dst,.build 33 #[(0,x0),(4,x4),(2,x2)],ty,pos,aft,grd⟩:Oper) (yielded ops a.tmps)=true:=by first|rfl|exact zAT rfl (zAM rfl (by first|rfl|(simp only[pe];rfl)))) (h0:a.eval x0=.int .i64 k:=by first|(simp only[pe];done)|(simp only[pe];rfl)) (h4:a.eval x4=.int .i64 l:=by first|(simp only[pe];done)|(simp only[pe];rfl)) (h2:a.eval x2=.int .i64 n:=by first|(simp only[pe];done)|(simp only[pe];rfl)):wpList Tryz.prog ops Q ((⟨dst,.build 33 #[(0,x0),(4,x4),(2,x2)],ty,pos,aft,grd⟩:Oper)::rest) a w :=
 zAh hg (by
  simp only[execOp,List.map_toArray,List.map_cons,List.map_nil,h0,h4,h2,Sem.run_bind,zPs];rfl) h
theorem aTi (H:HoldG M w0 w l) {x y:Operand} {i b:Nat} {cs:Array Value} {U:TypeId} {d:InstD} (h:∀ w',HoldG M w0 w' (l.set i (.blk b (zAf d) U))->wpList Tryz.prog ops Q rest (a.put dst undef) w') (hg:Region.wanted (⟨dst,.store 33 x y,ty,pos,aft,grd⟩:Oper) (yielded ops a.tmps)=true:=by first|rfl|exact zAT rfl (zAM rfl (by first|rfl|(simp only[pe];rfl)))) (hx:a.eval x=.pointer (some ⟨b,0,none⟩):=by exact rfl) (hy:a.eval y=zA8 d:=by first|(simp only[pe];done)|(simp only[pe];rfl)) (hi:At l i (.blk b cs U):=by repeat (first|(with_reducible exact At.zero)|apply At.succ)) (hn:cs.size=9:=by first|(with_reducible exact zGj)|rfl):wpList Tryz.prog ops Q ((⟨dst,.store 33 x y,ty,pos,aft,grd⟩:Oper)::rest) a w :=
 zFr hg 33 x y rfl hx hy H hi (zEX zAp) rfl hn rfl h
theorem aLi (H:HoldG M w0 w l) {x:Operand} {i b:Nat} {cs:Array Value} {U:TypeId} (h:wpList Tryz.prog ops Q rest (a.put dst (.agg cs)) w) (hg:Region.wanted (⟨dst,.load 33 x,ty,pos,aft,grd⟩:Oper) (yielded ops a.tmps)=true:=by first|rfl|exact zAT rfl (zAM rfl (by first|rfl|(simp only[pe];rfl)))) (hx:a.eval x=.pointer (some ⟨b,0,none⟩):=by exact rfl) (hi:At l i (.blk b cs U):=by repeat (first|(with_reducible exact At.zero)|apply At.succ)) (hn:cs.size=9:=by first|(with_reducible exact zGj)|rfl):wpList Tryz.prog ops Q ((⟨dst,.load 33 x,ty,pos,aft,grd⟩:Oper)::rest) a w :=
 zKI hg 33 x rfl hx H hi zAp hn h
theorem aGi (H:HoldG M w0 w l) {T:TypeId} {x:Operand} {i b:Nat} {d:InstD} {U:TypeId} {k:Nat} {v:Value} (h:wpList Tryz.prog ops Q rest (a.put dst v) w) (hg:Region.wanted (⟨dst,.load T x,ty,pos,aft,grd⟩:Oper) (yielded ops a.tmps)=true:=by first|rfl|exact zAT rfl (zAM rfl (by first|rfl|(simp only[pe];rfl)))) (hx:a.eval x=.pointer (some ⟨b,k,none⟩):=by exact rfl) (hi:At l i (.blk b (zAf d) U):=by repeat (first|(with_reducible exact At.zero)|apply At.succ)) (hv:(zAf d)[k]?=some v:=by first|(with_reducible exact ig0 _)|(with_reducible exact ig5 _)|(with_reducible exact ig6 _)|(with_reducible exact ig7 _)|(with_reducible exact ig8 _)) (hT:oneB Tryz.prog T=true:=by first|(with_reducible exact zAF)|(with_reducible exact zA3)|(with_reducible exact zAo)):wpList Tryz.prog ops Q ((⟨dst,.load T x,ty,pos,aft,grd⟩:Oper)::rest) a w :=
 zAE hg T x rfl hx H hi hT hv h
end
end
section
open Go.RowKit Go.Shelf
attribute [local go_sem] Oper.semAt_some
def BytesR (F:Nat->Prop) (p:Option Addr) (c:Nat) (L:Str) (V:World):Prop:=RdN 1 V F (.slice p L.length c) (L.map fun b=>#[.int .u8 b.toNat])
section
variable {F:Nat->Prop} {p:Option Addr} {c:Nat} {L:Str} {V W w0:World}
theorem BytesR.kept (h:BytesR F p c L W) (hV:∀ b,F b->V.heap[b]?=W.heap[b]?):BytesR F p c L V:=RdN.kept h hV
theorem BytesR.bound (h:BytesR F p c L W):L.length<=c/\c<=9223372036854775807:=by
 obtain⟨p',c',e,h1,h2,_⟩:=h;simp only[Value.slice.injEq]at e;obtain⟨rfl,_,rfl⟩:=e;rw[List.length_map]at h1;exact⟨h1,by simpa [maxLen] using h2⟩
theorem BytesR.at (h:BytesR F p c L W) (hn:0<L.length):∃ b off,p=some ⟨b,off,none⟩:=by
 obtain⟨p',c',e,_,_,_,h3⟩:=h;simp only[Value.slice.injEq]at e;obtain⟨rfl,_,rfl⟩:=e;obtain⟨b,off,e2,_⟩:=h3 0 #[.int .u8 L[0].toNat] (by rw[List.getElem?_map,List.getElem?_eq_getElem hn];rfl)
 exact⟨b,off,e2⟩
theorem BytesR.cell {b off:Nat} (h:BytesR F (some ⟨b,off,none⟩) c L V) {j:Nat} (hj:j<L.length):V.cell? ⟨b,off+j,none⟩=some (.int .u8 (byt L j)):=by
 obtain⟨p,c,e1,_,_,_,h3⟩:=h;obtain⟨b',off',e2,_,_,h4⟩:=h3 j #[.int .u8 L[j].toNat] (by rw[List.getElem?_map,List.getElem?_eq_getElem hj];rfl)
 simp only[Value.slice.injEq]at e1;obtain⟨rfl,_,rfl⟩:=e1
 cases e2
 have:=h4 0 (by decide)
 rw[Nat.mul_one,Nat.add_zero]at this;rw[this];simp[byt,List.getD_eq_getElem?_getD,hj]
theorem Hold.bytes (hF:∀ b,F b->b<w0.heap.size) (h:BytesR F p c L w0):Hold w0 w0 [.kn F (BytesR F p c L)] :=
 (Hold.start w0).know F (BytesR F p c L) hF (fun i r h=>by simp at h) (fun V hV=>h.kept hV)
end
theorem zBA {a b:Bool} (h:a=b):Ending.returned (.bool a)=Ending.returned (.bool b):=by rw[h]
theorem zME (bv:Nat):((decide ((48:Int)<=bv)&&decide ((bv:Int)<=57) || decide ((97:Int)<=bv)&&decide ((bv:Int)<=122) || decide ((65:Int)<=bv)&&decide ((bv:Int)<=90)) || (bv:Int) == 95)=zKp bv:=by
 unfold zKp;rw[Bool.eq_iff_iff];simp;omega
theorem zMp:∀ n:Fin 256,zKp n.val=((decide (48<=n.val)&&decide (n.val<=57) || (decide ((97:Int)<=bits BinOp.or IntKind.u8 (n.val:Int) 32)&&decide (bits BinOp.or IntKind.u8 (n.val:Int) 32<=(122:Int)))&&decide (n.val<128)) || n.val == 95):=by decide +kernel
theorem zHW (bv:Nat) (u:Int) (hu:bits BinOp.or IntKind.u8 (bv:Int) 32=u) (hb:bv<256):zKp bv=((decide (48<=bv)&&decide (bv<=57) || (decide ((97:Int)<=u)&&decide (u<=(122:Int)))&&decide (bv<128)) || bv == 95):=by
 subst hu;exact zMp ⟨bv,hb⟩
def zEs (s:Str) (i:Int):Bool:=if i<0\/(s.length:Int)<=i then true else byt s i.toNat == 10
theorem zG1 {L:Str} {j:Nat} (h:j<L.length):zEs L j=(byt L j == 10):=by
 unfold zEs;rw[if_neg (by omega)];simp
theorem zEh {L:Str} {i:Int} (h:i<0\/(L.length:Int)<=i):zEs L i=true:=by
 unfold zEs;rw[if_pos h]
theorem zJz {L:Str} {j:Nat} (h:j<L.length):zDN L j=zKp (byt L j):=by
 unfold zDN;rw[if_neg (by omega)];simp
theorem zEi {L:Str} {i:Int} (h:i<0\/(L.length:Int)<=i):zDN L i=false:=by
 unfold zDN;rw[if_pos h]
theorem zKl (p:Option Addr) (c:Nat) (L:Str) (i:Int) (F:Nat->Prop) (w0:World) (hF:∀ b,F b->b<w0.heap.size) (h:BytesR F p c L w0) :
  Calls Tryz.prog 147 #[.slice p L.length c,.int .i64 i] w0 (Rt (.bool (zDN L i)) w0):=by
 have hp:=h.at;have H:=Hold.bytes hF h;clear h;obtain⟨n,hn⟩:∃ n,L.length=n:=⟨_,rfl⟩;have HN:=Lib.hid hn;rw[hn]at hp ⊢;clear hn
 by_cases h1:i<0
 ·have d1:decide (i<0)=true:=by simp;exact h1
  have E:=Lib.hid (zEi (L:=L) (.inl h1));clear h1
  go_enter Tryz.func147,Tryz.ntmps147
  go_wp2_with (first|fail)
  go_ret;exact⟨by rw[E.out];rfl,H.below⟩
 have d1:decide (i<0)=false:=by simp;omega
 by_cases h2:(n:Int)<=i
 ·have d2:decide ((n:Int)<=i)=true:=by simp;exact h2
  have E:=Lib.hid (zEi (L:=L) (.inr (by rw[HN.out];exact h2)))
  clear h1 h2
  go_enter Tryz.func147,Tryz.ntmps147
  go_wp2_with (first|fail)
  go_ret;exact⟨by rw[E.out];rfl,H.below⟩
 have d2:decide ((n:Int)<=i)=false:=by simp;omega
 obtain⟨j,rfl⟩:∃ j:Nat,i=j:=⟨i.toNat,by omega⟩
 have hj:j<n:=by omega
 obtain⟨b,off,rfl⟩:=hp (by omega)
 have E:=Lib.hid (zJz (L:=L) (j:=j) (by rw[HN.out];exact hj))
 have hcell:∀ V,BytesR F (some ⟨b,off,none⟩) c L V->V.cell? ⟨b,off+j,none⟩=some (.int .u8 (byt L j)):=fun V h=>h.cell (by rw[HN.out];exact hj)
 obtain⟨bv,hv⟩:∃ bv,byt L j=bv:=⟨_,rfl⟩;rw[hv]at hcell E;clear hv h1 h2
 go_enter Tryz.func147,Tryz.ntmps147
 go_upto_region 4 with (first|((with_reducible refine gL ?_);refine zAK wtd_ _ _ rfl rfl zBd (hcell _ (H.kn (i:=0) .zero)) ?_)|fail)
 refine ws_ 26 [fun v _=>v=Value.int .u8 (((bv:Nat):Int)),fun v _=>v=Value.bool (decide ((48)<=(((bv:Nat):Int)))),fun v _=>v=Value.bool (decide ((48)<=(((bv:Nat):Int)))),fun v _=>v=iT (true) (decide ((48)<=(((bv:Nat):Int)))) true (.int .u8 (((bv:Nat):Int))),fun v _=>v=iT (true) (decide ((48)<=(((bv:Nat):Int)))) true (.bool (decide ((((bv:Nat):Int))<=(57)))),fun v _=>v=Value.bool ((decide ((48)<=(((bv:Nat):Int))))&&(decide ((((bv:Nat):Int))<=(57)))),fun v _=>v=Value.bool ((decide ((48)<=(((bv:Nat):Int))))&&(decide ((((bv:Nat):Int))<=(57)))),fun v _=>v=iT (true) ((decide ((48)<=(((bv:Nat):Int))))&&(decide ((((bv:Nat):Int))<=(57)))) false (.int .u8 (((bv:Nat):Int))),fun v _=>v=iT (true) ((decide ((48)<=(((bv:Nat):Int))))&&(decide ((((bv:Nat):Int))<=(57)))) false (.bool (decide ((97)<=(((bv:Nat):Int))))),fun v _=>v=iT (true) ((decide ((48)<=(((bv:Nat):Int))))&&(decide ((((bv:Nat):Int))<=(57)))) false (.bool (decide ((97)<=(((bv:Nat):Int))))),fun v _=>v=iT ((true)&&(((decide ((48)<=(((bv:Nat):Int))))&&(decide ((((bv:Nat):Int))<=(57)))) == false)) (decide ((97)<=(((bv:Nat):Int)))) true (.int .u8 (((bv:Nat):Int))),fun v _=>v=iT ((true)&&(((decide ((48)<=(((bv:Nat):Int))))&&(decide ((((bv:Nat):Int))<=(57)))) == false)) (decide ((97)<=(((bv:Nat):Int)))) true (.bool (decide ((((bv:Nat):Int))<=(122)))),fun v _=>v=iT (true) ((decide ((48)<=(((bv:Nat):Int))))&&(decide ((((bv:Nat):Int))<=(57)))) false (.bool ((decide ((97)<=(((bv:Nat):Int))))&&(decide ((((bv:Nat):Int))<=(122))))),fun v _=>v=Value.bool (((decide ((48)<=(((bv:Nat):Int))))&&(decide ((((bv:Nat):Int))<=(57)))) || ((decide ((97)<=(((bv:Nat):Int))))&&(decide ((((bv:Nat):Int))<=(122))))),fun v _=>v=Value.bool (((decide ((48)<=(((bv:Nat):Int))))&&(decide ((((bv:Nat):Int))<=(57)))) || ((decide ((97)<=(((bv:Nat):Int))))&&(decide ((((bv:Nat):Int))<=(122))))),fun v _=>v=iT (true) (((decide ((48)<=(((bv:Nat):Int))))&&(decide ((((bv:Nat):Int))<=(57)))) || ((decide ((97)<=(((bv:Nat):Int))))&&(decide ((((bv:Nat):Int))<=(122))))) false (.int .u8 (((bv:Nat):Int))),fun v _=>v=iT (true) (((decide ((48)<=(((bv:Nat):Int))))&&(decide ((((bv:Nat):Int))<=(57)))) || ((decide ((97)<=(((bv:Nat):Int))))&&(decide ((((bv:Nat):Int))<=(122))))) false (.bool (decide ((65)<=(((bv:Nat):Int))))),fun v _=>v=iT (true) (((decide ((48)<=(((bv:Nat):Int))))&&(decide ((((bv:Nat):Int))<=(57)))) || ((decide ((97)<=(((bv:Nat):Int))))&&(decide ((((bv:Nat):Int))<=(122))))) false (.bool (decide ((65)<=(((bv:Nat):Int))))),fun v _=>v=iT ((true)&&((((decide ((48)<=(((bv:Nat):Int))))&&(decide ((((bv:Nat):Int))<=(57)))) || ((decide ((97)<=(((bv:Nat):Int))))&&(decide ((((bv:Nat):Int))<=(122))))) == false)) (decide ((65)<=(((bv:Nat):Int)))) true (.int .u8 (((bv:Nat):Int))),fun v _=>v=iT ((true)&&((((decide ((48)<=(((bv:Nat):Int))))&&(decide ((((bv:Nat):Int))<=(57)))) || ((decide ((97)<=(((bv:Nat):Int))))&&(decide ((((bv:Nat):Int))<=(122))))) == false)) (decide ((65)<=(((bv:Nat):Int)))) true (.bool (decide ((((bv:Nat):Int))<=(90)))),fun v _=>v=iT (true) (((decide ((48)<=(((bv:Nat):Int))))&&(decide ((((bv:Nat):Int))<=(57)))) || ((decide ((97)<=(((bv:Nat):Int))))&&(decide ((((bv:Nat):Int))<=(122))))) false (.bool ((decide ((65)<=(((bv:Nat):Int))))&&(decide ((((bv:Nat):Int))<=(90))))),fun v _=>v=Value.bool ((((decide ((48)<=(((bv:Nat):Int))))&&(decide ((((bv:Nat):Int))<=(57)))) || ((decide ((97)<=(((bv:Nat):Int))))&&(decide ((((bv:Nat):Int))<=(122))))) || ((decide ((65)<=(((bv:Nat):Int))))&&(decide ((((bv:Nat):Int))<=(90))))),fun v _=>v=Value.bool ((((decide ((48)<=(((bv:Nat):Int))))&&(decide ((((bv:Nat):Int))<=(57)))) || ((decide ((97)<=(((bv:Nat):Int))))&&(decide ((((bv:Nat):Int))<=(122))))) || ((decide ((65)<=(((bv:Nat):Int))))&&(decide ((((bv:Nat):Int))<=(90))))),fun v _=>v=iT (true) ((((decide ((48)<=(((bv:Nat):Int))))&&(decide ((((bv:Nat):Int))<=(57)))) || ((decide ((97)<=(((bv:Nat):Int))))&&(decide ((((bv:Nat):Int))<=(122))))) || ((decide ((65)<=(((bv:Nat):Int))))&&(decide ((((bv:Nat):Int))<=(90))))) false (.int .u8 (((bv:Nat):Int))),fun v _=>v=iT (true) ((((decide ((48)<=(((bv:Nat):Int))))&&(decide ((((bv:Nat):Int))<=(57)))) || ((decide ((97)<=(((bv:Nat):Int))))&&(decide ((((bv:Nat):Int))<=(122))))) || ((decide ((65)<=(((bv:Nat):Int))))&&(decide ((((bv:Nat):Int))<=(90))))) false (.bool ((((bv:Nat):Int)) == (95))),fun v _=>v=Value.bool (((((decide ((48)<=(((bv:Nat):Int))))&&(decide ((((bv:Nat):Int))<=(57)))) || ((decide ((97)<=(((bv:Nat):Int))))&&(decide ((((bv:Nat):Int))<=(122))))) || ((decide ((65)<=(((bv:Nat):Int))))&&(decide ((((bv:Nat):Int))<=(90))))) || ((((bv:Nat):Int)) == (95)))] ?ob ?en
 case ob =>
  refine⟨?_,?_,?_,?_,?_,?_,?_,?_,?_,?_,?_,?_,?_,?_,?_,?_,?_,?_,?_,?_,?_,?_,?_,?_,?_,?_,trivial⟩<;>intro A W h
  ·exact zAA rfl (zAl (.inl rfl) (h.f 5))
  ·exact zAA rfl ((by have e18:A.eval (.tmp 18)=Value.int .u8 (((bv:Nat):Int)):=h.d 0 18;simp only[execOp,e18];simp[go_sem]))
  ·exact zAA rfl (zAl (.inl rfl) (h.d 1 19))
  ·refine sy_ (h.d 2 20) fun hC=>?_;exact zAl (.inl rfl) (h.f 5)
  ·refine sy_ (h.d 2 20) fun hC=>?_;exact(by have e21:A.eval (.tmp 21)=Value.int .u8 (((bv:Nat):Int)):=zAL (h.d 3 21) hC;simp only[execOp,e21];simp[go_sem])
  ·exact zAA rfl (zCd rfl (h.d 2 20) (fun hb2=>zAL (h.d 4 22) (by (first|(rw[hb2];rfl)|simp[hb2]))))
  ·exact zAA rfl (zAl (.inl rfl) (h.d 5 23))
  ·refine sy_ (h.d 6 24) fun hC=>?_;exact zAl (.inl rfl) (h.f 5)
  ·refine sy_ (h.d 6 24) fun hC=>?_;exact(by have e25:A.eval (.tmp 25)=Value.int .u8 (((bv:Nat):Int)):=zAL (h.d 7 25) hC;simp only[execOp,e25];simp[go_sem])
  ·refine sy_ (h.d 6 24) fun hC=>?_;exact zAl (.inl rfl) (zAL (h.d 8 26) hC)
  ·refine sy_ (h.d 9 27) fun hC=>?_;exact zAl (.inl rfl) (h.f 5)
  ·refine sy_ (h.d 9 27) fun hC=>?_;exact(by have e28:A.eval (.tmp 28)=Value.int .u8 (((bv:Nat):Int)):=zAL (h.d 10 28) hC;simp only[execOp,e28];simp[go_sem])
  ·refine sy_ (h.d 6 24) fun hC=>?_;exact zCd rfl (zAL (h.d 9 27) hC) (fun hb2=>zAL (h.d 11 29) (by (first|(rw[hC,hb2];rfl)|(rw[hb2];rfl)|simp[hb2,hC])))
  ·exact zAA rfl (zCV rfl (h.d 6 24) (fun hb2=>zAL (h.d 12 30) (by (first|(rw[hb2];rfl)|simp[hb2]))))
  ·exact zAA rfl (zAl (.inl rfl) (h.d 13 31))
  ·refine sy_ (h.d 14 32) fun hC=>?_;exact zAl (.inl rfl) (h.f 5)
  ·refine sy_ (h.d 14 32) fun hC=>?_;exact(by have e33:A.eval (.tmp 33)=Value.int .u8 (((bv:Nat):Int)):=zAL (h.d 15 33) hC;simp only[execOp,e33];simp[go_sem])
  ·refine sy_ (h.d 14 32) fun hC=>?_;exact zAl (.inl rfl) (zAL (h.d 16 34) hC)
  ·refine sy_ (h.d 17 35) fun hC=>?_;exact zAl (.inl rfl) (h.f 5)
  ·refine sy_ (h.d 17 35) fun hC=>?_;exact(by have e36:A.eval (.tmp 36)=Value.int .u8 (((bv:Nat):Int)):=zAL (h.d 18 36) hC;simp only[execOp,e36];simp[go_sem])
  ·refine sy_ (h.d 14 32) fun hC=>?_;exact zCd rfl (zAL (h.d 17 35) hC) (fun hb2=>zAL (h.d 19 37) (by (first|(rw[hC,hb2];rfl)|(rw[hb2];rfl)|simp[hb2,hC])))
  ·exact zAA rfl (zCV rfl (h.d 14 32) (fun hb2=>zAL (h.d 20 38) (by (first|(rw[hb2];rfl)|simp[hb2]))))
  ·exact zAA rfl (zAl (.inl rfl) (h.d 21 39))
  ·refine sy_ (h.d 22 40) fun hC=>?_;exact zAl (.inl rfl) (h.f 5)
  ·refine sy_ (h.d 22 40) fun hC=>?_;exact(by have e41:A.eval (.tmp 41)=Value.int .u8 (((bv:Nat):Int)):=zAL (h.d 23 41) hC;simp only[execOp,e41];simp[go_sem])
  ·exact zAA rfl (zCV rfl (h.d 22 40) (fun hb2=>zAL (h.d 24 42) (by (first|(rw[hb2];rfl)|simp[hb2]))))
 case en =>
  intro vals W hbw hv _;have v25:vals 25=_:=hv 25 (by omega)
  simp only[fa,Nat.reduceAdd];rw[v25];clear hv v25
  try simp only[pl]
  have H:=H.call hbw
  go_wp2_with fail
  go_ret;refine⟨?_,H.below⟩;rw[E.out];exact zBA (zME bv)
theorem zPg (p:Option Addr) (c:Nat) (L:Str) (i:Int) (F:Nat->Prop) (w0:World) (hF:∀ b,F b->b<w0.heap.size) (h:BytesR F p c L w0) :
  Calls Tryz.prog 172 #[.slice p L.length c,.int .i64 i] w0 (Rt (.bool (zEs L i)) w0):=by
 have hp:=h.at;have H:=Hold.bytes hF h;clear h;obtain⟨n,hn⟩:∃ n,L.length=n:=⟨_,rfl⟩;have HN:=Lib.hid hn;rw[hn]at hp ⊢;clear hn
 by_cases h1:i<0
 ·have d1:decide (i<0)=true:=by simp;exact h1
  have E:=Lib.hid (zEh (L:=L) (.inl h1));clear h1
  go_enter Tryz.func172,Tryz.ntmps172
  go_wp2_with (first|fail)
  go_ret;exact⟨by rw[E.out];rfl,H.below⟩
 have d1:decide (i<0)=false:=by simp;omega
 by_cases h2:(n:Int)<=i
 ·have d2:decide ((n:Int)<=i)=true:=by simp;exact h2
  have E:=Lib.hid (zEh (L:=L) (.inr (by rw[HN.out];exact h2)))
  clear h1 h2
  go_enter Tryz.func172,Tryz.ntmps172
  go_wp2_with (first|fail)
  go_ret;exact⟨by rw[E.out];rfl,H.below⟩
 have d2:decide ((n:Int)<=i)=false:=by simp;omega
 obtain⟨j,rfl⟩:∃ j:Nat,i=j:=⟨i.toNat,by omega⟩
 have hj:j<n:=by omega
 have d3:decide (n<=j)=false:=decide_eq_false (by omega)
 obtain⟨b,off,rfl⟩:=hp (by omega)
 have E:=Lib.hid (zG1 (L:=L) (j:=j) (by rw[HN.out];exact hj))
 have hcell:∀ V,BytesR F (some ⟨b,off,none⟩) c L V->V.cell? ⟨b,off+j,none⟩=some (.int .u8 (byt L j)):=fun V h=>h.cell (by rw[HN.out];exact hj)
 have hbl:=zKO L j;obtain⟨bv,hv⟩:∃ bv,byt L j=bv:=⟨_,rfl⟩;rw[hv]at hcell E hbl;clear hv h1 h2
 go_enter Tryz.func172,Tryz.ntmps172
 go_wp2_with (first|((with_reducible refine gL ?_);refine zAK wtd_ _ _ rfl rfl zBd (hcell _ (H.kn (i:=0) .zero)) ?_)|fail)
 go_ret;refine⟨?_,H.below⟩;rw[E.out];exact zBA (by rw[Bool.eq_iff_iff];simp;omega)
theorem zPr (p:Option Addr) (c:Nat) (L:Str) (i:Int) (F:Nat->Prop) (w0:World) (hF:∀ b,F b->b<w0.heap.size) (h:BytesR F p c L w0) :
  Calls Tryz.prog 173 #[.slice p L.length c,.int .i64 i] w0 (Rt (.bool (zDN L i)) w0):=by
 have hp:=h.at;have H:=Hold.bytes hF h;clear h;obtain⟨n,hn⟩:∃ n,L.length=n:=⟨_,rfl⟩;have HN:=Lib.hid hn;rw[hn]at hp ⊢;clear hn
 by_cases h1:i<0
 ·have d1:decide (i<0)=true:=by simp;exact h1
  have E:=Lib.hid (zEi (L:=L) (.inl h1));clear h1
  go_enter Tryz.func173,Tryz.ntmps173
  go_wp2_with (first|fail)
  go_ret;exact⟨by rw[E.out];rfl,H.below⟩
 have d1:decide (i<0)=false:=by simp;omega
 by_cases h2:(n:Int)<=i
 ·have d2:decide ((n:Int)<=i)=true:=by simp;exact h2
  have E:=Lib.hid (zEi (L:=L) (.inr (by rw[HN.out];exact h2)))
  clear h1 h2
  go_enter Tryz.func173,Tryz.ntmps173
  go_wp2_with (first|fail)
  go_ret;exact⟨by rw[E.out];rfl,H.below⟩
 have d2:decide ((n:Int)<=i)=false:=by simp;omega
 obtain⟨j,rfl⟩:∃ j:Nat,i=j:=⟨i.toNat,by omega⟩
 have hj:j<n:=by omega
 have d3:decide (n<=j)=false:=decide_eq_false (by omega)
 obtain⟨b,off,rfl⟩:=hp (by omega)
 have E:=Lib.hid (zJz (L:=L) (j:=j) (by rw[HN.out];exact hj))
 have hcell:∀ V,BytesR F (some ⟨b,off,none⟩) c L V->V.cell? ⟨b,off+j,none⟩=some (.int .u8 (byt L j)):=fun V h=>h.cell (by rw[HN.out];exact hj)
 have hbl:=zKO L j;obtain⟨bv,hv⟩:∃ bv,byt L j=bv:=⟨_,rfl⟩;rw[hv]at hcell E hbl;clear hv h1 h2
 go_enter Tryz.func173,Tryz.ntmps173
 go_upto_region 4 with (first|((with_reducible refine gL ?_);refine zAK wtd_ _ _ rfl rfl zBd (hcell _ (H.kn (i:=0) .zero)) ?_)|fail)
 obtain⟨u,hu⟩:∃ u,bits BinOp.or IntKind.u8 (bv:Int) 32=u:=⟨_,rfl⟩;rw[hu];have hu:=Lib.hid hu
 by_cases a1:48<=bv
 ·have ea1:decide (48<=bv)=true:=decide_eq_true a1;have ia1:decide ((48:Int)<=bv)=true:=decide_eq_true (by omega)
  clear a1
  by_cases a2:bv<=57
  ·have ea2:decide (bv<=57)=true:=decide_eq_true a2;have ia2:decide ((bv:Int)<=57)=true:=decide_eq_true (by omega)
   clear a2
   go_wp2_with (first|((with_reducible refine gL ?_);refine zAK wtd_ _ _ rfl rfl zBd (hcell _ (H.kn (i:=0) .zero)) ?_)|fail)
   go_ret;refine⟨?_,H.below⟩;rw[E.out,zHW bv u hu.out hbl];exact zBA (by simp only[ea1,ea2];first|rfl|(rw[Bool.eq_iff_iff];simp<;>omega))
  ·have ea2:decide (bv<=57)=false:=decide_eq_false a2;have ia2:decide ((bv:Int)<=57)=false:=decide_eq_false (by omega)
   clear a2
   by_cases a3:(97:Int)<=u
   ·have ea3:decide ((97:Int)<=u)=true:=decide_eq_true a3;clear a3
    by_cases a4:u<=(122:Int)
    ·have ea4:decide (u<=(122:Int))=true:=decide_eq_true a4;clear a4
     by_cases a5:bv<128
     ·have ea5:decide (bv<128)=true:=decide_eq_true a5;have ia5:decide ((bv:Int)<128)=true:=decide_eq_true (by omega)
      clear a5
      go_wp2_with (first|((with_reducible refine gL ?_);refine zAK wtd_ _ _ rfl rfl zBd (hcell _ (H.kn (i:=0) .zero)) ?_)|fail)
      go_ret;refine⟨?_,H.below⟩;rw[E.out,zHW bv u hu.out hbl];exact zBA (by simp only[ea1,ea2,ea3,ea4,ea5];first|rfl|(rw[Bool.eq_iff_iff];simp<;>omega))
     ·have ea5:decide (bv<128)=false:=decide_eq_false a5;have ia5:decide ((bv:Int)<128)=false:=decide_eq_false (by omega)
      clear a5
      go_wp2_with (first|((with_reducible refine gL ?_);refine zAK wtd_ _ _ rfl rfl zBd (hcell _ (H.kn (i:=0) .zero)) ?_)|fail)
      go_ret;refine⟨?_,H.below⟩;rw[E.out,zHW bv u hu.out hbl];exact zBA (by simp only[ea1,ea2,ea3,ea4,ea5];first|rfl|(rw[Bool.eq_iff_iff];simp<;>omega))
    ·have ea4:decide (u<=(122:Int))=false:=decide_eq_false a4;clear a4
     go_wp2_with (first|((with_reducible refine gL ?_);refine zAK wtd_ _ _ rfl rfl zBd (hcell _ (H.kn (i:=0) .zero)) ?_)|fail)
     go_ret;refine⟨?_,H.below⟩;rw[E.out,zHW bv u hu.out hbl];exact zBA (by simp only[ea1,ea2,ea3,ea4];first|rfl|(rw[Bool.eq_iff_iff];simp<;>omega))
   ·have ea3:decide ((97:Int)<=u)=false:=decide_eq_false a3;clear a3
    go_wp2_with (first|((with_reducible refine gL ?_);refine zAK wtd_ _ _ rfl rfl zBd (hcell _ (H.kn (i:=0) .zero)) ?_)|fail)
    go_ret;refine⟨?_,H.below⟩;rw[E.out,zHW bv u hu.out hbl];exact zBA (by simp only[ea1,ea2,ea3];first|rfl|(rw[Bool.eq_iff_iff];simp<;>omega))
 ·have ea1:decide (48<=bv)=false:=decide_eq_false a1;have ia1:decide ((48:Int)<=bv)=false:=decide_eq_false (by omega)
  clear a1
  by_cases a3:(97:Int)<=u
  ·have ea3:decide ((97:Int)<=u)=true:=decide_eq_true a3;clear a3
   by_cases a4:u<=(122:Int)
   ·have ea4:decide (u<=(122:Int))=true:=decide_eq_true a4;clear a4
    by_cases a5:bv<128
    ·have ea5:decide (bv<128)=true:=decide_eq_true a5;have ia5:decide ((bv:Int)<128)=true:=decide_eq_true (by omega)
     clear a5
     go_wp2_with (first|((with_reducible refine gL ?_);refine zAK wtd_ _ _ rfl rfl zBd (hcell _ (H.kn (i:=0) .zero)) ?_)|fail)
     go_ret;refine⟨?_,H.below⟩;rw[E.out,zHW bv u hu.out hbl];exact zBA (by simp only[ea1,ea3,ea4,ea5];first|rfl|(rw[Bool.eq_iff_iff];simp<;>omega))
    ·have ea5:decide (bv<128)=false:=decide_eq_false a5;have ia5:decide ((bv:Int)<128)=false:=decide_eq_false (by omega)
     clear a5
     go_wp2_with (first|((with_reducible refine gL ?_);refine zAK wtd_ _ _ rfl rfl zBd (hcell _ (H.kn (i:=0) .zero)) ?_)|fail)
     go_ret;refine⟨?_,H.below⟩;rw[E.out,zHW bv u hu.out hbl];exact zBA (by simp only[ea1,ea3,ea4,ea5];first|rfl|(rw[Bool.eq_iff_iff];simp<;>omega))
   ·have ea4:decide (u<=(122:Int))=false:=decide_eq_false a4;clear a4
    go_wp2_with (first|((with_reducible refine gL ?_);refine zAK wtd_ _ _ rfl rfl zBd (hcell _ (H.kn (i:=0) .zero)) ?_)|fail)
    go_ret;refine⟨?_,H.below⟩;rw[E.out,zHW bv u hu.out hbl];exact zBA (by simp only[ea1,ea3,ea4];first|rfl|(rw[Bool.eq_iff_iff];simp<;>omega))
  ·have ea3:decide ((97:Int)<=u)=false:=decide_eq_false a3;clear a3
   go_wp2_with (first|((with_reducible refine gL ?_);refine zAK wtd_ _ _ rfl rfl zBd (hcell _ (H.kn (i:=0) .zero)) ?_)|fail)
   go_ret;refine⟨?_,H.below⟩;rw[E.out,zHW bv u hu.out hbl];exact zBA (by simp only[ea1,ea3];first|rfl|(rw[Bool.eq_iff_iff];simp<;>omega))
theorem zML {k:Int} {L:Str} {j:Nat} (h:j<=L.length):zBz k L j=(if k=8 then (j:Int) == 0 else if k=9 then (j:Int) == L.length else if k=10 then zEs L ((j:Int) - 1) else if k=11 then zEs L j else if k=12 then zDN L ((j:Int) - 1) != zDN L j else if k=13 then zDN L ((j:Int) - 1) == zDN L j else false):=by
 unfold zBz;rw[if_neg (by omega)]
 have h10:((j:Int) == 0 || byt L ((j:Int) - 1).toNat == 10)=zEs L ((j:Int) - 1):=by
  unfold zEs
  by_cases h0:j=0
  ·subst h0;simp
  ·rw[if_neg (by omega)]
   have:((j:Int) == 0)=false:=by rw[beq_eq_false_iff_ne];omega
   rw[this,Bool.false_or]
 have h11:((j:Int) == L.length || byt L (j:Int).toNat == 10)=zEs L j:=by
  unfold zEs
  by_cases h0:j=L.length
  ·rw[if_pos (by omega)];simp[h0]
  ·rw[if_neg (by omega)]
   have:((j:Int) == L.length)=false:=by rw[beq_eq_false_iff_ne];omega
   rw[this,Bool.false_or]
 rw[h10,h11]
theorem zFX {k:Int} {L:Str} {i:Int} (h:i<0\/(L.length:Int)<i):zBz k L i=false:=by
 unfold zBz;rw[if_pos h]
section
variable (p:Option Addr) (c:Nat) (L:Str) (F:Nat->Prop) (w0:World) (hF:∀ b,F b->b<w0.heap.size) (h:BytesR F p c L w0)
include hF h
theorem zO2 (k:Int) (j:Nat) (hj:j<=L.length) :
  Calls Tryz.prog 171 #[.slice p L.length c,.int .i64 k,.int .i64 j] w0 (Rt (.bool (zBz k L j)) w0):=by
 have hbd:=h.bound;have H:=Hold.bytes hF h;clear h;have hfe:=fun w i h1 h2=>zPg p c L i F w h1 h2
 have hwo:=fun w i h1 h2=>zPr p c L i F w h1 h2
 have E:=zML (k:=k) hj;obtain⟨n,hn⟩:∃ n,L.length=n:=⟨_,rfl⟩;rw[hn]at hj hfe hwo hbd E ⊢;clear hn;have hw1:IntKind.i64.wrap ((j:Int) - 1)=(j:Int) - 1:=by rw[IntKind.wrap_i64];omega
 have hfe1:=fun w=>hfe w ((j:Int) - 1)
 have hfe2:=fun w=>hfe w (j:Int)
 have hwo1:=fun w=>hwo w ((j:Int) - 1)
 have hwo2:=fun w=>hwo w (j:Int)
 clear hfe hwo
 generalize zBz k L j=res at E ⊢
 generalize zEs L ((j:Int) - 1)=f1 at E hfe1
 generalize zEs L (j:Int)=f2 at E hfe2
 generalize zDN L ((j:Int) - 1)=q1 at E hwo1
 generalize zDN L (j:Int)=q2 at E hwo2
 by_cases k8:k=8
 ·have d8:(k == 8)=true:=by rw[beq_iff_eq];exact k8
  rw[if_pos k8]at E;have E:=Lib.hid E;clear k8
  go_enter Tryz.func171,Tryz.ntmps171
  go_wp2_with (first|fail)
  go_ret;refine⟨?_,H.below⟩;rw[E.out];rfl
 have d8:(k == 8)=false:=by rw[beq_eq_false_iff_ne];exact k8
 by_cases k9:k=9
 ·have d9:(k == 9)=true:=by rw[beq_iff_eq];exact k9
  rw[if_neg k8,if_pos k9]at E;have E:=Lib.hid E;clear k8 k9
  go_enter Tryz.func171,Tryz.ntmps171
  go_wp2_with (first|fail)
  go_ret;refine⟨?_,H.below⟩;rw[E.out];rfl
 have d9:(k == 9)=false:=by rw[beq_eq_false_iff_ne];exact k9
 by_cases k10:k=10
 ·have d10:(k == 10)=true:=by rw[beq_iff_eq];exact k10
  rw[if_neg k8,if_neg k9,if_pos k10]at E;have E:=Lib.hid E;clear k8 k9 k10
  go_enter Tryz.func171,Tryz.ntmps171
  go_wp2_with (first|fail|(go_at_call 172;refine ch (hfe1 _ (H.knlt (i:=0) .zero) (H.kn (i:=0) .zero)) H ?_;clear H;intro w H))
  go_ret;refine⟨?_,H.below⟩;rw[E.out];rfl
 have d10:(k == 10)=false:=by rw[beq_eq_false_iff_ne];exact k10
 by_cases k11:k=11
 ·have d11:(k == 11)=true:=by rw[beq_iff_eq];exact k11
  rw[if_neg k8,if_neg k9,if_neg k10,if_pos k11]at E;have E:=Lib.hid E;clear k8 k9 k10 k11
  go_enter Tryz.func171,Tryz.ntmps171
  go_wp2_with (first|fail|(go_at_call 172;refine ch (hfe2 _ (H.knlt (i:=0) .zero) (H.kn (i:=0) .zero)) H ?_;clear H;intro w H))
  go_ret;refine⟨?_,H.below⟩;rw[E.out];rfl
 have d11:(k == 11)=false:=by rw[beq_eq_false_iff_ne];exact k11
 by_cases k12:k=12
 ·have d12:(k == 12)=true:=by rw[beq_iff_eq];exact k12
  rw[if_neg k8,if_neg k9,if_neg k10,if_neg k11,if_pos k12]at E;have E:=Lib.hid E;clear k8 k9 k10 k11 k12
  go_enter Tryz.func171,Tryz.ntmps171
  go_wp2_with (first|fail|(go_at_call 173;first|(with_reducible refine ch (hwo1 _ (H.knlt (i:=0) .zero) (H.kn (i:=0) .zero)) H ?_;clear H;intro w H)|(with_reducible refine ch (hwo2 _ (H.knlt (i:=0) .zero) (H.kn (i:=0) .zero)) H ?_;clear H;intro w H)))
  go_ret;refine⟨?_,H.below⟩;rw[E.out];exact zBA (by cases q1<;>cases q2<;>rfl)
 have d12:(k == 12)=false:=by rw[beq_eq_false_iff_ne];exact k12
 by_cases k13:k=13
 ·have d13:(k == 13)=true:=by rw[beq_iff_eq];exact k13
  rw[if_neg k8,if_neg k9,if_neg k10,if_neg k11,if_neg k12,if_pos k13]at E;have E:=Lib.hid E;clear k8 k9 k10 k11 k12 k13
  go_enter Tryz.func171,Tryz.ntmps171
  go_wp2_with (first|fail|(go_at_call 173;first|(with_reducible refine ch (hwo1 _ (H.knlt (i:=0) .zero) (H.kn (i:=0) .zero)) H ?_;clear H;intro w H)|(with_reducible refine ch (hwo2 _ (H.knlt (i:=0) .zero) (H.kn (i:=0) .zero)) H ?_;clear H;intro w H)))
  go_ret;refine⟨?_,H.below⟩;rw[E.out];exact zBA (by cases q1<;>cases q2<;>rfl)
 have d13:(k == 13)=false:=by rw[beq_eq_false_iff_ne];exact k13
 rw[if_neg k8,if_neg k9,if_neg k10,if_neg k11,if_neg k12,if_neg k13]at E;have E:=Lib.hid E;clear k8 k9 k10 k11 k12 k13
 go_enter Tryz.func171,Tryz.ntmps171
 go_wp2_with (first|fail)
 go_ret;exact⟨by rw[E.out];rfl,H.below⟩
theorem zMQ (k:Int) (i:Int) :
  Calls Tryz.prog 170 #[.int .i64 k,.slice p L.length c,.int .i64 i] w0 (Rt (.bool (zBz k L i)) w0):=by
 have hsp:=fun w h1 h2=>zO2 p c L F w h1 h2 k
 have H:=Hold.bytes hF h;clear h
 by_cases h1:i<0
 ·have d1:decide (0<=i)=false:=decide_eq_false (by omega)
  have E:=Lib.hid (zFX (k:=k) (L:=L) (.inl h1));clear h1 hsp
  go_enter Tryz.func170,Tryz.ntmps170
  go_wp2_with (first|fail)
  go_ret;exact⟨by rw[E.out];rfl,H.below⟩
 by_cases h2:(L.length:Int)<i
 ·have d1:decide (0<=i)=true:=decide_eq_true (by omega)
  have d2:decide (i<=(L.length:Int))=false:=decide_eq_false (by omega)
  have E:=Lib.hid (zFX (k:=k) (L:=L) (.inr h2));clear h1 h2 hsp
  go_enter Tryz.func170,Tryz.ntmps170
  go_wp2_with (first|fail)
  go_ret;exact⟨by rw[E.out];rfl,H.below⟩
 obtain⟨j,rfl⟩:∃ j:Nat,i=j:=⟨i.toNat,by omega⟩
 have hj:j<=L.length:=by omega
 have hs2:=fun w h1 h2=>hsp w h1 h2 j hj
 have d2:decide (j<=L.length)=true:=decide_eq_true hj;have d3:decide ((j:Int)<=(L.length:Int))=true:=decide_eq_true (by omega)
 clear hsp h1 h2 hj
 generalize zBz k L j=res at hs2 ⊢
 go_enter Tryz.func170,Tryz.ntmps170
 go_wp2_with (first|fail|((with_reducible refine ch (hs2 _ (H.knlt (i:=0) .zero) (H.kn (i:=0) .zero)) H ?_);clear H;intro w H))
 go_ret;exact⟨zBA (by simp),H.below⟩
theorem zK6 (k:Int) (i:Int) :
  Calls Tryz.prog 109 #[.int .i64 k,.slice p L.length c,.int .i64 i] w0 (Rt (.bool (zBz k L i)) w0):=by
 have hbd:=h.bound;have hp:=h.at;have H:=Hold.bytes hF h;clear h;have hwo:=fun w i h1 h2=>zKl p c L i F w h1 h2
 by_cases h1:i<0
 ·have d1:decide (i<0)=true:=decide_eq_true (by omega)
  have E:=Lib.hid (zFX (k:=k) (L:=L) (.inl h1));clear h1 hwo
  go_enter Tryz.func109,Tryz.ntmps109
  go_wp2_with (first|fail)
  go_ret;exact⟨by rw[E.out];rfl,H.below⟩
 by_cases h2:(L.length:Int)<i
 ·have d1:decide (i<0)=false:=decide_eq_false (by omega)
  have d2:decide ((L.length:Int)<i)=true:=decide_eq_true h2;have E:=Lib.hid (zFX (k:=k) (L:=L) (.inr h2));clear h1 h2 hwo
  go_enter Tryz.func109,Tryz.ntmps109
  go_wp2_with (first|fail)
  go_ret;exact⟨by rw[E.out];rfl,H.below⟩
 obtain⟨j,rfl⟩:∃ j:Nat,i=j:=⟨i.toNat,by omega⟩
 have hj:j<=L.length:=by omega
 have E:=zML (k:=k) hj;obtain⟨n,hn⟩:∃ n,L.length=n:=⟨_,rfl⟩;rw[hn]at hj hwo hbd hp E ⊢;have HN:=Lib.hid hn;clear hn h1 h2;have d2:decide (n<j)=false:=decide_eq_false (by omega)
 have d3:decide ((n:Int)<(j:Int))=false:=decide_eq_false (by omega)
 have hw1:IntKind.i64.wrap ((j:Int) - 1)=(j:Int) - 1:=by rw[IntKind.wrap_i64];omega
 have hwo1:=fun w=>hwo w ((j:Int) - 1)
 have hwo2:=fun w=>hwo w (j:Int)
 clear hwo
 generalize zBz k L j=res at E ⊢
 by_cases k8:k=8
 ·have d8:(k == 8)=true:=by rw[beq_iff_eq];exact k8
  rw[if_pos k8]at E;have E:=Lib.hid E;clear k8
  go_enter Tryz.func109,Tryz.ntmps109
  go_wp2_with (first|fail)
  go_ret;refine⟨?_,H.below⟩;rw[E.out];rfl
 have d8:(k == 8)=false:=by rw[beq_eq_false_iff_ne];exact k8
 by_cases k9:k=9
 ·have d9:(k == 9)=true:=by rw[beq_iff_eq];exact k9
  rw[if_neg k8,if_pos k9]at E;have E:=Lib.hid E;clear k8 k9
  go_enter Tryz.func109,Tryz.ntmps109
  go_wp2_with (first|fail)
  go_ret;refine⟨?_,H.below⟩;rw[E.out];rfl
 have d9:(k == 9)=false:=by rw[beq_eq_false_iff_ne];exact k9
 by_cases k10:k=10
 ·have d10:(k == 10)=true:=by rw[beq_iff_eq];exact k10
  rw[if_neg k8,if_neg k9,if_pos k10]at E
  by_cases h0:j=0
  ·subst h0;have E:res=true:=by rw[E];exact zEh (.inl (by omega))
   have E:=Lib.hid E;clear k8 k9 k10
   go_enter Tryz.func109,Tryz.ntmps109
   go_wp2_with (first|fail)
   go_ret;refine⟨?_,H.below⟩;rw[E.out];rfl
  ·obtain⟨q,rfl⟩:∃ q,j=q+1:=⟨j - 1,by omega⟩
   have E:res=(byt L q == 10):=by rw[E,show ((q+1:Nat):Int) - 1=(q:Int) by omega];exact zG1 (by rw[HN.out];omega)
   have d4:(((q+1:Nat):Int) == 0)=false:=by rw[beq_eq_false_iff_ne];omega
   have d5:((q:Int)+1 == 0)=false:=by rw[beq_eq_false_iff_ne];omega
   obtain⟨b,off,rfl⟩:=hp (by omega)
   have hcell:∀ V,BytesR F (some ⟨b,off,none⟩) c L V->V.cell? ⟨b,off+q,none⟩=some (.int .u8 (byt L q)):=fun V h=>h.cell (by rw[HN.out];omega)
   generalize byt L q=bv at E hcell
   have E:=Lib.hid E;clear hw1 hwo1 hwo2 h0;clear k8 k9 k10
   go_enter Tryz.func109,Tryz.ntmps109
   go_wp2_with (first|((with_reducible refine gL ?_);refine zAK wtd_ _ _ rfl rfl zBd (hcell _ (H.kn (i:=0) .zero)) ?_)|fail)
   go_ret;refine⟨?_,H.below⟩;rw[E.out];exact zBA (by rw[Bool.eq_iff_iff];simp;omega)
 have d10:(k == 10)=false:=by rw[beq_eq_false_iff_ne];exact k10
 by_cases k11:k=11
 ·have d11:(k == 11)=true:=by rw[beq_iff_eq];exact k11
  rw[if_neg k8,if_neg k9,if_neg k10,if_pos k11]at E
  by_cases h0:j=n
  ·subst h0;have E:res=true:=by rw[E];exact zEh (.inr (by rw[HN.out];omega))
   have E:=Lib.hid E;clear k8 k9 k10 k11
   go_enter Tryz.func109,Tryz.ntmps109
   go_wp2_with (first|fail)
   go_ret;refine⟨?_,H.below⟩;rw[E.out];rfl
  ·have E:res=(byt L j == 10):=by rw[E];exact zG1 (by rw[HN.out];omega)
   have d4:((j:Int) == (n:Int))=false:=by rw[beq_eq_false_iff_ne];omega
   obtain⟨b,off,rfl⟩:=hp (by omega)
   have hcell:∀ V,BytesR F (some ⟨b,off,none⟩) c L V->V.cell? ⟨b,off+j,none⟩=some (.int .u8 (byt L j)):=fun V h=>h.cell (by rw[HN.out];omega)
   have hjn:j<n:=by omega
   generalize byt L j=bv at E hcell
   have E:=Lib.hid E;clear hw1 hwo1 hwo2;clear k8 k9 k10 k11
   go_enter Tryz.func109,Tryz.ntmps109
   go_wp2_with (first|((with_reducible refine gL ?_);refine zAK wtd_ _ _ rfl rfl zBd (hcell _ (H.kn (i:=0) .zero)) ?_)|fail)
   go_ret;refine⟨?_,H.below⟩;rw[E.out];exact zBA (by rw[Bool.eq_iff_iff];simp;omega)
 have d11:(k == 11)=false:=by rw[beq_eq_false_iff_ne];exact k11
 generalize zDN L ((j:Int) - 1)=q1 at E hwo1
 generalize zDN L (j:Int)=q2 at E hwo2
 by_cases k12:k=12
 ·have d12:(k == 12)=true:=by rw[beq_iff_eq];exact k12
  rw[if_neg k8,if_neg k9,if_neg k10,if_neg k11,if_pos k12]at E;have E:=Lib.hid E;clear k8 k9 k10 k11 k12
  go_enter Tryz.func109,Tryz.ntmps109
  go_wp2_with (first|(go_at_call 147;first|(with_reducible refine ch (hwo1 _ (H.knlt (i:=0) .zero) (H.kn (i:=0) .zero)) H ?_;clear H;intro w H)|(with_reducible refine ch (hwo2 _ (H.knlt (i:=0) .zero) (H.kn (i:=0) .zero)) H ?_;clear H;intro w H))|fail)
  go_ret;refine⟨?_,H.below⟩;rw[E.out];exact zBA (by cases q1<;>cases q2<;>rfl)
 have d12:(k == 12)=false:=by rw[beq_eq_false_iff_ne];exact k12
 by_cases k13:k=13
 ·have d13:(k == 13)=true:=by rw[beq_iff_eq];exact k13
  rw[if_neg k8,if_neg k9,if_neg k10,if_neg k11,if_neg k12,if_pos k13]at E;have E:=Lib.hid E;clear k8 k9 k10 k11 k12 k13
  go_enter Tryz.func109,Tryz.ntmps109
  go_wp2_with (first|(go_at_call 147;first|(with_reducible refine ch (hwo1 _ (H.knlt (i:=0) .zero) (H.kn (i:=0) .zero)) H ?_;clear H;intro w H)|(with_reducible refine ch (hwo2 _ (H.knlt (i:=0) .zero) (H.kn (i:=0) .zero)) H ?_;clear H;intro w H))|fail)
  go_ret;refine⟨?_,H.below⟩;rw[E.out];exact zBA (by cases q1<;>cases q2<;>rfl)
 have d13:(k == 13)=false:=by rw[beq_eq_false_iff_ne];exact k13
 rw[if_neg k8,if_neg k9,if_neg k10,if_neg k11,if_neg k12,if_neg k13]at E;have E:=Lib.hid E;clear k8 k9 k10 k11 k12 k13
 go_enter Tryz.func109,Tryz.ntmps109
 go_wp2_with (first|fail)
 go_ret;exact⟨by rw[E.out];rfl,H.below⟩
end
end
end Go.Proofs.YtphjgfjbiimkjaaGreat
