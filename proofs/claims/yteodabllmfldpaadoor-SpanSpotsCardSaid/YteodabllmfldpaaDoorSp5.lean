/-
  Laws of walks, and walks.
-/
import Derived.Test.YteodabllmfldpaaDoorSp4
set_option linter.unusedVariables false
set_option linter.unusedSimpArgs false
set_option maxRecDepth 100000
set_option maxHeartbeats 16000000
namespace Go.Proofs.YteodabllmfldpaaDoor
section
open Go.RowKit
structure InstD where
 kind:Int
 set:Nat→Nat:=emptyS
 next:Int:=0
 other:Int:=0
 slot:Int:=0
 spot:Int:=0
abbrev Slots:=List Int
abbrev Ent:=Nat × Nat × Slots
abbrev Way:=Nat × Slots
def wordB (b:Nat):Bool:=decide (48≤b)&&decide (b≤57) || decide (97≤b)&&decide (b≤122) || decide (65≤b)&&decide (b≤90) || b == 95
def wordA (s:Str) (i:Int):Bool:=if i<0∨(s.length:Int)≤i then false else wordB (byt s i.toNat)
def isSpot (k:Int) (s:Str) (i:Int):Bool :=
 if i<0∨(s.length:Int)<i then false
 else if k=8 then i == 0
 else if k=9 then i == s.length
 else if k=10 then i == 0 || byt s (i - 1).toNat == 10
 else if k=11 then i == s.length || byt s i.toNat == 10
 else if k=12 then wordA s (i - 1) != wordA s i
 else if k=13 then wordA s (i - 1) == wordA s i
 else false
section
variable (p:List InstD) (s:Str)
def atI (k:Nat):InstD:=p.getD k {kind:=6}
def sucE (k i:Nat) (sl:Slots):List Ent :=
 let x:=atI p k
 if x.kind=1 then (if i<s.length∧hasB x.set (byt s i)=true then [(x.next.toNat,i+1,sl)] else [])
 else if x.kind=2 then [(x.next.toNat,i,sl),(x.other.toNat,i,sl)]
 else if x.kind=3 then [(x.next.toNat,i,sl.set x.slot.toNat i)]
 else if x.kind=4 then (if isSpot x.spot s i=true then [(x.next.toNat,i,sl)] else [])
 else []
def upS (S:Nat→Nat→Bool) (k i:Nat):Nat→Nat→Bool:=fun a j=>if a=k∧j=i then true else S a j
inductive Dfs (f:Option Slots):List Ent→(Nat→Nat→Bool)→Option Slots→Prop
 | nil (S):Dfs f [] S f
 | seen (k i sl r S res) (h:S k i=true) (hr:Dfs f r S res):Dfs f ((k,i,sl)::r) S res
 | hit (k i sl r S) (h:S k i=false) (hk:(atI p k).kind=5):Dfs f ((k,i,sl)::r) S (some sl)
 | go (k i sl r S res) (h:S k i=false) (hk:(atI p k).kind≠5) (hr:Dfs f (sucE p s k i sl++r) (upS S k i) res):Dfs f ((k,i,sl)::r) S res
variable {p s}
theorem Dfs.one {f:Option Slots} {st:List Ent} {S:Nat→Nat→Bool} {a b:Option Slots} (h:Dfs p s f st S a) (k:Dfs p s f st S b):a=b:=by
 induction h generalizing b with
 | nil S=>cases k;rfl
 | seen k i sl r S res hs hr ih =>
  cases k with
  | seen _ _ _ _ _ _ _ h=>exact ih h
  | hit _ _ _ _ _ h=>rw[hs]at h;cases h
  | go _ _ _ _ _ _ h=>rw[hs]at h;cases h
 | hit k i sl r S hs hk =>
  cases k with
  | seen _ _ _ _ _ _ h=>rw[hs]at h;cases h
  | hit=>rfl
  | go _ _ _ _ _ _ _ h=>exact absurd hk h
 | go k i sl r S res hs hk hr ih =>
  cases k with
  | seen _ _ _ _ _ _ h=>rw[hs]at h;cases h
  | hit _ _ _ _ _ _ h=>exact absurd h hk
  | go _ _ _ _ _ _ _ _ h=>exact ih h
def Above (i:Nat) (st:List Ent):Prop:=∀ e ∈ st,i≤e.2.1
theorem Above.cons {i:Nat} {e:Ent} {st:List Ent} (h:Above i (e::st)):Above i st:=fun x hx=>h x (List.mem_cons_of_mem _ hx)
theorem Above.append {i:Nat} {a b:List Ent} (h:Above i a) (k:Above i b):Above i (a++b):=fun x hx=>(List.mem_append.1 hx).elim (h x) (k x)
theorem suc_above {k i j:Nat} {sl:Slots} (h:j≤i):Above j (sucE p s k i sl):=by
 intro e he;unfold sucE at he;simp only at he;split at he
 ·split at he
  ·simp at he;subst he;simp;omega
  ·cases he
 split at he
 ·simp at he;rcases he with rfl|rfl<;>simpa
 split at he
 ·simp at he;subst he;simpa
 split at he
 ·split at he
  ·simp at he;subst he;simpa
  ·cases he
 ·cases he
theorem Dfs.frame {f:Option Slots} {st:List Ent} {S T:Nat→Nat→Bool} {res:Option Slots} {i:Nat} (h:Dfs p s f st S res) (ha:Above i st) (hST:∀ k j,i≤j→T k j=S k j):Dfs p s f st T res:=by
 induction h generalizing T with
 | nil S=>exact .nil T
 | seen k j sl r S res hs hr ih=>exact .seen _ _ _ _ _ _ ((hST k j (ha _ (List.mem_cons_self ..))).trans hs) (ih ha.cons hST)
 | hit k j sl r S hs hk=>exact .hit _ _ _ _ _ ((hST k j (ha _ (List.mem_cons_self ..))).trans hs) hk
 | go k j sl r S res hs hk hr ih =>
  have hj:=ha _ (List.mem_cons_self ..);refine .go _ _ _ _ _ _ ((hST k j hj).trans hs) hk (ih ((suc_above hj).append ha.cons) fun a b hb=>?_)
  unfold upS;split
  ·rfl
  ·exact hST a b hb
def at_ (i:Nat) (l:List Way):List Ent:=l.map fun e=>(e.1,i,e.2)
def InW (p:List InstD) (l:List Way):Prop:=∀ e ∈ l,e.1<p.length
theorem InW.cons {e:Way} {l:List Way} (h:e.1<p.length) (k:InW p l):InW p (e::l):=fun x hx=>(List.mem_cons.1 hx).elim (fun e=>e ▸ h) (k x)
theorem InW.append {a b:List Way} (h:InW p a) (k:InW p b):InW p (a++b):=fun x hx=>(List.mem_append.1 hx).elim (h x) (k x)
end
end
section
open Go.RowKit Go.Shelf
def instC (x:InstD):Array Value:=#[.int .i64 x.kind,.int .u64 (x.set 0),.int .u64 (x.set 1),.int .u64 (x.set 2),.int .u64 (x.set 3),.int .i64 x.next,.int .i64 x.other,.int .i64 x.slot,.int .i64 x.spot]
def InstsR (F:Nat→Prop) (p:Option Addr) (c:Nat) (xs:List InstD) (V:World):Prop:=RdN 9 V F (.slice p xs.length c) (xs.map instC)
section
variable {F:Nat→Prop} {p:Option Addr} {n c:Nat} {xs:List InstD} {V W w0:World}
theorem InstsR.at (h:InstsR F p c xs W) (hn:0<xs.length):∃ b off,p=some ⟨b,off,none⟩:=by
 obtain⟨p',c',e,_,_,_,h3⟩:=h;simp only[Value.slice.injEq]at e;obtain⟨rfl,_,rfl⟩:=e;obtain⟨b,off,e2,_⟩:=h3 0 (instC xs[0]) (by rw[List.getElem?_map,List.getElem?_eq_getElem hn];rfl)
 exact⟨b,off,e2⟩
theorem InstsR.cells {b off:Nat} (h:InstsR F (some ⟨b,off,none⟩) c xs V) {j:Nat} {x:InstD} (hj:xs[j]?=some x) {q:Nat} (hq:off+j * 9=q):∀ k,k<9→V.cell? ⟨b,q+k,none⟩=(instC x)[k]?:=by
 obtain⟨p,c,e1,_,_,_,h3⟩:=h;obtain⟨b',off',e2,_,_,h4⟩:=h3 j (instC x) (by rw[List.getElem?_map,hj];rfl)
 simp only[Value.slice.injEq]at e1;obtain⟨rfl,_,rfl⟩:=e1
 cases e2;subst hq
 exact h4
end
section
variable {M:Nat→Prop} {ops:Array Oper} {dst:Option Tmp} {ty:TypeId} {pos:String} {aft:Array Edge} {grd:Option (Nat × Bool)} {rest:List Oper} {a:Act} {w w0:World} {l:List Res} {Q:Exit→Act→World→Prop}
end
end
section
open Go.RowKit Go.Shelf
attribute [local go_sem] Oper.semAt_some
def BytesR (F:Nat→Prop) (p:Option Addr) (c:Nat) (L:Str) (V:World):Prop:=RdN 1 V F (.slice p L.length c) (L.map fun b=>#[.int .u8 b.toNat])
section
variable {F:Nat→Prop} {p:Option Addr} {c:Nat} {L:Str} {V W w0:World}
theorem BytesR.kept (h:BytesR F p c L W) (hV:∀ b,F b→V.heap[b]?=W.heap[b]?):BytesR F p c L V:=RdN.kept h hV
theorem BytesR.bound (h:BytesR F p c L W):L.length≤c∧c≤9223372036854775807:=by
 obtain⟨p',c',e,h1,h2,_⟩:=h;simp only[Value.slice.injEq]at e;obtain⟨rfl,_,rfl⟩:=e;rw[List.length_map]at h1;exact⟨h1,by simpa [maxLen] using h2⟩
theorem BytesR.at (h:BytesR F p c L W) (hn:0<L.length):∃ b off,p=some ⟨b,off,none⟩:=by
 obtain⟨p',c',e,_,_,_,h3⟩:=h;simp only[Value.slice.injEq]at e;obtain⟨rfl,_,rfl⟩:=e;obtain⟨b,off,e2,_⟩:=h3 0 #[.int .u8 L[0].toNat] (by rw[List.getElem?_map,List.getElem?_eq_getElem hn];rfl)
 exact⟨b,off,e2⟩
theorem BytesR.cell {b off:Nat} (h:BytesR F (some ⟨b,off,none⟩) c L V) {j:Nat} (hj:j<L.length):V.cell? ⟨b,off+j,none⟩=some (.int .u8 (byt L j)):=by
 obtain⟨p,c,e1,_,_,_,h3⟩:=h;obtain⟨b',off',e2,_,_,h4⟩:=h3 j #[.int .u8 L[j].toNat] (by rw[List.getElem?_map,List.getElem?_eq_getElem hj];rfl)
 simp only[Value.slice.injEq]at e1;obtain⟨rfl,_,rfl⟩:=e1
 cases e2
 have:=h4 0 (by decide)
 rw[Nat.mul_one,Nat.add_zero]at this;rw[this];simp[byt,List.getD_eq_getElem?_getD,hj]
theorem Hold.bytes (hF:∀ b,F b→b<w0.heap.size) (h:BytesR F p c L w0):Hold w0 w0 [.kn F (BytesR F p c L)] :=
 (Hold.start w0).know F (BytesR F p c L) hF (fun i r h=>by simp at h) (fun V hV=>h.kept hV)
end
theorem ret_bool {a b:Bool} (h:a=b):Ending.returned (.bool a)=Ending.returned (.bool b):=by rw[h]
theorem word_expr (bv:Nat):((decide ((48:Int)≤bv)&&decide ((bv:Int)≤57) || decide ((97:Int)≤bv)&&decide ((bv:Int)≤122) || decide ((65:Int)≤bv)&&decide ((bv:Int)≤90)) || (bv:Int) == 95)=wordB bv:=by
 unfold wordB;rw[Bool.eq_iff_iff];simp;omega
theorem wordU_all:∀ n:Fin 256,wordB n.val=((decide (48≤n.val)&&decide (n.val≤57) || (decide ((97:Int)≤bits BinOp.or IntKind.u8 (n.val:Int) 32)&&decide (bits BinOp.or IntKind.u8 (n.val:Int) 32≤(122:Int)))&&decide (n.val<128)) || n.val == 95):=by decide +kernel
theorem wordU (bv:Nat) (u:Int) (hu:bits BinOp.or IntKind.u8 (bv:Int) 32=u) (hb:bv<256):wordB bv=((decide (48≤bv)&&decide (bv≤57) || (decide ((97:Int)≤u)&&decide (u≤(122:Int)))&&decide (bv<128)) || bv == 95):=by
 subst hu;exact wordU_all ⟨bv,hb⟩
def feedA (s:Str) (i:Int):Bool:=if i<0∨(s.length:Int)≤i then true else byt s i.toNat == 10
theorem feedA_in {L:Str} {j:Nat} (h:j<L.length):feedA L j=(byt L j == 10):=by
 unfold feedA;rw[if_neg (by omega)];simp
theorem feedA_out {L:Str} {i:Int} (h:i<0∨(L.length:Int)≤i):feedA L i=true:=by
 unfold feedA;rw[if_pos h]
theorem wordA_in {L:Str} {j:Nat} (h:j<L.length):wordA L j=wordB (byt L j):=by
 unfold wordA;rw[if_neg (by omega)];simp
theorem wordA_out {L:Str} {i:Int} (h:i<0∨(L.length:Int)≤i):wordA L i=false:=by
 unfold wordA;rw[if_pos h]
theorem ref_word12 (p:Option Addr) (c:Nat) (L:Str) (i:Int) (F:Nat→Prop) (w0:World) (hF:∀ b,F b→b<w0.heap.size) (h:BytesR F p c L w0) :
  Calls Tryd.prog 8 #[.slice p L.length c,.int .i64 i] w0 fun e w'=>e=.returned (.bool (wordA L i))∧Below w0.heap.size w0 w':=by
 have hp:=h.at;have H:=Hold.bytes hF h;clear h;obtain⟨n,hn⟩:∃ n,L.length=n:=⟨_,rfl⟩;have HN:=Lib.hid hn;rw[hn]at hp ⊢;clear hn
 by_cases h1:i<0
 ·have d1:decide (i<0)=true:=by simp;exact h1
  have E:=Lib.hid (wordA_out (L:=L) (.inl h1));clear h1
  go_enter Tryd.func8,Tryd.ntmps8
  go_wp2_with (first|fail)
  go_ret;exact⟨by rw[E.out];rfl,H.below⟩
 have d1:decide (i<0)=false:=by simp;omega
 by_cases h2:(n:Int)≤i
 ·have d2:decide ((n:Int)≤i)=true:=by simp;exact h2
  have E:=Lib.hid (wordA_out (L:=L) (.inr (by rw[HN.out];exact h2)))
  clear h1 h2
  go_enter Tryd.func8,Tryd.ntmps8
  go_wp2_with (first|fail)
  go_ret;exact⟨by rw[E.out];rfl,H.below⟩
 have d2:decide ((n:Int)≤i)=false:=by simp;omega
 obtain⟨j,rfl⟩:∃ j:Nat,i=j:=⟨i.toNat,by omega⟩
 have hj:j<n:=by omega
 obtain⟨b,off,rfl⟩:=hp (by omega)
 have E:=Lib.hid (wordA_in (L:=L) (j:=j) (by rw[HN.out];exact hj))
 have hcell:∀ V,BytesR F (some ⟨b,off,none⟩) c L V→V.cell? ⟨b,off+j,none⟩=some (.int .u8 (byt L j)):=fun V h=>h.cell (by rw[HN.out];exact hj)
 obtain⟨bv,hv⟩:∃ bv,byt L j=bv:=⟨_,rfl⟩;rw[hv]at hcell E;clear hv h1 h2
 go_enter Tryd.func8,Tryd.ntmps8
 go_upto_region 4 with (first|((with_reducible refine gL ?_);refine own_load1K wtd_ _ _ rfl rfl one_u8 (hcell _ (H.kn (i:=0) .zero)) ?_)|fail)
 refine wp_region_seq 26 [fun v _=>v=Value.int .u8 (((bv:Nat):Int)),fun v _=>v=Value.bool (decide ((48)≤(((bv:Nat):Int)))),fun v _=>v=Value.bool (decide ((48)≤(((bv:Nat):Int)))),fun v _=>v=iT (true) (decide ((48)≤(((bv:Nat):Int)))) true (.int .u8 (((bv:Nat):Int))),fun v _=>v=iT (true) (decide ((48)≤(((bv:Nat):Int)))) true (.bool (decide ((((bv:Nat):Int))≤(57)))),fun v _=>v=Value.bool ((decide ((48)≤(((bv:Nat):Int))))&&(decide ((((bv:Nat):Int))≤(57)))),fun v _=>v=Value.bool ((decide ((48)≤(((bv:Nat):Int))))&&(decide ((((bv:Nat):Int))≤(57)))),fun v _=>v=iT (true) ((decide ((48)≤(((bv:Nat):Int))))&&(decide ((((bv:Nat):Int))≤(57)))) false (.int .u8 (((bv:Nat):Int))),fun v _=>v=iT (true) ((decide ((48)≤(((bv:Nat):Int))))&&(decide ((((bv:Nat):Int))≤(57)))) false (.bool (decide ((97)≤(((bv:Nat):Int))))),fun v _=>v=iT (true) ((decide ((48)≤(((bv:Nat):Int))))&&(decide ((((bv:Nat):Int))≤(57)))) false (.bool (decide ((97)≤(((bv:Nat):Int))))),fun v _=>v=iT ((true)&&(((decide ((48)≤(((bv:Nat):Int))))&&(decide ((((bv:Nat):Int))≤(57)))) == false)) (decide ((97)≤(((bv:Nat):Int)))) true (.int .u8 (((bv:Nat):Int))),fun v _=>v=iT ((true)&&(((decide ((48)≤(((bv:Nat):Int))))&&(decide ((((bv:Nat):Int))≤(57)))) == false)) (decide ((97)≤(((bv:Nat):Int)))) true (.bool (decide ((((bv:Nat):Int))≤(122)))),fun v _=>v=iT (true) ((decide ((48)≤(((bv:Nat):Int))))&&(decide ((((bv:Nat):Int))≤(57)))) false (.bool ((decide ((97)≤(((bv:Nat):Int))))&&(decide ((((bv:Nat):Int))≤(122))))),fun v _=>v=Value.bool (((decide ((48)≤(((bv:Nat):Int))))&&(decide ((((bv:Nat):Int))≤(57)))) || ((decide ((97)≤(((bv:Nat):Int))))&&(decide ((((bv:Nat):Int))≤(122))))),fun v _=>v=Value.bool (((decide ((48)≤(((bv:Nat):Int))))&&(decide ((((bv:Nat):Int))≤(57)))) || ((decide ((97)≤(((bv:Nat):Int))))&&(decide ((((bv:Nat):Int))≤(122))))),fun v _=>v=iT (true) (((decide ((48)≤(((bv:Nat):Int))))&&(decide ((((bv:Nat):Int))≤(57)))) || ((decide ((97)≤(((bv:Nat):Int))))&&(decide ((((bv:Nat):Int))≤(122))))) false (.int .u8 (((bv:Nat):Int))),fun v _=>v=iT (true) (((decide ((48)≤(((bv:Nat):Int))))&&(decide ((((bv:Nat):Int))≤(57)))) || ((decide ((97)≤(((bv:Nat):Int))))&&(decide ((((bv:Nat):Int))≤(122))))) false (.bool (decide ((65)≤(((bv:Nat):Int))))),fun v _=>v=iT (true) (((decide ((48)≤(((bv:Nat):Int))))&&(decide ((((bv:Nat):Int))≤(57)))) || ((decide ((97)≤(((bv:Nat):Int))))&&(decide ((((bv:Nat):Int))≤(122))))) false (.bool (decide ((65)≤(((bv:Nat):Int))))),fun v _=>v=iT ((true)&&((((decide ((48)≤(((bv:Nat):Int))))&&(decide ((((bv:Nat):Int))≤(57)))) || ((decide ((97)≤(((bv:Nat):Int))))&&(decide ((((bv:Nat):Int))≤(122))))) == false)) (decide ((65)≤(((bv:Nat):Int)))) true (.int .u8 (((bv:Nat):Int))),fun v _=>v=iT ((true)&&((((decide ((48)≤(((bv:Nat):Int))))&&(decide ((((bv:Nat):Int))≤(57)))) || ((decide ((97)≤(((bv:Nat):Int))))&&(decide ((((bv:Nat):Int))≤(122))))) == false)) (decide ((65)≤(((bv:Nat):Int)))) true (.bool (decide ((((bv:Nat):Int))≤(90)))),fun v _=>v=iT (true) (((decide ((48)≤(((bv:Nat):Int))))&&(decide ((((bv:Nat):Int))≤(57)))) || ((decide ((97)≤(((bv:Nat):Int))))&&(decide ((((bv:Nat):Int))≤(122))))) false (.bool ((decide ((65)≤(((bv:Nat):Int))))&&(decide ((((bv:Nat):Int))≤(90))))),fun v _=>v=Value.bool ((((decide ((48)≤(((bv:Nat):Int))))&&(decide ((((bv:Nat):Int))≤(57)))) || ((decide ((97)≤(((bv:Nat):Int))))&&(decide ((((bv:Nat):Int))≤(122))))) || ((decide ((65)≤(((bv:Nat):Int))))&&(decide ((((bv:Nat):Int))≤(90))))),fun v _=>v=Value.bool ((((decide ((48)≤(((bv:Nat):Int))))&&(decide ((((bv:Nat):Int))≤(57)))) || ((decide ((97)≤(((bv:Nat):Int))))&&(decide ((((bv:Nat):Int))≤(122))))) || ((decide ((65)≤(((bv:Nat):Int))))&&(decide ((((bv:Nat):Int))≤(90))))),fun v _=>v=iT (true) ((((decide ((48)≤(((bv:Nat):Int))))&&(decide ((((bv:Nat):Int))≤(57)))) || ((decide ((97)≤(((bv:Nat):Int))))&&(decide ((((bv:Nat):Int))≤(122))))) || ((decide ((65)≤(((bv:Nat):Int))))&&(decide ((((bv:Nat):Int))≤(90))))) false (.int .u8 (((bv:Nat):Int))),fun v _=>v=iT (true) ((((decide ((48)≤(((bv:Nat):Int))))&&(decide ((((bv:Nat):Int))≤(57)))) || ((decide ((97)≤(((bv:Nat):Int))))&&(decide ((((bv:Nat):Int))≤(122))))) || ((decide ((65)≤(((bv:Nat):Int))))&&(decide ((((bv:Nat):Int))≤(90))))) false (.bool ((((bv:Nat):Int)) == (95))),fun v _=>v=Value.bool (((((decide ((48)≤(((bv:Nat):Int))))&&(decide ((((bv:Nat):Int))≤(57)))) || ((decide ((97)≤(((bv:Nat):Int))))&&(decide ((((bv:Nat):Int))≤(122))))) || ((decide ((65)≤(((bv:Nat):Int))))&&(decide ((((bv:Nat):Int))≤(90))))) || ((((bv:Nat):Int)) == (95)))] (fun _=>false) (by kernel_rfl) (by kernel_rfl) (by repeat (first|exact trivial|refine⟨stable_eq _,?_⟩)) (fun _ _ h=>by cases h) ?ob ?en
 case ob =>
  refine⟨?_,?_,?_,?_,?_,?_,?_,?_,?_,?_,?_,?_,?_,?_,?_,?_,?_,?_,?_,?_,?_,?_,?_,?_,?_,?_,trivial⟩<;>intro A W h
  ·exact rs_pure rfl (run_cp (.inl rfl) (h.frame 5 rfl))
  ·exact rs_pure rfl ((by have e18:A.eval (.tmp 18)=Value.int .u8 (((bv:Nat):Int)):=h.dep 0 18 rfl rfl;simp only[execOp,e18];simp[go_sem]))
  ·exact rs_pure rfl (run_cp (.inl rfl) (h.dep 1 19 rfl rfl))
  ·refine sy_ (h.dep 2 20 rfl rfl) fun hC=>?_;exact run_cp (.inl rfl) (h.frame 5 rfl)
  ·refine sy_ (h.dep 2 20 rfl rfl) fun hC=>?_;exact(by have e21:A.eval (.tmp 21)=Value.int .u8 (((bv:Nat):Int)):=bif_at (h.dep 3 21 rfl rfl) hC;simp only[execOp,e21];simp[go_sem])
  ·exact rs_pure rfl (run_and rfl (h.dep 2 20 rfl rfl) (fun hb2=>bif_at (h.dep 4 22 rfl rfl) (by (first|(rw[hb2];rfl)|simp[hb2]))))
  ·exact rs_pure rfl (run_cp (.inl rfl) (h.dep 5 23 rfl rfl))
  ·refine sy_ (h.dep 6 24 rfl rfl) fun hC=>?_;exact run_cp (.inl rfl) (h.frame 5 rfl)
  ·refine sy_ (h.dep 6 24 rfl rfl) fun hC=>?_;exact(by have e25:A.eval (.tmp 25)=Value.int .u8 (((bv:Nat):Int)):=bif_at (h.dep 7 25 rfl rfl) hC;simp only[execOp,e25];simp[go_sem])
  ·refine sy_ (h.dep 6 24 rfl rfl) fun hC=>?_;exact run_cp (.inl rfl) (bif_at (h.dep 8 26 rfl rfl) hC)
  ·refine sy_ (h.dep 9 27 rfl rfl) fun hC=>?_;exact run_cp (.inl rfl) (h.frame 5 rfl)
  ·refine sy_ (h.dep 9 27 rfl rfl) fun hC=>?_;exact(by have e28:A.eval (.tmp 28)=Value.int .u8 (((bv:Nat):Int)):=bif_at (h.dep 10 28 rfl rfl) hC;simp only[execOp,e28];simp[go_sem])
  ·refine sy_ (h.dep 6 24 rfl rfl) fun hC=>?_;exact run_and rfl (bif_at (h.dep 9 27 rfl rfl) hC) (fun hb2=>bif_at (h.dep 11 29 rfl rfl) (by (first|(rw[hC,hb2];rfl)|(rw[hb2];rfl)|simp[hb2,hC])))
  ·exact rs_pure rfl (run_or rfl (h.dep 6 24 rfl rfl) (fun hb2=>bif_at (h.dep 12 30 rfl rfl) (by (first|(rw[hb2];rfl)|simp[hb2]))))
  ·exact rs_pure rfl (run_cp (.inl rfl) (h.dep 13 31 rfl rfl))
  ·refine sy_ (h.dep 14 32 rfl rfl) fun hC=>?_;exact run_cp (.inl rfl) (h.frame 5 rfl)
  ·refine sy_ (h.dep 14 32 rfl rfl) fun hC=>?_;exact(by have e33:A.eval (.tmp 33)=Value.int .u8 (((bv:Nat):Int)):=bif_at (h.dep 15 33 rfl rfl) hC;simp only[execOp,e33];simp[go_sem])
  ·refine sy_ (h.dep 14 32 rfl rfl) fun hC=>?_;exact run_cp (.inl rfl) (bif_at (h.dep 16 34 rfl rfl) hC)
  ·refine sy_ (h.dep 17 35 rfl rfl) fun hC=>?_;exact run_cp (.inl rfl) (h.frame 5 rfl)
  ·refine sy_ (h.dep 17 35 rfl rfl) fun hC=>?_;exact(by have e36:A.eval (.tmp 36)=Value.int .u8 (((bv:Nat):Int)):=bif_at (h.dep 18 36 rfl rfl) hC;simp only[execOp,e36];simp[go_sem])
  ·refine sy_ (h.dep 14 32 rfl rfl) fun hC=>?_;exact run_and rfl (bif_at (h.dep 17 35 rfl rfl) hC) (fun hb2=>bif_at (h.dep 19 37 rfl rfl) (by (first|(rw[hC,hb2];rfl)|(rw[hb2];rfl)|simp[hb2,hC])))
  ·exact rs_pure rfl (run_or rfl (h.dep 14 32 rfl rfl) (fun hb2=>bif_at (h.dep 20 38 rfl rfl) (by (first|(rw[hb2];rfl)|simp[hb2]))))
  ·exact rs_pure rfl (run_cp (.inl rfl) (h.dep 21 39 rfl rfl))
  ·refine sy_ (h.dep 22 40 rfl rfl) fun hC=>?_;exact run_cp (.inl rfl) (h.frame 5 rfl)
  ·refine sy_ (h.dep 22 40 rfl rfl) fun hC=>?_;exact(by have e41:A.eval (.tmp 41)=Value.int .u8 (((bv:Nat):Int)):=bif_at (h.dep 23 41 rfl rfl) hC;simp only[execOp,e41];simp[go_sem])
  ·exact rs_pure rfl (run_or rfl (h.dep 22 40 rfl rfl) (fun hb2=>bif_at (h.dep 24 42 rfl rfl) (by (first|(rw[hb2];rfl)|simp[hb2]))))
 case en =>
  intro vals W hbw hv _;have v25:vals 25=_:=hv 25 (by omega)
  simp only[List.take_succ_cons,List.take_zero,List.drop_succ_cons,List.drop_zero,List.drop_nil,List.take_nil,fillAll,Nat.zero_add,Nat.reduceAdd];rw[v25];clear hv v25
  try simp only[pl]
  have H:=H.call hbw
  go_wp2_with fail
  go_ret;refine⟨?_,H.below⟩;rw[E.out];exact ret_bool (word_expr bv)
theorem sp_feed (p:Option Addr) (c:Nat) (L:Str) (i:Int) (F:Nat→Prop) (w0:World) (hF:∀ b,F b→b<w0.heap.size) (h:BytesR F p c L w0) :
  Calls Tryd.prog 14 #[.slice p L.length c,.int .i64 i] w0 fun e w'=>e=.returned (.bool (feedA L i))∧Below w0.heap.size w0 w':=by
 have hp:=h.at;have H:=Hold.bytes hF h;clear h;obtain⟨n,hn⟩:∃ n,L.length=n:=⟨_,rfl⟩;have HN:=Lib.hid hn;rw[hn]at hp ⊢;clear hn
 by_cases h1:i<0
 ·have d1:decide (i<0)=true:=by simp;exact h1
  have E:=Lib.hid (feedA_out (L:=L) (.inl h1));clear h1
  go_enter Tryd.func14,Tryd.ntmps14
  go_wp2_with (first|fail)
  go_ret;exact⟨by rw[E.out];rfl,H.below⟩
 have d1:decide (i<0)=false:=by simp;omega
 by_cases h2:(n:Int)≤i
 ·have d2:decide ((n:Int)≤i)=true:=by simp;exact h2
  have E:=Lib.hid (feedA_out (L:=L) (.inr (by rw[HN.out];exact h2)))
  clear h1 h2
  go_enter Tryd.func14,Tryd.ntmps14
  go_wp2_with (first|fail)
  go_ret;exact⟨by rw[E.out];rfl,H.below⟩
 have d2:decide ((n:Int)≤i)=false:=by simp;omega
 obtain⟨j,rfl⟩:∃ j:Nat,i=j:=⟨i.toNat,by omega⟩
 have hj:j<n:=by omega
 have d3:decide (n≤j)=false:=decide_eq_false (by omega)
 obtain⟨b,off,rfl⟩:=hp (by omega)
 have E:=Lib.hid (feedA_in (L:=L) (j:=j) (by rw[HN.out];exact hj))
 have hcell:∀ V,BytesR F (some ⟨b,off,none⟩) c L V→V.cell? ⟨b,off+j,none⟩=some (.int .u8 (byt L j)):=fun V h=>h.cell (by rw[HN.out];exact hj)
 have hbl:=byt_lt L j;obtain⟨bv,hv⟩:∃ bv,byt L j=bv:=⟨_,rfl⟩;rw[hv]at hcell E hbl;clear hv h1 h2
 go_enter Tryd.func14,Tryd.ntmps14
 go_wp2_with (first|((with_reducible refine gL ?_);refine own_load1K wtd_ _ _ rfl rfl one_u8 (hcell _ (H.kn (i:=0) .zero)) ?_)|fail)
 go_ret;refine⟨?_,H.below⟩;rw[E.out];exact ret_bool (by rw[Bool.eq_iff_iff];simp;omega)
theorem sp_word (p:Option Addr) (c:Nat) (L:Str) (i:Int) (F:Nat→Prop) (w0:World) (hF:∀ b,F b→b<w0.heap.size) (h:BytesR F p c L w0) :
  Calls Tryd.prog 15 #[.slice p L.length c,.int .i64 i] w0 fun e w'=>e=.returned (.bool (wordA L i))∧Below w0.heap.size w0 w':=by
 have hp:=h.at;have H:=Hold.bytes hF h;clear h;obtain⟨n,hn⟩:∃ n,L.length=n:=⟨_,rfl⟩;have HN:=Lib.hid hn;rw[hn]at hp ⊢;clear hn
 by_cases h1:i<0
 ·have d1:decide (i<0)=true:=by simp;exact h1
  have E:=Lib.hid (wordA_out (L:=L) (.inl h1));clear h1
  go_enter Tryd.func15,Tryd.ntmps15
  go_wp2_with (first|fail)
  go_ret;exact⟨by rw[E.out];rfl,H.below⟩
 have d1:decide (i<0)=false:=by simp;omega
 by_cases h2:(n:Int)≤i
 ·have d2:decide ((n:Int)≤i)=true:=by simp;exact h2
  have E:=Lib.hid (wordA_out (L:=L) (.inr (by rw[HN.out];exact h2)))
  clear h1 h2
  go_enter Tryd.func15,Tryd.ntmps15
  go_wp2_with (first|fail)
  go_ret;exact⟨by rw[E.out];rfl,H.below⟩
 have d2:decide ((n:Int)≤i)=false:=by simp;omega
 obtain⟨j,rfl⟩:∃ j:Nat,i=j:=⟨i.toNat,by omega⟩
 have hj:j<n:=by omega
 have d3:decide (n≤j)=false:=decide_eq_false (by omega)
 obtain⟨b,off,rfl⟩:=hp (by omega)
 have E:=Lib.hid (wordA_in (L:=L) (j:=j) (by rw[HN.out];exact hj))
 have hcell:∀ V,BytesR F (some ⟨b,off,none⟩) c L V→V.cell? ⟨b,off+j,none⟩=some (.int .u8 (byt L j)):=fun V h=>h.cell (by rw[HN.out];exact hj)
 have hbl:=byt_lt L j;obtain⟨bv,hv⟩:∃ bv,byt L j=bv:=⟨_,rfl⟩;rw[hv]at hcell E hbl;clear hv h1 h2
 go_enter Tryd.func15,Tryd.ntmps15
 go_upto_region 4 with (first|((with_reducible refine gL ?_);refine own_load1K wtd_ _ _ rfl rfl one_u8 (hcell _ (H.kn (i:=0) .zero)) ?_)|fail)
 obtain⟨u,hu⟩:∃ u,bits BinOp.or IntKind.u8 (bv:Int) 32=u:=⟨_,rfl⟩;rw[hu];have hu:=Lib.hid hu
 by_cases a1:48≤bv
 ·have ea1:decide (48≤bv)=true:=decide_eq_true a1;have ia1:decide ((48:Int)≤bv)=true:=decide_eq_true (by omega)
  clear a1
  by_cases a2:bv≤57
  ·have ea2:decide (bv≤57)=true:=decide_eq_true a2;have ia2:decide ((bv:Int)≤57)=true:=decide_eq_true (by omega)
   clear a2
   go_wp2_with (first|((with_reducible refine gL ?_);refine own_load1K wtd_ _ _ rfl rfl one_u8 (hcell _ (H.kn (i:=0) .zero)) ?_)|fail)
   go_ret;refine⟨?_,H.below⟩;rw[E.out,wordU bv u hu.out hbl];exact ret_bool (by simp only[ea1,ea2];first|rfl|(rw[Bool.eq_iff_iff];simp<;>omega))
  ·have ea2:decide (bv≤57)=false:=decide_eq_false a2;have ia2:decide ((bv:Int)≤57)=false:=decide_eq_false (by omega)
   clear a2
   by_cases a3:(97:Int)≤u
   ·have ea3:decide ((97:Int)≤u)=true:=decide_eq_true a3;clear a3
    by_cases a4:u≤(122:Int)
    ·have ea4:decide (u≤(122:Int))=true:=decide_eq_true a4;clear a4
     by_cases a5:bv<128
     ·have ea5:decide (bv<128)=true:=decide_eq_true a5;have ia5:decide ((bv:Int)<128)=true:=decide_eq_true (by omega)
      clear a5
      go_wp2_with (first|((with_reducible refine gL ?_);refine own_load1K wtd_ _ _ rfl rfl one_u8 (hcell _ (H.kn (i:=0) .zero)) ?_)|fail)
      go_ret;refine⟨?_,H.below⟩;rw[E.out,wordU bv u hu.out hbl];exact ret_bool (by simp only[ea1,ea2,ea3,ea4,ea5];first|rfl|(rw[Bool.eq_iff_iff];simp<;>omega))
     ·have ea5:decide (bv<128)=false:=decide_eq_false a5;have ia5:decide ((bv:Int)<128)=false:=decide_eq_false (by omega)
      clear a5
      go_wp2_with (first|((with_reducible refine gL ?_);refine own_load1K wtd_ _ _ rfl rfl one_u8 (hcell _ (H.kn (i:=0) .zero)) ?_)|fail)
      go_ret;refine⟨?_,H.below⟩;rw[E.out,wordU bv u hu.out hbl];exact ret_bool (by simp only[ea1,ea2,ea3,ea4,ea5];first|rfl|(rw[Bool.eq_iff_iff];simp<;>omega))
    ·have ea4:decide (u≤(122:Int))=false:=decide_eq_false a4;clear a4
     go_wp2_with (first|((with_reducible refine gL ?_);refine own_load1K wtd_ _ _ rfl rfl one_u8 (hcell _ (H.kn (i:=0) .zero)) ?_)|fail)
     go_ret;refine⟨?_,H.below⟩;rw[E.out,wordU bv u hu.out hbl];exact ret_bool (by simp only[ea1,ea2,ea3,ea4];first|rfl|(rw[Bool.eq_iff_iff];simp<;>omega))
   ·have ea3:decide ((97:Int)≤u)=false:=decide_eq_false a3;clear a3
    go_wp2_with (first|((with_reducible refine gL ?_);refine own_load1K wtd_ _ _ rfl rfl one_u8 (hcell _ (H.kn (i:=0) .zero)) ?_)|fail)
    go_ret;refine⟨?_,H.below⟩;rw[E.out,wordU bv u hu.out hbl];exact ret_bool (by simp only[ea1,ea2,ea3];first|rfl|(rw[Bool.eq_iff_iff];simp<;>omega))
 ·have ea1:decide (48≤bv)=false:=decide_eq_false a1;have ia1:decide ((48:Int)≤bv)=false:=decide_eq_false (by omega)
  clear a1
  by_cases a3:(97:Int)≤u
  ·have ea3:decide ((97:Int)≤u)=true:=decide_eq_true a3;clear a3
   by_cases a4:u≤(122:Int)
   ·have ea4:decide (u≤(122:Int))=true:=decide_eq_true a4;clear a4
    by_cases a5:bv<128
    ·have ea5:decide (bv<128)=true:=decide_eq_true a5;have ia5:decide ((bv:Int)<128)=true:=decide_eq_true (by omega)
     clear a5
     go_wp2_with (first|((with_reducible refine gL ?_);refine own_load1K wtd_ _ _ rfl rfl one_u8 (hcell _ (H.kn (i:=0) .zero)) ?_)|fail)
     go_ret;refine⟨?_,H.below⟩;rw[E.out,wordU bv u hu.out hbl];exact ret_bool (by simp only[ea1,ea3,ea4,ea5];first|rfl|(rw[Bool.eq_iff_iff];simp<;>omega))
    ·have ea5:decide (bv<128)=false:=decide_eq_false a5;have ia5:decide ((bv:Int)<128)=false:=decide_eq_false (by omega)
     clear a5
     go_wp2_with (first|((with_reducible refine gL ?_);refine own_load1K wtd_ _ _ rfl rfl one_u8 (hcell _ (H.kn (i:=0) .zero)) ?_)|fail)
     go_ret;refine⟨?_,H.below⟩;rw[E.out,wordU bv u hu.out hbl];exact ret_bool (by simp only[ea1,ea3,ea4,ea5];first|rfl|(rw[Bool.eq_iff_iff];simp<;>omega))
   ·have ea4:decide (u≤(122:Int))=false:=decide_eq_false a4;clear a4
    go_wp2_with (first|((with_reducible refine gL ?_);refine own_load1K wtd_ _ _ rfl rfl one_u8 (hcell _ (H.kn (i:=0) .zero)) ?_)|fail)
    go_ret;refine⟨?_,H.below⟩;rw[E.out,wordU bv u hu.out hbl];exact ret_bool (by simp only[ea1,ea3,ea4];first|rfl|(rw[Bool.eq_iff_iff];simp<;>omega))
  ·have ea3:decide ((97:Int)≤u)=false:=decide_eq_false a3;clear a3
   go_wp2_with (first|((with_reducible refine gL ?_);refine own_load1K wtd_ _ _ rfl rfl one_u8 (hcell _ (H.kn (i:=0) .zero)) ?_)|fail)
   go_ret;refine⟨?_,H.below⟩;rw[E.out,wordU bv u hu.out hbl];exact ret_bool (by simp only[ea1,ea3];first|rfl|(rw[Bool.eq_iff_iff];simp<;>omega))
theorem spot_in {k:Int} {L:Str} {j:Nat} (h:j≤L.length):isSpot k L j=(if k=8 then (j:Int) == 0 else if k=9 then (j:Int) == L.length else if k=10 then feedA L ((j:Int) - 1) else if k=11 then feedA L j else if k=12 then wordA L ((j:Int) - 1) != wordA L j else if k=13 then wordA L ((j:Int) - 1) == wordA L j else false):=by
 unfold isSpot;rw[if_neg (by omega)]
 have h10:((j:Int) == 0 || byt L ((j:Int) - 1).toNat == 10)=feedA L ((j:Int) - 1):=by
  unfold feedA
  by_cases h0:j=0
  ·subst h0;simp
  ·rw[if_neg (by omega)]
   have:((j:Int) == 0)=false:=by rw[beq_eq_false_iff_ne];omega
   rw[this,Bool.false_or]
 have h11:((j:Int) == L.length || byt L (j:Int).toNat == 10)=feedA L j:=by
  unfold feedA
  by_cases h0:j=L.length
  ·rw[if_pos (by omega)];simp[h0]
  ·rw[if_neg (by omega)]
   have:((j:Int) == L.length)=false:=by rw[beq_eq_false_iff_ne];omega
   rw[this,Bool.false_or]
 rw[h10,h11]
theorem spot_out {k:Int} {L:Str} {i:Int} (h:i<0∨(L.length:Int)<i):isSpot k L i=false:=by
 unfold isSpot;rw[if_pos h]
section
variable (p:Option Addr) (c:Nat) (L:Str) (F:Nat→Prop) (w0:World) (hF:∀ b,F b→b<w0.heap.size) (h:BytesR F p c L w0)
include hF h
theorem sp_spot (k:Int) (j:Nat) (hj:j≤L.length) :
  Calls Tryd.prog 7 #[.slice p L.length c,.int .i64 k,.int .i64 j] w0 fun e w'=>e=.returned (.bool (isSpot k L j))∧Below w0.heap.size w0 w':=by
 have hbd:=h.bound;have H:=Hold.bytes hF h;clear h;have hfe:=fun w i h1 h2=>sp_feed p c L i F w h1 h2
 have hwo:=fun w i h1 h2=>sp_word p c L i F w h1 h2
 have E:=spot_in (k:=k) hj;obtain⟨n,hn⟩:∃ n,L.length=n:=⟨_,rfl⟩;rw[hn]at hj hfe hwo hbd E ⊢;clear hn;have hw1:IntKind.i64.wrap ((j:Int) - 1)=(j:Int) - 1:=by rw[IntKind.wrap_i64];omega
 have hfe1:=fun w=>hfe w ((j:Int) - 1)
 have hfe2:=fun w=>hfe w (j:Int)
 have hwo1:=fun w=>hwo w ((j:Int) - 1)
 have hwo2:=fun w=>hwo w (j:Int)
 clear hfe hwo
 generalize isSpot k L j=res at E ⊢
 generalize feedA L ((j:Int) - 1)=f1 at E hfe1
 generalize feedA L (j:Int)=f2 at E hfe2
 generalize wordA L ((j:Int) - 1)=q1 at E hwo1
 generalize wordA L (j:Int)=q2 at E hwo2
 by_cases k8:k=8
 ·have d8:(k == 8)=true:=by rw[beq_iff_eq];exact k8
  rw[if_pos k8]at E;have E:=Lib.hid E;clear k8
  go_enter Tryd.func7,Tryd.ntmps7
  go_wp2_with (first|fail)
  go_ret;refine⟨?_,H.below⟩;rw[E.out];rfl
 have d8:(k == 8)=false:=by rw[beq_eq_false_iff_ne];exact k8
 by_cases k9:k=9
 ·have d9:(k == 9)=true:=by rw[beq_iff_eq];exact k9
  rw[if_neg k8,if_pos k9]at E;have E:=Lib.hid E;clear k8 k9
  go_enter Tryd.func7,Tryd.ntmps7
  go_wp2_with (first|fail)
  go_ret;refine⟨?_,H.below⟩;rw[E.out];rfl
 have d9:(k == 9)=false:=by rw[beq_eq_false_iff_ne];exact k9
 by_cases k10:k=10
 ·have d10:(k == 10)=true:=by rw[beq_iff_eq];exact k10
  rw[if_neg k8,if_neg k9,if_pos k10]at E;have E:=Lib.hid E;clear k8 k9 k10
  go_enter Tryd.func7,Tryd.ntmps7
  go_wp2_with (first|fail|(go_at_call 14;refine ch (hfe1 _ (H.knlt (i:=0) .zero) (H.kn (i:=0) .zero)) H ?_;clear H;intro w H))
  go_ret;refine⟨?_,H.below⟩;rw[E.out];rfl
 have d10:(k == 10)=false:=by rw[beq_eq_false_iff_ne];exact k10
 by_cases k11:k=11
 ·have d11:(k == 11)=true:=by rw[beq_iff_eq];exact k11
  rw[if_neg k8,if_neg k9,if_neg k10,if_pos k11]at E;have E:=Lib.hid E;clear k8 k9 k10 k11
  go_enter Tryd.func7,Tryd.ntmps7
  go_wp2_with (first|fail|(go_at_call 14;refine ch (hfe2 _ (H.knlt (i:=0) .zero) (H.kn (i:=0) .zero)) H ?_;clear H;intro w H))
  go_ret;refine⟨?_,H.below⟩;rw[E.out];rfl
 have d11:(k == 11)=false:=by rw[beq_eq_false_iff_ne];exact k11
 by_cases k12:k=12
 ·have d12:(k == 12)=true:=by rw[beq_iff_eq];exact k12
  rw[if_neg k8,if_neg k9,if_neg k10,if_neg k11,if_pos k12]at E;have E:=Lib.hid E;clear k8 k9 k10 k11 k12
  go_enter Tryd.func7,Tryd.ntmps7
  go_wp2_with (first|fail|(go_at_call 15;first|(with_reducible refine ch (hwo1 _ (H.knlt (i:=0) .zero) (H.kn (i:=0) .zero)) H ?_;clear H;intro w H)|(with_reducible refine ch (hwo2 _ (H.knlt (i:=0) .zero) (H.kn (i:=0) .zero)) H ?_;clear H;intro w H)))
  go_ret;refine⟨?_,H.below⟩;rw[E.out];exact ret_bool (by cases q1<;>cases q2<;>rfl)
 have d12:(k == 12)=false:=by rw[beq_eq_false_iff_ne];exact k12
 by_cases k13:k=13
 ·have d13:(k == 13)=true:=by rw[beq_iff_eq];exact k13
  rw[if_neg k8,if_neg k9,if_neg k10,if_neg k11,if_neg k12,if_pos k13]at E;have E:=Lib.hid E;clear k8 k9 k10 k11 k12 k13
  go_enter Tryd.func7,Tryd.ntmps7
  go_wp2_with (first|fail|(go_at_call 15;first|(with_reducible refine ch (hwo1 _ (H.knlt (i:=0) .zero) (H.kn (i:=0) .zero)) H ?_;clear H;intro w H)|(with_reducible refine ch (hwo2 _ (H.knlt (i:=0) .zero) (H.kn (i:=0) .zero)) H ?_;clear H;intro w H)))
  go_ret;refine⟨?_,H.below⟩;rw[E.out];exact ret_bool (by cases q1<;>cases q2<;>rfl)
 have d13:(k == 13)=false:=by rw[beq_eq_false_iff_ne];exact k13
 rw[if_neg k8,if_neg k9,if_neg k10,if_neg k11,if_neg k12,if_neg k13]at E;have E:=Lib.hid E;clear k8 k9 k10 k11 k12 k13
 go_enter Tryd.func7,Tryd.ntmps7
 go_wp2_with (first|fail)
 go_ret;exact⟨by rw[E.out];rfl,H.below⟩
theorem sp_Spot (k:Int) (i:Int) :
  Calls Tryd.prog 4 #[.int .i64 k,.slice p L.length c,.int .i64 i] w0 fun e w'=>e=.returned (.bool (isSpot k L i))∧Below w0.heap.size w0 w':=by
 have hsp:=fun w h1 h2=>sp_spot p c L F w h1 h2 k
 have H:=Hold.bytes hF h;clear h
 by_cases h1:i<0
 ·have d1:decide (0≤i)=false:=decide_eq_false (by omega)
  have E:=Lib.hid (spot_out (k:=k) (L:=L) (.inl h1));clear h1 hsp
  go_enter Tryd.func4,Tryd.ntmps4
  go_wp2_with (first|fail)
  go_ret;exact⟨by rw[E.out];rfl,H.below⟩
 by_cases h2:(L.length:Int)<i
 ·have d1:decide (0≤i)=true:=decide_eq_true (by omega)
  have d2:decide (i≤(L.length:Int))=false:=decide_eq_false (by omega)
  have E:=Lib.hid (spot_out (k:=k) (L:=L) (.inr h2));clear h1 h2 hsp
  go_enter Tryd.func4,Tryd.ntmps4
  go_wp2_with (first|fail)
  go_ret;exact⟨by rw[E.out];rfl,H.below⟩
 obtain⟨j,rfl⟩:∃ j:Nat,i=j:=⟨i.toNat,by omega⟩
 have hj:j≤L.length:=by omega
 have hs2:=fun w h1 h2=>hsp w h1 h2 j hj
 have d2:decide (j≤L.length)=true:=decide_eq_true hj;have d3:decide ((j:Int)≤(L.length:Int))=true:=decide_eq_true (by omega)
 clear hsp h1 h2 hj
 generalize isSpot k L j=res at hs2 ⊢
 go_enter Tryd.func4,Tryd.ntmps4
 go_wp2_with (first|fail|(go_at_call 7;(with_reducible refine ch (hs2 _ (H.knlt (i:=0) .zero) (H.kn (i:=0) .zero)) H ?_);clear H;intro w H))
 go_ret;exact⟨ret_bool (by simp),H.below⟩
theorem ref_Spot12 (k:Int) (i:Int) :
  Calls Tryd.prog 5 #[.int .i64 k,.slice p L.length c,.int .i64 i] w0 fun e w'=>e=.returned (.bool (isSpot k L i))∧Below w0.heap.size w0 w':=by
 have hbd:=h.bound;have hp:=h.at;have H:=Hold.bytes hF h;clear h;have hwo:=fun w i h1 h2=>ref_word12 p c L i F w h1 h2
 by_cases h1:i<0
 ·have d1:decide (i<0)=true:=decide_eq_true (by omega)
  have E:=Lib.hid (spot_out (k:=k) (L:=L) (.inl h1));clear h1 hwo
  go_enter Tryd.func5,Tryd.ntmps5
  go_wp2_with (first|fail)
  go_ret;exact⟨by rw[E.out];rfl,H.below⟩
 by_cases h2:(L.length:Int)<i
 ·have d1:decide (i<0)=false:=decide_eq_false (by omega)
  have d2:decide ((L.length:Int)<i)=true:=decide_eq_true h2;have E:=Lib.hid (spot_out (k:=k) (L:=L) (.inr h2));clear h1 h2 hwo
  go_enter Tryd.func5,Tryd.ntmps5
  go_wp2_with (first|fail)
  go_ret;exact⟨by rw[E.out];rfl,H.below⟩
 obtain⟨j,rfl⟩:∃ j:Nat,i=j:=⟨i.toNat,by omega⟩
 have hj:j≤L.length:=by omega
 have E:=spot_in (k:=k) hj;obtain⟨n,hn⟩:∃ n,L.length=n:=⟨_,rfl⟩;rw[hn]at hj hwo hbd hp E ⊢;have HN:=Lib.hid hn;clear hn h1 h2;have d2:decide (n<j)=false:=decide_eq_false (by omega)
 have d3:decide ((n:Int)<(j:Int))=false:=decide_eq_false (by omega)
 have hw1:IntKind.i64.wrap ((j:Int) - 1)=(j:Int) - 1:=by rw[IntKind.wrap_i64];omega
 have hwo1:=fun w=>hwo w ((j:Int) - 1)
 have hwo2:=fun w=>hwo w (j:Int)
 clear hwo
 generalize isSpot k L j=res at E ⊢
 by_cases k8:k=8
 ·have d8:(k == 8)=true:=by rw[beq_iff_eq];exact k8
  rw[if_pos k8]at E;have E:=Lib.hid E;clear k8
  go_enter Tryd.func5,Tryd.ntmps5
  go_wp2_with (first|fail)
  go_ret;refine⟨?_,H.below⟩;rw[E.out];rfl
 have d8:(k == 8)=false:=by rw[beq_eq_false_iff_ne];exact k8
 by_cases k9:k=9
 ·have d9:(k == 9)=true:=by rw[beq_iff_eq];exact k9
  rw[if_neg k8,if_pos k9]at E;have E:=Lib.hid E;clear k8 k9
  go_enter Tryd.func5,Tryd.ntmps5
  go_wp2_with (first|fail)
  go_ret;refine⟨?_,H.below⟩;rw[E.out];rfl
 have d9:(k == 9)=false:=by rw[beq_eq_false_iff_ne];exact k9
 by_cases k10:k=10
 ·have d10:(k == 10)=true:=by rw[beq_iff_eq];exact k10
  rw[if_neg k8,if_neg k9,if_pos k10]at E
  by_cases h0:j=0
  ·subst h0;have E:res=true:=by rw[E];exact feedA_out (.inl (by omega))
   have E:=Lib.hid E;clear k8 k9 k10
   go_enter Tryd.func5,Tryd.ntmps5
   go_wp2_with (first|fail)
   go_ret;refine⟨?_,H.below⟩;rw[E.out];rfl
  ·obtain⟨q,rfl⟩:∃ q,j=q+1:=⟨j - 1,by omega⟩
   have E:res=(byt L q == 10):=by rw[E,show ((q+1:Nat):Int) - 1=(q:Int) by omega];exact feedA_in (by rw[HN.out];omega)
   have d4:(((q+1:Nat):Int) == 0)=false:=by rw[beq_eq_false_iff_ne];omega
   have d5:((q:Int)+1 == 0)=false:=by rw[beq_eq_false_iff_ne];omega
   obtain⟨b,off,rfl⟩:=hp (by omega)
   have hcell:∀ V,BytesR F (some ⟨b,off,none⟩) c L V→V.cell? ⟨b,off+q,none⟩=some (.int .u8 (byt L q)):=fun V h=>h.cell (by rw[HN.out];omega)
   generalize byt L q=bv at E hcell
   have E:=Lib.hid E;clear hw1 hwo1 hwo2 h0;clear k8 k9 k10
   go_enter Tryd.func5,Tryd.ntmps5
   go_wp2_with (first|((with_reducible refine gL ?_);refine own_load1K wtd_ _ _ rfl rfl one_u8 (hcell _ (H.kn (i:=0) .zero)) ?_)|fail)
   go_ret;refine⟨?_,H.below⟩;rw[E.out];exact ret_bool (by rw[Bool.eq_iff_iff];simp;omega)
 have d10:(k == 10)=false:=by rw[beq_eq_false_iff_ne];exact k10
 by_cases k11:k=11
 ·have d11:(k == 11)=true:=by rw[beq_iff_eq];exact k11
  rw[if_neg k8,if_neg k9,if_neg k10,if_pos k11]at E
  by_cases h0:j=n
  ·subst h0;have E:res=true:=by rw[E];exact feedA_out (.inr (by rw[HN.out];omega))
   have E:=Lib.hid E;clear k8 k9 k10 k11
   go_enter Tryd.func5,Tryd.ntmps5
   go_wp2_with (first|fail)
   go_ret;refine⟨?_,H.below⟩;rw[E.out];rfl
  ·have E:res=(byt L j == 10):=by rw[E];exact feedA_in (by rw[HN.out];omega)
   have d4:((j:Int) == (n:Int))=false:=by rw[beq_eq_false_iff_ne];omega
   obtain⟨b,off,rfl⟩:=hp (by omega)
   have hcell:∀ V,BytesR F (some ⟨b,off,none⟩) c L V→V.cell? ⟨b,off+j,none⟩=some (.int .u8 (byt L j)):=fun V h=>h.cell (by rw[HN.out];omega)
   have hjn:j<n:=by omega
   generalize byt L j=bv at E hcell
   have E:=Lib.hid E;clear hw1 hwo1 hwo2;clear k8 k9 k10 k11
   go_enter Tryd.func5,Tryd.ntmps5
   go_wp2_with (first|((with_reducible refine gL ?_);refine own_load1K wtd_ _ _ rfl rfl one_u8 (hcell _ (H.kn (i:=0) .zero)) ?_)|fail)
   go_ret;refine⟨?_,H.below⟩;rw[E.out];exact ret_bool (by rw[Bool.eq_iff_iff];simp;omega)
 have d11:(k == 11)=false:=by rw[beq_eq_false_iff_ne];exact k11
 generalize wordA L ((j:Int) - 1)=q1 at E hwo1
 generalize wordA L (j:Int)=q2 at E hwo2
 by_cases k12:k=12
 ·have d12:(k == 12)=true:=by rw[beq_iff_eq];exact k12
  rw[if_neg k8,if_neg k9,if_neg k10,if_neg k11,if_pos k12]at E;have E:=Lib.hid E;clear k8 k9 k10 k11 k12
  go_enter Tryd.func5,Tryd.ntmps5
  go_wp2_with (first|(go_at_call 8;first|(with_reducible refine ch (hwo1 _ (H.knlt (i:=0) .zero) (H.kn (i:=0) .zero)) H ?_;clear H;intro w H)|(with_reducible refine ch (hwo2 _ (H.knlt (i:=0) .zero) (H.kn (i:=0) .zero)) H ?_;clear H;intro w H))|fail)
  go_ret;refine⟨?_,H.below⟩;rw[E.out];exact ret_bool (by cases q1<;>cases q2<;>rfl)
 have d12:(k == 12)=false:=by rw[beq_eq_false_iff_ne];exact k12
 by_cases k13:k=13
 ·have d13:(k == 13)=true:=by rw[beq_iff_eq];exact k13
  rw[if_neg k8,if_neg k9,if_neg k10,if_neg k11,if_neg k12,if_pos k13]at E;have E:=Lib.hid E;clear k8 k9 k10 k11 k12 k13
  go_enter Tryd.func5,Tryd.ntmps5
  go_wp2_with (first|(go_at_call 8;first|(with_reducible refine ch (hwo1 _ (H.knlt (i:=0) .zero) (H.kn (i:=0) .zero)) H ?_;clear H;intro w H)|(with_reducible refine ch (hwo2 _ (H.knlt (i:=0) .zero) (H.kn (i:=0) .zero)) H ?_;clear H;intro w H))|fail)
  go_ret;refine⟨?_,H.below⟩;rw[E.out];exact ret_bool (by cases q1<;>cases q2<;>rfl)
 have d13:(k == 13)=false:=by rw[beq_eq_false_iff_ne];exact k13
 rw[if_neg k8,if_neg k9,if_neg k10,if_neg k11,if_neg k12,if_neg k13]at E;have E:=Lib.hid E;clear k8 k9 k10 k11 k12 k13
 go_enter Tryd.func5,Tryd.ntmps5
 go_wp2_with (first|fail)
 go_ret;exact⟨by rw[E.out];rfl,H.below⟩
end
theorem flatR_ones (xs:List Value):flatR (xs.map fun v=>#[v])=xs:=by
 induction xs with
 | nil=>rfl
 | cons x r ih=>simp only[flatR,List.map_cons,List.flatten_cons]at ih ⊢;rw[ih];rfl
theorem run_idx1 {P:Program} {o:Oper} {a:Act} {w:World} {x y:Operand} {T e:TypeId} {g n c i:Nat} {k:IntKind} (hu:P.underlying T=some (.slice e)) (hs:∀ w,(sizeOf e).run P w=.ok 1 w)
  (hop:o.op=Op.indexAddr T x y) (hx:a.eval x=.slice (some ⟨g,0,none⟩) n c) (hy:a.eval y=.int k (i:Int)) (hi:i<n):(execOp a.eval o).run P w=.ok (.value (.pointer (some ⟨g,i,none⟩))) w:=by
 simp only[execOp,hop,hx,hy];simp[Instr.indexAt,asIntOf,go_sem,run_underlying hu,hs];intro hc;omega
theorem HoldG.rowBytes {M:Nat→Prop} {w0 w:World} {l:List Res} (H:HoldG M w0 w l) {i cap:Nat} {q:Option Addr} {L:Str} (hi:At l i (.row (.slice q L.length cap) 5 1 L.length (L.map fun b=>.int .u8 b.toNat))) :
  ∃ F:Nat→Prop,(∀ b,F b→b<w.heap.size)∧BytesR F q cap L w:=by
 have ho:=H.all i _ hi.get;have e:(L.map fun b=>Value.int .u8 b.toNat)=flatR (L.map fun b=>#[Value.int .u8 b.toNat]):=by
  rw[show (L.map fun b=>#[Value.int .u8 b.toNat])=(L.map fun b=>Value.int .u8 b.toNat).map (fun v=>#[v]) by rw[List.map_map];rfl,flatR_ones]
 refine⟨fun b=>(Value.slice q L.length cap).ownBlock=some b,fun b hb=>(ho.lt b hb).2,?_⟩
 unfold Res.Holds at ho;rw[e]at ho;exact RdN.of_own ho (fun r hr=>by obtain⟨v,_,rfl⟩:=List.mem_map.1 hr;rfl) (by rw[List.length_map]) (fun _ _=>rfl)
theorem HoldG.blkBytes {M:Nat→Prop} {w0 w:World} {l:List Res} (H:HoldG M w0 w l) {i b:Nat} {L:Str} {T:TypeId} {cs:Array Value} (hi:At l i (.blk b cs T)) (hc:cs=(L.map fun x=>Value.int .u8 x.toNat).toArray) (hn:L.length≤1000):BytesR (·=b) (some ⟨b,0,none⟩) L.length L w:=by
 refine⟨_,L.length,by rw[List.length_map],by simp,?_,(fun h=>by cases h),fun j r hr=>⟨b,0,rfl,rfl,?_,fun k hk=>?_⟩⟩
 ·unfold maxLen;omega
 ·rw[List.getElem?_map]at hr;obtain⟨x,_,rfl⟩:=Option.map_eq_some_iff.1 hr;rfl
 ·rw[List.getElem?_map]at hr;obtain⟨x,hx,rfl⟩:=Option.map_eq_some_iff.1 hr;obtain rfl:k=0:=by omega
  rw[H.cell hi,hc];simp[hx]
theorem info_u8s:(Tryd.prog.info? 5).map (fun i=>(i.zero,i.size,i.bytes))=some (some (.int .u8 0),1,1):=by kernel_rfl
def sixC:Array Value:=#[.int .u8 97,.int .u8 10,.int .u8 32,.int .u8 95,.int .u8 57,.int .u8 200]
theorem six_at {m:Nat} (h:m<6):∃ x:UInt8,sixC[m]?=some (.int .u8 x.toNat):=by
 match m,h with
 | 0,_=>exact⟨97,rfl⟩
 | 1,_=>exact⟨10,rfl⟩
 | 2,_=>exact⟨32,rfl⟩
 | 3,_=>exact⟨95,rfl⟩
 | 4,_=>exact⟨57,rfl⟩
 | 5,_=>exact⟨200,rfl⟩
theorem law_SpanSpotsO (w0:World) (hawake:∀ w:World,Below w0.heap.size w0 w→Calls Tryd.prog 6 #[] w fun e w'=>e=.returned (.bool true)∧Below w.heap.size w w') :
  Calls Tryd.prog 3 #[] w0 fun e w'=>e=.returned (.bool true)∧Below w0.heap.size w0 w':=by
 have H:=Hold.start w0;obtain⟨i0,hi0,hz0,hz1,hz2⟩:=info_parts info_u8s
 go_enter Tryd.func3,Tryd.ntmps3
 go_wp2_with (first|((with_reducible show @wpList _ _ _ ({dst:=_,op:=Op.buildSlice _ 6 _,type:=_,pos:=_,after:=_,guard:=_}::_) _ _);refine own_build wtd_ _ _ _ rfl H sixC 5 (by intro W;kernel_rfl) ?_;clear H;intro bt w H;simp only[List.cons_append,List.nil_append]at H)|(first|((with_reducible refine gT ?_);(first|((first|refine aS H ?_|refine aW H ?_|refine aO H ?_|refine aT H ?_);clear H;intro w H;try simp only[nrm,nrl,Value.cells]at H)|(refine aN H ?_;clear H;intro w H;(try simp only[nrm,nrl,Value.cells]at H);try simp only[setSeg,nrl]at H)))|((with_reducible refine gL ?_);(first|refine aV H ?_|refine aL H ?_|refine aVn H ?_|refine aGb H ?_|refine aG H ?_|refine aD H ?_))|((with_reducible refine gX ?_);((first|refine bS H ?_|refine bB H ?_);clear H;intro b w H;try simp only[nrm,nrl,Value.cells]at H))|((with_reducible refine gA ?_);(refine bA H ?_;clear H;intro b w H;try simp only[nrm,nrl,Value.cells]at H))|((with_reducible refine gZ ?_);refine nb0 ?_)|((with_reducible refine gZ ?_);refine nb1 ?_)|((with_reducible refine gZ ?_);refine nbS ?_)|((with_reducible refine gZ ?_);refine nbK ?_)|((with_reducible refine gZ ?_);refine nbG ?_)|((with_reducible refine gZ ?_);refine nbR ?_)|((with_reducible refine gZ ?_);refine nbA ?_)|((with_reducible refine gZ ?_);refine fb3 ?_)|((with_reducible refine gES ?_);refine qS ?_)|((with_reducible refine gNS ?_);refine qN ?_)|((with_reducible refine gZ ?_);refine aZ ?_)|((with_reducible refine gI ?_);refine aI ?_)|((with_reducible refine gC ?_);refine aC ?_)|((with_reducible refine gF ?_);refine aF ?_)|((with_reducible refine gU ?_);refine aU ?_)|((with_reducible refine gE ?_);refine aE ?_)|((with_reducible refine gQ ?_);refine aQ ?_)))
 go_loopw [2] (fun k wr=>∃ n:Nat,k=.int .i64 n∧n≤1296∧Hold w0 wr [.blk bt sixC 5]) (fun k _=>1297 - (intOf k).toNat)
 case atStart=>exact⟨0,rfl,by omega,H⟩
 case round =>
  clear H;obtain⟨n,rfl,hn,H⟩:=hrel
  by_cases hlt:n<1296
  ·have di:decide ((n:Int)<1296)=true:=by simp;omega
   go_wp2_with (first|(first|((with_reducible refine gT ?_);(first|((first|refine aS H ?_|refine aW H ?_|refine aO H ?_|refine aT H ?_);clear H;intro w H;try simp only[nrm,nrl,Value.cells]at H)|(refine aN H ?_;clear H;intro w H;(try simp only[nrm,nrl,Value.cells]at H);try simp only[setSeg,nrl]at H)))|((with_reducible refine gL ?_);(first|refine aV H ?_|refine aL H ?_|refine aVn H ?_|refine aGb H ?_|refine aG H ?_|refine aD H ?_))|((with_reducible refine gX ?_);((first|refine bS H ?_|refine bB H ?_);clear H;intro b w H;try simp only[nrm,nrl,Value.cells]at H))|((with_reducible refine gA ?_);(refine bA H ?_;clear H;intro b w H;try simp only[nrm,nrl,Value.cells]at H))|((with_reducible refine gZ ?_);refine nb0 ?_)|((with_reducible refine gZ ?_);refine nb1 ?_)|((with_reducible refine gZ ?_);refine nbS ?_)|((with_reducible refine gZ ?_);refine nbK ?_)|((with_reducible refine gZ ?_);refine nbG ?_)|((with_reducible refine gZ ?_);refine nbR ?_)|((with_reducible refine gZ ?_);refine nbA ?_)|((with_reducible refine gZ ?_);refine fb3 ?_)|((with_reducible refine gES ?_);refine qS ?_)|((with_reducible refine gNS ?_);refine qN ?_)|((with_reducible refine gZ ?_);refine aZ ?_)|((with_reducible refine gI ?_);refine aI ?_)|((with_reducible refine gC ?_);refine aC ?_)|((with_reducible refine gF ?_);refine aF ?_)|((with_reducible refine gU ?_);refine aU ?_)|((with_reducible refine gE ?_);refine aE ?_)|((with_reducible refine gQ ?_);refine aQ ?_)))
   replace H:=H.addNil 5 1;simp only[List.cons_append,List.nil_append]at H
   go_loopw [3,4] (fun v k wr=>∃ (j c:Nat) (qs:Option Addr) (S:Str),k=.int .i64 j∧v=.slice qs S.length c∧S.length+j≤1296∧Hold w0 wr [.blk bt sixC 5,.row (.slice qs S.length c) 5 1 S.length (S.map fun b=>.int .u8 b.toNat)]) (fun _ k _=>(intOf k).toNat+1)
   case atStart=>exact⟨n,0,none,[],rfl,rfl,by simp;omega,H⟩
   case round =>
    clear H;obtain⟨j,c,qs,S,rfl,rfl,hS,H⟩:=hrel
    by_cases hj0:0<j
    ·have dj:decide (0<(j:Int))=true:=by simp;omega
     obtain⟨m,hmq⟩:∃ m,j % 6=m:=⟨_,rfl⟩;have hm3:m<6:=by omega
     obtain⟨x,hx⟩:=six_at hm3;have hmod:Int.tmod (j:Int) 6=(m:Int):=by rw[Int.tmod_eq_emod_of_nonneg (by omega)];omega
     obtain⟨j2,hj2⟩:∃ j2,j / 6=j2:=⟨_,rfl⟩;have hquo:Int.tdiv (j:Int) 6=(j2:Int):=by rw[Int.tdiv_eq_ediv_of_nonneg (by omega)];omega
     have hj3:j2<j:=by omega
     clear hmq hj2
     go_wp2_with (first|((with_reducible show @wpList _ _ _ ({dst:=_,op:=Op.indexAddr _ _ _,type:=_,pos:=_,after:=_,guard:=_}::_) _ _);refine own_pure wtd_ (run_idx1 Tryd.underlying22 (fun w=>by kernel_rfl) rfl evd_ evd_ hm3) ?_)|((with_reducible refine gL ?_);refine own_load1K wtd_ _ _ rfl rfl one_u8 ((H.cell (i:=0) .zero m).trans hx) ?_)|((with_reducible show @wpList _ _ _ ({dst:=_,op:=Op.buildSlice _ 1 _,type:=_,pos:=_,after:=_,guard:=_}::_) _ _);refine own_build wtd_ _ _ _ rfl H #[.int .u8 x.toNat] 5 (by intro W;simp only[List.map_toArray,List.map_cons,List.map_nil];(try simp only[pe]);kernel_rfl) ?_;clear H;intro be w H;simp only[List.cons_append,List.nil_append]at H)|(at_builtin;refine own_append rfl _ _ 22 rfl H (i:=1) (j:=2) evd_ rfl i_1 i_2 Tryd.underlying22 hi0 hz0 hz1 hz2 rfl (by decide) rfl rfl (by unfold maxLen;omega) (by omega) ?_;clear H;intro v2 w H;simp only[List.set_cons_succ,List.set_cons_zero]at H;(obtain⟨q2,c2,rfl,_,_,_⟩:=H.rowShape (i:=1) i_1))|(first|((with_reducible refine gT ?_);(first|((first|refine aS H ?_|refine aW H ?_|refine aO H ?_|refine aT H ?_);clear H;intro w H;try simp only[nrm,nrl,Value.cells]at H)|(refine aN H ?_;clear H;intro w H;(try simp only[nrm,nrl,Value.cells]at H);try simp only[setSeg,nrl]at H)))|((with_reducible refine gL ?_);(first|refine aV H ?_|refine aL H ?_|refine aVn H ?_|refine aGb H ?_|refine aG H ?_|refine aD H ?_))|((with_reducible refine gX ?_);((first|refine bS H ?_|refine bB H ?_);clear H;intro b w H;try simp only[nrm,nrl,Value.cells]at H))|((with_reducible refine gA ?_);(refine bA H ?_;clear H;intro b w H;try simp only[nrm,nrl,Value.cells]at H))|((with_reducible refine gZ ?_);refine nb0 ?_)|((with_reducible refine gZ ?_);refine nb1 ?_)|((with_reducible refine gZ ?_);refine nbS ?_)|((with_reducible refine gZ ?_);refine nbK ?_)|((with_reducible refine gZ ?_);refine nbG ?_)|((with_reducible refine gZ ?_);refine nbR ?_)|((with_reducible refine gZ ?_);refine nbA ?_)|((with_reducible refine gZ ?_);refine fb3 ?_)|((with_reducible refine gES ?_);refine qS ?_)|((with_reducible refine gNS ?_);refine qN ?_)|((with_reducible refine gZ ?_);refine aZ ?_)|((with_reducible refine gI ?_);refine aI ?_)|((with_reducible refine gC ?_);refine aC ?_)|((with_reducible refine gF ?_);refine aF ?_)|((with_reducible refine gU ?_);refine aU ?_)|((with_reducible refine gE ?_);refine aE ?_)|((with_reducible refine gQ ?_);refine aQ ?_)))
     go_roundw
     case rel=>exact⟨j2,c2,q2,S++[x],rfl,by rw[List.length_append];rfl,by simp;omega,by rw[List.map_append,List.length_append];exact H.take 2⟩
     case measure=>simp[intOf];omega
    ·have dj:decide (0<(j:Int))=false:=by simp;omega
     have hSL:S.length≤1296:=by omega
     have hsum:wrap64 ((S.length:Int)+2)=(S.length:Int)+2:=by unfold wrap64;omega
     clear hS
     go_wp2_with (first|(first|((with_reducible refine gT ?_);(first|((first|refine aS H ?_|refine aW H ?_|refine aO H ?_|refine aT H ?_);clear H;intro w H;try simp only[nrm,nrl,Value.cells]at H)|(refine aN H ?_;clear H;intro w H;(try simp only[nrm,nrl,Value.cells]at H);try simp only[setSeg,nrl]at H)))|((with_reducible refine gL ?_);(first|refine aV H ?_|refine aL H ?_|refine aVn H ?_|refine aGb H ?_|refine aG H ?_|refine aD H ?_))|((with_reducible refine gX ?_);((first|refine bS H ?_|refine bB H ?_);clear H;intro b w H;try simp only[nrm,nrl,Value.cells]at H))|((with_reducible refine gA ?_);(refine bA H ?_;clear H;intro b w H;try simp only[nrm,nrl,Value.cells]at H))|((with_reducible refine gZ ?_);refine nb0 ?_)|((with_reducible refine gZ ?_);refine nb1 ?_)|((with_reducible refine gZ ?_);refine nbS ?_)|((with_reducible refine gZ ?_);refine nbK ?_)|((with_reducible refine gZ ?_);refine nbG ?_)|((with_reducible refine gZ ?_);refine nbR ?_)|((with_reducible refine gZ ?_);refine nbA ?_)|((with_reducible refine gZ ?_);refine fb3 ?_)|((with_reducible refine gES ?_);refine qS ?_)|((with_reducible refine gNS ?_);refine qN ?_)|((with_reducible refine gZ ?_);refine aZ ?_)|((with_reducible refine gI ?_);refine aI ?_)|((with_reducible refine gC ?_);refine aC ?_)|((with_reducible refine gF ?_);refine aF ?_)|((with_reducible refine gU ?_);refine aU ?_)|((with_reducible refine gE ?_);refine aE ?_)|((with_reducible refine gQ ?_);refine aQ ?_)))
     go_loopw [5] (fun k wr=>∃ z:Int,k=.int .i64 z ∧ -1≤z∧z≤(S.length:Int)+2∧Hold w0 wr [.blk bt sixC 5,.row (.slice qs S.length c) 5 1 S.length (S.map fun b=>.int .u8 b.toNat)]) (fun k _=>((S.length:Int)+3 - intOf k).toNat)
     case atStart=>exact⟨-1,rfl,by omega,by omega,H⟩
     case round =>
      clear H;obtain⟨z,rfl,hz1,hz2,H⟩:=hrel
      by_cases hzt:z<(S.length:Int)+2
      ·have dz:decide (z<(S.length:Int)+2)=true:=decide_eq_true hzt
       go_wp2_with (first|(first|((with_reducible refine gT ?_);(first|((first|refine aS H ?_|refine aW H ?_|refine aO H ?_|refine aT H ?_);clear H;intro w H;try simp only[nrm,nrl,Value.cells]at H)|(refine aN H ?_;clear H;intro w H;(try simp only[nrm,nrl,Value.cells]at H);try simp only[setSeg,nrl]at H)))|((with_reducible refine gL ?_);(first|refine aV H ?_|refine aL H ?_|refine aVn H ?_|refine aGb H ?_|refine aG H ?_|refine aD H ?_))|((with_reducible refine gX ?_);((first|refine bS H ?_|refine bB H ?_);clear H;intro b w H;try simp only[nrm,nrl,Value.cells]at H))|((with_reducible refine gA ?_);(refine bA H ?_;clear H;intro b w H;try simp only[nrm,nrl,Value.cells]at H))|((with_reducible refine gZ ?_);refine nb0 ?_)|((with_reducible refine gZ ?_);refine nb1 ?_)|((with_reducible refine gZ ?_);refine nbS ?_)|((with_reducible refine gZ ?_);refine nbK ?_)|((with_reducible refine gZ ?_);refine nbG ?_)|((with_reducible refine gZ ?_);refine nbR ?_)|((with_reducible refine gZ ?_);refine nbA ?_)|((with_reducible refine gZ ?_);refine fb3 ?_)|((with_reducible refine gES ?_);refine qS ?_)|((with_reducible refine gNS ?_);refine qN ?_)|((with_reducible refine gZ ?_);refine aZ ?_)|((with_reducible refine gI ?_);refine aI ?_)|((with_reducible refine gC ?_);refine aC ?_)|((with_reducible refine gF ?_);refine aF ?_)|((with_reducible refine gU ?_);refine aU ?_)|((with_reducible refine gE ?_);refine aE ?_)|((with_reducible refine gQ ?_);refine aQ ?_)))
       go_loopw [6] (fun k wr=>∃ t:Nat,k=.int .i64 t∧t≤15∧Hold w0 wr [.blk bt sixC 5,.row (.slice qs S.length c) 5 1 S.length (S.map fun b=>.int .u8 b.toNat)]) (fun k _=>16 - (intOf k).toNat)
       case atStart=>exact⟨0,rfl,by omega,H⟩
       case round =>
        clear H;obtain⟨t,rfl,ht,H⟩:=hrel
        by_cases htt:t<15
        ·have dt:decide ((t:Int)<15)=true:=by simp;omega
         obtain⟨q,hq⟩:∃ q,isSpot (t:Int) S z=q:=⟨_,rfl⟩;have hsp:=fun F w h1 h2=>sp_Spot qs c S F w h1 h2 (t:Int) z
         have hrf:=fun F w h1 h2=>ref_Spot12 qs c S F w h1 h2 (t:Int) z
         rw[hq]at hsp hrf;have hqq:(q != q)=false:=by simp
         clear hq
         go_wp2_with (first|(go_at_call 4;(obtain⟨F,hF,hb⟩:=H.rowBytes (i:=1) i_1);(with_reducible refine ch (hsp F _ hF hb) H ?_);clear hF hb H;intro w H)|(go_at_call 5;(obtain⟨F,hF,hb⟩:=H.rowBytes (i:=1) i_1);(with_reducible refine ch (hrf F _ hF hb) H ?_);clear hF hb H;intro w H)|(first|((with_reducible refine gT ?_);(first|((first|refine aS H ?_|refine aW H ?_|refine aO H ?_|refine aT H ?_);clear H;intro w H;try simp only[nrm,nrl,Value.cells]at H)|(refine aN H ?_;clear H;intro w H;(try simp only[nrm,nrl,Value.cells]at H);try simp only[setSeg,nrl]at H)))|((with_reducible refine gL ?_);(first|refine aV H ?_|refine aL H ?_|refine aVn H ?_|refine aGb H ?_|refine aG H ?_|refine aD H ?_))|((with_reducible refine gX ?_);((first|refine bS H ?_|refine bB H ?_);clear H;intro b w H;try simp only[nrm,nrl,Value.cells]at H))|((with_reducible refine gA ?_);(refine bA H ?_;clear H;intro b w H;try simp only[nrm,nrl,Value.cells]at H))|((with_reducible refine gZ ?_);refine nb0 ?_)|((with_reducible refine gZ ?_);refine nb1 ?_)|((with_reducible refine gZ ?_);refine nbS ?_)|((with_reducible refine gZ ?_);refine nbK ?_)|((with_reducible refine gZ ?_);refine nbG ?_)|((with_reducible refine gZ ?_);refine nbR ?_)|((with_reducible refine gZ ?_);refine nbA ?_)|((with_reducible refine gZ ?_);refine fb3 ?_)|((with_reducible refine gES ?_);refine qS ?_)|((with_reducible refine gNS ?_);refine qN ?_)|((with_reducible refine gZ ?_);refine aZ ?_)|((with_reducible refine gI ?_);refine aI ?_)|((with_reducible refine gC ?_);refine aC ?_)|((with_reducible refine gF ?_);refine aF ?_)|((with_reducible refine gU ?_);refine aU ?_)|((with_reducible refine gE ?_);refine aE ?_)|((with_reducible refine gQ ?_);refine aQ ?_)))
         go_roundw
         case rel=>exact⟨t+1,by go_num,by omega,H⟩
         case measure=>simp[intOf];omega
        ·have dt:decide ((t:Int)<15)=false:=by simp;omega
         go_wp2_with (first|(first|((with_reducible refine gT ?_);(first|((first|refine aS H ?_|refine aW H ?_|refine aO H ?_|refine aT H ?_);clear H;intro w H;try simp only[nrm,nrl,Value.cells]at H)|(refine aN H ?_;clear H;intro w H;(try simp only[nrm,nrl,Value.cells]at H);try simp only[setSeg,nrl]at H)))|((with_reducible refine gL ?_);(first|refine aV H ?_|refine aL H ?_|refine aVn H ?_|refine aGb H ?_|refine aG H ?_|refine aD H ?_))|((with_reducible refine gX ?_);((first|refine bS H ?_|refine bB H ?_);clear H;intro b w H;try simp only[nrm,nrl,Value.cells]at H))|((with_reducible refine gA ?_);(refine bA H ?_;clear H;intro b w H;try simp only[nrm,nrl,Value.cells]at H))|((with_reducible refine gZ ?_);refine nb0 ?_)|((with_reducible refine gZ ?_);refine nb1 ?_)|((with_reducible refine gZ ?_);refine nbS ?_)|((with_reducible refine gZ ?_);refine nbK ?_)|((with_reducible refine gZ ?_);refine nbG ?_)|((with_reducible refine gZ ?_);refine nbR ?_)|((with_reducible refine gZ ?_);refine nbA ?_)|((with_reducible refine gZ ?_);refine fb3 ?_)|((with_reducible refine gES ?_);refine qS ?_)|((with_reducible refine gNS ?_);refine qN ?_)|((with_reducible refine gZ ?_);refine aZ ?_)|((with_reducible refine gI ?_);refine aI ?_)|((with_reducible refine gC ?_);refine aC ?_)|((with_reducible refine gF ?_);refine aF ?_)|((with_reducible refine gU ?_);refine aU ?_)|((with_reducible refine gE ?_);refine aE ?_)|((with_reducible refine gQ ?_);refine aQ ?_)))
         go_roundw
         case rel=>exact⟨z+1,rfl,by omega,by omega,H⟩
         case measure=>simp[intOf];omega
      ·have dz:decide (z<(S.length:Int)+2)=false:=decide_eq_false hzt
       go_wp2_with (first|(first|((with_reducible refine gT ?_);(first|((first|refine aS H ?_|refine aW H ?_|refine aO H ?_|refine aT H ?_);clear H;intro w H;try simp only[nrm,nrl,Value.cells]at H)|(refine aN H ?_;clear H;intro w H;(try simp only[nrm,nrl,Value.cells]at H);try simp only[setSeg,nrl]at H)))|((with_reducible refine gL ?_);(first|refine aV H ?_|refine aL H ?_|refine aVn H ?_|refine aGb H ?_|refine aG H ?_|refine aD H ?_))|((with_reducible refine gX ?_);((first|refine bS H ?_|refine bB H ?_);clear H;intro b w H;try simp only[nrm,nrl,Value.cells]at H))|((with_reducible refine gA ?_);(refine bA H ?_;clear H;intro b w H;try simp only[nrm,nrl,Value.cells]at H))|((with_reducible refine gZ ?_);refine nb0 ?_)|((with_reducible refine gZ ?_);refine nb1 ?_)|((with_reducible refine gZ ?_);refine nbS ?_)|((with_reducible refine gZ ?_);refine nbK ?_)|((with_reducible refine gZ ?_);refine nbG ?_)|((with_reducible refine gZ ?_);refine nbR ?_)|((with_reducible refine gZ ?_);refine nbA ?_)|((with_reducible refine gZ ?_);refine fb3 ?_)|((with_reducible refine gES ?_);refine qS ?_)|((with_reducible refine gNS ?_);refine qN ?_)|((with_reducible refine gZ ?_);refine aZ ?_)|((with_reducible refine gI ?_);refine aI ?_)|((with_reducible refine gC ?_);refine aC ?_)|((with_reducible refine gF ?_);refine aF ?_)|((with_reducible refine gU ?_);refine aU ?_)|((with_reducible refine gE ?_);refine aE ?_)|((with_reducible refine gQ ?_);refine aQ ?_)))
       go_roundw
       case rel=>exact⟨n+1,by go_num,by omega,H.take 1⟩
       case measure=>simp[intOf];omega
  ·have di:decide ((n:Int)<1296)=false:=by simp;omega
   clear hn hlt
   go_wp2_with (first|(first|((with_reducible refine gT ?_);(first|((first|refine aS H ?_|refine aW H ?_|refine aO H ?_|refine aT H ?_);clear H;intro w H;try simp only[nrm,nrl,Value.cells]at H)|(refine aN H ?_;clear H;intro w H;(try simp only[nrm,nrl,Value.cells]at H);try simp only[setSeg,nrl]at H)))|((with_reducible refine gL ?_);(first|refine aV H ?_|refine aL H ?_|refine aVn H ?_|refine aGb H ?_|refine aG H ?_|refine aD H ?_))|((with_reducible refine gX ?_);((first|refine bS H ?_|refine bB H ?_);clear H;intro b w H;try simp only[nrm,nrl,Value.cells]at H))|((with_reducible refine gA ?_);(refine bA H ?_;clear H;intro b w H;try simp only[nrm,nrl,Value.cells]at H))|((with_reducible refine gZ ?_);refine nb0 ?_)|((with_reducible refine gZ ?_);refine nb1 ?_)|((with_reducible refine gZ ?_);refine nbS ?_)|((with_reducible refine gZ ?_);refine nbK ?_)|((with_reducible refine gZ ?_);refine nbG ?_)|((with_reducible refine gZ ?_);refine nbR ?_)|((with_reducible refine gZ ?_);refine nbA ?_)|((with_reducible refine gZ ?_);refine fb3 ?_)|((with_reducible refine gES ?_);refine qS ?_)|((with_reducible refine gNS ?_);refine qN ?_)|((with_reducible refine gZ ?_);refine aZ ?_)|((with_reducible refine gI ?_);refine aI ?_)|((with_reducible refine gC ?_);refine aC ?_)|((with_reducible refine gF ?_);refine aF ?_)|((with_reducible refine gU ?_);refine aU ?_)|((with_reducible refine gE ?_);refine aE ?_)|((with_reducible refine gQ ?_);refine aQ ?_)))
   go_loopw [7] (fun k wr=>∃ b:Nat,k=.int .i64 b∧b≤256∧Hold w0 wr [.blk bt sixC 5]) (fun k _=>257 - (intOf k).toNat)
   case atStart=>exact⟨0,rfl,by omega,H⟩
   case round =>
    clear H;obtain⟨b,rfl,hb,H⟩:=hrel
    by_cases hbt:b<256
    ·have db:decide ((b:Int)<256)=true:=by simp;omega
     obtain⟨x,hx⟩:∃ x:UInt8,(x.toNat:Int)=(b:Int):=⟨UInt8.ofNat b,by simp;omega⟩
     have hwr:(b:Int) % 256=(x.toNat:Int):=by omega
     have hwr2:IntKind.u8.wrap (b:Int)=(x.toNat:Int):=by rw[IntKind.wrap_u8];omega
     clear hx
     go_wp2_with (first|((with_reducible show @wpList _ _ _ ({dst:=_,op:=Op.buildSlice _ 3 _,type:=_,pos:=_,after:=_,guard:=_}::_) _ _);refine own_build wtd_ _ _ _ rfl H #[.int .u8 120,.int .u8 x.toNat,.int .u8 32] 5 (by intro W;simp only[List.map_toArray,List.map_cons,List.map_nil];(try simp only[pe]);kernel_rfl) ?_;clear H;intro bs w H;simp only[List.cons_append,List.nil_append]at H)|(first|((with_reducible refine gT ?_);(first|((first|refine aS H ?_|refine aW H ?_|refine aO H ?_|refine aT H ?_);clear H;intro w H;try simp only[nrm,nrl,Value.cells]at H)|(refine aN H ?_;clear H;intro w H;(try simp only[nrm,nrl,Value.cells]at H);try simp only[setSeg,nrl]at H)))|((with_reducible refine gL ?_);(first|refine aV H ?_|refine aL H ?_|refine aVn H ?_|refine aGb H ?_|refine aG H ?_|refine aD H ?_))|((with_reducible refine gX ?_);((first|refine bS H ?_|refine bB H ?_);clear H;intro b w H;try simp only[nrm,nrl,Value.cells]at H))|((with_reducible refine gA ?_);(refine bA H ?_;clear H;intro b w H;try simp only[nrm,nrl,Value.cells]at H))|((with_reducible refine gZ ?_);refine nb0 ?_)|((with_reducible refine gZ ?_);refine nb1 ?_)|((with_reducible refine gZ ?_);refine nbS ?_)|((with_reducible refine gZ ?_);refine nbK ?_)|((with_reducible refine gZ ?_);refine nbG ?_)|((with_reducible refine gZ ?_);refine nbR ?_)|((with_reducible refine gZ ?_);refine nbA ?_)|((with_reducible refine gZ ?_);refine fb3 ?_)|((with_reducible refine gES ?_);refine qS ?_)|((with_reducible refine gNS ?_);refine qN ?_)|((with_reducible refine gZ ?_);refine aZ ?_)|((with_reducible refine gI ?_);refine aI ?_)|((with_reducible refine gC ?_);refine aC ?_)|((with_reducible refine gF ?_);refine aF ?_)|((with_reducible refine gU ?_);refine aU ?_)|((with_reducible refine gE ?_);refine aE ?_)|((with_reducible refine gQ ?_);refine aQ ?_)))
     go_loopw [9] (fun k wr=>∃ i:Nat,k=.int .i64 i∧i≤4∧Hold w0 wr [.blk bt sixC 5,.blk bs #[.int .u8 120,.int .u8 x.toNat,.int .u8 32] 5]) (fun k _=>5 - (intOf k).toNat)
     case atStart=>exact⟨0,rfl,by omega,H⟩
     case round =>
      clear H;obtain⟨i,rfl,hi,H⟩:=hrel
      by_cases hit:i<4
      ·have dd:decide ((i:Int)<4)=true:=by simp;omega
       obtain⟨qa,eqa⟩:∃ q,isSpot 12 [120,x,32] (i:Int)=q:=⟨_,rfl⟩;obtain⟨qb,eqb⟩:∃ q,isSpot 10 [120,x,32] (i:Int)=q:=⟨_,rfl⟩;have sA:∀ w:World,bs<w.heap.size→BytesR (·=bs) (some ⟨bs,0,none⟩) (List.length [120,x,32]) [120,x,32] w→Calls Tryd.prog 4 #[.int .i64 12,.slice (some ⟨bs,0,none⟩) 3 3,.int .i64 i] w fun e w'=>e=.returned (.bool qa)∧Below w.heap.size w w':=fun w h1 h2=>by rw[← eqa];exact sp_Spot (some ⟨bs,0,none⟩) 3 [120,x,32] (·=bs) w (fun _ e=>e ▸ h1) h2 12 i
       have rA:∀ w:World,bs<w.heap.size→BytesR (·=bs) (some ⟨bs,0,none⟩) (List.length [120,x,32]) [120,x,32] w→Calls Tryd.prog 5 #[.int .i64 12,.slice (some ⟨bs,0,none⟩) 3 3,.int .i64 i] w fun e w'=>e=.returned (.bool qa)∧Below w.heap.size w w':=fun w h1 h2=>by rw[← eqa];exact ref_Spot12 (some ⟨bs,0,none⟩) 3 [120,x,32] (·=bs) w (fun _ e=>e ▸ h1) h2 12 i
       have sB:∀ w:World,bs<w.heap.size→BytesR (·=bs) (some ⟨bs,0,none⟩) (List.length [120,x,32]) [120,x,32] w→Calls Tryd.prog 4 #[.int .i64 10,.slice (some ⟨bs,0,none⟩) 3 3,.int .i64 i] w fun e w'=>e=.returned (.bool qb)∧Below w.heap.size w w':=fun w h1 h2=>by rw[← eqb];exact sp_Spot (some ⟨bs,0,none⟩) 3 [120,x,32] (·=bs) w (fun _ e=>e ▸ h1) h2 10 i
       have rB:∀ w:World,bs<w.heap.size→BytesR (·=bs) (some ⟨bs,0,none⟩) (List.length [120,x,32]) [120,x,32] w→Calls Tryd.prog 5 #[.int .i64 10,.slice (some ⟨bs,0,none⟩) 3 3,.int .i64 i] w fun e w'=>e=.returned (.bool qb)∧Below w.heap.size w w':=fun w h1 h2=>by rw[← eqb];exact ref_Spot12 (some ⟨bs,0,none⟩) 3 [120,x,32] (·=bs) w (fun _ e=>e ▸ h1) h2 10 i
       have na:(qa != qa)=false:=by simp
       have nb:(qb != qb)=false:=by simp
       clear eqa eqb
       go_wp2_with (first|(go_at_call 4;(have hbb:=H.blkBytes (i:=1) (L:=[120,x,32]) i_1 rfl (by simp));(have hlt:=(Array.getElem?_eq_some_iff.1 (H.blk (i:=1) i_1).2).1);(with_reducible refine ch (sA _ hlt hbb) H ?_);clear hbb hlt H;intro w H)|(go_at_call 5;(have hbb:=H.blkBytes (i:=1) (L:=[120,x,32]) i_1 rfl (by simp));(have hlt:=(Array.getElem?_eq_some_iff.1 (H.blk (i:=1) i_1).2).1);(with_reducible refine ch (rA _ hlt hbb) H ?_);clear hbb hlt H;intro w H)|(go_at_call 4;(have hbb:=H.blkBytes (i:=1) (L:=[120,x,32]) i_1 rfl (by simp));(have hlt:=(Array.getElem?_eq_some_iff.1 (H.blk (i:=1) i_1).2).1);(with_reducible refine ch (sB _ hlt hbb) H ?_);clear hbb hlt H;intro w H)|(go_at_call 5;(have hbb:=H.blkBytes (i:=1) (L:=[120,x,32]) i_1 rfl (by simp));(have hlt:=(Array.getElem?_eq_some_iff.1 (H.blk (i:=1) i_1).2).1);(with_reducible refine ch (rB _ hlt hbb) H ?_);clear hbb hlt H;intro w H)|(first|((with_reducible refine gT ?_);(first|((first|refine aS H ?_|refine aW H ?_|refine aO H ?_|refine aT H ?_);clear H;intro w H;try simp only[nrm,nrl,Value.cells]at H)|(refine aN H ?_;clear H;intro w H;(try simp only[nrm,nrl,Value.cells]at H);try simp only[setSeg,nrl]at H)))|((with_reducible refine gL ?_);(first|refine aV H ?_|refine aL H ?_|refine aVn H ?_|refine aGb H ?_|refine aG H ?_|refine aD H ?_))|((with_reducible refine gX ?_);((first|refine bS H ?_|refine bB H ?_);clear H;intro b w H;try simp only[nrm,nrl,Value.cells]at H))|((with_reducible refine gA ?_);(refine bA H ?_;clear H;intro b w H;try simp only[nrm,nrl,Value.cells]at H))|((with_reducible refine gZ ?_);refine nb0 ?_)|((with_reducible refine gZ ?_);refine nb1 ?_)|((with_reducible refine gZ ?_);refine nbS ?_)|((with_reducible refine gZ ?_);refine nbK ?_)|((with_reducible refine gZ ?_);refine nbG ?_)|((with_reducible refine gZ ?_);refine nbR ?_)|((with_reducible refine gZ ?_);refine nbA ?_)|((with_reducible refine gZ ?_);refine fb3 ?_)|((with_reducible refine gES ?_);refine qS ?_)|((with_reducible refine gNS ?_);refine qN ?_)|((with_reducible refine gZ ?_);refine aZ ?_)|((with_reducible refine gI ?_);refine aI ?_)|((with_reducible refine gC ?_);refine aC ?_)|((with_reducible refine gF ?_);refine aF ?_)|((with_reducible refine gU ?_);refine aU ?_)|((with_reducible refine gE ?_);refine aE ?_)|((with_reducible refine gQ ?_);refine aQ ?_)))
       go_roundw
       case rel=>exact⟨i+1,by go_num,by omega,H⟩
       case measure=>simp[intOf];omega
      ·have dd:decide ((i:Int)<4)=false:=by simp;omega
       go_wp2_with (first|(first|((with_reducible refine gT ?_);(first|((first|refine aS H ?_|refine aW H ?_|refine aO H ?_|refine aT H ?_);clear H;intro w H;try simp only[nrm,nrl,Value.cells]at H)|(refine aN H ?_;clear H;intro w H;(try simp only[nrm,nrl,Value.cells]at H);try simp only[setSeg,nrl]at H)))|((with_reducible refine gL ?_);(first|refine aV H ?_|refine aL H ?_|refine aVn H ?_|refine aGb H ?_|refine aG H ?_|refine aD H ?_))|((with_reducible refine gX ?_);((first|refine bS H ?_|refine bB H ?_);clear H;intro b w H;try simp only[nrm,nrl,Value.cells]at H))|((with_reducible refine gA ?_);(refine bA H ?_;clear H;intro b w H;try simp only[nrm,nrl,Value.cells]at H))|((with_reducible refine gZ ?_);refine nb0 ?_)|((with_reducible refine gZ ?_);refine nb1 ?_)|((with_reducible refine gZ ?_);refine nbS ?_)|((with_reducible refine gZ ?_);refine nbK ?_)|((with_reducible refine gZ ?_);refine nbG ?_)|((with_reducible refine gZ ?_);refine nbR ?_)|((with_reducible refine gZ ?_);refine nbA ?_)|((with_reducible refine gZ ?_);refine fb3 ?_)|((with_reducible refine gES ?_);refine qS ?_)|((with_reducible refine gNS ?_);refine qN ?_)|((with_reducible refine gZ ?_);refine aZ ?_)|((with_reducible refine gI ?_);refine aI ?_)|((with_reducible refine gC ?_);refine aC ?_)|((with_reducible refine gF ?_);refine aF ?_)|((with_reducible refine gU ?_);refine aU ?_)|((with_reducible refine gE ?_);refine aE ?_)|((with_reducible refine gQ ?_);refine aQ ?_)))
       go_roundw
       case rel=>exact⟨b+1,by go_num,by omega,H.take 1⟩
       case measure=>simp[intOf];omega
    ·have db:decide ((b:Int)<256)=false:=by simp;omega
     have hn1:∀ (k z:Int) (q:Bool) (w:World),isSpot k [] z=q→Calls Tryd.prog 4 #[.int .i64 k,.slice none 0 0,.int .i64 z] w fun e w'=>e=.returned (.bool q)∧Below w.heap.size w w':=fun k z q w h=>by rw[← h];exact sp_Spot none 0 [] (fun _=>False) w (fun _ h=>h.elim) (RdN.nil ..) k z
     have s1:=fun w=>hn1 8 0 true w (by decide)
     have s2:=fun w=>hn1 8 (-9223372036854775808) false w (by decide)
     have s3:=fun w=>hn1 9 9223372036854775807 false w (by decide)
     clear hn1
     go_wp2_with (first|(go_at_call 4;(with_reducible refine ch (s1 _) H ?_);clear H;intro w H)|(go_at_call 4;(with_reducible refine ch (s2 _) H ?_);clear H;intro w H)|(go_at_call 4;(with_reducible refine ch (s3 _) H ?_);clear H;intro w H)|(go_at_call 6;(with_reducible refine ch (hawake _ H.below) H ?_);clear H;intro w H)|(first|((with_reducible refine gT ?_);(first|((first|refine aS H ?_|refine aW H ?_|refine aO H ?_|refine aT H ?_);clear H;intro w H;try simp only[nrm,nrl,Value.cells]at H)|(refine aN H ?_;clear H;intro w H;(try simp only[nrm,nrl,Value.cells]at H);try simp only[setSeg,nrl]at H)))|((with_reducible refine gL ?_);(first|refine aV H ?_|refine aL H ?_|refine aVn H ?_|refine aGb H ?_|refine aG H ?_|refine aD H ?_))|((with_reducible refine gX ?_);((first|refine bS H ?_|refine bB H ?_);clear H;intro b w H;try simp only[nrm,nrl,Value.cells]at H))|((with_reducible refine gA ?_);(refine bA H ?_;clear H;intro b w H;try simp only[nrm,nrl,Value.cells]at H))|((with_reducible refine gZ ?_);refine nb0 ?_)|((with_reducible refine gZ ?_);refine nb1 ?_)|((with_reducible refine gZ ?_);refine nbS ?_)|((with_reducible refine gZ ?_);refine nbK ?_)|((with_reducible refine gZ ?_);refine nbG ?_)|((with_reducible refine gZ ?_);refine nbR ?_)|((with_reducible refine gZ ?_);refine nbA ?_)|((with_reducible refine gZ ?_);refine fb3 ?_)|((with_reducible refine gES ?_);refine qS ?_)|((with_reducible refine gNS ?_);refine qN ?_)|((with_reducible refine gZ ?_);refine aZ ?_)|((with_reducible refine gI ?_);refine aI ?_)|((with_reducible refine gC ?_);refine aC ?_)|((with_reducible refine gF ?_);refine aF ?_)|((with_reducible refine gU ?_);refine aU ?_)|((with_reducible refine gE ?_);refine aE ?_)|((with_reducible refine gQ ?_);refine aQ ?_)))
     go_ret;exact⟨rfl,H.below⟩
end
section
open Go.RowKit
def tab64:List Int:=[0,1,56,2,57,49,28,3,61,58,42,50,38,29,17,4,62,47,59,36,45,43,51,22,53,39,33,30,24,18,12,5,63,55,48,27,60,41,37,16,46,35,44,21,52,32,23,11,54,26,40,15,34,20,31,10,25,14,19,9,13,8,7,6]
def tr64:Tr:=Tr.set .lf 0 (some (.ro (tab64.map fun n=>.int .u8 n)))
theorem awake_run:isT (evRun Tryd.prog 1 1000 tr64 6 [])=true:=by kernel_rfl
theorem law_awake12 {w:World} {U:TypeId} {fr:Nat × Nat} (h:w.heap[0]?=some (.cells (tab64.map fun n=>Value.int .u8 n).toArray U fr)):Calls Tryd.prog 6 #[] w fun e w'=>e=.returned (.bool true)∧Below w.heap.size w w':=by
 have hlt:=(Array.getElem?_eq_some_iff.1 h).1;refine eng_true (by kernel_rfl) awake_run (by omega) (fun g o hg e=>?_)
 obtain rfl:g=0:=by omega
 have h2:tr64.get 0=some (.ro (tab64.map fun n=>.int .u8 n)):=by rw[tr64,Tr.get_set,if_pos rfl]
 rw[h2]at e
 cases e
 refine⟨_,h,.ro (plainL_self ?_)⟩;rw[List.all_map];exact List.all_eq_true.2 (fun _ _=>rfl)
theorem law_SpanSpots {w0:World} {U:TypeId} {fr:Nat × Nat} (h:w0.heap[0]?=some (.cells (tab64.map fun n=>Value.int .u8 n).toArray U fr)):Calls Tryd.prog 3 #[] w0 fun e w'=>e=.returned (.bool true)∧Below w0.heap.size w0 w' :=
 law_SpanSpotsO w0 (fun w hb=>law_awake12 ((hb.block 0 (Array.getElem?_eq_some_iff.1 h).1).trans h))
end
end Go.Proofs.YteodabllmfldpaaDoor
