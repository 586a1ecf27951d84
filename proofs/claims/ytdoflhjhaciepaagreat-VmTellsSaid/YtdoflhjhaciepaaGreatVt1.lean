/-
  Laws of walks, and walks.
-/
import Derived.RangeFuncBox
import Derived.RangeFuncNested
import Derived.RangeFuncBound
import Derived.RangeFuncCalls
import Derived.RangeFuncLeaves
import Derived.Shelf.Abstract
import Derived.WalkKit
import Derived.OwnWalkIn
import Derived.TacticsInMore
import Derived.LoopNIn
import Derived.LoopIn
import Derived.Maps.AppendAt
import Derived.Lib.Hide
import Derived.Deep.QuietTactic
import Derived.BigQuiet
import Derived.Laws.AppendOwnNone
import Derived.StillTailTactics
import Derived.Deep.RegionWith
import Derived.Stop.RegionWithIn
import Derived.Test.YtdoflhjhaciepaaGreatProg
import Derived.Test.YtdoflhjhaciepaaGreatRows
import Derived.ProofKit
import Derived.OpenShut
import Derived.ShutString
import Derived.ChangeOld
import Derived.SizedLaws
import Derived.WideKeyArr2
import Derived.Deep.Slices
import Derived.ChangeKeysEq
import Derived.StillTail
import Derived.Deep.MidRow
import Derived.Deep.CutRange
import Derived.Laws.Slices
import Derived.Laws.Strings2
import Derived.Lib.Strings
set_option linter.unusedVariables false
set_option linter.unusedSimpArgs false
set_option maxRecDepth 100000
set_option maxHeartbeats 16000000
namespace Go.Proofs.YtdoflhjhaciepaaGreat
open Go.RowKit Go.Shelf
def Rd (w:World) (b0:Nat) (v:Value) (cs:List Value):Prop :=
 ((∃ q,v=.slice q 0 0)∧cs=[])∨∃ b off cap,v=.slice (some ⟨b,off,none⟩) cs.length cap∧b<b0∧cs.length≤cap∧cap≤maxLen ∧
  ∀ j,(h:j<cs.length)→w.cell? ⟨b,off+j,none⟩=some cs[j]
theorem Rd.below {w w':World} {b0:Nat} {v:Value} {cs:List Value} (h:Rd w b0 v cs) (hb:Below b0 w w'):Rd w' b0 v cs:=by
 rcases h with h|⟨b,off,cap,e,h1,h2,h3,h4⟩
 ·exact .inl h
 ·exact .inr ⟨b,off,cap,e,h1,h2,h3,fun j hj=>(hb.cell (p:=⟨b,off+j,none⟩) h1).trans (h4 j hj)⟩
theorem Rd.up {w:World} {b0 b1:Nat} {v:Value} {cs:List Value} (h:Rd w b0 v cs) (hb:b0≤b1):Rd w b1 v cs:=by
 rcases h with h|⟨b,off,cap,e,h1,h2,h3,h4⟩
 ·exact .inl h
 ·exact .inr ⟨b,off,cap,e,by omega,h2,h3,h4⟩
theorem Rd.len {w:World} {b0:Nat} {v:Value} {cs:List Value} (h:Rd w b0 v cs):cs.length≤9223372036854775807:=by
 rcases h with ⟨_,h⟩|⟨b,off,cap,e,h1,h2,h3,h4⟩
 ·simp[h]
 ·unfold maxLen at h3;omega
theorem Rd.of_own {w:World} {base:Nat} {e:TypeId} {v:Value} {n:Nat} {cs:List Value} (h:w.ownsRow base e 1 v n cs):Rd w w.heap.size v cs:=by
 obtain⟨hl,h|⟨g,cap,cur,rfl,hb,hg,hn,hc,hs,ht⟩⟩:=h
 ·obtain⟨rfl,rfl⟩:=h;exact .inl ⟨⟨_,rfl⟩,List.eq_nil_of_length_eq_zero (by simpa using hl)⟩
 ·have hl':cs.length=n:=by simpa using hl
  refine .inr ⟨g,0,cap,by rw[hl'],(Array.getElem?_eq_some_iff.1 hg).1,by omega,hc,fun j hj=>?_⟩
  rw[cell_of_row w g (0+j) cur e (0,0) hg];have h2:(cur.toList.take (n * 1))[j]?=some cs[j]:=by rw[ht];exact List.getElem?_eq_getElem hj
  rw[List.getElem?_take]at h2;simp only[Nat.zero_add];split at h2
  ·simpa using h2
  ·cases h2
structure KeepBut (M:Nat→Prop) (B:Nat) (W W':World):Prop where
 os:W'.os=W.os
 tape:W'.tape=W.tape
 output:W'.output=W.output
 size:W.heap.size≤W'.heap.size
 old:∀ k,k<B→¬ M k→W'.heap[k]?=W.heap[k]?
theorem KeepBut.refl (M:Nat→Prop) (B:Nat) (W:World):KeepBut M B W W:=⟨rfl,rfl,rfl,Nat.le_refl _,fun _ _ _=>rfl⟩
theorem KeepBut.trans {M:Nat→Prop} {B:Nat} {X Y Z:World} (h:KeepBut M B X Y) (k:KeepBut M B Y Z):KeepBut M B X Z :=
 ⟨k.os.trans h.os,k.tape.trans h.tape,k.output.trans h.output,Nat.le_trans h.size k.size,fun i h1 h2=>(k.old i h1 h2).trans (h.old i h1 h2)⟩
theorem KeepBut.below {M:Nat→Prop} {B n:Nat} {W W':World} (h:KeepBut M B W W') (hn:n≤B) (hM:∀ k,k<n→¬ M k):Below n W W' :=
 ⟨h.os,h.tape,h.output,h.size,fun k hk=>h.old k (by omega) (hM k hk)⟩
theorem KeepBut.of_below {M:Nat→Prop} {B:Nat} {W W':World} (h:Below B W W'):KeepBut M B W W' :=
 ⟨h.os,h.tape,h.output,h.size,fun k hk _=>h.block k hk⟩
theorem KeepBut.mono {M M':Nat→Prop} {B B':Nat} {W W':World} (h:KeepBut M B W W') (hB:B'≤B) (hM:∀ k,k<B'→M k→M' k):KeepBut M' B' W W' :=
 ⟨h.os,h.tape,h.output,h.size,fun k hk hn=>h.old k (by omega) (fun hm=>hn (hM k hk hm))⟩
structure Upd (M:Nat→Prop) (B:Nat) (W W':World):Prop where
 keep:KeepBut M B W W'
 others:KeepsFrom B W W'
theorem Upd.refl (M:Nat→Prop) (B:Nat) (W:World):Upd M B W W:=⟨KeepBut.refl _ _ _,KeepsFrom.refl _ _⟩
theorem Upd.trans {M:Nat→Prop} {B:Nat} {X Y Z:World} (h:Upd M B X Y) (k:Upd M B Y Z):Upd M B X Z:=⟨h.keep.trans k.keep,h.others.trans k.others⟩
theorem Upd.grown {M:Nat→Prop} {B:Nat} {X W W':World} {row:Option Nat} (h:Upd M B X W) (hg:W.grownBy W' row)
  (hr:∀ k,row=some k→(k<B∧M k)∨(B≤k∧∃ c e f,W.heap[k]?=some (.cells c e f))) (hB:B≤W.heap.size):Upd M B X W':=by
 refine h.trans ⟨⟨hg.os,hg.tape,hg.output,hg.size,fun k h1 h2=>hg.block k (by omega) (fun e=>?_)⟩,⟨hg.size,fun k o h1 h2 h3=>?_⟩⟩
 ·rcases hr k e.symm with ⟨_,h⟩|⟨h,_⟩
  ·exact h2 h
  ·omega
 ·refine(hg.block k (Array.getElem?_eq_some_iff.1 h2).1 (fun e=>?_)).trans h2
  rcases hr k e.symm with ⟨h,_⟩|⟨_,c,e',f,h⟩
  ·omega
  ·rw[h]at h2;cases h2;cases h3
theorem Upd.alloc {M:Nat→Prop} {B:Nat} {X W:World} (h:Upd M B X W) (hB:B≤W.heap.size) (o:Obj):Upd M B X (W.alloc o) :=
 h.grown (World.grownBy_alloc W o none) (fun k e=>by cases e) hB
theorem Upd.call {M:Nat→Prop} {B:Nat} {X W W':World} (h:Upd M B X W) (hb:Below W.heap.size W W') (hB:B≤W.heap.size):Upd M B X W' :=
 h.trans ⟨KeepBut.of_below (hb.mono hB),⟨hb.size,fun k _ _ h2 _=>(hb.block k (Array.getElem?_eq_some_iff.1 h2).1).trans h2⟩⟩
structure Idle (B:Nat) (W W':World):Prop where
 below:Below B W W'
 cells:∀ (k:Nat) c e f,W.heap[k]?=some (.cells c e f)→W'.heap[k]?=some (.cells c e f)
theorem calls_of_wide {P:Program} {f:FuncId} {args:Array Value} {w:World} {R:Ending→World→Prop} (h:CallsIn Fence.wide 9 P f args w R):Calls P f args w R:=callsIn_wide.1 h
theorem own_below {w w':World} {base:Nat} {e:TypeId} {s:Nat} {v:Value} {n:Nat} {xs:List Value} (h:w.ownsRow base e s v n xs) (hb:Below w.heap.size w w'):w'.ownsRow base e s v n xs:=by
 obtain⟨hl,h'|⟨g,cap,cur,rfl,hg1,hg,r⟩⟩:=h
 ·exact⟨hl,.inl h'⟩
 ·exact⟨hl,.inr ⟨g,cap,cur,rfl,hg1,(hb.block g (Array.getElem?_eq_some_iff.1 hg).1).trans hg,r⟩⟩
theorem own_base {w:World} {base base':Nat} {e:TypeId} {s:Nat} {v:Value} {n:Nat} {xs:List Value} (h:w.ownsRow base e s v n xs) (hb:base'≤base):w.ownsRow base' e s v n xs:=by
 obtain⟨hl,h'|⟨g,cap,cur,rfl,hg1,r⟩⟩:=h
 ·exact⟨hl,.inl h'⟩
 ·exact⟨hl,.inr ⟨g,cap,cur,rfl,by omega,r⟩⟩
theorem box_below {w w':World} {b:Nat} {t:TypeId} {v:Value} (h:Boxed w b t v) (hb:Below w.heap.size w w'):Boxed w' b t v:=(hb.block b h.lt).trans h
def offA (p:Option Addr) (c l:Nat):Option Addr:=if c=l then p else p.map (·.add l)
theorem run_slice_off {P:Program} (t e:TypeId) (ht:P.underlying t=some (.slice e)) (hz:∀ w,(sizeOf e).run P w=.ok 1 w) (p:Option Addr) (n c l h:Nat) (h1:l≤h) (h2:h≤c) (w:World) :
  (Instr.slice t (.slice p n c) (some (.int .i64 l)) (some (.int .i64 h)) none).run P w=.ok (.slice (offA p c l) (h - l) (c - l)) w:=by
 have he:P.elem t=e:=by simp[Program.elem,ht]
 rw[run_slice_lh w t p n c (by rw[he];exact ht) .i64 .i64 l h (by omega) (by omega) (by omega),he,hz]
 simp[Result.andThen,sliced,offA]
theorem own_open {w:World} {base:Nat} {e:TypeId} {v:Value} {n:Nat} {cs:List Value} (h:w.ownsRow base e 1 v n cs) (hn:0<n) :
  ∃ g cap,v=.slice (some ⟨g,0,none⟩) n cap∧base≤g∧g<w.heap.size∧n≤cap∧cap≤maxLen∧∀ j,(hj:j<cs.length)→w.cell? ⟨g,j,none⟩=some cs[j]:=by
 have hr:=Rd.of_own h;obtain⟨hl,h|⟨g,cap,cur,rfl,hb,hg,hc,hm,hs,ht⟩⟩:=h
 ·omega
 ·refine⟨g,cap,rfl,hb,(Array.getElem?_eq_some_iff.1 hg).1,hc,hm,fun j hj=>?_⟩
  rcases hr with ⟨_,h⟩|⟨b,off,cap',h,_,_,_,hcell⟩
  ·subst h;simp at hj
  ·injection h with h1 h2 h3
   injection h1 with h1
   injection h1 with h1 h4
   subst h1 h4
   simpa using hcell j hj
theorem fam (w:World):∃ (T:Type) (_:Nonempty T) (f:T→World),(∀ x,Below w.heap.size w (f x))∧(∀ w',Below w.heap.size w w'→∃ x,w'=f x) :=
 ⟨{w' // Below w.heap.size w w'},⟨w,Below.refl _ _⟩,fun x=>x.1,fun x=>x.2,fun w' h=>⟨⟨w',h⟩,rfl⟩⟩
theorem wp_region_fam {P:Program} {T:Type} (f:T→World) {id:Nat} {Q:Exit→Act→World→Prop} {a:Act} {w:World} {l:List Oper} (hm:P.follows .mixedOrders=true) (hB:Region.lexB .any l.toArray=true)
  (h0:∀ w',Below w.heap.size w w'→∃ x,w'=f x)
  (h:wpQuiet P l.toArray (fun w'=>∃ x,w'=f x) (fun a'=>∀ w',(∃ x,w'=f x)→Q .normal a' w') l a):(Code.region id l.toArray true).wp P Q a w :=
 wp_region_quiet (C:=fun w'=>∃ x,w'=f x) hm hB (h0 _ ((Below.refl _ w).drew)) (by simpa using h)
theorem fam_call {P:Program} {T:Type} {f:T→World} {w:World} (hf:∀ x,Below w.heap.size w (f x)) (h0:∀ w',Below w.heap.size w w'→∃ x,w'=f x) {g:FuncId} {args:Array Value} {v:Value} (x:T)
  (h:Calls P g args (f x) fun e w'=>e=.returned v∧Below (f x).heap.size (f x) w'):Calls P g args (f x) fun e w'=>e=.returned v∧∃ y,w'=f y :=
 h.mono fun _ w' ⟨he,hb⟩=>⟨he,h0 w' ((hf x).trans (hb.mono (hf x).size))⟩
theorem wpList_append_rd {P:Program} (w:World) {ops:Array Oper} {rest:List Oper} {o:Oper} {a:Act} {Q:Exit→Act→World→Prop}
  (hg:o.guard=none) (s x:Operand) (t:TypeId) (hop:o.op=Op.call {callee:=Callee.builtin Builtin.append,args:=#[s,x],argTypes:=#[t,t]})
  (base:Nat) (e:TypeId) (i:TypeInfo) (z:Value) (bytes:Nat) (h1:P.underlying t=some (.slice e)) (h2:P.info? e=some i) (h3:i.zero=some z) (h4:i.size=1) (h5:i.bytes=bytes) (h6:z.cells.size=1)
  (v:Value) (k:Nat) (xs:List Value) (hs:a.eval s=v) (hown:w.ownsRow base e 1 v k xs) (u:Value) (cs:List Value) {b0:Nat} (hx:a.eval x=u) (hrd:Rd w b0 u cs)
  (h1c:∀ c ∈ cs,c.oneCell'=true) (b1:k+cs.length≤maxLen) (b2:(k+cs.length) * bytes≤140737488355328) (b3:base≤w.heap.size)
  (hK:∀ v' w',w'.ownsRow base e 1 v' (k+cs.length) (xs++cs)→w.grownBy w' v.ownBlock→(v'.ownBlock=v.ownBlock∨v'.ownBlock=some w.heap.size)→wpList P ops Q rest (a.put o.dst v') w') :
  wpList P ops Q (o::rest) a w:=by
 rcases hrd with ⟨⟨q,rfl⟩,rfl⟩|⟨b,off,cap,rfl,hb,hc,hm,hcell⟩
 ·cases q with
  | none =>
   refine wpList_append_own_none hg s x t hop base e i 1 h1 h2 v k xs hs hown hx ?_
   have:=hK v w (by simpa using hown) ⟨rfl,rfl,rfl,Nat.le_refl _,fun _ _ _=>rfl⟩ (.inl rfl)
   subst hs;exact this
  | some ad=>exact wpList_append_own_at w hg s x t hop base e i z 1 bytes h1 h2 h3 h4 h5 h6 (by decide) v k xs hs hown ad 0 0 [] hx (by simp) (fun j u' hj=>by simp at hj) h1c (by simpa using b1) (by simpa using b2) b3 (fun v' w' r1 r2 _ r4=>hK v' w' (by simpa using r1) r2 r4)
 ·have had:∀ j,(⟨b,off,none⟩:Addr).add j=⟨b,off+j,none⟩:=fun j=>by unfold Addr.add;split<;>simp_all
  refine wpList_append_own_at w hg s x t hop base e i z 1 bytes h1 h2 h3 h4 h5 h6 (by decide) v k xs hs hown ⟨b,off,none⟩ cs.length cap cs hx (by simp) (fun j u' hj=>?_) h1c b1 b2 b3 (fun v' w' r1 r2 _ r4=>hK v' w' r1 r2 r4)
  rw[had];obtain⟨hj',rfl⟩:=List.getElem?_eq_some_iff.1 hj;exact hcell j hj'
end Go.Proofs.YtdoflhjhaciepaaGreat
namespace Go.Proofs.YtdoflhjhaciepaaGreat
open Go.ChangeShapes Go.WideShapes Go.ChangeAt Go.RowKit
theorem addr_plain {w:World} {a:Addr} {u:Value} (h:w.cell? a=some u):∃ b off,a=⟨b,off,none⟩∧b<w.heap.size:=by
 obtain⟨b,off,spot⟩:=a;have hb:=World.block_lt_of_cell? w _ h;refine⟨b,off,?_,hb⟩;unfold World.cell? at h;split at h
 ·cases spot with
  | none=>rfl
  | some s=>simp at h
 ·cases h
theorem open_rd {P:Program} {H:Type} {enc:TypeId × Value→H} {W:World} {t e:TypeId} {k:IntKind} {v:Value} {d:DataW H} {p:List MemPlace}
  (hu:P.underlying t=some (.slice e)) (he:P.underlying e=some (.int k)) (hc:P.cellsOf e=1) (hv:∃ a l c,v=.slice a l c)
  (h:DataW.Trod enc P W 0 (fun _=>true) true t v d p) :
  ∃ xs:List Int,Rd W W.heap.size v (xs.map (.int k))∧(∀ x ∈ xs,(Lit.int k x).wf=true)∧(xs=[]∨∃ elems spare,d=.slice elems spare∧elems.length=xs.length):=by
 obtain⟨a0,l0,c0,rfl⟩:=hv;obtain⟨fuel,hf⟩:=h;rcases open_ints hu he hc hf with ⟨hcs,hx⟩|⟨x,l,c,zs,hcs,_,hl,hm,hz,hx,hcell,hwz⟩
 ·simp[Value.cells]at hcs;obtain⟨rfl,rfl,rfl⟩:=hcs;exact⟨[],.inl ⟨⟨_,rfl⟩,rfl⟩,by simp,.inl rfl⟩
 ·simp[Value.cells]at hcs;obtain⟨rfl,rfl,rfl⟩:=hcs;simp only[if_true]at hz
  by_cases hcz:c0=0
  ·subst hcz;have:l0=0:=by omega
   subst this;have:zs=[]:=List.eq_nil_of_length_eq_zero hz;subst this;exact⟨[],.inl ⟨⟨_,rfl⟩,rfl⟩,by simp,.inl rfl⟩
  ·obtain⟨b,off,hxe,hb⟩:=addr_plain (hcell 0 (by omega))
   have hx0:x=⟨b,off,none⟩:=by
    obtain⟨xb,xo,xs⟩:=x;simp only[Addr.add]at hxe;split at hxe<;>simp_all
   subst hx0;have had:∀ j,(⟨b,off,none⟩:Addr).add j=⟨b,off+j,none⟩:=fun j=>by unfold Addr.add;split<;>simp_all
   have hlt:(zs.take l0).length=l0:=by simp;omega
   refine⟨zs.take l0,.inr ⟨b,off,c0,by simp;omega,hb,by simp;omega,hm,fun j hj=>?_⟩,fun n hn=>hwz n (List.mem_of_mem_take hn),.inr ⟨_,_,(Prod.mk.inj hx).1,by simp[lits]⟩⟩
   simp only[List.length_map,hlt]at hj;have:=hcell j (by omega)
   rw[had]at this;rw[this];have hj':j<zs.length:=by omega
   simp[hj']
end Go.Proofs.YtdoflhjhaciepaaGreat
namespace Go.Proofs.YtdoflhjhaciepaaGreat
open Go.RowKit
def setV (s:Nat→Nat):Value:=.agg #[.int .u64 (s 0),.int .u64 (s 1),.int .u64 (s 2),.int .u64 (s 3)]
def setC (s:Nat→Nat):Array Value:=#[.int .u64 (s 0),.int .u64 (s 1),.int .u64 (s 2),.int .u64 (s 3)]
def SetOk (s:Nat→Nat):Prop:=∀ k,k<4→s k<2 ^ 64
def hasB (s:Nat→Nat) (b:Nat):Bool:=(s (b / 64)).testBit (b % 64)
theorem setV_ext {s t:Nat→Nat} (hs:SetOk s) (ht:SetOk t) (h:∀ b,b<256→hasB s b=hasB t b):setV s=setV t:=by
 have e:∀ k,k<4→s k=t k:=by
  intro k hk;apply Nat.eq_of_testBit_eq;intro i
  by_cases hi:i<64
  ·have:=h (64 * k+i) (by omega)
   unfold hasB at this;rw[show (64 * k+i) / 64=k from by omega,show (64 * k+i) % 64=i from by omega]at this
   exact this
  ·rw[Nat.testBit_lt_two_pow (Nat.lt_of_lt_of_le (hs k hk) (Nat.pow_le_pow_right (by omega) (by omega))),Nat.testBit_lt_two_pow (Nat.lt_of_lt_of_le (ht k hk) (Nat.pow_le_pow_right (by omega) (by omega)))]
 unfold setV;rw[e 0 (by omega),e 1 (by omega),e 2 (by omega),e 3 (by omega)]
theorem setV_words {s t:Nat→Nat} (h:setV s=setV t):∀ k,k<4→s k=t k:=by
 unfold setV at h;simp only[Value.agg.injEq]at h;have h':=congrArg Array.toList h;simp at h';intro k hk
 match k,hk with
 | 0,_=>omega
 | 1,_=>omega
 | 2,_=>omega
 | 3,_=>omega
def emptyS:Nat→Nat:=fun _=>0
def fullS:Nat→Nat:=fun _=>2 ^ 64 - 1
def notS (s:Nat→Nat):Nat→Nat:=fun k=>2 ^ 64 - 1 - s k
def addS (s:Nat→Nat) (b:Nat):Nat→Nat:=fun k=>if k=b / 64 then s k ||| 2 ^ (b % 64) else s k
theorem emptyS_ok:SetOk emptyS:=fun k _=>by simp[emptyS]
theorem fullS_ok:SetOk fullS:=fun k _=>by simp[fullS]
theorem notS_ok (s:Nat→Nat):SetOk (notS s):=fun k _=>by unfold notS;omega
theorem addS_ok {s:Nat→Nat} (hs:SetOk s) (b:Nat):SetOk (addS s b):=fun k hk=>by
 unfold addS;split
 ·exact Nat.or_lt_two_pow (hs k hk) (Nat.pow_lt_pow_right (by omega) (by omega))
 ·exact hs k hk
theorem has_empty (b:Nat):hasB emptyS b=false:=by simp[hasB,emptyS]
theorem has_not {s:Nat→Nat} (hs:SetOk s) {b:Nat} (hb:b<256):hasB (notS s) b=!hasB s b:=by
 unfold hasB notS;have h:=Nat.testBit_two_pow_sub_succ (hs (b / 64) (by omega)) (b % 64)
 rw[show 2 ^ 64 - (s (b / 64)+1)=2 ^ 64 - 1 - s (b / 64) from by omega]at h
 rw[h];simp;omega
theorem has_add {s:Nat→Nat} (b c:Nat):hasB (addS s b) c=(hasB s c || decide (c=b)):=by
 unfold hasB addS;split
 ·rename_i h;rw[Nat.testBit_or,Nat.testBit_two_pow]
  congr 1
  rw[decide_eq_decide];omega
 ·rename_i h;have:¬ c=b:=fun e=>h (by rw[e])
  simp[this]
theorem bit_nat (x r:Nat):(x / 2 ^ r % 2=1)↔x.testBit r=true:=by
 rw[Nat.testBit_eq_decide_div_mod_eq];simp
theorem bit_walk (x r:Nat) (hx:x<2 ^ 64):(bits .and .u64 ((x:Int) / 2 ^ r) 1 == 1)=x.testBit r:=by
 have e:((x:Int) / 2 ^ r)=((x / 2 ^ r:Nat):Int):=by simp
 rw[e];have hlt:x / 2 ^ r<18446744073709551616:=Nat.lt_of_le_of_lt (Nat.div_le_self _ _) hx;have h:=u64_and_nat (x / 2 ^ r) 1 hlt (by omega)
 rw[show ((1:Nat):Int)=1 from rfl]at h
 rw[h,nat_mask1,Bool.eq_iff_iff,← bit_nat];simp;omega
def SBox (W:World) (B:Nat) (T:TypeId) (s:Nat→Nat):Prop:=W.heap[B]?=some (.cells (setC s) T (0,0))
theorem SBox.lt {W:World} {B:Nat} {T:TypeId} {s:Nat→Nat} (h:SBox W B T s):B<W.heap.size:=(Array.getElem?_eq_some_iff.1 h).1
theorem SBox.cell {W:World} {B:Nat} {T:TypeId} {s:Nat→Nat} (h:SBox W B T s) {k:Nat} (hk:k<4):W.cell? ⟨B,k,none⟩=some (.int .u64 (s k)):=by
 rw[cell_of_row W B k _ _ _ h];unfold setC
 match k,hk with
 | 0,_=>rfl
 | 1,_=>rfl
 | 2,_=>rfl
 | 3,_=>rfl
theorem SBox.frozen {W:World} {B:Nat} {T:TypeId} {s:Nat→Nat} (h:SBox W B T s) (k:Nat):W.frozen? ⟨B,k,none⟩=false:=by
 simp[World.frozen?,show W.heap[B]?=_ from h]
theorem SBox.new (W:World) (T:TypeId) (s:Nat→Nat):SBox (W.alloc (.cells (setC s) T)) W.heap.size T s:=World.alloc_heap_new W _
theorem SBox.below {W W':World} {n B:Nat} {T:TypeId} {s:Nat→Nat} (h:SBox W B T s) (hb:Below n W W') (hB:B<n):SBox W' B T s:=(hb.block B hB).trans h
theorem SBox.alloc {W:World} {B:Nat} {T:TypeId} {s:Nat→Nat} (h:SBox W B T s) (o:Obj):SBox (W.alloc o) B T s:=(Below.heap_alloc W o B h.lt).trans h
theorem SBox.other {W:World} {B B':Nat} {T:TypeId} {s:Nat→Nat} (h:SBox W B T s) (hne:B≠B') (k:Nat) (v:Value):SBox (W.setCell ⟨B',k,none⟩ v) B T s:=(Below.heap_setCell W _ _ B hne).trans h
theorem SBox.set {W:World} {B:Nat} {T:TypeId} {s:Nat→Nat} (h:SBox W B T s) {k:Nat} (hk:k<4) (x:Nat):SBox (W.setCell ⟨B,k,none⟩ (.int .u64 x)) B T (fun j=>if j=k then x else s j):=by
 obtain⟨hlt,hh⟩:=Array.getElem?_eq_some_iff.1 h
 show (W.heap.modify B _)[B]?=_
 rw[Array.getElem?_eq_getElem (by rw[Array.size_modify];exact hlt),Array.getElem_modify_self,hh]
 unfold setC
 match k,hk with
 | 0,_=>rfl
 | 1,_=>rfl
 | 2,_=>rfl
 | 3,_=>rfl
theorem SBox.ext {W:World} {B:Nat} {T:TypeId} {s t:Nat→Nat} (h:SBox W B T s) (e:∀ k,k<4→s k=t k):SBox W B T t:=by
 unfold SBox setC at *;rw[h,e 0 (by omega),e 1 (by omega),e 2 (by omega),e 3 (by omega)]
def RdS (w:World) (b0:Nat) (v:Value) (L:List (Nat→Nat)):Prop :=
 ((∃ q,v=.slice q 0 0)∧L=[])∨∃ b off cap,v=.slice (some ⟨b,off,none⟩) L.length cap∧b<b0∧L.length≤cap∧cap≤maxLen ∧
  ∀ j,(hj:j<L.length)→∀ k,k<4→w.cell? ⟨b,off+j * 4+k,none⟩=some (.int .u64 (L[j] k))
theorem RdS.below {w w':World} {b0:Nat} {v:Value} {L:List (Nat→Nat)} (h:RdS w b0 v L) (hb:Below b0 w w'):RdS w' b0 v L:=by
 rcases h with h|⟨b,off,cap,e,h1,h2,h3,h4⟩
 ·exact .inl h
 ·exact .inr ⟨b,off,cap,e,h1,h2,h3,fun j hj k hk=>(hb.cell (p:=⟨b,off+j * 4+k,none⟩) h1).trans (h4 j hj k hk)⟩
theorem RdS.up {w:World} {b0 b1:Nat} {v:Value} {L:List (Nat→Nat)} (h:RdS w b0 v L) (hb:b0≤b1):RdS w b1 v L:=by
 rcases h with h|⟨b,off,cap,e,h1,h2,h3,h4⟩
 ·exact .inl h
 ·exact .inr ⟨b,off,cap,e,by omega,h2,h3,h4⟩
def foldS (op:Nat→Nat→Nat) (s:Nat→Nat) (L:List (Nat→Nat)):Nat→Nat:=L.foldl (fun a t k=>op (a k) (t k)) s
theorem foldS_ok {op:Nat→Nat→Nat} (hop:∀ x y,x<2 ^ 64→y<2 ^ 64→op x y<2 ^ 64) {L:List (Nat→Nat)}:∀ {s:Nat→Nat},SetOk s→(∀ t ∈ L,SetOk t)→SetOk (foldS op s L):=by
 induction L with
 | nil=>intro s hs _;exact hs
 | cons t L ih =>
  intro s hs hL;exact ih (s:=fun k=>op (s k) (t k)) (fun k hk=>hop _ _ (hs k hk) (hL t (by simp) k hk)) (fun u hu=>hL u (by simp[hu]))
theorem SBox.set4 {W:World} {B:Nat} {T:TypeId} {t:Nat→Nat} (h:SBox W B T t) (s:Nat→Nat) :
  SBox ((((W.setCell ⟨B,0,none⟩ (.int .u64 (s 0))).setCell ⟨B,1,none⟩ (.int .u64 (s 1))).setCell ⟨B,2,none⟩ (.int .u64 (s 2))).setCell ⟨B,3,none⟩ (.int .u64 (s 3))) B T s :=
 ((((h.set (k:=0) (by omega) (s 0)).set (k:=1) (by omega) (s 1)).set (k:=2) (by omega) (s 2)).set (k:=3) (by omega) (s 3)).ext (fun k hk=>by
  match k,hk with
  | 0,_=>rfl
  | 1,_=>rfl
  | 2,_=>rfl
  | 3,_=>rfl)
theorem below_set4 {W X:World} {B n:Nat} (h:Below n X W) (hB:n≤B) (v0 v1 v2 v3:Value) :
  Below n X ((((W.setCell ⟨B,0,none⟩ v0).setCell ⟨B,1,none⟩ v1).setCell ⟨B,2,none⟩ v2).setCell ⟨B,3,none⟩ v3) :=
 (((h.setCell (p:=⟨B,0,none⟩) hB v0).setCell (p:=⟨B,1,none⟩) hB v1).setCell (p:=⟨B,2,none⟩) hB v2).setCell (p:=⟨B,3,none⟩) hB v3
def unionS (L:List (Nat→Nat)):Nat→Nat:=foldS (fun x y=>x ||| y) emptyS L
def meetS (L:List (Nat→Nat)):Nat→Nat:=foldS (fun x y=>x &&& y) fullS L
theorem or_bound (x y:Nat) (hx:x<2 ^ 64) (hy:y<2 ^ 64):x ||| y<2 ^ 64:=Nat.or_lt_two_pow hx hy
theorem and_bound (x y:Nat) (hx:x<2 ^ 64) (_:y<2 ^ 64):x &&& y<2 ^ 64:=Nat.lt_of_le_of_lt Nat.and_le_left hx
theorem unionS_ok {L:List (Nat→Nat)} (h:∀ t ∈ L,SetOk t):SetOk (unionS L):=foldS_ok or_bound emptyS_ok h
theorem meetS_ok {L:List (Nat→Nat)} (h:∀ t ∈ L,SetOk t):SetOk (meetS L):=foldS_ok and_bound fullS_ok h
def ofS (xs:List Int):Nat→Nat:=xs.foldl (fun s b=>addS s b.toNat) emptyS
theorem ofS_snoc (xs:List Int) (b:Int):ofS (xs++[b])=addS (ofS xs) b.toNat:=by simp[ofS]
theorem ofS_fold_ok (xs:List Int):∀ s,SetOk s→SetOk (xs.foldl (fun s b=>addS s b.toNat) s):=by
 induction xs with
 | nil=>exact fun s hs=>hs
 | cons b xs ih=>exact fun s hs=>ih _ (addS_ok hs _)
theorem ofS_ok (xs:List Int):SetOk (ofS xs):=ofS_fold_ok xs _ emptyS_ok
theorem addS_at {S:Nat→Nat} {n q r:Nat} (hq:n / 64=q) (hr:n % 64=r):(fun j=>if j=q then S q ||| 2 ^ r else S j)=addS S n:=by
 funext j;unfold addS;rw[hq,hr];split
 ·rename_i h;rw[h]
 ·rfl
end Go.Proofs.YtdoflhjhaciepaaGreat
namespace Go.Proofs.YtdoflhjhaciepaaGreat
open Go.ChangeShapes Go.WideShapes Go.ChangeAt Go.RowKit
theorem lit_u64 {a:Int} (h:(Lit.int .u64 a).wf=true):∃ n:Nat,a=n∧n<2 ^ 64:=by
 have h':0≤a∧a≤18446744073709551615:=by
  simp[Lit.wf]at h;have h1:IntKind.u64.min=0:=by decide
  have h2:IntKind.u64.max=18446744073709551615:=by decide
  omega
 exact⟨a.toNat,by omega,by omega⟩
theorem open_setcells {H:Type} {enc:TypeId × Value→H} {W:World} {sp:Nat→Bool} {b0 fuel:Nat} {cs:List Value} {x:DataW H × List MemPlace}
  (hf:DataW.trod enc Tryz.prog W b0 sp true fuel 40 cs=some x):∃ s,cs=(setC s).toList∧SetOk s:=by
 have hu:=Tryz.underlying40;have he:=Tryz.underlying38;have hc:Tryz.prog.cellsOf 38=1:=by kernel_rfl
 cases fuel with
 | zero=>simp[DataW.trod]at hf
 | succ m =>
  rw[DataW.trod_step]at hf;unfold DataW.trodStep at hf;simp only[hu]at hf
  by_cases hs':cs.length=4
  ·rw[if_pos (by rw[show Tryz.prog.cellsOf 40=4 from by kernel_rfl];simpa using hs')]at hf
   simp only[Option.map_eq_some_iff]at hf;obtain⟨ys,hy,_⟩:=hf;have hl:List.range 4=[0,1,2,3]:=by decide
   rw[hl,hc]at hy;simp only[List.mapM_cons,List.mapM_nil,bind,Option.bind_eq_some_iff,pure,Option.some.injEq]at hy;obtain⟨y0,hy0,ys0,⟨y1,hy1,ys1,⟨y2,hy2,ys2,⟨y3,hy3,ys3,_,_⟩,_⟩,_⟩,_⟩:=hy;obtain⟨a0,e0,_,w0⟩:=DataW.trod_int he hy0;obtain⟨a1,e1,_,w1⟩:=DataW.trod_int he hy1;obtain⟨a2,e2,_,w2⟩:=DataW.trod_int he hy2;obtain⟨a3,e3,_,w3⟩:=DataW.trod_int he hy3;obtain⟨n0,rfl,h0⟩:=lit_u64 w0;obtain⟨n1,rfl,h1⟩:=lit_u64 w1
   obtain⟨n2,rfl,h2⟩:=lit_u64 w2;obtain⟨n3,rfl,h3⟩:=lit_u64 w3;refine⟨fun k=>if k=0 then n0 else if k=1 then n1 else if k=2 then n2 else n3,?_,?_⟩
   ·match cs,hs' with
    | [x0,x1,x2,x3],_ =>
     simp at e0 e1 e2 e3;subst e0 e1 e2 e3;rfl
   ·intro k _
    show (if k=0 then n0 else if k=1 then n1 else if k=2 then n2 else n3)<2 ^ 64
    split
    ·exact h0
    ·split
     ·exact h1
     ·split
      ·exact h2
      ·exact h3
  ·rw[if_neg (by rw[show Tryz.prog.cellsOf 40=4 from by kernel_rfl];simpa using hs')]at hf
   cases hf
end Go.Proofs.YtdoflhjhaciepaaGreat
namespace Go.Proofs.YtdoflhjhaciepaaGreat
open Go.RowKit Go.Shelf
attribute [local go_sem] Oper.semAt_some
theorem bdiv_cases {b:Nat} (hb:b<256):∃ r,r<64∧b % 64=r∧((b:Int) % 64=(r:Int))∧((b / 64=0∧(b:Int) / 64=0)∨(b / 64=1∧(b:Int) / 64=1)∨(b / 64=2∧(b:Int) / 64=2)∨(b / 64=3∧(b:Int) / 64=3)) :=
 ⟨b % 64,by omega,rfl,by omega,by omega⟩
theorem set_Has (s:Nat→Nat) (hs:SetOk s) (b:Nat) (hb:b<256) (w:World) :
  Calls Tryz.prog 37 #[setV s,.int .u8 b] w fun e w'=>e=.returned (.bool (hasB s b))∧Below w.heap.size w w':=by
 obtain⟨r,hr,hr1,hr2,h⟩:=bdiv_cases hb;unfold setV;rcases h with ⟨h1,hq⟩|⟨h1,hq⟩|⟨h1,hq⟩|⟨h1,hq⟩
 all_goals
  have H1:=Lib.hid h1;clear h1;have HR:=Lib.hid hr1;clear hr1
  go_enter Tryz.func37,Tryz.ntmps37
  go_wp2
  go_ret;refine⟨?_,(Below.refl _ _).alloc (Nat.le_refl _) _⟩;have:=bit_walk (s (b / 64)) r (hs _ (by omega))
  rw[H1.out]at this;unfold hasB;rw[H1.out,HR.out];exact congrArg (fun x=>Ending.returned (Value.bool x)) this

def rangeS (lo n:Nat):Nat→Nat:=ofS ((List.range' lo n).map (fun k:Nat=>(k:Int)))
theorem rangeS_succ (lo n:Nat):rangeS lo (n+1)=addS (rangeS lo n) (lo+n):=by
 unfold rangeS;rw[List.range'_concat,List.map_append,List.map_cons,List.map_nil,ofS_snoc];simp only[Int.toNat_natCast,Nat.one_mul]

def eqS (u s:Nat→Nat):Bool:=(u 0 == s 0)&&(u 1 == s 1)&&(u 2 == s 2)&&(u 3 == s 3)
theorem run_eqSet (u s:Nat→Nat) (W:World):(Op.equalIn 10000 40 (.agg #[.int .u64 (u 0),.int .u64 (u 1),.int .u64 (u 2),.int .u64 (u 3)]) (.agg #[.int .u64 (s 0),.int .u64 (s 1),.int .u64 (s 2),.int .u64 (s 3)])).run Tryz.prog W=.ok (eqS u s) W:=by
 have hi:(Tryz.prog.info? 38).isSome=true:=by kernel_rfl
 obtain⟨i,hi⟩:=Option.isSome_iff_exists.1 hi;have hu:Tryz.prog.underlying 38=some (.int .u64):=by kernel_rfl
 have hc:Tryz.prog.cellsOf 38=1:=by kernel_rfl
 have hst:∀ (x:Nat→Nat) (k:Nat),k<4→∀ W,(part 38 #[.int .u64 (x 0),.int .u64 (x 1),.int .u64 (x 2),.int .u64 (x 3)] (k * 1)).run Tryz.prog W=.ok (.int .u64 (x k)) W:=by
  intro x k hk W;rw[Nat.mul_one]
  match k,hk with
  | 0,_=>simp[go_sem]
  | 1,_=>simp[go_sem]
  | 2,_=>simp[go_sem]
  | 3,_=>simp[go_sem]
 rw[run_equalIn_array W 9999 (n:=4) _ _ (by kernel_rfl) hi,hc]
 have hl:List.range 4=[0,1,2,3]:=by decide
 have he:∀ (a b:Nat),((a:Int) == (b:Int))=(a == b):=by intro a b;rw[Bool.eq_iff_iff];simp;omega
 rw[hl];unfold eqS;simp only[Op.eqItems,Sem.run_bind];simp only[hst u 0 (by decide),hst s 0 (by decide),Result.andThen_ok,run_equalIn_int _ _ _ _ _ _ _ hu,he]
 cases u 0 == s 0
 ·simp
 simp only[Bool.not_true,Bool.false_eq_true,if_false,Bool.true_and,Sem.run_bind];simp only[hst u 1 (by decide),hst s 1 (by decide),Result.andThen_ok,run_equalIn_int _ _ _ _ _ _ _ hu,he]
 cases u 1 == s 1
 ·simp
 simp only[Bool.not_true,Bool.false_eq_true,if_false,Bool.true_and,Sem.run_bind];simp only[hst u 2 (by decide),hst s 2 (by decide),Result.andThen_ok,run_equalIn_int _ _ _ _ _ _ _ hu,he]
 cases u 2 == s 2
 ·simp
 simp only[Bool.not_true,Bool.false_eq_true,if_false,Bool.true_and,Sem.run_bind];simp only[hst u 3 (by decide),hst s 3 (by decide),Result.andThen_ok,run_equalIn_int _ _ _ _ _ _ _ hu,he]
 cases u 3 == s 3
 ·simp
 simp
end Go.Proofs.YtdoflhjhaciepaaGreat
namespace Go.Proofs.YtdoflhjhaciepaaGreat
open Go.RowKit
def fill:List Oper→Nat→Array Bool→(Nat→Value)→Act→Act
 | [],_,_,_,a=>a
 | o::r,k,listed,vals,a=>fill r (k+1) listed vals (if listed.getD k false then a.put o.dst (vals k) else a)
def fillAll:List Oper→Nat→(Nat→Value)→Act→Act
 | [],_,_,a=>a
 | o::r,k,vals,a=>fillAll r (k+1) vals (a.put o.dst (vals k))
theorem fill_all:∀ (l:List Oper) (k:Nat) (listed:Array Bool) (vals:Nat→Value) (a:Act),(∀ i,i<l.length→listed.getD (k+i) false=true)→fill l k listed vals a=fillAll l k vals a
 | [],_,_,_,_,_=>rfl
 | o::r,k,listed,vals,a,h=>by
  have h0:listed.getD k false=true:=by simpa using h 0 (by simp)
  simp only[fill,fillAll,h0,if_true];exact fill_all r (k+1) listed vals _ (fun i hi=>by have:=h (i+1) (by simp;omega);rwa [show k+(i+1)=k+1+i from by omega]at this)
theorem fill_none:∀ (l:List Oper) (k:Nat) (listed:Array Bool) (vals:Nat→Value) (a:Act),(∀ i,listed.getD i false=false)→fill l k listed vals a=a
 | [],_,_,_,_,_=>rfl
 | o::r,k,listed,vals,a,h=>by
  simp only[fill,h k,Bool.false_eq_true,if_false];exact fill_none r (k+1) listed vals a h
theorem fill_put:∀ (l:List Oper) (k:Nat) (listed:Array Bool) (vals:Nat→Value) (a:Act) (d:Tmp) (v:Value),(∀ o ∈ l,o.dst≠some d) →
  fill l k listed vals (a.put (some d) v)=(fill l k listed vals a).put (some d) v
 | [],_,_,_,_,_,_,_=>rfl
 | o::r,k,listed,vals,a,d,v,h=>by
  simp only[fill];rw[← fill_put r (k+1) listed vals _ d v (fun o' ho'=>h o' (List.mem_cons_of_mem _ ho'))]
  congr 1
  split
  ·exact Act.put_comm a v (vals k) (fun d' e=>by cases e;exact h o (List.mem_cons_self ..))
  ·rfl
theorem fill_congr:∀ (l:List Oper) (k:Nat) (listed listed':Array Bool) (vals vals':Nat→Value) (a:Act),
  (∀ i,i<l.length→listed.getD (k+i) false=listed'.getD (k+i) false∧vals (k+i)=vals' (k+i))→fill l k listed vals a=fill l k listed' vals' a
 | [],_,_,_,_,_,_,_=>rfl
 | o::r,k,listed,listed',vals,vals',a,h=>by
  have h0:=h 0 (by simp)
  simp only[Nat.add_zero]at h0;simp only[fill,h0.1,h0.2];exact fill_congr r (k+1) listed listed' vals vals' _ (fun i hi=>by have:=h (i+1) (by simp;omega);rwa [show k+(i+1)=k+1+i from by omega]at this)
def dstsB:List Oper→Bool
 | []=>true
 | o::r=>o.dst.isSome&&r.all (fun o'=>o'.dst != o.dst)&&dstsB r
theorem fill_set:∀ (l:List Oper) (k i:Nat) (listed:Array Bool) (vals:Nat→Value) (a:Act) (o:Oper) (d:Tmp) (v:Value),dstsB l=true→l[i]?=some o→o.dst=some d →
  listed.getD (k+i) true=false →
  fill l k (listed.setIfInBounds (k+i) true) (fun j=>if j=k+i then v else vals j) a=(fill l k listed vals a).put (some d) v
 | [],_,_,_,_,_,_,_,_,_,h,_,_=>by simp at h
 | o::r,k,0,listed,vals,a,o',d,v,hd,h,hod,hl=>by
  simp at h;subst h;simp only[dstsB,Bool.and_eq_true]at hd;obtain⟨⟨_,hall⟩,hr⟩:=hd;have hne:∀ o' ∈ r,o'.dst≠some d:=by
   intro o' ho' e;have:=List.all_eq_true.1 hall o' ho';rw[e,hod]at this;simp at this
  have h1:(listed.setIfInBounds k true).getD k false=true:=by
   have hk:k<listed.size:=by
    rcases Nat.lt_or_ge k listed.size with h'|h'
    ·exact h'
    ·simp[Array.getElem?_eq_none h']at hl
   simp[hk]
  have h2:listed.getD k false=false:=getD_both (by simpa using hl)
  simp only[Nat.add_zero,fill,h1,h2,if_true,Bool.false_eq_true,if_false,hod];rw[fill_put r (k+1) _ _ a d v hne]
  congr 1
  refine fill_congr r (k+1) _ _ _ _ a (fun i hi=>⟨?_,by rw[if_neg (by omega)]⟩)
  exact getD_set_ne false (by omega)
 | o::r,k,i+1,listed,vals,a,o',d,v,hd,h,hod,hl=>by
  simp only[dstsB,Bool.and_eq_true]at hd;obtain⟨⟨_,hall⟩,hr⟩:=hd;simp only[List.getElem?_cons_succ]at h;have ih:=fill_set r (k+1) i listed vals (if listed.getD k false then a.put o.dst (vals k) else a) o' d v hr h hod (by rwa [show k+1+i=k+(i+1) from by omega])
  simp only[fill];rw[show k+(i+1)=k+1+i from by omega,getD_set_ne false (by omega),if_neg (by omega:¬ k=k+1+i)]
  exact ih
theorem put_tmps (a:Act) (d t:Nat) (v:Value) (h:t≠d):(a.put (some d) v).eval (.tmp t)=a.eval (.tmp t):=by
 simp only[Act.put,Act.eval];simp[Array.getElem?_setIfInBounds_ne (show d≠t from fun e=>h e.symm)]
theorem put_tmps_same (a:Act) (d:Nat) (v:Value) (h:d<a.tmps.size):(a.put (some d) v).eval (.tmp d)=v:=by
 simp only[Act.put,Act.eval];simp[h]
theorem put_size (a:Act) (d:Option Tmp) (v:Value):(a.put d v).tmps.size=a.tmps.size:=by
 cases d<;>simp[Act.put]
theorem fill_size:∀ (l:List Oper) (k:Nat) (listed:Array Bool) (vals:Nat→Value) (a:Act),(fill l k listed vals a).tmps.size=a.tmps.size
 | [],_,_,_,_=>rfl
 | o::r,k,listed,vals,a=>by
  simp only[fill];rw[fill_size];split
  ·exact put_size ..
  ·rfl
theorem fill_frame:∀ (l:List Oper) (k:Nat) (listed:Array Bool) (vals:Nat→Value) (a:Act) (t:Tmp),l.any (fun o=>o.dst == some t)=false→(fill l k listed vals a).eval (.tmp t)=a.eval (.tmp t)
 | [],_,_,_,_,_,_=>rfl
 | o::r,k,listed,vals,a,t,h=>by
  simp only[List.any_cons,Bool.or_eq_false_iff]at h;simp only[fill];rw[fill_frame r (k+1) listed vals _ t h.2];split
  ·cases hd:o.dst with
   | none=>rfl
   | some d=>exact put_tmps a d t _ (fun e=>by subst e;rw[hd]at h;simp at h)
  ·rfl
theorem fill_at:∀ (l:List Oper) (k:Nat) (listed:Array Bool) (vals:Nat→Value) (a:Act) (j:Nat) (o:Oper) (d:Tmp),dstsB l=true→l[j]?=some o→o.dst=some d→d<a.tmps.size →
  listed.getD (k+j) false=true→(fill l k listed vals a).eval (.tmp d)=vals (k+j)
 | [],_,_,_,_,_,_,_,_,h,_,_,_=>by simp at h
 | o::r,k,listed,vals,a,0,o',d,hd,h,hod,hsz,hl=>by
  simp at h;subst h;simp only[dstsB,Bool.and_eq_true]at hd;obtain⟨⟨_,hall⟩,hr⟩:=hd;simp only[Nat.add_zero]at hl ⊢;simp only[fill,hl,if_true,hod]
  rw[fill_frame r (k+1) listed vals _ d (by
   rw[Bool.eq_false_iff];intro hc;obtain⟨o',ho',e⟩:=List.any_eq_true.1 hc;have:=List.all_eq_true.1 hall o' ho';rw[hod]at this
   simp at e this;exact this e),put_tmps_same a d _ hsz]
 | o::r,k,listed,vals,a,j+1,o',d,hd,h,hod,hsz,hl=>by
  simp only[dstsB,Bool.and_eq_true]at hd;simp only[fill];rw[show k+(j+1)=k+1+j from by omega]at hl ⊢
  exact fill_at r (k+1) listed vals _ j o' d hd.2 (by simpa using h) hod (by split<;>simp[put_size,hsz]) hl
structure RCtx (l:List Oper) (Ss:Nat→Value→World→Prop) (a0:Act) (w0:World) (o:Oper) (a:Act) (w:World):Prop where
 below:Below w0.heap.size w0 w
 frame:∀ t,l.any (fun o=>o.dst == some t)=false→a.eval (.tmp t)=a0.eval (.tmp t)
 dep:∀ j d,o.after.toList.any (fun e=>Region.binds .any e&&e.on == j)=true→(l[j]?).bind (·.dst)=some d→Ss j (a.eval (.tmp d)) w
 bound:a.tmps.size=a0.tmps.size
def StepOk (P:Program) (o:Oper) (a:Act) (w:World) (s:Value→World→Prop):Prop :=
 o.wp P a w (fun a' w'=>∃ v,a'=a.put o.dst v∧Below w.heap.size w w'∧s v w') (fun _ _ _=>False)
def RStep (P:Program) (ops:Array Oper) (o:Oper) (a:Act) (w:World) (s:Value→World→Prop):Prop :=
 if Region.wanted o (yielded ops a.tmps) then StepOk P o a w s else s undef w
theorem wpQ_mono {P:Program} {o:Oper} {a:Act} {w:World} {K:Act→World→Prop} {Q:Exit→Act→World→Prop} (h:o.wp P a w K (fun _ _ _=>False)):o.wp P a w K Q:=by
 unfold Oper.wp at *
 generalize (execOp a.eval o).run P w=r at *
 cases r with
 | ok n w' =>
  cases n<;>simp only[Oper.upon]at h ⊢ <;>
   first
    | exact h
    | exact Calls.mono h (fun e w'' he=>by
      cases e with
      | returned v=>exact he
      | panicked c=>exact he.elim
      | outgrown=>obtain⟨_,_,h⟩:=he;exact h.elim)
 | halt x w'=>cases x<;>simp only[Oper.upon]at h ⊢<;>exact h.elim
def headListed (n g:Nat):Array Bool:=(List.replicate n true++List.replicate g false).toArray
def specB (ops:Array Oper) (n:Nat):Bool :=
 decide (n≤ops.size)&&dstsB (ops.toList.take n) &&
 ((ops.toList.take n).zipIdx.all fun (o,i)=>o.after.all fun e=>!Region.binds .any e || decide (e.on<i)) &&
 (decide (n=ops.size) || (Region.sinkB .any ops n&&Region.chainB .any ops n)) &&
 Region.seqB .any ops (ops.size - n) n (headListed n (ops.size - n))
theorem listed_head {ops:Array Oper} {n:Nat} {listed:Array Bool} (hn:n≤ops.size) (inv:HeadInv .any ops n listed) (h:∀ i,i<n→listed.getD i false=true):listed=headListed n (ops.size - n):=by
 have hs:=inv.size;apply Array.ext
 ·simp[headListed,hs];omega
 ·intro i h1 h2
  by_cases hi:i<n
  ·have:=h i hi;rw[Array.getD_eq_getD_getElem?,Array.getElem?_eq_getElem h1]at this;simp at this;rw[this];simp[headListed,hi]
  ·have:=inv.tail i (by omega) (by omega)
   rw[Array.getD_eq_getD_getElem?,Array.getElem?_eq_getElem h1]at this;simp at this;rw[this];simp[headListed,List.getElem_append,hi]
theorem put_lit (t:Array Value) (d:List Deferred) (i:Nat) (v:Value):({tmps:=t,defers:=d}:Act).put (some i) v={tmps:=t.setIfInBounds i v,defers:=d}:=rfl
theorem pl:(∀ (t:Array Value) (d:List Deferred) (i:Nat) (v:Value),({tmps:=t,defers:=d}:Act).put (some i) v={tmps:=t.setIfInBounds i v,defers:=d})∧(∀ (a:Act) (v:Value),a.put none v=a)∧(∀ (a:Value) (l:List Value) (n:Nat),l.toArray.setIfInBounds n a=(l.set n a).toArray)∧(∀ (a b:Value) (l:List Value) (n:Nat),(a::l).set (n+1) b=a::l.set n b)∧∀ (a b:Value) (l:List Value),(a::l).set 0 b=b::l :=
 ⟨fun _ _ _ _=>rfl,fun _ _=>rfl,fun _ _ _=>List.setIfInBounds_toArray ..,fun _ _ _ _=>rfl,fun _ _ _=>rfl⟩
def blk:Value→Nat
 | .pointer (some a)=>a.block
 | .slice (some a) _ _=>a.block
 | _=>0
theorem wp_region_specD {P:Program} {id:Nat} {Q:Exit→Act→World→Prop} {a0:Act} {w0:World} {l:List Oper} (n:Nat) (Ss:Nat→Value→World→Prop) (D:Nat→Bool)
  (hm:P.follows .mixedOrders=true) (hB:specB l.toArray n=true) (hsz:(l.take n).all (fun o=>match o.dst with|some d=>decide (d<a0.tmps.size)|none=>true)=true)
  (hst:∀ i,i<n→∀ v w w',Ss i v w→Below w.heap.size w w'→Ss i v w')
  (hlt:∀ i,i<n→D i=true→∀ v w,Ss i v w→blk v<w.heap.size)
  (hstep:∀ i o,i<n→l[i]?=some o→∀ a w,RCtx (l.take n) Ss a0 w0 o a w→RStep P l.toArray o a w (fun v w'=>Ss i v w'∧(D i=true→w.heap.size≤blk v)))
  (hend:∀ vals w,Below w0.heap.size w0 w→(∀ i,i<n→Ss i (vals i) w)→(∀ i j,i<n→j<n→i≠j→D i=true→D j=true→blk (vals i)≠blk (vals j))→wpList P l.toArray Q (l.drop n) (fillAll (l.take n) 0 vals a0) w) :
  (Code.region id l.toArray true).wp P Q a0 w0:=by
 simp only[specB,Bool.and_eq_true,decide_eq_true_eq]at hB;obtain⟨⟨⟨⟨hn,hd⟩,haf⟩,hsink⟩,hseq⟩:=hB;have hn':n≤l.length:=by simpa using hn
 have hd':dstsB (l.take n)=true:=hd;have htl:(l.take n).length=n:=by simp;omega
 have key:∀ (rem:List Nat) (f:Nat),rem.length=f→rem.Nodup→∀ (listed:Array Bool) (a:Act) (w:World),HeadInv .any l.toArray n listed →
   (∀ i,i ∈ rem↔(i<n∧listed.getD i true=false))→(∃ vals,a=fill (l.take n) 0 listed vals a0∧(∀ i,i<n→listed.getD i false=true→Ss i (vals i) w)∧∀ i j,i<n→j<n→i≠j→listed.getD i false=true→listed.getD j false=true→D i=true→D j=true→blk (vals i)≠blk (vals j))→Below w0.heap.size w0 w →
   wpAny P .any l.toArray Q (f+(l.toArray.size - n)) listed a w:=by
  intro rem f
  induction f generalizing rem with
  | zero =>
   intro hl _ listed a w inv hrem ⟨vals,ha,hv,hp⟩ hb;have hr:rem=[]:=List.length_eq_zero_iff.1 hl;subst hr;have hall:∀ i,i<n→listed.getD i false=true:=by
    intro i hi;have h1:¬ listed.getD i true=false:=fun h=>by have:=(hrem i).2 ⟨hi,h⟩;simp at this
    have h2:i<listed.size:=by rw[inv.size];omega
    rw[Array.getD_eq_getD_getElem?,Array.getElem?_eq_getElem h2]at h1 ⊢
    simpa using h1
   have hlist:=listed_head hn inv hall;have hw:=hend vals w hb (fun i hi=>hv i hi (hall i hi)) (fun i j hi hj hij=>hp i j hi hj hij (hall i hi) (hall j hj))
   rw[← fill_all (l.take n) 0 listed vals a0 (fun i hi=>by rw[Nat.zero_add];exact hall i (by omega)),← ha]at hw
   rw[Nat.zero_add];have hdl:(l.drop n).length=l.toArray.size - n:=by simp
   rw[← hdl];refine wpAny_of_seq (l.drop n) n listed a w (fun j=>by simp) ?_ hw
   rw[hdl,hlist];exact hseq
  | succ f ih =>
   intro hl hnd listed a w inv hrem ⟨vals,ha,hv,hp⟩ hb;have hex:∃ i,i ∈ rem∧∀ j,j ∈ rem→i≤j:=by
    have:∀ (r:List Nat),r≠[]→∃ i,i ∈ r∧∀ j,j ∈ r→i≤j:=by
     intro r
     induction r with
     | nil=>intro h;exact(h rfl).elim
     | cons x r ihr =>
      intro _
      by_cases hr:r=[]
      ·subst hr;exact⟨x,by simp,by simp⟩
      ·obtain⟨i,hi,hmin⟩:=ihr hr
       by_cases hx:x≤i
       ·exact⟨x,by simp,fun j hj=>by rcases List.mem_cons.1 hj with rfl|hj;exact Nat.le_refl _;exact Nat.le_trans hx (hmin j hj)⟩
       ·exact⟨i,by simp[hi],fun j hj=>by rcases List.mem_cons.1 hj with rfl|hj;omega;exact hmin j hj⟩
    exact this rem (by intro h;subst h;simp at hl)
   have hready:Region.ready .any l.toArray listed≠[]:=by
    obtain⟨i,hi,hmin⟩:=hex;obtain⟨hin,hil⟩:=(hrem i).1 hi;have hlt:i<l.length:=by omega
    have hmem:i ∈ Region.ready .any l.toArray listed:=by
     refine mem_ready.2 ⟨hil,l[i],by simp[hlt],fun e he hbd=>?_⟩
     have h1:=List.all_eq_true.1 haf (l[i],i) (by
      rw[List.mem_zipIdx_iff_getElem?];simp[hin,hlt])
     have h2:=Array.all_eq_true'.1 h1 e he;simp[hbd]at h2;have hj:¬ e.on ∈ rem:=fun h=>by have:=hmin _ h;omega
     have h3:¬ listed.getD e.on true=false:=fun h=>hj ((hrem _).2 ⟨by omega,h⟩)
     have h4:e.on<listed.size:=by rw[inv.size];simp;omega
     rw[Array.getD_eq_getD_getElem?,Array.getElem?_eq_getElem h4]at h3 ⊢
     simpa using h3
    intro h;rw[h]at hmem;simp at hmem
   rw[show f+1+(l.toArray.size - n)=(f+(l.toArray.size - n))+1 from by omega]
   refine⟨fun h=>(hready h).elim,fun i hi=>?_⟩
   obtain⟨hil,o,ho,haft⟩:=mem_ready.1 hi;have hin:i<n:=by
    rcases Nat.lt_or_ge i n with h|h
    ·exact h
    ·exfalso
     obtain⟨i',hi',_⟩:=hex;obtain⟨hin',hil'⟩:=(hrem i').1 hi';have hisz:i<l.toArray.size:=(Array.getElem?_eq_some_iff.1 ho).1;simp only[Bool.or_eq_true,decide_eq_true_eq,Bool.and_eq_true]at hsink;rcases hsink with h0|⟨hs,hc⟩
     ·omega
     ·exact tail_waits hs hc (by omega) inv (n - i') i' rfl hin' hil' i h hi
   have ho':l[i]?=some o:=by simpa using ho
   have hot:(l.take n)[i]?=some o:=by rw[List.getElem?_take_of_lt hin];exact ho'
   obtain⟨d,hod⟩:∃ d,o.dst=some d:=by
    have:∀ (r:List Oper) (j:Nat),dstsB r=true→r[j]?=some o→∃ d,o.dst=some d:=by
     intro r
     induction r with
     | nil=>intro j _ h;simp at h
     | cons x r ihr =>
      intro j hdd h;simp only[dstsB,Bool.and_eq_true]at hdd
      cases j with
      | zero=>simp at h;subst h;exact Option.isSome_iff_exists.1 hdd.1.1
      | succ j=>exact ihr j hdd.2 (by simpa using h)
    exact this _ i hd' hot
   have hbd:∀ (j:Nat) (oj:Oper) (dj:Tmp),(l.take n)[j]?=some oj→oj.dst=some dj→dj<a0.tmps.size:=by
    intro j oj dj hj hdj;have:=List.all_eq_true.1 hsz oj (List.mem_of_getElem? hj)
    simpa [hdj] using this
   have hctx:RCtx (l.take n) Ss a0 w0 o a w:=by
    refine⟨hb,fun t ht=>by rw[ha];exact fill_frame _ _ _ _ _ t ht,fun j dj hj hdj=>?_,by rw[ha,fill_size]⟩
    obtain⟨e,he,hbe⟩:=List.any_eq_true.1 hj;simp only[Bool.and_eq_true,beq_iff_eq]at hbe;have hlj:=haft e (Array.mem_toList_iff.1 he) hbe.1;rw[hbe.2]at hlj;obtain⟨oj,hoj,hdj'⟩:=Option.bind_eq_some_iff.1 hdj;have hjn:j<n:=by have:=(List.getElem?_eq_some_iff.1 hoj).1;omega
    rw[ha,fill_at _ 0 listed vals a0 j oj dj hd' hoj hdj' (hbd j oj dj hoj hdj') (by rw[Nat.zero_add];exact hlj),Nat.zero_add]
    exact hv j hjn hlj
   have hstep':=hstep i o hin ho' a w hctx;have hnext:∀ v w',Below w.heap.size w w'→(Ss i v w'∧(D i=true→w.heap.size≤blk v))→wpAny P .any l.toArray Q (f+(l.toArray.size - n)) (listed.setIfInBounds i true) (a.put o.dst v) w':=by
    intro v w' hbw ⟨hsv,hfr⟩;have hmemi:i ∈ rem:=(hrem i).2 ⟨hin,hil⟩;refine ih (rem.erase i) (by rw[List.length_erase_of_mem hmemi,hl];rfl) (hnd.erase i) _ _ w' (inv.set hi hin) (fun j=>?_) ⟨fun j=>if j=i then v else vals j,?_,fun j hj hlj=>?_,fun j k hj hk hjk hlj hlk hDj hDk=>?_⟩ (hb.trans (hbw.mono hb.size))
    ·rw[hnd.mem_erase_iff,hrem j]
     by_cases hji:j=i
     ·subst hji;have hjs:j<listed.size:=by rw[inv.size];simp;omega
      simp[hjs]
     ·rw[getD_set_ne true (fun e=>hji e.symm)]
      simp[hji]
    ·have:=fill_set (l.take n) 0 i listed vals a0 o d v hd' hot hod (by rw[Nat.zero_add];exact hil)
     rw[Nat.zero_add]at this;rw[this,← ha,hod]
    ·by_cases hji:j=i
     ·subst hji;simpa using hsv
     ·show Ss j (if j=i then v else vals j) w'
      rw[if_neg hji];rw[getD_set_ne false (fun e=>hji e.symm)]at hlj
      exact hst j hj _ _ _ (hv j hj hlj) hbw
    ·show blk (if j=i then v else vals j)≠blk (if k=i then v else vals k)
     by_cases hji:j=i
     ·subst hji;rw[if_pos rfl,if_neg (fun e=>hjk e.symm)]
      rw[getD_set_ne false hjk]at hlk;have h1:=hlt k hk hDk _ _ (hv k hk hlk);have h2:=hfr hDj;omega
     ·rw[if_neg hji];rw[getD_set_ne false (fun e=>hji e.symm)]at hlj
      by_cases hki:k=i
      ·subst hki;rw[if_pos rfl];have h1:=hlt j hj hDj _ _ (hv j hj hlj);have h2:=hfr hDk;omega
      ·rw[if_neg hki];rw[getD_set_ne false (fun e=>hki e.symm)]at hlk
       exact hp j k hj hk hjk hlj hlk hDj hDk
   unfold wpOp;simp only[ho];unfold RStep at hstep';split
   ·rename_i hw;rw[if_pos hw]at hstep';refine .inl (wpQ_mono (Oper.wp_mono (fun a' w' ⟨v,e,hbw,hsv⟩=>?_) hstep'))
    subst e;exact hnext v w' hbw hsv
   ·rename_i hw;rw[if_neg hw]at hstep';exact hnext undef w (Below.refl _ w) hstep'
 refine wp_region_any hm ?_
 have h0:=key (List.range n) n (by simp) List.nodup_range (Array.replicate l.toArray.size false) a0 {w0 with drawn:=w0.drawn+1}
  ⟨by simp,fun j oj _ hl=>(by rw[getD_replicate_false]at hl;cases hl),fun t _ ht=>getD_in (by simpa using ht) (getD_replicate_false _ _)⟩
  (fun i=>by
   rw[List.mem_range];constructor
   ·intro h;exact⟨h,getD_in (by simp;omega) (getD_replicate_false _ _)⟩
   ·intro h;exact h.1)
  ⟨fun _=>undef,(fill_none _ _ _ _ _ (fun i=>getD_replicate_false _ _)).symm,fun i _ h=>(by rw[getD_replicate_false]at h;cases h),fun i j _ _ _ h=>(by rw[getD_replicate_false]at h;cases h)⟩
  ((Below.refl _ w0).drew)
 rw[show n+(l.toArray.size - n)=l.toArray.size from by omega]at h0
 exact h0
def Stable (s:Value→World→Prop):Prop:=∀ v w w',s v w→Below w.heap.size w w'→s v w'
theorem stable_eq (x:Value):Stable (fun v _=>v=x):=fun _ _ _ h _=>h
def lookS:List (Value→World→Prop)→Nat→Value→World→Prop
 | [],_=>fun _ _=>True
 | s::_,0=>s
 | _::r,i+1=>lookS r i
def AllStable:List (Value→World→Prop)→Prop
 | []=>True
 | s::r=>Stable s∧AllStable r
theorem lookS_stable:∀ (L:List (Value→World→Prop)) (i:Nat),AllStable L→Stable (lookS L i)
 | [],_,_=>fun _ _ _ h _=>h
 | _::_,0,h=>h.1
 | _::r,i+1,h=>lookS_stable r i h.2
def Obl (P:Program) (l hd:List Oper) (L:List (Value→World→Prop)) (D:Nat→Bool) (a0:Act) (w0:World):List Oper→Nat→Prop
 | [],_=>True
 | o::r,i=>(∀ a w,RCtx hd (lookS L) a0 w0 o a w→RStep P l.toArray o a w (fun v w'=>lookS L i v w'∧(D i=true→w.heap.size≤blk v)))∧Obl P l hd L D a0 w0 r (i+1)
theorem Obl.get {P:Program} {l hd:List Oper} {L:List (Value→World→Prop)} {D:Nat→Bool} {a0:Act} {w0:World}:∀ (r:List Oper) (k:Nat),Obl P l hd L D a0 w0 r k→∀ i o,r[i]?=some o →
  ∀ a w,RCtx hd (lookS L) a0 w0 o a w→RStep P l.toArray o a w (fun v w'=>lookS L (k+i) v w'∧(D (k+i)=true→w.heap.size≤blk v))
 | [],_,_,_,_,h=>by simp at h
 | o::r,k,h,0,o',h'=>by simp at h';subst h';exact h.1
 | o::r,k,h,i+1,o',h'=>by
  have:=Obl.get r (k+1) h.2 i o' (by simpa using h')
  rwa [show k+1+i=k+(i+1) from by omega]at this
theorem wp_region_spec {P:Program} {id:Nat} {Q:Exit→Act→World→Prop} {a0:Act} {w0:World} {l:List Oper} (n:Nat) (L:List (Value→World→Prop)) (D:Nat→Bool)
  (hm:P.follows .mixedOrders=true) (hB:specB l.toArray n=true) (hsz:(l.take n).all (fun o=>match o.dst with|some d=>decide (d<a0.tmps.size)|none=>true)=true)
  (hst:AllStable L) (hlt:∀ i,i<n→D i=true→∀ v w,lookS L i v w→blk v<w.heap.size)
  (hstep:Obl P l (l.take n) L D a0 w0 (l.take n) 0)
  (hend:∀ vals w,Below w0.heap.size w0 w→(∀ i,i<n→lookS L i (vals i) w)→(∀ i j,i<n→j<n→i≠j→D i=true→D j=true→blk (vals i)≠blk (vals j)) →
   wpList P l.toArray Q (l.drop n) (fillAll (l.take n) 0 vals a0) w) :
  (Code.region id l.toArray true).wp P Q a0 w0 :=
 wp_region_specD n (lookS L) D hm hB hsz (fun i _ v w w' h hb=>lookS_stable L i hst v w w' h hb) hlt
  (fun i o hi ho a w hc=>by
   have:=Obl.get (l.take n) 0 hstep i o (by rw[List.getElem?_take_of_lt hi];exact ho) a w hc
   rwa [Nat.zero_add]at this) hend
theorem rs_val {P:Program} {ops:Array Oper} {o:Oper} {a:Act} {w w':World} {s:Value→World→Prop} {v:Value} (hg:Region.wanted o (yielded ops a.tmps)=true)
  (hr:(execOp a.eval o).run P w=.ok (.value v) w') (hb:Below w.heap.size w w') (hs:s v w'):RStep P ops o a w s:=by
 unfold RStep;rw[if_pos hg];unfold StepOk Oper.wp;rw[hr];exact⟨v,rfl,hb,hs⟩
theorem rs_call {P:Program} {ops:Array Oper} {o:Oper} {a:Act} {w:World} {s:Value→World→Prop} {f:FuncId} {args:Array Value} (hg:Region.wanted o (yielded ops a.tmps)=true)
  (hr:(execOp a.eval o).run P w=.ok (.enter f args) w) (hc:Calls P f args w fun e w'=>∃ v,e=.returned v∧Below w.heap.size w w'∧s v w'):RStep P ops o a w s:=by
 unfold RStep;rw[if_pos hg];unfold StepOk Oper.wp;rw[hr];exact hc.mono fun e w' ⟨v,he,hb,hs⟩=>by subst he;exact⟨v,rfl,hb,hs⟩
theorem rs_skip {P:Program} {ops:Array Oper} {o:Oper} {a:Act} {w:World} {s:Value→World→Prop} (hg:Region.wanted o (yielded ops a.tmps)=false) (hs:s undef w):RStep P ops o a w s:=by
 unfold RStep;rw[if_neg (by rw[hg];decide)];exact hs
theorem yielded_of {ops:Array Oper} {a:Act} {j:Nat} {d:Tmp} {b:Bool} (h1:(ops[j]?).bind (·.dst)=some d) (h2:a.eval (.tmp d)=.bool b):yielded ops a.tmps j=some b:=by
 unfold yielded;rw[h1];simp only[Option.bind_some];simp only[Act.eval,Array.getD_eq_getD_getElem?]at h2
 cases h3:a.tmps[d]? with
 | none=>rw[h3]at h2;simp[undef]at h2
 | some x=>rw[h3]at h2;simp at h2;subst h2;rfl
theorem wanted_g {ops:Array Oper} {o:Oper} {a:Act} {j:Nat} {b:Bool} (hg:o.guard=some (j,b)) (hy:yielded ops a.tmps j=some b):Region.wanted o (yielded ops a.tmps)=true:=by
 simp[Region.wanted,hg,hy]
theorem not_wanted_g {ops:Array Oper} {o:Oper} {a:Act} {j:Nat} {b c:Bool} (hg:o.guard=some (j,b)) (hy:yielded ops a.tmps j=some c) (hbc:c≠b):Region.wanted o (yielded ops a.tmps)=false:=by
 simp[Region.wanted,hg,hy,hbc]
theorem rs_move {P:Program} {ops:Array Oper} {o:Oper} {a:Act} {w:World} {x:Operand} {v:Value} {D:Prop} (hg:Region.wanted o (yielded ops a.tmps)=true) (hop:o.op=Op.move x) (hx:a.eval x=v) (hD:¬ D:=by decide) :
  RStep P ops o a w (fun v' _=>v'=v∧(D→w.heap.size≤blk v')):=by
 refine rs_val hg (v:=v) (w':=w) ?_ (Below.refl _ w) ⟨rfl,fun h=>(hD h).elim⟩
 simp only[execOp,hop,hx];rfl
theorem rs_pick {P:Program} {ops:Array Oper} {o:Oper} {a:Act} {w:World} {x y z:Operand} {b:Bool} {v:Value} {D:Prop} (hg:Region.wanted o (yielded ops a.tmps)=true) (hop:o.op=Op.pick x y z) (hx:a.eval x=.bool b)
  (hv:(if b then a.eval y else a.eval z)=v) (hD:¬ D:=by decide):RStep P ops o a w (fun v' _=>v'=v∧(D→w.heap.size≤blk v')):=by
 refine rs_val hg (v:=v) (w':=w) ?_ (Below.refl _ w) ⟨rfl,fun h=>(hD h).elim⟩
 simp only[execOp,hop,hx];subst hv
 cases b<;>rfl
theorem rs_assign {P:Program} {ops:Array Oper} {o:Oper} {a:Act} {w:World} {x:Operand} {v:Value} {D:Prop} (hg:Region.wanted o (yielded ops a.tmps)=true) (hop:o.op=Op.assign x) (hx:a.eval x=v) (hD:¬ D:=by decide) :
  RStep P ops o a w (fun v' _=>v'=v∧(D→w.heap.size≤blk v')):=by
 refine rs_val hg (v:=v) (w':=w) ?_ (Below.refl _ w) ⟨rfl,fun h=>(hD h).elim⟩
 simp only[execOp,hop,hx];rfl
theorem rsk {P:Program} {ops:Array Oper} {o:Oper} {a:Act} {w:World} {j:Nat} {b c:Bool} {d:Tmp} {D:Prop} (hy:a.eval (.tmp d)=.bool c) (hg:o.guard=some (j,b):=by rfl) (hj:(ops[j]?).bind (·.dst)=some d:=by rfl) (hbc:c≠b:=by decide) (hD:¬ D:=by decide) :
  RStep P ops o a w (fun v w'=>v=undef∧(D→w.heap.size≤blk v)):=rs_skip (not_wanted_g hg (yielded_of hj hy) hbc) ⟨rfl,fun h=>(hD h).elim⟩
theorem e_ {L:List (Value→World→Prop)} {n:Nat} {vals:Nat→Value} {w:World} {x:Value} (h:∀ i,i<n→lookS L i (vals i) w) (i:Nat) (hi:i<n:=by decide) (he:lookS L i (vals i) w=(vals i=x):=by exact rfl):vals i=x:=he ▸ h i hi
theorem fa:(∀ (n:Nat) (a:Oper) (l:List Oper),List.take (n+1) (a::l)=a::List.take n l)∧(∀ l:List Oper,List.take 0 l=[])∧(∀ (n:Nat) (a:Oper) (l:List Oper),List.drop (n+1) (a::l)=List.drop n l)∧(∀ l:List Oper,List.drop 0 l=l)∧(∀ n:Nat,List.drop n ([]:List Oper)=[])∧(∀ n:Nat,List.take n ([]:List Oper)=[]) ∧
  (∀ (k:Nat) (v:Nat→Value) (a:Act),fillAll [] k v a=a)∧(∀ (o:Oper) (l:List Oper) (k:Nat) (v:Nat→Value) (a:Act),fillAll (o::l) k v a=fillAll l (k+1) v (a.put o.dst (v k)))∧∀ n:Nat,0+n=n :=
 ⟨fun _ _ _=>rfl,fun _=>rfl,fun _ _ _=>rfl,fun _=>rfl,fun n=>by cases n<;>rfl,fun n=>by cases n<;>rfl,fun _ _ _=>rfl,fun _ _ _ _ _=>rfl,Nat.zero_add⟩
theorem RCtx.d {l:List Oper} {Ss:Nat→Value→World→Prop} {a0:Act} {w0:World} {o:Oper} {a:Act} {w:World} (h:RCtx l Ss a0 w0 o a w) (j d:Nat) (h1:o.after.toList.any (fun e=>Region.binds .any e&&e.on == j)=true:=by exact rfl) (h2:(l[j]?).bind (·.dst)=some d:=by exact rfl):Ss j (a.eval (.tmp d)) w:=h.dep j d h1 h2
theorem RCtx.f {l:List Oper} {Ss:Nat→Value→World→Prop} {a0:Act} {w0:World} {o:Oper} {a:Act} {w:World} (h:RCtx l Ss a0 w0 o a w) (t:Nat) (h1:l.any (fun o=>o.dst == some t)=false:=by exact rfl):a.eval (.tmp t)=a0.eval (.tmp t):=h.frame t h1
end Go.Proofs.YtdoflhjhaciepaaGreat
namespace Go.Proofs.YtdoflhjhaciepaaGreat
open Go.RowKit Go.Shelf
attribute [local go_sem] Oper.semAt_some
theorem rs_loadset {ops:Array Oper} {o:Oper} {a:Act} {w:World} {x:Operand} {B:Nat} {s:Nat→Nat} {D:Prop} (hg:Region.wanted o (yielded ops a.tmps)=true) (hop:o.op=Op.load 40 x)
  (hx:a.eval x=.pointer (some ⟨B,0,none⟩)) (hB:SBox w B 40 s) (hD:¬ D:=by decide):RStep Tryz.prog ops o a w (fun v _=>v=setV s∧(D→w.heap.size≤blk v)):=by
 have k0:=hB.cell (k:=0) (by omega);have k1:=hB.cell (k:=1) (by omega);have k2:=hB.cell (k:=2) (by omega);have k3:=hB.cell (k:=3) (by omega)
 refine rs_val hg (v:=setV s) (w':=w) ?_ (Below.refl _ w) ⟨rfl,fun h=>(hD h).elim⟩
 unfold setV;simp only[execOp,hop,hx];simp[go_sem,k0,k1,k2,k3]
theorem eqS_refl (s:Nat→Nat):eqS s s=true:=by simp[eqS]
end Go.Proofs.YtdoflhjhaciepaaGreat
namespace Go.Proofs.YtdoflhjhaciepaaGreat
open Go.RowKit
theorem headListed_get (n g i:Nat) (d:Bool) (h:i<n+g):(headListed n g).getD i d=decide (i<n):=by
 have hs:i<(headListed n g).size:=by simp[headListed];omega
 rw[Array.getD_eq_getD_getElem?,Array.getElem?_eq_getElem hs];simp only[headListed,Option.getD_some,List.getElem_toArray]
 by_cases hi:i<n
 ·rw[List.getElem_append_left (by simpa using hi)];simp[hi]
 ·rw[List.getElem_append_right (by simpa using hi)];simp[hi]
theorem headListed_out (n g i:Nat) (d:Bool) (h:n+g≤i):(headListed n g).getD i d=d:=by
 rw[Array.getD_eq_getD_getElem?,Array.getElem?_eq_none (by simp[headListed];omega)];rfl
def seqB (l:List Oper) (n:Nat):Bool:=decide (n≤l.length)&&dstsB (l.take n)&&((l.take n).zipIdx.all fun (o,i)=>o.after.all fun e=>!Region.binds .any e || decide (e.on<i))
theorem wp_region_seqD {P:Program} {id:Nat} {Q:Exit→Act→World→Prop} {a0:Act} {w0:World} {l:List Oper} (n:Nat) (Ss:Nat→Value→World→Prop) (D:Nat→Bool)
  (hB:seqB l n=true) (hsz:(l.take n).all (fun o=>match o.dst with|some d=>decide (d<a0.tmps.size)|none=>true)=true)
  (hst:∀ i,i<n→∀ v w w',Ss i v w→Below w.heap.size w w'→Ss i v w')
  (hlt:∀ i,i<n→D i=true→∀ v w,Ss i v w→blk v<w.heap.size)
  (hstep:∀ i o,i<n→l[i]?=some o→∀ a w,RCtx (l.take n) Ss a0 w0 o a w→RStep P l.toArray o a w (fun v w'=>Ss i v w'∧(D i=true→w.heap.size≤blk v)))
  (hend:∀ vals w,Below w0.heap.size w0 w→(∀ i,i<n→Ss i (vals i) w)→(∀ i j,i<n→j<n→i≠j→D i=true→D j=true→blk (vals i)≠blk (vals j))→wpList P l.toArray Q (l.drop n) (fillAll (l.take n) 0 vals a0) w) :
  (Code.region id l.toArray false).wp P Q a0 w0:=by
 simp only[seqB,Bool.and_eq_true,decide_eq_true_eq]at hB;obtain⟨⟨hn,hd'⟩,haf⟩:=hB;have htl:(l.take n).length=n:=by simp;omega
 have hdst:∀ (i:Nat) (o:Oper),(l.take n)[i]?=some o→∃ d,o.dst=some d:=by
  intro i o h;have:∀ (r:List Oper) (j:Nat),dstsB r=true→r[j]?=some o→∃ d,o.dst=some d:=by
   intro r
   induction r with
   | nil=>intro j _ h;simp at h
   | cons x r ihr =>
    intro j hdd h;simp only[dstsB,Bool.and_eq_true]at hdd
    cases j with
    | zero=>simp at h;subst h;exact Option.isSome_iff_exists.1 hdd.1.1
    | succ j=>exact ihr j hdd.2 (by simpa using h)
  exact this _ i hd' h
 have hbd:∀ (j:Nat) (oj:Oper) (dj:Tmp),(l.take n)[j]?=some oj→oj.dst=some dj→dj<a0.tmps.size:=by
  intro j oj dj hj hdj;have:=List.all_eq_true.1 hsz oj (List.mem_of_getElem? hj)
  simpa [hdj] using this
 have key:∀ (f i:Nat),i+f=n→∀ (vals:Nat→Value) (a:Act) (w:World),a=fill (l.take n) 0 (headListed i (n - i)) vals a0→(∀ j,j<i→Ss j (vals j) w) →
   (∀ j k,j<i→k<i→j≠k→D j=true→D k=true→blk (vals j)≠blk (vals k))→Below w0.heap.size w0 w→wpList P l.toArray Q (l.drop i) a w:=by
  intro f
  induction f with
  | zero =>
   intro i hi vals a w ha hv hp hb;have hi':i=n:=by omega
   subst hi';rw[ha,fill_all (l.take i) 0 _ vals a0 (fun j hj=>by rw[Nat.zero_add,headListed_get _ _ _ _ (by omega)];simp;omega)]
   exact hend vals w hb hv hp
  | succ f ih =>
   intro i hi vals a w ha hv hp hb;have hin:i<n:=by omega
   have hil:i<l.length:=by omega
   have hot:(l.take n)[i]?=some l[i]:=by rw[List.getElem?_take_of_lt hin];simp[hil]
   obtain⟨d,hod⟩:=hdst i _ hot;rw[List.drop_eq_getElem_cons hil];have hctx:RCtx (l.take n) Ss a0 w0 l[i] a w:=by
    refine⟨hb,fun t ht=>by rw[ha];exact fill_frame _ _ _ _ _ t ht,fun j dj hj hdj=>?_,by rw[ha,fill_size]⟩
    obtain⟨e,he,hbe⟩:=List.any_eq_true.1 hj;simp only[Bool.and_eq_true,beq_iff_eq]at hbe;have h1:=List.all_eq_true.1 haf (l[i],i) (by rw[List.mem_zipIdx_iff_getElem?];simp[hin,hil])
    have h2:=Array.all_eq_true'.1 h1 e (Array.mem_toList_iff.1 he);simp only[hbe.1,Bool.not_true,Bool.false_or,decide_eq_true_eq,hbe.2]at h2;obtain⟨oj,hoj,hdj'⟩:=Option.bind_eq_some_iff.1 hdj;rw[ha,fill_at _ 0 _ vals a0 j oj dj hd' hoj hdj' (hbd j oj dj hoj hdj') (by rw[Nat.zero_add,headListed_get _ _ _ _ (by omega)];simpa using h2),Nat.zero_add]
    exact hv j h2
   have hstep':=hstep i l[i] hin (by simp[hil]) a w hctx
   have hnext:∀ v w',Below w.heap.size w w'→(Ss i v w'∧(D i=true→w.heap.size≤blk v))→wpList P l.toArray Q (l.drop (i+1)) (a.put l[i].dst v) w':=by
    intro v w' hbw ⟨hsv,hfr⟩;refine ih (i+1) (by omega) (fun j=>if j=i then v else vals j) _ w' ?_ (fun j hj=>?_) (fun j k hj hk hjk hDj hDk=>?_) (hb.trans (hbw.mono hb.size))
    ·have h1:=fill_set (l.take n) 0 i (headListed i (n - i)) vals a0 l[i] d v hd' hot hod (by rw[Nat.zero_add,headListed_get _ _ _ _ (by omega)];simp)
     rw[Nat.zero_add]at h1;rw[ha,hod,← h1];refine fill_congr _ _ _ _ _ _ _ (fun j hj=>⟨?_,rfl⟩)
     rw[Nat.zero_add,headListed_get _ _ _ _ (by omega)]
     by_cases hji:j=i
     ·subst hji;have:j<(headListed j (n - j)).size:=by simp[headListed];omega
      simp[Array.getD_eq_getD_getElem?,this]
     ·rw[getD_set_ne false (fun e=>hji e.symm),headListed_get _ _ _ _ (by omega)]
      simp;omega
    ·by_cases hji:j=i
     ·subst hji;simpa using hsv
     ·show Ss j (if j=i then v else vals j) w'
      rw[if_neg hji];exact hst j (by omega) _ _ _ (hv j (by omega)) hbw
    ·show blk (if j=i then v else vals j)≠blk (if k=i then v else vals k)
     by_cases hji:j=i
     ·have hki:k≠i:=fun e=>hjk (hji.trans e.symm)
      rw[if_pos hji,if_neg hki];have h1:=hfr (hji ▸ hDj);have h2:=hlt k (by omega) hDk _ _ (hv k (by omega))
      omega
     ·rw[if_neg hji]
      by_cases hki:k=i
      ·rw[if_pos hki];have h1:=hfr (hki ▸ hDk);have h2:=hlt j (by omega) hDj _ _ (hv j (by omega))
       omega
      ·rw[if_neg hki];exact hp j k (by omega) (by omega) hjk hDj hDk
   unfold RStep at hstep'
   show wpList P l.toArray Q (l[i]::l.drop (i+1)) a w
   unfold wpList;split
   ·rename_i hw;rw[if_pos hw]at hstep';refine .inl (wpQ_mono (Oper.wp_mono (fun a' w' ⟨v,e,hbw,hsv⟩=>?_) hstep'))
    subst e;exact hnext v w' hbw hsv
   ·rename_i hw;rw[if_neg hw]at hstep';exact hnext undef w (Below.refl _ w) hstep'
 refine wp_region_lit ?_
 have:=key n 0 (by omega) (fun _=>undef) a0 w0 (fill_none _ _ _ _ _ (fun j=>by
  rcases Nat.lt_or_ge j n with h|h
  ·rw[headListed_get _ _ _ _ (by omega)];simp
  ·rw[headListed_out _ _ _ _ (by omega)])).symm (fun j h=>by omega) (fun j k h=>by omega) (Below.refl _ _)
 simpa using this
theorem wp_region_seq {P:Program} {id:Nat} {Q:Exit→Act→World→Prop} {a0:Act} {w0:World} {l:List Oper} (n:Nat) (L:List (Value→World→Prop)) (D:Nat→Bool)
  (hB:seqB l n=true) (hsz:(l.take n).all (fun o=>match o.dst with|some d=>decide (d<a0.tmps.size)|none=>true)=true)
  (hst:AllStable L) (hlt:∀ i,i<n→D i=true→∀ v w,lookS L i v w→blk v<w.heap.size)
  (hstep:Obl P l (l.take n) L D a0 w0 (l.take n) 0)
  (hend:∀ vals w,Below w0.heap.size w0 w→(∀ i,i<n→lookS L i (vals i) w)→(∀ i j,i<n→j<n→i≠j→D i=true→D j=true→blk (vals i)≠blk (vals j)) →
   wpList P l.toArray Q (l.drop n) (fillAll (l.take n) 0 vals a0) w) :
  (Code.region id l.toArray false).wp P Q a0 w0 :=
 wp_region_seqD n (lookS L) D hB hsz (fun i _ v w w' h hb=>lookS_stable L i hst v w w' h hb) hlt
  (fun i o hi ho a w hc=>by
   have:=Obl.get (l.take n) 0 hstep i o (by rw[List.getElem?_take_of_lt hi];exact ho) a w hc
   rwa [Nat.zero_add]at this) hend
section
variable {P:Program} {ops:Array Oper} {o:Oper} {a:Act} {w:World} {D:Prop}
theorem rs_pure {v:Value} (hg:Region.wanted o (yielded ops a.tmps)=true) (hr:(execOp a.eval o).run P w=.ok (.value v) w) (hD:¬ D:=by decide) :
  RStep P ops o a w (fun v' _=>v'=v∧(D→w.heap.size≤blk v')) :=
 rs_val hg hr (Below.refl _ w) ⟨rfl,fun h=>(hD h).elim⟩
theorem args1 {x:Operand} {u:Value} (h:a.eval x=u):(#[x]:Array Operand).map a.eval=#[u]:=by simp[h]
theorem args2 {x y:Operand} {u v:Value} (h:a.eval x=u∧a.eval y=v):(#[x,y]:Array Operand).map a.eval=#[u,v]:=by simp[h.1,h.2]
theorem args3 {x y z:Operand} {u v t:Value} (h:a.eval x=u∧a.eval y=v∧a.eval z=t):(#[x,y,z]:Array Operand).map a.eval=#[u,v,t]:=by simp[h.1,h.2.1,h.2.2]
theorem rs_calln' {s:Value→World→Prop} {f:FuncId} {xs:Array Operand} {ts:Array TypeId} {vs:Array Value} (hg:Region.wanted o (yielded ops a.tmps)=true)
  (hop:o.op=Op.call {callee:=Callee.value (Operand.func f),args:=xs,argTypes:=ts}) (hf:∀ args w,(callFunc f args).run P w=.ok (.enter f args) w) (hx:xs.map a.eval=vs)
  (hc:Calls P f vs w fun e w'=>∃ v,e=.returned v∧Below w.heap.size w w'∧s v w'):RStep P ops o a w s:=by
 refine rs_call hg (f:=f) (args:=vs) ?_ hc;simp only[execOp,hop];simp[resolve,hx];rw[show a.eval (Operand.func f)=.func (.func f) #[] #[] from rfl]
 simp[Deferred.ofValue,invoke,hf]
theorem rs_calln {f:FuncId} {xs:Array Operand} {ts:Array TypeId} {vs:Array Value} {v:Value} (hg:Region.wanted o (yielded ops a.tmps)=true)
  (hop:o.op=Op.call {callee:=Callee.value (Operand.func f),args:=xs,argTypes:=ts}) (hf:∀ args w,(callFunc f args).run P w=.ok (.enter f args) w) (hx:xs.map a.eval=vs)
  (hc:Calls P f vs w fun e w'=>e=.returned v∧Below w.heap.size w w') (hD:¬ D:=by decide):RStep P ops o a w (fun v' _=>v'=v∧(D→w.heap.size≤blk v')) :=
 rs_calln' hg hop hf hx (hc.mono fun _ _ ⟨he,hb⟩=>⟨v,he,hb,rfl,fun h=>(hD h).elim⟩)
theorem rs_len {x:Operand} {t e:TypeId} (hu:P.underlying t=some (.slice e)) {p:Option Addr} {n c:Nat} (hg:Region.wanted o (yielded ops a.tmps)=true) (hop:o.op=Op.call {callee:=Callee.builtin Builtin.len,args:=#[x],argTypes:=#[t]})
  (hx:a.eval x=.slice p n c) (hD:¬ D:=by decide):RStep P ops o a w (fun v' _=>v'=.int .i64 n∧(D→w.heap.size≤blk v')):=by
 refine rs_pure hg ?_ hD;simp only[execOp,hop,resolve,invoke,builtin,List.map_toArray,List.map_cons,List.map_nil,hx];simp[go_sem,Builtin.len_,run_underlying hu]
theorem rs_idx {x y:Operand} {T e:TypeId} {sz g off n c i q:Nat} {k:IntKind} (hu:P.underlying T=some (.slice e)) (hs:∀ w,(sizeOf e).run P w=.ok sz w) (hg:Region.wanted o (yielded ops a.tmps)=true)
  (hop:o.op=Op.indexAddr T x y) (hx:a.eval x=.slice (some ⟨g,off,none⟩) n c) (hy:a.eval y=.int k (i:Int)) (hi:i<n) (hq:off+i * sz=q) (hD:¬ D:=by decide) :
  RStep P ops o a w (fun v' _=>v'=.pointer (some ⟨g,q,none⟩)∧(D→w.heap.size≤blk v')):=by
 subst hq;refine rs_pure hg ?_ hD;simp only[execOp,hop,hx,hy];simp[Instr.indexAt,asIntOf,go_sem,run_underlying hu,hs];intro hc;omega
end
def OneV (T:TypeId) (x:Value) (v:Value) (w:World):Prop:=∃ g,v=.slice (some ⟨g,0,none⟩) 1 1∧Boxed w g T x
theorem stable_oneV (T:TypeId) (x:Value):Stable (OneV T x):=fun _ _ _ ⟨g,e,h⟩ hb=>⟨g,e,box_below h hb⟩
theorem OneV.news {w:World} {g:Nat} {T:TypeId} {x:Value} (h:Boxed w g T x):∀ (j:Nat) u,[x][j]?=some u→w.cell? ((⟨g,0,none⟩:Addr).add j)=some u:=by
 intro j u hj
 match j,hj with
 | 0,hj=>simp at hj;subst hj;exact h.cell
 | k+1,hj=>simp at hj
section
variable {P:Program} {ops:Array Oper} {o:Oper} {a:Act} {w:World} {D:Prop}
theorem rs_build1v {x:Operand} {TS T:TypeId} {u:Value} (hg:Region.wanted o (yielded ops a.tmps)=true) (hop:o.op=Op.buildSlice TS 1 #[(0,x)]) (hx:a.eval x=u)
  (hr:∀ W,(Instr.buildSlice TS 1 #[(0,u)]).run P W=.ok (.slice (some ⟨W.heap.size,0,none⟩) 1 1) (W.alloc (.cells #[u] T))) (hD:¬ D:=by decide) :
  RStep P ops o a w (fun v w'=>OneV T u v w'∧(D→w.heap.size≤blk v)):=by
 refine rs_val hg (v:=.slice (some ⟨w.heap.size,0,none⟩) 1 1) (w':=w.alloc (.cells #[u] T)) ?_ ((Below.refl _ w).alloc (Nat.le_refl _) _)
  ⟨⟨w.heap.size,rfl,Boxed.new w T u⟩,fun h=>(hD h).elim⟩
 simp only[execOp,hop];simp only[List.map_toArray,List.map_cons,List.map_nil,hx];simp[hr]
theorem yielded_undef {j:Nat} {d:Tmp} (h1:(ops[j]?).bind (·.dst)=some d) (h2:a.eval (.tmp d)=undef):yielded ops a.tmps j=none:=by
 unfold yielded;rw[h1];simp only[Option.bind_some];simp only[Act.eval,Array.getD_eq_getD_getElem?]at h2
 cases h3:a.tmps[d]? with
 | none=>rfl
 | some x=>rw[h3]at h2;simp at h2;subst h2;rfl
theorem not_wanted_u {j:Nat} {b:Bool} (hg:o.guard=some (j,b)) (hy:yielded ops a.tmps j=none):Region.wanted o (yielded ops a.tmps)=false:=by
 simp[Region.wanted,hg,hy]
end

inductive Res where
 | blk (b:Nat) (cs:Array Value) (T:TypeId)
 | row (v:Value) (e:TypeId) (sz n:Nat) (xs:List Value)
 | mp (b:Nat) (es:Array MapEntry) (clock:Nat)
  | kn (F:Nat→Prop) (S:World→Prop)
def Res.place:Res→Option Nat
 | .blk b _ _=>some b
 | .row v _ _ _ _=>v.ownBlock
 | .mp b _ _=>some b
 | .kn _ _=>none
def Res.foot:Res→Nat→Prop
 | .blk b _ _,k=>some b=some k
 | .row v _ _ _ _,k=>v.ownBlock=some k
 | .mp b _ _,k=>some b=some k
 | .kn F _,k=>F k
theorem Res.place_foot {r:Res} {b:Nat} (h:r.place=some b):r.foot b:=by cases r<;>first|exact h|cases h
def Res.Holds (M:Nat→Prop) (base:Nat) (W:World):Res→Prop
 | .blk b cs T=>(base≤b∨M b)∧W.heap[b]?=some (.cells cs T (0,0))
 | .row v e sz n xs=>W.ownsRow base e sz v n xs
 | .mp b es c=>base≤b∧W.heap[b]?=some (.map es c)
 | .kn F S=>(∀ b,F b→b<W.heap.size)∧∀ W':World,(∀ b,F b→W'.heap[b]?=W.heap[b]?)→S W'
theorem Res.Holds.lt {M:Nat→Prop} {base:Nat} {W:World} {r:Res} (h:r.Holds M base W):∀ b,r.place=some b→(base≤b∨M b)∧b<W.heap.size:=by
 intro b hb
 cases r with
 | blk b' cs T=>cases hb;exact⟨h.1,(Array.getElem?_eq_some_iff.1 h.2).1⟩
 | row v e sz n xs=>exact⟨.inl (World.ownsRow.lt h b hb).1,(World.ownsRow.lt h b hb).2⟩
 | mp b' es c=>cases hb;exact⟨.inl h.1,(Array.getElem?_eq_some_iff.1 h.2).1⟩
 | kn F S=>cases hb
theorem Res.Holds.ltf {M:Nat→Prop} {base:Nat} {W:World} {r:Res} (h:r.Holds M base W):∀ b,r.foot b→b<W.heap.size:=by
 intro b hb
 cases r with
 | kn F S=>exact h.1 b hb
 | _=>exact(h.lt b hb).2
theorem Res.Holds.kept {M:Nat→Prop} {base:Nat} {W W':World} {r:Res} (h:r.Holds M base W) (hk:∀ b,r.foot b→W'.heap[b]?=W.heap[b]?) (hs:W.heap.size≤W'.heap.size):r.Holds M base W':=by
 cases r with
 | blk b' cs T=>exact⟨h.1,(hk b' rfl).trans h.2⟩
 | row v e sz n xs =>
  obtain⟨hl,h'|⟨g,cap,cur,rfl,hb,hg,r⟩⟩:=h
  ·exact⟨hl,.inl h'⟩
  ·exact⟨hl,.inr ⟨g,cap,cur,rfl,hb,(hk g rfl).trans hg,r⟩⟩
 | mp b' es c=>exact⟨h.1,(hk b' rfl).trans h.2⟩
 | kn F S=>exact⟨fun b hb=>Nat.lt_of_lt_of_le (h.1 b hb) hs,fun W2 h2=>h.2 W2 (fun b hb=>(h2 b hb).trans (hk b hb))⟩
def Apart (r s:Res):Prop:=∀ b,r.place=some b→¬ s.foot b
structure HoldG (M:Nat→Prop) (w0 W:World) (l:List Res):Prop where
 keep:KeepBut M w0.heap.size w0 W
 all:∀ (i:Nat) (r:Res),l[i]?=some r→r.Holds M w0.heap.size W
 apart:∀ (i j:Nat) (r s:Res),i≠j→l[i]?=some r→l[j]?=some s→Apart r s
abbrev Hold (w0 W:World) (l:List Res):Prop:=HoldG (fun _=>False) w0 W l
theorem Hold.start (w0:World):Hold w0 w0 []:=⟨KeepBut.refl _ _ _,fun i r h=>by simp at h,fun i j r s _ h=>by simp at h⟩
theorem HoldG.below {w0 W:World} {l:List Res} (H:Hold w0 W l):Below w0.heap.size w0 W:=H.keep.below (Nat.le_refl _) (fun _ _ h=>h)
theorem HoldG.startB {w0:World} {b:Nat} {cs:Array Value} {T:TypeId} (h:w0.heap[b]?=some (.cells cs T (0,0))):HoldG (·=b) w0 w0 [.blk b cs T] :=
 ⟨KeepBut.refl _ _ _,fun i r hr=>by
  match i,hr with
  | 0,hr=>cases hr;exact⟨.inr rfl,h⟩
  | i+1,hr=>simp at hr,fun i j r s hij h1 h2=>by
  match i,j,h1,h2 with
  | 0,0,_,_=>exact absurd rfl hij
  | 0,j+1,_,h2=>simp at h2
  | i+1,_,h1,_=>simp at h1⟩
section
variable {M:Nat→Prop}
theorem HoldG.call {w0 W W':World} {l:List Res} (H:HoldG M w0 W l) (h:Below W.heap.size W W'):HoldG M w0 W' l :=
 ⟨H.keep.trans ((KeepBut.of_below h).mono H.keep.size (fun _ _ m=>m)),fun i r hi=>(H.all i r hi).kept (fun b hb=>h.block b ((H.all i r hi).ltf b hb)) h.size,H.apart⟩
theorem HoldG.take {w0 W:World} {l:List Res} (H:HoldG M w0 W l) (n:Nat):HoldG M w0 W (l.take n) :=
 ⟨H.keep,fun i r h=>H.all i r (by rw[List.getElem?_take]at h;split at h;exact h;cases h),fun i j r s hij h1 h2=>H.apart i j r s hij (by rw[List.getElem?_take]at h1;split at h1;exact h1;cases h1) (by rw[List.getElem?_take]at h2;split at h2;exact h2;cases h2)⟩
theorem HoldG.upd {w0 W W':World} {l:List Res} (H:HoldG M w0 W l) {i:Nat} {r r':Res} (hi:l[i]?=some r) (hg:W.grownBy W' r.place) (hr:r'.Holds M w0.heap.size W')
  (hp:∀ b,r'.foot b→r.foot b∨W.heap.size≤b) (h0:∀ b,r.foot b→r.place=some b:=by exact fun _ h=>h):HoldG M w0 W' (l.set i r'):=by
 have hil:i<l.length:=(List.getElem?_eq_some_iff.1 hi).1
 refine⟨H.keep.trans ⟨hg.os,hg.tape,hg.output,hg.size,fun k h1 h2=>hg.block k (Nat.lt_of_lt_of_le h1 H.keep.size) (fun e=>by
  rcases((H.all i r hi).lt k e.symm).1 with h|h
  ·omega
  ·exact h2 h)⟩,?_,?_⟩
 ·intro j s hs;rw[List.getElem?_set]at hs;split at hs
  ·rename_i e;subst e;cases hs;exact hr
  ·rename_i hne;refine(H.all j s hs).kept (fun b hb=>hg.block b ((H.all j s hs).ltf b hb) (fun e=>?_)) hg.size
   exact H.apart i j r s hne hi hs b e.symm hb
 ·intro j k s t hjk hs ht;rw[List.getElem?_set]at hs ht;split at hs
  ·rename_i e;subst e;cases hs
   rw[if_neg hjk]at ht;intro b hb hb';rcases hp b (Res.place_foot hb) with h|h
   ·exact H.apart i k r t hjk hi ht b (h0 b h) hb'
   ·have:=(H.all k t ht).ltf b hb';omega
  ·split at ht
   ·rename_i _ e;subst e;cases ht
    intro b hb hb';rcases hp b hb' with h|h
    ·exact H.apart j i s r hjk hs hi b hb h
    ·have:=((H.all j s hs).lt b hb).2;omega
   ·exact H.apart j k s t hjk hs ht
theorem HoldG.add {w0 W W':World} {l:List Res} (H:HoldG M w0 W l) {r:Res} (hg:W.grownBy W' none) (hr:r.Holds M w0.heap.size W') (hp:∀ b,r.foot b→W.heap.size≤b):HoldG M w0 W' (l++[r]):=by
 have hb:Below W.heap.size W W':=(Below.refl _ W).grown hg (Nat.le_refl _) (fun k e=>by cases e)
 have H':=H.call hb;refine⟨H'.keep,?_,?_⟩
 ·intro j s hs;rw[List.getElem?_append]at hs;split at hs
  ·exact H'.all j s hs
  ·rcases List.getElem?_eq_some_iff.1 hs with ⟨h1,h2⟩
   simp at h1;simp[h1]at h2;subst h2;exact hr
 ·intro j k s t hjk hs ht;rw[List.getElem?_append]at hs ht;split at hs
  ·split at ht
   ·exact H.apart j k s t hjk hs ht
   ·rcases List.getElem?_eq_some_iff.1 ht with ⟨h1,h2⟩
    simp at h1;simp[h1]at h2;subst h2;intro b hb1 hb2;have h3:=((H.all j s hs).lt b hb1).2;have:=hp b hb2;omega
  ·rcases List.getElem?_eq_some_iff.1 hs with ⟨h1,h2⟩
   simp at h1;simp[h1]at h2;subst h2;split at ht
   ·intro b hb1 hb2;have h3:=(H.all k t ht).ltf b hb2;have:=hp b (Res.place_foot hb1);omega
   ·rcases List.getElem?_eq_some_iff.1 ht with ⟨h4,h5⟩
    simp at h4;omega
inductive At {α:Type}:List α→Nat→α→Prop where
 | zero {r:α} {l:List α}:At (r::l) 0 r
 | succ {r s:α} {l:List α} {i:Nat} (h:At l i r):At (s::l) (i+1) r
theorem At.get {α:Type} {l:List α} {i:Nat} {r:α} (h:At l i r):l[i]?=some r:=by
 induction h with
 | zero=>rfl
 | succ _ ih=>simpa using ih
theorem HoldG.blk {w0 W:World} {l:List Res} (H:HoldG M w0 W l) {i b:Nat} {cs:Array Value} {T:TypeId} (hi:At l i (.blk b cs T)):(w0.heap.size≤b∨M b)∧W.heap[b]?=some (.cells cs T (0,0)):=H.all i _ hi.get
theorem HoldG.cell {w0 W:World} {l:List Res} (H:HoldG M w0 W l) {i b:Nat} {cs:Array Value} {T:TypeId} (hi:At l i (.blk b cs T)) (k:Nat):W.cell? ⟨b,k,none⟩=cs[k]?:=cell_of_row W b k cs T (0,0) (H.blk hi).2
theorem HoldG.frozen {w0 W:World} {l:List Res} (H:HoldG M w0 W l) {i b:Nat} {cs:Array Value} {T:TypeId} (hi:At l i (.blk b cs T)) (k:Nat):W.frozen? ⟨b,k,none⟩=false:=by
 simp[World.frozen?,(H.blk hi).2]
theorem HoldG.alloc {w0 W:World} {l:List Res} (H:HoldG M w0 W l) (cs:Array Value) (T:TypeId):HoldG M w0 (W.alloc (.cells cs T)) (l++[.blk W.heap.size cs T]) :=
 H.add (World.grownBy_alloc W _ none) ⟨.inl H.keep.size,World.alloc_heap_new W _⟩ (fun b e=>by cases e;exact Nat.le_refl _)
theorem HoldG.callBut {w0 W W':World} {l:List Res} (H:HoldG M w0 W l) {i b:Nat} {cs cs':Array Value} {T:TypeId} (hi:At l i (.blk b cs T)) (hk:KeepBut (·=b) W.heap.size W W') (hb:W'.heap[b]?=some (.cells cs' T (0,0))):HoldG M w0 W' (l.set i (.blk b cs' T)) :=
 H.upd hi.get ⟨hk.os,hk.tape,hk.output,hk.size,fun k h1 h2=>hk.old k h1 (fun e=>h2 (by rw[e];rfl))⟩ ⟨(H.blk hi).1,hb⟩ (fun _ e=>.inl e)
theorem heap_setCell {W:World} {b k:Nat} {cs:Array Value} {T:TypeId} {f:Nat × Nat} (h:W.heap[b]?=some (.cells cs T f)) (v:Value):(W.setCell ⟨b,k,none⟩ v).heap[b]?=some (.cells (cs.setIfInBounds k v) T f):=by
 have hlt:=(Array.getElem?_eq_some_iff.1 h).1;simp only[World.setCell];simp[Array.getElem?_modify,h]
theorem grownBy_setCellK (W:World) (b k:Nat) (v:Value):W.grownBy (W.setCell ⟨b,k,none⟩ v) (some b):=by
 refine⟨rfl,rfl,rfl,?_,?_⟩
 ·simp[World.setCell]
 ·intro j hj hne;simp[World.setCell,Array.getElem?_modify,show b≠j from fun e=>hne (by rw[e])]
theorem HoldG.setCell {w0 W:World} {l:List Res} (H:HoldG M w0 W l) {i b k:Nat} {cs:Array Value} {T:TypeId} (hi:At l i (.blk b cs T)) (v:Value) :
  HoldG M w0 (W.setCell ⟨b,k,none⟩ v) (l.set i (.blk b (cs.setIfInBounds k v) T)) :=
 H.upd hi.get (grownBy_setCellK W b k v) ⟨(H.blk hi).1,heap_setCell (H.blk hi).2 v⟩ (fun _ e=>.inl e)
def setSeg (cs:Array Value):Nat→List Value→Array Value
 | _,[]=>cs
 | k,v::r=>setSeg (cs.setIfInBounds k v) (k+1) r
theorem grownBy_trans_same {A B C:World} {b:Nat} (h:A.grownBy B (some b)) (k:B.grownBy C (some b)):A.grownBy C (some b) :=
 ⟨k.os.trans h.os,k.tape.trans h.tape,k.output.trans h.output,Nat.le_trans h.size k.size,fun j hj hne=>(k.block j (Nat.lt_of_lt_of_le hj h.size) hne).trans (h.block j hj hne)⟩
theorem setCells_grown:∀ (vs:List Value) (k:Nat) (W:World) (b:Nat),W.grownBy (W.setCells b k vs) (some b)
 | [],_,_,_=>⟨rfl,rfl,rfl,Nat.le_refl _,fun _ _ _=>rfl⟩
 | v::r,k,W,b=>grownBy_trans_same (grownBy_setCellK W b k v) (setCells_grown r (k+1) _ b)
theorem heap_setCells:∀ (vs:List Value) (k:Nat) (W:World) (b:Nat) (cs:Array Value) (T:TypeId) (f:Nat × Nat),W.heap[b]?=some (.cells cs T f)→(W.setCells b k vs).heap[b]?=some (.cells (setSeg cs k vs) T f)
 | [],_,_,_,_,_,_,h=>h
 | v::r,k,W,b,cs,T,f,h=>heap_setCells r (k+1) _ b _ T f (heap_setCell h v)
theorem HoldG.setCells {w0 W:World} {l:List Res} (H:HoldG M w0 W l) {i b k:Nat} {cs:Array Value} {T:TypeId} (hi:At l i (.blk b cs T)) (vs:List Value) :
  HoldG M w0 (W.setCells b k vs) (l.set i (.blk b (setSeg cs k vs) T)) :=
 H.upd hi.get (setCells_grown vs k W b) ⟨(H.blk hi).1,heap_setCells vs k W b cs T _ (H.blk hi).2⟩ (fun _ e=>.inl e)
theorem HoldG.there {w0 W:World} {l:List Res} (H:HoldG M w0 W l) {i b k n:Nat} {cs:Array Value} {T:TypeId} (hi:At l i (.blk b cs T)) (hn:k+n≤cs.size):W.there b k n:=fun j hj=>by
 rw[H.cell hi,H.frozen hi];simp;omega
theorem ev_tmp (l:List Value) (d:List Deferred) (t:Nat):({tmps:=l.toArray,defers:=d}:Act).eval (.tmp t)=l.getD t undef:=by simp[Act.eval]
theorem ev_const (a:Act) (v:Value):a.eval (.const v)=v:=rfl
theorem pe:(∀ (t:Array Value) (d:List Deferred) (i:Nat) (v:Value),({tmps:=t,defers:=d}:Act).put (some i) v={tmps:=t.setIfInBounds i v,defers:=d})∧(∀ (a:Act) (v:Value),a.put none v=a)∧(∀ (a:Value) (l:List Value) (n:Nat),l.toArray.setIfInBounds n a=(l.set n a).toArray)∧(∀ (a b:Value) (l:List Value) (n:Nat),(a::l).set (n+1) b=a::l.set n b)∧(∀ (a b:Value) (l:List Value),(a::l).set 0 b=b::l) ∧
  (∀ (l:List Value) (d:List Deferred) (t:Nat),({tmps:=l.toArray,defers:=d}:Act).eval (.tmp t)=l.getD t undef)∧(∀ (a:Act) (v:Value),a.eval (.const v)=v)∧(∀ (a:Act) (g:Nat),a.eval (.global g)=.pointer (some ⟨g,0,none⟩))∧(∀ (a:Act) (f:Nat),a.eval (.func f)=.func (.func f) #[] #[])∧(∀ (a d:Value) (l:List Value) (n:Nat),(a::l).getD (n+1) d=l.getD n d)∧∀ (a d:Value) (l:List Value),(a::l).getD 0 d=a :=
 ⟨fun _ _ _ _=>rfl,fun _ _=>rfl,fun _ _ _=>List.setIfInBounds_toArray ..,fun _ _ _ _=>rfl,fun _ _ _=>rfl,ev_tmp,fun _ _=>rfl,fun _ _=>rfl,fun _ _=>rfl,fun _ _ _ _=>rfl,fun _ _ _=>rfl⟩
theorem put_no (a:Act) (v:Value):a.put none v=a:=rfl
theorem HoldG.rd {w0 W:World} {l:List Res} (H:HoldG M w0 W l) {i b:Nat} {cs:List Value} {T:TypeId} (hi:At l i (.blk b cs.toArray T)) (hn:cs.length≤maxLen):Rd W W.heap.size (.slice (some ⟨b,0,none⟩) cs.length cs.length) cs :=
 .inr ⟨b,0,cs.length,rfl,((H.all i _ hi.get).lt b rfl).2,Nat.le_refl _,hn,fun j hj=>by rw[H.cell hi];simp[hj]⟩
theorem HoldG.rdn {w0 W:World} {l:List Res} (H:HoldG M w0 W l) {i b n:Nat} {cs:List Value} {T:TypeId} (hi:At l i (.blk b cs.toArray T)) (hc:cs.length=n) (hn:n≤maxLen):Rd W W.heap.size (.slice (some ⟨b,0,none⟩) n n) cs:=by
 subst hc;exact H.rd hi hn
end
section
variable {P:Program} {ops:Array Oper} {rest:List Oper} {o:Oper} {a:Act} {w w0:World} {Q:Exit→Act→World→Prop} {l:List Res} {M:Nat→Prop}
def zeroC (P:Program) (T:TypeId):Array Value:=(((P.info? T).bind (·.zero)).map (·.cells)).getD #[]
def sizeB (P:Program) (T:TypeId) (n:Nat):Bool:=(P.info? T).map (·.size) == some n
def rowB (P:Program) (T:TypeId) (n:Nat):Bool:=sizeB P T n&&((P.underlying T).map (·.isRow) == some true)
def oneB (P:Program) (T:TypeId):Bool:=sizeB P T 1&&((P.underlying T).map (·.isRow) == some false)
theorem rowB_parts {T n} (h:rowB P T n=true):∃ d,P.underlying T=some d∧d.isRow=true∧(P.info? T).map (·.size)=some n:=by
 simp only[rowB,sizeB,Bool.and_eq_true,beq_iff_eq]at h;obtain⟨h1,h2⟩:=h
 cases hu:P.underlying T with
 | none=>simp[hu]at h2
 | some d=>exact⟨d,rfl,by simpa [hu] using h2,h1⟩
theorem one_size {T} (h:oneB P T=true):sizeB P T 1=true:=by simp only[oneB,Bool.and_eq_true]at h;exact h.1
theorem row_size {T n} (h:rowB P T n=true):sizeB P T n=true:=by simp only[rowB,Bool.and_eq_true]at h;exact h.1
theorem run_loadVar_one {T:TypeId} (h:oneB P T=true) {ad:Addr} {v:Value} (hc:w.cell? ad=some v):(loadVar T ad).run P w=.ok v w:=by
 simp only[oneB,sizeB,Bool.and_eq_true,beq_iff_eq]at h;obtain⟨h1,h2⟩:=h
 cases hu:P.underlying T with
 | none=>simp[hu]at h2
 | some d =>
  have hd:d.isRow=false:=by simpa [hu] using h2
  have hagg:(isAgg T).run P w=.ok false w:=by
   unfold isAgg;rw[Sem.run_bind,run_underlying hu w]
   cases d<;>simp_all
  simp[loadVar,Sem.run_bind,hagg,load,Sem.run,hc]
theorem run_storeVar_one1 {T:TypeId} (h:sizeB P T 1=true) {ad:Addr} {v:Value} (hv:v.oneCell'=true) (hc:(w.cell? ad).isSome=true) (hf:w.frozen? ad=false) (hs:ad.add 0=ad):(storeVar T ad v).run P w=.ok () (w.setCell ad v):=by
 have hcs:v.cells=#[v]:=by cases v<;>first|rfl|cases hv
 simp only[sizeB,beq_iff_eq]at h
 cases hq:P.info? T with
 | none=>simp[hq]at h
 | some i =>
  have hs1:i.size=1:=by simpa [hq] using h
  obtain⟨u,hu⟩:=Option.isSome_iff_exists.1 hc;have hst:(store ad v).run P w=.ok () (w.setCell ad v):=by rw[run_store P w _ v _ hv];simp[hu,hf]
  simp[storeVar,sizeOf,typeInfo,hq,hcs,hs1,storeCells,hs,hst]
theorem wpList_wanted (hw:Region.wanted o (yielded ops a.tmps)=true) (h:∀ K:Act→World→Prop,(∀ a w,wpList P ops Q rest a w→K a w)→o.wp P a w K Q):wpList P ops Q (o::rest) a w :=
 wpList_step fun K hK=>by rw[if_pos hw];exact h K hK
theorem own_load1 (hg:Region.wanted o (yielded ops a.tmps)=true) (T:TypeId) (x:Operand) (ho:o.op=.load T x) {b k:Nat} (hx:a.eval x=.pointer (some ⟨b,k,none⟩)) (H:HoldG M w0 w l) {i:Nat} {cs:Array Value} {U:TypeId} (hi:At l i (.blk b cs U))
  (hT:oneB P T=true) {v:Value} (hv:cs[k]?=some v) (h:wpList P ops Q rest (a.put o.dst v) w):wpList P ops Q (o::rest) a w :=
 wpList_wanted hg fun _ hK=>by
  unfold Oper.wp execOp;simp only[ho,hx,Instr.loadAt,Instr.sureAddr,Sem.run_bind,Sem.run_pure,Result.andThen_ok,run_loadVar_one hT (v:=v) (by rw[H.cell hi];exact hv)]
  exact hK _ _ h
theorem HoldG.run_row {n:Nat} (H:HoldG M w0 w l) {i b k:Nat} {cs vs:Array Value} {U T:TypeId} (hi:At l i (.blk b cs U)) (hT:rowB P T n=true) (hn:vs.size=n) (hv:∀ j,j<n→cs[k+j]?=vs[j]?) :
  (loadVar T ⟨b,k,none⟩).run P w=.ok (.agg vs) w:=by
 obtain⟨d,hu,hd,hs⟩:=rowB_parts hT
 have:=run_loadVar_mid (P:=P) w b k T vs.toList d (fun j v hj=>by
  have hlt:j<n:=by have:=(List.getElem?_eq_some_iff.1 hj).1;simp at this;omega
  rw[H.cell hi,hv j hlt];simpa using hj) hu hd (by rw[hs];simp[hn])
 simpa using this
theorem own_loadN (hg:Region.wanted o (yielded ops a.tmps)=true) (T:TypeId) (x:Operand) (ho:o.op=.load T x) {b k:Nat} (hx:a.eval x=.pointer (some ⟨b,k,none⟩)) (H:HoldG M w0 w l) {i:Nat} {cs:Array Value} {U:TypeId} (hi:At l i (.blk b cs U))
  (vs:Array Value) (hT:rowB P T vs.size=true) (hv:cs.extract k (k+vs.size)=vs) (h:wpList P ops Q rest (a.put o.dst (.agg vs)) w):wpList P ops Q (o::rest) a w :=
 wpList_wanted hg fun _ hK=>by
  unfold Oper.wp execOp;have hj:∀ j,j<vs.size→cs[k+j]?=vs[j]?:=fun j hj=>by
   have:vs[j]?=(cs.extract k (k+vs.size))[j]?:=by rw[hv]
   rw[this,Array.getElem?_extract,if_pos (by
    have hsz:(cs.extract k (k+vs.size)).size=vs.size:=by rw[hv]
    simp at hsz;omega)]
  simp only[ho,hx,Instr.loadAt,Instr.sureAddr,Sem.run_bind,Sem.run_pure,Result.andThen_ok,H.run_row (T:=T) hi hT rfl hj];exact hK _ _ h
theorem own_load (hg:Region.wanted o (yielded ops a.tmps)=true) (T:TypeId) (x:Operand) (ho:o.op=.load T x) {b:Nat} (hx:a.eval x=.pointer (some ⟨b,0,none⟩)) (H:HoldG M w0 w l) {i:Nat} {cs:Array Value} {U:TypeId} (hi:At l i (.blk b cs U))
  {n:Nat} (hT:rowB P T n=true) (hn:cs.size=n) (h:wpList P ops Q rest (a.put o.dst (.agg cs)) w):wpList P ops Q (o::rest) a w :=
 wpList_wanted hg fun _ hK=>by
  unfold Oper.wp execOp;simp only[ho,hx,Instr.loadAt,Instr.sureAddr,Sem.run_bind,Sem.run_pure,Result.andThen_ok,H.run_row (T:=T) hi hT hn (fun j _=>by rw[Nat.zero_add])]
  exact hK _ _ h
theorem own_store1 (hg:Region.wanted o (yielded ops a.tmps)=true) (T:TypeId) (x y:Operand) (ho:o.op=.store T x y) {b k:Nat} (hx:a.eval x=.pointer (some ⟨b,k,none⟩)) {v:Value} (hy:a.eval y=v) (H:HoldG M w0 w l) {i:Nat} {cs:Array Value} {U:TypeId} (hi:At l i (.blk b cs U))
  (h1:v.oneCell'=true) (hk:k<cs.size) (hT:sizeB P T 1=true) (h:∀ w',HoldG M w0 w' (l.set i (.blk b (cs.setIfInBounds k v) U))→wpList P ops Q rest (a.put o.dst undef) w'):wpList P ops Q (o::rest) a w :=
 wpList_wanted hg fun _ hK=>by
  unfold Oper.wp execOp;have hs:(⟨b,k,none⟩:Addr).add 0=⟨b,k,none⟩:=by rw[Addr.add_mid];rfl
  simp only[ho,hx,hy,Instr.storeAt,Instr.sureAddr,Sem.run_bind,Sem.run_pure,Result.andThen_ok,run_storeVar_one1 (P:=P) (w:=w) hT h1 (by rw[H.cell hi];simp[hk]) (H.frozen hi k) hs]
  exact hK _ _ (h _ (H.setCell hi v))
theorem own_storeN (hg:Region.wanted o (yielded ops a.tmps)=true) (T:TypeId) (x y:Operand) (ho:o.op=.store T x y) {b k:Nat} (hx:a.eval x=.pointer (some ⟨b,k,none⟩)) {vs:Array Value} (hy:a.eval y=.agg vs) (H:HoldG M w0 w l) {i:Nat} {cs:Array Value} {U:TypeId} (hi:At l i (.blk b cs U))
  {n:Nat} (hT:sizeB P T n=true) (hv:vs.size=n) (h1:vs.toList.all (·.oneCell')=true) (hk:k+n≤cs.size) (h:∀ w',HoldG M w0 w' (l.set i (.blk b (setSeg cs k vs.toList) U))→wpList P ops Q rest (a.put o.dst undef) w'):wpList P ops Q (o::rest) a w :=
 wpList_wanted hg fun _ hK=>by
  unfold Oper.wp execOp;simp only[ho,hx,hy,Instr.storeAt,Instr.sureAddr,Sem.run_bind,Sem.run_pure,Result.andThen_ok,run_storeVar_mid (P:=P) w b k T vs (H.there hi (by omega)) (by subst hv;simpa [sizeB] using hT) (by rw[Array.all_toList]at h1;exact h1)]
  exact hK _ _ (h _ (H.setCells hi _))
theorem setSeg_get:∀ (vs:List Value) (cs:Array Value) (k j:Nat),(setSeg cs k vs)[j]?=if k≤j∧j<k+vs.length∧j<cs.size then vs[j - k]? else cs[j]?
 | [],cs,k,j=>by simp[setSeg];omega
 | v::r,cs,k,j=>by
  rw[setSeg,setSeg_get r];simp only[Array.getElem?_setIfInBounds,List.length_cons,Array.size_setIfInBounds]
  by_cases e:k=j
  ·subst e;rw[if_neg (by omega)]
   by_cases h:k<cs.size
   ·simp[h]
   ·simp[h,Array.getElem?_eq_none (Nat.le_of_not_lt h)]
  ·by_cases h:k≤j∧j<k+(r.length+1)∧j<cs.size
   ·rw[if_pos ⟨by omega,by omega,h.2.2⟩,if_pos h]
    rw[show j - k=(j - (k+1))+1 from by omega];simp
   ·rw[if_neg (by omega),if_neg e,if_neg h]
theorem setSeg_whole {cs vs:Array Value} (h:vs.size=cs.size):setSeg cs 0 vs.toList=vs:=by
 apply Array.ext_getElem?;intro j;rw[setSeg_get];simp only[Nat.zero_le,true_and,Nat.zero_add,Array.length_toList,Nat.sub_zero]
 by_cases e:j<vs.size
 ·rw[if_pos ⟨e,by omega⟩];simp
 ·rw[if_neg (fun h=>e h.1),Array.getElem?_eq_none (by omega),Array.getElem?_eq_none (by omega)]
theorem own_store (hg:Region.wanted o (yielded ops a.tmps)=true) (T:TypeId) (x y:Operand) (ho:o.op=.store T x y) {b:Nat} (hx:a.eval x=.pointer (some ⟨b,0,none⟩)) {vs:Array Value} (hy:a.eval y=.agg vs) (H:HoldG M w0 w l) {i:Nat} {cs:Array Value} {U:TypeId} (hi:At l i (.blk b cs U))
  {n:Nat} (hT:sizeB P T n=true) (hv:vs.size=n) (hn:cs.size=n) (h1:vs.toList.all (·.oneCell')=true) (h:∀ w',HoldG M w0 w' (l.set i (.blk b vs U))→wpList P ops Q rest (a.put o.dst undef) w'):wpList P ops Q (o::rest) a w :=
 own_storeN hg T x y ho hx hy H hi hT hv h1 (by omega) (fun w' H'=>h w' (by rwa [setSeg_whole (by omega)]at H'))
theorem own_alloc (hg:Region.wanted o (yielded ops a.tmps)=true) (T:TypeId) (ho:o.op=.alloc T) (H:HoldG M w0 w l) (hi:((P.info? T).bind (·.zero)).isSome=true)
  (h:∀ b w',HoldG M w0 w' (l++[.blk b (zeroC P T) T])→wpList P ops Q rest (a.put o.dst (.pointer (some ⟨b,0,none⟩))) w'):wpList P ops Q (o::rest) a w :=
 wpList_wanted hg fun _ hK=>by
  cases hi1:P.info? T with
  | none=>simp[hi1]at hi
  | some i0 =>
   cases hz:i0.zero with
   | none=>simp[hi1,hz]at hi
   | some z =>
    have hzc:zeroC P T=z.cells:=by simp[zeroC,hi1,hz]
    unfold Oper.wp execOp;simp[ho,Instr.alloc,zeroValue,typeInfo,hi1,hz,newVar,newRow];rw[hzc]at h;exact hK _ _ (h _ _ (H.alloc _ T))
theorem own_box (hg:Region.wanted o (yielded ops a.tmps)=true) (T:TypeId) (x:Operand) (ho:o.op=.box T x) {v:Value} (hx:a.eval x=v) (H:HoldG M w0 w l)
  (h:∀ b w',HoldG M w0 w' (l++[.blk b v.cells T])→wpList P ops Q rest (a.put o.dst (.pointer (some ⟨b,0,none⟩))) w'):wpList P ops Q (o::rest) a w :=
 wpList_wanted hg fun _ hK=>by
  unfold Oper.wp execOp;simp[ho,hx,Instr.box,newVar,newRow];exact hK _ _ (h _ _ (H.alloc _ T))
theorem own_build (hg:Region.wanted o (yielded ops a.tmps)=true) (TS:TypeId) (n:Nat) (parts:Array (Nat × Operand)) (ho:o.op=.buildSlice TS n parts) (H:HoldG M w0 w l) (cs:Array Value) (T:TypeId)
  (hr:∀ W:World,(Instr.buildSlice TS n (parts.map fun (i,x)=>(i,a.eval x))).run P W=.ok (.slice (some ⟨W.heap.size,0,none⟩) n n) (W.alloc (.cells cs T)))
  (h:∀ b w',HoldG M w0 w' (l++[.blk b cs T])→wpList P ops Q rest (a.put o.dst (.slice (some ⟨b,0,none⟩) n n)) w'):wpList P ops Q (o::rest) a w :=
 wpList_wanted hg fun _ hK=>by
  unfold Oper.wp execOp;simp only[ho,Sem.run_bind,hr,Result.andThen_ok];exact hK _ _ (h _ _ (H.alloc cs T))
theorem own_append (hg:o.guard=none) (s x:Operand) (T:TypeId) (ho:o.op=.call {callee:=.builtin .append,args:=#[s,x],argTypes:=#[T,T]}) (H:HoldG M w0 w l) {i j b:Nat} {v:Value} {e:TypeId} {sz n m c:Nat} {xs:List Value} {cs:Array Value} {U:TypeId}
  (hs:a.eval s=v) (hx:a.eval x=.slice (some ⟨b,0,none⟩) m c) (hi:At l i (.row v e sz n xs)) (hj:At l j (.blk b cs U)) {it:TypeInfo} {z:Value} {bytes:Nat}
  (h1:P.underlying T=some (.slice e)) (h2:P.info? e=some it) (h3:it.zero=some z) (h4:it.size=sz) (h5:it.bytes=bytes) (h6:z.cells.size=sz) (h7:0<sz) (hcs:cs.size=m * sz) (h1c:cs.toList.all (·.oneCell')=true)
  (b1:n+m≤maxLen) (b2:(n+m) * bytes≤140737488355328)
  (h:∀ v' w',HoldG M w0 w' (l.set i (.row v' e sz (n+m) (xs++cs.toList)))→wpList P ops Q rest (a.put o.dst v') w'):wpList P ops Q (o::rest) a w:=by
 refine wpList_append_own_at w hg s x T ho w0.heap.size e it z sz bytes h1 h2 h3 h4 h5 h6 h7 v n xs hs (H.all i _ hi.get) ⟨b,0,none⟩ m c cs.toList hx (by simpa using hcs) (fun q u hq=>?_) (fun u hu=>List.all_eq_true.1 h1c u hu) b1 b2 H.keep.size (fun v' w' r1 r2 _ r4=>h v' w' ?_)
 ·rw[Addr.add_mid,H.cell hj]
  simpa using hq
 ·refine H.upd hi.get (by exact r2) r1 (fun b' hb'=>?_)
  rcases r4 with r4|r4
  ·left;show v.ownBlock=some b';rw[← r4];exact hb'
  ·right;have:v'.ownBlock=some b':=hb';rw[r4]at this
   cases this;exact Nat.le_refl _
theorem HoldG.addNil {w0 W:World} {l:List Res} (H:HoldG M w0 W l) (e:TypeId) (sz:Nat):HoldG M w0 W (l++[.row (.slice none 0 0) e sz 0 []]) :=
 H.add ⟨rfl,rfl,rfl,Nat.le_refl _,fun _ _ _=>rfl⟩ (World.ownsRow_nil _ _ _ _) (fun b e=>by cases e)
theorem own_pure (hg:Region.wanted o (yielded ops a.tmps)=true) {v:Value} (hr:(execOp a.eval o).run P w=.ok (.value v) w) (h:wpList P ops Q rest (a.put o.dst v) w):wpList P ops Q (o::rest) a w :=
 wpList_wanted hg fun _ hK=>by
  unfold Oper.wp;rw[hr];exact hK _ _ h
theorem own_storeS (hg:Region.wanted o (yielded ops a.tmps)=true) (T:TypeId) (x y:Operand) (ho:o.op=.store T x y) {b:Nat} (hx:a.eval x=.pointer (some ⟨b,0,none⟩)) {s:Nat→Nat} (hy:a.eval y=setV s) (H:HoldG M w0 w l) {i:Nat} {cs:Array Value} {U:TypeId} (hi:At l i (.blk b cs U))
  (hT:sizeB P T 4=true) (hn:cs.size=4) (h:∀ w',HoldG M w0 w' (l.set i (.blk b (setC s) U))→wpList P ops Q rest (a.put o.dst undef) w'):wpList P ops Q (o::rest) a w :=
 own_store hg T x y ho hx (vs:=setC s) hy H hi hT rfl hn rfl h
theorem own_loadS (hg:Region.wanted o (yielded ops a.tmps)=true) (T:TypeId) (x:Operand) (ho:o.op=.load T x) {b:Nat} (hx:a.eval x=.pointer (some ⟨b,0,none⟩)) (H:HoldG M w0 w l) {i:Nat} {s:Nat→Nat} {U:TypeId} (hi:At l i (.blk b (setC s) U))
  (hT:rowB P T 4=true) (h:wpList P ops Q rest (a.put o.dst (setV s)) w):wpList P ops Q (o::rest) a w :=
 own_load hg T x ho hx H hi hT rfl h
theorem own_boxS (hg:Region.wanted o (yielded ops a.tmps)=true) (T:TypeId) (x:Operand) (ho:o.op=.box T x) {s:Nat→Nat} (hx:a.eval x=setV s) (H:HoldG M w0 w l)
  (h:∀ b w',HoldG M w0 w' (l++[.blk b (setC s) T])→wpList P ops Q rest (a.put o.dst (.pointer (some ⟨b,0,none⟩))) w'):wpList P ops Q (o::rest) a w :=
 own_box hg T x ho hx H h
abbrev Str:=List UInt8
def byt (L:Str) (k:Nat):Nat:=(L.getD k 0).toNat
theorem byt_lt (L:Str) (k:Nat):byt L k<256:=UInt8.toNat_lt _
theorem nc0 (i:Nat):(i:Int)=((i:Nat):Int):=rfl
theorem nca (i n:Nat):(i:Int)+(n:Int)=((i+n:Nat):Int):=by omega
theorem str_index_run {o:Oper} {a:Act} {w:World} {T:TypeId} {x ix:Operand} (ho:o.op=.index T x ix) (hT:P.underlying T=some .string) {L:Str} {z:Int} {k:Nat} (hx:a.eval x=.string ⟨L.toArray⟩) (hix:a.eval ix=.int .i64 z) (hz:z=(k:Int))
  (h1:k<L.length):(execOp a.eval o).run P w=.ok (.value (.int .u8 (byt L k))) w:=by
 subst hz;have hs:(⟨L.toArray⟩:ByteArray).size=L.length:=by simp[ByteArray.size]
 simp only[execOp,ho,hx,hix,Sem.run_bind,run_index_string w T _ .i64 _ hT];rw[dif_pos ⟨by omega,by rw[hs];omega⟩]
 have:((⟨L.toArray⟩:ByteArray)[k]'(by rw[hs];exact h1)).toNat=byt L k:=by
  unfold byt;rw[List.getD_eq_getElem?_getD,List.getElem?_eq_getElem h1];rfl
 simp[Result.andThen,this]
theorem str_index (hg:Region.wanted o (yielded ops a.tmps)=true) (T:TypeId) (x ix:Operand) (ho:o.op=.index T x ix) (hT:P.underlying T=some .string) {L:Str} {z:Int} {k:Nat} (hx:a.eval x=.string ⟨L.toArray⟩) (hix:a.eval ix=.int .i64 z) (hz:z=(k:Int))
  (h1:k<L.length) (h:wpList P ops Q rest (a.put o.dst (.int .u8 (byt L k))) w):wpList P ops Q (o::rest) a w :=
 own_pure hg (str_index_run ho hT hx hix hz h1) h
theorem sub_str (L:Str) (i j:Nat):(⟨L.toArray⟩:ByteArray).extract i j=⟨((L.take j).drop i).toArray⟩:=by
 apply ByteArray.ext;apply Array.ext';simp[ByteArray.data_extract,List.extract_eq_drop_take']
theorem str_slice (hg:Region.wanted o (yielded ops a.tmps)=true) (T:TypeId) (x lo hi:Operand) (ho:o.op=.slice T x (some lo) (some hi) none) (hT:P.underlying T=some .string) {L:Str} {y z:Int} {i j:Nat} (hx:a.eval x=.string ⟨L.toArray⟩) (hlo:a.eval lo=.int .i64 y) (hy:y=(i:Int)) (hhi:a.eval hi=.int .i64 z) (hz:z=(j:Int))
  (h1:i≤j) (h2:j≤L.length) (h:wpList P ops Q rest (a.put o.dst (.string ⟨((L.take j).drop i).toArray⟩)) w):wpList P ops Q (o::rest) a w:=by
 subst hy hz;refine own_pure hg ?_ h;have hs:(⟨L.toArray⟩:ByteArray).size=L.length:=by simp[ByteArray.size]
 simp only[execOp,ho,hx,hlo,hhi,Option.map_some,Option.map_none,Sem.run_bind];rw[run_sliceAt_string _ T _ _ _ _ hT,run_slice_string w T _ .i64 .i64 _ _ hT (by omega) (by omega) (by rw[hs];omega),sub_str]
 rfl
theorem str_eql (hg:Region.wanted o (yielded ops a.tmps)=true) (T:TypeId) (x y:Operand) (U:TypeId) (ho:o.op=.binOp .eql T x y U) {L M:Str} (hx:a.eval x=.string ⟨L.toArray⟩) (hy:a.eval y=.string ⟨M.toArray⟩)
  (hq:∀ w:World,(eqGuard .eql T x y (.string ⟨L.toArray⟩) (.string ⟨M.toArray⟩)).run P w=.ok () w) (h:wpList P ops Q rest (a.put o.dst (.bool (L == M))) w):wpList P ops Q (o::rest) a w:=by
 refine own_pure hg ?_ h;simp only[execOp,ho,hx,hy,Sem.run_bind,hq,Result.andThen,binOp_string_eql];simp[Lib.toList_data]
theorem ret_c {fn:Func} {R:Ending→World→Prop} {p:Tmp} {T:TypeId} (hres:fn.results=#[.cell p T]) {b:Nat} (hp:a.tmps.getD p undef=.pointer (some ⟨b,0,none⟩)) (H:HoldG M w0 w l) {i:Nat} {cs:Array Value} {U:TypeId} (hi:At l i (.blk b cs U))
  {n:Nat} (hT:rowB P T n=true) (hn:cs.size=n) (hd:a.defers=[]) (h:R (.returned (.agg cs)) w):bodyPost P fn R .ret a w:=by
 refine bodyPost_ret (v:=.agg cs) ?_ hd h;have:=H.run_row (T:=T) (P:=P) hi hT hn (k:=0) (fun j _=>by rw[Nat.zero_add])
 have hp':a.tmps[p]?.getD undef=.pointer (some ⟨b,0,none⟩):=by simpa using hp
 simp[results,hres,hp',asAddr,this]
theorem ret_ct {fn:Func} {R:Ending→World→Prop} {p q:Tmp} {T:TypeId} (hres:fn.results=#[.cell p T,.tmp q]) {b:Nat} (hp:a.tmps.getD p undef=.pointer (some ⟨b,0,none⟩)) {v:Value} (hq:a.tmps.getD q undef=v) (H:HoldG M w0 w l) {i:Nat} {cs:Array Value} {U:TypeId} (hi:At l i (.blk b cs U))
  {n:Nat} (hT:rowB P T n=true) (hn:cs.size=n) (hd:a.defers=[]) (h:R (.returned (.tuple #[.agg cs,v])) w):bodyPost P fn R .ret a w:=by
 refine bodyPost_ret (v:=.tuple #[.agg cs,v]) ?_ hd h;have:=H.run_row (T:=T) (P:=P) hi hT hn (k:=0) (fun j _=>by rw[Nat.zero_add])
 have hp':a.tmps[p]?.getD undef=.pointer (some ⟨b,0,none⟩):=by simpa using hp
 have hq':a.tmps[q]?.getD undef=v:=by simpa using hq
 simp[results,hres,hp',hq',asAddr,this]
theorem ret_ctt {fn:Func} {R:Ending→World→Prop} {p q r:Tmp} {T:TypeId} (hres:fn.results=#[.cell p T,.tmp q,.tmp r]) {b:Nat} (hp:a.tmps.getD p undef=.pointer (some ⟨b,0,none⟩)) {v u:Value} (hq:a.tmps.getD q undef=v) (hr:a.tmps.getD r undef=u) (H:HoldG M w0 w l) {i:Nat} {cs:Array Value} {U:TypeId} (hi:At l i (.blk b cs U))
  {n:Nat} (hT:rowB P T n=true) (hn:cs.size=n) (hd:a.defers=[]) (h:R (.returned (.tuple #[.agg cs,v,u])) w):bodyPost P fn R .ret a w:=by
 refine bodyPost_ret (v:=.tuple #[.agg cs,v,u]) ?_ hd h;have:=H.run_row (T:=T) (P:=P) hi hT hn (k:=0) (fun j _=>by rw[Nat.zero_add])
 have hp':a.tmps[p]?.getD undef=.pointer (some ⟨b,0,none⟩):=by simpa using hp
 have hq':a.tmps[q]?.getD undef=v:=by simpa using hq
 have hr':a.tmps[r]?.getD undef=u:=by simpa using hr
 simp[results,hres,hp',hq',hr',asAddr,this]
theorem ret_cS {fn:Func} {R:Ending→World→Prop} {p:Tmp} {T:TypeId} (hres:fn.results=#[.cell p T]) {b:Nat} (hp:a.tmps.getD p undef=.pointer (some ⟨b,0,none⟩)) (H:HoldG M w0 w l) {i:Nat} {s:Nat→Nat} {U:TypeId} (hi:At l i (.blk b (setC s) U))
  (hT:rowB P T 4=true) (hd:a.defers=[]) (h:R (.returned (setV s)) w):bodyPost P fn R .ret a w:=ret_c hres hp H hi hT rfl hd h
theorem reti {k:IntKind} {x y:Int} (h:x=y):Ending.returned (.int k x)=.returned (.int k y):=by rw[h]
theorem retb {x y:Bool} (h:x=y):Ending.returned (.bool x)=.returned (.bool y):=by rw[h]
end
theorem run_set0 (W:World):(Instr.build 40 #[]).run Tryz.prog W=.ok (setV emptyS) W:=by kernel_rfl
theorem own_set0 {ops:Array Oper} {rest:List Oper} {o:Oper} {a:Act} {w:World} {Q:Exit→Act→World→Prop} (hg:Region.wanted o (yielded ops a.tmps)=true) (ho:o.op=.build 40 #[])
  (h:wpList Tryz.prog ops Q rest (a.put o.dst (setV emptyS)) w):wpList Tryz.prog ops Q (o::rest) a w :=
 own_pure hg (by simp only[execOp,ho,List.map_toArray,List.map_nil,Sem.run_bind,run_set0];rfl) h
theorem wtd_ {ops:Array Oper} {o:Oper} {a:Act} (h:Region.wanted o (yielded ops a.tmps)=true:=by first|rfl|exact wanted_g rfl (yielded_of rfl (by first|rfl|(simp only[pe];rfl)))):Region.wanted o (yielded ops a.tmps)=true:=h
theorem evd_ {a:Act} {x:Operand} {v:Value} (h:a.eval x=v:=by first|(simp only[pe];done)|(simp only[pe];rfl)):a.eval x=v:=h
theorem atd_ {α:Type} {l:List α} {i:Nat} {r:α} (h:At l i r:=by repeat (first|(with_reducible exact At.zero)|apply At.succ)):At l i r:=h
theorem i_1 {α:Type} {a0 r:α} {l:List α}:At (a0::r::l) 1 r:=.succ (.zero)
theorem i_2 {α:Type} {a0 a1 r:α} {l:List α}:At (a0::a1::r::l) 2 r:=.succ (.succ (.zero))
theorem i_3 {α:Type} {a0 a1 a2 r:α} {l:List α}:At (a0::a1::a2::r::l) 3 r:=.succ (.succ (.succ (.zero)))
theorem i_4 {α:Type} {a0 a1 a2 a3 r:α} {l:List α}:At (a0::a1::a2::a3::r::l) 4 r:=.succ (.succ (.succ (.succ (.zero))))
theorem i_5 {α:Type} {a0 a1 a2 a3 a4 r:α} {l:List α}:At (a0::a1::a2::a3::a4::r::l) 5 r:=.succ (.succ (.succ (.succ (.succ (.zero)))))
theorem i_6 {α:Type} {a0 a1 a2 a3 a4 a5 r:α} {l:List α}:At (a0::a1::a2::a3::a4::a5::r::l) 6 r:=.succ (.succ (.succ (.succ (.succ (.succ (.zero))))))
theorem i_7 {α:Type} {a0 a1 a2 a3 a4 a5 a6 r:α} {l:List α}:At (a0::a1::a2::a3::a4::a5::a6::r::l) 7 r:=.succ (.succ (.succ (.succ (.succ (.succ (.succ (.zero)))))))
theorem i_8 {α:Type} {a0 a1 a2 a3 a4 a5 a6 a7 r:α} {l:List α}:At (a0::a1::a2::a3::a4::a5::a6::a7::r::l) 8 r:=.succ (.succ (.succ (.succ (.succ (.succ (.succ (.succ (.zero))))))))
theorem i_9 {α:Type} {a0 a1 a2 a3 a4 a5 a6 a7 a8 r:α} {l:List α}:At (a0::a1::a2::a3::a4::a5::a6::a7::a8::r::l) 9 r:=.succ (.succ (.succ (.succ (.succ (.succ (.succ (.succ (.succ (.zero)))))))))
theorem i_10 {α:Type} {a0 a1 a2 a3 a4 a5 a6 a7 a8 a9 r:α} {l:List α}:At (a0::a1::a2::a3::a4::a5::a6::a7::a8::a9::r::l) 10 r:=.succ (.succ (.succ (.succ (.succ (.succ (.succ (.succ (.succ (.succ (.zero))))))))))
theorem i_11 {α:Type} {a0 a1 a2 a3 a4 a5 a6 a7 a8 a9 a10 r:α} {l:List α}:At (a0::a1::a2::a3::a4::a5::a6::a7::a8::a9::a10::r::l) 11 r:=.succ (.succ (.succ (.succ (.succ (.succ (.succ (.succ (.succ (.succ (.succ (.zero)))))))))))
theorem i_12 {α:Type} {a0 a1 a2 a3 a4 a5 a6 a7 a8 a9 a10 a11 r:α} {l:List α}:At (a0::a1::a2::a3::a4::a5::a6::a7::a8::a9::a10::a11::r::l) 12 r:=.succ (.succ (.succ (.succ (.succ (.succ (.succ (.succ (.succ (.succ (.succ (.succ (.zero))))))))))))
theorem i_13 {α:Type} {a0 a1 a2 a3 a4 a5 a6 a7 a8 a9 a10 a11 a12 r:α} {l:List α}:At (a0::a1::a2::a3::a4::a5::a6::a7::a8::a9::a10::a11::a12::r::l) 13 r:=.succ (.succ (.succ (.succ (.succ (.succ (.succ (.succ (.succ (.succ (.succ (.succ (.succ (.zero)))))))))))))
theorem i_14 {α:Type} {a0 a1 a2 a3 a4 a5 a6 a7 a8 a9 a10 a11 a12 a13 r:α} {l:List α}:At (a0::a1::a2::a3::a4::a5::a6::a7::a8::a9::a10::a11::a12::a13::r::l) 14 r:=.succ (.succ (.succ (.succ (.succ (.succ (.succ (.succ (.succ (.succ (.succ (.succ (.succ (.succ (.zero))))))))))))))
theorem i_15 {α:Type} {a0 a1 a2 a3 a4 a5 a6 a7 a8 a9 a10 a11 a12 a13 a14 r:α} {l:List α}:At (a0::a1::a2::a3::a4::a5::a6::a7::a8::a9::a10::a11::a12::a13::a14::r::l) 15 r:=.succ (.succ (.succ (.succ (.succ (.succ (.succ (.succ (.succ (.succ (.succ (.succ (.succ (.succ (.succ (.zero)))))))))))))))
def digitS:Nat→Nat:=rangeS 48 10
def lowerS:Nat→Nat:=rangeS 97 26
def upperS:Nat→Nat:=rangeS 65 26
def alnumS:Nat→Nat:=unionS [digitS,lowerS,upperS]
def graphS:Nat→Nat:=rangeS 33 94
def wordS:Nat→Nat:=unionS [alnumS,ofS [95]]
def spaceS:Nat→Nat:=ofS [9,10,12,13,32]
def namesL:List (Str × (Nat→Nat)) :=
 [([97,108,110,117,109],alnumS),([97,108,112,104,97],unionS [lowerS,upperS]),([97,115,99,105,105],rangeS 0 128),([98,108,97,110,107],ofS [9,32]),
  ([99,110,116,114,108],unionS [rangeS 0 32,ofS [127]]),([100,105,103,105,116],digitS),([103,114,97,112,104],graphS),([108,111,119,101,114],lowerS),
  ([112,114,105,110,116],rangeS 32 95),([112,117,110,99,116],meetS [graphS,notS alnumS]),([115,112,97,99,101],unionS [rangeS 9 5,ofS [32]]),([117,112,112,101,114],upperS),
  ([119,111,114,100],wordS),([120,100,105,103,105,116],unionS [digitS,rangeS 97 6,rangeS 65 6])]
def namedP (n:Str):Option (Nat→Nat):=(namesL.find? (fun p=>n == p.1)).map (·.2)
def sortsL:List (Nat × (Nat→Nat)):=[(100,digitS),(119,wordS),(115,spaceS),(68,notS digitS),(87,notS wordS),(83,notS spaceS)]
def sortP (c:Nat):Option (Nat→Nat):=(sortsL.find? (fun p=>c == p.1)).map (·.2)
def hexP (c:Nat):Option Nat:=if 48≤c∧c≤57 then some (c - 48) else if 97≤c∧c≤102 then some (c - 87) else if 65≤c∧c≤70 then some (c - 55) else none
def plainP (c:Nat):Option Nat:=if c=110 then some 10 else if c=116 then some 9 else if c=114 then some 13 else if c=102 then some 12 else if c=118 then some 11 else if c=97 then some 7 else none
def escP (L:Str) (i:Nat):Option (Nat × Nat) :=
 if i+1<L.length then
  match plainP (byt L (i+1)) with
  | some b=>some (b,i+2)
  | none =>
   if byt L (i+1)=120 then
    if i+2<L.length then
     match hexP (byt L (i+2)) with
     | none=>none
     | some h =>
      if i+3<L.length then
       match hexP (byt L (i+3)) with
       | none=>none
       | some g=>some (16 * h+g,i+4)
      else none
    else none
   else if 128≤byt L (i+1) then none
   else if hasB alnumS (byt L (i+1)) then none
   else some (byt L (i+1),i+2)
 else none
def thingP (L:Str) (i:Nat):Option (Nat × Nat) :=
 if i<L.length then (if byt L i=92 then escP L i else some (byt L i,i+1)) else none
def atP (L:Str) (i:Nat) (t:Str):Bool:=t.isPrefixOf (L.drop i)
def findP (t:Str):Str→Option Nat
 | []=>if t.isPrefixOf [] then some 0 else none
 | c::l=>if t.isPrefixOf (c::l) then some 0 else (findP t l).map (·+1)
def nameP (L:Str) (i:Nat):Option (Option ((Nat→Nat) × Nat)) :=
 if atP L i [91,58] then
  match findP [58,93] (L.drop (i+2)) with
  | none=>none
  | some k =>
   let name:=(L.drop (i+2)).take k
   let neg:=atP name 0 [94]
   match namedP (if neg then name.drop 1 else name) with
   | none=>some none
   | some s=>some (some (if neg then notS s else s,i+2+k+2))
 else none
def itemTail (L:Str) (i:Nat):Option ((Nat→Nat) × Nat) :=
 match thingP L i with
 | none=>none
 | some (lo,k) =>
  if k+1<L.length∧byt L k=45∧byt L (k+1)≠93 then
   match thingP L (k+1) with
   | none=>none
   | some (hi,e)=>if lo≤hi then some (rangeS lo (hi+1 - lo),e) else none
  else some (ofS [(lo:Int)],k)
def itemP (L:Str) (i:Nat):Option ((Nat→Nat) × Nat) :=
 match nameP L i with
 | some r=>r
 | none =>
  match (if byt L i=92∧i+1<L.length then sortP (byt L (i+1)) else none) with
  | some s=>some (s,i+2)
  | none=>itemTail L i
def classGo (L:Str):Nat→Nat→Bool→(Nat→Nat)→Option ((Nat→Nat) × Nat)
 | 0,_,_,_=>none
 | f+1,k,first,S =>
  if first=false∧atP L k [93]=true then some (S,k+1)
  else match itemP L k with
   | none=>none
   | some (t,e)=>classGo L f e false (unionS [S,t])
structure WordD where
 kind:Nat
 place:Nat
 set:Nat→Nat:=emptyS
 neg:Bool:=false
 spot:Nat:=0
 lo:Int:=0
 hi:Int:=0
 lazy:Bool:=false
 on:Bool × Bool × Bool:=(false,false,false)
 off:Bool × Bool × Bool:=(false,false,false)
def wordC (w:WordD):Array Value:=#[.int .i64 w.kind,.int .i64 w.place,.int .u64 (w.set 0),.int .u64 (w.set 1),.int .u64 (w.set 2),.int .u64 (w.set 3),.bool w.neg,.int .i64 w.spot,.int .i64 w.lo,.int .i64 w.hi,.bool w.lazy,
 .bool w.on.1,.bool w.on.2.1,.bool w.on.2.2,.bool w.off.1,.bool w.off.2.1,.bool w.off.2.2]
abbrev wordV (w:WordD):Value:=.agg (wordC w)
theorem wg0 (w:WordD):(wordC w)[0]?=some (.int .i64 w.kind):=rfl
theorem wg6 (w:WordD):(wordC w)[6]?=some (.bool w.neg):=rfl
theorem wg7 (w:WordD):(wordC w)[7]?=some (.int .i64 w.spot):=rfl
theorem wg8 (w:WordD):(wordC w)[8]?=some (.int .i64 w.lo):=rfl
theorem wg9 (w:WordD):(wordC w)[9]?=some (.int .i64 w.hi):=rfl
theorem wg10 (w:WordD):(wordC w)[10]?=some (.bool w.lazy):=rfl
theorem wg11 (w:WordD):(wordC w)[11]?=some (.bool w.on.1):=rfl
theorem wg12 (w:WordD):(wordC w)[12]?=some (.bool w.on.2.1):=rfl
theorem wg13 (w:WordD):(wordC w)[13]?=some (.bool w.on.2.2):=rfl
theorem wg14 (w:WordD):(wordC w)[14]?=some (.bool w.off.1):=rfl
theorem wg15 (w:WordD):(wordC w)[15]?=some (.bool w.off.2.1):=rfl
theorem wg16 (w:WordD):(wordC w)[16]?=some (.bool w.off.2.2):=rfl
def classP (L:Str) (i:Nat):Option (WordD × Nat) :=
 let neg:=atP L (i+1) [94]
 (classGo L (L.length+1) (if neg then i+2 else i+1) true emptyS).map (fun (S,e)=>({kind:=1,place:=i,set:=S,neg:=neg},e))
def flagsGo (L:Str):Nat→Nat→Bool→Bool→WordD→Option (WordD × Nat)
 | 0,_,_,_,_=>none
 | f+1,k,off,opn,w =>
  if k<L.length then
   let c:=byt L k
   if c=105 then flagsGo L f (k+1) off true (if off then {w with off:=(true,w.off.2.1,w.off.2.2)} else {w with on:=(true,w.on.2.1,w.on.2.2)})
   else if c=109 then flagsGo L f (k+1) off true (if off then {w with off:=(w.off.1,true,w.off.2.2)} else {w with on:=(w.on.1,true,w.on.2.2)})
   else if c=115 then flagsGo L f (k+1) off true (if off then {w with off:=(w.off.1,w.off.2.1,true)} else {w with on:=(w.on.1,w.on.2.1,true)})
   else if c=45 then (if off then none else flagsGo L f (k+1) true false w)
   else if c=58 then (if opn then some ({w with kind:=7},k+1) else none)
   else if c=41 then (if opn then some ({w with kind:=8},k+1) else none)
   else none
  else none
def flagsP (L:Str) (i:Nat):Option (WordD × Nat):=flagsGo L (L.length+1) (i+2) false true {kind:=0,place:=i}
def isDigit (c:UInt8):Bool:=decide (48≤c.toNat)&&decide (c.toNat≤57)
def numF (l:Str):Nat:=l.foldl (fun n c=>min (10 * n+(c.toNat - 48)) 101) 0
def numberP (L:Str) (i:Nat):Option (Nat × Nat) :=
 let ds:=(L.drop i).takeWhile isDigit
 if ds=[]∨1<ds.length∧byt L i=48 then none else some (numF ds,i+ds.length)
def bracesP (L:Str) (i:Nat):Option (Nat × Int × Nat) :=
 match numberP L (i+1) with
 | none=>none
 | some (n,k) =>
  if atP L k [44,125] then some (n,-1,k+2)
  else if atP L k [44] then
   match numberP L (k+1) with
   | none=>none
   | some (m,e)=>if atP L e [125] then some (n,m,e+1) else none
  else if atP L k [125] then some (n,n,k+1) else none
def repeatP (L:Str) (i:Nat) (lo hi:Int) (e:Nat):Except Nat (WordD × Nat) :=
 if 100<lo∨100<hi∨(0≤hi∧hi<lo) then .error 6
 else if atP L e [63] then .ok ({kind:=11,place:=i,lo:=lo,hi:=hi,lazy:=true},e+1)
 else .ok ({kind:=11,place:=i,lo:=lo,hi:=hi},e)
def spotP (c:Nat):Option Nat:=if c=98 then some 12 else if c=66 then some 13 else if c=65 then some 8 else if c=122 then some 9 else none
def slashP (L:Str) (i:Nat):Option (WordD × Nat) :=
 match (if i+1<L.length then sortP (byt L (i+1)) else none) with
 | some s=>some ({kind:=1,place:=i,set:=s},i+2)
 | none =>
  match (if i+1<L.length then spotP (byt L (i+1)) else none) with
  | some k=>some ({kind:=5,place:=i,spot:=k},i+2)
  | none=>(escP L i).map (fun (b,e)=>({kind:=1,place:=i,set:=ofS [(b:Int)]},e))
def orErr {α:Type}:Option α→Except Nat α
 | some a=>.ok a
 | none=>.error 4
def signP (c:Nat):Option Nat:=if c=46 then some 2 else if c=94 then some 3 else if c=36 then some 4 else if c=41 then some 9 else if c=124 then some 10 else none
def wordP (L:Str) (i:Nat):Except Nat (WordD × Nat) :=
 let c:=byt L i
 if c=92 then orErr (slashP L i)
 else if c=91 then orErr (classP L i)
 else if c=40 then (if atP L (i+1) [63] then orErr (flagsP L i) else .ok ({kind:=6,place:=i},i+1))
 else if c=123 then
  match bracesP L i with
  | some (lo,hi,e)=>repeatP L i lo hi e
  | none=>.ok ({kind:=1,place:=i,set:=ofS [123]},i+1)
 else if c=42 then repeatP L i 0 (-1) (i+1)
 else if c=43 then repeatP L i 1 (-1) (i+1)
 else if c=63 then repeatP L i 0 1 (i+1)
 else match signP c with
  | some k=>.ok ({kind:=k,place:=i},i+1)
  | none=>.ok ({kind:=1,place:=i,set:=ofS [(c:Int)]},i+1)
def wordsGo (L:Str):Nat→Nat→Except (Nat × Nat) (List WordD)
 | 0,i=>if i<L.length then .error (i,0) else .ok []
 | f+1,i =>
  if i<L.length then
   match wordP L i with
   | .error e=>.error (i,e)
   | .ok (w,j) =>
    match wordsGo L f j with
    | .error x=>.error x
    | .ok l=>.ok (w::l)
  else .ok []
def wordsP (L:Str):Except (Nat × Nat) (List WordD):=wordsGo L L.length 0
theorem digitS_ok:SetOk digitS:=ofS_ok _
theorem lowerS_ok:SetOk lowerS:=ofS_ok _
theorem upperS_ok:SetOk upperS:=ofS_ok _
theorem graphS_ok:SetOk graphS:=ofS_ok _
theorem ok2 {s t:Nat→Nat} (hs:SetOk s) (ht:SetOk t):∀ x ∈ [s,t],SetOk x:=by intro x hx;simp at hx;rcases hx with rfl|rfl<;>assumption
theorem ok3 {s t u:Nat→Nat} (hs:SetOk s) (ht:SetOk t) (hu:SetOk u):∀ x ∈ [s,t,u],SetOk x:=by intro x hx;simp at hx;rcases hx with rfl|rfl|rfl<;>assumption
theorem alnumS_ok:SetOk alnumS:=unionS_ok (ok3 digitS_ok lowerS_ok upperS_ok)
theorem wordS_ok:SetOk wordS:=unionS_ok (ok2 alnumS_ok (ofS_ok _))
theorem rangeS_ok (lo n:Nat):SetOk (rangeS lo n):=ofS_ok _
theorem names_ok:∀ p ∈ namesL,SetOk p.2:=by
 intro p hp;simp only[namesL,List.mem_cons,List.not_mem_nil,or_false]at hp;rcases hp with rfl|rfl|rfl|rfl|rfl|rfl|rfl|rfl|rfl|rfl|rfl|rfl|rfl|rfl
 ·exact alnumS_ok
 ·exact unionS_ok (ok2 lowerS_ok upperS_ok)
 ·exact rangeS_ok _ _
 ·exact ofS_ok _
 ·exact unionS_ok (ok2 (rangeS_ok _ _) (ofS_ok _))
 ·exact digitS_ok
 ·exact graphS_ok
 ·exact lowerS_ok
 ·exact rangeS_ok _ _
 ·exact meetS_ok (ok2 graphS_ok (notS_ok _))
 ·exact unionS_ok (ok2 (rangeS_ok _ _) (ofS_ok _))
 ·exact upperS_ok
 ·exact wordS_ok
 ·exact unionS_ok (ok3 digitS_ok (rangeS_ok _ _) (rangeS_ok _ _))
theorem namedP_ok {n:Str} {s:Nat→Nat} (h:namedP n=some s):SetOk s:=by
 unfold namedP at h;obtain⟨p,hp,rfl⟩:=Option.map_eq_some_iff.1 h;exact names_ok p (List.mem_of_find?_eq_some hp)
theorem sortP_ok {c:Nat} {s:Nat→Nat} (h:sortP c=some s):SetOk s:=by
 unfold sortP at h;obtain⟨p,hp,rfl⟩:=Option.map_eq_some_iff.1 h;have:=List.mem_of_find?_eq_some hp;simp only[sortsL,List.mem_cons,List.not_mem_nil,or_false]at this;rcases this with rfl|rfl|rfl|rfl|rfl|rfl
 ·exact digitS_ok
 ·exact wordS_ok
 ·exact ofS_ok _
 ·exact notS_ok _
 ·exact notS_ok _
 ·exact notS_ok _
theorem at_out {L t:Str} {i:Nat} (h:L.length<i+t.length) (ht:t≠[]):atP L i t=false:=by
 unfold atP;rw[Bool.eq_false_iff];intro hc;have:=List.IsPrefix.length_le (List.isPrefixOf_iff_prefix.1 hc);simp at this;have:0<t.length:=List.length_pos_iff.2 ht;omega
theorem at_in {L t:Str} {i:Nat} (h:i+t.length≤L.length):((L.take (i+t.length)).drop i == t)=atP L i t:=by
 unfold atP;have e:(L.take (i+t.length)).drop i=(L.drop i).take t.length:=by rw[List.drop_take];congr 1;omega
 rw[e,Bool.eq_iff_iff,beq_iff_eq,List.isPrefixOf_iff_prefix,List.prefix_iff_eq_take,eq_comm]
theorem numF_snoc (l:Str) (c:UInt8):numF (l++[c])=min (10 * numF l+(c.toNat - 48)) 101:=by simp[numF]
theorem numF_le (l:Str):numF l≤101:=by
 rcases List.eq_nil_or_concat l with rfl|⟨l',c,rfl⟩
 ·simp[numF]
 ·rw[List.concat_eq_append,numF_snoc];omega
theorem byt_get {L:Str} {k:Nat} (h:k<L.length):byt L k=L[k].toNat:=by
 unfold byt;rw[List.getD_eq_getElem?_getD,List.getElem?_eq_getElem h];rfl
theorem escP_le {L:Str} {i b e:Nat} (h:escP L i=some (b,e)):i+2≤e∧e≤L.length∧b<256:=by
 unfold escP at h;split at h
 ·rename_i h1;split at h
  ·rename_i b' hp
   cases h
   refine⟨by omega,by omega,?_⟩
   unfold plainP at hp
   (repeat' split at hp)<;>first|(cases hp;omega)|cases hp
  ·split at h
   ·split at h
    ·split at h
     ·cases h
     ·rename_i x hx;split at h
      ·split at h
       ·cases h
       ·rename_i y hy
        cases h
        have hx1:x≤15:=by unfold hexP at hx;(repeat' split at hx)<;>first|(cases hx;omega)|cases hx
        have hy1:y≤15:=by unfold hexP at hy;(repeat' split at hy)<;>first|(cases hy;omega)|cases hy
        omega
      ·cases h
    ·cases h
   ·split at h
    ·cases h
    ·split at h
     ·cases h
     ·cases h
      have:=byt_lt L (i+1);omega
 ·cases h
theorem thingP_le {L:Str} {i b e:Nat} (h:thingP L i=some (b,e)):i+1≤e∧e≤L.length∧b<256:=by
 unfold thingP at h;split at h
 ·split at h
  ·have:=escP_le h;omega
  ·cases h
   have:=byt_lt L i;omega
 ·cases h
theorem findP_le {t:Str}:∀ {l:Str} {k:Nat},findP t l=some k→k+t.length≤l.length
 | [],k,h=>by
  unfold findP at h;split at h
  ·rename_i hp
   cases h
   have:=List.IsPrefix.length_le (List.isPrefixOf_iff_prefix.1 hp)
   simpa using this
  ·cases h
 | c::l,k,h=>by
  unfold findP at h;split at h
  ·rename_i hp
   cases h
   have:=List.IsPrefix.length_le (List.isPrefixOf_iff_prefix.1 hp);omega
  ·obtain⟨k',hk,rfl⟩:=Option.map_eq_some_iff.1 h;have:=findP_le hk;simp;omega
theorem at_le {L t:Str} {i:Nat} (h:atP L i t=true) (ht:t≠[]):i+t.length≤L.length:=by
 by_cases hc:i+t.length≤L.length
 ·exact hc
 ·rw[at_out (by omega) ht]at h;cases h
theorem nameP_le {L:Str} {i e:Nat} {s:Nat→Nat} (h:nameP L i=some (some (s,e))):i+4≤e∧e≤L.length∧SetOk s:=by
 unfold nameP at h;split at h
 ·rename_i ha;have hl:=at_le ha (by simp)
  simp at hl;split at h
  ·cases h
  ·rename_i k hf;have hk:=findP_le hf;simp at hk;simp only[]at h;split at h
   ·cases h
   ·rename_i s' hn;simp only[Option.some.injEq,Prod.mk.injEq]at h;obtain⟨h1,h2⟩:=h;refine⟨by omega,by omega,?_⟩
    subst h1;split
    ·exact notS_ok _
    ·exact namedP_ok hn
 ·cases h
theorem itemTail_le {L:Str} {i e:Nat} {s:Nat→Nat} (h:itemTail L i=some (s,e)):i+1≤e∧e≤L.length∧SetOk s:=by
 unfold itemTail at h;split at h
 ·cases h
 ·rename_i lo k ht;have h1:=thingP_le ht;split at h
  ·split at h
   ·cases h
   ·rename_i hi e' ht2;have h2:=thingP_le ht2;split at h
    ·cases h
     exact⟨by omega,by omega,rangeS_ok _ _⟩
    ·cases h
  ·cases h
   exact⟨by omega,by omega,ofS_ok _⟩
theorem itemP_le {L:Str} {i e:Nat} {s:Nat→Nat} (h:itemP L i=some (s,e)):i+1≤e∧e≤L.length∧SetOk s:=by
 unfold itemP at h;split at h
 ·rename_i r hr;subst h;have:=nameP_le hr;exact⟨by omega,this.2.1,this.2.2⟩
 ·split at h
  ·rename_i s' hs;split at hs
   ·rename_i hc
    cases h
    exact⟨by omega,by omega,sortP_ok hs⟩
   ·cases hs
  ·exact itemTail_le h
section
variable {P:Program} {ops:Array Oper} {rest:List Oper} {o:Oper} {a:Act} {w w0:World} {Q:Exit→Act→World→Prop} {l:List Res}
end
def WordR (o:Option (WordD × Nat)) (e:Ending):Prop:=match o with
 | some (w,k)=>e=.returned (.tuple #[wordV w,.int .i64 k])
 | none=>∃ w,e=.returned (.tuple #[wordV w,.int .i64 (-1)])
theorem WordR.ok {o:Option (WordD × Nat)} {w:WordD} {k:Nat} (h:o=some (w,k)):WordR o (.returned (.tuple #[wordV w,.int .i64 k])):=by subst h;rfl
theorem numberP_le {L:Str} {i n k:Nat} (h:numberP L i=some (n,k)) (hi:i≤L.length):i+1≤k∧k≤L.length∧n≤101:=by
 unfold numberP at h;simp only[]at h;split at h
 ·cases h
 ·rename_i hc;simp only[Option.some.injEq,Prod.mk.injEq]at h;obtain⟨rfl,rfl⟩:=h;have h1:((L.drop i).takeWhile isDigit).length≤(L.drop i).length:=(List.takeWhile_prefix _).length_le;have h2:((L.drop i).takeWhile isDigit).length≠0:=fun e=>hc (.inl (List.length_eq_zero_iff.1 e))
  simp at h1;exact⟨by omega,by omega,numF_le _⟩
theorem classGo_le {L:Str}:∀ (f k:Nat) (b:Bool) (S S':Nat→Nat) (e:Nat),k≤L.length→classGo L f k b S=some (S',e)→k+1≤e∧e≤L.length
 | 0,_,_,_,_,_,_,h=>by cases h
 | f+1,k,b,S,S',e,hk,h=>by
  rw[classGo]at h;split at h
  ·rename_i hc;have:=at_le hc.2 (by simp)
   simp at this
   cases h
   omega
  ·split at h
   ·cases h
   ·rename_i t e' hi;have h1:=itemP_le hi;have:=classGo_le f e' false _ S' e h1.2.1 h;omega
theorem classP_le {L:Str} {i e:Nat} {d:WordD} (hi:i<L.length) (h:classP L i=some (d,e)):i+1≤e∧e≤L.length:=by
 unfold classP at h;obtain⟨⟨S,e'⟩,h1,h2⟩:=Option.map_eq_some_iff.1 h
 cases h2
 split at h1
 ·rename_i ha;have:=at_le ha (by simp)
  simp at this;have:=classGo_le _ _ _ _ _ _ (by omega) h1
  omega
 ·have:=classGo_le _ _ _ _ _ _ (by omega) h1
  omega
theorem flagsGo_le {L:Str}:∀ (f k:Nat) (a b:Bool) (d d':WordD) (e:Nat),flagsGo L f k a b d=some (d',e)→k+1≤e∧e≤L.length
 | 0,_,_,_,_,_,_,h=>by cases h
 | f+1,k,a,b,d,d',e,h=>by
  rw[flagsGo]at h;split at h
  ·rename_i hk;simp only[]at h;split at h
   ·have:=flagsGo_le f _ _ _ _ _ _ h;omega
   ·split at h
    ·have:=flagsGo_le f _ _ _ _ _ _ h;omega
    ·split at h
     ·have:=flagsGo_le f _ _ _ _ _ _ h;omega
     ·split at h
      ·split at h
       ·cases h
       ·have:=flagsGo_le f _ _ _ _ _ _ h;omega
      ·split at h
       ·split at h
        ·cases h;omega
        ·cases h
       ·split at h
        ·split at h
         ·cases h;omega
         ·cases h
        ·cases h
  ·cases h
theorem slashP_le {L:Str} {i e:Nat} {d:WordD} (h:slashP L i=some (d,e)):i+1≤e∧e≤L.length:=by
 unfold slashP at h;split at h
 ·rename_i s hs;split at hs
  ·cases h;omega
  ·cases hs
 ·split at h
  ·rename_i k hk;split at hk
   ·cases h;omega
   ·cases hk
  ·obtain⟨⟨b,e'⟩,h1,h2⟩:=Option.map_eq_some_iff.1 h
   cases h2
   have:=escP_le h1;omega
theorem repeatP_le {L:Str} {i e k:Nat} {lo hi:Int} {d:WordD} (he:e≤L.length) (h:repeatP L i lo hi e=.ok (d,k)):e≤k∧k≤L.length:=by
 unfold repeatP at h;split at h
 ·cases h
 ·split at h
  ·rename_i ha;have:=at_le ha (by simp)
   simp at this
   cases h;omega
  ·cases h;omega
theorem orErr_ok {α:Type} {o:Option α} {x:α} (h:orErr o=.ok x):o=some x:=by cases o<;>cases h;rfl
theorem bracesP_in {L:Str} {i lo e:Nat} {hi:Int} (h:bracesP L i=some (lo,hi,e)) (hi2:i<L.length):i+2≤e∧e≤L.length:=by
 unfold bracesP at h;split at h
 ·cases h
 ·rename_i n k hn;have h1:=numberP_le hn (by omega)
  split at h
  ·rename_i ha;have:=at_le ha (by simp)
   simp at this
   cases h
   omega
  ·split at h
   ·rename_i ha;have h2:=at_le ha (by simp)
    simp at h2;split at h
    ·cases h
    ·rename_i m e' hm;have h3:=numberP_le hm (by omega)
     split at h
     ·rename_i hb;have h4:=at_le hb (by simp)
      simp at h4
      cases h
      omega
     ·cases h
   ·split at h
    ·rename_i hb;have h4:=at_le hb (by simp)
     simp at h4
     cases h
     omega
    ·cases h
theorem wordP_le {L:Str} {i k:Nat} {d:WordD} (hi:i<L.length) (h:wordP L i=.ok (d,k)):i+1≤k∧k≤L.length:=by
 unfold wordP at h;simp only[]at h;split at h
 ·exact slashP_le (orErr_ok h)
 ·split at h
  ·exact classP_le hi (orErr_ok h)
  ·split at h
   ·split at h
    ·have:=flagsGo_le _ _ _ _ _ _ _ (orErr_ok h);omega
    ·cases h;omega
   ·split at h
    ·split at h
     ·rename_i lo hi2 e hb;have h1:=bracesP_in hb hi;have:=repeatP_le (by omega) h
      omega
     ·cases h;omega
    ·split at h
     ·have:=repeatP_le (by omega) h;omega
     ·split at h
      ·have:=repeatP_le (by omega) h;omega
      ·split at h
       ·have:=repeatP_le (by omega) h;omega
       ·split at h
        ·cases h;omega
        ·cases h;omega
def wcat (ws:List WordD):Except (Nat × Nat) (List WordD)→Except (Nat × Nat) (List WordD)
 | .error x=>.error x
 | .ok l=>.ok (ws++l)
theorem wcat_nil (r:Except (Nat × Nat) (List WordD)):wcat [] r=r:=by cases r<;>rfl
theorem words_ok {L:Str} {f j k:Nat} {d:WordD} {ws:List WordD} (hj:j<L.length) (h:wordP L j=.ok (d,k)):wcat ws (wordsGo L (f+1) j)=wcat (ws++[d]) (wordsGo L f k):=by
 rw[wordsGo,if_pos hj,h];simp only[]
 cases wordsGo L f k with
 | error x=>rfl
 | ok l=>simp[wcat]
theorem words_err {L:Str} {f j x:Nat} {ws:List WordD} (hj:j<L.length) (h:wordP L j=.error x):wcat ws (wordsGo L (f+1) j)=.error (j,x):=by
 rw[wordsGo,if_pos hj,h];rfl
theorem words_end {L:Str} {f j:Nat} {ws:List WordD} (hj:¬ j<L.length):wcat ws (wordsGo L f j)=.ok ws:=by
 cases f with
 | zero=>rw[wordsGo,if_neg hj];simp[wcat]
 | succ f=>rw[wordsGo,if_neg hj];simp[wcat]
def flatW (ws:List WordD):List Value:=ws.flatMap (fun d=>(wordC d).toList)
theorem flatW_snoc (ws:List WordD) (d:WordD):flatW (ws++[d])=flatW ws++(wordC d).toList:=by simp[flatW]
theorem repeatP_err {L:Str} {i e x:Nat} {lo hi:Int} (h:repeatP L i lo hi e=.error x):x=6:=by
 unfold repeatP at h;split at h
 ·cases h;rfl
 ·split at h<;>cases h
theorem orErr_err {α:Type} {o:Option α} {x:Nat} (h:orErr o=.error x):x=4:=by cases o<;>cases h;rfl
theorem wordP_err {L:Str} {i x:Nat} (h:wordP L i=.error x):x=4∨x=6:=by
 unfold wordP at h;simp only[]at h;split at h
 ·exact .inl (orErr_err h)
 ·split at h
  ·exact .inl (orErr_err h)
  ·split at h
   ·split at h
    ·exact .inl (orErr_err h)
    ·cases h
   ·split at h
    ·split at h
     ·exact .inr (repeatP_err h)
     ·cases h
    ·split at h
     ·exact .inr (repeatP_err h)
     ·split at h
      ·exact .inr (repeatP_err h)
      ·split at h
       ·exact .inr (repeatP_err h)
       ·split at h<;>cases h
section
variable {M:Nat→Prop} {w0 W W':World} {l:List Res}
theorem HoldG.kn (H:HoldG M w0 W l) {i:Nat} {F:Nat→Prop} {S:World→Prop} (hi:At l i (.kn F S)):S W:=(H.all i _ hi.get).2 W (fun _ _=>rfl)
theorem HoldG.knlt (H:HoldG M w0 W l) {i:Nat} {F:Nat→Prop} {S:World→Prop} (hi:At l i (.kn F S)):∀ b,F b→b<W.heap.size:=(H.all i _ hi.get).1
theorem HoldG.know (H:HoldG M w0 W l) (F:Nat→Prop) (S:World→Prop) (hlt:∀ b,F b→b<W.heap.size) (hap:∀ (i:Nat) (r:Res),l[i]?=some r→∀ b,r.place=some b→¬ F b)
  (hS:∀ V:World,(∀ b,F b→V.heap[b]?=W.heap[b]?)→S V):HoldG M w0 W (l++[.kn F S]):=by
 refine⟨H.keep,?_,?_⟩
 ·intro j s hs;rw[List.getElem?_append]at hs;split at hs
  ·exact H.all j s hs
  ·rcases List.getElem?_eq_some_iff.1 hs with ⟨h1,h2⟩
   simp at h1;simp[h1]at h2;subst h2;exact⟨hlt,hS⟩
 ·intro j k s t hjk hs ht;rw[List.getElem?_append]at hs ht;split at hs
  ·split at ht
   ·exact H.apart j k s t hjk hs ht
   ·rcases List.getElem?_eq_some_iff.1 ht with ⟨h1,h2⟩
    simp at h1;simp[h1]at h2;subst h2;exact hap j s hs
  ·rcases List.getElem?_eq_some_iff.1 hs with ⟨h1,h2⟩
   simp at h1;simp[h1]at h2;subst h2;intro b h;cases h
def Still (l:List Res) (G:Nat→Prop):Prop:=∀ b,G b→∃ (i:Nat) (r:Res),l[i]?=some r∧r.place=none∧r.foot b
theorem Still.none:Still l (fun _=>False):=fun _ h=>h.elim
theorem Still.at {i:Nat} {F:Nat→Prop} {S:World→Prop} (hi:At l i (.kn F S)):Still l F:=fun b hb=>⟨i,_,hi.get,rfl,hb⟩
theorem Still.or {F G:Nat→Prop} (h:Still l F) (k:Still l G):Still l (fun b=>F b∨G b):=fun b hb=>hb.elim (h b) (k b)
theorem Still.apart (H:HoldG M w0 W l) {G:Nat→Prop} (h:Still l G):∀ (i:Nat) (r:Res),l[i]?=some r→∀ b,r.place=some b→¬ G b:=by
 intro i r hi b hb hg;obtain⟨j,s,hj,hs,hf⟩:=h b hg
 by_cases e:i=j
 ·subst e;rw[hi]at hj;cases hj
  rw[hs]at hb;cases hb
 ·exact H.apart i j r s e hi hj b hb hf
theorem Still.lt (H:HoldG M w0 W l) {G:Nat→Prop} (h:Still l G):∀ b,G b→b<W.heap.size:=fun b hb=>by
 obtain⟨j,s,hj,hs,hf⟩:=h b hb;exact(H.all j s hj).ltf b hf
theorem HoldG.also (H:HoldG M w0 W l) (F:Nat→Prop) (S:World→Prop) (hF:Still l F) (hS:∀ V:World,(∀ b,F b→V.heap[b]?=W.heap[b]?)→S V):HoldG M w0 W (l++[.kn F S]) :=
 H.know F S (hF.lt H) (hF.apart H) hS
theorem HoldG.learn (H:HoldG M w0 W l) (hb:Below W.heap.size W W') {F G:Nat→Prop} {S:World→Prop} (hG:Still l G) (hF:∀ b,F b→b<W'.heap.size∧(W.heap.size≤b∨G b))
  (hS:∀ V:World,(∀ b,F b→V.heap[b]?=W'.heap[b]?)→S V):HoldG M w0 W' (l++[.kn F S]) :=
 (H.call hb).know F S (fun b h=>(hF b h).1) (fun i r hi b hp hf=>by
  rcases(hF b hf).2 with h|h
  ·have:=((H.all i r hi).lt b hp).2;omega
  ·exact hG.apart H i r hi b hp h) hS
theorem HoldG.learnBut (H:HoldG M w0 W l) {i b0:Nat} {cs cs':Array Value} {T:TypeId} (hi:At l i (.blk b0 cs T)) (hk:KeepBut (·=b0) W.heap.size W W') (hb:W'.heap[b0]?=some (.cells cs' T (0,0)))
  {F G:Nat→Prop} {S:World→Prop} (hG:Still l G) (hF:∀ b,F b→b<W'.heap.size∧(W.heap.size≤b∨G b)) (hS:∀ V:World,(∀ b,F b→V.heap[b]?=W'.heap[b]?)→S V):HoldG M w0 W' (l.set i (.blk b0 cs' T)++[.kn F S]) :=
 (H.callBut hi hk hb).know F S (fun b h=>(hF b h).1) (fun j r hj b hp hf=>by
  have:∃ s,l[j]?=some s∧s.place=some b:=by
   rw[List.getElem?_set]at hj;split at hj
   ·rename_i e;subst e;split at hj
    ·cases hj;exact⟨_,hi.get,hp⟩
    ·cases hj
   ·exact⟨r,hj,hp⟩
  obtain⟨s,hs,hsp⟩:=this;rcases(hF b hf).2 with h|h
  ·have:=((H.all j s hs).lt b hsp).2;omega
  ·exact hG.apart H j s hs b hsp h) hS
theorem HoldG.pick (H:HoldG M w0 W l) (js:List Nat) (l':List Res) (hn:js.Nodup) (h:js.map (fun j=>l[j]?)=l'.map some):HoldG M w0 W l':=by
 have hlen:js.length=l'.length:=by simpa using congrArg List.length h
 have key:∀ (i:Nat) (r:Res),l'[i]?=some r→∃ j:Nat,js[i]?=some j∧l[j]?=some r:=by
  intro i r hi;have h1:(l'.map some)[i]?=some (some r):=by rw[List.getElem?_map,hi];rfl
  rw[← h,List.getElem?_map]at h1;obtain⟨j,hj,e⟩:=Option.map_eq_some_iff.1 h1;exact⟨j,hj,e⟩
 refine⟨H.keep,fun i r hi=>?_,fun i k r s hik hi hk=>?_⟩
 ·obtain⟨j,_,e⟩:=key i r hi;exact H.all j r e
 ·obtain⟨j,hj,e⟩:=key i r hi;obtain⟨m,hm,e'⟩:=key k s hk;refine H.apart j m r s (fun ejm=>hik ?_) e e'
  subst ejm;obtain⟨h1,h1'⟩:=List.getElem?_eq_some_iff.1 hj;obtain⟨h2,h2'⟩:=List.getElem?_eq_some_iff.1 hm;exact(List.getElem_inj hn).1 (h1'.trans h2'.symm)
theorem HoldG.rest (H:HoldG M w0 W l) {i:Nat} {r:Res} (hi:At l i r) (S:World→Prop) (hS:∀ V:World,(∀ b,r.foot b→V.heap[b]?=W.heap[b]?)→S V):HoldG M w0 W (l.set i (.kn r.foot S)):=by
 have hil:i<l.length:=(List.getElem?_eq_some_iff.1 hi.get).1;refine⟨H.keep,fun j s hs=>?_,fun j k s t hjk hs ht=>?_⟩
 ·rw[List.getElem?_set]at hs;split at hs
  ·rename_i e;subst e;cases hs
   exact⟨fun b hb=>(H.all i r hi.get).ltf b hb,hS⟩
  ·exact H.all j s hs
 ·rw[List.getElem?_set]at hs ht;split at hs
  ·rename_i e;subst e;cases hs
   intro b hb;cases hb
  ·split at ht
   ·rename_i _ e;subst e;cases ht
    exact H.apart j i s r hjk hs hi.get
   ·exact H.apart j k s t hjk hs ht
end
def RdN (sz:Nat) (W:World) (F:Nat→Prop) (s:Value) (rows:List (Array Value)):Prop :=
 ∃ p cap,s=.slice p rows.length cap∧rows.length≤cap∧cap≤maxLen∧(p=none→cap=0) ∧
  ∀ (j:Nat) (r:Array Value),rows[j]?=some r→∃ b off,p=some ⟨b,off,none⟩∧F b∧r.size=sz∧∀ k,k<sz→W.cell? ⟨b,off+j * sz+k,none⟩=r[k]?
theorem RdN.kept {sz:Nat} {W V:World} {F:Nat→Prop} {s:Value} {rows:List (Array Value)} (h:RdN sz W F s rows) (hk:∀ b,F b→V.heap[b]?=W.heap[b]?):RdN sz V F s rows:=by
 obtain⟨p,cap,e,h1,h2,h0,h3⟩:=h;refine⟨p,cap,e,h1,h2,h0,fun j r hj=>?_⟩
 obtain⟨b,off,e1,e2,e3,e4⟩:=h3 j r hj;refine⟨b,off,e1,e2,e3,fun k hk'=>?_⟩
 rw[← e4 k hk'];simp[World.cell?,hk b e2]
theorem RdN.mono {sz:Nat} {W:World} {F G:Nat→Prop} {s:Value} {rows:List (Array Value)} (h:RdN sz W F s rows) (hFG:∀ b,F b→G b):RdN sz W G s rows:=by
 obtain⟨p,cap,e,h1,h2,h0,h3⟩:=h;exact⟨p,cap,e,h1,h2,h0,fun j r hj=>let ⟨b,off,e1,e2,e3⟩:=h3 j r hj;⟨b,off,e1,hFG b e2,e3⟩⟩
theorem RdN.nil (sz:Nat) (W:World) (F:Nat→Prop) (p:Option Addr):RdN sz W F (.slice p 0 0) []:=⟨p,0,rfl,Nat.le_refl _,by simp,fun _=>rfl,fun j r h=>by simp at h⟩
def flatR (rows:List (Array Value)):List Value:=(rows.map Array.toList).flatten
theorem flatR_append (rows rows':List (Array Value)):flatR (rows++rows')=flatR rows++flatR rows':=by simp[flatR]
theorem flatR_one (r:Array Value):flatR [r]=r.toList:=by simp[flatR]
theorem flatR_len {sz:Nat}:∀ {rows:List (Array Value)},(∀ r ∈ rows,r.size=sz)→(flatR rows).length=rows.length * sz
 | [],_=>by simp[flatR]
 | r::rows,h=>by
  have ih:=flatR_len (rows:=rows) (fun r hr=>h r (List.mem_cons_of_mem _ hr))
  have h1:=h r (List.mem_cons_self ..);simp only[flatR,List.map_cons,List.flatten_cons,List.length_append,List.length_cons]at *;rw[ih,Array.length_toList,h1,Nat.succ_mul];omega
theorem flatR_get {sz:Nat}:∀ {rows:List (Array Value)},(∀ r ∈ rows,r.size=sz)→∀ {j:Nat} {r:Array Value} {k:Nat},rows[j]?=some r→k<sz→(flatR rows)[j * sz+k]?=r[k]?
 | [],_,_,_,_,h,_=>by simp at h
 | q::rows,hs,0,r,k,h,hk=>by
  simp at h;subst h;have h1:=hs q (List.mem_cons_self ..);simp only[flatR,List.map_cons,List.flatten_cons];rw[Nat.zero_mul,Nat.zero_add,List.getElem?_append_left (by simp;omega)]
  simp
 | q::rows,hs,j+1,r,k,h,hk=>by
  have h1:=hs q (List.mem_cons_self ..);have ih:=flatR_get (rows:=rows) (fun r hr=>hs r (List.mem_cons_of_mem _ hr)) (j:=j) (r:=r) (k:=k) (by simpa using h) hk
  simp only[flatR,List.map_cons,List.flatten_cons]at *;rw[Nat.succ_mul,List.getElem?_append_right (by simp;omega),← ih]
  simp only[Array.length_toList,h1]
  congr 1;omega
theorem RdN.of_own {sz:Nat} {w V:World} {base:Nat} {e:TypeId} {v:Value} {n:Nat} {rows:List (Array Value)} (h:w.ownsRow base e sz v n (flatR rows)) (hs:∀ r ∈ rows,r.size=sz) (hl:rows.length=n)
  (hk:∀ b,v.ownBlock=some b→V.heap[b]?=w.heap[b]?):RdN sz V (fun b=>v.ownBlock=some b) v rows:=by
 subst hl;obtain⟨_,⟨rfl,hn⟩|⟨g,cap,cur,rfl,hb,hg,hn,hc,hsz,ht⟩⟩:=h
 ·rw[List.length_eq_zero_iff.1 hn];exact RdN.nil ..
 ·refine⟨_,cap,rfl,hn,hc,(fun h=>by cases h),fun j r hj=>⟨g,0,rfl,rfl,hs r (List.mem_of_getElem? hj),fun k hk'=>?_⟩⟩
  have hg':V.heap[g]?=some (.cells cur e (0,0)):=(hk g rfl).trans hg;have hlt:=(List.getElem?_eq_some_iff.1 hj).1;rw[cell_of_row V g (0+j * sz+k) cur e (0,0) hg',Nat.zero_add,← flatR_get hs hj hk',← ht,List.getElem?_take,if_pos,Array.getElem?_toList];have:(j+1) * sz≤rows.length * sz:=Nat.mul_le_mul_right _ hlt;rw[Nat.succ_mul]at this;omega
theorem ownsRow_shape {w:World} {base:Nat} {e:TypeId} {sz:Nat} {v:Value} {n:Nat} {xs:List Value} (h:w.ownsRow base e sz v n xs):∃ q cap,v=.slice q n cap∧(0<n→∃ g,q=some ⟨g,0,none⟩):=by
 obtain⟨_,⟨hv,hn⟩|⟨g,cap,cur,hv,_⟩⟩:=h
 ·exact⟨none,0,by rw[hv,hn],fun h=>by omega⟩
 ·exact⟨_,cap,hv,fun _=>⟨g,rfl⟩⟩
section
variable {P:Program} {ops:Array Oper} {rest:List Oper} {o:Oper} {a:Act} {w w0:World} {Q:Exit→Act→World→Prop} {l:List Res} {M:Nat→Prop}
theorem run_loadRow {T:TypeId} {b k n:Nat} {vs:Array Value} (hT:rowB P T n=true) (hn:vs.size=n) (hv:∀ j,j<n→w.cell? ⟨b,k+j,none⟩=vs[j]?):(loadVar T ⟨b,k,none⟩).run P w=.ok (.agg vs) w:=by
 obtain⟨d,hu,hd,hs⟩:=rowB_parts hT
 have:=run_loadVar_mid (P:=P) w b k T vs.toList d (fun j v hj=>by
  have hlt:j<n:=by have:=(List.getElem?_eq_some_iff.1 hj).1;simp at this;omega
  rw[hv j hlt];simpa using hj) hu hd (by rw[hs];simp[hn])
 simpa using this
theorem run_loadK {T:TypeId} {x:Operand} (ho:o.op=.load T x) {b k n:Nat} (hx:a.eval x=.pointer (some ⟨b,k,none⟩)) {vs:Array Value} (hT:rowB P T n=true) (hn:vs.size=n) (hv:∀ j,j<n→w.cell? ⟨b,k+j,none⟩=vs[j]?) :
  (execOp a.eval o).run P w=.ok (.value (.agg vs)) w:=by
 unfold execOp;simp only[ho,hx,Instr.loadAt,Instr.sureAddr,Sem.run_bind,Sem.run_pure,Result.andThen_ok,run_loadRow hT hn hv]
theorem own_loadK (hg:Region.wanted o (yielded ops a.tmps)=true) (T:TypeId) (x:Operand) (ho:o.op=.load T x) {b k n:Nat} (hx:a.eval x=.pointer (some ⟨b,k,none⟩)) {vs:Array Value} (hT:rowB P T n=true) (hn:vs.size=n) (hv:∀ j,j<n→w.cell? ⟨b,k+j,none⟩=vs[j]?)
  (h:wpList P ops Q rest (a.put o.dst (.agg vs)) w):wpList P ops Q (o::rest) a w :=
 own_pure hg (run_loadK ho hx hT hn hv) h
theorem run_load1K {T:TypeId} {x:Operand} (ho:o.op=.load T x) {ad:Addr} (hx:a.eval x=.pointer (some ad)) (hT:oneB P T=true) {v:Value} (hv:w.cell? ad=some v) :
  (execOp a.eval o).run P w=.ok (.value v) w:=by
 unfold execOp;simp only[ho,hx,Instr.loadAt,Instr.sureAddr,Sem.run_bind,Sem.run_pure,Result.andThen_ok,run_loadVar_one hT hv]
theorem own_load1K (hg:Region.wanted o (yielded ops a.tmps)=true) (T:TypeId) (x:Operand) (ho:o.op=.load T x) {ad:Addr} (hx:a.eval x=.pointer (some ad)) (hT:oneB P T=true) {v:Value} (hv:w.cell? ad=some v)
  (h:wpList P ops Q rest (a.put o.dst v) w):wpList P ops Q (o::rest) a w :=
 own_pure hg (run_load1K ho hx hT hv) h
theorem HoldG.rowCell (H:HoldG M w0 w l) {i g n cap sz:Nat} {e:TypeId} {rows:List (Array Value)} (hi:At l i (.row (.slice (some ⟨g,0,none⟩) n cap) e sz n (flatR rows))) (hs:∀ r ∈ rows,r.size=sz) (hl:rows.length=n) {j:Nat} {r:Array Value} (hj:rows[j]?=some r) {q:Nat} (hq:j * sz=q) :
  ∀ k,k<sz→w.cell? ⟨g,q+k,none⟩=r[k]?:=by
 subst hq;intro k hk;have h:=RdN.of_own (V:=w) (H.all i _ hi.get) hs hl (fun _ _=>rfl)
 obtain⟨p,c,e1,_,_,_,h3⟩:=h;obtain⟨b,off,e2,_,_,h4⟩:=h3 j r hj
 cases e1;cases e2
 have:=h4 k hk
 rwa [Nat.zero_add]at this
theorem segSize:∀ (vs:List Value) (cs:Array Value) (k:Nat),(setSeg cs k vs).size=cs.size
 | [],_,_=>rfl
 | v::r,cs,k=>by
  show (setSeg (cs.setIfInBounds k v) (k+1) r).size=_
  rw[segSize r];simp
theorem flatR_set {sz:Nat} {rows:List (Array Value)} (hs:∀ r ∈ rows,r.size=sz) {vs:Array Value} (hv:vs.size=sz) {i:Nat} (hi:i<rows.length):(setSeg (flatR rows).toArray (i * sz) vs.toList).toList=flatR (rows.set i vs):=by
 have hs':∀ r ∈ rows.set i vs,r.size=sz:=fun r hr=>(List.mem_or_eq_of_mem_set hr).elim (hs r) (fun e=>e ▸ hv)
 have hz:0<sz∨sz=0:=by omega
 apply List.ext_getElem?;intro j;rw[Array.getElem?_toList,setSeg_get];simp only[Array.length_toList,List.size_toArray,List.getElem?_toArray,hv,flatR_len hs];rcases hz with hz|hz
 ·by_cases hj:j<rows.length * sz
  ·have hd:j=j / sz * sz+j % sz:=by rw[Nat.mul_comm];exact(Nat.div_add_mod j sz).symm
   have hm:j % sz<sz:=Nat.mod_lt _ hz;have hq:j / sz<rows.length:=Nat.div_lt_of_lt_mul (by rw[Nat.mul_comm];exact hj)
   by_cases e:j / sz=i
   ·rw[if_pos ⟨by rw[← e];omega,by rw[← e];omega,hj⟩]
    have h2:=flatR_get hs' (j:=i) (r:=vs) (k:=j % sz) (by rw[List.getElem?_set];simp[hi]) hm
    rw[show i * sz+j % sz=j from by rw[← e];omega]at h2
    rw[h2,Array.getElem?_toList,show j - i * sz=j % sz from by rw[← e];omega]
   ·rw[if_neg (fun h=>e (by
     have h1:=h.1;have h2:=h.2.1;have a1:i≤j / sz:=(Nat.le_div_iff_mul_le hz).2 h1;have a2:j / sz<i+1:=Nat.div_lt_of_lt_mul (by rw[Nat.mul_comm,Nat.succ_mul];exact h2)
     omega))]
    have hr:rows[j / sz]?=some rows[j / sz]:=List.getElem?_eq_getElem hq;have h1:=flatR_get hs hr hm;have h2:=flatR_get hs' (j:=j / sz) (r:=rows[j / sz]) (k:=j % sz) (by rw[List.getElem?_set,if_neg (fun e'=>e e'.symm)];exact hr) hm
    rw[← hd]at h1 h2;rw[h1,h2]
  ·rw[if_neg (fun h=>hj h.2.2),List.getElem?_eq_none (by rw[flatR_len hs];omega),List.getElem?_eq_none (by rw[flatR_len hs',List.length_set];omega)]
 ·subst hz;have e1:flatR rows=[]:=List.length_eq_zero_iff.1 (by rw[flatR_len hs,Nat.mul_zero])
  have e2:flatR (rows.set i vs)=[]:=List.length_eq_zero_iff.1 (by rw[flatR_len hs',Nat.mul_zero])
  rw[e1,e2];simp
theorem own_storeRowR (hg:Region.wanted o (yielded ops a.tmps)=true) (T:TypeId) (x y:Operand) (ho:o.op=.store T x y) {g i sz n cap q:Nat} (hx:a.eval x=.pointer (some ⟨g,q,none⟩)) (hq:i * sz=q) {vs:Array Value} (hy:a.eval y=.agg vs) (H:HoldG M w0 w l) {j:Nat} {e:TypeId} {rows:List (Array Value)}
  (hi:At l j (.row (.slice (some ⟨g,0,none⟩) n cap) e sz n (flatR rows))) (hs:∀ r ∈ rows,r.size=sz) (hl:rows.length=n)
  (hT:sizeB P T sz=true) (hv:vs.size=sz) (h1:vs.toList.all (·.oneCell')=true) (hin:i<n) (h:∀ w',HoldG M w0 w' (l.set j (.row (.slice (some ⟨g,0,none⟩) n cap) e sz n (flatR (rows.set i vs))))→wpList P ops Q rest (a.put o.dst undef) w'):wpList P ops Q (o::rest) a w :=
 wpList_wanted hg fun _ hK=>by
  subst hq hl;have hs':∀ r ∈ rows.set i vs,r.size=sz:=fun r hr=>(List.mem_or_eq_of_mem_set hr).elim (hs r) (fun e=>e ▸ hv)
  obtain⟨hlen,⟨hv',_⟩|⟨g',cap',cur,hv',hb,hg',hn,hc,hsz,ht⟩⟩:=H.all j _ hi.get
  ·cases hv'
  ·cases hv'
   have hm1:(i+1) * sz≤rows.length * sz:=Nat.mul_le_mul_right _ hin;have hm2:rows.length * sz≤cap * sz:=Nat.mul_le_mul_right _ hn;have hm3:(i+1) * sz=i * sz+sz:=Nat.succ_mul i sz;have hth:w.there g (i * sz) vs.size:=fun q hq=>by
    rw[cell_of_row w g (i * sz+q) cur e (0,0) hg'];simp[World.frozen?,hg'];omega
   unfold Oper.wp execOp;simp only[ho,hx,hy,Instr.storeAt,Instr.sureAddr,Sem.run_bind,Sem.run_pure,Result.andThen_ok,run_storeVar_mid (P:=P) w g (i * sz) T vs hth (by subst hv;simpa [sizeB] using hT) (by rw[Array.all_toList]at h1;exact h1)]
   have hh:=heap_setCells vs.toList (i * sz) w g cur e _ hg';refine hK _ _ (h _ (H.upd hi.get (setCells_grown vs.toList (i * sz) w g) ⟨?_,.inr ⟨g,cap,_,rfl,hb,hh,hn,hc,?_,?_⟩⟩ (fun _ e=>.inl e)))
   ·rw[flatR_len hs',List.length_set]
   ·rw[segSize,hsz]
   ·rw[← flatR_set hs hv hin];have hfl:(flatR rows).length=rows.length * sz:=flatR_len hs;apply List.ext_getElem?;intro q;rw[List.getElem?_take,Array.getElem?_toList,Array.getElem?_toList,setSeg_get,setSeg_get];simp only[Array.length_toList,List.size_toArray,List.getElem?_toArray,hfl,hsz];have hcur:q<rows.length * sz→cur[q]?=(flatR rows)[q]?:=fun hq=>by
     rw[← ht,List.getElem?_take,if_pos hq,Array.getElem?_toList]
    by_cases hq:q<rows.length * sz
    ·rw[if_pos hq]
     by_cases hc1:i * sz≤q∧q<i * sz+vs.size∧q<cap * sz
     ·rw[if_pos hc1,if_pos ⟨hc1.1,hc1.2.1,hq⟩]
     ·rw[if_neg hc1,if_neg (fun h'=>hc1 ⟨h'.1,h'.2.1,by omega⟩),hcur hq]
    ·rw[if_neg hq,if_neg (fun h'=>hq h'.2.2),List.getElem?_eq_none (by omega)]
end
theorem ownsRow_cut {w:World} {base:Nat} {e:TypeId} {sz g n cap m:Nat} {xs:List Value} (h:w.ownsRow base e sz (.slice (some ⟨g,0,none⟩) n cap) n xs) (hm:m≤n):w.ownsRow base e sz (.slice (some ⟨g,0,none⟩) m cap) m (xs.take (m * sz)):=by
 have hmn:m * sz≤n * sz:=Nat.mul_le_mul_right _ hm;obtain⟨hl,⟨hv,_⟩|⟨g',cap',cur,hv,hb,hg,hn,hc,hsz,ht⟩⟩:=h
 ·cases hv
 ·cases hv
  refine⟨by rw[List.length_take];omega,.inr ⟨g,cap,cur,rfl,hb,hg,by omega,hc,hsz,?_⟩⟩
  rw[← ht,List.take_take,Nat.min_eq_left hmn]
section
variable {M:Nat→Prop} {w0 w:World} {l:List Res}
theorem HoldG.cutRow (H:HoldG M w0 w l) {i g n cap m sz:Nat} {e:TypeId} {xs:List Value} (hi:At l i (.row (.slice (some ⟨g,0,none⟩) n cap) e sz n xs)) (hm:m≤n):HoldG M w0 w (l.set i (.row (.slice (some ⟨g,0,none⟩) m cap) e sz m (xs.take (m * sz)))) :=
 H.upd hi.get ⟨rfl,rfl,rfl,Nat.le_refl _,fun _ _ _=>rfl⟩ (ownsRow_cut (H.all i _ hi.get) hm) (fun _ e=>.inl e)
theorem HoldG.row1 (H:HoldG M w0 w l) {i g n cap:Nat} {e:TypeId} {xs:List Value} (hi:At l i (.row (.slice (some ⟨g,0,none⟩) n cap) e 1 n xs)) {j:Nat} {v:Value} (hj:xs[j]?=some v):w.cell? ⟨g,j,none⟩=some v:=by
 rcases Rd.of_own (H.all i _ hi.get) with ⟨_,h⟩|⟨b,off,cap',e1,_,_,_,h4⟩
 ·subst h;simp at hj
 ·obtain⟨hlt,rfl⟩:=List.getElem?_eq_some_iff.1 hj;injection e1 with e2 e3 e4
  injection e2 with e2
  injection e2 with e2 e5
  subst e2 e5
  simpa using h4 j hlt
theorem HoldG.rowShape (H:HoldG M w0 w l) {i n sz:Nat} {e:TypeId} {v:Value} {xs:List Value} (hi:At l i (.row v e sz n xs)):∃ q cap,v=.slice q n cap∧n≤cap∧cap≤maxLen∧(0<n→∃ g,q=some ⟨g,0,none⟩):=by
 obtain⟨_,⟨hv,hn⟩|⟨g,cap,cur,hv,_,_,hn,hc,_⟩⟩:=H.all i _ hi.get
 ·exact⟨none,0,by rw[hv,hn],by omega,by simp,fun h=>by omega⟩
 ·exact⟨_,cap,hv,hn,hc,fun _=>⟨g,rfl⟩⟩
end
section
variable {M:Nat→Prop} {w0 W:World} {l:List Res}
theorem HoldG.restG (H:HoldG M w0 W l) {i:Nat} {r:Res} (hi:At l i r) (G:Nat→Prop) (S:World→Prop) (hG:∀ b,G b→r.foot b∨∃ (j:Nat) (s:Res),l[j]?=some s∧s.place=none∧s.foot b) (hS:∀ V:World,(∀ b,G b→V.heap[b]?=W.heap[b]?)→S V):HoldG M w0 W (l.set i (.kn G S)):=by
 have hil:i<l.length:=(List.getElem?_eq_some_iff.1 hi.get).1;refine⟨H.keep,fun j s hs=>?_,fun j k s t hjk hs ht=>?_⟩
 ·rw[List.getElem?_set]at hs;split at hs
  ·rename_i e;subst e;cases hs
   refine⟨fun b hb=>?_,hS⟩
   rcases hG b hb with h|⟨j,s,hj,_,h⟩
   ·exact(H.all _ r hi.get).ltf b h
   ·exact(H.all j s hj).ltf b h
  ·exact H.all j s hs
 ·rw[List.getElem?_set]at hs ht;split at hs
  ·rename_i e;subst e;cases hs
   intro b hb;cases hb
  ·rename_i hne;split at ht
   ·rename_i e;subst e;cases ht
    intro b hb hf;rcases hG b hf with h|⟨z,u,hz,hu,h⟩
    ·exact H.apart j i s r hjk hs hi.get b hb h
    ·by_cases e:j=z
     ·subst e;rw[hs]at hz;cases hz;rw[hu]at hb;cases hb
     ·exact H.apart j z s u e hs hz b hb h
   ·exact H.apart j k s t hjk hs ht
end
structure NodeD where
 kind:Int
 set:Nat→Nat:=emptyS
 lo:Int:=0
 hi:Int:=0
 lazy:Bool:=false
 group:Int:=0
inductive Tree where
 | mk (d:NodeD) (kids:List Tree)
def Tree.d:Tree→NodeD|.mk d _=>d
def Tree.kids:Tree→List Tree|.mk _ k=>k
mutual
def sizeT:Tree→Nat
 | .mk _ ks=>1+sizeTs ks
def sizeTs:List Tree→Nat
 | []=>0
 | t::r=>sizeT t+sizeTs r
end
mutual
def deepT:Tree→Nat
 | .mk _ ks=>deepTs ks+1
def deepTs:List Tree→Nat
 | []=>0
 | t::r=>max (deepT t) (deepTs r)
end
theorem sizeT_eq (t:Tree):sizeT t=1+sizeTs t.kids:=by cases t;simp[sizeT,Tree.kids]
theorem sizeT_pos (t:Tree):0<sizeT t:=by rw[sizeT_eq];omega
theorem sizeTs_append:∀ (a b:List Tree),sizeTs (a++b)=sizeTs a+sizeTs b
 | [],b=>by simp[sizeTs]
 | t::r,b=>by simp only[List.cons_append,sizeTs];rw[sizeTs_append r b];omega
theorem deepTs_append:∀ (a b:List Tree),deepTs (a++b)=max (deepTs a) (deepTs b)
 | [],b=>by simp[deepTs]
 | t::r,b=>by simp only[List.cons_append,deepTs];rw[deepTs_append r b];omega
theorem sizeTs_one (t:Tree):sizeTs [t]=sizeT t:=by simp[sizeTs]
theorem deepTs_one (t:Tree):deepTs [t]=deepT t:=by simp[deepTs]
theorem take_get {α:Type} {l:List α} {i:Nat} {x:α} (h:l[i]?=some x):l.take (i+1)=l.take i++[x]:=by
 rw[List.take_add_one,h];rfl
theorem sizeTs_take {ts:List Tree} {i:Nat} {t:Tree} (h:ts[i]?=some t):sizeTs (ts.take (i+1))=sizeTs (ts.take i)+sizeT t:=by
 rw[take_get h,sizeTs_append,sizeTs_one]
theorem deepTs_take {ts:List Tree} {i:Nat} {t:Tree} (h:ts[i]?=some t):deepTs (ts.take (i+1))=max (deepTs (ts.take i)) (deepT t):=by
 rw[take_get h,deepTs_append,deepTs_one]
theorem sizeTs_mem {ts:List Tree} {i:Nat} {t:Tree} (h:ts[i]?=some t):sizeTs (ts.take i)+sizeT t≤sizeTs ts:=by
 rw[← sizeTs_take h]
 conv=>rhs;rw[← List.take_append_drop (i+1) ts,sizeTs_append]
 omega
theorem len_sizeTs:∀ ts:List Tree,ts.length≤sizeTs ts
 | []=>by simp
 | t::r=>by have:=len_sizeTs r;have:=sizeT_pos t;simp only[List.length_cons,sizeTs];omega
mutual
theorem deep_size:∀ t:Tree,deepT t≤sizeT t
 | .mk d ks=>by have:=deeps_size ks;simp only[deepT,sizeT];omega
theorem deeps_size:∀ ts:List Tree,deepTs ts≤sizeTs ts
 | []=>by simp[deepTs]
 | t::r=>by have:=deep_size t;have:=deeps_size r;simp only[deepTs,sizeTs];omega
end
def nodeC (d:NodeD) (s:Value):Array Value:=#[.int .i64 d.kind,.int .u64 (d.set 0),.int .u64 (d.set 1),.int .u64 (d.set 2),.int .u64 (d.set 3),s,.int .i64 d.lo,.int .i64 d.hi,.bool d.lazy,.int .i64 d.group]
theorem ng0 (d:NodeD) (s:Value):(nodeC d s)[0]?=some (.int .i64 d.kind):=rfl
theorem ng1 (d:NodeD) (s:Value):(nodeC d s)[1]?=some (.int .u64 (d.set 0)):=rfl
theorem ng2 (d:NodeD) (s:Value):(nodeC d s)[2]?=some (.int .u64 (d.set 1)):=rfl
theorem ng3 (d:NodeD) (s:Value):(nodeC d s)[3]?=some (.int .u64 (d.set 2)):=rfl
theorem ng4 (d:NodeD) (s:Value):(nodeC d s)[4]?=some (.int .u64 (d.set 3)):=rfl
theorem ng5 (d:NodeD) (s:Value):(nodeC d s)[5]?=some s:=rfl
theorem ng6 (d:NodeD) (s:Value):(nodeC d s)[6]?=some (.int .i64 d.lo):=rfl
theorem ng7 (d:NodeD) (s:Value):(nodeC d s)[7]?=some (.int .i64 d.hi):=rfl
theorem ng8 (d:NodeD) (s:Value):(nodeC d s)[8]?=some (.bool d.lazy):=rfl
theorem ng9 (d:NodeD) (s:Value):(nodeC d s)[9]?=some (.int .i64 d.group):=rfl
abbrev nodeV (d:NodeD) (s:Value):Value:=.agg (nodeC d s)
abbrev nilS:Value:=.slice none 0 0
abbrev TV:=Tree × Option Addr × Nat
abbrev nodeX (x:TV):Array Value:=nodeC x.1.d (.slice x.2.1 x.1.kids.length x.2.2)
theorem nodeX_size (x:TV):(nodeX x).size=10:=rfl
theorem nodesX_size (xs:List TV):∀ r ∈ xs.map nodeX,r.size=10:=by
 intro r hr;obtain⟨x,_,rfl⟩:=List.mem_map.1 hr;rfl
inductive ForestR (W:World) (F:Nat→Prop):Option Addr→Nat→List Tree→Prop where
 | mk (p:Option Addr) (c:Nat) (ts:List Tree) (xs:List TV) (h:RdN 10 W F (.slice p ts.length c) (xs.map nodeX)) (hk:∀ x ∈ xs,ForestR W F x.2.1 x.2.2 x.1.kids) (e:ts=xs.map (·.1)):ForestR W F p c ts
theorem ForestR.kept {W V:World} {F:Nat→Prop} {p:Option Addr} {c:Nat} {ts:List Tree} (h:ForestR W F p c ts) (hk:∀ b,F b→V.heap[b]?=W.heap[b]?):ForestR V F p c ts:=by
 induction h with
 | mk p c ts xs h _ e ih=>exact .mk p c ts xs (h.kept hk) ih e
theorem ForestR.mono {W:World} {F G:Nat→Prop} {p:Option Addr} {c:Nat} {ts:List Tree} (h:ForestR W F p c ts) (hFG:∀ b,F b→G b):ForestR W G p c ts:=by
 induction h with
 | mk p c ts xs h _ e ih=>exact .mk p c ts xs (h.mono hFG) ih e
theorem ForestR.nil (W:World) (F:Nat→Prop) (p:Option Addr):ForestR W F p 0 []:=.mk _ _ _ [] (RdN.nil ..) (fun _ h=>by cases h) rfl
def ListR (W:World) (F:Nat→Prop) (xs:List TV):Prop:=∀ x ∈ xs,ForestR W F x.2.1 x.2.2 x.1.kids
theorem ListR.kept {W V:World} {F:Nat→Prop} {xs:List TV} (h:ListR W F xs) (hk:∀ b,F b→V.heap[b]?=W.heap[b]?):ListR V F xs:=fun x hx=>(h x hx).kept hk
theorem ListR.mono {W:World} {F G:Nat→Prop} {xs:List TV} (h:ListR W F xs) (hFG:∀ b,F b→G b):ListR W G xs:=fun x hx=>(h x hx).mono hFG
theorem ListR.append {W:World} {F:Nat→Prop} {xs ys:List TV} (h:ListR W F xs) (k:ListR W F ys):ListR W F (xs++ys):=fun x hx=>(List.mem_append.1 hx).elim (h x) (k x)
theorem ListR.nil (W:World) (F:Nat→Prop):ListR W F []:=fun _ h=>by cases h
theorem ListR.one {W:World} {F:Nat→Prop} {t:Tree} {p:Option Addr} {c:Nat} (h:ForestR W F p c t.kids):ListR W F [(t,p,c)]:=fun x hx=>by
 rw[List.mem_singleton]at hx;subst hx;exact h
theorem ForestR.open {W:World} {F:Nat→Prop} {p:Option Addr} {c:Nat} {ts:List Tree} (h:ForestR W F p c ts):∃ xs:List TV,RdN 10 W F (.slice p xs.length c) (xs.map nodeX)∧ListR W F xs∧ts=xs.map (·.1):=by
 cases h with
 | mk p c ts xs h hk e =>
  have hl:ts.length=xs.length:=by rw[e,List.length_map]
  rw[hl]at h;exact⟨xs,h,hk,e⟩
def TreeOut (w:World) (G:Nat→Prop) (t:Tree) (e:Ending) (w':World):Prop :=
 ∃ p c F,e=.returned (nodeV t.d (.slice p t.kids.length c))∧ForestR w' F p c t.kids∧∀ b,F b→b<w'.heap.size∧(w.heap.size≤b∨G b)
def caseTo (s:Nat→Nat):Nat→(Nat→Nat)
 | 0=>s
 | n+1=>if hasB s (97+n) || hasB s (65+n) then addS (addS (caseTo s n) (97+n)) (65+n) else caseTo s n
def caseS (s:Nat→Nat):Nat→Nat:=caseTo s 26
theorem caseTo_ok {s:Nat→Nat} (hs:SetOk s):∀ n,SetOk (caseTo s n)
 | 0=>hs
 | n+1=>by
  unfold caseTo;split
  ·exact addS_ok (addS_ok (caseTo_ok hs n) _) _
  ·exact caseTo_ok hs n
abbrev FlagsD:=Bool × Bool × Bool
def flagsC (f:FlagsD):Array Value:=#[.bool f.1,.bool f.2.1,.bool f.2.2]
abbrev flagsV (f:FlagsD):Value:=.agg (flagsC f)
theorem fg0 (f:FlagsD):(flagsC f)[0]?=some (.bool f.1):=rfl
theorem fg1 (f:FlagsD):(flagsC f)[1]?=some (.bool f.2.1):=rfl
theorem fg2 (f:FlagsD):(flagsC f)[2]?=some (.bool f.2.2):=rfl
def leafT (k:Int):Tree:=.mk {kind:=k} []
def rowT (k:Int) (ts:List Tree):Tree:=match ts with
 | []=>leafT 1
 | [t]=>t
 | _=>.mk {kind:=k} ts
def turnP (f:FlagsD) (w:WordD):FlagsD:=((f.1 || w.on.1)&&!w.off.1,(f.2.1 || w.on.2.1)&&!w.off.2.1,(f.2.2 || w.on.2.2)&&!w.off.2.2)
def setT (s:Nat→Nat):Tree:=if eqS s emptyS then leafT 2 else .mk {kind:=3,set:=s} []
def spotT (f:FlagsD) (a b:Int):Tree:=leafT (if f.2.1 then b else a)
def atomP (w:WordD) (f:FlagsD):Tree :=
 if w.kind=1 then
  let s:=if f.1 then caseS w.set else w.set
  setT (if w.neg then notS s else s)
 else if w.kind=2 then (if f.2.2 then setT (rangeS 0 256) else setT (notS (ofS [10])))
 else if w.kind=3 then spotT f 8 10
 else if w.kind=4 then spotT f 9 11
 else leafT w.spot
def opensP (w:WordD):Bool:=w.kind == 6 || w.kind == 7
def repT (w:WordD) (t:Tree):Tree:=.mk {kind:=6,lo:=w.lo,hi:=w.hi,lazy:=w.lazy} [t]
def groupT (k:Nat) (t:Tree):Tree:=.mk {kind:=7,group:=k} [t]
def altsP:Nat→FlagsD→List WordD→Nat→List Tree→List Tree→Option (Tree × List WordD × Nat)
 | 0,_,_,_,_,_=>none
 | _+1,_,[],g,all,items=>some (rowT 5 (all++[rowT 4 items]),[],g)
 | n+1,f,w::r,g,all,items =>
  if w.kind=9 then some (rowT 5 (all++[rowT 4 items]),w::r,g)
  else if w.kind=8 then altsP n (turnP f w) r g all items
  else if w.kind=10 then altsP n f r g (all++[rowT 4 items]) []
  else if w.kind=11 then
   match items.getLast? with
   | none=>none
   | some last=>altsP n f r g all (items.dropLast++[repT w last])
  else if w.kind=7 then
   match altsP n (turnP f w) r g [] [] with
   | some (t,_::r',g')=>altsP n f r' g' all (items++[t])
   | _=>none
  else if w.kind=6 then
   match altsP n f r (g+1) [] [] with
   | some (t,_::r',g')=>altsP n f r' g' all (items++[groupT (g+1) t])
   | _=>none
  else altsP n f r g all (items++[atomP w f])
def wrongGo:Bool→List Nat→List WordD→Option Nat
 | _,open_,[]=>open_.getLast?
 | bare,open_,w::r =>
  if w.kind=11∧bare=true∨w.kind=9∧open_=[] then some w.place
  else
   let o:=if opensP w then open_++[w.place] else open_
   wrongGo (opensP w || w.kind == 8 || w.kind == 10 || w.kind == 11) (if w.kind=9 then o.dropLast else o) r
def wrongP (l:List WordD):Option Nat:=wrongGo true [] l
def bareW (w:WordD):Bool:=opensP w || w.kind == 8 || w.kind == 10 || w.kind == 11
def bareAt (ws:List WordD):Nat→Bool
 | 0=>true
 | j+1=>match ws[j]? with|some w=>bareW w|none=>true
theorem bareAt_succ {ws:List WordD} {j:Nat} {w:WordD} (h:ws[j]?=some w):bareAt ws (j+1)=bareW w:=by simp[bareAt,h]
theorem drop_cons {α:Type} {ws:List α} {j:Nat} {w:α} (h:ws[j]?=some w):ws.drop j=w::ws.drop (j+1):=by
 obtain⟨hlt,rfl⟩:=List.getElem?_eq_some_iff.1 h;exact List.drop_eq_getElem_cons hlt
theorem wrong_hit {bare:Bool} {op:List Nat} {ws:List WordD} {j:Nat} {w:WordD} (h:ws[j]?=some w) (hc:w.kind=11∧bare=true∨w.kind=9∧op=[]):wrongGo bare op (ws.drop j)=some w.place:=by
 rw[drop_cons h,wrongGo,if_pos hc]
theorem wrong_on {bare:Bool} {op:List Nat} {ws:List WordD} {j:Nat} {w:WordD} (h:ws[j]?=some w) (hc:¬ (w.kind=11∧bare=true∨w.kind=9∧op=[])) (ho:opensP w=false) (h9:w.kind≠9) :
  wrongGo bare op (ws.drop j)=wrongGo (bareAt ws (j+1)) op (ws.drop (j+1)):=by
 rw[drop_cons h,wrongGo,if_neg hc,bareAt_succ h];simp[ho,h9,bareW]
theorem wrong_open {bare:Bool} {op:List Nat} {ws:List WordD} {j:Nat} {w:WordD} (h:ws[j]?=some w) (ho:opensP w=true):wrongGo bare op (ws.drop j)=wrongGo (bareAt ws (j+1)) (op++[w.place]) (ws.drop (j+1)):=by
 have hk:w.kind=6∨w.kind=7:=by simpa [opensP] using ho
 rw[drop_cons h,wrongGo,if_neg (by omega),bareAt_succ h]
 have h9:w.kind≠9:=by omega
 simp[ho,h9,bareW]
theorem wrong_close {bare:Bool} {op:List Nat} {ws:List WordD} {j:Nat} {w:WordD} (h:ws[j]?=some w) (h9:w.kind=9) (hne:op≠[]):wrongGo bare op (ws.drop j)=wrongGo (bareAt ws (j+1)) op.dropLast (ws.drop (j+1)):=by
 have ho:opensP w=false:=by simp[opensP,h9]
 rw[drop_cons h,wrongGo,if_neg (by simp[h9,hne]),bareAt_succ h]
 simp[ho,h9,bareW]
theorem wrong_end {bare:Bool} {op:List Nat} {ws:List WordD} {j:Nat} (h:ws.length≤j):wrongGo bare op (ws.drop j)=op.getLast?:=by
 rw[List.drop_eq_nil_of_le h,wrongGo]
end Go.Proofs.YtdoflhjhaciepaaGreat
namespace Go.Proofs.YtdoflhjhaciepaaGreat
open Go.RowKit Go.Shelf
theorem one_int:oneB Tryz.prog 3=true:=by kernel_rfl
theorem one_u8:oneB Tryz.prog 5=true:=by kernel_rfl
theorem one_bool:oneB Tryz.prog 4=true:=by kernel_rfl
theorem one_spot:oneB Tryz.prog 41=true:=by kernel_rfl
theorem row_Set:rowB Tryz.prog 40 4=true:=by kernel_rfl
theorem row_Word:rowB Tryz.prog 226 17=true:=by kernel_rfl
theorem zSet:zeroC Tryz.prog 40=setC emptyS:=by kernel_rfl
theorem zWord:zeroC Tryz.prog 226=wordC {kind:=0,place:=0}:=by kernel_rfl
theorem one_kids:oneB Tryz.prog 85=true:=by kernel_rfl
theorem one_rwords:oneB Tryz.prog 132=true:=by kernel_rfl
theorem one_ikind:oneB Tryz.prog 37=true:=by kernel_rfl
theorem one_ints:oneB Tryz.prog 27=true:=by kernel_rfl
theorem one_insts:oneB Tryz.prog 22=true:=by kernel_rfl
theorem one_bools:oneB Tryz.prog 108=true:=by kernel_rfl
theorem one_bytes:oneB Tryz.prog 23=true:=by kernel_rfl
theorem row_Node:rowB Tryz.prog 87 10=true:=by kernel_rfl
theorem row_Flags:rowB Tryz.prog 92 3=true:=by kernel_rfl
theorem zNode:zeroC Tryz.prog 87=nodeC {kind:=0} nilS:=by kernel_rfl
theorem zFlags:zeroC Tryz.prog 92=flagsC (false,false,false):=by kernel_rfl
theorem zInt:zeroC Tryz.prog 3=#[.int .i64 0]:=by kernel_rfl
theorem zErrno:zeroC Tryz.prog 88=#[.int .i64 0]:=by kernel_rfl
theorem nrm:zeroC Tryz.prog 40=setC emptyS∧zeroC Tryz.prog 226=wordC {kind:=0,place:=0}∧zeroC Tryz.prog 87=nodeC {kind:=0} nilS∧zeroC Tryz.prog 92=flagsC (false,false,false)∧zeroC Tryz.prog 3=#[.int .i64 0]∧zeroC Tryz.prog 88=#[.int .i64 0]:=⟨zSet,zWord,zNode,zFlags,zInt,zErrno⟩
theorem nrl {α:Type}:(∀ (a:α) (l r:List α),a::l++r=a::(l++r))∧(∀ l:List α,[]++l=l)∧(∀ l:List α,l++[]=l)∧(∀ (a b:α) (l:List α),(a::l).set 0 b=b::l)∧(∀ (a b:α) (l:List α) (n:Nat),(a::l).set (n+1) b=a::l.set n b)∧∀ (a:α) (l:List α) (n:Nat),l.toArray.setIfInBounds n a=(l.set n a).toArray :=
 ⟨fun _ _ _=>rfl,fun _=>rfl,List.append_nil,fun _ _ _=>rfl,fun _ _ _ _=>rfl,fun _ _ _=>List.setIfInBounds_toArray ..⟩
theorem nr:(zeroC Tryz.prog 40=setC emptyS∧zeroC Tryz.prog 226=wordC {kind:=0,place:=0}∧zeroC Tryz.prog 87=nodeC {kind:=0} nilS∧zeroC Tryz.prog 92=flagsC (false,false,false)∧zeroC Tryz.prog 3=#[.int .i64 0]∧zeroC Tryz.prog 88=#[.int .i64 0])∧(∀ {α:Type},(∀ (a:α) (l r:List α),a::l++r=a::(l++r))∧(∀ l:List α,[]++l=l)∧(∀ l:List α,l++[]=l)∧(∀ (a b:α) (l:List α),(a::l).set 0 b=b::l)∧(∀ (a b:α) (l:List α) (n:Nat),(a::l).set (n+1) b=a::l.set n b)∧∀ (a:α) (l:List α) (n:Nat),l.toArray.setIfInBounds n a=(l.set n a).toArray)∧(∀ (k:IntKind) (n:Int),(Value.int k n).cells=#[Value.int k n])∧(∀ (b:Bool),(Value.bool b).cells=#[Value.bool b])∧(∀ (s:ByteArray),(Value.string s).cells=#[Value.string s])∧(∀ (p:Option Addr),(Value.pointer p).cells=#[Value.pointer p])∧(∀ (p:Option Addr) (n c:Nat),(Value.slice p n c).cells=#[Value.slice p n c])∧(∀ (r:Option Nat),(Value.map r).cells=#[Value.map r])∧∀ cs:Array Value,(Value.agg cs).cells=cs :=
 ⟨nrm,nrl,fun _ _=>rfl,fun _=>rfl,fun _=>rfl,fun _=>rfl,fun _ _ _=>rfl,fun _=>rfl,fun _=>rfl⟩
theorem ch {M:Nat→Prop} {P:Program} {f:FuncId} {args:Array Value} {w w0:World} {l:List Res} {e0:Ending} {R:Ending→World→Prop} (c:Calls P f args w fun e w'=>e=e0∧Below w.heap.size w w') (H:HoldG M w0 w l)
  (k:∀ w',HoldG M w0 w' l→R e0 w'):Calls P f args w R:=c.mono fun _ w' h=>h.1 ▸ k w' (H.call h.2)
section
variable {M:Nat→Prop} {ops:Array Oper} {dst:Option Tmp} {ty:TypeId} {pos:String} {aft:Array Edge} {grd:Option (Nat × Bool)} {rest:List Oper} {a:Act} {w w0:World} {l:List Res} {Q:Exit→Act→World→Prop}
theorem gT {T:TypeId} {x y:Operand} (h:wpList Tryz.prog ops Q ((⟨dst,.store T x y,ty,pos,aft,grd⟩:Oper)::rest) a w):wpList Tryz.prog ops Q ((⟨dst,.store T x y,ty,pos,aft,grd⟩:Oper)::rest) a w:=h
theorem gL {T:TypeId} {x:Operand} (h:wpList Tryz.prog ops Q ((⟨dst,.load T x,ty,pos,aft,grd⟩:Oper)::rest) a w):wpList Tryz.prog ops Q ((⟨dst,.load T x,ty,pos,aft,grd⟩:Oper)::rest) a w:=h
theorem gX {T:TypeId} {x:Operand} (h:wpList Tryz.prog ops Q ((⟨dst,.box T x,ty,pos,aft,grd⟩:Oper)::rest) a w):wpList Tryz.prog ops Q ((⟨dst,.box T x,ty,pos,aft,grd⟩:Oper)::rest) a w:=h
theorem gA {T:TypeId} (h:wpList Tryz.prog ops Q ((⟨dst,.alloc T,ty,pos,aft,grd⟩:Oper)::rest) a w):wpList Tryz.prog ops Q ((⟨dst,.alloc T,ty,pos,aft,grd⟩:Oper)::rest) a w:=h
theorem gZ {T:TypeId} {parts:Array (Nat × Operand)} (h:wpList Tryz.prog ops Q ((⟨dst,.build T parts,ty,pos,aft,grd⟩:Oper)::rest) a w):wpList Tryz.prog ops Q ((⟨dst,.build T parts,ty,pos,aft,grd⟩:Oper)::rest) a w:=h
theorem gI {T:TypeId} {x y:Operand} (h:wpList Tryz.prog ops Q ((⟨dst,.index T x y,ty,pos,aft,grd⟩:Oper)::rest) a w):wpList Tryz.prog ops Q ((⟨dst,.index T x y,ty,pos,aft,grd⟩:Oper)::rest) a w:=h
theorem gC {T:TypeId} {x y z:Operand} (h:wpList Tryz.prog ops Q ((⟨dst,.slice T x (some y) (some z) none,ty,pos,aft,grd⟩:Oper)::rest) a w):wpList Tryz.prog ops Q ((⟨dst,.slice T x (some y) (some z) none,ty,pos,aft,grd⟩:Oper)::rest) a w:=h
theorem gE {T U:TypeId} {x y:Operand} (h:wpList Tryz.prog ops Q ((⟨dst,.binOp .eql T x y U,ty,pos,aft,grd⟩:Oper)::rest) a w):wpList Tryz.prog ops Q ((⟨dst,.binOp .eql T x y U,ty,pos,aft,grd⟩:Oper)::rest) a w:=h
theorem kgX (k:Tmp) {T:TypeId} {x:Operand} (h:wpList Tryz.prog ops Q ((⟨some k,.box T x,ty,pos,aft,grd⟩:Oper)::rest) a w):wpList Tryz.prog ops Q ((⟨some k,.box T x,ty,pos,aft,grd⟩:Oper)::rest) a w:=h
theorem kgA (k:Tmp) {T:TypeId} (h:wpList Tryz.prog ops Q ((⟨some k,.alloc T,ty,pos,aft,grd⟩:Oper)::rest) a w):wpList Tryz.prog ops Q ((⟨some k,.alloc T,ty,pos,aft,grd⟩:Oper)::rest) a w:=h
theorem aS (H:HoldG M w0 w l) {T:TypeId} {x y:Operand} {i b:Nat} {cs:Array Value} {U:TypeId} {s:Nat→Nat} (h:∀ w',HoldG M w0 w' (l.set i (.blk b (setC s) U))→wpList Tryz.prog ops Q rest (a.put dst undef) w') (hg:Region.wanted (⟨dst,.store T x y,ty,pos,aft,grd⟩:Oper) (yielded ops a.tmps)=true:=by first|rfl|exact wanted_g rfl (yielded_of rfl (by first|rfl|(simp only[pe];rfl)))) (hx:a.eval x=.pointer (some ⟨b,0,none⟩):=by exact rfl) (hy:a.eval y=setV s:=by (try simp only[pe]);with_reducible rfl) (hi:At l i (.blk b cs U):=by repeat (first|(with_reducible exact At.zero)|apply At.succ)) (hT:sizeB Tryz.prog T 4=true:=by with_reducible exact row_size row_Set) (hn:cs.size=4:=by rfl):wpList Tryz.prog ops Q ((⟨dst,.store T x y,ty,pos,aft,grd⟩:Oper)::rest) a w :=
 own_storeS hg T x y rfl hx hy H hi hT hn h
theorem aV (H:HoldG M w0 w l) {T:TypeId} {x:Operand} {i b:Nat} {d:WordD} {U:TypeId} (h:wpList Tryz.prog ops Q rest (a.put dst (setV d.set)) w) (hg:Region.wanted (⟨dst,.load T x,ty,pos,aft,grd⟩:Oper) (yielded ops a.tmps)=true:=by first|rfl|exact wanted_g rfl (yielded_of rfl (by first|rfl|(simp only[pe];rfl)))) (hx:a.eval x=.pointer (some ⟨b,2,none⟩):=by exact rfl) (hi:At l i (.blk b (wordC d) U):=by repeat (first|(with_reducible exact At.zero)|apply At.succ)) (hT:rowB Tryz.prog T 4=true:=by with_reducible exact row_Set):wpList Tryz.prog ops Q ((⟨dst,.load T x,ty,pos,aft,grd⟩:Oper)::rest) a w :=
 own_loadN hg T x rfl hx H hi (setC d.set) hT rfl h
theorem aZ  (h:wpList Tryz.prog ops Q rest (a.put dst (setV emptyS)) w) (hg:Region.wanted (⟨dst,.build 40 #[],ty,pos,aft,grd⟩:Oper) (yielded ops a.tmps)=true:=by first|rfl|exact wanted_g rfl (yielded_of rfl (by first|rfl|(simp only[pe];rfl)))):wpList Tryz.prog ops Q ((⟨dst,.build 40 #[],ty,pos,aft,grd⟩:Oper)::rest) a w :=
 own_set0 hg rfl h
theorem aL (H:HoldG M w0 w l) {T:TypeId} {x:Operand} {i b:Nat} {s:Nat→Nat} {U:TypeId} (h:wpList Tryz.prog ops Q rest (a.put dst (setV s)) w) (hg:Region.wanted (⟨dst,.load T x,ty,pos,aft,grd⟩:Oper) (yielded ops a.tmps)=true:=by first|rfl|exact wanted_g rfl (yielded_of rfl (by first|rfl|(simp only[pe];rfl)))) (hx:a.eval x=.pointer (some ⟨b,0,none⟩):=by exact rfl) (hi:At l i (.blk b (setC s) U):=by repeat (first|(with_reducible exact At.zero)|apply At.succ)) (hT:rowB Tryz.prog T 4=true:=by with_reducible exact row_Set):wpList Tryz.prog ops Q ((⟨dst,.load T x,ty,pos,aft,grd⟩:Oper)::rest) a w :=
 own_loadS hg T x rfl hx H hi hT h
theorem bS (H:HoldG M w0 w l) {T:TypeId} {x:Operand} {s:Nat→Nat} (h:∀ b w',HoldG M w0 w' (l++[.blk b (setC s) T])→wpList Tryz.prog ops Q rest (a.put dst (.pointer (some ⟨b,0,none⟩))) w') (hg:Region.wanted (⟨dst,.box T x,ty,pos,aft,grd⟩:Oper) (yielded ops a.tmps)=true:=by first|rfl|exact wanted_g rfl (yielded_of rfl (by first|rfl|(simp only[pe];rfl)))) (hx:a.eval x=setV s:=by (try simp only[pe]);with_reducible rfl):wpList Tryz.prog ops Q ((⟨dst,.box T x,ty,pos,aft,grd⟩:Oper)::rest) a w :=
 own_boxS hg T x rfl hx H h
theorem bA (H:HoldG M w0 w l) {T:TypeId} (h:∀ b w',HoldG M w0 w' (l++[.blk b (zeroC Tryz.prog T) T])→wpList Tryz.prog ops Q rest (a.put dst (.pointer (some ⟨b,0,none⟩))) w') (hg:Region.wanted (⟨dst,.alloc T,ty,pos,aft,grd⟩:Oper) (yielded ops a.tmps)=true:=by first|rfl|exact wanted_g rfl (yielded_of rfl (by first|rfl|(simp only[pe];rfl)))) (hi:((Tryz.prog.info? T).bind (·.zero)).isSome=true:=by kernel_rfl):wpList Tryz.prog ops Q ((⟨dst,.alloc T,ty,pos,aft,grd⟩:Oper)::rest) a w :=
 own_alloc hg T rfl H hi h
theorem bB (H:HoldG M w0 w l) {T:TypeId} {x:Operand} {v:Value} (h:∀ b w',HoldG M w0 w' (l++[.blk b v.cells T])→wpList Tryz.prog ops Q rest (a.put dst (.pointer (some ⟨b,0,none⟩))) w') (hg:Region.wanted (⟨dst,.box T x,ty,pos,aft,grd⟩:Oper) (yielded ops a.tmps)=true:=by first|rfl|exact wanted_g rfl (yielded_of rfl (by first|rfl|(simp only[pe];rfl)))) (hx:a.eval x=v:=by first|(simp only[pe];done)|(simp only[pe];rfl)):wpList Tryz.prog ops Q ((⟨dst,.box T x,ty,pos,aft,grd⟩:Oper)::rest) a w :=
 own_box hg T x rfl hx H h
theorem kS (k:Tmp) (H:HoldG M w0 w l) {T:TypeId} {x:Operand} {s:Nat→Nat} (h:∀ b w',HoldG M w0 w' (l++[.blk b (setC s) T])→wpList Tryz.prog ops Q rest (a.put (some k) (.pointer (some ⟨b,0,none⟩))) w') (hg:Region.wanted (⟨some k,.box T x,ty,pos,aft,grd⟩:Oper) (yielded ops a.tmps)=true:=by first|rfl|exact wanted_g rfl (yielded_of rfl (by first|rfl|(simp only[pe];rfl)))) (hx:a.eval x=setV s:=by (try simp only[pe]);with_reducible rfl):wpList Tryz.prog ops Q ((⟨some k,.box T x,ty,pos,aft,grd⟩:Oper)::rest) a w :=
 own_boxS hg T x rfl hx H h
theorem kA (k:Tmp) (H:HoldG M w0 w l) {T:TypeId} (h:∀ b w',HoldG M w0 w' (l++[.blk b (zeroC Tryz.prog T) T])→wpList Tryz.prog ops Q rest (a.put (some k) (.pointer (some ⟨b,0,none⟩))) w') (hg:Region.wanted (⟨some k,.alloc T,ty,pos,aft,grd⟩:Oper) (yielded ops a.tmps)=true:=by first|rfl|exact wanted_g rfl (yielded_of rfl (by first|rfl|(simp only[pe];rfl)))) (hi:((Tryz.prog.info? T).bind (·.zero)).isSome=true:=by kernel_rfl):wpList Tryz.prog ops Q ((⟨some k,.alloc T,ty,pos,aft,grd⟩:Oper)::rest) a w :=
 own_alloc hg T rfl H hi h
theorem kB (k:Tmp) (H:HoldG M w0 w l) {T:TypeId} {x:Operand} {v:Value} (h:∀ b w',HoldG M w0 w' (l++[.blk b v.cells T])→wpList Tryz.prog ops Q rest (a.put (some k) (.pointer (some ⟨b,0,none⟩))) w') (hg:Region.wanted (⟨some k,.box T x,ty,pos,aft,grd⟩:Oper) (yielded ops a.tmps)=true:=by first|rfl|exact wanted_g rfl (yielded_of rfl (by first|rfl|(simp only[pe];rfl)))) (hx:a.eval x=v:=by first|(simp only[pe];done)|(simp only[pe];rfl)):wpList Tryz.prog ops Q ((⟨some k,.box T x,ty,pos,aft,grd⟩:Oper)::rest) a w :=
 own_box hg T x rfl hx H h
theorem aO (H:HoldG M w0 w l) {T:TypeId} {x y:Operand} {i b:Nat} {cs:Array Value} {U:TypeId} {k:Nat} {v:Value} (h:∀ w',HoldG M w0 w' (l.set i (.blk b (cs.setIfInBounds k v) U))→wpList Tryz.prog ops Q rest (a.put dst undef) w') (hg:Region.wanted (⟨dst,.store T x y,ty,pos,aft,grd⟩:Oper) (yielded ops a.tmps)=true:=by first|rfl|exact wanted_g rfl (yielded_of rfl (by first|rfl|(simp only[pe];rfl)))) (hx:a.eval x=.pointer (some ⟨b,k,none⟩):=by exact rfl) (hy:a.eval y=v:=by first|(simp only[pe];done)|(simp only[pe];rfl)) (hi:At l i (.blk b cs U):=by repeat (first|(with_reducible exact At.zero)|apply At.succ)) (h1:v.oneCell'=true:=by rfl) (hk:k<cs.size:=by first|(simp;done)|(simp[wordC];done)|(simp[nodeC];done)|(simp[flagsC];done)) (hT:sizeB Tryz.prog T 1=true:=by first|(with_reducible exact one_size one_errno)|(with_reducible exact one_size one_int)|(with_reducible exact one_size one_u8)|(with_reducible exact one_size one_bool)|(with_reducible exact one_size one_str)|(with_reducible exact one_size one_spot)|(with_reducible exact one_size one_u64)|(with_reducible exact one_size one_kids)|(with_reducible exact one_size one_rwords)|(with_reducible exact one_size one_p10)|(with_reducible exact one_size one_ikind)|(with_reducible exact one_size one_ints)|(with_reducible exact one_size one_insts)|(with_reducible exact one_size one_bools)|(with_reducible exact one_size one_bytes)):wpList Tryz.prog ops Q ((⟨dst,.store T x y,ty,pos,aft,grd⟩:Oper)::rest) a w :=
 own_store1 hg T x y rfl hx hy H hi h1 hk hT h
theorem aT (H:HoldG M w0 w l) {T:TypeId} {x y:Operand} {i b:Nat} {cs:Array Value} {U:TypeId} {n:Nat} {vs:Array Value} (h:∀ w',HoldG M w0 w' (l.set i (.blk b vs U))→wpList Tryz.prog ops Q rest (a.put dst undef) w') (hg:Region.wanted (⟨dst,.store T x y,ty,pos,aft,grd⟩:Oper) (yielded ops a.tmps)=true:=by first|rfl|exact wanted_g rfl (yielded_of rfl (by first|rfl|(simp only[pe];rfl)))) (hx:a.eval x=.pointer (some ⟨b,0,none⟩):=by exact rfl) (hy:a.eval y=.agg vs:=by first|(simp only[pe];done)|(simp only[pe];rfl)) (hi:At l i (.blk b cs U):=by repeat (first|(with_reducible exact At.zero)|apply At.succ)) (hT:sizeB Tryz.prog T n=true:=by first|(with_reducible exact row_size row_Word)|(with_reducible exact row_size row_Set)|(with_reducible exact row_size row_Node)|(with_reducible exact row_size row_Flags)|(with_reducible exact row_size row_P10)) (hv:vs.size=n:=by rfl) (hn:cs.size=n:=by rfl) (h1:vs.toList.all (·.oneCell')=true:=by rfl):wpList Tryz.prog ops Q ((⟨dst,.store T x y,ty,pos,aft,grd⟩:Oper)::rest) a w :=
 own_store hg T x y rfl hx hy H hi hT hv hn h1 h
theorem aG (H:HoldG M w0 w l) {T:TypeId} {x:Operand} {i b:Nat} {cs:Array Value} {U:TypeId} {k:Nat} {v:Value} (h:wpList Tryz.prog ops Q rest (a.put dst v) w) (hg:Region.wanted (⟨dst,.load T x,ty,pos,aft,grd⟩:Oper) (yielded ops a.tmps)=true:=by first|rfl|exact wanted_g rfl (yielded_of rfl (by first|rfl|(simp only[pe];rfl)))) (hx:a.eval x=.pointer (some ⟨b,k,none⟩):=by exact rfl) (hi:At l i (.blk b cs U):=by repeat (first|(with_reducible exact At.zero)|apply At.succ)) (hT:oneB Tryz.prog T=true:=by first|(with_reducible exact one_errno)|(with_reducible exact one_int)|(with_reducible exact one_u8)|(with_reducible exact one_bool)|(with_reducible exact one_str)|(with_reducible exact one_spot)|(with_reducible exact one_u64)|(with_reducible exact one_kids)|(with_reducible exact one_rwords)|(with_reducible exact one_p10)|(with_reducible exact one_ikind)|(with_reducible exact one_ints)|(with_reducible exact one_insts)|(with_reducible exact one_bools)|(with_reducible exact one_bytes)) (hv:cs[k]?=some v:=by first|(with_reducible exact wg0 _)|(with_reducible exact wg1 _)|(with_reducible exact wg2 _)|(with_reducible exact wg3 _)|(with_reducible exact wg4 _)|(with_reducible exact wg5 _)|(with_reducible exact wg6 _)|(with_reducible exact wg7 _)|(with_reducible exact wg8 _)|(with_reducible exact wg9 _)|(with_reducible exact wg10 _)|(with_reducible exact wg11 _)|(with_reducible exact wg12 _)|(with_reducible exact wg13 _)|(with_reducible exact wg14 _)|(with_reducible exact wg15 _)|(with_reducible exact wg16 _)|(with_reducible exact fg0 _)|(with_reducible exact fg1 _)|(with_reducible exact fg2 _)|(with_reducible exact ng0 _ _)|(with_reducible exact ng1 _ _)|(with_reducible exact ng2 _ _)|(with_reducible exact ng3 _ _)|(with_reducible exact ng4 _ _)|(with_reducible exact ng5 _ _)|(with_reducible exact ng6 _ _)|(with_reducible exact ng7 _ _)|(with_reducible exact ng8 _ _)|(with_reducible exact ng9 _ _)|rfl):wpList Tryz.prog ops Q ((⟨dst,.load T x,ty,pos,aft,grd⟩:Oper)::rest) a w :=
 own_load1 hg T x rfl hx H hi hT hv h
theorem aD (H:HoldG M w0 w l) {T:TypeId} {x:Operand} {i b:Nat} {cs:Array Value} {U:TypeId} {n:Nat} (h:wpList Tryz.prog ops Q rest (a.put dst (.agg cs)) w) (hg:Region.wanted (⟨dst,.load T x,ty,pos,aft,grd⟩:Oper) (yielded ops a.tmps)=true:=by first|rfl|exact wanted_g rfl (yielded_of rfl (by first|rfl|(simp only[pe];rfl)))) (hx:a.eval x=.pointer (some ⟨b,0,none⟩):=by exact rfl) (hi:At l i (.blk b cs U):=by repeat (first|(with_reducible exact At.zero)|apply At.succ)) (hT:rowB Tryz.prog T n=true:=by first|(with_reducible exact row_Word)|(with_reducible exact row_Set)|(with_reducible exact row_Node)|(with_reducible exact row_Flags)|(with_reducible exact row_P10)) (hn:cs.size=n:=by rfl):wpList Tryz.prog ops Q ((⟨dst,.load T x,ty,pos,aft,grd⟩:Oper)::rest) a w :=
 own_load hg T x rfl hx H hi hT hn h
theorem aI {T:TypeId} {x lo:Operand} {L:Str} {y:Int} {i:Nat} (h:wpList Tryz.prog ops Q rest (a.put dst (.int .u8 (byt L i))) w) (hg:Region.wanted (⟨dst,.index T x lo,ty,pos,aft,grd⟩:Oper) (yielded ops a.tmps)=true:=by first|rfl|exact wanted_g rfl (yielded_of rfl (by first|rfl|(simp only[pe];rfl)))) (hT:Tryz.prog.underlying T=some .string:=by exact Tryz.underlying9) (hx:a.eval x=.string ⟨L.toArray⟩:=by exact rfl) (hl:a.eval lo=.int .i64 y:=by first|(simp only[pe];done)|(simp only[pe];rfl)) (hy:y=(i:Int):=by first|with_reducible exact hNC|with_reducible exact nc1 _|with_reducible exact nc2 _|with_reducible exact nc3 _|with_reducible exact nca _ _|with_reducible exact nc0 _|with_reducible exact ncl0|with_reducible exact ncl1|rfl) (h1:i<L.length:=by first|omega|(simp only[List.length_cons,List.length_nil];omega)):wpList Tryz.prog ops Q ((⟨dst,.index T x lo,ty,pos,aft,grd⟩:Oper)::rest) a w :=
 str_index hg T x lo rfl hT hx hl hy h1 h
theorem aC {T:TypeId} {x lo hi:Operand} {L:Str} {y z:Int} {i j:Nat} (h:wpList Tryz.prog ops Q rest (a.put dst (.string ⟨((L.take j).drop i).toArray⟩)) w) (hg:Region.wanted (⟨dst,.slice T x (some lo) (some hi) none,ty,pos,aft,grd⟩:Oper) (yielded ops a.tmps)=true:=by first|rfl|exact wanted_g rfl (yielded_of rfl (by first|rfl|(simp only[pe];rfl)))) (hT:Tryz.prog.underlying T=some .string:=by exact Tryz.underlying9) (hx:a.eval x=.string ⟨L.toArray⟩:=by exact rfl) (hl:a.eval lo=.int .i64 y:=by first|(simp only[pe];done)|(simp only[pe];rfl)) (hy:y=(i:Int):=by first|with_reducible exact hNC|with_reducible exact nc1 _|with_reducible exact nc2 _|with_reducible exact nc3 _|with_reducible exact nca _ _|with_reducible exact nc0 _|with_reducible exact ncl0|with_reducible exact ncl1|rfl) (hh:a.eval hi=.int .i64 z:=by first|(simp only[pe];done)|(simp only[pe];rfl)) (hz:z=(j:Int):=by first|with_reducible exact hNC|with_reducible exact nc1 _|with_reducible exact nc2 _|with_reducible exact nc3 _|with_reducible exact nca _ _|with_reducible exact nc0 _|with_reducible exact ncl0|with_reducible exact ncl1|rfl) (h1:i≤j:=by first|omega|(simp only[List.length_cons,List.length_nil];omega)) (h2:j≤L.length:=by first|omega|(simp only[List.length_cons,List.length_nil];omega)):wpList Tryz.prog ops Q ((⟨dst,.slice T x (some lo) (some hi) none,ty,pos,aft,grd⟩:Oper)::rest) a w :=
 str_slice hg T x lo hi rfl hT hx hl hy hh hz h1 h2 h
theorem aE {T:TypeId} {x y:Operand} {U:TypeId} {L L':Str} (h:wpList Tryz.prog ops Q rest (a.put dst (.bool (L == L'))) w) (hg:Region.wanted (⟨dst,.binOp .eql T x y U,ty,pos,aft,grd⟩:Oper) (yielded ops a.tmps)=true:=by first|rfl|exact wanted_g rfl (yielded_of rfl (by first|rfl|(simp only[pe];rfl)))) (hx:a.eval x=.string ⟨L.toArray⟩:=by exact rfl) (hy:a.eval y=.string ⟨L'.toArray⟩:=by exact rfl) (hq:∀ w:World,(eqGuard .eql T x y (.string ⟨L.toArray⟩) (.string ⟨L'.toArray⟩)).run Tryz.prog w=.ok () w:=by exact fun _=>rfl):wpList Tryz.prog ops Q ((⟨dst,.binOp .eql T x y U,ty,pos,aft,grd⟩:Oper)::rest) a w :=
 str_eql hg T x y U rfl hx hy hq h
end
section
variable {M:Nat→Prop} {a:Act} {w w0:World} {l:List Res} {fn:Func} {R:Ending→World→Prop} {p q r:Tmp} {T:TypeId} {b i n:Nat} {cs:Array Value} {U:TypeId} {s:Nat→Nat} {v u:Value}
end
section
variable {ops:Array Oper} {dst:Option Tmp} {ty:TypeId} {pos:String} {aft:Array Edge} {grd:Option (Nat × Bool)} {rest:List Oper} {a:Act} {w:World} {Q:Exit→Act→World→Prop}
end
theorem run_nb0 (W:World):(Instr.build 87 #[]).run Tryz.prog W=.ok (nodeV {kind:=0} nilS) W:=by kernel_rfl
theorem run_nb1 (k:Int) (W:World):(Instr.build 87 #[(0,.int .i64 k)]).run Tryz.prog W=.ok (nodeV {kind:=k} nilS) W:=by simp[go_sem];rfl
theorem run_nbS (k:Int) (s:Nat→Nat) (W:World):(Instr.build 87 #[(0,.int .i64 k),(1,setV s)]).run Tryz.prog W=.ok (nodeV {kind:=k,set:=s} nilS) W:=by unfold setV;simp[go_sem];rfl
theorem run_nbK (k:Int) (p:Option Addr) (n c:Nat) (W:World):(Instr.build 87 #[(0,.int .i64 k),(2,.slice p n c)]).run Tryz.prog W=.ok (nodeV {kind:=k} (.slice p n c)) W:=by simp[go_sem];rfl
theorem run_nbG (k g:Int) (p:Option Addr) (n c:Nat) (W:World):(Instr.build 87 #[(0,.int .i64 k),(2,.slice p n c),(6,.int .i64 g)]).run Tryz.prog W=.ok (nodeV {kind:=k,group:=g} (.slice p n c)) W:=by simp[go_sem];rfl
theorem run_nbR (k lo hi:Int) (z:Bool) (p:Option Addr) (n c:Nat) (W:World):(Instr.build 87 #[(0,.int .i64 k),(2,.slice p n c),(3,.int .i64 lo),(4,.int .i64 hi),(5,.bool z)]).run Tryz.prog W=.ok (nodeV {kind:=k,lo:=lo,hi:=hi,lazy:=z} (.slice p n c)) W:=by simp[go_sem];rfl
theorem run_nbA (k hi:Int) (z:Bool) (p:Option Addr) (n c:Nat) (W:World):(Instr.build 87 #[(0,.int .i64 k),(2,.slice p n c),(4,.int .i64 hi),(5,.bool z)]).run Tryz.prog W=.ok (nodeV {kind:=k,hi:=hi,lazy:=z} (.slice p n c)) W:=by simp[go_sem];rfl
theorem run_fb3 (x y z:Bool) (W:World):(Instr.build 92 #[(0,.bool x),(1,.bool y),(2,.bool z)]).run Tryz.prog W=.ok (flagsV (x,y,z)) W:=by simp[go_sem];rfl
theorem run_kid1 (d:NodeD) (s:Value) (W:World):(Instr.buildSlice 85 1 #[(0,nodeV d s)]).run Tryz.prog W=.ok (.slice (some ⟨W.heap.size,0,none⟩) 1 1) (W.alloc (.cells (nodeC d s) 87)):=by kernel_rfl
section
variable {M:Nat→Prop} {ops:Array Oper} {dst:Option Tmp} {ty:TypeId} {pos:String} {aft:Array Edge} {grd:Option (Nat × Bool)} {rest:List Oper} {a:Act} {w w0:World} {l:List Res} {Q:Exit→Act→World→Prop}
theorem gES {U:TypeId} {x y:Operand} (h:wpList Tryz.prog ops Q ((⟨dst,.binOp .eql 40 x y U,ty,pos,aft,grd⟩:Oper)::rest) a w):wpList Tryz.prog ops Q ((⟨dst,.binOp .eql 40 x y U,ty,pos,aft,grd⟩:Oper)::rest) a w:=h
theorem nb0 (h:wpList Tryz.prog ops Q rest (a.put dst (nodeV {kind:=0} nilS)) w) (hg:Region.wanted (⟨dst,.build 87 #[],ty,pos,aft,grd⟩:Oper) (yielded ops a.tmps)=true:=by first|rfl|exact wanted_g rfl (yielded_of rfl (by first|rfl|(simp only[pe];rfl)))):wpList Tryz.prog ops Q ((⟨dst,.build 87 #[],ty,pos,aft,grd⟩:Oper)::rest) a w :=
 own_pure hg (by
  simp only[execOp,List.map_toArray,List.map_nil,Sem.run_bind,run_nb0];rfl) h
theorem nb1 {x:Operand} {k:Int} (h:wpList Tryz.prog ops Q rest (a.put dst (nodeV {kind:=k} nilS)) w) (hg:Region.wanted (⟨dst,.build 87 #[(0,x)],ty,pos,aft,grd⟩:Oper) (yielded ops a.tmps)=true:=by first|rfl|exact wanted_g rfl (yielded_of rfl (by first|rfl|(simp only[pe];rfl)))) (h0:a.eval x=.int .i64 k:=by first|(simp only[pe];done)|(simp only[pe];rfl)):wpList Tryz.prog ops Q ((⟨dst,.build 87 #[(0,x)],ty,pos,aft,grd⟩:Oper)::rest) a w :=
 own_pure hg (by
  simp only[execOp,List.map_toArray,List.map_cons,List.map_nil,h0,Sem.run_bind,run_nb1];rfl) h
theorem nbS {x y:Operand} {k:Int} {s:Nat→Nat} (h:wpList Tryz.prog ops Q rest (a.put dst (nodeV {kind:=k,set:=s} nilS)) w) (hg:Region.wanted (⟨dst,.build 87 #[(0,x),(1,y)],ty,pos,aft,grd⟩:Oper) (yielded ops a.tmps)=true:=by first|rfl|exact wanted_g rfl (yielded_of rfl (by first|rfl|(simp only[pe];rfl)))) (h0:a.eval x=.int .i64 k:=by first|(simp only[pe];done)|(simp only[pe];rfl)) (h1:a.eval y=setV s:=by (try simp only[pe]);with_reducible rfl):wpList Tryz.prog ops Q ((⟨dst,.build 87 #[(0,x),(1,y)],ty,pos,aft,grd⟩:Oper)::rest) a w :=
 own_pure hg (by
  simp only[execOp,List.map_toArray,List.map_cons,List.map_nil,h0,h1,Sem.run_bind,run_nbS];rfl) h
theorem nbK {x y:Operand} {k:Int} {p:Option Addr} {n c:Nat} (h:wpList Tryz.prog ops Q rest (a.put dst (nodeV {kind:=k} (.slice p n c))) w) (hg:Region.wanted (⟨dst,.build 87 #[(0,x),(2,y)],ty,pos,aft,grd⟩:Oper) (yielded ops a.tmps)=true:=by first|rfl|exact wanted_g rfl (yielded_of rfl (by first|rfl|(simp only[pe];rfl)))) (h0:a.eval x=.int .i64 k:=by first|(simp only[pe];done)|(simp only[pe];rfl)) (h1:a.eval y=.slice p n c:=by first|(simp only[pe];done)|(simp only[pe];rfl)):wpList Tryz.prog ops Q ((⟨dst,.build 87 #[(0,x),(2,y)],ty,pos,aft,grd⟩:Oper)::rest) a w :=
 own_pure hg (by
  simp only[execOp,List.map_toArray,List.map_cons,List.map_nil,h0,h1,Sem.run_bind,run_nbK];rfl) h
theorem nbG {x y z:Operand} {k g:Int} {p:Option Addr} {n c:Nat} (h:wpList Tryz.prog ops Q rest (a.put dst (nodeV {kind:=k,group:=g} (.slice p n c))) w) (hg:Region.wanted (⟨dst,.build 87 #[(0,x),(2,y),(6,z)],ty,pos,aft,grd⟩:Oper) (yielded ops a.tmps)=true:=by first|rfl|exact wanted_g rfl (yielded_of rfl (by first|rfl|(simp only[pe];rfl)))) (h0:a.eval x=.int .i64 k:=by first|(simp only[pe];done)|(simp only[pe];rfl)) (h1:a.eval y=.slice p n c:=by first|(simp only[pe];done)|(simp only[pe];rfl)) (h2:a.eval z=.int .i64 g:=by first|(simp only[pe];done)|(simp only[pe];rfl)):wpList Tryz.prog ops Q ((⟨dst,.build 87 #[(0,x),(2,y),(6,z)],ty,pos,aft,grd⟩:Oper)::rest) a w :=
 own_pure hg (by
  simp only[execOp,List.map_toArray,List.map_cons,List.map_nil,h0,h1,h2,Sem.run_bind,run_nbG];rfl) h
theorem nbR {x y u v z:Operand} {k lo hi:Int} {q:Bool} {p:Option Addr} {n c:Nat} (h:wpList Tryz.prog ops Q rest (a.put dst (nodeV {kind:=k,lo:=lo,hi:=hi,lazy:=q} (.slice p n c))) w) (hg:Region.wanted (⟨dst,.build 87 #[(0,x),(2,y),(3,u),(4,v),(5,z)],ty,pos,aft,grd⟩:Oper) (yielded ops a.tmps)=true:=by first|rfl|exact wanted_g rfl (yielded_of rfl (by first|rfl|(simp only[pe];rfl)))) (h0:a.eval x=.int .i64 k:=by first|(simp only[pe];done)|(simp only[pe];rfl)) (h1:a.eval y=.slice p n c:=by first|(simp only[pe];done)|(simp only[pe];rfl)) (h2:a.eval u=.int .i64 lo:=by first|(simp only[pe];done)|(simp only[pe];rfl)) (h3:a.eval v=.int .i64 hi:=by first|(simp only[pe];done)|(simp only[pe];rfl)) (h4:a.eval z=.bool q:=by first|(simp only[pe];done)|(simp only[pe];rfl)):wpList Tryz.prog ops Q ((⟨dst,.build 87 #[(0,x),(2,y),(3,u),(4,v),(5,z)],ty,pos,aft,grd⟩:Oper)::rest) a w :=
 own_pure hg (by
  simp only[execOp,List.map_toArray,List.map_cons,List.map_nil,h0,h1,h2,h3,h4,Sem.run_bind,run_nbR];rfl) h
theorem nbA {x y v z:Operand} {k hi:Int} {q:Bool} {p:Option Addr} {n c:Nat} (h:wpList Tryz.prog ops Q rest (a.put dst (nodeV {kind:=k,hi:=hi,lazy:=q} (.slice p n c))) w) (hg:Region.wanted (⟨dst,.build 87 #[(0,x),(2,y),(4,v),(5,z)],ty,pos,aft,grd⟩:Oper) (yielded ops a.tmps)=true:=by first|rfl|exact wanted_g rfl (yielded_of rfl (by first|rfl|(simp only[pe];rfl)))) (h0:a.eval x=.int .i64 k:=by first|(simp only[pe];done)|(simp only[pe];rfl)) (h1:a.eval y=.slice p n c:=by first|(simp only[pe];done)|(simp only[pe];rfl)) (h2:a.eval v=.int .i64 hi:=by first|(simp only[pe];done)|(simp only[pe];rfl)) (h3:a.eval z=.bool q:=by first|(simp only[pe];done)|(simp only[pe];rfl)):wpList Tryz.prog ops Q ((⟨dst,.build 87 #[(0,x),(2,y),(4,v),(5,z)],ty,pos,aft,grd⟩:Oper)::rest) a w :=
 own_pure hg (by
  simp only[execOp,List.map_toArray,List.map_cons,List.map_nil,h0,h1,h2,h3,Sem.run_bind,run_nbA];rfl) h
theorem fb3 {x y z:Operand} {p q r:Bool} (h:wpList Tryz.prog ops Q rest (a.put dst (flagsV (p,q,r))) w) (hg:Region.wanted (⟨dst,.build 92 #[(0,x),(1,y),(2,z)],ty,pos,aft,grd⟩:Oper) (yielded ops a.tmps)=true:=by first|rfl|exact wanted_g rfl (yielded_of rfl (by first|rfl|(simp only[pe];rfl)))) (h0:a.eval x=.bool p:=by first|(simp only[pe];done)|(simp only[pe];rfl)) (h1:a.eval y=.bool q:=by first|(simp only[pe];done)|(simp only[pe];rfl)) (h2:a.eval z=.bool r:=by first|(simp only[pe];done)|(simp only[pe];rfl)):wpList Tryz.prog ops Q ((⟨dst,.build 92 #[(0,x),(1,y),(2,z)],ty,pos,aft,grd⟩:Oper)::rest) a w :=
 own_pure hg (by
  simp only[execOp,List.map_toArray,List.map_cons,List.map_nil,h0,h1,h2,Sem.run_bind,run_fb3];rfl) h
theorem qS {x y:Operand} {t:TypeId} {s u:Nat→Nat} {q:Bool} (h:wpList Tryz.prog ops Q rest (a.put dst (.bool q)) w) (hg:Region.wanted (⟨dst,.binOp .eql 40 x y t,ty,pos,aft,grd⟩:Oper) (yielded ops a.tmps)=true:=by first|rfl|exact wanted_g rfl (yielded_of rfl (by first|rfl|(simp only[pe];rfl)))) (hx:a.eval x=setV s:=by (try simp only[pe]);with_reducible rfl) (hy:a.eval y=setV u:=by (try simp only[pe]);with_reducible rfl) (hq:eqS s u=q:=by first|assumption|rfl):wpList Tryz.prog ops Q ((⟨dst,.binOp .eql 40 x y t,ty,pos,aft,grd⟩:Oper)::rest) a w :=
 own_pure hg (by
  have he:=run_eqSet s u w;rw[hq]at he;simp only[execOp,hx,hy];unfold setV
  simp[go_sem,he]) h
theorem qN {x y:Operand} {t:TypeId} {s u:Nat→Nat} {q:Bool} (h:wpList Tryz.prog ops Q rest (a.put dst (.bool (!q))) w) (hg:Region.wanted (⟨dst,.binOp .neq 40 x y t,ty,pos,aft,grd⟩:Oper) (yielded ops a.tmps)=true:=by first|rfl|exact wanted_g rfl (yielded_of rfl (by first|rfl|(simp only[pe];rfl)))) (hx:a.eval x=setV s:=by (try simp only[pe]);with_reducible rfl) (hy:a.eval y=setV u:=by (try simp only[pe]);with_reducible rfl) (hq:eqS s u=q:=by first|assumption|rfl):wpList Tryz.prog ops Q ((⟨dst,.binOp .neq 40 x y t,ty,pos,aft,grd⟩:Oper)::rest) a w :=
 own_pure hg (by
  have he:=run_eqSet s u w;rw[hq]at he;simp only[execOp,hx,hy];unfold setV
  simp[go_sem,he]) h
theorem aGb (H:HoldG M w0 w l) {T:TypeId} {x:Operand} {i b:Nat} {cs:Array Value} {U:TypeId} {k:Nat} {z q:Bool} (h:wpList Tryz.prog ops Q rest (a.put dst (.bool q)) w) (hg:Region.wanted (⟨dst,.load T x,ty,pos,aft,grd⟩:Oper) (yielded ops a.tmps)=true:=by first|rfl|exact wanted_g rfl (yielded_of rfl (by first|rfl|(simp only[pe];rfl)))) (hx:a.eval x=.pointer (some ⟨b,k,none⟩):=by exact rfl) (hi:At l i (.blk b cs U):=by repeat (first|(with_reducible exact At.zero)|apply At.succ)) (hT:oneB Tryz.prog T=true:=by first|(with_reducible exact one_words)|(with_reducible exact one_errno)|(with_reducible exact one_ptr)|(with_reducible exact one_kind)|(with_reducible exact one_int)|(with_reducible exact one_u8)|(with_reducible exact one_bool)|(with_reducible exact one_str)|(with_reducible exact one_spot)|(with_reducible exact one_u64)|(with_reducible exact one_kids)|(with_reducible exact one_rwords)|(with_reducible exact one_p10)|(with_reducible exact one_ikind)|(with_reducible exact one_ints)|(with_reducible exact one_insts)|(with_reducible exact one_bools)|(with_reducible exact one_bytes)) (hv:cs[k]?=some (.bool z):=by first|(with_reducible exact wg0 _)|(with_reducible exact wg1 _)|(with_reducible exact wg2 _)|(with_reducible exact wg3 _)|(with_reducible exact wg4 _)|(with_reducible exact wg5 _)|(with_reducible exact wg6 _)|(with_reducible exact wg7 _)|(with_reducible exact wg8 _)|(with_reducible exact wg9 _)|(with_reducible exact wg10 _)|(with_reducible exact wg11 _)|(with_reducible exact wg12 _)|(with_reducible exact wg13 _)|(with_reducible exact wg14 _)|(with_reducible exact wg15 _)|(with_reducible exact wg16 _)|(with_reducible exact fg0 _)|(with_reducible exact fg1 _)|(with_reducible exact fg2 _)|(with_reducible exact ng0 _ _)|(with_reducible exact ng1 _ _)|(with_reducible exact ng2 _ _)|(with_reducible exact ng3 _ _)|(with_reducible exact ng4 _ _)|(with_reducible exact ng5 _ _)|(with_reducible exact ng6 _ _)|(with_reducible exact ng7 _ _)|(with_reducible exact ng8 _ _)|(with_reducible exact ng9 _ _)|rfl) (hq:z=q:=by assumption):wpList Tryz.prog ops Q ((⟨dst,.load T x,ty,pos,aft,grd⟩:Oper)::rest) a w :=
 by subst hq;exact own_load1 hg T x rfl hx H hi hT hv h
theorem aVn (H:HoldG M w0 w l) {T:TypeId} {x:Operand} {i b:Nat} {d:NodeD} {s:Value} {U:TypeId} (h:wpList Tryz.prog ops Q rest (a.put dst (setV d.set)) w) (hg:Region.wanted (⟨dst,.load T x,ty,pos,aft,grd⟩:Oper) (yielded ops a.tmps)=true:=by first|rfl|exact wanted_g rfl (yielded_of rfl (by first|rfl|(simp only[pe];rfl)))) (hx:a.eval x=.pointer (some ⟨b,1,none⟩):=by exact rfl) (hi:At l i (.blk b (nodeC d s) U):=by repeat (first|(with_reducible exact At.zero)|apply At.succ)) (hT:rowB Tryz.prog T 4=true:=by with_reducible exact row_Set):wpList Tryz.prog ops Q ((⟨dst,.load T x,ty,pos,aft,grd⟩:Oper)::rest) a w :=
 own_loadN hg T x rfl hx H hi (setC d.set) hT rfl h
end
theorem cht {M:Nat→Prop} {P:Program} {f:FuncId} {args:Array Value} {w w0:World} {l:List Res} {t:Tree} {G:Nat→Prop} {R:Ending→World→Prop} (c:Calls P f args w fun e w'=>TreeOut w G t e w'∧Below w.heap.size w w') (H:HoldG M w0 w l) (hG:Still l G)
  (k:∀ p n F w',(∀ b,F b→w0.heap.size≤b∨G b)→HoldG M w0 w' (l++[.kn F (fun V=>ForestR V F p n t.kids)])→R (.returned (nodeV t.d (.slice p t.kids.length n))) w'):Calls P f args w R:=c.mono fun _ w' h=>by
 obtain⟨⟨p,n,F,rfl,hs,hF⟩,hb⟩:=h;exact k p n F w' (fun b h=>(hF b h).2.imp (fun h=>Nat.le_trans H.keep.size h) id) (H.learn hb hG hF (fun V hV=>hs.kept hV))
end Go.Proofs.YtdoflhjhaciepaaGreat
namespace Go.Proofs.YtdoflhjhaciepaaGreat
open Go.RowKit
theorem lit_get (t:Array Value) (n:Nat) (h:t.size=n):t=((List.range n).map (fun i=>t.getD i undef)).toArray:=by
 subst h;apply Array.ext
 ·simp
 ·intro i h1 h2;simp[h1]
section
variable {P:Program} {ops:Array Oper} {o:Oper} {a:Act} {w:World} {D:Prop}
theorem sy_if {j:Nat} {d:Tmp} {want c b:Bool} {v:Value} (hgd:o.guard=some (j,want)) (hj:(ops[j]?).bind (·.dst)=some d) (hy:a.eval (.tmp d)=bif c then .bool b else undef) (hr:c=true→b=want→(execOp a.eval o).run P w=.ok (.value v) w) (hD:¬ D) :
  RStep P ops o a w (fun v' _=>v'=(bif (c&&(b == want)) then v else undef)∧(D→w.heap.size≤blk v')):=by
 cases c with
 | false =>
  exact rs_skip (not_wanted_u hgd (yielded_undef hj hy)) ⟨rfl,fun h=>(hD h).elim⟩
 | true =>
  by_cases hb:b=want
  ·subst hb;refine rs_val (wanted_g hgd (yielded_of hj hy)) (hr rfl rfl) (Below.refl _ w) ⟨?_,fun h=>(hD h).elim⟩
   simp
  ·refine rs_skip (not_wanted_g hgd (yielded_of hj hy) hb) ⟨?_,fun h=>(hD h).elim⟩
   have:(b == want)=false:=by simpa using hb
   simp[this]
theorem sy_ {j:Nat} {d:Tmp} {want c b:Bool} {v:Value} (hy:a.eval (.tmp d)=bif c then .bool b else undef) (hr:(c&&(b == want))=true→(execOp a.eval o).run P w=.ok (.value v) w) (hgd:o.guard=some (j,want):=by rfl) (hj:(ops[j]?).bind (·.dst)=some d:=by rfl) (hD:¬ D:=by decide) :
  RStep P ops o a w (fun v' _=>v'=(bif (c&&(b == want)) then v else undef)∧(D→w.heap.size≤blk v')) :=
 sy_if hgd hj hy (fun hc hb=>hr (Bool.and_eq_true_iff.2 ⟨hc,beq_iff_eq.2 hb⟩)) hD
theorem run_and {x y:Operand} {b q:Bool} (hop:o.op=Op.pick x y (.const (.bool false))) (hx:a.eval x=.bool b) (hy:b=true→a.eval y=.bool q):(execOp a.eval o).run P w=.ok (.value (.bool (b&&q))) w:=by
 cases b with
 | false=>simp only[execOp,hop,hx];rfl
 | true=>simp only[execOp,hop,hx,hy rfl];rfl
theorem run_or {x y:Operand} {b q:Bool} (hop:o.op=Op.pick x (.const (.bool true)) y) (hx:a.eval x=.bool b) (hy:b=false→a.eval y=.bool q):(execOp a.eval o).run P w=.ok (.value (.bool (b || q))) w:=by
 cases b with
 | true=>simp only[execOp,hop,hx];rfl
 | false=>simp only[execOp,hop,hx,hy rfl];rfl
theorem run_cp {x:Operand} {v:Value} (hop:o.op=Op.move x∨o.op=Op.assign x) (hx:a.eval x=v):(execOp a.eval o).run P w=.ok (.value v) w:=by
 rcases hop with h|h<;>(simp only[execOp,h,hx];rfl)
theorem bif_at {α:Type} {x u v:α} {c:Bool} (h:x=bif c then u else v) (hc:c=true):x=u:=by rw[h,hc];rfl
end
structure InstD where
 kind:Int
 set:Nat→Nat:=emptyS
 next:Int:=0
 other:Int:=0
 slot:Int:=0
 spot:Int:=0
abbrev Slots:=List Int
abbrev Ent:=Nat × Nat × Slots
abbrev Way:=Nat × Slots
def wordB (b:Nat):Bool:=decide (48≤b)&&decide (b≤57) || decide (97≤b)&&decide (b≤122) || decide (65≤b)&&decide (b≤90) || b == 95
def wordA (s:Str) (i:Int):Bool:=if i<0∨(s.length:Int)≤i then false else wordB (byt s i.toNat)
def isSpot (k:Int) (s:Str) (i:Int):Bool :=
 if i<0∨(s.length:Int)<i then false
 else if k=8 then i == 0
 else if k=9 then i == s.length
 else if k=10 then i == 0 || byt s (i - 1).toNat == 10
 else if k=11 then i == s.length || byt s i.toNat == 10
 else if k=12 then wordA s (i - 1) != wordA s i
 else if k=13 then wordA s (i - 1) == wordA s i
 else false
def inN (n:Nat) (x:Int):Bool:=decide (0≤x)&&decide (x<n)
def rightI (n:Nat) (x:InstD):Bool :=
 if x.kind=1 then !eqS x.set emptyS&&inN n x.next&&(x.other == 0)&&(x.slot == 0)&&(x.spot == 0)
 else if x.kind=2 then eqS x.set emptyS&&inN n x.next&&inN n x.other&&(x.slot == 0)&&(x.spot == 0)
 else if x.kind=3 then eqS x.set emptyS&&inN n x.next&&(x.other == 0)&&inN 42 x.slot&&(x.spot == 0)
 else if x.kind=4 then eqS x.set emptyS&&inN n x.next&&(x.other == 0)&&(x.slot == 0)&&(decide (8≤x.spot)&&decide (x.spot≤13))
 else if x.kind=5∨x.kind=6 then eqS x.set emptyS&&(x.next == 0)&&(x.other == 0)&&(x.slot == 0)&&(x.spot == 0)
 else false
def rightP (p:List InstD):Bool:=decide (1≤p.length)&&decide (p.length≤4000)&&p.all (rightI p.length)
def mostP (p:List InstD):Nat:=p.foldl (fun m x=>max m x.slot.toNat) 1
def slotsP (p:List InstD):Nat:=mostP p / 2 * 2+2
section
variable (p:List InstD) (s:Str)
def atI (k:Nat):InstD:=p.getD k {kind:=6}
def sucE (k i:Nat) (sl:Slots):List Ent :=
 let x:=atI p k
 if x.kind=1 then (if i<s.length∧hasB x.set (byt s i)=true then [(x.next.toNat,i+1,sl)] else [])
 else if x.kind=2 then [(x.next.toNat,i,sl),(x.other.toNat,i,sl)]
 else if x.kind=3 then [(x.next.toNat,i,sl.set x.slot.toNat i)]
 else if x.kind=4 then (if isSpot x.spot s i=true then [(x.next.toNat,i,sl)] else [])
 else []
def upS (S:Nat→Nat→Bool) (k i:Nat):Nat→Nat→Bool:=fun a j=>if a=k∧j=i then true else S a j
inductive Dfs (f:Option Slots):List Ent→(Nat→Nat→Bool)→Option Slots→Prop
 | nil (S):Dfs f [] S f
 | seen (k i sl r S res) (h:S k i=true) (hr:Dfs f r S res):Dfs f ((k,i,sl)::r) S res
 | hit (k i sl r S) (h:S k i=false) (hk:(atI p k).kind=5):Dfs f ((k,i,sl)::r) S (some sl)
 | go (k i sl r S res) (h:S k i=false) (hk:(atI p k).kind≠5) (hr:Dfs f (sucE p s k i sl++r) (upS S k i) res):Dfs f ((k,i,sl)::r) S res
def waitsP (i:Nat):Nat→List Way→List Int→List Int × List Way
 | 0,_,m=>(m,[])
 | _+1,[],m=>(m,[])
 | n+1,(k,sl)::r,m =>
  if m.getD k 0=(i:Int)+1 then waitsP i n r m
  else
   let x:=atI p k
   let m':=m.set k ((i:Int)+1)
   if x.kind=2 then waitsP i n ((x.next.toNat,sl)::(x.other.toNat,sl)::r) m'
   else if x.kind=3 then waitsP i n ((x.next.toNat,sl.set x.slot.toNat i)::r) m'
   else if x.kind=4 then (if isSpot x.spot s i=true then waitsP i n ((x.next.toNat,sl)::r) m' else waitsP i n r m')
   else if x.kind=1∨x.kind=5 then ((waitsP i n r m').1,(k,sl)::(waitsP i n r m').2)
   else waitsP i n r m'
def fuelP:Nat:=3 * p.length+2
def leadP (i:Nat):List Way→List Int→List Int × List Way
 | [],m=>(m,[])
 | e::r,m=>((leadP i r (waitsP p s i (fuelP p) [e] m).1).1,(waitsP p s i (fuelP p) [e] m).2++(leadP i r (waitsP p s i (fuelP p) [e] m).1).2)
def stepP (i:Nat):List Way→Option Slots × List Way
 | []=>(none,[])
 | (k,sl)::r =>
  if (atI p k).kind=5 then (some sl,[])
  else if i<s.length∧hasB (atI p k).set (byt s i)=true then ((stepP i r).1,((atI p k).next.toNat,sl)::(stepP i r).2)
  else stepP i r
def orP (a b:Option Slots):Option Slots:=match a with|some x=>some x|none=>b
def startP (none_:Slots) (found:Option Slots) (l:List Way):List Way:=match found with|some _=>l|none=>l++[(0,none_)]
def runGo (none_:Slots):Nat→Nat→List Way→Option Slots→List Int→Option Slots
 | 0,_,_,found,_=>found
 | n+1,i,l,found,m =>
  let a:=leadP p s i (startP none_ found l) m
  let b:=stepP p s i a.2
  if (orP b.1 found).isSome&&b.2.isEmpty then orP b.1 found else runGo none_ n (i+1) b.2 (orP b.1 found) a.1
def runP (at_:Int):Option Slots :=
 if at_<0∨(s.length:Int)<at_∨rightP p=false then none
 else runGo p s (List.replicate (slotsP p) (-1)) (s.length+1 - at_.toNat) at_.toNat [] none (List.replicate p.length 0)
variable {p s}
theorem Dfs.one {f:Option Slots} {st:List Ent} {S:Nat→Nat→Bool} {a b:Option Slots} (h:Dfs p s f st S a) (k:Dfs p s f st S b):a=b:=by
 induction h generalizing b with
 | nil S=>cases k;rfl
 | seen k i sl r S res hs hr ih =>
  cases k with
  | seen _ _ _ _ _ _ _ h=>exact ih h
  | hit _ _ _ _ _ h=>rw[hs]at h;cases h
  | go _ _ _ _ _ _ h=>rw[hs]at h;cases h
 | hit k i sl r S hs hk =>
  cases k with
  | seen _ _ _ _ _ _ h=>rw[hs]at h;cases h
  | hit=>rfl
  | go _ _ _ _ _ _ _ h=>exact absurd hk h
 | go k i sl r S res hs hk hr ih =>
  cases k with
  | seen _ _ _ _ _ _ h=>rw[hs]at h;cases h
  | hit _ _ _ _ _ _ h=>exact absurd h hk
  | go _ _ _ _ _ _ _ _ h=>exact ih h
def Above (i:Nat) (st:List Ent):Prop:=∀ e ∈ st,i≤e.2.1
theorem Above.cons {i:Nat} {e:Ent} {st:List Ent} (h:Above i (e::st)):Above i st:=fun x hx=>h x (List.mem_cons_of_mem _ hx)
theorem Above.append {i:Nat} {a b:List Ent} (h:Above i a) (k:Above i b):Above i (a++b):=fun x hx=>(List.mem_append.1 hx).elim (h x) (k x)
theorem suc_above {k i j:Nat} {sl:Slots} (h:j≤i):Above j (sucE p s k i sl):=by
 intro e he;unfold sucE at he;simp only at he;split at he
 ·split at he
  ·simp at he;subst he;simp;omega
  ·cases he
 split at he
 ·simp at he;rcases he with rfl|rfl<;>simpa
 split at he
 ·simp at he;subst he;simpa
 split at he
 ·split at he
  ·simp at he;subst he;simpa
  ·cases he
 ·cases he
theorem Dfs.frame {f:Option Slots} {st:List Ent} {S T:Nat→Nat→Bool} {res:Option Slots} {i:Nat} (h:Dfs p s f st S res) (ha:Above i st) (hST:∀ k j,i≤j→T k j=S k j):Dfs p s f st T res:=by
 induction h generalizing T with
 | nil S=>exact .nil T
 | seen k j sl r S res hs hr ih=>exact .seen _ _ _ _ _ _ ((hST k j (ha _ (List.mem_cons_self ..))).trans hs) (ih ha.cons hST)
 | hit k j sl r S hs hk=>exact .hit _ _ _ _ _ ((hST k j (ha _ (List.mem_cons_self ..))).trans hs) hk
 | go k j sl r S res hs hk hr ih =>
  have hj:=ha _ (List.mem_cons_self ..);refine .go _ _ _ _ _ _ ((hST k j hj).trans hs) hk (ih ((suc_above hj).append ha.cons) fun a b hb=>?_)
  unfold upS;split
  ·rfl
  ·exact hST a b hb
def lvl (S:Nat→Nat→Bool) (i:Nat) (m:List Int):Nat→Nat→Bool:=fun k j=>if j=i then m.getD k 0 == (i:Int)+1 else S k j
theorem lvl_lvl (S:Nat→Nat→Bool) (i:Nat) (m m':List Int):lvl (lvl S i m) i m'=lvl S i m':=by
 funext k j;unfold lvl;split<;>rfl
theorem Dfs.swap {f g:Option Slots} {A B:List Ent} {res:Option Slots} {i:Nat} {m m':List Int}
  (K:∀ T:Nat→Nat→Bool,(∀ k,T k i=(m.getD k 0 == (i:Int)+1))→Dfs p s g A (lvl T i m') res→Dfs p s f B T res) :
  ∀ {st:List Ent} {V:Nat→Nat→Bool} {r:Option Slots},Dfs p s g st V r→r=res→∀ (X:List Ent) (S:Nat→Nat→Bool),st=X++A→V=lvl S i m'→Above (i+1) X→(∀ k,S k i=(m.getD k 0 == (i:Int)+1))→Dfs p s f (X++B) S res:=by
 intro st V r h
 induction h with
 | nil V =>
  intro hr X S e hV ha hS;obtain⟨rfl,rfl⟩:=List.append_eq_nil_iff.1 e.symm;subst hV hr;exact K S hS (.nil _)
 | seen k j sl r V res' hs hr ih =>
  intro hres X S e hV ha hS
  cases X with
  | nil =>
   simp only[List.nil_append]at e ⊢;subst hV hres;rw[← e]at K;exact K S hS (.seen _ _ _ _ _ _ hs hr)
  | cons x X =>
   simp only[List.cons_append,List.cons.injEq]at e;obtain⟨rfl,rfl⟩:=e;have hj:=ha _ (List.mem_cons_self ..);simp only at hj;refine .seen _ _ _ _ _ _ ?_ (ih hres X S rfl hV ha.cons hS);rw[hV]at hs;unfold lvl at hs
   rwa [if_neg (by omega)]at hs
 | hit k j sl r V hs hk =>
  intro hres X S e hV ha hS
  cases X with
  | nil =>
   simp only[List.nil_append]at e ⊢;subst hV hres;rw[← e]at K;exact K S hS (.hit _ _ _ _ _ hs hk)
  | cons x X =>
   simp only[List.cons_append,List.cons.injEq]at e;obtain⟨rfl,rfl⟩:=e;have hj:=ha _ (List.mem_cons_self ..);simp only at hj;subst hres;refine .hit _ _ _ _ _ ?_ hk;rw[hV]at hs;unfold lvl at hs
   rwa [if_neg (by omega)]at hs
 | go k j sl r V res' hs hk hr ih =>
  intro hres X S e hV ha hS
  cases X with
  | nil =>
   simp only[List.nil_append]at e ⊢;subst hV hres;rw[← e]at K;exact K S hS (.go _ _ _ _ _ _ hs hk hr)
  | cons x X =>
   simp only[List.cons_append,List.cons.injEq]at e;obtain⟨rfl,rfl⟩:=e;have hj:=ha _ (List.mem_cons_self ..);simp only at hj;refine .go _ _ _ _ _ _ ?_ hk ?_
   ·rw[hV]at hs;unfold lvl at hs
    rwa [if_neg (by omega)]at hs
   ·show Dfs p s f (sucE p s k j sl++(X++B)) _ _
    rw[← List.append_assoc];refine ih hres _ (upS S k j) (by rw[List.append_assoc]) ?_ ((suc_above hj).append ha.cons) (fun a=>?_)
    ·rw[hV];funext a b;unfold upS lvl
     by_cases hb:b=i
     ·simp[hb];omega
     ·simp[hb]
    ·unfold upS;rw[if_neg (by omega)];exact hS a
def at_ (i:Nat) (l:List Way):List Ent:=l.map fun e=>(e.1,i,e.2)
theorem at_above (i j:Nat) (l:List Way) (h:i≤j):Above i (at_ j l):=by
 intro e he;obtain⟨x,_,rfl⟩:=List.mem_map.1 he;exact h
theorem at_append (i:Nat) (a b:List Way):at_ i (a++b)=at_ i a++at_ i b:=by simp[at_]
def remF (o:Option Slots) (R:List Ent):List Ent:=match o with|some _=>[]|none=>R
theorem step_append (i:Nat):∀ a b:List Way,stepP p s i (a++b)=match stepP p s i a with|(some x,l)=>(some x,l)|(none,l)=>((stepP p s i b).1,l++(stepP p s i b).2)
 | [],b=>by simp[stepP]
 | (k,sl)::r,b=>by
  simp only[List.cons_append,stepP];split
  ·rfl
  ·rw[step_append i r b];split
   ·rcases stepP p s i r with ⟨_|x,l⟩<;>rfl
   ·rcases stepP p s i r with ⟨_|x,l⟩<;>rfl
def unm (i:Nat) (m:List Int):Nat:=m.countP (fun x=>!(x == (i:Int)+1))
theorem unm_set {i:Nat}:∀ {m:List Int} {k:Nat},k<m.length→m.getD k 0≠(i:Int)+1→unm i (m.set k ((i:Int)+1))+1=unm i m
 | [],_,h,_=>by simp at h
 | x::m,0,_,hx=>by
  have hx':x≠(i:Int)+1:=by simpa using hx
  simp[unm,hx']
 | x::m,k+1,h,hx=>by
  have ih:=unm_set (i:=i) (m:=m) (k:=k) (by simpa using h) (by simpa using hx)
  simp only[unm,List.set_cons_succ,List.countP_cons]at *;omega
theorem getD_set_self {m:List Int} {k:Nat} {v:Int} (h:k<m.length):(m.set k v).getD k 0=v:=by simp[List.getD_eq_getElem?_getD,h]
theorem getD_set_other {m:List Int} {k j:Nat} {v:Int} (h:j≠k):(m.set k v).getD j 0=m.getD j 0:=by simp[List.getD_eq_getElem?_getD,Ne.symm h]
theorem unm_le (i:Nat) (m:List Int):unm i m≤m.length:=List.countP_le_length
def ClosedP (p:List InstD):Prop:=0<p.length∧∀ k,k<p.length→((atI p k).kind≠5→(atI p k).next.toNat<p.length)∧((atI p k).kind=2→(atI p k).other.toNat<p.length)
def InW (p:List InstD) (l:List Way):Prop:=∀ e ∈ l,e.1<p.length
theorem InW.cons {e:Way} {l:List Way} (h:e.1<p.length) (k:InW p l):InW p (e::l):=fun x hx=>(List.mem_cons.1 hx).elim (fun e=>e ▸ h) (k x)
theorem InW.tail {e:Way} {l:List Way} (h:InW p (e::l)):InW p l:=fun x hx=>h x (List.mem_cons_of_mem _ hx)
theorem InW.append {a b:List Way} (h:InW p a) (k:InW p b):InW p (a++b):=fun x hx=>(List.mem_append.1 hx).elim (h x) (k x)
theorem lvl_up (S:Nat→Nat→Bool) (k i:Nat) (m:List Int):lvl (upS S k i) i m=lvl S i m:=by
 funext a j;unfold lvl upS
 by_cases h:j=i
 ·simp[h]
 ·simp[h]
theorem lvl_self {S:Nat→Nat→Bool} {i:Nat} {m:List Int} (h:∀ k,S k i=(m.getD k 0 == (i:Int)+1)):lvl S i m=S:=by
 funext a j;unfold lvl
 split
 ·rename_i e;subst e;exact(h a).symm
 ·rfl
theorem up_marks {T:Nat→Nat→Bool} {i k:Nat} {m:List Int} (hk:k<m.length) (hT:∀ k,T k i=(m.getD k 0 == (i:Int)+1)):∀ a,upS T k i a i=((m.set k ((i:Int)+1)).getD a 0 == (i:Int)+1):=by
 intro a;unfold upS
 by_cases h:a=k
 ·subst h;rw[getD_set_self hk];simp
 ·rw[getD_set_other h];simp[h,hT]
theorem waits_len (i:Nat):∀ (n:Nat) (l:List Way) (m:List Int),(waitsP p s i n l m).1.length=m.length
 | 0,_,_=>rfl
 | _+1,[],_=>rfl
 | n+1,(k,sl)::r,m=>by
  simp only[waitsP];split
  ·exact waits_len i n r m
  split
  ·rw[waits_len];simp
  split
  ·rw[waits_len];simp
  split
  ·split
   ·rw[waits_len];simp
   ·rw[waits_len];simp
  split
  ·simp only;rw[waits_len];simp
  ·rw[waits_len];simp
theorem waits_le (i:Nat) {j:Int} (hj:(i:Int)+1≤j):∀ (n:Nat) (l:List Way) (m:List Int),(∀ k,m.getD k 0≤j)→∀ k,(waitsP p s i n l m).1.getD k 0≤j
 | 0,_,_,h=>h
 | _+1,[],_,h=>h
 | n+1,(k,sl)::r,m,h=>by
  have h':∀ a,(m.set k ((i:Int)+1)).getD a 0≤j:=fun a=>by
   by_cases e:a=k
   ·subst e
    by_cases hl:a<m.length
    ·rw[getD_set_self hl];exact hj
    ·rw[List.set_eq_of_length_le (by omega)];exact h a
   ·rw[getD_set_other e];exact h a
  simp only[waitsP];split
  ·exact waits_le i hj n r m h
  split
  ·exact waits_le i hj n _ _ h'
  split
  ·exact waits_le i hj n _ _ h'
  split
  ·split
   ·exact waits_le i hj n _ _ h'
   ·exact waits_le i hj n _ _ h'
  split
  ·exact waits_le i hj n _ _ h'
  ·exact waits_le i hj n _ _ h'
theorem waits_in (hp:ClosedP p) (i:Nat):∀ (n:Nat) (l:List Way) (m:List Int),InW p l→InW p (waitsP p s i n l m).2
 | 0,_,_,_=>fun _ h=>by cases h
 | _+1,[],_,_=>fun _ h=>by cases h
 | n+1,(k,sl)::r,m,h=>by
  have hk:k<p.length:=h (k,sl) (List.mem_cons_self ..);obtain⟨h1,h2⟩:=hp.2 k hk;simp only[waitsP];split
  ·exact waits_in hp i n r m h.tail
  split
  ·rename_i hk2;exact waits_in hp i n _ _ (.cons (h1 (by rw[hk2];decide)) (.cons (h2 hk2) h.tail))
  split
  ·rename_i hk2;exact waits_in hp i n _ _ (.cons (h1 (by rw[hk2];decide)) h.tail)
  split
  ·rename_i hk2;split
   ·exact waits_in hp i n _ _ (.cons (h1 (by rw[hk2];decide)) h.tail)
   ·exact waits_in hp i n _ _ h.tail
  split
  ·exact .cons hk (waits_in hp i n _ _ h.tail)
  ·exact waits_in hp i n _ _ h.tail
theorem step_in (hp:ClosedP p) (i:Nat):∀ l:List Way,InW p l→InW p (stepP p s i l).2
 | [],_=>fun _ h=>by cases h
 | (k,sl)::r,h=>by
  have hk:k<p.length:=h (k,sl) (List.mem_cons_self ..);simp only[stepP];split
  ·intro _ h;cases h
  split
  ·rename_i h5 _;exact .cons ((hp.2 k hk).1 h5) (step_in hp i r h.tail)
  ·exact step_in hp i r h.tail
theorem step_end {i:Nat} (h:s.length≤i):∀ l:List Way,(stepP p s i l).2=[]
 | []=>rfl
 | (k,sl)::r=>by
  simp only[stepP];split
  ·rfl
  split
  ·omega
  ·exact step_end h r
theorem lead_len (i:Nat):∀ (l:List Way) (m:List Int),(leadP p s i l m).1.length=m.length
 | [],_=>rfl
 | e::r,m=>by simp only[leadP];rw[lead_len,waits_len]
theorem lead_le (i:Nat) {j:Int} (hj:(i:Int)+1≤j):∀ (l:List Way) (m:List Int),(∀ k,m.getD k 0≤j)→∀ k,(leadP p s i l m).1.getD k 0≤j
 | [],_,h=>h
 | e::r,m,h=>by simp only[leadP];exact lead_le i hj r _ (waits_le i hj _ _ _ h)
theorem lead_in (hp:ClosedP p) (i:Nat):∀ (l:List Way) (m:List Int),InW p l→InW p (leadP p s i l m).2
 | [],_,_=>fun _ h=>by cases h
 | e::r,m,h=>by
  simp only[leadP];exact(waits_in hp i _ _ _ (.cons (h e (List.mem_cons_self ..)) (fun _ h=>by cases h))).append (lead_in hp i r _ h.tail)
theorem waits_level (hp:ClosedP p) (i:Nat):∀ (n:Nat) (l:List Way) (m:List Int),m.length=p.length→InW p l→3 * unm i m+l.length<n→∀ (f:Option Slots) (R:List Ent) (T:Nat→Nat→Bool) (res:Option Slots),(∀ k,T k i=(m.getD k 0 == (i:Int)+1)) →
  Dfs p s (orP (stepP p s i (waitsP p s i n l m).2).1 f) (at_ (i+1) (stepP p s i (waitsP p s i n l m).2).2++remF (stepP p s i (waitsP p s i n l m).2).1 R) (lvl T i (waitsP p s i n l m).1) res→Dfs p s f (at_ i l++R) T res
 | 0,_,_,_,_,h=>by omega
 | n+1,[],m,_,_,_=>fun f R T res hT h=>by
  simp only[waitsP,stepP,orP,remF,at_,List.map_nil,List.nil_append]at h ⊢
  rwa [lvl_self hT]at h
 | n+1,(k,sl)::r,m,hm,hl,hn=>fun f R T res hT h=>by
  have hk:k<p.length:=hl (k,sl) (List.mem_cons_self ..);have hkm:k<m.length:=by omega
  obtain⟨h1,h2⟩:=hp.2 k hk;simp only[List.length_cons]at hn
  show Dfs p s f ((k,i,sl)::(at_ i r++R)) T res
  by_cases hmk:m.getD k 0=(i:Int)+1
  ·simp only[waitsP,if_pos hmk]at h;exact .seen _ _ _ _ _ _ (by rw[hT,hmk];simp) (waits_level hp i n r m hm hl.tail (by omega) f R T res hT h)
  ·have hu:=unm_set hkm hmk;have hTk:T k i=false:=by rw[hT,beq_eq_false_iff_ne];exact hmk
   have hT':=up_marks hkm hT;have hm':(m.set k ((i:Int)+1)).length=p.length:=by simpa using hm
   simp only[waitsP,if_neg hmk]at h
   by_cases k2:(atI p k).kind=2
   ·simp only[if_pos k2]at h;have hn5:(atI p k).kind≠5:=by rw[k2];decide
    refine .go _ _ _ _ _ _ hTk hn5 ?_
    have hs:sucE p s k i sl=[((atI p k).next.toNat,i,sl),((atI p k).other.toNat,i,sl)]:=by
     unfold sucE;simp[k2]
    rw[hs];exact waits_level hp i n _ _ hm' (.cons (h1 hn5) (.cons (h2 k2) hl.tail)) (by simp only[List.length_cons];omega) f R _ res hT' (by rw[lvl_up];exact h)
   ·simp only[if_neg k2]at h
    by_cases k3:(atI p k).kind=3
    ·simp only[if_pos k3]at h;have hn5:(atI p k).kind≠5:=by rw[k3];decide
     refine .go _ _ _ _ _ _ hTk hn5 ?_
     have hs:sucE p s k i sl=[((atI p k).next.toNat,i,sl.set (atI p k).slot.toNat i)]:=by
      unfold sucE;simp[k3]
     rw[hs];exact waits_level hp i n _ _ hm' (.cons (h1 hn5) hl.tail) (by simp only[List.length_cons];omega) f R _ res hT' (by rw[lvl_up];exact h)
    ·simp only[if_neg k3]at h
     by_cases k4:(atI p k).kind=4
     ·simp only[if_pos k4]at h;have hn5:(atI p k).kind≠5:=by rw[k4];decide
      refine .go _ _ _ _ _ _ hTk hn5 ?_
      by_cases hsp:isSpot (atI p k).spot s i=true
      ·simp only[if_pos hsp]at h;have hs:sucE p s k i sl=[((atI p k).next.toNat,i,sl)]:=by
        unfold sucE;simp[k4,hsp]
       rw[hs];exact waits_level hp i n _ _ hm' (.cons (h1 hn5) hl.tail) (by simp only[List.length_cons];omega) f R _ res hT' (by rw[lvl_up];exact h)
      ·simp only[if_neg hsp]at h;have hs:sucE p s k i sl=[]:=by
        unfold sucE;simp[k4,hsp]
       rw[hs];exact waits_level hp i n _ _ hm' hl.tail (by omega) f R _ res hT' (by rw[lvl_up];exact h)
     ·simp only[if_neg k4]at h
      by_cases k15:(atI p k).kind=1∨(atI p k).kind=5
      ·simp only[if_pos k15]at h
       by_cases k5:(atI p k).kind=5
       ·simp only[stepP,if_pos k5,orP,remF,at_,List.map_nil,List.nil_append]at h
        cases h
        exact .hit _ _ _ _ _ hTk k5
       ·have k1:(atI p k).kind=1:=k15.resolve_right k5;refine .go _ _ _ _ _ _ hTk k5 ?_
        by_cases hb:i<s.length∧hasB (atI p k).set (byt s i)=true
        ·simp only[stepP,if_neg k5,if_pos hb]at h;have hs:sucE p s k i sl=[((atI p k).next.toNat,i+1,sl)]:=by
          unfold sucE;simp[k1,hb]
         rw[hs];refine Dfs.swap (i:=i) (m:=m.set k ((i:Int)+1)) (m':=(waitsP p s i n r (m.set k ((i:Int)+1))).1) (fun T' hT2 h2=>waits_level hp i n r _ hm' hl.tail (by omega) f R T' res hT2 h2) (by rw[lvl_up];exact h) rfl [_] _ rfl rfl (fun x hx=>?_) hT'
         simp at hx;subst hx;exact Nat.le_refl _
        ·simp only[stepP,if_neg k5,if_neg hb]at h;have hs:sucE p s k i sl=[]:=by
          unfold sucE;simp only[k1];simp[hb]
         rw[hs];exact waits_level hp i n _ _ hm' hl.tail (by omega) f R _ res hT' (by rw[lvl_up];exact h)
      ·simp only[if_neg k15]at h;have hn5:(atI p k).kind≠5:=fun e=>k15 (.inr e)
       have hn1:(atI p k).kind≠1:=fun e=>k15 (.inl e)
       refine .go _ _ _ _ _ _ hTk hn5 ?_
       have hs:sucE p s k i sl=[]:=by
        unfold sucE;simp[k2,k3,k4,hn1]
       rw[hs];exact waits_level hp i n _ _ hm' hl.tail (by omega) f R _ res hT' (by rw[lvl_up];exact h)
theorem lead_level (hp:ClosedP p) (i:Nat):∀ (l:List Way) (m:List Int),m.length=p.length→InW p l→∀ (f:Option Slots) (R:List Ent) (T:Nat→Nat→Bool) (res:Option Slots),(∀ k,T k i=(m.getD k 0 == (i:Int)+1)) →
  Dfs p s (orP (stepP p s i (leadP p s i l m).2).1 f) (at_ (i+1) (stepP p s i (leadP p s i l m).2).2++remF (stepP p s i (leadP p s i l m).2).1 R) (lvl T i (leadP p s i l m).1) res→Dfs p s f (at_ i l++R) T res
 | [],m,_,_=>fun f R T res hT h=>by
  simp only[leadP,stepP,orP,remF,at_,List.map_nil,List.nil_append]at h ⊢
  rwa [lvl_self hT]at h
 | e::r,m,hm,hl=>fun f R T res hT h=>by
  have hm1:=(waits_len (p:=p) (s:=s) i (fuelP p) [e] m).trans hm;have hE:InW p [e]:=.cons (hl e (List.mem_cons_self ..)) (fun _ h=>by cases h)
  have hfu:3 * unm i m+[e].length<fuelP p:=by
   have:=unm_le i m;simp only[List.length_cons,List.length_nil,fuelP];omega
  have key:=waits_level (s:=s) hp i (fuelP p) [e] m hm hE hfu f (at_ i r++R) T res hT;refine key ?_
  simp only[leadP]at h;rw[step_append]at h
  revert h
  generalize hst:stepP p s i (waitsP p s i (fuelP p) [e] m).2=st
  rcases st with ⟨_|x,l1⟩
  ·intro h;simp only[orP,remF]at h ⊢;have hh:=Dfs.swap (p:=p) (s:=s) (f:=f) (g:=orP (stepP p s i (leadP p s i r (waitsP p s i (fuelP p) [e] m).1).2).1 f) (A:=at_ (i+1) (stepP p s i (leadP p s i r (waitsP p s i (fuelP p) [e] m).1).2).2++remF (stepP p s i (leadP p s i r (waitsP p s i (fuelP p) [e] m).1).2).1 R) (B:=at_ i r++R) (res:=res) (i:=i) (m:=(waitsP p s i (fuelP p) [e] m).1) (m':=(leadP p s i r (waitsP p s i (fuelP p) [e] m).1).1)
    (fun T' hT2 h2=>lead_level hp i r _ hm1 hl.tail f R T' res hT2 h2)
    (st:=at_ (i+1) l1++(at_ (i+1) (stepP p s i (leadP p s i r (waitsP p s i (fuelP p) [e] m).1).2).2++remF (stepP p s i (leadP p s i r (waitsP p s i (fuelP p) [e] m).1).2).1 R))
    (V:=lvl T i (leadP p s i r (waitsP p s i (fuelP p) [e] m).1).1) (r:=res)
    (by rw[at_append,List.append_assoc]at h;exact h) rfl (at_ (i+1) l1) (lvl T i (waitsP p s i (fuelP p) [e] m).1) rfl (lvl_lvl ..).symm (at_above _ _ _ (Nat.le_refl _)) (fun k=>by unfold lvl;rw[if_pos rfl])
   exact hh
  ·intro h;simp only[orP,remF,List.append_nil]at h ⊢;exact h.frame (at_above _ _ _ (Nat.le_refl _)) (fun k j hj=>by unfold lvl;rw[if_neg (by omega),if_neg (by omega)])
def startsP (none_:Slots) (found:Option Slots) (i n:Nat):List Ent:=match found with|some _=>[]|none=>(List.range' i n).map fun j=>(0,j,none_)
theorem run_dfs (hp:ClosedP p) (none_:Slots):∀ (n i:Nat) (l:List Way) (found:Option Slots) (m:List Int),n+i=s.length+1→(n=0→l=[])→m.length=p.length→(∀ k,m.getD k 0≤i)→InW p l→∀ S:Nat→Nat→Bool,(∀ k j,i≤j→S k j=false) →
  Dfs p s found (at_ i l++startsP none_ found i n) S (runGo p s none_ n i l found m)
 | 0,i,l,found,m,hn,h0,hm,hmi,hl,S,hS=>by
  rw[h0 rfl];simp only[runGo,at_,List.map_nil,List.nil_append]
  cases found<;>exact .nil S
 | n+1,i,l,found,m,hn,h0,hm,hmi,hl,S,hS=>by
  have e:at_ i l++startsP none_ found i (n+1)=at_ i (startP none_ found l)++startsP none_ found (i+1) n:=by
   cases found with
   | some x=>rfl
   | none=>simp[startsP,startP,at_,List.range'_succ]
  have hl':InW p (startP none_ found l):=by
   cases found with
   | some x=>exact hl
   | none=>exact hl.append (.cons hp.1 (fun _ h=>by cases h))
  have hT:∀ k,S k i=(m.getD k 0 == (i:Int)+1):=fun k=>by
   rw[hS k i (Nat.le_refl _)];have:=hmi k
   symm;rw[beq_eq_false_iff_ne];omega
  rw[e];refine lead_level hp i _ m hm hl' found _ S _ hT ?_
  have hin:=step_in (s:=s) hp i _ (lead_in (s:=s) hp i _ m hl');have hle:=lead_le (p:=p) (s:=s) i (Int.le_refl _) (startP none_ found l) m (fun k=>Int.le_trans (hmi k) (by omega))
  have hlen:=(lead_len (p:=p) (s:=s) i (startP none_ found l) m).trans hm;have hend:n=0→(stepP p s i (leadP p s i (startP none_ found l) m).2).2=[]:=fun h=>step_end (by omega) _
  simp only[runGo]
  revert hin hle hlen hend
  generalize leadP p s i (startP none_ found l) m=a
  generalize stepP p s i a.2=b
  intro hin hle hlen hend;have er:remF b.1 (startsP none_ found (i+1) n)=startsP none_ (orP b.1 found) (i+1) n:=by
   rcases b with ⟨_|x,l1⟩<;>rfl
  rw[er];split
  ·rename_i hc;simp only[Bool.and_eq_true,List.isEmpty_iff]at hc;rw[hc.2];obtain⟨x,hx⟩:=Option.isSome_iff_exists.1 hc.1;rw[hx];exact .nil _
  ·exact run_dfs hp none_ n (i+1) _ _ _ (by omega) hend hlen (fun k=>by have:=hle k;omega) hin _ (fun k j hj=>by unfold lvl;rw[if_neg (by omega)];exact hS k j (by omega))
theorem closed_right (h:rightP p=true):ClosedP p:=by
 simp only[rightP,Bool.and_eq_true,decide_eq_true_eq,List.all_eq_true]at h;obtain⟨⟨h1,_⟩,h3⟩:=h;refine⟨h1,fun k hk=>?_⟩
 have hx:=h3 (atI p k) (by unfold atI;rw[List.getD_eq_getElem?_getD,List.getElem?_eq_getElem hk];exact List.getElem_mem hk)
 revert hx
 generalize atI p k=x
 intro hx;unfold rightI at hx;split at hx
 ·simp[inN]at hx;refine⟨fun _=>by omega,fun h=>by omega⟩
 split at hx
 ·simp[inN]at hx;refine⟨fun _=>by omega,fun h=>by omega⟩
 split at hx
 ·simp[inN]at hx;refine⟨fun _=>by omega,fun h=>by omega⟩
 split at hx
 ·simp[inN]at hx;refine⟨fun _=>by omega,fun h=>by omega⟩
 split at hx
 ·simp at hx;refine⟨fun _=>by omega,fun h=>by omega⟩
 ·cases hx
theorem runP_dfs {a:Int} (h0:0≤a) (h1:a≤s.length) (h:rightP p=true):Dfs p s none (startsP (List.replicate (slotsP p) (-1)) none a.toNat (s.length+1 - a.toNat)) (fun _ _=>false) (runP p s a):=by
 unfold runP;rw[if_neg (by rw[h];simp;omega)]
 have:=run_dfs (s:=s) (closed_right h) (List.replicate (slotsP p) (-1)) (s.length+1 - a.toNat) a.toNat [] none (List.replicate p.length 0) (by omega) (fun _=>rfl) (by simp) (fun k=>by
  rw[List.getD_eq_getElem?_getD]
  by_cases hk:k<p.length
  ·simp[hk];omega
  ·simp[hk];omega) (fun _ h=>by cases h) (fun _ _=>false) (fun _ _ _=>rfl)
 simpa [at_] using this
end
end Go.Proofs.YtdoflhjhaciepaaGreat
namespace Go.Proofs.YtdoflhjhaciepaaGreat
open Go.RowKit Go.Shelf
def instC (x:InstD):Array Value:=#[.int .i64 x.kind,.int .u64 (x.set 0),.int .u64 (x.set 1),.int .u64 (x.set 2),.int .u64 (x.set 3),.int .i64 x.next,.int .i64 x.other,.int .i64 x.slot,.int .i64 x.spot]
abbrev instV (x:InstD):Value:=.agg (instC x)
theorem ig0 (x:InstD):(instC x)[0]?=some (.int .i64 x.kind):=rfl
theorem ig5 (x:InstD):(instC x)[5]?=some (.int .i64 x.next):=rfl
theorem ig6 (x:InstD):(instC x)[6]?=some (.int .i64 x.other):=rfl
theorem ig7 (x:InstD):(instC x)[7]?=some (.int .i64 x.slot):=rfl
theorem ig8 (x:InstD):(instC x)[8]?=some (.int .i64 x.spot):=rfl
theorem instsX_size (xs:List InstD):∀ r ∈ xs.map instC,r.size=9:=by
 intro r hr;obtain⟨x,_,rfl⟩:=List.mem_map.1 hr;rfl
def InstsR (F:Nat→Prop) (p:Option Addr) (c:Nat) (xs:List InstD) (V:World):Prop:=RdN 9 V F (.slice p xs.length c) (xs.map instC)
section
variable {F:Nat→Prop} {p:Option Addr} {n c:Nat} {xs:List InstD} {V W w0:World}
theorem InstsR.kept (h:InstsR F p c xs W) (hV:∀ b,F b→V.heap[b]?=W.heap[b]?):InstsR F p c xs V:=RdN.kept h hV
theorem InstsR.bound (h:InstsR F p c xs W):xs.length≤c∧c≤9223372036854775807:=by
 obtain⟨p',c',e,h1,h2,_⟩:=h;simp only[Value.slice.injEq]at e;obtain⟨rfl,_,rfl⟩:=e;rw[List.length_map]at h1;exact⟨h1,by simpa [maxLen] using h2⟩
theorem InstsR.at (h:InstsR F p c xs W) (hn:0<xs.length):∃ b off,p=some ⟨b,off,none⟩:=by
 obtain⟨p',c',e,_,_,_,h3⟩:=h;simp only[Value.slice.injEq]at e;obtain⟨rfl,_,rfl⟩:=e;obtain⟨b,off,e2,_⟩:=h3 0 (instC xs[0]) (by rw[List.getElem?_map,List.getElem?_eq_getElem hn];rfl)
 exact⟨b,off,e2⟩
theorem InstsR.cells {b off:Nat} (h:InstsR F (some ⟨b,off,none⟩) c xs V) {j:Nat} {x:InstD} (hj:xs[j]?=some x) {q:Nat} (hq:off+j * 9=q):∀ k,k<9→V.cell? ⟨b,q+k,none⟩=(instC x)[k]?:=by
 obtain⟨p,c,e1,_,_,_,h3⟩:=h;obtain⟨b',off',e2,_,_,h4⟩:=h3 j (instC x) (by rw[List.getElem?_map,hj];rfl)
 simp only[Value.slice.injEq]at e1;obtain⟨rfl,_,rfl⟩:=e1
 cases e2;subst hq
 exact h4
theorem Hold.insts (hF:∀ b,F b→b<w0.heap.size) (h:InstsR F p c xs w0):Hold w0 w0 [.kn F (InstsR F p c xs)] :=
 (Hold.start w0).know F (InstsR F p c xs) hF (fun i r h=>by simp at h) (fun V hV=>h.kept hV)
end
theorem row_Inst:rowB Tryz.prog 43 9=true:=by kernel_rfl
theorem zInst:zeroC Tryz.prog 43=instC {kind:=0}:=by kernel_rfl
theorem zInst_size:(zeroC Tryz.prog 43).size=9:=by kernel_rfl
theorem run_sne {o:Oper} {a:Act} {w:World} {x y:Operand} {U:TypeId} {s u:Nat→Nat} (hop:o.op=.binOp .neq 40 x y U) (hx:a.eval x=setV s) (hy:a.eval y=setV u):(execOp a.eval o).run Tryz.prog w=.ok (.value (.bool (!(eqS s u)))) w:=by
 have he:=run_eqSet s u w;simp only[execOp,hop,hx,hy];unfold setV;simp[go_sem,he]
theorem run_setE {o:Oper} {a:Act} {w:World} (hop:o.op=.build 40 #[]):(execOp a.eval o).run Tryz.prog w=.ok (.value (setV emptyS)) w:=by
 have h:(Instr.build 40 #[]).run Tryz.prog w=.ok (setV emptyS) w:=by kernel_rfl
 simp only[execOp,hop,List.map_toArray,List.map_nil,Sem.run_bind,h];rfl
theorem run_lenS {P:Program} {o:Oper} {a:Act} {w:World} {x:Operand} {t e:TypeId} (hu:P.underlying t=some (.slice e)) {p:Option Addr} {n c:Nat} (hop:o.op=Op.call {callee:=Callee.builtin Builtin.len,args:=#[x],argTypes:=#[t]}) (hx:a.eval x=.slice p n c) :
  (execOp a.eval o).run P w=.ok (.value (.int .i64 n)) w:=by
 simp only[execOp,hop,resolve,invoke,builtin,List.map_toArray,List.map_cons,List.map_nil,hx];simp[go_sem,Builtin.len_,run_underlying hu]
theorem run_ib1 (k:Int) (W:World):(Instr.build 43 #[(0,.int .i64 k)]).run Tryz.prog W=.ok (instV {kind:=k}) W:=by simp[go_sem];rfl
theorem run_ib2 (k n:Int) (s:Nat→Nat) (W:World):(Instr.build 43 #[(0,.int .i64 k),(1,setV s),(2,.int .i64 n)]).run Tryz.prog W=.ok (instV {kind:=k,set:=s,next:=n}) W:=by unfold setV;simp[go_sem];rfl
theorem run_ib3 (k n o:Int) (W:World):(Instr.build 43 #[(0,.int .i64 k),(2,.int .i64 n),(3,.int .i64 o)]).run Tryz.prog W=.ok (instV {kind:=k,next:=n,other:=o}) W:=by simp[go_sem];rfl
theorem run_ib4 (k l n:Int) (W:World):(Instr.build 43 #[(0,.int .i64 k),(4,.int .i64 l),(2,.int .i64 n)]).run Tryz.prog W=.ok (instV {kind:=k,slot:=l,next:=n}) W:=by simp[go_sem];rfl
theorem run_ib5 (k p n:Int) (W:World):(Instr.build 43 #[(0,.int .i64 k),(5,.int .i64 p),(2,.int .i64 n)]).run Tryz.prog W=.ok (instV {kind:=k,spot:=p,next:=n}) W:=by simp[go_sem];rfl
theorem run_ib6 (k n:Int) (W:World):(Instr.build 43 #[(0,.int .i64 k),(2,.int .i64 n)]).run Tryz.prog W=.ok (instV {kind:=k,next:=n}) W:=by simp[go_sem];rfl
section
variable {M:Nat→Prop} {ops:Array Oper} {dst:Option Tmp} {ty:TypeId} {pos:String} {aft:Array Edge} {grd:Option (Nat × Bool)} {rest:List Oper} {a:Act} {w w0:World} {l:List Res} {Q:Exit→Act→World→Prop}
theorem gTi {x y:Operand} (h:wpList Tryz.prog ops Q ((⟨dst,.store 43 x y,ty,pos,aft,grd⟩:Oper)::rest) a w):wpList Tryz.prog ops Q ((⟨dst,.store 43 x y,ty,pos,aft,grd⟩:Oper)::rest) a w:=h
theorem gLi {x:Operand} (h:wpList Tryz.prog ops Q ((⟨dst,.load 43 x,ty,pos,aft,grd⟩:Oper)::rest) a w):wpList Tryz.prog ops Q ((⟨dst,.load 43 x,ty,pos,aft,grd⟩:Oper)::rest) a w:=h
theorem gBi {x:Array (Nat × Operand)} (h:wpList Tryz.prog ops Q ((⟨dst,.build 43 x,ty,pos,aft,grd⟩:Oper)::rest) a w):wpList Tryz.prog ops Q ((⟨dst,.build 43 x,ty,pos,aft,grd⟩:Oper)::rest) a w:=h
theorem ib1 {x0:Operand} {k:Int} (h:wpList Tryz.prog ops Q rest (a.put dst (instV {kind:=k})) w) (hg:Region.wanted (⟨dst,.build 43 #[(0,x0)],ty,pos,aft,grd⟩:Oper) (yielded ops a.tmps)=true:=by first|rfl|exact wanted_g rfl (yielded_of rfl (by first|rfl|(simp only[pe];rfl)))) (h0:a.eval x0=.int .i64 k:=by first|(simp only[pe];done)|(simp only[pe];rfl)):wpList Tryz.prog ops Q ((⟨dst,.build 43 #[(0,x0)],ty,pos,aft,grd⟩:Oper)::rest) a w :=
 own_pure hg (by
  simp only[execOp,List.map_toArray,List.map_cons,List.map_nil,h0,Sem.run_bind,run_ib1];rfl) h
theorem ib2 {x0 x1 x2:Operand} {k n:Int} {s:Nat→Nat} (h:wpList Tryz.prog ops Q rest (a.put dst (instV {kind:=k,set:=s,next:=n})) w) (hg:Region.wanted (⟨dst,.build 43 #[(0,x0),(1,x1),(2,x2)],ty,pos,aft,grd⟩:Oper) (yielded ops a.tmps)=true:=by first|rfl|exact wanted_g rfl (yielded_of rfl (by first|rfl|(simp only[pe];rfl)))) (h0:a.eval x0=.int .i64 k:=by first|(simp only[pe];done)|(simp only[pe];rfl)) (h1:a.eval x1=setV s:=by (try simp only[pe]);with_reducible rfl) (h2:a.eval x2=.int .i64 n:=by first|(simp only[pe];done)|(simp only[pe];rfl)):wpList Tryz.prog ops Q ((⟨dst,.build 43 #[(0,x0),(1,x1),(2,x2)],ty,pos,aft,grd⟩:Oper)::rest) a w :=
 own_pure hg (by
  simp only[execOp,List.map_toArray,List.map_cons,List.map_nil,h0,h1,h2,Sem.run_bind,run_ib2];rfl) h
theorem ib3 {x0 x2 x3:Operand} {k n o:Int} (h:wpList Tryz.prog ops Q rest (a.put dst (instV {kind:=k,next:=n,other:=o})) w) (hg:Region.wanted (⟨dst,.build 43 #[(0,x0),(2,x2),(3,x3)],ty,pos,aft,grd⟩:Oper) (yielded ops a.tmps)=true:=by first|rfl|exact wanted_g rfl (yielded_of rfl (by first|rfl|(simp only[pe];rfl)))) (h0:a.eval x0=.int .i64 k:=by first|(simp only[pe];done)|(simp only[pe];rfl)) (h2:a.eval x2=.int .i64 n:=by first|(simp only[pe];done)|(simp only[pe];rfl)) (h3:a.eval x3=.int .i64 o:=by first|(simp only[pe];done)|(simp only[pe];rfl)):wpList Tryz.prog ops Q ((⟨dst,.build 43 #[(0,x0),(2,x2),(3,x3)],ty,pos,aft,grd⟩:Oper)::rest) a w :=
 own_pure hg (by
  simp only[execOp,List.map_toArray,List.map_cons,List.map_nil,h0,h2,h3,Sem.run_bind,run_ib3];rfl) h
theorem ib4 {x0 x4 x2:Operand} {k l n:Int} (h:wpList Tryz.prog ops Q rest (a.put dst (instV {kind:=k,slot:=l,next:=n})) w) (hg:Region.wanted (⟨dst,.build 43 #[(0,x0),(4,x4),(2,x2)],ty,pos,aft,grd⟩:Oper) (yielded ops a.tmps)=true:=by first|rfl|exact wanted_g rfl (yielded_of rfl (by first|rfl|(simp only[pe];rfl)))) (h0:a.eval x0=.int .i64 k:=by first|(simp only[pe];done)|(simp only[pe];rfl)) (h4:a.eval x4=.int .i64 l:=by first|(simp only[pe];done)|(simp only[pe];rfl)) (h2:a.eval x2=.int .i64 n:=by first|(simp only[pe];done)|(simp only[pe];rfl)):wpList Tryz.prog ops Q ((⟨dst,.build 43 #[(0,x0),(4,x4),(2,x2)],ty,pos,aft,grd⟩:Oper)::rest) a w :=
 own_pure hg (by
  simp only[execOp,List.map_toArray,List.map_cons,List.map_nil,h0,h4,h2,Sem.run_bind,run_ib4];rfl) h
theorem ib5 {x0 x5 x2:Operand} {k p n:Int} (h:wpList Tryz.prog ops Q rest (a.put dst (instV {kind:=k,spot:=p,next:=n})) w) (hg:Region.wanted (⟨dst,.build 43 #[(0,x0),(5,x5),(2,x2)],ty,pos,aft,grd⟩:Oper) (yielded ops a.tmps)=true:=by first|rfl|exact wanted_g rfl (yielded_of rfl (by first|rfl|(simp only[pe];rfl)))) (h0:a.eval x0=.int .i64 k:=by first|(simp only[pe];done)|(simp only[pe];rfl)) (h5:a.eval x5=.int .i64 p:=by first|(simp only[pe];done)|(simp only[pe];rfl)) (h2:a.eval x2=.int .i64 n:=by first|(simp only[pe];done)|(simp only[pe];rfl)):wpList Tryz.prog ops Q ((⟨dst,.build 43 #[(0,x0),(5,x5),(2,x2)],ty,pos,aft,grd⟩:Oper)::rest) a w :=
 own_pure hg (by
  simp only[execOp,List.map_toArray,List.map_cons,List.map_nil,h0,h5,h2,Sem.run_bind,run_ib5];rfl) h
theorem ib6 {x0 x2:Operand} {k n:Int} (h:wpList Tryz.prog ops Q rest (a.put dst (instV {kind:=k,next:=n})) w) (hg:Region.wanted (⟨dst,.build 43 #[(0,x0),(2,x2)],ty,pos,aft,grd⟩:Oper) (yielded ops a.tmps)=true:=by first|rfl|exact wanted_g rfl (yielded_of rfl (by first|rfl|(simp only[pe];rfl)))) (h0:a.eval x0=.int .i64 k:=by first|(simp only[pe];done)|(simp only[pe];rfl)) (h2:a.eval x2=.int .i64 n:=by first|(simp only[pe];done)|(simp only[pe];rfl)):wpList Tryz.prog ops Q ((⟨dst,.build 43 #[(0,x0),(2,x2)],ty,pos,aft,grd⟩:Oper)::rest) a w :=
 own_pure hg (by
  simp only[execOp,List.map_toArray,List.map_cons,List.map_nil,h0,h2,Sem.run_bind,run_ib6];rfl) h
theorem aTi (H:HoldG M w0 w l) {x y:Operand} {i b:Nat} {cs:Array Value} {U:TypeId} {d:InstD} (h:∀ w',HoldG M w0 w' (l.set i (.blk b (instC d) U))→wpList Tryz.prog ops Q rest (a.put dst undef) w') (hg:Region.wanted (⟨dst,.store 43 x y,ty,pos,aft,grd⟩:Oper) (yielded ops a.tmps)=true:=by first|rfl|exact wanted_g rfl (yielded_of rfl (by first|rfl|(simp only[pe];rfl)))) (hx:a.eval x=.pointer (some ⟨b,0,none⟩):=by exact rfl) (hy:a.eval y=instV d:=by first|(simp only[pe];done)|(simp only[pe];rfl)) (hi:At l i (.blk b cs U):=by repeat (first|(with_reducible exact At.zero)|apply At.succ)) (hn:cs.size=9:=by first|(with_reducible exact zInst_size)|rfl):wpList Tryz.prog ops Q ((⟨dst,.store 43 x y,ty,pos,aft,grd⟩:Oper)::rest) a w :=
 own_store hg 43 x y rfl hx hy H hi (row_size row_Inst) rfl hn rfl h
theorem aLi (H:HoldG M w0 w l) {x:Operand} {i b:Nat} {cs:Array Value} {U:TypeId} (h:wpList Tryz.prog ops Q rest (a.put dst (.agg cs)) w) (hg:Region.wanted (⟨dst,.load 43 x,ty,pos,aft,grd⟩:Oper) (yielded ops a.tmps)=true:=by first|rfl|exact wanted_g rfl (yielded_of rfl (by first|rfl|(simp only[pe];rfl)))) (hx:a.eval x=.pointer (some ⟨b,0,none⟩):=by exact rfl) (hi:At l i (.blk b cs U):=by repeat (first|(with_reducible exact At.zero)|apply At.succ)) (hn:cs.size=9:=by first|(with_reducible exact zInst_size)|rfl):wpList Tryz.prog ops Q ((⟨dst,.load 43 x,ty,pos,aft,grd⟩:Oper)::rest) a w :=
 own_load hg 43 x rfl hx H hi row_Inst hn h
theorem aGi (H:HoldG M w0 w l) {T:TypeId} {x:Operand} {i b:Nat} {d:InstD} {U:TypeId} {k:Nat} {v:Value} (h:wpList Tryz.prog ops Q rest (a.put dst v) w) (hg:Region.wanted (⟨dst,.load T x,ty,pos,aft,grd⟩:Oper) (yielded ops a.tmps)=true:=by first|rfl|exact wanted_g rfl (yielded_of rfl (by first|rfl|(simp only[pe];rfl)))) (hx:a.eval x=.pointer (some ⟨b,k,none⟩):=by exact rfl) (hi:At l i (.blk b (instC d) U):=by repeat (first|(with_reducible exact At.zero)|apply At.succ)) (hv:(instC d)[k]?=some v:=by first|(with_reducible exact ig0 _)|(with_reducible exact ig5 _)|(with_reducible exact ig6 _)|(with_reducible exact ig7 _)|(with_reducible exact ig8 _)) (hT:oneB Tryz.prog T=true:=by first|(with_reducible exact one_int)|(with_reducible exact one_ikind)|(with_reducible exact one_spot)):wpList Tryz.prog ops Q ((⟨dst,.load T x,ty,pos,aft,grd⟩:Oper)::rest) a w :=
 own_load1 hg T x rfl hx H hi hT hv h
end
end Go.Proofs.YtdoflhjhaciepaaGreat
