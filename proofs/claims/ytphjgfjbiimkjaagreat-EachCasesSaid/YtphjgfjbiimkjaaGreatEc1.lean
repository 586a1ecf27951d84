/-
  Laws of walks, and walks.
-/
import Derived.RangeFuncBox
import Derived.RangeFuncNested
import Derived.RangeFuncBound
import Derived.RangeFuncCalls
import Derived.RangeFuncLeaves
import Derived.Shelf.Abstract
import Derived.WalkKit
import Derived.OwnWalkIn
import Derived.TacticsInMore
import Derived.LoopNIn
import Derived.LoopIn
import Derived.Maps.AppendAt
import Derived.Lib.Hide
import Derived.Deep.QuietTactic
import Derived.BigQuiet
import Derived.Laws.AppendOwnNone
import Derived.StillTailTactics
import Derived.Deep.RegionWith
import Derived.Stop.RegionWithIn
import Derived.Test.YtphjgfjbiimkjaaGreatProg
import Derived.Test.YtphjgfjbiimkjaaGreatRows
import Derived.ProofKit
import Derived.OpenShut
import Derived.ShutString
import Derived.ChangeOld
import Derived.SizedLaws
import Derived.ChangeKeysEq
import Derived.StillTail
set_option linter.unusedVariables false
set_option linter.unusedSimpArgs false
set_option maxRecDepth 100000
set_option maxHeartbeats 16000000
namespace Go.Proofs.YtphjgfjbiimkjaaGreat
section
open Go.RowKit Go.Shelf
abbrev Rt (v:Value) (w:World) (e:Ending) (w':World):Prop:=e=.returned v/\Below w.heap.size w w'
def Rd (w:World) (b0:Nat) (v:Value) (cs:List Value):Prop :=
 ((∃ q,v=.slice q 0 0)/\cs=[])\/∃ b off cap,v=.slice (some ⟨b,off,none⟩) cs.length cap/\b<b0/\cs.length<=cap/\cap<=maxLen /\
  ∀ j,(h:j<cs.length)->w.cell? ⟨b,off+j,none⟩=some cs[j]
theorem Rd.below {w w':World} {b0:Nat} {v:Value} {cs:List Value} (h:Rd w b0 v cs) (hb:Below b0 w w'):Rd w' b0 v cs:=by
 rcases h with h|⟨b,off,cap,e,h1,h2,h3,h4⟩
 ·exact .inl h
 ·exact .inr ⟨b,off,cap,e,h1,h2,h3,fun j hj=>(hb.cell (p:=⟨b,off+j,none⟩) h1).trans (h4 j hj)⟩
theorem Rd.up {w:World} {b0 b1:Nat} {v:Value} {cs:List Value} (h:Rd w b0 v cs) (hb:b0<=b1):Rd w b1 v cs:=by
 rcases h with h|⟨b,off,cap,e,h1,h2,h3,h4⟩
 ·exact .inl h
 ·exact .inr ⟨b,off,cap,e,by omega,h2,h3,h4⟩
theorem Rd.len {w:World} {b0:Nat} {v:Value} {cs:List Value} (h:Rd w b0 v cs):cs.length<=9223372036854775807:=by
 rcases h with ⟨_,h⟩|⟨b,off,cap,e,h1,h2,h3,h4⟩
 ·simp[h]
 ·unfold maxLen at h3;omega
theorem Rd.of_own {w:World} {base:Nat} {e:TypeId} {v:Value} {n:Nat} {cs:List Value} (h:w.ownsRow base e 1 v n cs):Rd w w.heap.size v cs:=by
 obtain⟨hl,h|⟨g,cap,cur,rfl,hb,hg,hn,hc,hs,ht⟩⟩:=h
 ·obtain⟨rfl,rfl⟩:=h;exact .inl ⟨⟨_,rfl⟩,List.eq_nil_of_length_eq_zero (by simpa using hl)⟩
 ·have hl':cs.length=n:=by simpa using hl
  refine .inr ⟨g,0,cap,by rw[hl'],(Array.getElem?_eq_some_iff.1 hg).1,by omega,hc,fun j hj=>?_⟩
  rw[cell_of_row w g (0+j) cur e (0,0) hg];have h2:(cur.toList.take (n * 1))[j]?=some cs[j]:=by rw[ht];exact List.getElem?_eq_getElem hj
  rw[List.getElem?_take]at h2;simp only[Nat.zero_add];split at h2
  ·simpa using h2
  ·cases h2
structure KeepBut (M:Nat->Prop) (B:Nat) (W W':World):Prop where
 os:W'.os=W.os
 tape:W'.tape=W.tape
 output:W'.output=W.output
 size:W.heap.size<=W'.heap.size
 old:∀ k,k<B->¬ M k->W'.heap[k]?=W.heap[k]?
theorem KeepBut.refl (M:Nat->Prop) (B:Nat) (W:World):KeepBut M B W W:=⟨rfl,rfl,rfl,Nat.le_refl _,fun _ _ _=>rfl⟩
theorem KeepBut.trans {M:Nat->Prop} {B:Nat} {X Y Z:World} (h:KeepBut M B X Y) (k:KeepBut M B Y Z):KeepBut M B X Z :=
 ⟨k.os.trans h.os,k.tape.trans h.tape,k.output.trans h.output,Nat.le_trans h.size k.size,fun i h1 h2=>(k.old i h1 h2).trans (h.old i h1 h2)⟩
theorem KeepBut.below {M:Nat->Prop} {B n:Nat} {W W':World} (h:KeepBut M B W W') (hn:n<=B) (hM:∀ k,k<n->¬ M k):Below n W W' :=
 ⟨h.os,h.tape,h.output,h.size,fun k hk=>h.old k (by omega) (hM k hk)⟩
theorem KeepBut.of_below {M:Nat->Prop} {B:Nat} {W W':World} (h:Below B W W'):KeepBut M B W W' :=
 ⟨h.os,h.tape,h.output,h.size,fun k hk _=>h.block k hk⟩
theorem KeepBut.mono {M M':Nat->Prop} {B B':Nat} {W W':World} (h:KeepBut M B W W') (hB:B'<=B) (hM:∀ k,k<B'->M k->M' k):KeepBut M' B' W W' :=
 ⟨h.os,h.tape,h.output,h.size,fun k hk hn=>h.old k (by omega) (fun hm=>hn (hM k hk hm))⟩
structure Upd (M:Nat->Prop) (B:Nat) (W W':World):Prop where
 keep:KeepBut M B W W'
 others:KeepsFrom B W W'
theorem Upd.refl (M:Nat->Prop) (B:Nat) (W:World):Upd M B W W:=⟨KeepBut.refl _ _ _,KeepsFrom.refl _ _⟩
theorem Upd.trans {M:Nat->Prop} {B:Nat} {X Y Z:World} (h:Upd M B X Y) (k:Upd M B Y Z):Upd M B X Z:=⟨h.keep.trans k.keep,h.others.trans k.others⟩
theorem Upd.grown {M:Nat->Prop} {B:Nat} {X W W':World} {row:Option Nat} (h:Upd M B X W) (hg:W.grownBy W' row)
  (hr:∀ k,row=some k->(k<B/\M k)\/(B<=k/\∃ c e f,W.heap[k]?=some (.cells c e f))) (hB:B<=W.heap.size):Upd M B X W':=by
 refine h.trans ⟨⟨hg.os,hg.tape,hg.output,hg.size,fun k h1 h2=>hg.block k (by omega) (fun e=>?_)⟩,⟨hg.size,fun k o h1 h2 h3=>?_⟩⟩
 ·rcases hr k e.symm with ⟨_,h⟩|⟨h,_⟩
  ·exact h2 h
  ·omega
 ·refine(hg.block k (Array.getElem?_eq_some_iff.1 h2).1 (fun e=>?_)).trans h2
  rcases hr k e.symm with ⟨h,_⟩|⟨_,c,e',f,h⟩
  ·omega
  ·rw[h]at h2;cases h2;cases h3
theorem Upd.alloc {M:Nat->Prop} {B:Nat} {X W:World} (h:Upd M B X W) (hB:B<=W.heap.size) (o:Obj):Upd M B X (W.alloc o) :=
 h.grown (World.grownBy_alloc W o none) (fun k e=>by cases e) hB
theorem Upd.call {M:Nat->Prop} {B:Nat} {X W W':World} (h:Upd M B X W) (hb:Below W.heap.size W W') (hB:B<=W.heap.size):Upd M B X W' :=
 h.trans ⟨KeepBut.of_below (hb.mono hB),⟨hb.size,fun k _ _ h2 _=>(hb.block k (Array.getElem?_eq_some_iff.1 h2).1).trans h2⟩⟩
structure Idle (B:Nat) (W W':World):Prop where
 below:Below B W W'
 cells:∀ (k:Nat) c e f,W.heap[k]?=some (.cells c e f)->W'.heap[k]?=some (.cells c e f)
theorem zHu {P:Program} {f:FuncId} {args:Array Value} {w:World} {R:Ending->World->Prop} (h:CallsIn Fence.wide 9 P f args w R):Calls P f args w R:=callsIn_wide.1 h
theorem zCC {P:Program} {b:Frame} {a:Act} {k:List Item} {cs:List Frame} {w:World} {c:Code}:step P (lone (b.atR a (.code (.scope c)::k)) cs w)=.next (lone (b.atR a (.code c::.inScope c::k)) cs w) :=
 step_lone_go (by simp[stepG,stepG.exec,Frame.atR])
theorem zHs {P:Program} {b:Frame} {a:Act} {k:List Item} {cs:List Frame} {w:World} {c:Code}:step P (lone (b.atR a (.inScope c::k)) cs w)=.next (lone (b.atR a k) cs w) :=
 step_lone_go (by simp[stepG,stepG.exec,Frame.atR])
theorem zGo {F:Fence} {n:Nat} {P:Program} {c:Code} {Q:Exit->Act->World->Prop} {a:Act} {w:World} (h:c.wpIn F n P (Exit.noGoto Q) a w):(Code.scope c).wpIn F n P Q a w:=by
 intro b k cs hro hb hr;have h0:(lone (b.atR a (.code (.scope c)::k)) cs w).fenced P F:=fenced_calm hb hr rfl;obtain⟨e,a₁,w₁,hq,harr⟩:=h b (.inScope c::k) cs hro hb hr;have hx:∀ id,exitTo id (.inScope c::k)=exitTo id k:=fun id=>by simp[exitTo]
 cases e with
 | normal=>exact⟨.normal,a₁,w₁,hq,.head h0 zCC (StepsIn.trans harr (.one (fenced_calm hb hr rfl) zHs))⟩
 | exit id =>
  exact⟨.exit id,a₁,w₁,hq,fun k' hk=>.head h0 zCC (harr.1 k' (by rw[hx];exact hk)),
   fun hr' hk=>let ⟨k₁,h1,h2⟩:=harr.2 hr' (by rw[hx];exact hk);⟨k₁,h1,.head h0 zCC h2⟩⟩
 | goto l=>exact hq.elim
 | ret=>exact⟨_,a₁,w₁,hq,.of_steps (.one h0 zCC) harr⟩
 | panic ch=>exact⟨_,a₁,w₁,hq,.of_steps (.one h0 zCC) harr⟩
 | outgrown=>exact⟨_,a₁,w₁,hq,.of_steps (.one h0 zCC) harr⟩
theorem zBT {w w':World} {base:Nat} {e:TypeId} {s:Nat} {v:Value} {n:Nat} {xs:List Value} (h:w.ownsRow base e s v n xs) (hb:Below w.heap.size w w'):w'.ownsRow base e s v n xs:=by
 obtain⟨hl,h'|⟨g,cap,cur,rfl,hg1,hg,r⟩⟩:=h
 ·exact⟨hl,.inl h'⟩
 ·exact⟨hl,.inr ⟨g,cap,cur,rfl,hg1,(hb.block g (Array.getElem?_eq_some_iff.1 hg).1).trans hg,r⟩⟩
theorem zJ7 {w:World} {base base':Nat} {e:TypeId} {s:Nat} {v:Value} {n:Nat} {xs:List Value} (h:w.ownsRow base e s v n xs) (hb:base'<=base):w.ownsRow base' e s v n xs:=by
 obtain⟨hl,h'|⟨g,cap,cur,rfl,hg1,r⟩⟩:=h
 ·exact⟨hl,.inl h'⟩
 ·exact⟨hl,.inr ⟨g,cap,cur,rfl,by omega,r⟩⟩
theorem zLO {w w':World} {b:Nat} {t:TypeId} {v:Value} (h:Boxed w b t v) (hb:Below w.heap.size w w'):Boxed w' b t v:=(hb.block b h.lt).trans h
def offA (p:Option Addr) (c l:Nat):Option Addr:=if c=l then p else p.map (·.add l)
theorem zHE {P:Program} (t e:TypeId) (ht:P.underlying t=some (.slice e)) (hz:∀ w,(sizeOf e).run P w=.ok 1 w) (p:Option Addr) (n c l h:Nat) (h1:l<=h) (h2:h<=c) (w:World) :
  (Instr.slice t (.slice p n c) (some (.int .i64 l)) (some (.int .i64 h)) none).run P w=.ok (.slice (offA p c l) (h - l) (c - l)) w:=by
 have he:P.elem t=e:=by simp[Program.elem,ht]
 rw[run_slice_lh w t p n c (by rw[he];exact ht) .i64 .i64 l h (by omega) (by omega) (by omega),he,hz]
 simp[Result.andThen,sliced,offA]
theorem zOd {w:World} {base:Nat} {e:TypeId} {v:Value} {n:Nat} {cs:List Value} (h:w.ownsRow base e 1 v n cs) (hn:0<n) :
  ∃ g cap,v=.slice (some ⟨g,0,none⟩) n cap/\base<=g/\g<w.heap.size/\n<=cap/\cap<=maxLen/\∀ j,(hj:j<cs.length)->w.cell? ⟨g,j,none⟩=some cs[j]:=by
 have hr:=Rd.of_own h;obtain⟨hl,h|⟨g,cap,cur,rfl,hb,hg,hc,hm,hs,ht⟩⟩:=h
 ·omega
 ·refine⟨g,cap,rfl,hb,(Array.getElem?_eq_some_iff.1 hg).1,hc,hm,fun j hj=>?_⟩
  rcases hr with ⟨_,h⟩|⟨b,off,cap',h,_,_,_,hcell⟩
  ·subst h;simp at hj
  ·injection h with h1 h2 h3
   injection h1 with h1
   injection h1 with h1 h4
   subst h1 h4
   simpa using hcell j hj
theorem fam (w:World):∃ (T:Type) (_:Nonempty T) (f:T->World),(∀ x,Below w.heap.size w (f x))/\(∀ w',Below w.heap.size w w'->∃ x,w'=f x) :=
 ⟨{w' // Below w.heap.size w w'},⟨w,Below.refl _ _⟩,fun x=>x.1,fun x=>x.2,fun w' h=>⟨⟨w',h⟩,rfl⟩⟩
theorem zAZ {P:Program} {T:Type} (f:T->World) {id:Nat} {Q:Exit->Act->World->Prop} {a:Act} {w:World} {l:List Oper} (hm:P.follows .mixedOrders=true) (hB:Region.lexB .any l.toArray=true)
  (h0:∀ w',Below w.heap.size w w'->∃ x,w'=f x)
  (h:wpQuiet P l.toArray (fun w'=>∃ x,w'=f x) (fun a'=>∀ w',(∃ x,w'=f x)->Q .normal a' w') l a):(Code.region id l.toArray true).wp P Q a w :=
 wp_region_quiet (C:=fun w'=>∃ x,w'=f x) hm hB (h0 _ ((Below.refl _ w).drew)) (by simpa using h)
theorem zFb {P:Program} {T:Type} {f:T->World} {w:World} (hf:∀ x,Below w.heap.size w (f x)) (h0:∀ w',Below w.heap.size w w'->∃ x,w'=f x) {g:FuncId} {args:Array Value} {v:Value} (x:T)
  (h:Calls P g args (f x) fun e w'=>e=.returned v/\Below (f x).heap.size (f x) w'):Calls P g args (f x) fun e w'=>e=.returned v/\∃ y,w'=f y :=
 h.mono fun _ w' ⟨he,hb⟩=>⟨he,h0 w' ((hf x).trans (hb.mono (hf x).size))⟩
theorem zFV {P:Program} (w:World) {ops:Array Oper} {rest:List Oper} {o:Oper} {a:Act} {Q:Exit->Act->World->Prop}
  (hg:o.guard=none) (s x:Operand) (t:TypeId) (hop:o.op=Op.call {callee:=Callee.builtin Builtin.append,args:=#[s,x],argTypes:=#[t,t]})
  (base:Nat) (e:TypeId) (i:TypeInfo) (z:Value) (bytes:Nat) (h1:P.underlying t=some (.slice e)) (h2:P.info? e=some i) (h3:i.zero=some z) (h4:i.size=1) (h5:i.bytes=bytes) (h6:z.cells.size=1)
  (v:Value) (k:Nat) (xs:List Value) (hs:a.eval s=v) (hown:w.ownsRow base e 1 v k xs) (u:Value) (cs:List Value) {b0:Nat} (hx:a.eval x=u) (hrd:Rd w b0 u cs)
  (h1c:∀ c ∈ cs,c.oneCell'=true) (b1:k+cs.length<=maxLen) (b2:(k+cs.length) * bytes<=140737488355328) (b3:base<=w.heap.size)
  (hK:∀ v' w',w'.ownsRow base e 1 v' (k+cs.length) (xs++cs)->w.grownBy w' v.ownBlock->(v'.ownBlock=v.ownBlock\/v'.ownBlock=some w.heap.size)->wpList P ops Q rest (a.put o.dst v') w') :
  wpList P ops Q (o::rest) a w:=by
 rcases hrd with ⟨⟨q,rfl⟩,rfl⟩|⟨b,off,cap,rfl,hb,hc,hm,hcell⟩
 ·cases q with
  | none =>
   refine wpList_append_own_none hg s x t hop base e i 1 h1 h2 v k xs hs hown hx ?_
   have:=hK v w (by simpa using hown) ⟨rfl,rfl,rfl,Nat.le_refl _,fun _ _ _=>rfl⟩ (.inl rfl)
   subst hs;exact this
  | some ad=>exact wpList_append_own_at w hg s x t hop base e i z 1 bytes h1 h2 h3 h4 h5 h6 (by decide) v k xs hs hown ad 0 0 [] hx (by simp) (fun j u' hj=>by simp at hj) h1c (by simpa using b1) (by simpa using b2) b3 (fun v' w' r1 r2 _ r4=>hK v' w' (by simpa using r1) r2 r4)
 ·have had:∀ j,(⟨b,off,none⟩:Addr).add j=⟨b,off+j,none⟩:=fun j=>by unfold Addr.add;split<;>simp_all
  refine wpList_append_own_at w hg s x t hop base e i z 1 bytes h1 h2 h3 h4 h5 h6 (by decide) v k xs hs hown ⟨b,off,none⟩ cs.length cap cs hx (by simp) (fun j u' hj=>?_) h1c b1 b2 b3 (fun v' w' r1 r2 _ r4=>hK v' w' r1 r2 r4)
  rw[had];obtain⟨hj',rfl⟩:=List.getElem?_eq_some_iff.1 hj;exact hcell j hj'
end
section
open Go.ChangeShapes Go.WideShapes Go.ChangeAt Go.RowKit

end
section
theorem zEO:(Tryz.prog.info? 3).map (fun i=>(i.zero,i.size,i.bytes))=some (some (.int .i64 0),1,8):=by kernel_rfl
end
section
open Go.RowKit
def setV (s:Nat->Nat):Value:=.agg #[.int .u64 (s 0),.int .u64 (s 1),.int .u64 (s 2),.int .u64 (s 3)]
def setC (s:Nat->Nat):Array Value:=#[.int .u64 (s 0),.int .u64 (s 1),.int .u64 (s 2),.int .u64 (s 3)]
def zAb (s:Nat->Nat):Prop:=∀ k,k<4->s k<2 ^ 64
def hasB (s:Nat->Nat) (b:Nat):Bool:=(s (b / 64)).testBit (b % 64)
theorem zFh {s t:Nat->Nat} (hs:zAb s) (ht:zAb t) (h:∀ b,b<256->hasB s b=hasB t b):setV s=setV t:=by
 have e:∀ k,k<4->s k=t k:=by
  intro k hk;apply Nat.eq_of_testBit_eq;intro i
  by_cases hi:i<64
  ·have:=h (64 * k+i) (by omega)
   unfold hasB at this;rw[show (64 * k+i) / 64=k from by omega,show (64 * k+i) % 64=i from by omega]at this
   exact this
  ·rw[Nat.testBit_lt_two_pow (Nat.lt_of_lt_of_le (hs k hk) (Nat.pow_le_pow_right (by omega) (by omega))),Nat.testBit_lt_two_pow (Nat.lt_of_lt_of_le (ht k hk) (Nat.pow_le_pow_right (by omega) (by omega)))]
 unfold setV;rw[e 0 (by omega),e 1 (by omega),e 2 (by omega),e 3 (by omega)]
theorem zPx {s t:Nat->Nat} (h:setV s=setV t):∀ k,k<4->s k=t k:=by
 unfold setV at h;simp only[Value.agg.injEq]at h;have h':=congrArg Array.toList h;simp at h';intro k hk
 match k,hk with
 | 0,_=>omega
 | 1,_=>omega
 | 2,_=>omega
 | 3,_=>omega
def zAG:Nat->Nat:=fun _=>0
def zMc:Nat->Nat:=fun _=>2 ^ 64 - 1
def orS (s t:Nat->Nat):Nat->Nat:=fun k=>s k ||| t k
def andS (s t:Nat->Nat):Nat->Nat:=fun k=>s k &&& t k
def notS (s:Nat->Nat):Nat->Nat:=fun k=>2 ^ 64 - 1 - s k
def addS (s:Nat->Nat) (b:Nat):Nat->Nat:=fun k=>if k=b / 64 then s k ||| 2 ^ (b % 64) else s k
theorem zAj:zAb zAG:=fun k _=>by simp[zAG]
theorem zNe:zAb zMc:=fun k _=>by simp[zMc]
theorem zJb (s:Nat->Nat):zAb (notS s):=fun k _=>by unfold notS;omega
theorem zFy {s:Nat->Nat} (hs:zAb s) (b:Nat):zAb (addS s b):=fun k hk=>by
 unfold addS;split
 ·exact Nat.or_lt_two_pow (hs k hk) (Nat.pow_lt_pow_right (by omega) (by omega))
 ·exact hs k hk
theorem zEP (b:Nat):hasB zAG b=false:=by simp[hasB,zAG]
theorem zP9 (s t:Nat->Nat) (b:Nat):hasB (orS s t) b=(hasB s b || hasB t b):=by simp[hasB,orS,Nat.testBit_or]
theorem zO4 (s t:Nat->Nat) (b:Nat):hasB (andS s t) b=(hasB s b&&hasB t b):=by simp[hasB,andS,Nat.testBit_and]
theorem zN2 (b:Nat):hasB zMc b=true:=by
 unfold hasB zMc;rw[Nat.testBit_two_pow_sub_one];simp;omega
theorem zPi {s:Nat->Nat} (hs:zAb s) {b:Nat} (hb:b<256):hasB (notS s) b=!hasB s b:=by
 unfold hasB notS;have h:=Nat.testBit_two_pow_sub_succ (hs (b / 64) (by omega)) (b % 64)
 rw[show 2 ^ 64 - (s (b / 64)+1)=2 ^ 64 - 1 - s (b / 64) from by omega]at h
 rw[h];simp;omega
theorem zHC {s:Nat->Nat} (b c:Nat):hasB (addS s b) c=(hasB s c || decide (c=b)):=by
 unfold hasB addS;split
 ·rename_i h;rw[Nat.testBit_or,Nat.testBit_two_pow]
  congr 1
  rw[decide_eq_decide];omega
 ·rename_i h;have:¬ c=b:=fun e=>h (by rw[e])
  simp[this]
theorem zJL (x r:Nat):(x / 2 ^ r % 2=1)↔x.testBit r=true:=by
 rw[Nat.testBit_eq_decide_div_mod_eq];simp
theorem zNx (x r:Nat) (hx:x<2 ^ 64):(bits .and .u64 ((x:Int) / 2 ^ r) 1 == 1)=x.testBit r:=by
 have e:((x:Int) / 2 ^ r)=((x / 2 ^ r:Nat):Int):=by simp
 rw[e];have hlt:x / 2 ^ r<18446744073709551616:=Nat.lt_of_le_of_lt (Nat.div_le_self _ _) hx;have h:=u64_and_nat (x / 2 ^ r) 1 hlt (by omega)
 rw[show ((1:Nat):Int)=1 from rfl]at h
 rw[h,nat_mask1,Bool.eq_iff_iff,← zJL];simp;omega
def SBox (W:World) (B:Nat) (T:TypeId) (s:Nat->Nat):Prop:=W.heap[B]?=some (.cells (setC s) T (0,0))
theorem SBox.lt {W:World} {B:Nat} {T:TypeId} {s:Nat->Nat} (h:SBox W B T s):B<W.heap.size:=(Array.getElem?_eq_some_iff.1 h).1
theorem SBox.cell {W:World} {B:Nat} {T:TypeId} {s:Nat->Nat} (h:SBox W B T s) {k:Nat} (hk:k<4):W.cell? ⟨B,k,none⟩=some (.int .u64 (s k)):=by
 rw[cell_of_row W B k _ _ _ h];unfold setC
 match k,hk with
 | 0,_=>rfl
 | 1,_=>rfl
 | 2,_=>rfl
 | 3,_=>rfl
theorem SBox.frozen {W:World} {B:Nat} {T:TypeId} {s:Nat->Nat} (h:SBox W B T s) (k:Nat):W.frozen? ⟨B,k,none⟩=false:=by
 simp[World.frozen?,show W.heap[B]?=_ from h]
theorem SBox.new (W:World) (T:TypeId) (s:Nat->Nat):SBox (W.alloc (.cells (setC s) T)) W.heap.size T s:=World.alloc_heap_new W _
theorem SBox.below {W W':World} {n B:Nat} {T:TypeId} {s:Nat->Nat} (h:SBox W B T s) (hb:Below n W W') (hB:B<n):SBox W' B T s:=(hb.block B hB).trans h
theorem SBox.alloc {W:World} {B:Nat} {T:TypeId} {s:Nat->Nat} (h:SBox W B T s) (o:Obj):SBox (W.alloc o) B T s:=(Below.heap_alloc W o B h.lt).trans h
theorem SBox.other {W:World} {B B':Nat} {T:TypeId} {s:Nat->Nat} (h:SBox W B T s) (hne:B≠B') (k:Nat) (v:Value):SBox (W.setCell ⟨B',k,none⟩ v) B T s:=(Below.heap_setCell W _ _ B hne).trans h
theorem SBox.set {W:World} {B:Nat} {T:TypeId} {s:Nat->Nat} (h:SBox W B T s) {k:Nat} (hk:k<4) (x:Nat):SBox (W.setCell ⟨B,k,none⟩ (.int .u64 x)) B T (fun j=>if j=k then x else s j):=by
 obtain⟨hlt,hh⟩:=Array.getElem?_eq_some_iff.1 h
 show (W.heap.modify B _)[B]?=_
 rw[Array.getElem?_eq_getElem (by rw[Array.size_modify];exact hlt),Array.getElem_modify_self,hh]
 unfold setC
 match k,hk with
 | 0,_=>rfl
 | 1,_=>rfl
 | 2,_=>rfl
 | 3,_=>rfl
theorem SBox.ext {W:World} {B:Nat} {T:TypeId} {s t:Nat->Nat} (h:SBox W B T s) (e:∀ k,k<4->s k=t k):SBox W B T t:=by
 unfold SBox setC at *;rw[h,e 0 (by omega),e 1 (by omega),e 2 (by omega),e 3 (by omega)]
def RdS (w:World) (b0:Nat) (v:Value) (L:List (Nat->Nat)):Prop :=
 ((∃ q,v=.slice q 0 0)/\L=[])\/∃ b off cap,v=.slice (some ⟨b,off,none⟩) L.length cap/\b<b0/\L.length<=cap/\cap<=maxLen /\
  ∀ j,(hj:j<L.length)->∀ k,k<4->w.cell? ⟨b,off+j * 4+k,none⟩=some (.int .u64 (L[j] k))
theorem RdS.below {w w':World} {b0:Nat} {v:Value} {L:List (Nat->Nat)} (h:RdS w b0 v L) (hb:Below b0 w w'):RdS w' b0 v L:=by
 rcases h with h|⟨b,off,cap,e,h1,h2,h3,h4⟩
 ·exact .inl h
 ·exact .inr ⟨b,off,cap,e,h1,h2,h3,fun j hj k hk=>(hb.cell (p:=⟨b,off+j * 4+k,none⟩) h1).trans (h4 j hj k hk)⟩
theorem RdS.up {w:World} {b0 b1:Nat} {v:Value} {L:List (Nat->Nat)} (h:RdS w b0 v L) (hb:b0<=b1):RdS w b1 v L:=by
 rcases h with h|⟨b,off,cap,e,h1,h2,h3,h4⟩
 ·exact .inl h
 ·exact .inr ⟨b,off,cap,e,by omega,h2,h3,h4⟩
def zGE (op:Nat->Nat->Nat) (s:Nat->Nat) (L:List (Nat->Nat)):Nat->Nat:=L.foldl (fun a t k=>op (a k) (t k)) s
theorem zKA {op:Nat->Nat->Nat} (hop:∀ x y,x<2 ^ 64->y<2 ^ 64->op x y<2 ^ 64) {L:List (Nat->Nat)}:∀ {s:Nat->Nat},zAb s->(∀ t ∈ L,zAb t)->zAb (zGE op s L):=by
 induction L with
 | nil=>intro s hs _;exact hs
 | cons t L ih =>
  intro s hs hL;exact ih (s:=fun k=>op (s k) (t k)) (fun k hk=>hop _ _ (hs k hk) (hL t (by simp) k hk)) (fun u hu=>hL u (by simp[hu]))
theorem SBox.set4 {W:World} {B:Nat} {T:TypeId} {t:Nat->Nat} (h:SBox W B T t) (s:Nat->Nat) :
  SBox ((((W.setCell ⟨B,0,none⟩ (.int .u64 (s 0))).setCell ⟨B,1,none⟩ (.int .u64 (s 1))).setCell ⟨B,2,none⟩ (.int .u64 (s 2))).setCell ⟨B,3,none⟩ (.int .u64 (s 3))) B T s :=
 ((((h.set (k:=0) (by omega) (s 0)).set (k:=1) (by omega) (s 1)).set (k:=2) (by omega) (s 2)).set (k:=3) (by omega) (s 3)).ext (fun k hk=>by
  match k,hk with
  | 0,_=>rfl
  | 1,_=>rfl
  | 2,_=>rfl
  | 3,_=>rfl)
theorem zBP {W X:World} {B n:Nat} (h:Below n X W) (hB:n<=B) (v0 v1 v2 v3:Value) :
  Below n X ((((W.setCell ⟨B,0,none⟩ v0).setCell ⟨B,1,none⟩ v1).setCell ⟨B,2,none⟩ v2).setCell ⟨B,3,none⟩ v3) :=
 (((h.setCell (p:=⟨B,0,none⟩) hB v0).setCell (p:=⟨B,1,none⟩) hB v1).setCell (p:=⟨B,2,none⟩) hB v2).setCell (p:=⟨B,3,none⟩) hB v3
def zCi (L:List (Nat->Nat)):Nat->Nat:=zGE (fun x y=>x ||| y) zAG L
def zJf (L:List (Nat->Nat)):Nat->Nat:=zGE (fun x y=>x &&& y) zMc L
theorem zOY (x y:Nat) (hx:x<2 ^ 64) (hy:y<2 ^ 64):x ||| y<2 ^ 64:=Nat.or_lt_two_pow hx hy
theorem zMH (x y:Nat) (hx:x<2 ^ 64) (_:y<2 ^ 64):x &&& y<2 ^ 64:=Nat.lt_of_le_of_lt Nat.and_le_left hx
theorem zEY {L:List (Nat->Nat)} (h:∀ t ∈ L,zAb t):zAb (zCi L):=zKA zOY zAj h
theorem zOn {L:List (Nat->Nat)} (h:∀ t ∈ L,zAb t):zAb (zJf L):=zKA zMH zNe h
theorem zIv (L:List (Nat->Nat)) (s:Nat->Nat) (b:Nat):hasB (zGE (fun x y=>x ||| y) s L) b=(hasB s b || L.any (fun t=>hasB t b)):=by
 induction L generalizing s with
 | nil=>simp[zGE]
 | cons t L ih =>
  have:=ih (orS s t);rw[show zGE (fun x y=>x ||| y) s (t::L)=zGE (fun x y=>x ||| y) (orS s t) L from rfl,this,zP9]
  simp[Bool.or_assoc]
theorem zLS (L:List (Nat->Nat)) (b:Nat):hasB (zCi L) b=L.any (fun t=>hasB t b):=by
 unfold zCi;rw[zIv,zEP];simp
theorem zIH (L:List (Nat->Nat)) (s:Nat->Nat) (b:Nat):hasB (zGE (fun x y=>x &&& y) s L) b=(hasB s b&&L.all (fun t=>hasB t b)):=by
 induction L generalizing s with
 | nil=>simp[zGE]
 | cons t L ih =>
  have:=ih (andS s t);rw[show zGE (fun x y=>x &&& y) s (t::L)=zGE (fun x y=>x &&& y) (andS s t) L from rfl,this,zO4]
  simp[Bool.and_assoc]
theorem zOD (L:List (Nat->Nat)) (b:Nat):hasB (zJf L) b=L.all (fun t=>hasB t b):=by
 unfold zJf;rw[zIH,zN2];simp
def rowC (L:List (Nat->Nat)):List Value:=L.flatMap (fun s=>(setC s).toList)
theorem zJr {L:List (Nat->Nat)} {j k:Nat} (hj:j<L.length) (hk:k<4):(rowC L)[j * 4+k]?=some (.int .u64 (L[j] k)):=by
 induction L generalizing j with
 | nil=>simp at hj
 | cons s L ih =>
  rw[show rowC (s::L)=(setC s).toList++rowC L from rfl]
  cases j with
  | zero =>
   rw[List.getElem?_append_left (by simp[setC];omega)]
   match k,hk with
   | 0,_=>rfl
   | 1,_=>rfl
   | 2,_=>rfl
   | 3,_=>rfl
  | succ j =>
   rw[List.getElem?_append_right (by simp[setC];omega)]
   have:=ih (j:=j) (by simpa using hj)
   rw[show (j+1) * 4+k - (setC s).toList.length=j * 4+k from by simp[setC];omega,this]
   simp
theorem RdS.lit (w:World) (L:List (Nat->Nat)) (e:TypeId) (hl:L.length<=maxLen):RdS (w.alloc (.cells (rowC L).toArray e)) (w.heap.size+1) (.slice (some ⟨w.heap.size,0,none⟩) L.length L.length) L:=by
 refine .inr ⟨w.heap.size,0,L.length,rfl,by omega,Nat.le_refl _,hl,fun j hj k hk=>?_⟩
 rw[cell_of_row _ w.heap.size (0+j * 4+k) (rowC L).toArray e (0,0) (World.alloc_heap_new w _)];simp only[Nat.zero_add,List.getElem?_toArray];exact zJr hj hk
def ofS (xs:List Int):Nat->Nat:=xs.foldl (fun s b=>addS s b.toNat) zAG
theorem zKX (xs:List Int) (b:Int):ofS (xs++[b])=addS (ofS xs) b.toNat:=by simp[ofS]
theorem zI2 (xs:List Int):∀ s,zAb s->zAb (xs.foldl (fun s b=>addS s b.toNat) s):=by
 induction xs with
 | nil=>exact fun s hs=>hs
 | cons b xs ih=>exact fun s hs=>ih _ (zFy hs _)
theorem zCt (xs:List Int):zAb (ofS xs):=zI2 xs _ zAj
theorem zPY {S:Nat->Nat} {n q r:Nat} (hq:n / 64=q) (hr:n % 64=r):(fun j=>if j=q then S q ||| 2 ^ r else S j)=addS S n:=by
 funext j;unfold addS;rw[hq,hr];split
 ·rename_i h;rw[h]
 ·rfl
end
section
open Go.RowKit Go.Shelf
attribute [local go_sem] Oper.semAt_some
theorem zEr {b:Nat} (hb:b<256):∃ r,r<64/\b % 64=r/\((b:Int) % 64=(r:Int))/\((b / 64=0/\(b:Int) / 64=0)\/(b / 64=1/\(b:Int) / 64=1)\/(b / 64=2/\(b:Int) / 64=2)\/(b / 64=3/\(b:Int) / 64=3)) :=
 ⟨b % 64,by omega,rfl,by omega,by omega⟩
theorem zPF (s:Nat->Nat) (hs:zAb s) (b:Nat) (hb:b<256) (w:World) :
  Calls Tryz.prog 154 #[setV s,.int .u8 b] w fun e w'=>e=.returned (.bool (hasB s b))/\Below w.heap.size w w':=by
 obtain⟨r,hr,hr1,hr2,h⟩:=zEr hb;unfold setV;rcases h with ⟨h1,hq⟩|⟨h1,hq⟩|⟨h1,hq⟩|⟨h1,hq⟩
 all_goals
  have H1:=Lib.hid h1;clear h1;have HR:=Lib.hid hr1;clear hr1
  go_enter Tryz.func154,Tryz.ntmps154
  go_wp2
  go_ret;refine⟨?_,(Below.refl _ _).alloc (Nat.le_refl _) _⟩;have:=zNx (s (b / 64)) r (hs _ (by omega))
  rw[H1.out]at this;unfold hasB;rw[H1.out,HR.out];exact congrArg (fun x=>Ending.returned (Value.bool x)) this

def zAn (lo n:Nat):Nat->Nat:=ofS ((List.range' lo n).map (fun k:Nat=>(k:Int)))
theorem zI5 (lo n:Nat):zAn lo (n+1)=addS (zAn lo n) (lo+n):=by
 unfold zAn;rw[List.range'_concat,List.map_append,List.map_cons,List.map_nil,zKX];simp only[Int.toNat_natCast,Nat.one_mul]

def eqS (u s:Nat->Nat):Bool:=(u 0 == s 0)&&(u 1 == s 1)&&(u 2 == s 2)&&(u 3 == s 3)
theorem zIg (u s:Nat->Nat) (W:World):(Op.equalIn 10000 30 (.agg #[.int .u64 (u 0),.int .u64 (u 1),.int .u64 (u 2),.int .u64 (u 3)]) (.agg #[.int .u64 (s 0),.int .u64 (s 1),.int .u64 (s 2),.int .u64 (s 3)])).run Tryz.prog W=.ok (eqS u s) W:=by
 have hi:(Tryz.prog.info? 28).isSome=true:=by kernel_rfl
 obtain⟨i,hi⟩:=Option.isSome_iff_exists.1 hi;have hu:Tryz.prog.underlying 28=some (.int .u64):=by kernel_rfl
 have hc:Tryz.prog.cellsOf 28=1:=by kernel_rfl
 have hst:∀ (x:Nat->Nat) (k:Nat),k<4->∀ W,(part 28 #[.int .u64 (x 0),.int .u64 (x 1),.int .u64 (x 2),.int .u64 (x 3)] (k * 1)).run Tryz.prog W=.ok (.int .u64 (x k)) W:=by
  intro x k hk W;rw[Nat.mul_one]
  match k,hk with
  | 0,_=>simp[go_sem]
  | 1,_=>simp[go_sem]
  | 2,_=>simp[go_sem]
  | 3,_=>simp[go_sem]
 rw[run_equalIn_array W 9999 (n:=4) _ _ (by kernel_rfl) hi,hc]
 have hl:List.range 4=[0,1,2,3]:=by decide
 have he:∀ (a b:Nat),((a:Int) == (b:Int))=(a == b):=by intro a b;rw[Bool.eq_iff_iff];simp;omega
 rw[hl];unfold eqS;simp only[Op.eqItems,Sem.run_bind];simp only[hst u 0 (by decide),hst s 0 (by decide),Result.andThen_ok,run_equalIn_int _ _ _ _ _ _ _ hu,he]
 cases u 0 == s 0
 ·simp
 simp only[Bool.not_true,Bool.false_eq_true,if_false,Bool.true_and,Sem.run_bind];simp only[hst u 1 (by decide),hst s 1 (by decide),Result.andThen_ok,run_equalIn_int _ _ _ _ _ _ _ hu,he]
 cases u 1 == s 1
 ·simp
 simp only[Bool.not_true,Bool.false_eq_true,if_false,Bool.true_and,Sem.run_bind];simp only[hst u 2 (by decide),hst s 2 (by decide),Result.andThen_ok,run_equalIn_int _ _ _ _ _ _ _ hu,he]
 cases u 2 == s 2
 ·simp
 simp only[Bool.not_true,Bool.false_eq_true,if_false,Bool.true_and,Sem.run_bind];simp only[hst u 3 (by decide),hst s 3 (by decide),Result.andThen_ok,run_equalIn_int _ _ _ _ _ _ _ hu,he]
 cases u 3 == s 3
 ·simp
 simp
end
section
open Go.RowKit
def fill:List Oper->Nat->Array Bool->(Nat->Value)->Act->Act
 | [],_,_,_,a=>a
 | o::r,k,listed,vals,a=>fill r (k+1) listed vals (if listed.getD k false then a.put o.dst (vals k) else a)
def zBI:List Oper->Nat->(Nat->Value)->Act->Act
 | [],_,_,a=>a
 | o::r,k,vals,a=>zBI r (k+1) vals (a.put o.dst (vals k))
theorem zDG:∀ (l:List Oper) (k:Nat) (listed:Array Bool) (vals:Nat->Value) (a:Act),(∀ i,i<l.length->listed.getD (k+i) false=true)->fill l k listed vals a=zBI l k vals a
 | [],_,_,_,_,_=>rfl
 | o::r,k,listed,vals,a,h=>by
  have h0:listed.getD k false=true:=by simpa using h 0 (by simp)
  simp only[fill,zBI,h0,if_true];exact zDG r (k+1) listed vals _ (fun i hi=>by have:=h (i+1) (by simp;omega);rwa [show k+(i+1)=k+1+i from by omega]at this)
theorem zCh:∀ (l:List Oper) (k:Nat) (listed:Array Bool) (vals:Nat->Value) (a:Act),(∀ i,listed.getD i false=false)->fill l k listed vals a=a
 | [],_,_,_,_,_=>rfl
 | o::r,k,listed,vals,a,h=>by
  simp only[fill,h k,Bool.false_eq_true,if_false];exact zCh r (k+1) listed vals a h
theorem zHr:∀ (l:List Oper) (k:Nat) (listed:Array Bool) (vals:Nat->Value) (a:Act) (d:Tmp) (v:Value),(∀ o ∈ l,o.dst≠some d) ->
  fill l k listed vals (a.put (some d) v)=(fill l k listed vals a).put (some d) v
 | [],_,_,_,_,_,_,_=>rfl
 | o::r,k,listed,vals,a,d,v,h=>by
  simp only[fill];rw[← zHr r (k+1) listed vals _ d v (fun o' ho'=>h o' (List.mem_cons_of_mem _ ho'))]
  congr 1
  split
  ·exact Act.put_comm a v (vals k) (fun d' e=>by cases e;exact h o (List.mem_cons_self ..))
  ·rfl
theorem zCR:∀ (l:List Oper) (k:Nat) (listed listed':Array Bool) (vals vals':Nat->Value) (a:Act),
  (∀ i,i<l.length->listed.getD (k+i) false=listed'.getD (k+i) false/\vals (k+i)=vals' (k+i))->fill l k listed vals a=fill l k listed' vals' a
 | [],_,_,_,_,_,_,_=>rfl
 | o::r,k,listed,listed',vals,vals',a,h=>by
  have h0:=h 0 (by simp)
  simp only[Nat.add_zero]at h0;simp only[fill,h0.1,h0.2];exact zCR r (k+1) listed listed' vals vals' _ (fun i hi=>by have:=h (i+1) (by simp;omega);rwa [show k+(i+1)=k+1+i from by omega]at this)
def zCe:List Oper->Bool
 | []=>true
 | o::r=>o.dst.isSome&&r.all (fun o'=>o'.dst != o.dst)&&zCe r
theorem zDi:∀ (l:List Oper) (k i:Nat) (listed:Array Bool) (vals:Nat->Value) (a:Act) (o:Oper) (d:Tmp) (v:Value),zCe l=true->l[i]?=some o->o.dst=some d ->
  listed.getD (k+i) true=false ->
  fill l k (listed.setIfInBounds (k+i) true) (fun j=>if j=k+i then v else vals j) a=(fill l k listed vals a).put (some d) v
 | [],_,_,_,_,_,_,_,_,_,h,_,_=>by simp at h
 | o::r,k,0,listed,vals,a,o',d,v,hd,h,hod,hl=>by
  simp at h;subst h;simp only[zCe,Bool.and_eq_true]at hd;obtain⟨⟨_,hall⟩,hr⟩:=hd;have hne:∀ o' ∈ r,o'.dst≠some d:=by
   intro o' ho' e;have:=List.all_eq_true.1 hall o' ho';rw[e,hod]at this;simp at this
  have h1:(listed.setIfInBounds k true).getD k false=true:=by
   have hk:k<listed.size:=by
    rcases Nat.lt_or_ge k listed.size with h'|h'
    ·exact h'
    ·simp[Array.getElem?_eq_none h']at hl
   simp[hk]
  have h2:listed.getD k false=false:=getD_both (by simpa using hl)
  simp only[Nat.add_zero,fill,h1,h2,if_true,Bool.false_eq_true,if_false,hod];rw[zHr r (k+1) _ _ a d v hne]
  congr 1
  refine zCR r (k+1) _ _ _ _ a (fun i hi=>⟨?_,by rw[if_neg (by omega)]⟩)
  exact getD_set_ne false (by omega)
 | o::r,k,i+1,listed,vals,a,o',d,v,hd,h,hod,hl=>by
  simp only[zCe,Bool.and_eq_true]at hd;obtain⟨⟨_,hall⟩,hr⟩:=hd;simp only[List.getElem?_cons_succ]at h;have ih:=zDi r (k+1) i listed vals (if listed.getD k false then a.put o.dst (vals k) else a) o' d v hr h hod (by rwa [show k+1+i=k+(i+1) from by omega])
  simp only[fill];rw[show k+(i+1)=k+1+i from by omega,getD_set_ne false (by omega),if_neg (by omega:¬ k=k+1+i)]
  exact ih
theorem zOO (a:Act) (d t:Nat) (v:Value) (h:t≠d):(a.put (some d) v).eval (.tmp t)=a.eval (.tmp t):=by
 simp only[Act.put,Act.eval];simp[Array.getElem?_setIfInBounds_ne (show d≠t from fun e=>h e.symm)]
theorem zEf (a:Act) (d:Nat) (v:Value) (h:d<a.tmps.size):(a.put (some d) v).eval (.tmp d)=v:=by
 simp only[Act.put,Act.eval];simp[h]
theorem zHo (a:Act) (d:Option Tmp) (v:Value):(a.put d v).tmps.size=a.tmps.size:=by
 cases d<;>simp[Act.put]
theorem zDW:∀ (l:List Oper) (k:Nat) (listed:Array Bool) (vals:Nat->Value) (a:Act),(fill l k listed vals a).tmps.size=a.tmps.size
 | [],_,_,_,_=>rfl
 | o::r,k,listed,vals,a=>by
  simp only[fill];rw[zDW];split
  ·exact zHo ..
  ·rfl
theorem zBX:∀ (l:List Oper) (k:Nat) (listed:Array Bool) (vals:Nat->Value) (a:Act) (t:Tmp),l.any (fun o=>o.dst == some t)=false->(fill l k listed vals a).eval (.tmp t)=a.eval (.tmp t)
 | [],_,_,_,_,_,_=>rfl
 | o::r,k,listed,vals,a,t,h=>by
  simp only[List.any_cons,Bool.or_eq_false_iff]at h;simp only[fill];rw[zBX r (k+1) listed vals _ t h.2];split
  ·cases hd:o.dst with
   | none=>rfl
   | some d=>exact zOO a d t _ (fun e=>by subst e;rw[hd]at h;simp at h)
  ·rfl
theorem zFA:∀ (l:List Oper) (k:Nat) (listed:Array Bool) (vals:Nat->Value) (a:Act) (j:Nat) (o:Oper) (d:Tmp),zCe l=true->l[j]?=some o->o.dst=some d->d<a.tmps.size ->
  listed.getD (k+j) false=true->(fill l k listed vals a).eval (.tmp d)=vals (k+j)
 | [],_,_,_,_,_,_,_,_,h,_,_,_=>by simp at h
 | o::r,k,listed,vals,a,0,o',d,hd,h,hod,hsz,hl=>by
  simp at h;subst h;simp only[zCe,Bool.and_eq_true]at hd;obtain⟨⟨_,hall⟩,hr⟩:=hd;simp only[Nat.add_zero]at hl ⊢;simp only[fill,hl,if_true,hod]
  rw[zBX r (k+1) listed vals _ d (by
   rw[Bool.eq_false_iff];intro hc;obtain⟨o',ho',e⟩:=List.any_eq_true.1 hc;have:=List.all_eq_true.1 hall o' ho';rw[hod]at this
   simp at e this;exact this e),zEf a d _ hsz]
 | o::r,k,listed,vals,a,j+1,o',d,hd,h,hod,hsz,hl=>by
  simp only[zCe,Bool.and_eq_true]at hd;simp only[fill];rw[show k+(j+1)=k+1+j from by omega]at hl ⊢
  exact zFA r (k+1) listed vals _ j o' d hd.2 (by simpa using h) hod (by split<;>simp[zHo,hsz]) hl
structure RCtx (l:List Oper) (Ss:Nat->Value->World->Prop) (a0:Act) (w0:World) (o:Oper) (a:Act) (w:World):Prop where
 below:Below w0.heap.size w0 w
 frame:∀ t,l.any (fun o=>o.dst == some t)=false->a.eval (.tmp t)=a0.eval (.tmp t)
 dep:∀ j d,o.after.toList.any (fun e=>Region.binds .any e&&e.on == j)=true->(l[j]?).bind (·.dst)=some d->Ss j (a.eval (.tmp d)) w
 bound:a.tmps.size=a0.tmps.size
def zKG (P:Program) (o:Oper) (a:Act) (w:World) (s:Value->World->Prop):Prop :=
 o.wp P a w (fun a' w'=>∃ v,a'=a.put o.dst v/\Below w.heap.size w w'/\s v w') (fun _ _ _=>False)
def zA4 (P:Program) (ops:Array Oper) (o:Oper) (a:Act) (w:World) (s:Value->World->Prop):Prop :=
 if Region.wanted o (yielded ops a.tmps) then zKG P o a w s else s undef w
theorem zDj {P:Program} {o:Oper} {a:Act} {w:World} {K:Act->World->Prop} {Q:Exit->Act->World->Prop} (h:o.wp P a w K (fun _ _ _=>False)):o.wp P a w K Q:=by
 unfold Oper.wp at *
 generalize (execOp a.eval o).run P w=r at *
 cases r with
 | ok n w' =>
  cases n<;>simp only[Oper.upon]at h ⊢ <;>
   first
    | exact h
    | exact Calls.mono h (fun e w'' he=>by
      cases e with
      | returned v=>exact he
      | panicked c=>exact he.elim
      | outgrown=>obtain⟨_,_,h⟩:=he;exact h.elim)
 | halt x w'=>cases x<;>simp only[Oper.upon]at h ⊢<;>exact h.elim
def zAe (n g:Nat):Array Bool:=(List.replicate n true++List.replicate g false).toArray
def zNU (ops:Array Oper) (n:Nat):Bool :=
 decide (n<=ops.size)&&zCe (ops.toList.take n) &&
 ((ops.toList.take n).zipIdx.all fun (o,i)=>o.after.all fun e=>!Region.binds .any e || decide (e.on<i)) &&
 (decide (n=ops.size) || (Region.sinkB .any ops n&&Region.chainB .any ops n)) &&
 Region.seqB .any ops (ops.size - n) n (zAe n (ops.size - n))
theorem zDJ {ops:Array Oper} {n:Nat} {listed:Array Bool} (hn:n<=ops.size) (inv:HeadInv .any ops n listed) (h:∀ i,i<n->listed.getD i false=true):listed=zAe n (ops.size - n):=by
 have hs:=inv.size;apply Array.ext
 ·simp[zAe,hs];omega
 ·intro i h1 h2
  by_cases hi:i<n
  ·have:=h i hi;rw[Array.getD_eq_getD_getElem?,Array.getElem?_eq_getElem h1]at this;simp at this;rw[this];simp[zAe,hi]
  ·have:=inv.tail i (by omega) (by omega)
   rw[Array.getD_eq_getD_getElem?,Array.getElem?_eq_getElem h1]at this;simp at this;rw[this];simp[zAe,List.getElem_append,hi]
theorem pl:(∀ (t:Array Value) (d:List Deferred) (i:Nat) (v:Value),({tmps:=t,defers:=d}:Act).put (some i) v={tmps:=t.setIfInBounds i v,defers:=d})/\(∀ (a:Act) (v:Value),a.put none v=a)/\(∀ (a:Value) (l:List Value) (n:Nat),l.toArray.setIfInBounds n a=(l.set n a).toArray)/\(∀ (a b:Value) (l:List Value) (n:Nat),(a::l).set (n+1) b=a::l.set n b)/\∀ (a b:Value) (l:List Value),(a::l).set 0 b=b::l :=
 ⟨fun _ _ _ _=>rfl,fun _ _=>rfl,fun _ _ _=>List.setIfInBounds_toArray ..,fun _ _ _ _=>rfl,fun _ _ _=>rfl⟩
def blk:Value->Nat
 | .pointer (some a)=>a.block
 | .slice (some a) _ _=>a.block
 | _=>0
theorem zFp {P:Program} {id:Nat} {Q:Exit->Act->World->Prop} {a0:Act} {w0:World} {l:List Oper} (n:Nat) (Ss:Nat->Value->World->Prop) (D:Nat->Bool)
  (hm:P.follows .mixedOrders=true) (hB:zNU l.toArray n=true) (hsz:(l.take n).all (fun o=>match o.dst with|some d=>decide (d<a0.tmps.size)|none=>true)=true)
  (hst:∀ i,i<n->∀ v w w',Ss i v w->Below w.heap.size w w'->Ss i v w')
  (hlt:∀ i,i<n->D i=true->∀ v w,Ss i v w->blk v<w.heap.size)
  (hstep:∀ i o,i<n->l[i]?=some o->∀ a w,RCtx (l.take n) Ss a0 w0 o a w->zA4 P l.toArray o a w (fun v w'=>Ss i v w'/\(D i=true->w.heap.size<=blk v)))
  (hend:∀ vals w,Below w0.heap.size w0 w->(∀ i,i<n->Ss i (vals i) w)->(∀ i j,i<n->j<n->i≠j->D i=true->D j=true->blk (vals i)≠blk (vals j))->wpList P l.toArray Q (l.drop n) (zBI (l.take n) 0 vals a0) w) :
  (Code.region id l.toArray true).wp P Q a0 w0:=by
 simp only[zNU,Bool.and_eq_true,decide_eq_true_eq]at hB;obtain⟨⟨⟨⟨hn,hd⟩,haf⟩,hsink⟩,hseq⟩:=hB;have hn':n<=l.length:=by simpa using hn
 have hd':zCe (l.take n)=true:=hd;have htl:(l.take n).length=n:=by simp;omega
 have key:∀ (rem:List Nat) (f:Nat),rem.length=f->rem.Nodup->∀ (listed:Array Bool) (a:Act) (w:World),HeadInv .any l.toArray n listed ->
   (∀ i,i ∈ rem↔(i<n/\listed.getD i true=false))->(∃ vals,a=fill (l.take n) 0 listed vals a0/\(∀ i,i<n->listed.getD i false=true->Ss i (vals i) w)/\∀ i j,i<n->j<n->i≠j->listed.getD i false=true->listed.getD j false=true->D i=true->D j=true->blk (vals i)≠blk (vals j))->Below w0.heap.size w0 w ->
   wpAny P .any l.toArray Q (f+(l.toArray.size - n)) listed a w:=by
  intro rem f
  induction f generalizing rem with
  | zero =>
   intro hl _ listed a w inv hrem ⟨vals,ha,hv,hp⟩ hb;have hr:rem=[]:=List.length_eq_zero_iff.1 hl;subst hr;have hall:∀ i,i<n->listed.getD i false=true:=by
    intro i hi;have h1:¬ listed.getD i true=false:=fun h=>by have:=(hrem i).2 ⟨hi,h⟩;simp at this
    have h2:i<listed.size:=by rw[inv.size];omega
    rw[Array.getD_eq_getD_getElem?,Array.getElem?_eq_getElem h2]at h1 ⊢
    simpa using h1
   have hlist:=zDJ hn inv hall;have hw:=hend vals w hb (fun i hi=>hv i hi (hall i hi)) (fun i j hi hj hij=>hp i j hi hj hij (hall i hi) (hall j hj))
   rw[← zDG (l.take n) 0 listed vals a0 (fun i hi=>by rw[Nat.zero_add];exact hall i (by omega)),← ha]at hw
   rw[Nat.zero_add];have hdl:(l.drop n).length=l.toArray.size - n:=by simp
   rw[← hdl];refine wpAny_of_seq (l.drop n) n listed a w (fun j=>by simp) ?_ hw
   rw[hdl,hlist];exact hseq
  | succ f ih =>
   intro hl hnd listed a w inv hrem ⟨vals,ha,hv,hp⟩ hb;have hex:∃ i,i ∈ rem/\∀ j,j ∈ rem->i<=j:=by
    have:∀ (r:List Nat),r≠[]->∃ i,i ∈ r/\∀ j,j ∈ r->i<=j:=by
     intro r
     induction r with
     | nil=>intro h;exact(h rfl).elim
     | cons x r ihr =>
      intro _
      by_cases hr:r=[]
      ·subst hr;exact⟨x,by simp,by simp⟩
      ·obtain⟨i,hi,hmin⟩:=ihr hr
       by_cases hx:x<=i
       ·exact⟨x,by simp,fun j hj=>by rcases List.mem_cons.1 hj with rfl|hj;exact Nat.le_refl _;exact Nat.le_trans hx (hmin j hj)⟩
       ·exact⟨i,by simp[hi],fun j hj=>by rcases List.mem_cons.1 hj with rfl|hj;omega;exact hmin j hj⟩
    exact this rem (by intro h;subst h;simp at hl)
   have hready:Region.ready .any l.toArray listed≠[]:=by
    obtain⟨i,hi,hmin⟩:=hex;obtain⟨hin,hil⟩:=(hrem i).1 hi;have hlt:i<l.length:=by omega
    have hmem:i ∈ Region.ready .any l.toArray listed:=by
     refine mem_ready.2 ⟨hil,l[i],by simp[hlt],fun e he hbd=>?_⟩
     have h1:=List.all_eq_true.1 haf (l[i],i) (by
      rw[List.mem_zipIdx_iff_getElem?];simp[hin,hlt])
     have h2:=Array.all_eq_true'.1 h1 e he;simp[hbd]at h2;have hj:¬ e.on ∈ rem:=fun h=>by have:=hmin _ h;omega
     have h3:¬ listed.getD e.on true=false:=fun h=>hj ((hrem _).2 ⟨by omega,h⟩)
     have h4:e.on<listed.size:=by rw[inv.size];simp;omega
     rw[Array.getD_eq_getD_getElem?,Array.getElem?_eq_getElem h4]at h3 ⊢
     simpa using h3
    intro h;rw[h]at hmem;simp at hmem
   rw[show f+1+(l.toArray.size - n)=(f+(l.toArray.size - n))+1 from by omega]
   refine⟨fun h=>(hready h).elim,fun i hi=>?_⟩
   obtain⟨hil,o,ho,haft⟩:=mem_ready.1 hi;have hin:i<n:=by
    rcases Nat.lt_or_ge i n with h|h
    ·exact h
    ·exfalso
     obtain⟨i',hi',_⟩:=hex;obtain⟨hin',hil'⟩:=(hrem i').1 hi';have hisz:i<l.toArray.size:=(Array.getElem?_eq_some_iff.1 ho).1;simp only[Bool.or_eq_true,decide_eq_true_eq,Bool.and_eq_true]at hsink;rcases hsink with h0|⟨hs,hc⟩
     ·omega
     ·exact tail_waits hs hc (by omega) inv (n - i') i' rfl hin' hil' i h hi
   have ho':l[i]?=some o:=by simpa using ho
   have hot:(l.take n)[i]?=some o:=by rw[List.getElem?_take_of_lt hin];exact ho'
   obtain⟨d,hod⟩:∃ d,o.dst=some d:=by
    have:∀ (r:List Oper) (j:Nat),zCe r=true->r[j]?=some o->∃ d,o.dst=some d:=by
     intro r
     induction r with
     | nil=>intro j _ h;simp at h
     | cons x r ihr =>
      intro j hdd h;simp only[zCe,Bool.and_eq_true]at hdd
      cases j with
      | zero=>simp at h;subst h;exact Option.isSome_iff_exists.1 hdd.1.1
      | succ j=>exact ihr j hdd.2 (by simpa using h)
    exact this _ i hd' hot
   have hbd:∀ (j:Nat) (oj:Oper) (dj:Tmp),(l.take n)[j]?=some oj->oj.dst=some dj->dj<a0.tmps.size:=by
    intro j oj dj hj hdj;have:=List.all_eq_true.1 hsz oj (List.mem_of_getElem? hj)
    simpa [hdj] using this
   have hctx:RCtx (l.take n) Ss a0 w0 o a w:=by
    refine⟨hb,fun t ht=>by rw[ha];exact zBX _ _ _ _ _ t ht,fun j dj hj hdj=>?_,by rw[ha,zDW]⟩
    obtain⟨e,he,hbe⟩:=List.any_eq_true.1 hj;simp only[Bool.and_eq_true,beq_iff_eq]at hbe;have hlj:=haft e (Array.mem_toList_iff.1 he) hbe.1;rw[hbe.2]at hlj;obtain⟨oj,hoj,hdj'⟩:=Option.bind_eq_some_iff.1 hdj;have hjn:j<n:=by have:=(List.getElem?_eq_some_iff.1 hoj).1;omega
    rw[ha,zFA _ 0 listed vals a0 j oj dj hd' hoj hdj' (hbd j oj dj hoj hdj') (by rw[Nat.zero_add];exact hlj),Nat.zero_add]
    exact hv j hjn hlj
   have hstep':=hstep i o hin ho' a w hctx;have hnext:∀ v w',Below w.heap.size w w'->(Ss i v w'/\(D i=true->w.heap.size<=blk v))->wpAny P .any l.toArray Q (f+(l.toArray.size - n)) (listed.setIfInBounds i true) (a.put o.dst v) w':=by
    intro v w' hbw ⟨hsv,hfr⟩;have hmemi:i ∈ rem:=(hrem i).2 ⟨hin,hil⟩;refine ih (rem.erase i) (by rw[List.length_erase_of_mem hmemi,hl];rfl) (hnd.erase i) _ _ w' (inv.set hi hin) (fun j=>?_) ⟨fun j=>if j=i then v else vals j,?_,fun j hj hlj=>?_,fun j k hj hk hjk hlj hlk hDj hDk=>?_⟩ (hb.trans (hbw.mono hb.size))
    ·rw[hnd.mem_erase_iff,hrem j]
     by_cases hji:j=i
     ·subst hji;have hjs:j<listed.size:=by rw[inv.size];simp;omega
      simp[hjs]
     ·rw[getD_set_ne true (fun e=>hji e.symm)]
      simp[hji]
    ·have:=zDi (l.take n) 0 i listed vals a0 o d v hd' hot hod (by rw[Nat.zero_add];exact hil)
     rw[Nat.zero_add]at this;rw[this,← ha,hod]
    ·by_cases hji:j=i
     ·subst hji;simpa using hsv
     ·show Ss j (if j=i then v else vals j) w'
      rw[if_neg hji];rw[getD_set_ne false (fun e=>hji e.symm)]at hlj
      exact hst j hj _ _ _ (hv j hj hlj) hbw
    ·show blk (if j=i then v else vals j)≠blk (if k=i then v else vals k)
     by_cases hji:j=i
     ·subst hji;rw[if_pos rfl,if_neg (fun e=>hjk e.symm)]
      rw[getD_set_ne false hjk]at hlk;have h1:=hlt k hk hDk _ _ (hv k hk hlk);have h2:=hfr hDj;omega
     ·rw[if_neg hji];rw[getD_set_ne false (fun e=>hji e.symm)]at hlj
      by_cases hki:k=i
      ·subst hki;rw[if_pos rfl];have h1:=hlt j hj hDj _ _ (hv j hj hlj);have h2:=hfr hDk;omega
      ·rw[if_neg hki];rw[getD_set_ne false (fun e=>hki e.symm)]at hlk
       exact hp j k hj hk hjk hlj hlk hDj hDk
   unfold wpOp;simp only[ho];unfold zA4 at hstep';split
   ·rename_i hw;rw[if_pos hw]at hstep';refine .inl (zDj (Oper.wp_mono (fun a' w' ⟨v,e,hbw,hsv⟩=>?_) hstep'))
    subst e;exact hnext v w' hbw hsv
   ·rename_i hw;rw[if_neg hw]at hstep';exact hnext undef w (Below.refl _ w) hstep'
 refine wp_region_any hm ?_
 have h0:=key (List.range n) n (by simp) List.nodup_range (Array.replicate l.toArray.size false) a0 {w0 with drawn:=w0.drawn+1}
  ⟨by simp,fun j oj _ hl=>(by rw[getD_replicate_false]at hl;cases hl),fun t _ ht=>getD_in (by simpa using ht) (getD_replicate_false _ _)⟩
  (fun i=>by
   rw[List.mem_range];constructor
   ·intro h;exact⟨h,getD_in (by simp;omega) (getD_replicate_false _ _)⟩
   ·intro h;exact h.1)
  ⟨fun _=>undef,(zCh _ _ _ _ _ (fun i=>getD_replicate_false _ _)).symm,fun i _ h=>(by rw[getD_replicate_false]at h;cases h),fun i j _ _ _ h=>(by rw[getD_replicate_false]at h;cases h)⟩
  ((Below.refl _ w0).drew)
 rw[show n+(l.toArray.size - n)=l.toArray.size from by omega]at h0
 exact h0
def zC0 (s:Value->World->Prop):Prop:=∀ v w w',s v w->Below w.heap.size w w'->s v w'
theorem zAI (x:Value):zC0 (fun v _=>v=x):=fun _ _ _ h _=>h
def zAO:List (Value->World->Prop)->Nat->Value->World->Prop
 | [],_=>fun _ _=>True
 | s::_,0=>s
 | _::r,i+1=>zAO r i
def zCG:List (Value->World->Prop)->Prop
 | []=>True
 | s::r=>zC0 s/\zCG r
theorem zCF:∀ (L:List (Value->World->Prop)) (i:Nat),zCG L->zC0 (zAO L i)
 | [],_,_=>fun _ _ _ h _=>h
 | _::_,0,h=>h.1
 | _::r,i+1,h=>zCF r i h.2
def Obl (P:Program) (l hd:List Oper) (L:List (Value->World->Prop)) (D:Nat->Bool) (a0:Act) (w0:World):List Oper->Nat->Prop
 | [],_=>True
 | o::r,i=>(∀ a w,RCtx hd (zAO L) a0 w0 o a w->zA4 P l.toArray o a w (fun v w'=>zAO L i v w'/\(D i=true->w.heap.size<=blk v)))/\Obl P l hd L D a0 w0 r (i+1)
theorem Obl.get {P:Program} {l hd:List Oper} {L:List (Value->World->Prop)} {D:Nat->Bool} {a0:Act} {w0:World}:∀ (r:List Oper) (k:Nat),Obl P l hd L D a0 w0 r k->∀ i o,r[i]?=some o ->
  ∀ a w,RCtx hd (zAO L) a0 w0 o a w->zA4 P l.toArray o a w (fun v w'=>zAO L (k+i) v w'/\(D (k+i)=true->w.heap.size<=blk v))
 | [],_,_,_,_,h=>by simp at h
 | o::r,k,h,0,o',h'=>by simp at h';subst h';exact h.1
 | o::r,k,h,i+1,o',h'=>by
  have:=Obl.get r (k+1) h.2 i o' (by simpa using h')
  rwa [show k+1+i=k+(i+1) from by omega]at this
theorem zAd {P:Program} {id:Nat} {Q:Exit->Act->World->Prop} {a0:Act} {w0:World} {l:List Oper} (n:Nat) (L:List (Value->World->Prop)) (D:Nat->Bool)
  (hm:P.follows .mixedOrders=true) (hB:zNU l.toArray n=true) (hsz:(l.take n).all (fun o=>match o.dst with|some d=>decide (d<a0.tmps.size)|none=>true)=true)
  (hst:zCG L) (hlt:∀ i,i<n->D i=true->∀ v w,zAO L i v w->blk v<w.heap.size)
  (hstep:Obl P l (l.take n) L D a0 w0 (l.take n) 0)
  (hend:∀ vals w,Below w0.heap.size w0 w->(∀ i,i<n->zAO L i (vals i) w)->(∀ i j,i<n->j<n->i≠j->D i=true->D j=true->blk (vals i)≠blk (vals j)) ->
   wpList P l.toArray Q (l.drop n) (zBI (l.take n) 0 vals a0) w) :
  (Code.region id l.toArray true).wp P Q a0 w0 :=
 zFp n (zAO L) D hm hB hsz (fun i _ v w w' h hb=>zCF L i hst v w w' h hb) hlt
  (fun i o hi ho a w hc=>by
   have:=Obl.get (l.take n) 0 hstep i o (by rw[List.getElem?_take_of_lt hi];exact ho) a w hc
   rwa [Nat.zero_add]at this) hend
theorem wr_ {P:Program} {id:Nat} {Q:Exit->Act->World->Prop} {a0:Act} {w0:World} {l:List Oper} (n:Nat) (L:List (Value->World->Prop)) (hstep:Obl P l (l.take n) L (fun _=>false) a0 w0 (l.take n) 0)
  (hend:∀ vals w,Below w0.heap.size w0 w->(∀ i,i<n->zAO L i (vals i) w)->(∀ i j:Nat,i<n->j<n->i≠j->false=true->false=true->blk (vals i)≠blk (vals j))->wpList P l.toArray Q (l.drop n) (zBI (l.take n) 0 vals a0) w)
  (hm:P.follows .mixedOrders=true:=by kernel_rfl) (hB:zNU l.toArray n=true:=by kernel_rfl) (hsz:(l.take n).all (fun o=>match o.dst with|some d=>decide (d<a0.tmps.size)|none=>true)=true:=by kernel_rfl)
  (hst:zCG L:=by repeat (first|exact trivial|refine⟨zAI _,?_⟩)):(Code.region id l.toArray true).wp P Q a0 w0:=zAd n L (fun _=>false) hm hB hsz hst (fun _ _ h=>by cases h) hstep hend
theorem zBo {P:Program} {ops:Array Oper} {o:Oper} {a:Act} {w w':World} {s:Value->World->Prop} {v:Value} (hg:Region.wanted o (yielded ops a.tmps)=true)
  (hr:(execOp a.eval o).run P w=.ok (.value v) w') (hb:Below w.heap.size w w') (hs:s v w'):zA4 P ops o a w s:=by
 unfold zA4;rw[if_pos hg];unfold zKG Oper.wp;rw[hr];exact⟨v,rfl,hb,hs⟩
theorem zJc {P:Program} {ops:Array Oper} {o:Oper} {a:Act} {w:World} {s:Value->World->Prop} {f:FuncId} {args:Array Value} (hg:Region.wanted o (yielded ops a.tmps)=true)
  (hr:(execOp a.eval o).run P w=.ok (.enter f args) w) (hc:Calls P f args w fun e w'=>∃ v,e=.returned v/\Below w.heap.size w w'/\s v w'):zA4 P ops o a w s:=by
 unfold zA4;rw[if_pos hg];unfold zKG Oper.wp;rw[hr];exact hc.mono fun e w' ⟨v,he,hb,hs⟩=>by subst he;exact⟨v,rfl,hb,hs⟩
theorem zI7 {P:Program} {ops:Array Oper} {o:Oper} {a:Act} {w:World} {s:Value->World->Prop} (hg:Region.wanted o (yielded ops a.tmps)=false) (hs:s undef w):zA4 P ops o a w s:=by
 unfold zA4;rw[if_neg (by rw[hg];decide)];exact hs
theorem zAM {ops:Array Oper} {a:Act} {j:Nat} {d:Tmp} {b:Bool} (h1:(ops[j]?).bind (·.dst)=some d) (h2:a.eval (.tmp d)=.bool b):yielded ops a.tmps j=some b:=by
 unfold yielded;rw[h1];simp only[Option.bind_some];simp only[Act.eval,Array.getD_eq_getD_getElem?]at h2
 cases h3:a.tmps[d]? with
 | none=>rw[h3]at h2;simp[undef]at h2
 | some x=>rw[h3]at h2;simp at h2;subst h2;rfl
theorem zAT {ops:Array Oper} {o:Oper} {a:Act} {j:Nat} {b:Bool} (hg:o.guard=some (j,b)) (hy:yielded ops a.tmps j=some b):Region.wanted o (yielded ops a.tmps)=true:=by
 simp[Region.wanted,hg,hy]
theorem zFM {ops:Array Oper} {o:Oper} {a:Act} {j:Nat} {b c:Bool} (hg:o.guard=some (j,b)) (hy:yielded ops a.tmps j=some c) (hbc:c≠b):Region.wanted o (yielded ops a.tmps)=false:=by
 simp[Region.wanted,hg,hy,hbc]
theorem zAB {P:Program} {ops:Array Oper} {o:Oper} {a:Act} {w:World} {x:Operand} {v:Value} {D:Prop} (hg:Region.wanted o (yielded ops a.tmps)=true) (hop:o.op=Op.move x) (hx:a.eval x=v) (hD:¬ D:=by decide) :
  zA4 P ops o a w (fun v' _=>v'=v/\(D->w.heap.size<=blk v')):=by
 refine zBo hg (v:=v) (w':=w) ?_ (Below.refl _ w) ⟨rfl,fun h=>(hD h).elim⟩
 simp only[execOp,hop,hx];rfl
theorem zAy {P:Program} {ops:Array Oper} {o:Oper} {a:Act} {w:World} {x y z:Operand} {b:Bool} {v:Value} {D:Prop} (hg:Region.wanted o (yielded ops a.tmps)=true) (hop:o.op=Op.pick x y z) (hx:a.eval x=.bool b)
  (hv:(if b then a.eval y else a.eval z)=v) (hD:¬ D:=by decide):zA4 P ops o a w (fun v' _=>v'=v/\(D->w.heap.size<=blk v')):=by
 refine zBo hg (v:=v) (w':=w) ?_ (Below.refl _ w) ⟨rfl,fun h=>(hD h).elim⟩
 simp only[execOp,hop,hx];subst hv
 cases b<;>rfl
theorem zCK {P:Program} {ops:Array Oper} {o:Oper} {a:Act} {w:World} {x:Operand} {v:Value} {D:Prop} (hg:Region.wanted o (yielded ops a.tmps)=true) (hop:o.op=Op.assign x) (hx:a.eval x=v) (hD:¬ D:=by decide) :
  zA4 P ops o a w (fun v' _=>v'=v/\(D->w.heap.size<=blk v')):=by
 refine zBo hg (v:=v) (w':=w) ?_ (Below.refl _ w) ⟨rfl,fun h=>(hD h).elim⟩
 simp only[execOp,hop,hx];rfl
theorem wg {ops:Array Oper} {o:Oper} {a:Act} {j:Nat} {b:Bool} {d:Tmp} (hy:a.eval (.tmp d)=.bool b) (hg:o.guard=some (j,b):=by exact rfl) (hj:(ops[j]?).bind (·.dst)=some d:=by exact rfl):Region.wanted o (yielded ops a.tmps)=true:=zAT hg (zAM hj hy)
abbrev pt (b k:Nat):Value:=.pointer (some ⟨b,k,none⟩)
theorem rsk {P:Program} {ops:Array Oper} {o:Oper} {a:Act} {w:World} {j:Nat} {b c:Bool} {d:Tmp} {D:Prop} (hy:a.eval (.tmp d)=.bool c) (hg:o.guard=some (j,b):=by rfl) (hj:(ops[j]?).bind (·.dst)=some d:=by rfl) (hbc:c≠b:=by decide) (hD:¬ D:=by decide) :
  zA4 P ops o a w (fun v w'=>v=undef/\(D->w.heap.size<=blk v)):=zI7 (zFM hg (zAM hj hy) hbc) ⟨rfl,fun h=>(hD h).elim⟩
theorem e_ {L:List (Value->World->Prop)} {n:Nat} {vals:Nat->Value} {w:World} {x:Value} (h:∀ i,i<n->zAO L i (vals i) w) (i:Nat) (hi:i<n:=by decide) (he:zAO L i (vals i) w=(vals i=x):=by exact rfl):vals i=x:=he ▸ h i hi
theorem fa:(∀ (n:Nat) (a:Oper) (l:List Oper),List.take (n+1) (a::l)=a::List.take n l)/\(∀ l:List Oper,List.take 0 l=[])/\(∀ (n:Nat) (a:Oper) (l:List Oper),List.drop (n+1) (a::l)=List.drop n l)/\(∀ l:List Oper,List.drop 0 l=l)/\(∀ n:Nat,List.drop n ([]:List Oper)=[])/\(∀ n:Nat,List.take n ([]:List Oper)=[]) /\
  (∀ (k:Nat) (v:Nat->Value) (a:Act),zBI [] k v a=a)/\(∀ (o:Oper) (l:List Oper) (k:Nat) (v:Nat->Value) (a:Act),zBI (o::l) k v a=zBI l (k+1) v (a.put o.dst (v k)))/\∀ n:Nat,0+n=n :=
 ⟨fun _ _ _=>rfl,fun _=>rfl,fun _ _ _=>rfl,fun _=>rfl,fun n=>by cases n<;>rfl,fun n=>by cases n<;>rfl,fun _ _ _=>rfl,fun _ _ _ _ _=>rfl,Nat.zero_add⟩
theorem RCtx.d {l:List Oper} {Ss:Nat->Value->World->Prop} {a0:Act} {w0:World} {o:Oper} {a:Act} {w:World} (h:RCtx l Ss a0 w0 o a w) (j d:Nat) (h1:o.after.toList.any (fun e=>Region.binds .any e&&e.on == j)=true:=by exact rfl) (h2:(l[j]?).bind (·.dst)=some d:=by exact rfl):Ss j (a.eval (.tmp d)) w:=h.dep j d h1 h2
theorem RCtx.f {l:List Oper} {Ss:Nat->Value->World->Prop} {a0:Act} {w0:World} {o:Oper} {a:Act} {w:World} (h:RCtx l Ss a0 w0 o a w) (t:Nat) (h1:l.any (fun o=>o.dst == some t)=false:=by exact rfl):a.eval (.tmp t)=a0.eval (.tmp t):=h.frame t h1
end
section
open Go.RowKit Go.Shelf
attribute [local go_sem] Oper.semAt_some
theorem zGh (L:List (Nat->Nat)):zC0 (fun v w=>RdS w w.heap.size v L):=fun _ _ _ h hb=>(h.below hb).up hb.size
def IsBox (n0:Nat) (s:Nat->Nat) (v:Value) (w:World):Prop:=∃ g,v=pt g 0/\n0<=g/\SBox w g 30 s
theorem IsBox.lt {n0:Nat} {s:Nat->Nat} {v:Value} {w:World} (h:IsBox n0 s v w):blk v<w.heap.size:=by
 obtain⟨g,rfl,_,h2⟩:=h;exact h2.lt
theorem zCS {ops:Array Oper} {o:Oper} {a:Act} {w:World} {x:Operand} {B:Nat} {s:Nat->Nat} {D:Prop} (hg:Region.wanted o (yielded ops a.tmps)=true) (hop:o.op=Op.load 30 x)
  (hx:a.eval x=.pointer (some ⟨B,0,none⟩)) (hB:SBox w B 30 s) (hD:¬ D:=by decide):zA4 Tryz.prog ops o a w (fun v _=>v=setV s/\(D->w.heap.size<=blk v)):=by
 have k0:=hB.cell (k:=0) (by omega);have k1:=hB.cell (k:=1) (by omega);have k2:=hB.cell (k:=2) (by omega);have k3:=hB.cell (k:=3) (by omega)
 refine zBo hg (v:=setV s) (w':=w) ?_ (Below.refl _ w) ⟨rfl,fun h=>(hD h).elim⟩
 unfold setV;simp only[execOp,hop,hx];simp[go_sem,k0,k1,k2,k3]
theorem zIA {ops:Array Oper} {o:Oper} {a:Act} {w:World} {x y:Operand} {s t:Nat->Nat} {D:Prop} (hg:Region.wanted o (yielded ops a.tmps)=true)
  (hop:o.op=Op.buildSlice 270 2 #[(0,x),(1,y)]) (hx:a.eval x=setV s) (hy:a.eval y=setV t) (hD:¬ D:=by decide) :
  zA4 Tryz.prog ops o a w (fun v w'=>RdS w' w'.heap.size v [s,t]/\(D->w.heap.size<=blk v)):=by
 refine zBo hg (v:=.slice (some ⟨w.heap.size,0,none⟩) 2 2) (w':=w.alloc (.cells (rowC [s,t]).toArray 30)) ?_ ((Below.refl _ w).alloc (Nat.le_refl _) _)
  ⟨(RdS.lit w [s,t] 30 (by simp[maxLen])).up (by rw[World.size_alloc];exact Nat.le_refl _),fun h=>(hD h).elim⟩
 simp only[execOp,hop];simp only[List.map_toArray,List.map_cons,List.map_nil,hx,hy];unfold setV;simp[go_sem];rfl
theorem zNj (s:Nat->Nat):eqS s s=true:=by simp[eqS]
end
section
open Go.RowKit
theorem zAi (n g i:Nat) (d:Bool) (h:i<n+g):(zAe n g).getD i d=decide (i<n):=by
 have hs:i<(zAe n g).size:=by simp[zAe];omega
 rw[Array.getD_eq_getD_getElem?,Array.getElem?_eq_getElem hs];simp only[zAe,Option.getD_some,List.getElem_toArray]
 by_cases hi:i<n
 ·rw[List.getElem_append_left (by simpa using hi)];simp[hi]
 ·rw[List.getElem_append_right (by simpa using hi)];simp[hi]
theorem zDy (n g i:Nat) (d:Bool) (h:n+g<=i):(zAe n g).getD i d=d:=by
 rw[Array.getD_eq_getD_getElem?,Array.getElem?_eq_none (by simp[zAe];omega)];rfl
def seqB (l:List Oper) (n:Nat):Bool:=decide (n<=l.length)&&zCe (l.take n)&&((l.take n).zipIdx.all fun (o,i)=>o.after.all fun e=>!Region.binds .any e || decide (e.on<i))
theorem zGU {P:Program} {id:Nat} {Q:Exit->Act->World->Prop} {a0:Act} {w0:World} {l:List Oper} (n:Nat) (Ss:Nat->Value->World->Prop) (D:Nat->Bool)
  (hB:seqB l n=true) (hsz:(l.take n).all (fun o=>match o.dst with|some d=>decide (d<a0.tmps.size)|none=>true)=true)
  (hst:∀ i,i<n->∀ v w w',Ss i v w->Below w.heap.size w w'->Ss i v w')
  (hlt:∀ i,i<n->D i=true->∀ v w,Ss i v w->blk v<w.heap.size)
  (hstep:∀ i o,i<n->l[i]?=some o->∀ a w,RCtx (l.take n) Ss a0 w0 o a w->zA4 P l.toArray o a w (fun v w'=>Ss i v w'/\(D i=true->w.heap.size<=blk v)))
  (hend:∀ vals w,Below w0.heap.size w0 w->(∀ i,i<n->Ss i (vals i) w)->(∀ i j,i<n->j<n->i≠j->D i=true->D j=true->blk (vals i)≠blk (vals j))->wpList P l.toArray Q (l.drop n) (zBI (l.take n) 0 vals a0) w) :
  (Code.region id l.toArray false).wp P Q a0 w0:=by
 simp only[seqB,Bool.and_eq_true,decide_eq_true_eq]at hB;obtain⟨⟨hn,hd'⟩,haf⟩:=hB;have htl:(l.take n).length=n:=by simp;omega
 have hdst:∀ (i:Nat) (o:Oper),(l.take n)[i]?=some o->∃ d,o.dst=some d:=by
  intro i o h;have:∀ (r:List Oper) (j:Nat),zCe r=true->r[j]?=some o->∃ d,o.dst=some d:=by
   intro r
   induction r with
   | nil=>intro j _ h;simp at h
   | cons x r ihr =>
    intro j hdd h;simp only[zCe,Bool.and_eq_true]at hdd
    cases j with
    | zero=>simp at h;subst h;exact Option.isSome_iff_exists.1 hdd.1.1
    | succ j=>exact ihr j hdd.2 (by simpa using h)
  exact this _ i hd' h
 have hbd:∀ (j:Nat) (oj:Oper) (dj:Tmp),(l.take n)[j]?=some oj->oj.dst=some dj->dj<a0.tmps.size:=by
  intro j oj dj hj hdj;have:=List.all_eq_true.1 hsz oj (List.mem_of_getElem? hj)
  simpa [hdj] using this
 have key:∀ (f i:Nat),i+f=n->∀ (vals:Nat->Value) (a:Act) (w:World),a=fill (l.take n) 0 (zAe i (n - i)) vals a0->(∀ j,j<i->Ss j (vals j) w) ->
   (∀ j k,j<i->k<i->j≠k->D j=true->D k=true->blk (vals j)≠blk (vals k))->Below w0.heap.size w0 w->wpList P l.toArray Q (l.drop i) a w:=by
  intro f
  induction f with
  | zero =>
   intro i hi vals a w ha hv hp hb;have hi':i=n:=by omega
   subst hi';rw[ha,zDG (l.take i) 0 _ vals a0 (fun j hj=>by rw[Nat.zero_add,zAi _ _ _ _ (by omega)];simp;omega)]
   exact hend vals w hb hv hp
  | succ f ih =>
   intro i hi vals a w ha hv hp hb;have hin:i<n:=by omega
   have hil:i<l.length:=by omega
   have hot:(l.take n)[i]?=some l[i]:=by rw[List.getElem?_take_of_lt hin];simp[hil]
   obtain⟨d,hod⟩:=hdst i _ hot;rw[List.drop_eq_getElem_cons hil];have hctx:RCtx (l.take n) Ss a0 w0 l[i] a w:=by
    refine⟨hb,fun t ht=>by rw[ha];exact zBX _ _ _ _ _ t ht,fun j dj hj hdj=>?_,by rw[ha,zDW]⟩
    obtain⟨e,he,hbe⟩:=List.any_eq_true.1 hj;simp only[Bool.and_eq_true,beq_iff_eq]at hbe;have h1:=List.all_eq_true.1 haf (l[i],i) (by rw[List.mem_zipIdx_iff_getElem?];simp[hin,hil])
    have h2:=Array.all_eq_true'.1 h1 e (Array.mem_toList_iff.1 he);simp only[hbe.1,Bool.not_true,Bool.false_or,decide_eq_true_eq,hbe.2]at h2;obtain⟨oj,hoj,hdj'⟩:=Option.bind_eq_some_iff.1 hdj;rw[ha,zFA _ 0 _ vals a0 j oj dj hd' hoj hdj' (hbd j oj dj hoj hdj') (by rw[Nat.zero_add,zAi _ _ _ _ (by omega)];simpa using h2),Nat.zero_add]
    exact hv j h2
   have hstep':=hstep i l[i] hin (by simp[hil]) a w hctx
   have hnext:∀ v w',Below w.heap.size w w'->(Ss i v w'/\(D i=true->w.heap.size<=blk v))->wpList P l.toArray Q (l.drop (i+1)) (a.put l[i].dst v) w':=by
    intro v w' hbw ⟨hsv,hfr⟩;refine ih (i+1) (by omega) (fun j=>if j=i then v else vals j) _ w' ?_ (fun j hj=>?_) (fun j k hj hk hjk hDj hDk=>?_) (hb.trans (hbw.mono hb.size))
    ·have h1:=zDi (l.take n) 0 i (zAe i (n - i)) vals a0 l[i] d v hd' hot hod (by rw[Nat.zero_add,zAi _ _ _ _ (by omega)];simp)
     rw[Nat.zero_add]at h1;rw[ha,hod,← h1];refine zCR _ _ _ _ _ _ _ (fun j hj=>⟨?_,rfl⟩)
     rw[Nat.zero_add,zAi _ _ _ _ (by omega)]
     by_cases hji:j=i
     ·subst hji;have:j<(zAe j (n - j)).size:=by simp[zAe];omega
      simp[Array.getD_eq_getD_getElem?,this]
     ·rw[getD_set_ne false (fun e=>hji e.symm),zAi _ _ _ _ (by omega)]
      simp;omega
    ·by_cases hji:j=i
     ·subst hji;simpa using hsv
     ·show Ss j (if j=i then v else vals j) w'
      rw[if_neg hji];exact hst j (by omega) _ _ _ (hv j (by omega)) hbw
    ·show blk (if j=i then v else vals j)≠blk (if k=i then v else vals k)
     by_cases hji:j=i
     ·have hki:k≠i:=fun e=>hjk (hji.trans e.symm)
      rw[if_pos hji,if_neg hki];have h1:=hfr (hji ▸ hDj);have h2:=hlt k (by omega) hDk _ _ (hv k (by omega))
      omega
     ·rw[if_neg hji]
      by_cases hki:k=i
      ·rw[if_pos hki];have h1:=hfr (hki ▸ hDk);have h2:=hlt j (by omega) hDj _ _ (hv j (by omega))
       omega
      ·rw[if_neg hki];exact hp j k (by omega) (by omega) hjk hDj hDk
   unfold zA4 at hstep'
   show wpList P l.toArray Q (l[i]::l.drop (i+1)) a w
   unfold wpList;split
   ·rename_i hw;rw[if_pos hw]at hstep';refine .inl (zDj (Oper.wp_mono (fun a' w' ⟨v,e,hbw,hsv⟩=>?_) hstep'))
    subst e;exact hnext v w' hbw hsv
   ·rename_i hw;rw[if_neg hw]at hstep';exact hnext undef w (Below.refl _ w) hstep'
 refine wp_region_lit ?_
 have:=key n 0 (by omega) (fun _=>undef) a0 w0 (zCh _ _ _ _ _ (fun j=>by
  rcases Nat.lt_or_ge j n with h|h
  ·rw[zAi _ _ _ _ (by omega)];simp
  ·rw[zDy _ _ _ _ (by omega)])).symm (fun j h=>by omega) (fun j k h=>by omega) (Below.refl _ _)
 simpa using this
theorem zB1 {P:Program} {id:Nat} {Q:Exit->Act->World->Prop} {a0:Act} {w0:World} {l:List Oper} (n:Nat) (L:List (Value->World->Prop)) (D:Nat->Bool)
  (hB:seqB l n=true) (hsz:(l.take n).all (fun o=>match o.dst with|some d=>decide (d<a0.tmps.size)|none=>true)=true)
  (hst:zCG L) (hlt:∀ i,i<n->D i=true->∀ v w,zAO L i v w->blk v<w.heap.size)
  (hstep:Obl P l (l.take n) L D a0 w0 (l.take n) 0)
  (hend:∀ vals w,Below w0.heap.size w0 w->(∀ i,i<n->zAO L i (vals i) w)->(∀ i j,i<n->j<n->i≠j->D i=true->D j=true->blk (vals i)≠blk (vals j)) ->
   wpList P l.toArray Q (l.drop n) (zBI (l.take n) 0 vals a0) w) :
  (Code.region id l.toArray false).wp P Q a0 w0 :=
 zGU n (zAO L) D hB hsz (fun i _ v w w' h hb=>zCF L i hst v w w' h hb) hlt
  (fun i o hi ho a w hc=>by
   have:=Obl.get (l.take n) 0 hstep i o (by rw[List.getElem?_take_of_lt hi];exact ho) a w hc
   rwa [Nat.zero_add]at this) hend
theorem ws_ {P:Program} {id:Nat} {Q:Exit->Act->World->Prop} {a0:Act} {w0:World} {l:List Oper} (n:Nat) (L:List (Value->World->Prop)) (hstep:Obl P l (l.take n) L (fun _=>false) a0 w0 (l.take n) 0)
  (hend:∀ vals w,Below w0.heap.size w0 w->(∀ i,i<n->zAO L i (vals i) w)->(∀ i j:Nat,i<n->j<n->i≠j->false=true->false=true->blk (vals i)≠blk (vals j))->wpList P l.toArray Q (l.drop n) (zBI (l.take n) 0 vals a0) w)
  (hB:seqB l n=true:=by kernel_rfl) (hsz:(l.take n).all (fun o=>match o.dst with|some d=>decide (d<a0.tmps.size)|none=>true)=true:=by kernel_rfl)
  (hst:zCG L:=by repeat (first|exact trivial|refine⟨zAI _,?_⟩)):(Code.region id l.toArray false).wp P Q a0 w0:=zB1 n L (fun _=>false) hB hsz hst (fun _ _ h=>by cases h) hstep hend
section
variable {P:Program} {ops:Array Oper} {o:Oper} {a:Act} {w:World} {D:Prop}
theorem zAA {v:Value} (hg:Region.wanted o (yielded ops a.tmps)=true) (hr:(execOp a.eval o).run P w=.ok (.value v) w) (hD:¬ D:=by decide) :
  zA4 P ops o a w (fun v' _=>v'=v/\(D->w.heap.size<=blk v')) :=
 zBo hg hr (Below.refl _ w) ⟨rfl,fun h=>(hD h).elim⟩
theorem zCN {x:Operand} {u:Value} (h:a.eval x=u):(#[x]:Array Operand).map a.eval=#[u]:=by simp[h]
theorem zBm {x y:Operand} {u v:Value} (h:a.eval x=u/\a.eval y=v):(#[x,y]:Array Operand).map a.eval=#[u,v]:=by simp[h.1,h.2]
theorem zMz {x y z:Operand} {u v t:Value} (h:a.eval x=u/\a.eval y=v/\a.eval z=t):(#[x,y,z]:Array Operand).map a.eval=#[u,v,t]:=by simp[h.1,h.2.1,h.2.2]
theorem zH7 {s:Value->World->Prop} {f:FuncId} {xs:Array Operand} {ts:Array TypeId} {vs:Array Value} (hg:Region.wanted o (yielded ops a.tmps)=true)
  (hop:o.op=Op.call {callee:=Callee.value (Operand.func f),args:=xs,argTypes:=ts}) (hf:∀ args w,(callFunc f args).run P w=.ok (.enter f args) w) (hx:xs.map a.eval=vs)
  (hc:Calls P f vs w fun e w'=>∃ v,e=.returned v/\Below w.heap.size w w'/\s v w'):zA4 P ops o a w s:=by
 refine zJc hg (f:=f) (args:=vs) ?_ hc;simp only[execOp,hop];simp[resolve,hx];rw[show a.eval (Operand.func f)=.func (.func f) #[] #[] from rfl]
 simp[Deferred.ofValue,invoke,hf]
theorem zAc {f:FuncId} {xs:Array Operand} {ts:Array TypeId} {vs:Array Value} {v:Value} (hg:Region.wanted o (yielded ops a.tmps)=true)
  (hop:o.op=Op.call {callee:=Callee.value (Operand.func f),args:=xs,argTypes:=ts}) (hf:∀ args w,(callFunc f args).run P w=.ok (.enter f args) w) (hx:xs.map a.eval=vs)
  (hc:Calls P f vs w fun e w'=>e=.returned v/\Below w.heap.size w w') (hD:¬ D:=by decide):zA4 P ops o a w (fun v' _=>v'=v/\(D->w.heap.size<=blk v')) :=
 zH7 hg hop hf hx (hc.mono fun _ _ ⟨he,hb⟩=>⟨v,he,hb,rfl,fun h=>(hD h).elim⟩)
theorem zBB {x:Operand} {t e:TypeId} (hu:P.underlying t=some (.slice e)) {p:Option Addr} {n c:Nat} (hg:Region.wanted o (yielded ops a.tmps)=true) (hop:o.op=Op.call {callee:=Callee.builtin Builtin.len,args:=#[x],argTypes:=#[t]})
  (hx:a.eval x=.slice p n c) (hD:¬ D:=by decide):zA4 P ops o a w (fun v' _=>v'=.int .i64 n/\(D->w.heap.size<=blk v')):=by
 refine zAA hg ?_ hD;simp only[execOp,hop,resolve,invoke,builtin,List.map_toArray,List.map_cons,List.map_nil,hx];simp[go_sem,Builtin.len_,run_underlying hu]
theorem zAU {x y:Operand} {T e:TypeId} {sz g off n c i q:Nat} {k:IntKind} (hu:P.underlying T=some (.slice e)) (hs:∀ w,(sizeOf e).run P w=.ok sz w) (hg:Region.wanted o (yielded ops a.tmps)=true)
  (hop:o.op=Op.indexAddr T x y) (hx:a.eval x=.slice (some ⟨g,off,none⟩) n c) (hy:a.eval y=.int k (i:Int)) (hi:i<n) (hq:off+i * sz=q) (hD:¬ D:=by decide) :
  zA4 P ops o a w (fun v' _=>v'=.pointer (some ⟨g,q,none⟩)/\(D->w.heap.size<=blk v')):=by
 subst hq;refine zAA hg ?_ hD;simp only[execOp,hop,hx,hy];simp[Instr.indexAt,asIntOf,go_sem,run_underlying hu,hs];intro hc;omega
end
def OneV (T:TypeId) (x:Value) (v:Value) (w:World):Prop:=∃ g,v=.slice (some ⟨g,0,none⟩) 1 1/\Boxed w g T x
theorem zF9 (T:TypeId) (x:Value):zC0 (OneV T x):=fun _ _ _ ⟨g,e,h⟩ hb=>⟨g,e,zLO h hb⟩
theorem OneV.news {w:World} {g:Nat} {T:TypeId} {x:Value} (h:Boxed w g T x):∀ (j:Nat) u,[x][j]?=some u->w.cell? ((⟨g,0,none⟩:Addr).add j)=some u:=by
 intro j u hj
 match j,hj with
 | 0,hj=>simp at hj;subst hj;exact h.cell
 | k+1,hj=>simp at hj
section
variable {P:Program} {ops:Array Oper} {o:Oper} {a:Act} {w:World} {D:Prop}
theorem zGm {x:Operand} {TS T:TypeId} {u:Value} (hg:Region.wanted o (yielded ops a.tmps)=true) (hop:o.op=Op.buildSlice TS 1 #[(0,x)]) (hx:a.eval x=u)
  (hr:∀ W,(Instr.buildSlice TS 1 #[(0,u)]).run P W=.ok (.slice (some ⟨W.heap.size,0,none⟩) 1 1) (W.alloc (.cells #[u] T))) (hD:¬ D:=by decide) :
  zA4 P ops o a w (fun v w'=>OneV T u v w'/\(D->w.heap.size<=blk v)):=by
 refine zBo hg (v:=.slice (some ⟨w.heap.size,0,none⟩) 1 1) (w':=w.alloc (.cells #[u] T)) ?_ ((Below.refl _ w).alloc (Nat.le_refl _) _)
  ⟨⟨w.heap.size,rfl,Boxed.new w T u⟩,fun h=>(hD h).elim⟩
 simp only[execOp,hop];simp only[List.map_toArray,List.map_cons,List.map_nil,hx];simp[hr]
theorem zHi {j:Nat} {d:Tmp} (h1:(ops[j]?).bind (·.dst)=some d) (h2:a.eval (.tmp d)=undef):yielded ops a.tmps j=none:=by
 unfold yielded;rw[h1];simp only[Option.bind_some];simp only[Act.eval,Array.getD_eq_getD_getElem?]at h2
 cases h3:a.tmps[d]? with
 | none=>rfl
 | some x=>rw[h3]at h2;simp at h2;subst h2;rfl
theorem zIR {j:Nat} {b:Bool} (hg:o.guard=some (j,b)) (hy:yielded ops a.tmps j=none):Region.wanted o (yielded ops a.tmps)=false:=by
 simp[Region.wanted,hg,hy]
end

end
end Go.Proofs.YtphjgfjbiimkjaaGreat
