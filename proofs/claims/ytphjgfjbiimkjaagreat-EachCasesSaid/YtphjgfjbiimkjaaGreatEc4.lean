/-
  Laws of walks, and walks.
-/
import Derived.Test.YtphjgfjbiimkjaaGreatEc3
import Derived.Test.YtphjgfjbiimkjaaGreatEc2
import Derived.Laws.Slices
import Derived.Test.YtphjgfjbiimkjaaGreatEc1
import Derived.Deep.CutRange
set_option linter.unusedVariables false
set_option linter.unusedSimpArgs false
set_option maxRecDepth 100000
set_option maxHeartbeats 16000000
namespace Go.Proofs.YtphjgfjbiimkjaaGreat
section
open Go.RowKit
def Sof (L:Nat) (sn:List Bool):Nat->Nat->Bool:=fun a j=>decide (j<=L)&&sn.getD (a * (L+1)+j) false
theorem zLk {L a j k i:Nat} (hj:j<=L) (hi:i<=L) (h:a * (L+1)+j=k * (L+1)+i):a=k/\j=i:=by
 have e1:(a * (L+1)+j) / (L+1)=a:=by rw[Nat.mul_comm,Nat.mul_add_div (by omega),Nat.div_eq_of_lt (by omega),Nat.add_zero]
 have e2:(k * (L+1)+i) / (L+1)=k:=by rw[Nat.mul_comm,Nat.mul_add_div (by omega),Nat.div_eq_of_lt (by omega),Nat.add_zero]
 have e:a=k:=by rw[← e1,← e2,h]
 subst e;exact⟨rfl,by omega⟩
theorem zOS {L k i n:Nat} (hk:k<n) (hi:i<=L):k * (L+1)+i<n * (L+1):=by
 have:(k+1) * (L+1)<=n * (L+1):=Nat.mul_le_mul_right _ hk;rw[Nat.succ_mul]at this;omega
theorem zPp {L k i:Nat} {sn:List Bool} (hi:i<=L) (hk:k * (L+1)+i<sn.length):Sof L (sn.set (k * (L+1)+i) true)=upS (Sof L sn) k i:=by
 funext a j
 unfold Sof upS
 by_cases hj:j<=L
 ·by_cases e:a * (L+1)+j=k * (L+1)+i
  ·obtain⟨rfl,rfl⟩:=zLk hj hi e;simp[hj,List.getD_eq_getElem?_getD,hk]
  ·have e2:¬ (a=k/\j=i):=fun h=>e (by rw[h.1,h.2])
   simp[hj,e2,List.getD_eq_getElem?_getD,Ne.symm e]
 ·have e2:¬ (a=k/\j=i):=fun h=>hj (h.2 ▸ hi)
  simp[hj,e2]
theorem zOp {L k i:Nat} {sn:List Bool} {b:Bool} (hi:i<=L) (h:sn[k * (L+1)+i]?=some b):Sof L sn k i=b:=by
 unfold Sof;simp[hi,List.getD_eq_getElem?_getD,h]
def unF (sn:List Bool):Nat:=sn.countP (fun b=>!b)
theorem zMs:∀ {sn:List Bool} {k:Nat},sn[k]?=some false->unF (sn.set k true)+1=unF sn
 | [],_,h=>by simp at h
 | x::r,0,h=>by simp at h;subst h;simp[unF]
 | x::r,k+1,h=>by
  have:=zMs (sn:=r) (k:=k) (by simpa using h)
  simp only[unF,List.set_cons_succ,List.countP_cons]at *;omega
structure WayT (p:List InstD) (s:Str) (k i:Nat) (sl:zAP) (sn:List Bool) (b:Bool) (sn':List Bool) (sl':zAP):Prop where
 len:sn'.length=sn.length
 slen:sl'.length=sl.length
 un:unF sn'<=unF sn
 hit:b=true->∀ (f:Option zAP) (r:List Ent),Dfs p s f ((k,i,sl)::r) (Sof s.length sn) (some sl')
 miss:b=false->sl'=sl/\∀ (f:Option zAP) (r:List Ent) (res:Option zAP),Dfs p s f r (Sof s.length sn') res->Dfs p s f ((k,i,sl)::r) (Sof s.length sn) res
section
variable {p:List InstD} {s:Str} {k i:Nat} {sl sl1 sl2:zAP} {sn sn1 sn2:List Bool} {b:Bool}
theorem WayT.seen (hi:i<=s.length) (h:sn[k * (s.length+1)+i]?=some true):WayT p s k i sl sn false sn sl :=
 ⟨rfl,rfl,Nat.le_refl _,fun h=>(by cases h),fun _=>⟨rfl,fun f r res hr=>.seen _ _ _ _ _ _ (zOp hi h) hr⟩⟩
structure Marked (s:Str) (k i:Nat) (sn sn1:List Bool):Prop where
 at0:Sof s.length sn k i=false
 up:Sof s.length sn1=upS (Sof s.length sn) k i
 len:sn1.length=sn.length
 un:unF sn1+1=unF sn
theorem Marked.of (hi:i<=s.length) (h:sn[k * (s.length+1)+i]?=some false):Marked s k i sn (sn.set (k * (s.length+1)+i) true) :=
 ⟨zOp hi h,zPp hi (List.getElem?_eq_some_iff.1 h).1,by simp,zMs h⟩
theorem WayT.match (h:Marked s k i sn sn1) (hk:(atI p k).kind=5):WayT p s k i sl sn true sn1 sl :=
 ⟨h.len,rfl,by have:=h.un;omega,fun _ f r=>.hit _ _ _ _ _ h.at0 hk,fun h=>by cases h⟩
theorem WayT.none (h:Marked s k i sn sn1) (hk:(atI p k).kind≠5) (hs:sucE p s k i sl=[]):WayT p s k i sl sn false sn1 sl :=
 ⟨h.len,rfl,by have:=h.un;omega,fun h=>(by cases h),fun _=>⟨rfl,fun f r res hr=>.go _ _ _ _ _ _ h.at0 hk (by rw[hs,← h.up];exact hr)⟩⟩
theorem WayT.one (h:Marked s k i sn sn1) (hk:(atI p k).kind≠5) {k2 i2:Nat} (hs:sucE p s k i sl=[(k2,i2,sl)]) (hw:WayT p s k2 i2 sl sn1 b sn2 sl2):WayT p s k i sl sn b sn2 sl2 :=
 ⟨hw.len.trans h.len,hw.slen,by have:=h.un;have:=hw.un;omega,fun hb f r=>.go _ _ _ _ _ _ h.at0 hk (by rw[hs,← h.up];exact hw.hit hb f r),fun hb=>⟨(hw.miss hb).1,fun f r res hr=>.go _ _ _ _ _ _ h.at0 hk (by rw[hs,← h.up];exact(hw.miss hb).2 f r res hr)⟩⟩
theorem WayT.first (h:Marked s k i sn sn1) (hk:(atI p k).kind≠5) {k2 i2:Nat} {e:Ent} (hs:sucE p s k i sl=[(k2,i2,sl),e]) (hw:WayT p s k2 i2 sl sn1 true sn2 sl2):WayT p s k i sl sn true sn2 sl2 :=
 ⟨hw.len.trans h.len,hw.slen,by have:=h.un;have:=hw.un;omega,fun hb f r=>.go _ _ _ _ _ _ h.at0 hk (by rw[hs,← h.up];exact hw.hit rfl f _),fun hb=>by cases hb⟩
theorem WayT.second (h:Marked s k i sn sn1) (hk:(atI p k).kind≠5) {k2 i2 k3 i3:Nat} {sn3:List Bool} {sl3:zAP} (hs:sucE p s k i sl=[(k2,i2,sl),(k3,i3,sl)]) (hw:WayT p s k2 i2 sl sn1 false sn2 sl2) (hv:WayT p s k3 i3 sl sn2 b sn3 sl3):WayT p s k i sl sn b sn3 sl3 :=
 ⟨(hv.len.trans hw.len).trans h.len,hv.slen,by have:=h.un;have:=hw.un;have:=hv.un;omega,fun hb f r=>.go _ _ _ _ _ _ h.at0 hk (by rw[hs,← h.up];exact(hw.miss rfl).2 f _ _ (hv.hit hb f r)),
  fun hb=>⟨(hv.miss hb).1,fun f r res hr=>.go _ _ _ _ _ _ h.at0 hk (by rw[hs,← h.up];exact(hw.miss rfl).2 f _ _ ((hv.miss hb).2 f r res hr))⟩⟩
theorem WayT.saved (h:Marked s k i sn sn1) (hk:(atI p k).kind≠5) {k2 i2 j:Nat} {v:Int} (hs:sucE p s k i sl=[(k2,i2,sl.set j v)]) (hw:WayT p s k2 i2 (sl.set j v) sn1 true sn2 sl2):WayT p s k i sl sn true sn2 sl2 :=
 ⟨hw.len.trans h.len,by have:=hw.slen;simpa using this,by have:=h.un;have:=hw.un;omega,fun hb f r=>.go _ _ _ _ _ _ h.at0 hk (by rw[hs,← h.up];exact hw.hit rfl f r),fun hb=>by cases hb⟩
theorem WayT.unsaved (h:Marked s k i sn sn1) (hk:(atI p k).kind≠5) {k2 i2 j:Nat} {v:Int} (hs:sucE p s k i sl=[(k2,i2,sl.set j v)]) (hw:WayT p s k2 i2 (sl.set j v) sn1 false sn2 sl2):WayT p s k i sl sn false sn2 sl :=
 ⟨hw.len.trans h.len,rfl,by have:=h.un;have:=hw.un;omega,fun hb=>(by cases hb),fun hb=>⟨rfl,fun f r res hr=>.go _ _ _ _ _ _ h.at0 hk (by rw[hs,← h.up];exact(hw.miss rfl).2 f r res hr)⟩⟩
theorem zBZ {x:InstD} (h:p[k]?=some x):atI p k=x:=by unfold atI;simp[List.getD_eq_getElem?_getD,h]
theorem zOy {x:InstD} (h:p[k]?=some x) (h1:x.kind=1) (hb:i<s.length) (hh:hasB x.set (byt s i)=true):sucE p s k i sl=[(x.next.toNat,i+1,sl)]:=by
 unfold sucE;rw[zBZ h];simp[h1,hb,hh]
theorem zKL {x:InstD} (h:p[k]?=some x) (h1:x.kind=1) (hb:¬ (i<s.length/\hasB x.set (byt s i)=true)):sucE p s k i sl=[]:=by
 unfold sucE;rw[zBZ h];simp only[h1,if_true];rw[if_neg hb]
theorem zMo {x:InstD} (h:p[k]?=some x) (h1:x.kind=2):sucE p s k i sl=[(x.next.toNat,i,sl),(x.other.toNat,i,sl)]:=by
 unfold sucE;rw[zBZ h];simp[h1]
theorem zOl {x:InstD} (h:p[k]?=some x) (h1:x.kind=3):sucE p s k i sl=[(x.next.toNat,i,sl.set x.slot.toNat i)]:=by
 unfold sucE;rw[zBZ h];simp[h1]
theorem zNu {x:InstD} (h:p[k]?=some x) (h1:x.kind=4) (hb:zBz x.spot s i=true):sucE p s k i sl=[(x.next.toNat,i,sl)]:=by
 unfold sucE;rw[zBZ h];simp[h1,hb]
theorem zMP {x:InstD} (h:p[k]?=some x) (h1:x.kind=4) (hb:zBz x.spot s i=false):sucE p s k i sl=[]:=by
 unfold sucE;rw[zBZ h];simp[h1,hb]
theorem zNm {x:InstD} (h:p[k]?=some x) (h1:x.kind≠1) (h2:x.kind≠2) (h3:x.kind≠3) (h4:x.kind≠4):sucE p s k i sl=[]:=by
 unfold sucE;rw[zBZ h];simp[h1,h2,h3,h4]
end
def zB3 (w:World) (l:List Res) (b:Nat):Prop:=b<w.heap.size/\∀ r ∈ l,r.place≠some b
def zCO (w:World) (l:List Res) (V:World):Prop:=∀ b,zB3 w l b->V.heap[b]?=w.heap[b]?
structure Turned (M:Nat->Prop) (w0 w:World) (l1 l2:List Res) (w':World):Prop where
 hold:HoldG M w0 w' l2
 rest:zCO w l1 w'
 lt:∀ b,zB3 w l1 b->b<w'.heap.size
 place:∀ r ∈ l2,∀ b,r.place=some b->(∃ s ∈ l1,s.place=some b)\/w.heap.size<=b
 foot:∀ r ∈ l2,∀ b,r.foot b->(∃ s ∈ l1,s.foot b)\/w.heap.size<=b
theorem Res.Holds.keptF {M:Nat->Prop} {base:Nat} {W W':World} {r:Res} (h:r.Holds M base W) (hk:∀ b,r.foot b->W'.heap[b]?=W.heap[b]?) (hs:∀ b,r.foot b->b<W'.heap.size):r.Holds M base W':=by
 cases r with
 | blk b' cs T=>exact⟨h.1,(hk b' rfl).trans h.2⟩
 | row v e sz n xs =>
  obtain⟨hl,h'|⟨g,cap,cur,rfl,hb,hg,r⟩⟩:=h
  ·exact⟨hl,.inl h'⟩
  ·exact⟨hl,.inr ⟨g,cap,cur,rfl,hb,(hk g rfl).trans hg,r⟩⟩
 | mp b' es c=>exact⟨h.1,(hk b' rfl).trans h.2⟩
 | kn F S=>exact⟨hs,fun W2 h2=>h.2 W2 (fun b hb=>(h2 b hb).trans (hk b hb))⟩
section
variable {M:Nat->Prop} {w0 w w':World} {l l1 l2 l3:List Res}
theorem HoldG.framed (H:HoldG M w0 w l):HoldG M w0 w (l++[.kn (zB3 w l) (zCO w l)]) :=
 H.know (zB3 w l) (zCO w l) (fun b h=>h.1) (fun i r hi b hp hF=>hF.2 r (List.mem_of_getElem? hi) hp) (fun V hV b hb=>hV b hb)
theorem zDn {js:List Nat} (h:js.map (fun j=>l[j]?)=l1.map some) {k:Nat} {r:Res} (hk:l1[k]?=some r):∃ j,js[k]?=some j/\l[j]?=some r:=by
 have h1:(l1.map some)[k]?=some (some r):=by rw[List.getElem?_map,hk];rfl
 rw[← h,List.getElem?_map]at h1;exact Option.map_eq_some_iff.1 h1
theorem zGW {r:Res} (hr:∀ F S,r≠.kn F S) {b:Nat} (h:r.foot b):r.place=some b:=by
 cases r with
 | kn F S=>exact absurd rfl (hr F S)
 | _=>exact h
theorem Turned.of {W:World} (H:HoldG M w0 W l) {i:Nat} (hi:At l i (.kn (zB3 w l1) (zCO w l1))) (js:List Nat) (hn:js.Nodup) (hij:i ∉ js) (h:js.map (fun j=>l[j]?)=l2.map some)
  (hk:∀ F S,Res.kn F S ∈ l2->∀ b,F b->(∃ s ∈ l1,s.foot b)\/w.heap.size<=b):Turned M w0 w l1 l2 W:=by
 have hp:∀ r ∈ l2,∀ b,r.place=some b->(∃ s ∈ l1,s.place=some b)\/w.heap.size<=b:=by
  intro r hr b hb;obtain⟨k,hk⟩:=List.getElem?_of_mem hr;obtain⟨j,hj,e⟩:=zDn h hk;have hne:j≠i:=fun e=>hij (e ▸ List.mem_of_getElem? hj)
  have ha:=H.apart j i r _ hne e hi.get b hb
  by_cases hlt:b<w.heap.size
  ·refine .inl (Classical.byContradiction fun hno=>ha ⟨hlt,fun s hs hsb=>hno ⟨s,hs,hsb⟩⟩)
  ·exact .inr (by omega)
 refine⟨H.pick js l2 hn h,H.kn hi,H.knlt hi,hp,fun r hr b hb=>?_⟩
 cases r with
 | kn F S=>exact hk F S hr b hb
 | blk b' cs T=>exact(hp _ hr b hb).imp (fun ⟨s,h1,h2⟩=>⟨s,h1,Res.place_foot h2⟩) id
 | row v e sz n xs=>exact(hp _ hr b hb).imp (fun ⟨s,h1,h2⟩=>⟨s,h1,Res.place_foot h2⟩) id
 | mp b' es c=>exact(hp _ hr b hb).imp (fun ⟨s,h1,h2⟩=>⟨s,h1,Res.place_foot h2⟩) id
theorem HoldG.callIn (H:HoldG M w0 w l) (T:Turned M w0 w l1 l2 w') (js ks:List Nat) (h1:js.map (fun j=>l[j]?)=l1.map some) (h3:ks.map (fun j=>l[j]?)=l3.map some) (hn:ks.Nodup) (hd:∀ j ∈ js,j ∉ ks):HoldG M w0 w' (l2++l3):=by
 have A:∀ (k:Nat) (r s:Res),l3[k]?=some r->s ∈ l1->zHj s r/\zHj r s:=by
  intro k r s hk hs;obtain⟨m,hm⟩:=List.getElem?_of_mem hs;obtain⟨j,hj,e⟩:=zDn h1 hm;obtain⟨q,hq,e'⟩:=zDn h3 hk;have hne:j≠q:=fun e=>hd j (List.mem_of_getElem? hj) (e ▸ List.mem_of_getElem? hq)
  exact⟨H.apart j q s r hne e e',H.apart q j r s (Ne.symm hne) e' e⟩
 have B:∀ (k:Nat) (r:Res),l3[k]?=some r->r.Holds M w0.heap.size w:=by
  intro k r hk;obtain⟨q,_,e'⟩:=zDn h3 hk;exact H.all q r e'
 refine⟨T.hold.keep,fun i r hi=>?_,fun i j r s hij hr hs=>?_⟩
 ·rw[List.getElem?_append]at hi;split at hi
  ·exact T.hold.all i r hi
  ·have hr:∀ b,r.foot b->zB3 w l1 b:=fun b hb=>⟨(B _ r hi).ltf b hb,fun s hs hsb=>(A _ r s hi hs).1 b hsb hb⟩
   exact(B _ r hi).keptF (fun b hb=>T.rest b (hr b hb)) (fun b hb=>T.lt b (hr b hb))
 ·rw[List.getElem?_append]at hr hs;split at hr
  ·split at hs
   ·exact T.hold.apart i j r s hij hr hs
   ·intro b hb hf;rcases T.place r (List.mem_of_getElem? hr) b hb with ⟨q,hq,hqb⟩|h
    ·exact(A _ s q hs hq).1 b hqb hf
    ·have:=(B _ s hs).ltf b hf;omega
  ·split at hs
   ·intro b hb hf;rcases T.foot s (List.mem_of_getElem? hs) b hf with ⟨q,hq,hqb⟩|h
    ·exact(A _ r q hr hq).2 b hb hqb
    ·have:=((B _ r hr).lt b hb).2;omega
   ·obtain⟨p,hp,e⟩:=zDn h3 hr;obtain⟨q,hq,e'⟩:=zDn h3 hs;refine H.apart p q r s (fun epq=>hij ?_) e e'
    subst epq;obtain⟨a1,a2⟩:=List.getElem?_eq_some_iff.1 hp;obtain⟨b1,b2⟩:=List.getElem?_eq_some_iff.1 hq;have:=(List.getElem_inj hn).1 (a2.trans b2.symm);omega
theorem Turned.below (H:HoldG M w0 w l1) (hb:Below w.heap.size w w'):Turned M w0 w l1 l1 w' :=
 ⟨H.call hb,fun b hb'=>hb.block b hb'.1,fun b hb'=>Nat.lt_of_lt_of_le hb'.1 hb.size,fun r hr b h=>.inl ⟨r,hr,h⟩,fun r hr b h=>.inl ⟨r,hr,h⟩⟩
end
end
section
open Go.RowKit
attribute [local go_sem] Oper.semAt_some
section
variable {o:Oper} {a:Act} {w:World} {x y:Operand} {U:TypeId}
theorem zJq {m n k:Int} (hop:o.op=.binOp .add 3 x y U) (hx:a.eval x=.int .i64 m) (hy:a.eval y=.int .i64 n) (h:m+n=k) (h1 : -9223372036854775808<=k) (h2:k<=9223372036854775807):(execOp a.eval o).run Tryz.prog w=.ok (.value (.int .i64 k)) w:=by
 have e:IntKind.i64.wrap (m+n)=k:=by rw[h,IntKind.wrap_i64];omega
 simp only[execOp,hop,hx,hy];simp[go_sem,e]
theorem zHl {m n k:Int} (hop:o.op=.binOp .sub 3 x y U) (hx:a.eval x=.int .i64 m) (hy:a.eval y=.int .i64 n) (h:m - n=k) (h1 : -9223372036854775808<=k) (h2:k<=9223372036854775807):(execOp a.eval o).run Tryz.prog w=.ok (.value (.int .i64 k)) w:=by
 have e:IntKind.i64.wrap (m - n)=k:=by rw[h,IntKind.wrap_i64];omega
 simp only[execOp,hop,hx,hy];simp[go_sem,e]
theorem zPG {m n:Int} {b:Bool} (hop:o.op=.binOp .eql 3 x y U) (hx:a.eval x=.int .i64 m) (hy:a.eval y=.int .i64 n) (h:(m == n)=b):(execOp a.eval o).run Tryz.prog w=.ok (.value (.bool b)) w:=by
 subst h;simp only[execOp,hop,hx,hy];simp[go_sem]
theorem zHD {T:TypeId} {p:Option Addr} {n c m sz:Nat} (hT:Tryz.prog.underlying T=some (.slice (Tryz.prog.elem T))) (hz:∀ w,(sizeOf (Tryz.prog.elem T)).run Tryz.prog w=.ok sz w) (hop:o.op=.slice T x none (some y) none) (hx:a.eval x=.slice p n c) (hy:a.eval y=.int .i64 (m:Int)) (hm:m<=c):(execOp a.eval o).run Tryz.prog w=.ok (.value (.slice p m c)) w:=by
 simp only[execOp,hop,hx,hy,Option.map_some,Option.map_none,Sem.run_bind];rw[run_sliceAt_slice (h:=hT),run_slice_h (ht:=hT) (h0:=by omega) (h2:=by omega),hz]
 simp[Result.andThen,sliced];intro _
 cases p<;>simp[Addr.add]
end
end
section
open Go.RowKit Go.Shelf
attribute [local go_sem] Oper.semAt_some
theorem zCH {fn:Func} {p q r s t:Tmp} (h:fn.results=#[.tmp p,.tmp q,.tmp r,.tmp s,.tmp t]) (tmps:Array Value) (P:Program) (w:World) :
  (results fn tmps).run P w=.ok (.tuple #[tmps.getD p undef,tmps.getD q undef,tmps.getD r undef,tmps.getD s undef,tmps.getD t undef]) w:=by
 simp[results,h]
def hasV (k:Int):Value:=.tuple #[.bool (k == 1),.bool (k == 1 || k == 2 || k == 3 || k == 4),.bool (k == 2),.bool (k == 3),.bool (k == 4)]
theorem zPu (k:Int) (w0:World):Calls Tryz.prog 30 #[.int .i64 k] w0 (Rt (hasV k) w0):=by
 have H:=Hold.start w0
 cases h1:k == 1 with
 | true =>
  have E:=Lib.hid (show hasV k=.tuple #[.bool true,.bool true,.bool false,.bool false,.bool false] by rw[beq_iff_eq]at h1;subst h1;rfl)
  go_enter Tryz.func30,Tryz.ntmps30
  go_wp2_with fail
  refine bodyPost_ret (zCH rfl _ _ _) rfl ?_
  exact⟨by rw[E.out];rfl,H.below⟩
 | false =>
  cases h2:k == 2 with
  | true =>
   have E:=Lib.hid (show hasV k=.tuple #[.bool false,.bool true,.bool true,.bool false,.bool false] by rw[beq_iff_eq]at h2;subst h2;rfl)
   go_enter Tryz.func30,Tryz.ntmps30
   go_wp2_with fail
   refine bodyPost_ret (zCH rfl _ _ _) rfl ?_
   exact⟨by rw[E.out];rfl,H.below⟩
  | false =>
   cases h3:k == 3 with
   | true =>
    have E:=Lib.hid (show hasV k=.tuple #[.bool false,.bool true,.bool false,.bool true,.bool false] by rw[beq_iff_eq]at h3;subst h3;rfl)
    go_enter Tryz.func30,Tryz.ntmps30
    go_wp2_with fail
    refine bodyPost_ret (zCH rfl _ _ _) rfl ?_
    exact⟨by rw[E.out];rfl,H.below⟩
   | false =>
    cases h4:k == 4 with
    | true =>
     have E:=Lib.hid (show hasV k=.tuple #[.bool false,.bool true,.bool false,.bool false,.bool true] by rw[beq_iff_eq]at h4;subst h4;rfl)
     go_enter Tryz.func30,Tryz.ntmps30
     go_wp2_with fail
     refine bodyPost_ret (zCH rfl _ _ _) rfl ?_
     exact⟨by rw[E.out];rfl,H.below⟩
    | false =>
     have E:=Lib.hid (show hasV k=.tuple #[.bool false,.bool false,.bool false,.bool false,.bool false] by unfold hasV;rw[h1,h2,h3,h4];rfl)
     go_enter Tryz.func30,Tryz.ntmps30
     go_wp2_with fail
     refine bodyPost_ret (zCH rfl _ _ _) rfl ?_
     exact⟨by rw[E.out];rfl,H.below⟩
theorem zH0 (n:Nat) (x:InstD):zBG n x=!((((decide ((x.kind)<(1))) || (decide ((6)<(x.kind)))) || ((!(eqS (x.set) (zAG))) != (x.kind == 1))) ||
  ((((((x.kind == 1 || x.kind == 2 || x.kind == 3 || x.kind == 4)&&((decide ((x.next)<(0))) || (decide (((n:Int))<=(x.next))))) || ((!(x.kind == 1 || x.kind == 2 || x.kind == 3 || x.kind == 4))&&((x.next) != (0)))) || ((x.kind == 2)&&((decide ((x.other)<(0))) || (decide (((n:Int))<=(x.other)))))) || ((!(x.kind == 2))&&((x.other) != (0)))) ||
  (((((x.kind == 3)&&((decide ((x.slot)<(0))) || (decide ((41)<(x.slot))))) || ((!(x.kind == 3))&&((x.slot) != (0)))) || ((x.kind == 4)&&((decide ((x.spot)<(8))) || (decide ((13)<(x.spot)))))) || ((!(x.kind == 4))&&((x.spot) != (0)))))):=by
 obtain⟨k,s,a,b,c,d⟩:=x;simp only;unfold zBG inN
 generalize eqS s zAG=q
 simp only
 by_cases h1:k=1
 ·subst h1;rw[Bool.eq_iff_iff];cases q<;>simp<;>omega
 by_cases h2:k=2
 ·subst h2;rw[Bool.eq_iff_iff];cases q<;>simp<;>omega
 by_cases h3:k=3
 ·subst h3;rw[Bool.eq_iff_iff];cases q<;>simp<;>omega
 by_cases h4:k=4
 ·subst h4;rw[Bool.eq_iff_iff];cases q<;>simp<;>omega
 by_cases h5:k=5
 ·subst h5;rw[Bool.eq_iff_iff];cases q<;>simp<;>omega
 by_cases h6:k=6
 ·subst h6;rw[Bool.eq_iff_iff];cases q<;>simp<;>omega
 ·rw[Bool.eq_iff_iff];cases q<;>simp[h1,h2,h3,h4,h5,h6]<;>omega
def zDZ (p:List InstD):Int:=p.foldl (fun m x=>max m x.slot) 1
def zGc (p:List InstD):Int:=wrap64 (wrap64 (wrap64 ((zDZ p).tdiv 2) * 2)+2)
theorem zG0 {xs:List InstD} {j:Nat} {x:InstD} (h:xs[j]?=some x):zDZ (xs.take (j+1))=max (zDZ (xs.take j)) x.slot:=by
 rw[zHK h];simp[zDZ]
theorem zJe (p:Option Addr) (c:Nat) (xs:List InstD) (F:Nat->Prop) (w0:World) (hF:∀ b,F b->b<w0.heap.size) (h:InstsR F p c xs w0) :
  Calls Tryz.prog 75 #[.slice p xs.length c] w0 (Rt (.int .i64 (zGc xs)) w0):=by
 have hc:=h.bound;have hp:=h.at;have H:=Hold.insts hF h;clear h;obtain⟨n,hn⟩:∃ n,xs.length=n:=⟨_,rfl⟩;rw[hn]at hc hp ⊢;have HN:=Lib.hid hn;clear hn
 go_enter Tryz.func75,Tryz.ntmps75
 go_wp2_with (first|fail)
 go_loopw [3,4] (fun vs ix wr=>∃ (j:Nat),j<=n/\vs=.int .i64 (zDZ (xs.take j))/\ix=.int .i64 j/\Hold w0 wr [.kn F (InstsR F p c xs)]) (fun _ ix _=>n+1 - (intOf ix).toNat)
 case atStart=>exact⟨0,by omega,rfl,rfl,H⟩
 case round =>
  clear H;obtain⟨j,hj,rfl,rfl,H⟩:=hrel
  by_cases hlt:j<n
  ·have dj:decide ((j:Int)<(n:Int))=true:=by simp;omega
   obtain⟨x,hx⟩:∃ x,xs[j]?=some x:=⟨_,List.getElem?_eq_getElem (by rw[HN.out];exact hlt)⟩
   obtain⟨b,off,rfl⟩:=hp (by omega)
   have hcell:∀ V,InstsR F (some ⟨b,off,none⟩) c xs V->V.cell? ⟨b,off+j * 9+7,none⟩=some (.int .i64 x.slot):=fun V h=>(h.cells hx rfl 7 (by decide)).trans rfl
   have E:=Lib.hid (zG0 hx);clear hx hp
   go_wp2_with (first|((with_reducible refine gL ?_);refine zAK wtd_ _ _ rfl rfl zAF (hcell _ (H.kn (i:=0) .zero)) ?_)|fail)
   go_roundw
   case rel=>exact⟨j+1,by omega,by rw[E.out,show (if zDZ (List.take j xs)<x.slot then x.slot else zDZ (List.take j xs))=max (zDZ (List.take j xs)) x.slot by omega],by go_num,H⟩
   case measure=>simp[intOf];omega
  ·have hjn:j=n:=by omega
   subst hjn;have dj:decide ((j:Int)<(j:Int))=false:=by simp
   have E:=Lib.hid (show zDZ (xs.take j)=zDZ xs by rw[List.take_of_length_le (by rw[HN.out];omega)])
   clear hp
   go_wp2_with (first|fail)
   go_ret;exact⟨by unfold zGc;rw[← E.out];rfl,H.below⟩
theorem zOE {xs:List InstD} {j:Nat} {x:InstD} (hx:xs[j]?=some x) (h:zBG xs.length x=false):zAq xs=false:=by
 have:xs.all (zBG xs.length)=false:=by
  rw[List.all_eq_false];exact⟨x,List.mem_of_getElem? hx,by rw[h];decide⟩
 unfold zAq;rw[this,Bool.and_false]
theorem zIQ {α:Type} {f:α->Bool} {xs:List α} {j:Nat} {x:α} (hx:xs[j]?=some x) (h:(xs.take j).all f=true) (hf:f x=true):(xs.take (j+1)).all f=true:=by
 rw[zHK hx,List.all_append,h];simp[hf]
theorem zJY (p:Option Addr) (c:Nat) (xs:List InstD) (F:Nat->Prop) (w0:World) (hF:∀ b,F b->b<w0.heap.size) (h:InstsR F p c xs w0) :
  Calls Tryz.prog 74 #[.slice p xs.length c] w0 (Rt (.bool (zAq xs)) w0):=by
 have hc:=h.bound;have hp:=h.at;have H:=Hold.insts hF h;clear h;obtain⟨n,hn⟩:∃ n,xs.length=n:=⟨_,rfl⟩;rw[hn]at hc hp ⊢;have HN:=Lib.hid hn;clear hn
 by_cases h1:n<1
 ·have d1:decide ((n:Int)<1)=true:=by simp;omega
  have E:=Lib.hid (show zAq xs=false by unfold zAq;rw[decide_eq_false (by rw[HN.out];omega),Bool.false_and,Bool.false_and])
  go_enter Tryz.func74,Tryz.ntmps74
  go_wp2_with (first|fail)
  go_ret;exact⟨by rw[E.out];rfl,H.below⟩
 have d1:decide ((n:Int)<1)=false:=by simp;omega
 by_cases h2:4000<n
 ·have d2:decide ((4000:Int)<(n:Int))=true:=by simp;omega
  have E:=Lib.hid (show zAq xs=false by unfold zAq;rw[decide_eq_false (p:=xs.length<=4000) (by rw[HN.out];omega),Bool.and_false,Bool.false_and])
  go_enter Tryz.func74,Tryz.ntmps74
  go_wp2_with (first|fail)
  go_ret;exact⟨by rw[E.out];rfl,H.below⟩
 have d2:decide ((4000:Int)<(n:Int))=false:=by simp;omega
 go_enter Tryz.func74,Tryz.ntmps74
 go_wp2_with (first|fail)
 go_loopw [3] (fun ix wr=>∃ (j:Nat),j<=n/\ix=.int .i64 j/\Hid ((xs.take j).all (zBG n)=true)/\Hold w0 wr [.kn F (InstsR F p c xs)]) (fun ix _=>n+1 - (intOf ix).toNat)
 case atStart=>exact⟨0,by omega,rfl,Lib.hid rfl,H⟩
 case round =>
  clear H;obtain⟨j,hj,rfl,EA,H⟩:=hrel
  by_cases hlt:j<n
  ·have dj:decide ((j:Int)<(n:Int))=true:=by simp;omega
   obtain⟨x,hx⟩:∃ x,xs[j]?=some x:=⟨_,List.getElem?_eq_getElem (by rw[HN.out];exact hlt)⟩
   obtain⟨b,off,rfl⟩:=hp (by omega)
   have hcell:∀ V,InstsR F (some ⟨b,off,none⟩) c xs V->∀ k,k<9->V.cell? ⟨b,off+j * 9+k,none⟩=(zAf x)[k]?:=fun V h=>h.cells hx rfl
   have hha:∀ w,Calls Tryz.prog 30 #[.int .i64 x.kind] w (Rt (.tuple #[.bool (x.kind == 1),.bool (x.kind == 1 || x.kind == 2 || x.kind == 3 || x.kind == 4),.bool (x.kind == 2),.bool (x.kind == 3),.bool (x.kind == 4)]) w):=zPu x.kind
   have ht:=zH0 n x
   generalize (x.kind == 1 || x.kind == 2 || x.kind == 3 || x.kind == 4)=b2 at hha ht
   generalize (x.kind == 1)=b1 at hha ht
   generalize (x.kind == 2)=b3 at hha ht
   generalize (x.kind == 3)=b4x at hha ht
   generalize (x.kind == 4)=b5 at hha ht
   obtain⟨q8,h8⟩:∃ q,(((decide ((x.kind)<(1))) || (decide ((6)<(x.kind)))) || ((!(eqS (x.set) (zAG))) != (b1)))=q:=⟨_,rfl⟩
   obtain⟨q10,h10⟩:∃ q,(((((b2)&&((decide ((x.next)<(0))) || (decide (((n:Int))<=(x.next))))) || ((!(b2))&&((x.next) != (0)))) || ((b3)&&((decide ((x.other)<(0))) || (decide (((n:Int))<=(x.other)))))) || ((!(b3))&&((x.other) != (0))))=q:=⟨_,rfl⟩
   obtain⟨q12,h12⟩:∃ q,(((((b4x)&&((decide ((x.slot)<(0))) || (decide ((41)<(x.slot))))) || ((!(b4x))&&((x.slot) != (0)))) || ((b5)&&((decide ((x.spot)<(8))) || (decide ((13)<(x.spot)))))) || ((!(b5))&&((x.spot) != (0))))=q:=⟨_,rfl⟩
   rw[h8,h10,h12]at ht;have EN:(q8 || (q10 || q12))=true->Hid (zAq xs=false):=fun h=>Lib.hid (zOE hx (by rw[HN.out,ht,h];rfl))
   have EY:(q8 || (q10 || q12))=false->Hid ((xs.take (j+1)).all (zBG n)=true):=fun h=>Lib.hid (zIQ hx EA.out (by rw[ht,h];rfl))
   clear hx hp ht EA;have h8:=Lib.hid h8;have h10:=Lib.hid h10;have h12:=Lib.hid h12
   go_upto_region 8 with (first|((with_reducible refine gL ?_);refine zCW wtd_ _ _ rfl rfl zAp rfl (hcell _ (H.kn (i:=0) .zero)) ?_)|((with_reducible refine kg 4 ?_);(first|refine kA 4 H ?_|refine kS 4 H ?_|refine kB 4 H ?_);clear H;intro b4 w H;try simp only[nr]at H)|(first|((with_reducible refine gTi ?_);refine aTi H ?_;clear H;intro w H;try simp only[nr]at H)|((with_reducible refine gL ?_);refine aGi H ?_))|((with_reducible refine ch (hha _) H ?_);clear H;intro w H))
   refine ws_ 16 [fun v _=>v=Value.pointer (some ⟨b4,0,none⟩),fun v _=>v=Value.int .i64 (x.kind),fun v _=>v=Value.bool (decide ((x.kind)<(1))),fun v _=>v=Value.bool (decide ((x.kind)<(1))),fun v _=>v=iT (true) (decide ((x.kind)<(1))) false (.pointer (some ⟨b4,0,none⟩)),fun v _=>v=iT (true) (decide ((x.kind)<(1))) false (.int .i64 (x.kind)),fun v _=>v=iT (true) (decide ((x.kind)<(1))) false (.bool (decide ((6)<(x.kind)))),fun v _=>v=Value.bool ((decide ((x.kind)<(1))) || (decide ((6)<(x.kind)))),fun v _=>v=Value.bool ((decide ((x.kind)<(1))) || (decide ((6)<(x.kind)))),fun v _=>v=iT (true) ((decide ((x.kind)<(1))) || (decide ((6)<(x.kind)))) false (.pointer (some ⟨b4,1,none⟩)),fun v _=>v=iT (true) ((decide ((x.kind)<(1))) || (decide ((6)<(x.kind)))) false (setV (x.set)),fun v _=>v=iT (true) ((decide ((x.kind)<(1))) || (decide ((6)<(x.kind)))) false (setV (zAG)),fun v _=>v=iT (true) ((decide ((x.kind)<(1))) || (decide ((6)<(x.kind)))) false (.bool (!(eqS (x.set) (zAG)))),fun v _=>v=iT (true) ((decide ((x.kind)<(1))) || (decide ((6)<(x.kind)))) false (.bool (b1)),fun v _=>v=iT (true) ((decide ((x.kind)<(1))) || (decide ((6)<(x.kind)))) false (.bool ((!(eqS (x.set) (zAG))) != (b1))),fun v _=>v=Value.bool (((decide ((x.kind)<(1))) || (decide ((6)<(x.kind)))) || ((!(eqS (x.set) (zAG))) != (b1)))] ?ob ?en
   case ob =>
    refine⟨?_,?_,?_,?_,?_,?_,?_,?_,?_,?_,?_,?_,?_,?_,?_,?_,trivial⟩<;>intro A W h
    ·exact zAA rfl ((by have e:A.eval (.tmp 4)=Value.pointer (some ⟨b4,0,none⟩):=h.f 4;simp only[execOp,e];simp[go_sem]))
    ·exact zAA rfl (zAC rfl (h.d 0 37) (by decide +kernel) ((H.call h.below).cell (i:=1) i_1 0))
    ·exact zAA rfl ((by have e38:A.eval (.tmp 38)=Value.int .i64 (x.kind):=h.d 1 38;simp only[execOp,e38];simp[go_sem]))
    ·exact zAA rfl (zAl (.inl rfl) (h.d 2 39))
    ·refine sy_ (h.d 3 40) fun hC=>?_;exact(by have e:A.eval (.tmp 4)=Value.pointer (some ⟨b4,0,none⟩):=h.f 4;simp only[execOp,e];simp[go_sem])
    ·refine sy_ (h.d 3 40) fun hC=>?_;exact zAC rfl (zAL (h.d 4 41) hC) (by decide +kernel) ((H.call h.below).cell (i:=1) i_1 0)
    ·refine sy_ (h.d 3 40) fun hC=>?_;exact(by have e42:A.eval (.tmp 42)=Value.int .i64 (x.kind):=zAL (h.d 5 42) hC;simp only[execOp,e42];simp[go_sem])
    ·exact zAA rfl (zCV rfl (h.d 3 40) (fun hb2=>zAL (h.d 6 43) (by (first|(rw[hb2];rfl)|simp[hb2]))))
    ·exact zAA rfl (zAl (.inl rfl) (h.d 7 44))
    ·refine sy_ (h.d 8 45) fun hC=>?_;exact(by have e:A.eval (.tmp 4)=Value.pointer (some ⟨b4,0,none⟩):=h.f 4;simp only[execOp,e];simp[go_sem])
    ·refine sy_ (h.d 8 45) fun hC=>?_;exact zAk rfl (zAL (h.d 9 46) hC) zBj rfl (fun j hj=>by have h1:=(H.call h.below).cell (i:=1) i_1 (1+j);rcases j with _|_|_|_|j<;>first|exact h1|omega)
    ·refine sy_ (h.d 8 45) fun hC=>?_;exact zKK rfl
    ·refine sy_ (h.d 8 45) fun hC=>?_;exact(zMa rfl (zAL (h.d 10 47) hC) (zAL (h.d 11 48) hC))
    ·refine sy_ (h.d 8 45) fun hC=>?_;exact zAl (.inl rfl) (h.f 5)
    ·refine sy_ (h.d 8 45) fun hC=>?_;exact(by have e49:A.eval (.tmp 49)=Value.bool (!(eqS (x.set) (zAG))):=zAL (h.d 12 49) hC;have e50:A.eval (.tmp 50)=Value.bool (b1):=zAL (h.d 13 50) hC;simp only[execOp,e49,e50];generalize (!(eqS (x.set) (zAG)))=bp;generalize (b1)=bq;cases bp<;>cases bq<;>simp[go_sem])
    ·exact zAA rfl (zCV rfl (h.d 8 45) (fun hb2=>zAL (h.d 14 51) (by (first|(rw[hb2];rfl)|simp[hb2]))))
   case en =>
    intro vals W hbw hv _;have v15:vals 15=_:=hv 15 (by omega)
    simp only[fa,Nat.reduceAdd];rw[v15];clear hv v15
    try simp only[pl]
    have H:=H.call hbw;rw[h8.out]
    cases q8 with
    | true =>
     have E:=EN rfl
     go_wp2_with (first|fail)
     go_ret;exact⟨by rw[E.out];rfl,H.below⟩
    | false =>
     go_upto_region 10 with (first|fail)
     refine ws_ 46 [fun v _=>v=Value.bool (b2),fun v _=>v=Value.bool (b2),fun v _=>v=iT (true) (b2) true (.pointer (some ⟨b4,5,none⟩)),fun v _=>v=iT (true) (b2) true (.int .i64 (x.next)),fun v _=>v=iT (true) (b2) true (.bool (decide ((x.next)<(0)))),fun v _=>v=iT (true) (b2) true (.bool (decide ((x.next)<(0)))),fun v _=>v=iT ((true)&&((b2) == true)) (decide ((x.next)<(0))) false (.pointer (some ⟨b4,5,none⟩)),fun v _=>v=iT ((true)&&((b2) == true)) (decide ((x.next)<(0))) false (.int .i64 (x.next)),fun v _=>v=iT ((true)&&((b2) == true)) (decide ((x.next)<(0))) false (.slice (some ⟨b,off,none⟩) n c),fun v _=>v=iT ((true)&&((b2) == true)) (decide ((x.next)<(0))) false (.int .i64 ((n:Int))),fun v _=>v=iT ((true)&&((b2) == true)) (decide ((x.next)<(0))) false (.bool (decide (((n:Int))<=(x.next)))),fun v _=>v=iT (true) (b2) true (.bool ((decide ((x.next)<(0))) || (decide (((n:Int))<=(x.next))))),fun v _=>v=Value.bool ((b2)&&((decide ((x.next)<(0))) || (decide (((n:Int))<=(x.next))))),fun v _=>v=Value.bool ((b2)&&((decide ((x.next)<(0))) || (decide (((n:Int))<=(x.next))))),fun v _=>v=iT (true) ((b2)&&((decide ((x.next)<(0))) || (decide (((n:Int))<=(x.next))))) false (.bool (b2)),fun v _=>v=iT (true) ((b2)&&((decide ((x.next)<(0))) || (decide (((n:Int))<=(x.next))))) false (.bool (!(b2))),fun v _=>v=iT (true) ((b2)&&((decide ((x.next)<(0))) || (decide (((n:Int))<=(x.next))))) false (.bool (!(b2))),fun v _=>v=iT ((true)&&(((b2)&&((decide ((x.next)<(0))) || (decide (((n:Int))<=(x.next))))) == false)) (!(b2)) true (.pointer (some ⟨b4,5,none⟩)),fun v _=>v=iT ((true)&&(((b2)&&((decide ((x.next)<(0))) || (decide (((n:Int))<=(x.next))))) == false)) (!(b2)) true (.int .i64 (x.next)),fun v _=>v=iT ((true)&&(((b2)&&((decide ((x.next)<(0))) || (decide (((n:Int))<=(x.next))))) == false)) (!(b2)) true (.bool ((x.next) != (0))),fun v _=>v=iT (true) ((b2)&&((decide ((x.next)<(0))) || (decide (((n:Int))<=(x.next))))) false (.bool ((!(b2))&&((x.next) != (0)))),fun v _=>v=Value.bool (((b2)&&((decide ((x.next)<(0))) || (decide (((n:Int))<=(x.next))))) || ((!(b2))&&((x.next) != (0)))),fun v _=>v=Value.bool (((b2)&&((decide ((x.next)<(0))) || (decide (((n:Int))<=(x.next))))) || ((!(b2))&&((x.next) != (0)))),fun v _=>v=iT (true) (((b2)&&((decide ((x.next)<(0))) || (decide (((n:Int))<=(x.next))))) || ((!(b2))&&((x.next) != (0)))) false (.bool (b3)),fun v _=>v=iT (true) (((b2)&&((decide ((x.next)<(0))) || (decide (((n:Int))<=(x.next))))) || ((!(b2))&&((x.next) != (0)))) false (.bool (b3)),fun v _=>v=iT ((true)&&((((b2)&&((decide ((x.next)<(0))) || (decide (((n:Int))<=(x.next))))) || ((!(b2))&&((x.next) != (0)))) == false)) (b3) true (.pointer (some ⟨b4,6,none⟩)),fun v _=>v=iT ((true)&&((((b2)&&((decide ((x.next)<(0))) || (decide (((n:Int))<=(x.next))))) || ((!(b2))&&((x.next) != (0)))) == false)) (b3) true (.int .i64 (x.other)),fun v _=>v=iT ((true)&&((((b2)&&((decide ((x.next)<(0))) || (decide (((n:Int))<=(x.next))))) || ((!(b2))&&((x.next) != (0)))) == false)) (b3) true (.bool (decide ((x.other)<(0)))),fun v _=>v=iT ((true)&&((((b2)&&((decide ((x.next)<(0))) || (decide (((n:Int))<=(x.next))))) || ((!(b2))&&((x.next) != (0)))) == false)) (b3) true (.bool (decide ((x.other)<(0)))),fun v _=>v=iT (((true)&&((((b2)&&((decide ((x.next)<(0))) || (decide (((n:Int))<=(x.next))))) || ((!(b2))&&((x.next) != (0)))) == false))&&((b3) == true)) (decide ((x.other)<(0))) false (.pointer (some ⟨b4,6,none⟩)),fun v _=>v=iT (((true)&&((((b2)&&((decide ((x.next)<(0))) || (decide (((n:Int))<=(x.next))))) || ((!(b2))&&((x.next) != (0)))) == false))&&((b3) == true)) (decide ((x.other)<(0))) false (.int .i64 (x.other)),fun v _=>v=iT (((true)&&((((b2)&&((decide ((x.next)<(0))) || (decide (((n:Int))<=(x.next))))) || ((!(b2))&&((x.next) != (0)))) == false))&&((b3) == true)) (decide ((x.other)<(0))) false (.slice (some ⟨b,off,none⟩) n c),fun v _=>v=iT (((true)&&((((b2)&&((decide ((x.next)<(0))) || (decide (((n:Int))<=(x.next))))) || ((!(b2))&&((x.next) != (0)))) == false))&&((b3) == true)) (decide ((x.other)<(0))) false (.int .i64 ((n:Int))),fun v _=>v=iT (((true)&&((((b2)&&((decide ((x.next)<(0))) || (decide (((n:Int))<=(x.next))))) || ((!(b2))&&((x.next) != (0)))) == false))&&((b3) == true)) (decide ((x.other)<(0))) false (.bool (decide (((n:Int))<=(x.other)))),fun v _=>v=iT ((true)&&((((b2)&&((decide ((x.next)<(0))) || (decide (((n:Int))<=(x.next))))) || ((!(b2))&&((x.next) != (0)))) == false)) (b3) true (.bool ((decide ((x.other)<(0))) || (decide (((n:Int))<=(x.other))))),fun v _=>v=iT (true) (((b2)&&((decide ((x.next)<(0))) || (decide (((n:Int))<=(x.next))))) || ((!(b2))&&((x.next) != (0)))) false (.bool ((b3)&&((decide ((x.other)<(0))) || (decide (((n:Int))<=(x.other)))))),fun v _=>v=Value.bool ((((b2)&&((decide ((x.next)<(0))) || (decide (((n:Int))<=(x.next))))) || ((!(b2))&&((x.next) != (0)))) || ((b3)&&((decide ((x.other)<(0))) || (decide (((n:Int))<=(x.other)))))),fun v _=>v=Value.bool ((((b2)&&((decide ((x.next)<(0))) || (decide (((n:Int))<=(x.next))))) || ((!(b2))&&((x.next) != (0)))) || ((b3)&&((decide ((x.other)<(0))) || (decide (((n:Int))<=(x.other)))))),fun v _=>v=iT (true) ((((b2)&&((decide ((x.next)<(0))) || (decide (((n:Int))<=(x.next))))) || ((!(b2))&&((x.next) != (0)))) || ((b3)&&((decide ((x.other)<(0))) || (decide (((n:Int))<=(x.other)))))) false (.bool (b3)),fun v _=>v=iT (true) ((((b2)&&((decide ((x.next)<(0))) || (decide (((n:Int))<=(x.next))))) || ((!(b2))&&((x.next) != (0)))) || ((b3)&&((decide ((x.other)<(0))) || (decide (((n:Int))<=(x.other)))))) false (.bool (!(b3))),fun v _=>v=iT (true) ((((b2)&&((decide ((x.next)<(0))) || (decide (((n:Int))<=(x.next))))) || ((!(b2))&&((x.next) != (0)))) || ((b3)&&((decide ((x.other)<(0))) || (decide (((n:Int))<=(x.other)))))) false (.bool (!(b3))),fun v _=>v=iT ((true)&&(((((b2)&&((decide ((x.next)<(0))) || (decide (((n:Int))<=(x.next))))) || ((!(b2))&&((x.next) != (0)))) || ((b3)&&((decide ((x.other)<(0))) || (decide (((n:Int))<=(x.other)))))) == false)) (!(b3)) true (.pointer (some ⟨b4,6,none⟩)),fun v _=>v=iT ((true)&&(((((b2)&&((decide ((x.next)<(0))) || (decide (((n:Int))<=(x.next))))) || ((!(b2))&&((x.next) != (0)))) || ((b3)&&((decide ((x.other)<(0))) || (decide (((n:Int))<=(x.other)))))) == false)) (!(b3)) true (.int .i64 (x.other)),fun v _=>v=iT ((true)&&(((((b2)&&((decide ((x.next)<(0))) || (decide (((n:Int))<=(x.next))))) || ((!(b2))&&((x.next) != (0)))) || ((b3)&&((decide ((x.other)<(0))) || (decide (((n:Int))<=(x.other)))))) == false)) (!(b3)) true (.bool ((x.other) != (0))),fun v _=>v=iT (true) ((((b2)&&((decide ((x.next)<(0))) || (decide (((n:Int))<=(x.next))))) || ((!(b2))&&((x.next) != (0)))) || ((b3)&&((decide ((x.other)<(0))) || (decide (((n:Int))<=(x.other)))))) false (.bool ((!(b3))&&((x.other) != (0)))),fun v _=>v=Value.bool (((((b2)&&((decide ((x.next)<(0))) || (decide (((n:Int))<=(x.next))))) || ((!(b2))&&((x.next) != (0)))) || ((b3)&&((decide ((x.other)<(0))) || (decide (((n:Int))<=(x.other)))))) || ((!(b3))&&((x.other) != (0))))] ?ob ?en
     case ob =>
      refine⟨?_,?_,?_,?_,?_,?_,?_,?_,?_,?_,?_,?_,?_,?_,?_,?_,?_,?_,?_,?_,?_,?_,?_,?_,?_,?_,?_,?_,?_,?_,?_,?_,?_,?_,?_,?_,?_,?_,?_,?_,?_,?_,?_,?_,?_,?_,trivial⟩<;>intro A W h
      ·exact zAA rfl (zAl (.inl rfl) (h.f 6))
      ·exact zAA rfl (zAl (.inl rfl) (h.d 0 53))
      ·refine sy_ (h.d 1 54) fun hC=>?_;exact(by have e:A.eval (.tmp 4)=Value.pointer (some ⟨b4,0,none⟩):=h.f 4;simp only[execOp,e];simp[go_sem])
      ·refine sy_ (h.d 1 54) fun hC=>?_;exact zAC rfl (zAL (h.d 2 55) hC) zAF ((H.call h.below).cell (i:=1) i_1 5)
      ·refine sy_ (h.d 1 54) fun hC=>?_;exact(by have e56:A.eval (.tmp 56)=Value.int .i64 (x.next):=zAL (h.d 3 56) hC;simp only[execOp,e56];simp[go_sem])
      ·refine sy_ (h.d 1 54) fun hC=>?_;exact zAl (.inl rfl) (zAL (h.d 4 57) hC)
      ·refine sy_ (h.d 5 58) fun hC=>?_;exact(by have e:A.eval (.tmp 4)=Value.pointer (some ⟨b4,0,none⟩):=h.f 4;simp only[execOp,e];simp[go_sem])
      ·refine sy_ (h.d 5 58) fun hC=>?_;exact zAC rfl (zAL (h.d 6 59) hC) zAF ((H.call h.below).cell (i:=1) i_1 5)
      ·refine sy_ (h.d 5 58) fun hC=>?_;exact zAl (.inl rfl) (h.f 0)
      ·refine sy_ (h.d 5 58) fun hC=>?_;exact(zJm Tryz.underlying23 rfl (zAL (h.d 8 61) hC))
      ·refine sy_ (h.d 5 58) fun hC=>?_;exact(by have e60:A.eval (.tmp 60)=Value.int .i64 (x.next):=zAL (h.d 7 60) hC;have e62:A.eval (.tmp 62)=Value.int .i64 ((n:Int)):=zAL (h.d 9 62) hC;simp only[execOp,e60,e62];simp[go_sem])
      ·refine sy_ (h.d 1 54) fun hC=>?_;exact zCV rfl (zAL (h.d 5 58) hC) (fun hb2=>zAL (h.d 10 63) (by (first|(rw[hC,hb2];rfl)|(rw[hb2];rfl)|simp[hb2,hC])))
      ·exact zAA rfl (zCd rfl (h.d 1 54) (fun hb2=>zAL (h.d 11 64) (by (first|(rw[hb2];rfl)|simp[hb2]))))
      ·exact zAA rfl (zAl (.inl rfl) (h.d 12 65))
      ·refine sy_ (h.d 13 66) fun hC=>?_;exact zAl (.inl rfl) (h.f 6)
      ·refine sy_ (h.d 13 66) fun hC=>?_;exact(by have e:A.eval (.tmp 67)=Value.bool (b2):=zAL (h.d 14 67) hC;simp only[execOp,e];simp[go_sem])
      ·refine sy_ (h.d 13 66) fun hC=>?_;exact zAl (.inl rfl) (zAL (h.d 15 68) hC)
      ·refine sy_ (h.d 16 69) fun hC=>?_;exact(by have e:A.eval (.tmp 4)=Value.pointer (some ⟨b4,0,none⟩):=h.f 4;simp only[execOp,e];simp[go_sem])
      ·refine sy_ (h.d 16 69) fun hC=>?_;exact zAC rfl (zAL (h.d 17 70) hC) zAF ((H.call h.below).cell (i:=1) i_1 5)
      ·refine sy_ (h.d 16 69) fun hC=>?_;exact(by have e71:A.eval (.tmp 71)=Value.int .i64 (x.next):=zAL (h.d 18 71) hC;simp only[execOp,e71];simp[go_sem])
      ·refine sy_ (h.d 13 66) fun hC=>?_;exact zCd rfl (zAL (h.d 16 69) hC) (fun hb2=>zAL (h.d 19 72) (by (first|(rw[hC,hb2];rfl)|(rw[hb2];rfl)|simp[hb2,hC])))
      ·exact zAA rfl (zCV rfl (h.d 13 66) (fun hb2=>zAL (h.d 20 73) (by (first|(rw[hb2];rfl)|simp[hb2]))))
      ·exact zAA rfl (zAl (.inl rfl) (h.d 21 74))
      ·refine sy_ (h.d 22 75) fun hC=>?_;exact zAl (.inl rfl) (h.f 7)
      ·refine sy_ (h.d 22 75) fun hC=>?_;exact zAl (.inl rfl) (zAL (h.d 23 76) hC)
      ·refine sy_ (h.d 24 77) fun hC=>?_;exact(by have e:A.eval (.tmp 4)=Value.pointer (some ⟨b4,0,none⟩):=h.f 4;simp only[execOp,e];simp[go_sem])
      ·refine sy_ (h.d 24 77) fun hC=>?_;exact zAC rfl (zAL (h.d 25 78) hC) zAF ((H.call h.below).cell (i:=1) i_1 6)
      ·refine sy_ (h.d 24 77) fun hC=>?_;exact(by have e79:A.eval (.tmp 79)=Value.int .i64 (x.other):=zAL (h.d 26 79) hC;simp only[execOp,e79];simp[go_sem])
      ·refine sy_ (h.d 24 77) fun hC=>?_;exact zAl (.inl rfl) (zAL (h.d 27 80) hC)
      ·refine sy_ (h.d 28 81) fun hC=>?_;exact(by have e:A.eval (.tmp 4)=Value.pointer (some ⟨b4,0,none⟩):=h.f 4;simp only[execOp,e];simp[go_sem])
      ·refine sy_ (h.d 28 81) fun hC=>?_;exact zAC rfl (zAL (h.d 29 82) hC) zAF ((H.call h.below).cell (i:=1) i_1 6)
      ·refine sy_ (h.d 28 81) fun hC=>?_;exact zAl (.inl rfl) (h.f 0)
      ·refine sy_ (h.d 28 81) fun hC=>?_;exact(zJm Tryz.underlying23 rfl (zAL (h.d 31 84) hC))
      ·refine sy_ (h.d 28 81) fun hC=>?_;exact(by have e83:A.eval (.tmp 83)=Value.int .i64 (x.other):=zAL (h.d 30 83) hC;have e85:A.eval (.tmp 85)=Value.int .i64 ((n:Int)):=zAL (h.d 32 85) hC;simp only[execOp,e83,e85];simp[go_sem])
      ·refine sy_ (h.d 24 77) fun hC=>?_;exact zCV rfl (zAL (h.d 28 81) hC) (fun hb2=>zAL (h.d 33 86) (by (first|(rw[hC,hb2];rfl)|(rw[hb2];rfl)|simp[hb2,hC])))
      ·refine sy_ (h.d 22 75) fun hC=>?_;exact zCd rfl (zAL (h.d 24 77) hC) (fun hb2=>zAL (h.d 34 87) (by (first|(rw[hC,hb2];rfl)|(rw[hb2];rfl)|simp[hb2,hC])))
      ·exact zAA rfl (zCV rfl (h.d 22 75) (fun hb2=>zAL (h.d 35 88) (by (first|(rw[hb2];rfl)|simp[hb2]))))
      ·exact zAA rfl (zAl (.inl rfl) (h.d 36 89))
      ·refine sy_ (h.d 37 90) fun hC=>?_;exact zAl (.inl rfl) (h.f 7)
      ·refine sy_ (h.d 37 90) fun hC=>?_;exact(by have e:A.eval (.tmp 91)=Value.bool (b3):=zAL (h.d 38 91) hC;simp only[execOp,e];simp[go_sem])
      ·refine sy_ (h.d 37 90) fun hC=>?_;exact zAl (.inl rfl) (zAL (h.d 39 92) hC)
      ·refine sy_ (h.d 40 93) fun hC=>?_;exact(by have e:A.eval (.tmp 4)=Value.pointer (some ⟨b4,0,none⟩):=h.f 4;simp only[execOp,e];simp[go_sem])
      ·refine sy_ (h.d 40 93) fun hC=>?_;exact zAC rfl (zAL (h.d 41 94) hC) zAF ((H.call h.below).cell (i:=1) i_1 6)
      ·refine sy_ (h.d 40 93) fun hC=>?_;exact(by have e95:A.eval (.tmp 95)=Value.int .i64 (x.other):=zAL (h.d 42 95) hC;simp only[execOp,e95];simp[go_sem])
      ·refine sy_ (h.d 37 90) fun hC=>?_;exact zCd rfl (zAL (h.d 40 93) hC) (fun hb2=>zAL (h.d 43 96) (by (first|(rw[hC,hb2];rfl)|(rw[hb2];rfl)|simp[hb2,hC])))
      ·exact zAA rfl (zCV rfl (h.d 37 90) (fun hb2=>zAL (h.d 44 97) (by (first|(rw[hb2];rfl)|simp[hb2]))))
     case en =>
      intro vals W hbw hv _;have v45:vals 45=_:=hv 45 (by omega)
      simp only[fa,Nat.reduceAdd];rw[v45];clear hv v45
      try simp only[pl]
      have H:=H.call hbw;rw[h10.out]
      cases q10 with
      | true =>
       have E:=EN rfl
       go_wp2_with (first|fail)
       go_ret;exact⟨by rw[E.out];rfl,H.below⟩
      | false =>
       go_upto_region 12 with (first|fail)
       refine ws_ 42 [fun v _=>v=Value.bool (b4x),fun v _=>v=Value.bool (b4x),fun v _=>v=iT (true) (b4x) true (.pointer (some ⟨b4,7,none⟩)),fun v _=>v=iT (true) (b4x) true (.int .i64 (x.slot)),fun v _=>v=iT (true) (b4x) true (.bool (decide ((x.slot)<(0)))),fun v _=>v=iT (true) (b4x) true (.bool (decide ((x.slot)<(0)))),fun v _=>v=iT ((true)&&((b4x) == true)) (decide ((x.slot)<(0))) false (.pointer (some ⟨b4,7,none⟩)),fun v _=>v=iT ((true)&&((b4x) == true)) (decide ((x.slot)<(0))) false (.int .i64 (x.slot)),fun v _=>v=iT ((true)&&((b4x) == true)) (decide ((x.slot)<(0))) false (.bool (decide ((41)<(x.slot)))),fun v _=>v=iT (true) (b4x) true (.bool ((decide ((x.slot)<(0))) || (decide ((41)<(x.slot))))),fun v _=>v=Value.bool ((b4x)&&((decide ((x.slot)<(0))) || (decide ((41)<(x.slot))))),fun v _=>v=Value.bool ((b4x)&&((decide ((x.slot)<(0))) || (decide ((41)<(x.slot))))),fun v _=>v=iT (true) ((b4x)&&((decide ((x.slot)<(0))) || (decide ((41)<(x.slot))))) false (.bool (b4x)),fun v _=>v=iT (true) ((b4x)&&((decide ((x.slot)<(0))) || (decide ((41)<(x.slot))))) false (.bool (!(b4x))),fun v _=>v=iT (true) ((b4x)&&((decide ((x.slot)<(0))) || (decide ((41)<(x.slot))))) false (.bool (!(b4x))),fun v _=>v=iT ((true)&&(((b4x)&&((decide ((x.slot)<(0))) || (decide ((41)<(x.slot))))) == false)) (!(b4x)) true (.pointer (some ⟨b4,7,none⟩)),fun v _=>v=iT ((true)&&(((b4x)&&((decide ((x.slot)<(0))) || (decide ((41)<(x.slot))))) == false)) (!(b4x)) true (.int .i64 (x.slot)),fun v _=>v=iT ((true)&&(((b4x)&&((decide ((x.slot)<(0))) || (decide ((41)<(x.slot))))) == false)) (!(b4x)) true (.bool ((x.slot) != (0))),fun v _=>v=iT (true) ((b4x)&&((decide ((x.slot)<(0))) || (decide ((41)<(x.slot))))) false (.bool ((!(b4x))&&((x.slot) != (0)))),fun v _=>v=Value.bool (((b4x)&&((decide ((x.slot)<(0))) || (decide ((41)<(x.slot))))) || ((!(b4x))&&((x.slot) != (0)))),fun v _=>v=Value.bool (((b4x)&&((decide ((x.slot)<(0))) || (decide ((41)<(x.slot))))) || ((!(b4x))&&((x.slot) != (0)))),fun v _=>v=iT (true) (((b4x)&&((decide ((x.slot)<(0))) || (decide ((41)<(x.slot))))) || ((!(b4x))&&((x.slot) != (0)))) false (.bool (b5)),fun v _=>v=iT (true) (((b4x)&&((decide ((x.slot)<(0))) || (decide ((41)<(x.slot))))) || ((!(b4x))&&((x.slot) != (0)))) false (.bool (b5)),fun v _=>v=iT ((true)&&((((b4x)&&((decide ((x.slot)<(0))) || (decide ((41)<(x.slot))))) || ((!(b4x))&&((x.slot) != (0)))) == false)) (b5) true (.pointer (some ⟨b4,8,none⟩)),fun v _=>v=iT ((true)&&((((b4x)&&((decide ((x.slot)<(0))) || (decide ((41)<(x.slot))))) || ((!(b4x))&&((x.slot) != (0)))) == false)) (b5) true (.int .i64 (x.spot)),fun v _=>v=iT ((true)&&((((b4x)&&((decide ((x.slot)<(0))) || (decide ((41)<(x.slot))))) || ((!(b4x))&&((x.slot) != (0)))) == false)) (b5) true (.bool (decide ((x.spot)<(8)))),fun v _=>v=iT ((true)&&((((b4x)&&((decide ((x.slot)<(0))) || (decide ((41)<(x.slot))))) || ((!(b4x))&&((x.slot) != (0)))) == false)) (b5) true (.bool (decide ((x.spot)<(8)))),fun v _=>v=iT (((true)&&((((b4x)&&((decide ((x.slot)<(0))) || (decide ((41)<(x.slot))))) || ((!(b4x))&&((x.slot) != (0)))) == false))&&((b5) == true)) (decide ((x.spot)<(8))) false (.pointer (some ⟨b4,8,none⟩)),fun v _=>v=iT (((true)&&((((b4x)&&((decide ((x.slot)<(0))) || (decide ((41)<(x.slot))))) || ((!(b4x))&&((x.slot) != (0)))) == false))&&((b5) == true)) (decide ((x.spot)<(8))) false (.int .i64 (x.spot)),fun v _=>v=iT (((true)&&((((b4x)&&((decide ((x.slot)<(0))) || (decide ((41)<(x.slot))))) || ((!(b4x))&&((x.slot) != (0)))) == false))&&((b5) == true)) (decide ((x.spot)<(8))) false (.bool (decide ((13)<(x.spot)))),fun v _=>v=iT ((true)&&((((b4x)&&((decide ((x.slot)<(0))) || (decide ((41)<(x.slot))))) || ((!(b4x))&&((x.slot) != (0)))) == false)) (b5) true (.bool ((decide ((x.spot)<(8))) || (decide ((13)<(x.spot))))),fun v _=>v=iT (true) (((b4x)&&((decide ((x.slot)<(0))) || (decide ((41)<(x.slot))))) || ((!(b4x))&&((x.slot) != (0)))) false (.bool ((b5)&&((decide ((x.spot)<(8))) || (decide ((13)<(x.spot)))))),fun v _=>v=Value.bool ((((b4x)&&((decide ((x.slot)<(0))) || (decide ((41)<(x.slot))))) || ((!(b4x))&&((x.slot) != (0)))) || ((b5)&&((decide ((x.spot)<(8))) || (decide ((13)<(x.spot)))))),fun v _=>v=Value.bool ((((b4x)&&((decide ((x.slot)<(0))) || (decide ((41)<(x.slot))))) || ((!(b4x))&&((x.slot) != (0)))) || ((b5)&&((decide ((x.spot)<(8))) || (decide ((13)<(x.spot)))))),fun v _=>v=iT (true) ((((b4x)&&((decide ((x.slot)<(0))) || (decide ((41)<(x.slot))))) || ((!(b4x))&&((x.slot) != (0)))) || ((b5)&&((decide ((x.spot)<(8))) || (decide ((13)<(x.spot)))))) false (.bool (b5)),fun v _=>v=iT (true) ((((b4x)&&((decide ((x.slot)<(0))) || (decide ((41)<(x.slot))))) || ((!(b4x))&&((x.slot) != (0)))) || ((b5)&&((decide ((x.spot)<(8))) || (decide ((13)<(x.spot)))))) false (.bool (!(b5))),fun v _=>v=iT (true) ((((b4x)&&((decide ((x.slot)<(0))) || (decide ((41)<(x.slot))))) || ((!(b4x))&&((x.slot) != (0)))) || ((b5)&&((decide ((x.spot)<(8))) || (decide ((13)<(x.spot)))))) false (.bool (!(b5))),fun v _=>v=iT ((true)&&(((((b4x)&&((decide ((x.slot)<(0))) || (decide ((41)<(x.slot))))) || ((!(b4x))&&((x.slot) != (0)))) || ((b5)&&((decide ((x.spot)<(8))) || (decide ((13)<(x.spot)))))) == false)) (!(b5)) true (.pointer (some ⟨b4,8,none⟩)),fun v _=>v=iT ((true)&&(((((b4x)&&((decide ((x.slot)<(0))) || (decide ((41)<(x.slot))))) || ((!(b4x))&&((x.slot) != (0)))) || ((b5)&&((decide ((x.spot)<(8))) || (decide ((13)<(x.spot)))))) == false)) (!(b5)) true (.int .i64 (x.spot)),fun v _=>v=iT ((true)&&(((((b4x)&&((decide ((x.slot)<(0))) || (decide ((41)<(x.slot))))) || ((!(b4x))&&((x.slot) != (0)))) || ((b5)&&((decide ((x.spot)<(8))) || (decide ((13)<(x.spot)))))) == false)) (!(b5)) true (.bool ((x.spot) != (0))),fun v _=>v=iT (true) ((((b4x)&&((decide ((x.slot)<(0))) || (decide ((41)<(x.slot))))) || ((!(b4x))&&((x.slot) != (0)))) || ((b5)&&((decide ((x.spot)<(8))) || (decide ((13)<(x.spot)))))) false (.bool ((!(b5))&&((x.spot) != (0)))),fun v _=>v=Value.bool (((((b4x)&&((decide ((x.slot)<(0))) || (decide ((41)<(x.slot))))) || ((!(b4x))&&((x.slot) != (0)))) || ((b5)&&((decide ((x.spot)<(8))) || (decide ((13)<(x.spot)))))) || ((!(b5))&&((x.spot) != (0))))] ?ob ?en
       case ob =>
        refine⟨?_,?_,?_,?_,?_,?_,?_,?_,?_,?_,?_,?_,?_,?_,?_,?_,?_,?_,?_,?_,?_,?_,?_,?_,?_,?_,?_,?_,?_,?_,?_,?_,?_,?_,?_,?_,?_,?_,?_,?_,?_,?_,trivial⟩<;>intro A W h
        ·exact zAA rfl (zAl (.inl rfl) (h.f 8))
        ·exact zAA rfl (zAl (.inl rfl) (h.d 0 99))
        ·refine sy_ (h.d 1 100) fun hC=>?_;exact(by have e:A.eval (.tmp 4)=Value.pointer (some ⟨b4,0,none⟩):=h.f 4;simp only[execOp,e];simp[go_sem])
        ·refine sy_ (h.d 1 100) fun hC=>?_;exact zAC rfl (zAL (h.d 2 101) hC) zAF ((H.call h.below).cell (i:=1) i_1 7)
        ·refine sy_ (h.d 1 100) fun hC=>?_;exact(by have e102:A.eval (.tmp 102)=Value.int .i64 (x.slot):=zAL (h.d 3 102) hC;simp only[execOp,e102];simp[go_sem])
        ·refine sy_ (h.d 1 100) fun hC=>?_;exact zAl (.inl rfl) (zAL (h.d 4 103) hC)
        ·refine sy_ (h.d 5 104) fun hC=>?_;exact(by have e:A.eval (.tmp 4)=Value.pointer (some ⟨b4,0,none⟩):=h.f 4;simp only[execOp,e];simp[go_sem])
        ·refine sy_ (h.d 5 104) fun hC=>?_;exact zAC rfl (zAL (h.d 6 105) hC) zAF ((H.call h.below).cell (i:=1) i_1 7)
        ·refine sy_ (h.d 5 104) fun hC=>?_;exact(by have e106:A.eval (.tmp 106)=Value.int .i64 (x.slot):=zAL (h.d 7 106) hC;simp only[execOp,e106];simp[go_sem])
        ·refine sy_ (h.d 1 100) fun hC=>?_;exact zCV rfl (zAL (h.d 5 104) hC) (fun hb2=>zAL (h.d 8 107) (by (first|(rw[hC,hb2];rfl)|(rw[hb2];rfl)|simp[hb2,hC])))
        ·exact zAA rfl (zCd rfl (h.d 1 100) (fun hb2=>zAL (h.d 9 108) (by (first|(rw[hb2];rfl)|simp[hb2]))))
        ·exact zAA rfl (zAl (.inl rfl) (h.d 10 109))
        ·refine sy_ (h.d 11 110) fun hC=>?_;exact zAl (.inl rfl) (h.f 8)
        ·refine sy_ (h.d 11 110) fun hC=>?_;exact(by have e:A.eval (.tmp 111)=Value.bool (b4x):=zAL (h.d 12 111) hC;simp only[execOp,e];simp[go_sem])
        ·refine sy_ (h.d 11 110) fun hC=>?_;exact zAl (.inl rfl) (zAL (h.d 13 112) hC)
        ·refine sy_ (h.d 14 113) fun hC=>?_;exact(by have e:A.eval (.tmp 4)=Value.pointer (some ⟨b4,0,none⟩):=h.f 4;simp only[execOp,e];simp[go_sem])
        ·refine sy_ (h.d 14 113) fun hC=>?_;exact zAC rfl (zAL (h.d 15 114) hC) zAF ((H.call h.below).cell (i:=1) i_1 7)
        ·refine sy_ (h.d 14 113) fun hC=>?_;exact(by have e115:A.eval (.tmp 115)=Value.int .i64 (x.slot):=zAL (h.d 16 115) hC;simp only[execOp,e115];simp[go_sem])
        ·refine sy_ (h.d 11 110) fun hC=>?_;exact zCd rfl (zAL (h.d 14 113) hC) (fun hb2=>zAL (h.d 17 116) (by (first|(rw[hC,hb2];rfl)|(rw[hb2];rfl)|simp[hb2,hC])))
        ·exact zAA rfl (zCV rfl (h.d 11 110) (fun hb2=>zAL (h.d 18 117) (by (first|(rw[hb2];rfl)|simp[hb2]))))
        ·exact zAA rfl (zAl (.inl rfl) (h.d 19 118))
        ·refine sy_ (h.d 20 119) fun hC=>?_;exact zAl (.inl rfl) (h.f 9)
        ·refine sy_ (h.d 20 119) fun hC=>?_;exact zAl (.inl rfl) (zAL (h.d 21 120) hC)
        ·refine sy_ (h.d 22 121) fun hC=>?_;exact(by have e:A.eval (.tmp 4)=Value.pointer (some ⟨b4,0,none⟩):=h.f 4;simp only[execOp,e];simp[go_sem])
        ·refine sy_ (h.d 22 121) fun hC=>?_;exact zAC rfl (zAL (h.d 23 122) hC) zAo ((H.call h.below).cell (i:=1) i_1 8)
        ·refine sy_ (h.d 22 121) fun hC=>?_;exact(by have e123:A.eval (.tmp 123)=Value.int .i64 (x.spot):=zAL (h.d 24 123) hC;simp only[execOp,e123];simp[go_sem])
        ·refine sy_ (h.d 22 121) fun hC=>?_;exact zAl (.inl rfl) (zAL (h.d 25 124) hC)
        ·refine sy_ (h.d 26 125) fun hC=>?_;exact(by have e:A.eval (.tmp 4)=Value.pointer (some ⟨b4,0,none⟩):=h.f 4;simp only[execOp,e];simp[go_sem])
        ·refine sy_ (h.d 26 125) fun hC=>?_;exact zAC rfl (zAL (h.d 27 126) hC) zAo ((H.call h.below).cell (i:=1) i_1 8)
        ·refine sy_ (h.d 26 125) fun hC=>?_;exact(by have e127:A.eval (.tmp 127)=Value.int .i64 (x.spot):=zAL (h.d 28 127) hC;simp only[execOp,e127];simp[go_sem])
        ·refine sy_ (h.d 22 121) fun hC=>?_;exact zCV rfl (zAL (h.d 26 125) hC) (fun hb2=>zAL (h.d 29 128) (by (first|(rw[hC,hb2];rfl)|(rw[hb2];rfl)|simp[hb2,hC])))
        ·refine sy_ (h.d 20 119) fun hC=>?_;exact zCd rfl (zAL (h.d 22 121) hC) (fun hb2=>zAL (h.d 30 129) (by (first|(rw[hC,hb2];rfl)|(rw[hb2];rfl)|simp[hb2,hC])))
        ·exact zAA rfl (zCV rfl (h.d 20 119) (fun hb2=>zAL (h.d 31 130) (by (first|(rw[hb2];rfl)|simp[hb2]))))
        ·exact zAA rfl (zAl (.inl rfl) (h.d 32 131))
        ·refine sy_ (h.d 33 132) fun hC=>?_;exact zAl (.inl rfl) (h.f 9)
        ·refine sy_ (h.d 33 132) fun hC=>?_;exact(by have e:A.eval (.tmp 133)=Value.bool (b5):=zAL (h.d 34 133) hC;simp only[execOp,e];simp[go_sem])
        ·refine sy_ (h.d 33 132) fun hC=>?_;exact zAl (.inl rfl) (zAL (h.d 35 134) hC)
        ·refine sy_ (h.d 36 135) fun hC=>?_;exact(by have e:A.eval (.tmp 4)=Value.pointer (some ⟨b4,0,none⟩):=h.f 4;simp only[execOp,e];simp[go_sem])
        ·refine sy_ (h.d 36 135) fun hC=>?_;exact zAC rfl (zAL (h.d 37 136) hC) zAo ((H.call h.below).cell (i:=1) i_1 8)
        ·refine sy_ (h.d 36 135) fun hC=>?_;exact(by have e137:A.eval (.tmp 137)=Value.int .i64 (x.spot):=zAL (h.d 38 137) hC;simp only[execOp,e137];simp[go_sem])
        ·refine sy_ (h.d 33 132) fun hC=>?_;exact zCd rfl (zAL (h.d 36 135) hC) (fun hb2=>zAL (h.d 39 138) (by (first|(rw[hC,hb2];rfl)|(rw[hb2];rfl)|simp[hb2,hC])))
        ·exact zAA rfl (zCV rfl (h.d 33 132) (fun hb2=>zAL (h.d 40 139) (by (first|(rw[hb2];rfl)|simp[hb2]))))
       case en =>
        intro vals W hbw hv _;have v41:vals 41=_:=hv 41 (by omega)
        simp only[fa,Nat.reduceAdd];rw[v41];clear hv v41
        try simp only[pl]
        have H:=H.call hbw;rw[h12.out]
        cases q12 with
        | true =>
         have E:=EN rfl
         go_wp2_with (first|fail)
         go_ret;exact⟨by rw[E.out];rfl,H.below⟩
        | false =>
         have E:=EY rfl
         go_wp2_with (first|fail)
         go_roundw
         case rel=>exact⟨j+1,by omega,by go_num,E,H.pick [0] _ (by decide) rfl⟩
         case measure=>simp[intOf];omega
  ·have hjn:j=n:=by omega
   have dj:decide ((j:Int)<(n:Int))=false:=by simp;omega
   have E:=Lib.hid (show zAq xs=true by
    have h:=EA.out;rw[List.take_of_length_le (by rw[HN.out];omega)]at h
    unfold zAq
    rw[HN.out,h,decide_eq_true (by omega),decide_eq_true (by omega)];rfl)
   clear hp EA hjn
   go_wp2_with (first|fail)
   go_ret;exact⟨by rw[E.out];rfl,H.below⟩
theorem zOm (x j:Nat):x / 2 ^ (j+1)=x / 2 ^ j / 2:=by rw[Nat.pow_succ,Nat.div_div_eq_div_mul]
theorem zOX (x j:Nat):(((x:Int) / 2 ^ j).tmod 2 == 1)=x.testBit j:=by
 have e:(x:Int) / 2 ^ j=((x / 2 ^ j:Nat):Int):=by push_cast;rfl
 rw[e,Int.tmod_eq_emod_of_nonneg (Int.natCast_nonneg _),Bool.eq_iff_iff,← zJL];simp;omega
theorem zE6 (s:Nat->Nat) (hs:zAb s) (b:Nat) (hb:b<256) (w:World) :
  Calls Tryz.prog 104 #[setV s,.int .u8 b] w fun e w'=>e=.returned (.bool (hasB s b))/\Below w.heap.size w w':=by
 obtain⟨r,hr,hr1,hr2,h⟩:=zEr hb;have hlt:s (b / 64)<2 ^ 64:=hs _ (by omega)
 unfold setV;rcases h with ⟨h1,hq⟩|⟨h1,hq⟩|⟨h1,hq⟩|⟨h1,hq⟩
 all_goals
  rw[h1]at hlt;have H1:=Lib.hid h1;clear h1;have HR:=Lib.hid hr1;clear hr1
  go_enter Tryz.func104,Tryz.ntmps104
  go_wp2_with fail
  go_loop [5,6] (fun n i=>∃ j:Nat,j<=r/\i=.int .u8 j/\n=.int .u64 ((s (b / 64) / 2 ^ j:Nat):Int)) (fun _ i=>r - (intOf i).toNat)
  case atStart=>exact⟨0,by omega,rfl,by rw[H1.out];simp⟩
  case round =>
   obtain⟨j,hj,rfl,rfl⟩:=hrel;rw[H1.out]
   by_cases hlt2:j<r
   ·obtain⟨y,hy⟩:∃ y,y=s (b / 64) / 2 ^ j:=⟨_,rfl⟩;have hn:=zOm (s (b / 64)) j;rw[H1.out]at hn hy;rw[← hy]at hn ⊢;have hyb:y<=18446744073709551615:=by have:=Nat.div_le_self (s (b / 64)) (2 ^ j);rw[H1.out]at this;rw[hy];omega
    have HN:=Lib.hid hn;clear hn;have HY:=Lib.hid hy;clear hy
    go_wp2
    go_round
    case rel=>exact⟨j+1,by omega,by go_num,by rw[HN.out];first|rfl|(congr 1)⟩
    case measure=>simp[intOf];omega
   ·obtain rfl:j=r:=by omega
    have ht:=zJL (s (b / 64)) j;rw[H1.out]at ht;have HT:=Lib.hid ht;clear ht;have hyb:=Nat.div_le_self (s (b / 64)) (2 ^ j);rw[H1.out]at hyb
    go_wp2
    go_ret;refine⟨?_,(Below.refl _ _).alloc (Nat.le_refl _) _⟩;unfold hasB;rw[H1.out,HR.out];exact congrArg (fun x=>Ending.returned (Value.bool x)) (zOX _ _)
theorem zQR {x r:Nat} (hx:x<2 ^ 64) (hr:r<64) (h:x.testBit r=false):x+2 ^ r=x ||| 2 ^ r:=by
 have hr2:2 ^ r<2 ^ 64:=Nat.pow_lt_pow_right (by omega) hr
 have e:=BitVec.add_eq_or_of_and_eq_zero (BitVec.ofNat 64 x) (BitVec.ofNat 64 (2 ^ r)) (by
  apply BitVec.eq_of_getLsbD_eq;intro i hi;simp only[BitVec.getLsbD_and,BitVec.getLsbD_ofNat,BitVec.getLsbD_zero,Nat.testBit_two_pow]
  by_cases e:r=i
  ·subst e;simp[h]
  ·simp[e])
 have e2:=congrArg BitVec.toNat e;rw[BitVec.toNat_add,BitVec.toNat_or,BitVec.toNat_ofNat,BitVec.toNat_ofNat,Nat.mod_eq_of_lt hx,Nat.mod_eq_of_lt hr2]at e2;have hor:x ||| 2 ^ r<2 ^ 64:=Nat.or_lt_two_pow hx hr2
 have hle:x+2 ^ r<2 ^ 64+2 ^ 64:=by omega
 by_cases hc:x+2 ^ r<2 ^ 64
 ·rwa [Nat.mod_eq_of_lt hc]at e2
 ·exfalso
  have h1:(x+2 ^ r) % 2 ^ 64=x+2 ^ r - 2 ^ 64:=by omega
  rw[h1]at e2;have h2:x<=x ||| 2 ^ r:=Nat.left_le_or
  omega
theorem zNy {s:Nat->Nat} (hs:zAb s) {b:Nat} (h:hasB s b=true):setV s=setV (addS s b) :=
 zFh hs (zFy hs b) fun c _=>by
  rw[zHC]
  by_cases e:c=b
  ·subst e;simp[h]
  ·simp[e]
theorem zEa (s:Nat->Nat) (hs:zAb s) (b:Nat) (hb:b<256) (w:World) :
  Calls Tryz.prog 105 #[setV s,.int .u8 b] w fun e w'=>e=.returned (setV (addS s b))/\Below w.heap.size w w':=by
 obtain⟨r,hr,hr1,hr2,h⟩:=zEr hb;obtain⟨q,hq4,hq,hqi⟩:∃ q:Nat,q<4/\b / 64=q/\(b:Int) / 64=q:=⟨b / 64,by omega,rfl,by omega⟩
 clear h;have h2r:∀ j,j<=r->2 ^ j<=9223372036854775808:=fun j hj=>by
  have:2 ^ j<=2 ^ 63:=Nat.pow_le_pow_right (by omega) (by omega)
  omega
 rw[show setV s=.agg #[.int .u64 (s 0),.int .u64 (s 1),.int .u64 (s 2),.int .u64 (s 3)] from rfl]
 have b1:SBox (w.alloc (.cells (setC s) 30)) w.heap.size 30 s:=SBox.new w _ _;have b2:SBox ((w.alloc (.cells (setC s) 30)).alloc (.cells (setC zAG) 30)) w.heap.size 30 s:=b1.alloc _;have e2:SBox ((w.alloc (.cells (setC s) 30)).alloc (.cells (setC zAG) 30)) (w.heap.size+1) 30 zAG:=by have:=SBox.new (w.alloc (.cells (setC s) 30)) 30 zAG;rwa [World.size_alloc]at this
 have bel:Below w.heap.size w ((w.alloc (.cells (setC s) 30)).alloc (.cells (setC zAG) 30)):=((Below.refl _ w).alloc (Nat.le_refl _) _).alloc (by simp) _
 have HS:=Lib.hid hs;clear hs;have HQ:=Lib.hid hq;clear hq;have HR:=Lib.hid hr1;clear hr1;have H2R:=Lib.hid h2r;clear h2r;clear b1
 go_enter Tryz.func105,Tryz.ntmps105
 go_wp2_with fail
 refine(zE6 s HS.out b hb _).mono ?_
 rintro e w1 ⟨rfl,bel1⟩;have sz1:=bel1.size;simp at sz1;have b3:=b2.below bel1 b2.lt;have e3:=e2.below bel1 e2.lt;have bel2:Below w.heap.size w w1:=bel.trans (bel1.mono (by simp;omega))
 clear b2 e2 bel bel1;have f0:=e3.frozen 0;have f1:=e3.frozen 1;have f2:=e3.frozen 2;have f3:=e3.frozen 3;have r0:=e3.cell (k:=0) (by omega);have r1:=e3.cell (k:=1) (by omega);have r2:=e3.cell (k:=2) (by omega);have r3:=e3.cell (k:=3) (by omega)
 have E3:=Lib.hid e3;clear e3;have BEL2:=Lib.hid bel2;clear bel2
 cases hh:hasB s b with
 | true =>
  have HH:=Lib.hid hh;clear hh;have c0:=b3.cell (k:=0) (by omega);have c1:=b3.cell (k:=1) (by omega);have c2:=b3.cell (k:=2) (by omega);have c3:=b3.cell (k:=3) (by omega)
  clear b3
  go_wp2
  have b4:=E3.out.set4 s;have g0:=b4.cell (k:=0) (by omega);have g1:=b4.cell (k:=1) (by omega);have g2:=b4.cell (k:=2) (by omega);have g3:=b4.cell (k:=3) (by omega)
  exact bodyPost_ret (v:=setV s) (by unfold setV;simp[results,Tryz.results105,go_sem,g0,g1,g2,g3]) rfl ⟨by rw[zNy HS.out HH.out],zBP BEL2.out (by omega) _ _ _ _⟩
 | false =>
  have HH:=Lib.hid hh;clear hh;have B3:=Lib.hid b3;have k1:=b3.cell hq4;have k2:=b3.frozen q;clear b3
  go_wp2_with fail
  go_loop [5,6] (fun n i=>∃ j:Nat,j<=r/\i=.int .u8 j/\n=.int .u64 ((2 ^ j:Nat):Int)) (fun _ i=>r - (intOf i).toNat)
  case atStart=>exact⟨0,by omega,rfl,rfl⟩
  case round =>
   obtain⟨j,hj,rfl,rfl⟩:=hrel
   by_cases hlt:j<r
   ·have hp:=H2R.out (j+1) (by omega)
    rw[Nat.pow_succ]at hp;have hs2:2 ^ (j+1)=2 ^ j * 2:=Nat.pow_succ ..;have HS2:=Lib.hid hs2;clear hs2;obtain⟨y,hy⟩:∃ y,y=2 ^ j:=⟨_,rfl⟩;rw[← hy]at hp HS2 ⊢;clear hy;have hw:IntKind.u64.wrap (2 * (y:Int))=2 * (y:Int):=by rw[IntKind.wrap_u64];omega
    go_wp2
    go_round
    case rel=>exact⟨j+1,by omega,by go_num,by rw[HS2.out];go_num⟩
    case measure=>simp[intOf];omega
   ·obtain rfl:j=r:=by omega
    have hadd:=zQR (HS.out q hq4) hr (by have:=HH.out;unfold hasB at this;rwa [HQ.out,HR.out]at this)
    have hp:=H2R.out j (Nat.le_refl _);have hor:s q ||| 2 ^ j<2 ^ 64:=Nat.or_lt_two_pow (HS.out q hq4) (by omega)
    rw[← hadd]at hor;have HADD:=Lib.hid hadd;clear hadd;obtain⟨y,hy⟩:∃ y,y=2 ^ j:=⟨_,rfl⟩;rw[← hy]at hp hor HADD ⊢;have HY:=Lib.hid hy;clear hy;have hw:IntKind.u64.wrap (((s q:Nat):Int)+(y:Int))=((s q+y:Nat):Int):=by rw[IntKind.wrap_u64];omega
    have b5:SBox (w1.setCell ⟨w.heap.size,q,none⟩ (.int .u64 (((s q:Nat):Int)+(y:Int)))) w.heap.size 30 (addS s b):=by
     have h1:=B3.out.set hq4 (s q+y);rw[HADD.out,HY.out,zPY HQ.out HR.out,← HY.out,← HADD.out]at h1
     simpa using h1
    have e5:SBox (w1.setCell ⟨w.heap.size,q,none⟩ (.int .u64 (((s q:Nat):Int)+(y:Int)))) (w.heap.size+1) 30 zAG:=E3.out.other (by omega) _ _
    have bel5:Below w.heap.size w (w1.setCell ⟨w.heap.size,q,none⟩ (.int .u64 (((s q:Nat):Int)+(y:Int)))):=BEL2.out.setCell (p:=⟨w.heap.size,q,none⟩) (Nat.le_refl _) _;have B5:=Lib.hid bel5;clear bel5;have c0:=b5.cell (k:=0) (by omega);have c1:=b5.cell (k:=1) (by omega);have c2:=b5.cell (k:=2) (by omega);have c3:=b5.cell (k:=3) (by omega)
    clear f0 f1 f2 f3 r0 r1 r2 r3 B3 E3;have f0:=e5.frozen 0;have f1:=e5.frozen 1;have f2:=e5.frozen 2;have f3:=e5.frozen 3;have r0:=e5.cell (k:=0) (by omega);have r1:=e5.cell (k:=1) (by omega);have r2:=e5.cell (k:=2) (by omega);have r3:=e5.cell (k:=3) (by omega)
    clear b5;have E5:=Lib.hid e5;clear e5
    go_wp2
    have b4:=E5.out.set4 (addS s b);have g0:=b4.cell (k:=0) (by omega);have g1:=b4.cell (k:=1) (by omega);have g2:=b4.cell (k:=2) (by omega);have g3:=b4.cell (k:=3) (by omega)
    exact bodyPost_ret (v:=setV (addS s b)) (by unfold setV;simp[results,Tryz.results105,go_sem,g0,g1,g2,g3]) rfl ⟨rfl,zBP B5.out (by omega) _ _ _ _⟩
theorem zA7:∀ xs:List Value,zAW (xs.map fun v=>#[v])=xs
 | []=>rfl
 | x::r=>by
  have:=zA7 r;simp only[zAW,List.map_cons,List.flatten_cons]at *;rw[this];rfl
theorem zB6 {P:Program} {ops:Array Oper} {rest:List Oper} {o:Oper} {a:Act} {w w0:World} {Q:Exit->Act->World->Prop} {l:List Res} {M:Nat->Prop} (hg:Region.wanted o (yielded ops a.tmps)=true) (T:TypeId) (x y:Operand) (ho:o.op=.store T x y) {g i n cap:Nat} (hx:a.eval x=.pointer (some ⟨g,i,none⟩)) {v:Value} (hy:a.eval y=v) (H:HoldG M w0 w l) {j:Nat} {e:TypeId} {xs:List Value}
  (hi:At l j (.row (.slice (some ⟨g,0,none⟩) n cap) e 1 n xs)) (hl:xs.length=n) (hT:zDD P T 1=true) (h1:v.oneCell'=true) (hin:i<n)
  (h:∀ w',HoldG M w0 w' (l.set j (.row (.slice (some ⟨g,0,none⟩) n cap) e 1 n (xs.set i v)))->wpList P ops Q rest (a.put o.dst undef) w'):wpList P ops Q (o::rest) a w:=by
 exact zAu hg fun _ hK=>by
  obtain⟨hlen,⟨hv',_⟩|⟨g',cap',cur,hv',hb,hg',hn,hc,hsz,ht⟩⟩:=H.all j _ hi.get
  ·cases hv'
  ·cases hv'
   have hs:(⟨g,i,none⟩:Addr).add 0=⟨g,i,none⟩:=by rw[Addr.add_mid];rfl
   have hcell:w.cell? ⟨g,i,none⟩=cur[i]?:=by simp[World.cell?,hg']
   have hfr:w.frozen? ⟨g,i,none⟩=false:=by simp[World.frozen?,hg']
   have hisz:i<cur.size:=by omega
   unfold Oper.wp execOp;simp only[ho,hx,hy,Instr.storeAt,Instr.sureAddr,Sem.run_bind,Sem.run_pure,Result.andThen_ok,zB7 (P:=P) (w:=w) hT h1 (by rw[hcell];simp[hisz]) hfr hs]
   have hh:=heap_setCell hg' (k:=i) v;refine hK _ _ (h _ (H.upd hi.get (zBe w g i v) ⟨by rw[List.length_set];exact hlen,.inr ⟨g,cap,_,rfl,hb,hh,hn,hc,?_,?_⟩⟩ (fun _ e=>.inl e)))
   ·simp[hsz]
   ·rw[← ht,Array.toList_setIfInBounds,List.take_set]
end
end Go.Proofs.YtphjgfjbiimkjaaGreat
