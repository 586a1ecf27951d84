/-
  Laws of walks, and walks.
-/
import Derived.Test.YtklcgfkdemifcaaDoorSb17
import Derived.Test.YtklcgfkdemifcaaDoorSb10
import Derived.Test.YtklcgfkdemifcaaDoorSb13
import Derived.WalkKit
import Derived.ProofKit
import Derived.Lay
import Derived.HandedShaped
import Derived.SizedLaws
import Derived.LaidOnce
import Derived.SevenTiedAt
import Derived.Shelf.Vars
import Derived.Test.YtklcgfkdemifcaaDoorSb3
set_option linter.unusedVariables false
set_option linter.unusedSimpArgs false
set_option maxRecDepth 100000
set_option maxHeartbeats 16000000
namespace Go.Proofs.YtklcgfkdemifcaaDoor
section
open Go.RowKit Go.Shelf
attribute [local go_sem] Oper.semAt_some
theorem zQE {A:Str} (h:Lib.contains A [91,58]=false):NoB A:=by
 unfold Lib.contains at h;intro k;rcases Lib.index_spec A [91,58] with ⟨h1,h2⟩|⟨i,h1,h2,h3,_⟩
 ·by_cases hk:k≤A.length
  ·exact h2 k hk
  ·exact zOg (by simp;omega) (by simp)
 ·rw[h1]at h;simp at h
theorem zKG (A t:Str) (hA:A.length≤2000) (w:World) (hz:MaxL w):Calls Tryd.prog 11 #[.string ⟨A.toArray⟩,.string ⟨t.toArray⟩] w (Rt (.bool (Lib.contains A t)) w):=by
 obtain⟨m,hm⟩:=hz
 exact(Tryd.strings_Contains ⟨A.toArray⟩ ⟨t.toArray⟩ m w (by show A.toArray.size<_;simp;omega) hm).mono (by
  rintro e w ⟨rfl,rfl⟩
  exact⟨by simp,Below.refl _ _⟩)
def A0:Nat→Option Obj→Prop:=fun _ _=>True
theorem zNe {T e:TypeId} {sz g n c i:Nat} {o:Oper} {a:Act} {w:World} {k:IntKind} {x y:Operand} (hu:Tryd.prog.underlying T=some (.slice e)) (hs:∀ w,(sizeOf e).run Tryd.prog w=.ok sz w)
  (hop:o.op=Op.indexAddr T x y) (hx:a.eval x=.slice (some ⟨g,0,none⟩) n c) (hy:a.eval y=.int k (i:Int)) (hi:i<n):(execOp a.eval o).run Tryd.prog w=.ok (.value (.pointer (some ⟨g,i * sz,none⟩))) w:=by
 simp only[execOp,hop,hx,hy];simp[Instr.indexAt,asIntOf,go_sem,run_underlying hu,hs];intro hc;omega
def bStr (b:Nat) (W:World):Prop:=W.heap[b]?=some (.cells #[.string ⟨#[42]⟩,.string ⟨#[43,63]⟩,.string ⟨#[123,50,44,53,125]⟩] 9 (0,0))
def StrW (v:Value) (W:World):Prop:=∃ b,v=.slice (some ⟨b,0,none⟩) 3 3∧bStr b W
def StrP (j:Nat) (v:Value) (W:World):Prop:=∃ b,v=.pointer (some ⟨b,j,none⟩)∧bStr b W
theorem zJj:zDe StrW:=fun _ _ _ ⟨b,e,h⟩ hb=>⟨b,e,(hb.block b (Array.getElem?_eq_some_iff.1 h).1).trans h⟩
theorem zJ0 (j:Nat):zDe (StrP j):=fun _ _ _ ⟨b,e,h⟩ hb=>⟨b,e,(hb.block b (Array.getElem?_eq_some_iff.1 h).1).trans h⟩
theorem zMN (W:World):(Instr.buildSlice 44 3 #[(0,.string ⟨#[42]⟩),(1,.string ⟨#[43,63]⟩),(2,.string ⟨#[123,50,44,53,125]⟩)]).run Tryd.prog W=.ok (.slice (some ⟨W.heap.size,0,none⟩) 3 3) (W.alloc (.cells #[.string ⟨#[42]⟩,.string ⟨#[43,63]⟩,.string ⟨#[123,50,44,53,125]⟩] 9)):=by kernel_rfl
theorem zO6 (k hi:Int) (W:World):(Instr.build 31 #[(0,.int .i64 k),(4,.int .i64 hi)]).run Tryd.prog W=.ok (zAf {kind:=k,hi:=hi} nilS) W:=by simp[go_sem];rfl
theorem zPS (k lo hi:Int) (z:Bool) (W:World):(Instr.build 31 #[(0,.int .i64 k),(3,.int .i64 lo),(4,.int .i64 hi),(5,.bool z)]).run Tryd.prog W=.ok (zAf {kind:=k,lo:=lo,hi:=hi,lazy:=z} nilS) W:=by simp[go_sem];rfl
theorem zPj (k lo hi:Int) (W:World):(Instr.build 31 #[(0,.int .i64 k),(3,.int .i64 lo),(4,.int .i64 hi)]).run Tryd.prog W=.ok (zAf {kind:=k,lo:=lo,hi:=hi} nilS) W:=by simp[go_sem];rfl
section
variable {M:Nat→Prop} {ops:Array Oper} {dst:Option Tmp} {ty:TypeId} {pos:String} {aft:Array Edge} {grd:Option (Nat × Bool)} {rest:List Oper} {a:Act} {w w0:World} {l:List Res} {Q:Exit→Act→World→Prop} {o:Oper} {D:Prop} {t:TypeId} {x y:Operand}
theorem zBn {A B Z:Str} (hZ:Z=A++B) (hn:A.length+B.length≤100000) (ho:o.op=Op.binOp .add 9 x y t) (hx:a.eval x=.string ⟨A.toArray⟩) (hy:a.eval y=.string ⟨B.toArray⟩):(execOp a.eval o).run Tryd.prog w=.ok (.value (.string ⟨Z.toArray⟩)) w:=by
 subst hZ;have e:((⟨A.toArray⟩:ByteArray)++⟨B.toArray⟩)=⟨(A++B).toArray⟩:=by apply ByteArray.ext;simp
 simp only[execOp,ho,hx,hy];simp[go_sem,e];omega
theorem gAd {u v:Operand} (h:wpList Tryd.prog ops Q ((⟨dst,.binOp .add 9 u v t,ty,pos,aft,grd⟩:Oper)::rest) a w):wpList Tryd.prog ops Q ((⟨dst,.binOp .add 9 u v t,ty,pos,aft,grd⟩:Oper)::rest) a w:=h
theorem nbP {x y:Operand} {k hi:Int} (h:wpList Tryd.prog ops Q rest (a.put dst (zAf {kind:=k,hi:=hi} nilS)) w) (hg:Region.wanted (⟨dst,.build 31 #[(0,x),(4,y)],ty,pos,aft,grd⟩:Oper) (yielded ops a.tmps)=true:=by first|rfl|exact zAr rfl (zAZ rfl (by first|rfl|(simp only[pe];rfl)))) (h0:a.eval x=.int .i64 k:=by first|(simp only[pe];done)|(simp only[pe];rfl)) (h1:a.eval y=.int .i64 hi:=by first|(simp only[pe];done)|(simp only[pe];rfl)):wpList Tryd.prog ops Q ((⟨dst,.build 31 #[(0,x),(4,y)],ty,pos,aft,grd⟩:Oper)::rest) a w :=
 zAu hg (by simp only[execOp,List.map_toArray,List.map_cons,List.map_nil,h0,h1,Sem.run_bind,zO6];rfl) h
theorem nbQ {x y z u:Operand} {k lo hi:Int} {q:Bool} (h:wpList Tryd.prog ops Q rest (a.put dst (zAf {kind:=k,lo:=lo,hi:=hi,lazy:=q} nilS)) w) (hg:Region.wanted (⟨dst,.build 31 #[(0,x),(3,z),(4,y),(5,u)],ty,pos,aft,grd⟩:Oper) (yielded ops a.tmps)=true:=by first|rfl|exact zAr rfl (zAZ rfl (by first|rfl|(simp only[pe];rfl)))) (h0:a.eval x=.int .i64 k:=by first|(simp only[pe];done)|(simp only[pe];rfl)) (h1:a.eval y=.int .i64 hi:=by first|(simp only[pe];done)|(simp only[pe];rfl)) (h2:a.eval z=.int .i64 lo:=by first|(simp only[pe];done)|(simp only[pe];rfl)) (h3:a.eval u=.bool q:=by first|(simp only[pe];done)|(simp only[pe];rfl)):wpList Tryd.prog ops Q ((⟨dst,.build 31 #[(0,x),(3,z),(4,y),(5,u)],ty,pos,aft,grd⟩:Oper)::rest) a w :=
 zAu hg (by simp only[execOp,List.map_toArray,List.map_cons,List.map_nil,h0,h1,h2,h3,Sem.run_bind,zPS];rfl) h
theorem nbT {x y z:Operand} {k lo hi:Int} (h:wpList Tryd.prog ops Q rest (a.put dst (zAf {kind:=k,lo:=lo,hi:=hi} nilS)) w) (hg:Region.wanted (⟨dst,.build 31 #[(0,x),(3,z),(4,y)],ty,pos,aft,grd⟩:Oper) (yielded ops a.tmps)=true:=by first|rfl|exact zAr rfl (zAZ rfl (by first|rfl|(simp only[pe];rfl)))) (h0:a.eval x=.int .i64 k:=by first|(simp only[pe];done)|(simp only[pe];rfl)) (h1:a.eval y=.int .i64 hi:=by first|(simp only[pe];done)|(simp only[pe];rfl)) (h2:a.eval z=.int .i64 lo:=by first|(simp only[pe];done)|(simp only[pe];rfl)):wpList Tryd.prog ops Q ((⟨dst,.build 31 #[(0,x),(3,z),(4,y)],ty,pos,aft,grd⟩:Oper)::rest) a w :=
 zAu hg (by simp only[execOp,List.map_toArray,List.map_cons,List.map_nil,h0,h1,h2,Sem.run_bind,zPj];rfl) h
theorem nbJ {x y z:Operand} {k g:Int} {p:Option Addr} {n c:Nat} (h:wpList Tryd.prog ops Q rest (a.put dst (zAf {kind:=k,group:=g} (.slice p n c))) w) (hg:Region.wanted (⟨dst,.build 31 #[(0,x),(6,y),(2,z)],ty,pos,aft,grd⟩:Oper) (yielded ops a.tmps)=true:=by first|rfl|exact zAr rfl (zAZ rfl (by first|rfl|(simp only[pe];rfl)))) (h0:a.eval x=.int .i64 k:=by first|(simp only[pe];done)|(simp only[pe];rfl)) (h1:a.eval y=.int .i64 g:=by first|(simp only[pe];done)|(simp only[pe];rfl)) (h2:a.eval z=.slice p n c:=by first|(simp only[pe];done)|(simp only[pe];rfl)):wpList Tryd.prog ops Q ((⟨dst,.build 31 #[(0,x),(6,y),(2,z)],ty,pos,aft,grd⟩:Oper)::rest) a w :=
 zAu hg (by simp only[execOp,List.map_toArray,List.map_cons,List.map_nil,h0,h1,h2,Sem.run_bind,zMk];rfl) h
theorem zNN (hg:Region.wanted o (yielded ops a.tmps)=true) (hop:o.op=.buildSlice 44 3 #[(0,.const (.string ⟨#[42]⟩)),(1,.const (.string ⟨#[43,63]⟩)),(2,.const (.string ⟨#[123,50,44,53,125]⟩))]) (hD:¬ D:=by decide):zBW Tryd.prog ops o a w (fun v w'=>StrW v w'∧(D→w.heap.size≤blk v)):=by
 refine zCt hg (v:=.slice (some ⟨w.heap.size,0,none⟩) 3 3) (w':=w.alloc (.cells #[.string ⟨#[42]⟩,.string ⟨#[43,63]⟩,.string ⟨#[123,50,44,53,125]⟩] 9)) ?_ ((Below.refl _ w).alloc (Nat.le_refl _) _) ⟨⟨_,rfl,World.alloc_heap_new w _⟩,fun h=>(hD h).elim⟩
 simp only[execOp,hop,List.map_toArray,List.map_cons,List.map_nil,Sem.run_bind];rw[show a.eval (.const (.string ⟨#[42]⟩))=.string ⟨#[42]⟩ from rfl,show a.eval (.const (.string ⟨#[43,63]⟩))=.string ⟨#[43,63]⟩ from rfl,show a.eval (.const (.string ⟨#[123,50,44,53,125]⟩))=.string ⟨#[123,50,44,53,125]⟩ from rfl,zMN]
 rfl
theorem zPW {j:Nat} (hg:Region.wanted o (yielded ops a.tmps)=true) (hop:o.op=.indexAddr 44 x y) (h0:StrW (a.eval x) w) (h1:a.eval y=.int .i64 (j:Int)) (hj:j<3) (hD:¬ D:=by decide):zBW Tryd.prog ops o a w (fun v w'=>StrP j v w'∧(D→w.heap.size≤blk v)):=by
 obtain⟨b,e,h⟩:=h0;refine zCt hg (v:=.pointer (some ⟨b,j,none⟩)) (w':=w) ?_ (Below.refl _ w) ⟨⟨b,rfl,h⟩,fun h=>(hD h).elim⟩
 simp only[execOp,hop,e,h1];have hs:∀ w,(sizeOf 9).run Tryd.prog w=.ok 1 w:=fun w=>by kernel_rfl
 simp[Instr.indexAt,asIntOf,go_sem,run_underlying Tryd.underlying44,hs];omega
theorem zNR {j:Nat} (hop:o.op=.load 9 x) (h0:StrP j (a.eval x) w) (hj:j<3):(execOp a.eval o).run Tryd.prog w=.ok (.value (.string ⟨(repS j).toArray⟩)) w:=by
 obtain⟨b,e,h⟩:=h0;refine zAT hop e zAp ?_
 rw[cell_of_row w b _ _ _ _ h]
 match j,hj with
 | 0,_=>rfl
 | 1,_=>rfl
 | 2,_=>rfl
theorem zGO {x0 x1 x2 x3:Operand} {ts:Array TypeId} {L:Str} {f:zAW} {t:Tree} {g:Nat} (hg:Region.wanted o (yielded ops a.tmps)=true) (hop:o.op=.call {callee:=Callee.value (Operand.func 13),args:=#[x0,x1,x2,x3],argTypes:=ts})
  (h0:a.eval x0=.string ⟨L.toArray⟩) (h1:a.eval x1=zDL f) (h2:NW A0 t (a.eval x2) w) (h3:a.eval x3=.int .i64 (g:Int)) (hB:zBv L f t g) (hs:zBJ t≤1000000) (hz:MaxL w) (hD:¬ D:=by decide):zBW Tryd.prog ops o a w (fun v' _=>v'=.bool true∧(D→w.heap.size≤blk v')):=by
 obtain⟨p,c,F,e,h,hF⟩:=h2;exact zCS hg hop (enters_of Tryd.func13 (by kernel_rfl) rfl) (zQn ⟨h0,h1,e,h3⟩) (zI9 L f t g hB hs p c F w hz (fun b hb=>(hF b hb).1) h) hD
end
def RepC (cs:Array Value):Prop:=cs.size=30∧∀ k,k<3→∀ i,i<10→i≠5→cs[k * 10+i]?=(zAH (repD k) nilS)[i]?
theorem zLZ:RepC (([zAf (repD 0) nilS,zAf (repD 1) nilS,zAf (repD 2) nilS].flatMap fun v=>v.cells.toList).toArray):=by
 refine⟨rfl,fun k hk i hi _=>?_⟩
 match k,hk with
 | 0,_=>match i,hi with|0,_=>rfl|1,_=>rfl|2,_=>rfl|3,_=>rfl|4,_=>rfl|5,_=>rfl|6,_=>rfl|7,_=>rfl|8,_=>rfl|9,_=>rfl
 | 1,_=>match i,hi with|0,_=>rfl|1,_=>rfl|2,_=>rfl|3,_=>rfl|4,_=>rfl|5,_=>rfl|6,_=>rfl|7,_=>rfl|8,_=>rfl|9,_=>rfl
 | 2,_=>match i,hi with|0,_=>rfl|1,_=>rfl|2,_=>rfl|3,_=>rfl|4,_=>rfl|5,_=>rfl|6,_=>rfl|7,_=>rfl|8,_=>rfl|9,_=>rfl
theorem RepC.store {cs:Array Value} (h:RepC cs) {j:Nat} (hj:j<3) (v:Value):RepC (cs.setIfInBounds (j * 10+5) v)∧∀ i,i<10→(cs.setIfInBounds (j * 10+5) v)[j * 10+i]?=(zAH (repD j) v)[i]?:=by
 refine⟨⟨by rw[Array.size_setIfInBounds];exact h.1,fun k hk i hi h5=>?_⟩,fun i hi=>?_⟩
 ·rw[Array.getElem?_setIfInBounds,if_neg (by omega)]
  exact h.2 k hk i hi h5
 ·by_cases h5:i=5
  ·subst h5;rw[Array.getElem?_setIfInBounds,if_pos rfl,if_pos (by rw[h.1];omega)]
   rfl
  ·rw[Array.getElem?_setIfInBounds,if_neg (by omega),h.2 j hj i hi h5]
   match i,hi with
   | 0,_=>rfl
   | 1,_=>rfl
   | 2,_=>rfl
   | 3,_=>rfl
   | 4,_=>rfl
   | 5,_=>exact absurd rfl h5
   | 6,_=>rfl
   | 7,_=>rfl
   | 8,_=>rfl
   | 9,_=>rfl
theorem zGN (A B:Str) (f:zAW) (hA:A.length≤140737488355328) (hB:B.length≤140737488355328) (w0:World) (hz:MaxL w0):Calls Tryd.prog 4 #[.string ⟨A.toArray⟩,.string ⟨B.toArray⟩,zDL f] w0 (Rt (.bool true) w0):=by
 have H:=Hold.start w0;have HZ:=Lib.hid hz;clear hz;have haw:=fun w (hb:Below w0.heap.size w0 w)=>zNM w (HZ.out.below hb)
 have hpA:=fun w (hb:Below w0.heap.size w0 w)=>zGS A f w (HZ.out.below hb)
 have hpB:=fun w (hb:Below w0.heap.size w0 w)=>zGS B f w (HZ.out.below hb)
 cases hprA:zA7 A f with
 | error y =>
  obtain⟨a,x⟩:=y;rw[hprA]at hpA;obtain⟨e1,_,_⟩:=zHE hprA;have d1:((x:Int) != 0)=true:=by rw[bne_iff_ne];omega
  clear hprA e1
  cases hprB:zA7 B f with
  | error y2 =>
   obtain⟨a2,x2⟩:=y2;rw[hprB]at hpB;clear hprB
   go_enter Tryd.func4,Tryd.ntmps4
   go_wp2_with (first|((with_reducible refine ch (haw _ H.below) H ?_);clear H;intro w H)|(go_at_call 6;(with_reducible refine zJd (hpA _ H.below) H ?_);clear H;intro w H)|(go_at_call 6;(with_reducible refine zJd (hpB _ H.below) H ?_);clear H;intro w H)|((first|((with_reducible refine kgA 5 ?_);refine kA 5 H ?_)|((with_reducible refine kgX 5 ?_);(first|refine kS 5 H ?_|refine kB 5 H ?_)));clear H;intro b5 w H;try simp only[nr]at H)|((first|((with_reducible refine kgA 7 ?_);refine kA 7 H ?_)|((with_reducible refine kgX 7 ?_);(first|refine kS 7 H ?_|refine kB 7 H ?_)));clear H;intro b7 w H;try simp only[nr]at H)|((first|((with_reducible refine kgA 11 ?_);refine kA 11 H ?_)|((with_reducible refine kgX 11 ?_);(first|refine kS 11 H ?_|refine kB 11 H ?_)));clear H;intro b11 w H;try simp only[nr]at H)|((first|((with_reducible refine kgA 15 ?_);refine kA 15 H ?_)|((with_reducible refine kgX 15 ?_);(first|refine kS 15 H ?_|refine kB 15 H ?_)));clear H;intro b15 w H;try simp only[nr]at H)|(first|((with_reducible refine gT ?_);(refine aT H ?_;clear H;intro w H;try simp only[nr]at H))|((with_reducible refine gL ?_);refine aD H ?_)))
   go_ret;exact⟨rfl,H.below⟩
  | ok y2 =>
   obtain⟨tb,gb⟩:=y2;rw[hprB]at hpB;clear hprB
   go_enter Tryd.func4,Tryd.ntmps4
   go_wp2_with (first|((with_reducible refine ch (haw _ H.below) H ?_);clear H;intro w H)|(go_at_call 6;(with_reducible refine zJd (hpA _ H.below) H ?_);clear H;intro w H)|(go_at_call 6;(with_reducible refine zJM (hpB _ H.below) H ?_);clear H;intro qb nb Fb w hFb H;simp only[ca]at H)|((first|((with_reducible refine kgA 5 ?_);refine kA 5 H ?_)|((with_reducible refine kgX 5 ?_);(first|refine kS 5 H ?_|refine kB 5 H ?_)));clear H;intro b5 w H;try simp only[nr]at H)|((first|((with_reducible refine kgA 7 ?_);refine kA 7 H ?_)|((with_reducible refine kgX 7 ?_);(first|refine kS 7 H ?_|refine kB 7 H ?_)));clear H;intro b7 w H;try simp only[nr]at H)|((first|((with_reducible refine kgA 11 ?_);refine kA 11 H ?_)|((with_reducible refine kgX 11 ?_);(first|refine kS 11 H ?_|refine kB 11 H ?_)));clear H;intro b11 w H;try simp only[nr]at H)|((first|((with_reducible refine kgA 15 ?_);refine kA 15 H ?_)|((with_reducible refine kgX 15 ?_);(first|refine kS 15 H ?_|refine kB 15 H ?_)));clear H;intro b15 w H;try simp only[nr]at H)|(first|((with_reducible refine gT ?_);(refine aT H ?_;clear H;intro w H;try simp only[nr]at H))|((with_reducible refine gL ?_);refine aD H ?_)))
   go_ret;exact⟨rfl,H.below⟩
 | ok y =>
  obtain⟨ta,ga⟩:=y;rw[hprA]at hpA;have hlA:=zJJ hprA
  cases hprB:zA7 B f with
  | error y2 =>
   obtain⟨a2,x2⟩:=y2;rw[hprB]at hpB;obtain⟨e1,_,_⟩:=zHE hprB;have d1:((x2:Int) != 0)=true:=by rw[bne_iff_ne];omega
   clear hprB hprA e1
   go_enter Tryd.func4,Tryd.ntmps4
   go_wp2_with (first|((with_reducible refine ch (haw _ H.below) H ?_);clear H;intro w H)|(go_at_call 6;(with_reducible refine zJM (hpA _ H.below) H ?_);clear H;intro qa na Fa w hFa H;simp only[ca]at H)|(go_at_call 6;(with_reducible refine zJd (hpB _ H.below) H ?_);clear H;intro w H)|((first|((with_reducible refine kgA 5 ?_);refine kA 5 H ?_)|((with_reducible refine kgX 5 ?_);(first|refine kS 5 H ?_|refine kB 5 H ?_)));clear H;intro b5 w H;try simp only[nr]at H)|((first|((with_reducible refine kgA 7 ?_);refine kA 7 H ?_)|((with_reducible refine kgX 7 ?_);(first|refine kS 7 H ?_|refine kB 7 H ?_)));clear H;intro b7 w H;try simp only[nr]at H)|((first|((with_reducible refine kgA 11 ?_);refine kA 11 H ?_)|((with_reducible refine kgX 11 ?_);(first|refine kS 11 H ?_|refine kB 11 H ?_)));clear H;intro b11 w H;try simp only[nr]at H)|((first|((with_reducible refine kgA 15 ?_);refine kA 15 H ?_)|((with_reducible refine kgX 15 ?_);(first|refine kS 15 H ?_|refine kB 15 H ?_)));clear H;intro b15 w H;try simp only[nr]at H)|(first|((with_reducible refine gT ?_);(refine aT H ?_;clear H;intro w H;try simp only[nr]at H))|((with_reducible refine gL ?_);refine aD H ?_)))
   go_ret;exact⟨rfl,H.below⟩
  | ok y2 =>
   obtain⟨tb,gb⟩:=y2;rw[hprB]at hpB;have hlB:=zJJ hprB;obtain⟨Z0,hZ0⟩:∃ Z,Z=A++B:=⟨_,rfl⟩;have hl0:Z0.length≤2000:=by rw[hZ0,List.length_append];omega
   have hcn:=fun w (hb:Below w0.heap.size w0 w)=>zKG Z0 [91,58] hl0 w (HZ.out.below hb)
   cases hca:Lib.contains Z0 [91,58] with
   | true =>
    rw[hca]at hcn;have K0:=Lib.hid hZ0;clear hprA hprB hca hZ0
    go_enter Tryd.func4,Tryd.ntmps4
    go_wp2_with (first|((with_reducible refine ch (haw _ H.below) H ?_);clear H;intro w H)|(go_at_call 6;(with_reducible refine zJM (hpA _ H.below) H ?_);clear H;intro qa na Fa w hFa H;simp only[ca]at H)|(go_at_call 6;(with_reducible refine zJM (hpB _ H.below) H ?_);clear H;intro qb nb Fb w hFb H;simp only[ca]at H)|((with_reducible refine gAd ?_);refine zAu wtd_ (zBn K0.out (by omega) rfl rfl rfl) ?_)|((with_reducible refine ch (hcn _ H.below) H ?_);clear H;intro w H)|((first|((with_reducible refine kgA 5 ?_);refine kA 5 H ?_)|((with_reducible refine kgX 5 ?_);(first|refine kS 5 H ?_|refine kB 5 H ?_)));clear H;intro b5 w H;try simp only[nr]at H)|((first|((with_reducible refine kgA 7 ?_);refine kA 7 H ?_)|((with_reducible refine kgX 7 ?_);(first|refine kS 7 H ?_|refine kB 7 H ?_)));clear H;intro b7 w H;try simp only[nr]at H)|((first|((with_reducible refine kgA 11 ?_);refine kA 11 H ?_)|((with_reducible refine kgX 11 ?_);(first|refine kS 11 H ?_|refine kB 11 H ?_)));clear H;intro b11 w H;try simp only[nr]at H)|((first|((with_reducible refine kgA 15 ?_);refine kA 15 H ?_)|((with_reducible refine kgX 15 ?_);(first|refine kS 15 H ?_|refine kB 15 H ?_)));clear H;intro b15 w H;try simp only[nr]at H)|(first|((with_reducible refine gT ?_);(refine aT H ?_;clear H;intro w H;try simp only[nr]at H))|((with_reducible refine gL ?_);refine aD H ?_)))
    go_ret;exact⟨rfl,H.below⟩
   | false =>
    rw[hca]at hcn;have hN:NoB (A++B):=hZ0 ▸ zQE hca;have wkA:=zHU hprA;have wkB:=zHU hprB;obtain⟨Z1,hZ1⟩:∃ Z,Z=[40,63,58]++A:=⟨_,rfl⟩;obtain⟨Z2,hZ2⟩:∃ Z,Z=Z1++[41,40,63,58]:=⟨_,rfl⟩;obtain⟨Z3,hZ3⟩:∃ Z,Z=Z2++B:=⟨_,rfl⟩;obtain⟨Z4,hZ4⟩:∃ Z,Z=Z3++[41]:=⟨_,rfl⟩;obtain⟨Z5,hZ5⟩:∃ Z,Z=Z1++[41,124,40,63,58]:=⟨_,rfl⟩;obtain⟨Z6,hZ6⟩:∃ Z,Z=Z5++B:=⟨_,rfl⟩;obtain⟨Z7,hZ7⟩:∃ Z,Z=Z6++[41]:=⟨_,rfl⟩
    obtain⟨Z8,hZ8⟩:∃ Z,Z=Z1++[41]:=⟨_,rfl⟩;obtain⟨Z9,hZ9⟩:∃ Z,Z=[40]++A:=⟨_,rfl⟩;obtain⟨Z10,hZ10⟩:∃ Z,Z=Z9++[41]:=⟨_,rfl⟩;obtain⟨tr,htr⟩:∃ t,t=numT ga tb:=⟨_,rfl⟩;obtain⟨tg,htg⟩:∃ t,t=numT 1 ta:=⟨_,rfl⟩;have bo1:zBv Z4 f (.mk {kind:=4} [ta,tr]) (ga+gb):=by rw[hZ4,hZ3,hZ2,hZ1,htr];exact zNK hN hprA hprB
    have bo2:zBv Z7 f (.mk {kind:=5} [ta,tr]) (ga+gb):=by rw[hZ7,hZ6,hZ5,hZ1,htr];exact zM7 hN hprA hprB
    have bo3:zBv Z8 f ta ga:=by rw[hZ8,hZ1];exact zMK hN hprA
    have bo4:∀ j,j<3→zBv (Z8++repS j) f (.mk (repD j) [ta]) ga:=fun j hj=>by rw[hZ8,hZ1];exact zNB hN hprA hj
    have bo5:zBv Z10 f (.mk {kind:=7,group:=1} [tg]) (ga+1):=by rw[hZ10,hZ9,htg];exact zND hN hprA
    have l1:Z1.length=A.length+3:=by rw[hZ1];simp
    have l2:Z2.length=A.length+7:=by rw[hZ2];simp;omega
    have l3:Z3.length=A.length+B.length+7:=by rw[hZ3];simp;omega
    have l5:Z5.length=A.length+8:=by rw[hZ5];simp;omega
    have l6:Z6.length=A.length+B.length+8:=by rw[hZ6];simp;omega
    have l8:Z8.length=A.length+4:=by rw[hZ8];simp;omega
    have l9:Z9.length=A.length+1:=by rw[hZ9];simp
    have sr:zBJ tr=zBJ tb:=by rw[htr,zG5]
    have sg:zBJ tg=zBJ ta:=by rw[htg,zG5]
    have hnr:=fun p c F w (h1:∀ b,F b→b<w.heap.size) (h2:ForestR w F p c tb.kids)=>zEZ ga (by omega) 2000 tb p _ c F w 0 gb wkB.2.2.1 (by omega) wkB.1 (Int.le_refl _) (by omega) h1 h2 rfl
    have hng:∀ (p:Option Addr) (c:Nat) (F:Nat→Prop) (w:World),(∀ b,F b→b<w.heap.size)→ForestR w F p c ta.kids→Calls Tryd.prog 12 #[zAf ta.d (.slice p ta.kids.length c),.int .i64 1] w fun e w'=>zFw w (fun _=>False) (numT 1 ta) e w'∧Below w.heap.size w w':=fun p c F w h1 h2=>zEZ 1 (by omega) 2000 ta p _ c F w 0 ga wkA.2.2.1 (by omega) wkA.1 (Int.le_refl _) (by omega) h1 h2 rfl
    rw[← htr]at hnr;rw[← htg]at hng;have hga:=wkA.2.1;have hgb:=wkB.2.1;have hsa:=wkA.2.2.1;have hsb:=wkB.2.2.1;have L1:=Lib.hid l1;have L2:=Lib.hid l2;have L3:=Lib.hid l3;have L5:=Lib.hid l5;have L6:=Lib.hid l6;have L8:=Lib.hid l8;have L9:=Lib.hid l9;have SR:=Lib.hid (And.intro sr sg);clear hprA hprB hca wkA wkB hN htr htg l1 l2 l3 l5 l6 l8 l9 sr sg;have K1:=Lib.hid hZ1;have K2:=Lib.hid hZ2;have K3:=Lib.hid hZ3;have K4:=Lib.hid hZ4;have K5:=Lib.hid hZ5;have K6:=Lib.hid hZ6;have K7:=Lib.hid hZ7;have K8:=Lib.hid hZ8;have K9:=Lib.hid hZ9;have K10:=Lib.hid hZ10
    have K0:=Lib.hid hZ0;clear hZ0;clear hZ1 hZ2 hZ3 hZ4 hZ5 hZ6 hZ7 hZ8 hZ9 hZ10
    go_enter Tryd.func4,Tryd.ntmps4
    go_upto_region 8 with (first|((with_reducible refine ch (haw _ H.below) H ?_);clear H;intro w H)|(go_at_call 6;(with_reducible refine zJM (hpA _ H.below) H ?_);clear H;intro qa na Fa w hFa H;simp only[ca]at H)|(go_at_call 6;(with_reducible refine zJM (hpB _ H.below) H ?_);clear H;intro qb nb Fb w hFb H;simp only[ca]at H)|((with_reducible refine gAd ?_);refine zAu wtd_ (zBn K0.out (by omega) rfl rfl rfl) ?_)|((with_reducible refine ch (hcn _ H.below) H ?_);clear H;intro w H)|(go_at_call 12;(with_reducible refine cht (hnr _ _ _ _ (H.knlt (i:=3) i_3) (H.kn (i:=3) i_3)) H Still.none ?_);clear H;intro qr mr Fr w hFr H)|((first|((with_reducible refine kgA 5 ?_);refine kA 5 H ?_)|((with_reducible refine kgX 5 ?_);(first|refine kS 5 H ?_|refine kB 5 H ?_)));clear H;intro b5 w H;try simp only[nr]at H)|((first|((with_reducible refine kgA 7 ?_);refine kA 7 H ?_)|((with_reducible refine kgX 7 ?_);(first|refine kS 7 H ?_|refine kB 7 H ?_)));clear H;intro b7 w H;try simp only[nr]at H)|((first|((with_reducible refine kgA 11 ?_);refine kA 11 H ?_)|((with_reducible refine kgX 11 ?_);(first|refine kS 11 H ?_|refine kB 11 H ?_)));clear H;intro b11 w H;try simp only[nr]at H)|((first|((with_reducible refine kgA 15 ?_);refine kA 15 H ?_)|((with_reducible refine kgX 15 ?_);(first|refine kS 15 H ?_|refine kB 15 H ?_)));clear H;intro b15 w H;try simp only[nr]at H)|(first|((with_reducible refine gT ?_);(refine aT H ?_;clear H;intro w H;try simp only[nr]at H))|((with_reducible refine gL ?_);refine aD H ?_)))
    have hna:NW A0 ta (zAf ta.d (.slice qa ta.kids.length na)) w:=⟨_,_,Fa,rfl,H.kn (i:=1) i_1,fun b hb=>⟨H.knlt (i:=1) i_1 b hb,trivial⟩⟩
    have hnr2:NW A0 tr (zAf tr.d (.slice qr tr.kids.length mr)) w:=⟨_,_,Fr,rfl,H.kn (i:=5) i_5,fun b hb=>⟨H.knlt (i:=5) i_5 b hb,trivial⟩⟩
    have hsz1:zBJ (.mk {kind:=4} [ta,tr])≤1000000:=by have:=SR.out.1;simp only[zBJ,zAw];omega
    have hsz2:zBJ (.mk {kind:=5} [ta,tr])≤1000000:=by have:=SR.out.1;simp only[zBJ,zAw];omega
    have hsz3:zBJ ta≤1000000:=by omega
    have HM:=Lib.hid H.below;refine zBq 44 [fun v _=>v=.string ⟨A.toArray⟩,fun v _=>v=.string ⟨Z1.toArray⟩,fun v _=>v=.string ⟨Z2.toArray⟩,fun v _=>v=.string ⟨B.toArray⟩,fun v _=>v=.string ⟨Z3.toArray⟩,fun v _=>v=.string ⟨Z4.toArray⟩,fun v _=>v=.agg (zEU f),fun v W=>NW A0 ta v W,fun v W=>NW A0 tr v W,fun v W=>KW A0 [ta,tr] v W,fun v W=>NW A0 (.mk {kind:=4} [ta,tr]) v W,fun v _=>v=.int .i64 (ga:Int),fun v _=>v=.int .i64 (gb:Int),fun v _=>v=.int .i64 ((ga+gb:Nat):Int),fun v _=>v=.bool true,fun v _=>v=.bool false,fun v _=>v=.bool false,fun v _=>v=.string ⟨A.toArray⟩,fun v _=>v=.string ⟨Z1.toArray⟩,fun v _=>v=.string ⟨Z5.toArray⟩,fun v _=>v=.string ⟨B.toArray⟩,fun v _=>v=.string ⟨Z6.toArray⟩,fun v _=>v=.string ⟨Z7.toArray⟩,fun v _=>v=.agg (zEU f),fun v W=>NW A0 ta v W,fun v W=>NW A0 tr v W,fun v W=>KW A0 [ta,tr] v W,fun v W=>NW A0 (.mk {kind:=5} [ta,tr]) v W,fun v _=>v=.int .i64 (ga:Int),fun v _=>v=.int .i64 (gb:Int),fun v _=>v=.int .i64 ((ga+gb:Nat):Int),fun v _=>v=.bool true,fun v _=>v=.bool false,fun v _=>v=.bool false,fun v _=>v=.bool false,fun v _=>v=.string ⟨A.toArray⟩,fun v _=>v=.string ⟨Z1.toArray⟩,fun v _=>v=.string ⟨Z8.toArray⟩,fun v _=>v=.agg (zEU f),fun v W=>NW A0 ta v W,fun v _=>v=.int .i64 (ga:Int),fun v _=>v=.bool true,fun v _=>v=.bool false,fun v _=>v=.bool false] (fun _=>false) (by kernel_rfl) (by kernel_rfl) (by kernel_rfl) (by repeat (first|exact trivial|refine⟨zBQ _,?_⟩|refine⟨zGs _,?_⟩|refine⟨zJQ _,?_⟩)) (fun _ _ h=>by cases h) ?ob ?en
    case ob =>
     refine⟨?_,?_,?_,?_,?_,?_,?_,?_,?_,?_,?_,?_,?_,?_,?_,?_,?_,?_,?_,?_,?_,?_,?_,?_,?_,?_,?_,?_,?_,?_,?_,?_,?_,?_,?_,?_,?_,?_,?_,?_,?_,?_,?_,?_,trivial⟩<;>intro A W h
     ·exact zAa rfl rfl (h.f 0)
     ·exact zAF rfl (zBn K1.out (by have:=L1.out;have:=L2.out;have:=L3.out;have:=L5.out;have:=L6.out;have:=L8.out;(try simp only[List.length_cons,List.length_nil]);omega) rfl rfl (h.d 0 52)) (by decide)
     ·exact zAF rfl (zBn K2.out (by have:=L1.out;have:=L2.out;have:=L3.out;have:=L5.out;have:=L6.out;have:=L8.out;(try simp only[List.length_cons,List.length_nil]);omega) rfl (h.d 1 53) rfl) (by decide)
     ·exact zAa rfl rfl (h.f 1)
     ·exact zAF rfl (zBn K3.out (by have:=L1.out;have:=L2.out;have:=L3.out;have:=L5.out;have:=L6.out;have:=L8.out;(try simp only[List.length_cons,List.length_nil]);omega) rfl (h.d 2 54) (h.d 3 55)) (by decide)
     ·exact zAF rfl (zBn K4.out (by have:=L1.out;have:=L2.out;have:=L3.out;have:=L5.out;have:=L6.out;have:=L8.out;(try simp only[List.length_cons,List.length_nil]);omega) rfl (h.d 4 56) rfl) (by decide)
     ·exact zAF rfl (zBc (n:=3) rfl (h.f 5) (by first|(with_reducible exact zAN)|(with_reducible exact zAh)|(with_reducible exact zA9)|(with_reducible exact zBe)) rfl (fun k _=>by rw[Nat.zero_add];exact(H.call h.below).cell (i:=0) .zero k)) (by decide)
     ·exact zDz rfl rfl (h.f 7) ((H.call h.below).blk (i:=2) i_2).2 (hna.below h.below)
     ·exact zDz rfl rfl (h.f 15) ((H.call h.below).blk (i:=6) i_6).2 (hnr2.below h.below)
     ·exact zGV rfl rfl (h.d 7 59) (h.d 8 60) (fun _ _=>trivial)
     ·exact zOP rfl rfl rfl (h.d 9 61)
     ·exact zAa rfl rfl (h.f 8)
     ·exact zAa rfl rfl (h.f 12)
     ·(have e63:A.eval (.tmp 63)=.int .i64 (ga:Int):=h.d 11 63;have e64:A.eval (.tmp 64)=.int .i64 (gb:Int):=h.d 12 64;refine zAF rfl ?_;simp only[execOp,e63,e64];(simp[go_sem]<;>first|done|omega|(rw[IntKind.wrap_i64];omega)|(rw[IntKind.wrap_u8];omega)|(rw[IntKind.wrap_u64];omega)))
     ·exact zGO rfl rfl (h.d 5 57) (h.d 6 58) (h.d 10 62) (h.d 13 65) bo1 hsz1 (HZ.out.below (H.call h.below).below)
     ·(have e66:A.eval (.tmp 66)=.bool true:=h.d 14 66;refine zAF rfl ?_;simp only[execOp,e66];(simp[go_sem]<;>first|done|omega|(rw[IntKind.wrap_i64];omega)|(rw[IntKind.wrap_u8];omega)|(rw[IntKind.wrap_u64];omega)))
     ·exact zAa rfl rfl (h.d 15 67)
     ·exact zAa (wg (h.d 16 68)) rfl (h.f 0)
     ·exact zAF (wg (h.d 16 68)) (zBn K1.out (by have:=L1.out;have:=L2.out;have:=L3.out;have:=L5.out;have:=L6.out;have:=L8.out;(try simp only[List.length_cons,List.length_nil]);omega) rfl rfl (h.d 17 69)) (by decide)
     ·exact zAF (wg (h.d 16 68)) (zBn K5.out (by have:=L1.out;have:=L2.out;have:=L3.out;have:=L5.out;have:=L6.out;have:=L8.out;(try simp only[List.length_cons,List.length_nil]);omega) rfl (h.d 18 70) rfl) (by decide)
     ·exact zAa (wg (h.d 16 68)) rfl (h.f 1)
     ·exact zAF (wg (h.d 16 68)) (zBn K6.out (by have:=L1.out;have:=L2.out;have:=L3.out;have:=L5.out;have:=L6.out;have:=L8.out;(try simp only[List.length_cons,List.length_nil]);omega) rfl (h.d 19 71) (h.d 20 72)) (by decide)
     ·exact zAF (wg (h.d 16 68)) (zBn K7.out (by have:=L1.out;have:=L2.out;have:=L3.out;have:=L5.out;have:=L6.out;have:=L8.out;(try simp only[List.length_cons,List.length_nil]);omega) rfl (h.d 21 73) rfl) (by decide)
     ·exact zAF (wg (h.d 16 68)) (zBc (n:=3) rfl (h.f 5) (by first|(with_reducible exact zAN)|(with_reducible exact zAh)|(with_reducible exact zA9)|(with_reducible exact zBe)) rfl (fun k _=>by rw[Nat.zero_add];exact(H.call h.below).cell (i:=0) .zero k)) (by decide)
     ·exact zDz (wg (h.d 16 68)) rfl (h.f 7) ((H.call h.below).blk (i:=2) i_2).2 (hna.below h.below)
     ·exact zDz (wg (h.d 16 68)) rfl (h.f 15) ((H.call h.below).blk (i:=6) i_6).2 (hnr2.below h.below)
     ·exact zGV (wg (h.d 16 68)) rfl (h.d 24 76) (h.d 25 77) (fun _ _=>trivial)
     ·exact zOP (wg (h.d 16 68)) rfl rfl (h.d 26 78)
     ·exact zAa (wg (h.d 16 68)) rfl (h.f 8)
     ·exact zAa (wg (h.d 16 68)) rfl (h.f 12)
     ·(have e80:A.eval (.tmp 80)=.int .i64 (ga:Int):=h.d 28 80;have e81:A.eval (.tmp 81)=.int .i64 (gb:Int):=h.d 29 81;refine zAF (wg (h.d 16 68)) ?_;simp only[execOp,e80,e81];(simp[go_sem]<;>first|done|omega|(rw[IntKind.wrap_i64];omega)|(rw[IntKind.wrap_u8];omega)|(rw[IntKind.wrap_u64];omega)))
     ·exact zGO (wg (h.d 16 68)) rfl (h.d 22 74) (h.d 23 75) (h.d 27 79) (h.d 30 82) bo2 hsz2 (HZ.out.below (H.call h.below).below)
     ·(have e83:A.eval (.tmp 83)=.bool true:=h.d 31 83;refine zAF (wg (h.d 16 68)) ?_;simp only[execOp,e83];(simp[go_sem]<;>first|done|omega|(rw[IntKind.wrap_i64];omega)|(rw[IntKind.wrap_u8];omega)|(rw[IntKind.wrap_u64];omega)))
     ·exact zME rfl rfl (h.d 16 68) (h.d 32 84)
     ·exact zAa rfl rfl (h.d 33 85)
     ·exact zAa (wg (h.d 34 86)) rfl (h.f 0)
     ·exact zAF (wg (h.d 34 86)) (zBn K1.out (by have:=L1.out;have:=L2.out;have:=L3.out;have:=L5.out;have:=L6.out;have:=L8.out;(try simp only[List.length_cons,List.length_nil]);omega) rfl rfl (h.d 35 87)) (by decide)
     ·exact zAF (wg (h.d 34 86)) (zBn K8.out (by have:=L1.out;have:=L2.out;have:=L3.out;have:=L5.out;have:=L6.out;have:=L8.out;(try simp only[List.length_cons,List.length_nil]);omega) rfl (h.d 36 88) rfl) (by decide)
     ·exact zAF (wg (h.d 34 86)) (zBc (n:=3) rfl (h.f 5) (by first|(with_reducible exact zAN)|(with_reducible exact zAh)|(with_reducible exact zA9)|(with_reducible exact zBe)) rfl (fun k _=>by rw[Nat.zero_add];exact(H.call h.below).cell (i:=0) .zero k)) (by decide)
     ·exact zDz (wg (h.d 34 86)) rfl (h.f 7) ((H.call h.below).blk (i:=2) i_2).2 (hna.below h.below)
     ·exact zAa (wg (h.d 34 86)) rfl (h.f 8)
     ·exact zGO (wg (h.d 34 86)) rfl (h.d 37 89) (h.d 38 90) (h.d 39 91) (h.d 40 92) bo3 hsz3 (HZ.out.below (H.call h.below).below)
     ·(have e93:A.eval (.tmp 93)=.bool true:=h.d 41 93;refine zAF (wg (h.d 34 86)) ?_;simp only[execOp,e93];(simp[go_sem]<;>first|done|omega|(rw[IntKind.wrap_i64];omega)|(rw[IntKind.wrap_u8];omega)|(rw[IntKind.wrap_u64];omega)))
     ·exact zME rfl rfl (h.d 34 86) (h.d 42 94)
    case en =>
     intro vals W hbw hv _;have x7:=hv 7 (by omega);simp only[zAq]at x7
     have x8:=hv 8 (by omega);simp only[zAq]at x8
     have x9:=hv 9 (by omega);simp only[zAq]at x9
     have x10:=hv 10 (by omega);simp only[zAq]at x10
     have x24:=hv 24 (by omega);simp only[zAq]at x24
     have x25:=hv 25 (by omega);simp only[zAq]at x25
     have x26:=hv 26 (by omega);simp only[zAq]at x26
     have x27:=hv 27 (by omega);simp only[zAq]at x27
     have x39:=hv 39 (by omega);simp only[zAq]at x39
     simp only[fa,Nat.reduceAdd];rw[e_ hv 0,e_ hv 1,e_ hv 2,e_ hv 3,e_ hv 4,e_ hv 5,e_ hv 6,e_ hv 11,e_ hv 12,e_ hv 13,e_ hv 14,e_ hv 15,e_ hv 16,e_ hv 17,e_ hv 18,e_ hv 19,e_ hv 20,e_ hv 21,e_ hv 22,e_ hv 23,e_ hv 28,e_ hv 29,e_ hv 30,e_ hv 31,e_ hv 32,e_ hv 33,e_ hv 34,e_ hv 35,e_ hv 36,e_ hv 37,e_ hv 38,e_ hv 40,e_ hv 41,e_ hv 42,e_ hv 43];clear hv
     try simp only[pl]
     replace H:=H.call hbw;clear x7 x8 x9 x10 x24 x25 x26 x27 x39 hna hnr2 hsz1 hsz2 HM bo1 bo2 bo3 hcn hpA hpB hnr hbw
     go_upto_region 12 with (first|(go_at_call 12;(with_reducible refine cht (hng _ _ _ _ (H.knlt (i:=1) i_1) (H.kn (i:=1) i_1)) H Still.none ?_);clear H;intro qg mg Fg w hFg H)|((with_reducible refine gZ ?_);refine nbJ ?_)|((with_reducible refine gZ ?_);refine nbP ?_)|((with_reducible refine gZ ?_);refine nbQ ?_)|((with_reducible refine gZ ?_);refine nbT ?_)|((with_reducible refine gBS ?_);refine zBb wtd_ _ _ _ rfl H (zAH (tg.d) (.slice qg tg.kids.length mg)) 31 (by intro W;simp only[ml];(try simp only[pe]);exact zDT _ _ W) ?_;clear H;intro bk w H;try simp only[nr]at H)|((with_reducible refine gBS ?_);refine zBb wtd_ _ _ _ rfl H (([zAf {kind:=6,hi := -1} nilS,zAf {kind:=6,lo:=1,hi := -1,lazy:=true} nilS,zAf {kind:=6,lo:=2,hi:=5} nilS].flatMap fun v=>v.cells.toList).toArray) 31 (by intro W;simp only[ml];(try simp only[pe]);exact zL0 _ _ _ _ _ _ W) ?_;clear H;intro bm w H;try simp only[nrl]at H)|((first|((with_reducible refine kgA 16 ?_);refine kA 16 H ?_)|((with_reducible refine kgX 16 ?_);(first|refine kS 16 H ?_|refine kB 16 H ?_)));clear H;intro b16 w H;try simp only[nr]at H)|(first|((with_reducible refine gT ?_);(refine aT H ?_;clear H;intro w H;try simp only[nr]at H))|((with_reducible refine gL ?_);refine aD H ?_)))
     have hbk:∀ V:World,(∀ b,(b=bk∨Fg b)→V.heap[b]?=w.heap[b]?)→ForestR V (fun b=>b=bk∨Fg b) (some ⟨bk,0,none⟩) 1 [tg]:=fun V hV=>zDO (xs:=[(tg,qg,mg)]) ((hV bk (.inl rfl)).trans (H.blk (i:=8) i_8).2) (by simp[zAQ,zAj]) (by simp) (ListR.one ((H.kn (i:=7) i_7).kept fun b hb=>hV b (.inr hb)))
     have H2:=(H.rest (i:=8) i_8 (fun _=>True) (fun _ _=>trivial)).also (fun b=>b=bk∨Fg b) (fun V=>ForestR V (fun b=>b=bk∨Fg b) (some ⟨bk,0,none⟩) 1 [tg]) (fun b hb=>hb.elim (fun e=>⟨8,_,rfl,rfl,by subst e;rfl⟩) (fun h=>⟨7,_,rfl,rfl,h⟩)) hbk
     have H3:=H2.pick [0,1,2,11,9,10] [_,_,_,_,_,_] (by decide) rfl
     clear H H2 hbk;have H:=H3;clear H3;obtain⟨cs0,hcs0⟩:∃ cs,cs=(([zAf {kind:=6,hi := -1} nilS,zAf {kind:=6,lo:=1,hi := -1,lazy:=true} nilS,zAf {kind:=6,lo:=2,hi:=5} nilS].flatMap fun v=>v.cells.toList).toArray):=⟨_,rfl⟩
     rw[← hcs0]at H;have hrc:RepC cs0:=hcs0 ▸ zLZ;clear hcs0
     go_wp2_with fail
     go_loopw [18] (fun ix wr=>∃ (j:Nat) (cs:Array Value),j≤3∧ix=.int .i64 j∧Hid (RepC cs)∧Hold w0 wr [.blk b5 (zEU f) 23,.kn Fa (fun V=>ForestR V Fa qa na ta.kids),.blk b7 (zAH ta.d (.slice qa ta.kids.length na)) 31,.kn (fun b=>b=bk∨Fg b) (fun V=>ForestR V (fun b=>b=bk∨Fg b) (some ⟨bk,0,none⟩) 1 [tg]),.blk b16 (zAH {kind:=7,group:=1} (.slice (some ⟨bk,0,none⟩) 1 1)) 31,.blk bm cs 31]) (fun ix _=>4 - (intOf ix).toNat)
     case atStart=>exact⟨0,cs0,by omega,rfl,Lib.hid hrc,H⟩
     case round =>
      clear H hrc;obtain⟨j,cs,hj,rfl,HR,H⟩:=hrel
      by_cases hlt:j<3
      ·have dj:decide ((j:Int)<3)=true:=decide_eq_true (by omega)
       go_upto_region 16 with (first|((with_reducible refine gBS ?_);refine zBb wtd_ _ _ _ rfl H (zAH (ta.d) (.slice qa ta.kids.length na)) 31 (by intro W;simp only[ml];(try simp only[pe]);exact zDT _ _ W) ?_;clear H;intro bq w H;try simp only[nr]at H)|((with_reducible refine gT ?_);refine zAD wtd_ _ _ _ rfl (k:=j * 10+5) (by simp only[pe]) evd_ H (i:=5) i_5 rfl (by rw[HR.out.1];omega) (by with_reducible exact zAA zAI) ?_;clear H;intro w H;try simp only[nr]at H)|((with_reducible refine gL ?_);refine aD H ?_))
       have hst:=HR.out.store hlt (.slice (some ⟨bq,0,none⟩) 1 1);obtain⟨cs2,hcs2⟩:∃ c,c=cs.setIfInBounds (j * 10+5) (.slice (some ⟨bq,0,none⟩) 1 1):=⟨_,rfl⟩;rw[← hcs2]at H hst;have hnq:NW A0 (.mk (repD j) [ta]) (zAf (repD j) (.slice (some ⟨bq,0,none⟩) 1 1)) w:=by
        refine⟨_,1,fun b=>b=bq∨Fa b,rfl,zDO (xs:=[(ta,qa,na)]) (H.blk (i:=6) i_6).2 (by simp[zAQ,zAj]) (by simp) (ListR.one (H.kn (i:=1) i_1)),fun b hb=>⟨hb.elim (fun e=>by subst e;exact(Array.getElem?_eq_some_iff.1 (H.blk (i:=6) i_6).2).1) (H.knlt (i:=1) i_1 b),trivial⟩⟩
       obtain⟨ZR,hZR⟩:∃ Z,Z=Z8++repS j:=⟨_,rfl⟩;have boj:=bo4 j hlt;rw[← hZR]at boj;have KR:=Lib.hid hZR;have hrl:=zNa j;have hsz:zBJ (.mk (repD j) [ta])≤1000000:=by simp only[zBJ,zAw];omega
       clear HR hcs2 hZR;refine zBq 16 [fun v _=>v=.string ⟨A.toArray⟩,fun v _=>v=.string ⟨Z1.toArray⟩,fun v _=>v=.string ⟨Z8.toArray⟩,StrW,fun v _=>v=.int .i64 (j:Int),StrP j,fun v _=>v=.string ⟨(repS j).toArray⟩,fun v _=>v=.string ⟨ZR.toArray⟩,fun v _=>v=.agg (zEU f),fun v _=>v=.slice (some ⟨bm,0,none⟩) 3 3,fun v _=>v=.int .i64 (j:Int),fun v _=>v=.pointer (some ⟨bm,j * 10,none⟩),fun v W=>NW A0 (.mk (repD j) [ta]) v W,fun v _=>v=.int .i64 (ga:Int),fun v _=>v=.bool true,fun v _=>v=.bool false] (fun _=>false) (by kernel_rfl) (by kernel_rfl) (by kernel_rfl) (by repeat (first|exact trivial|refine⟨zBQ _,?_⟩|refine⟨zJj,?_⟩|refine⟨zJ0 j,?_⟩|refine⟨zGs _,?_⟩)) (fun _ _ h=>by cases h) ?ob ?en
       case ob =>
        refine⟨?_,?_,?_,?_,?_,?_,?_,?_,?_,?_,?_,?_,?_,?_,?_,?_,trivial⟩<;>intro A W h
        ·exact zAa rfl rfl (h.f 0)
        ·exact zAF rfl (zBn K1.out (by have:=L1.out;have:=L8.out;(try simp only[List.length_cons,List.length_nil]);omega) rfl rfl (h.d 0 114)) (by decide)
        ·exact zAF rfl (zBn K8.out (by have:=L1.out;have:=L8.out;(try simp only[List.length_cons,List.length_nil]);omega) rfl (h.d 1 115) rfl) (by decide)
        ·exact zNN rfl rfl
        ·exact zAa rfl rfl (h.f 18)
        ·exact zPW rfl rfl (h.d 3 117) (h.d 4 118) hlt
        ·exact zAF rfl (zNR rfl (h.d 5 119) hlt) (by decide)
        ·exact zAF rfl (zBn KR.out (by have:=L8.out;omega) rfl (h.d 2 116) (h.d 6 120)) (by decide)
        ·exact zAF rfl (zBc (n:=3) rfl (h.f 5) (by first|(with_reducible exact zAN)|(with_reducible exact zAh)|(with_reducible exact zA9)|(with_reducible exact zBe)) rfl (fun k _=>by rw[Nat.zero_add];exact(H.call h.below).cell (i:=0) .zero k)) (by decide)
        ·exact zAa rfl rfl (h.f 17)
        ·exact zAa rfl rfl (h.f 18)
        ·exact zAF rfl (zNe Tryd.underlying29 (fun w=>by kernel_rfl) rfl (h.d 9 123) (h.d 10 124) hlt) (by decide)
        ·exact zJn rfl (zBc rfl (h.d 11 125) zAN rfl (fun k hk=>((H.call h.below).cell (i:=5) i_5 (j * 10+k)).trans (hst.2 k hk))) (hnq.below h.below)
        ·exact zAa rfl rfl (h.f 8)
        ·exact zGO rfl rfl (h.d 7 121) (h.d 8 122) (h.d 12 126) (h.d 13 127) boj hsz (HZ.out.below (H.call h.below).below)
        ·(have e128:A.eval (.tmp 128)=.bool true:=h.d 14 128;refine zAF rfl ?_;simp only[execOp,e128];(simp[go_sem]<;>first|done|omega|(rw[IntKind.wrap_i64];omega)|(rw[IntKind.wrap_u8];omega)|(rw[IntKind.wrap_u64];omega)))
       case en =>
        intro vals W hbw hv _;have x3:=hv 3 (by omega);simp only[zAq]at x3
        have x5:=hv 5 (by omega);simp only[zAq]at x5
        have x12:=hv 12 (by omega);simp only[zAq]at x12
        simp only[fa,Nat.reduceAdd];rw[e_ hv 0,e_ hv 1,e_ hv 2,e_ hv 4,e_ hv 6,e_ hv 7,e_ hv 8,e_ hv 9,e_ hv 10,e_ hv 11,e_ hv 13,e_ hv 14,e_ hv 15];clear hv
        try simp only[pl]
        replace H:=(H.call hbw).pick [0,1,2,3,4,5] [_,_,_,_,_,_] (by decide) rfl
        clear x3 x5 x12
        go_wp2_with (first|fail)
        go_roundw
        case rel=>exact⟨j+1,cs2,by omega,by go_num,Lib.hid hst.1,H⟩
        case measure=>simp[intOf];omega
      ·obtain rfl:j=3:=by omega
       have dj:decide (((3:Nat):Int)<3)=false:=rfl;have hsg:zBJ (.mk {kind:=7,group:=1} [tg])≤1000000:=by have:=SR.out.2;simp only[zBJ,zAw];omega
       have hb5:∀ w,Below w0.heap.size w0 w→(∀ b,(b=bk∨Fg b)→b<w.heap.size)→ForestR w (fun b=>b=bk∨Fg b) (some ⟨bk,0,none⟩) 1 [tg]→Calls Tryd.prog 13 #[.string ⟨Z10.toArray⟩,zDL f,zAf {kind:=7,group:=1} (.slice (some ⟨bk,0,none⟩) 1 1),.int .i64 ((ga:Int)+1)] w (Rt (.bool true) w):=fun w hb h1 h2=>zI9 Z10 f (.mk {kind:=7,group:=1} [tg]) (ga+1) bo5 hsg (some ⟨bk,0,none⟩) 1 (fun b=>b=bk∨Fg b) w (HZ.out.below hb) h1 h2
       clear hsg bo4 bo5 SR HR
       go_wp2_with (first|((with_reducible refine gAd ?_);(first|refine zAu wtd_ (zBn K9.out (by (try simp only[List.length_cons,List.length_nil]);omega) rfl rfl rfl) ?_|refine zAu wtd_ (zBn K10.out (by have:=L9.out;(try simp only[List.length_cons,List.length_nil]);omega) rfl rfl rfl) ?_))|((with_reducible refine ch (hb5 _ H.below (H.knlt (i:=3) i_3) (H.kn (i:=3) i_3)) H ?_);clear H;intro w H)|((with_reducible refine gL ?_);refine aD H ?_))
       go_ret;exact⟨rfl,H.below⟩
end
end Go.Proofs.YtklcgfkdemifcaaDoor
namespace Go.Proofs.YtklcgfkdemifcaaDoor.laidUp
open Go.ChangeShapes Go.WideShapes Go.ChangeAt Go.RowKit
set_option linter.unusedVariables false
section
variable {H:Type} {enc:TypeId × Value→H}
theorem handed_laid {a:Assume} {C:Checked} {os:Os} {f:FuncId} {fn:Func} {s:ChangeSpec} {conds:List PathCond} {apart fresh handsOn again:Bool} {X:World→Array Value→Prop}
  (hX:∀ (w w':World) (args:Array Value),w.heap=w'.heap→X w args→X w' args)
  (own:ownKnob C.prog.godebug=none) (started:os.Started) (noInit:C.prog.inits.idxOf? f=none) (hfn:C.prog.funcs[f]?=some fn)
  (witness:∃ (w:World) (tape:Tape) (i:Input),w.os=os∧(w.forCall tape i).Shaped C.prog∧i.vars=[]∧Input.okWide C.prog (w.forCall tape i) .any w.heap.size f i ∧
   ((s.pre enc C.prog fn conds apart (w.forCall tape i).memory i.args∧X (w.forCall tape i).memory i.args)∧sizedMet enc C.prog fn (OpenSpec.ofChange s) apart (w.forCall tape i).memory i.args)∧a.holds C.prog (lone (Frame.enter C.prog f i.args .normal) [] (w.forCall tape i)))
  (contract:∀ (W:World) (base:Nat) (args:Array Value) (ds gs:List (DataW H)) (before:List MemPlace),
   (∀ (j:Nat) t v,fn.params[j]?=some t→args[j]?=some v→Value.okWide C.prog W .any base t v) →
   DataW.Whole enc C.prog fn.params.toList s.vars apart W args.toList ds gs before→W.ShapedOpen C.prog →
   (DataW.weightsEach C.prog (fn.params.toList++(OpenSpec.ofChange s).bare.plain.varTypes C.prog) (ds++gs)).all (·≤reachBytes)=true →
   Calls C.prog f args W fun e W'=>∃ v,e=.returned v∧s.post enc C.prog fn apart fresh handsOn again W args v W') :
  ReturnsInHanded a C os f .any (fun w args=>(s.pre enc C.prog fn conds apart w args∧X w args)∧sizedMet enc C.prog fn (OpenSpec.ofChange s) apart w args) (s.post enc C.prog fn apart fresh handsOn again):=by
 refine returnsInHanded_of_calls own started noInit witness ?_
 intro w tape i _ hsh _ hok hpre _;obtain⟨_,_,_,fn',hfn',_,_,_,_,hval⟩:=hok;have e:fn'=fn:=Option.some.inj (hfn'.symm.trans hfn);subst e;obtain⟨⟨⟨ds,gs,before,hw,_⟩,_⟩,hsz⟩:=hpre;have hw':=DataW.Whole.of_heap (w':=w.forCall tape i) (by rfl) hw
 refine(contract (w.forCall tape i) w.heap.size i.args ds gs before hval hw' hsh (hsz.weights hw)).mono fun e W' ⟨v,he,hp⟩=>?_
 subst he;exact ChangeSpec.post_blind hp
end
theorem own:ownKnob Tryd.prog.godebug=none:=by kernel_rfl
theorem maxL {W:World} (h:W.ShapedOpen Tryd.prog):MaxL W :=
 cell_of_shapedOpen_int (g:=0) (t:=3) (zero:=#[.int .i64 0]) h (of_decide_eq_true (by kernel_rfl)) (by kernel_rfl) rfl (by kernel_rfl) (by kernel_rfl) Tryd.underlying3
end Go.Proofs.YtklcgfkdemifcaaDoor.laidUp
namespace Go.Proofs.YtklcgfkdemifcaaDoor
section
open Go.ChangeShapes Go.WideShapes Go.ChangeAt Go.RowKit
theorem zJL:(Tryd.prog.underlying 23).map (fun d=>match d with|.struct fs=>fs.map (fun f=>(f.type,f.offset))|_=>#[])=some #[(4,0),(4,1),(4,2)]:=by kernel_rfl
theorem zJK:∃ fs:Array Field,Tryd.prog.underlying 23=some (.struct fs)∧fs.map (fun f=>(f.type,f.offset))=#[(4,0),(4,1),(4,2)]:=by
 have h:=zJL
 cases hu:Tryd.prog.underlying 23 with
 | none=>rw[hu]at h;cases h
 | some d =>
  rw[hu]at h;simp only[Option.map_some,Option.some.injEq]at h
  cases d with
  | struct fs=>exact⟨fs,rfl,h⟩
  | _=>simp at h
theorem zLS {H:Type} {enc:TypeId × Value→H} {W:World} {r:Reach} {b0:Nat} {v:Value} {d:DataW H} {p:List MemPlace} (hv:Value.okWide Tryd.prog W r b0 23 v)
  (h:DataW.Trod enc Tryd.prog W 0 (fun _=>true) true 23 v d p):∃ f:zAW,v=zDL f:=by
 obtain⟨fs,hu,hfs⟩:=zJK;obtain⟨cs,rfl,h3⟩:=okWide_struct hu hv;have h3:cs.size=3:=by rw[h3];kernel_rfl
 obtain⟨fuel,hf⟩:=h;obtain⟨xs,n,_,_,hl,hlen,hg⟩:=DataW.trod_struct hu hf;have get:∀ (i:Nat) (t off k:Nat),(#[(4,0),(4,1),(4,2)]:Array (TypeId × Nat))[i]?=some (t,off)→Tryd.prog.cellsOf t=k→∃ y,DataW.trod enc Tryd.prog W 0 (fun _=>true) true n t (((Value.agg cs).cells.toList.drop off).take k)=some y:=by
  intro i t off k hi hk;rw[← hfs,Array.getElem?_map]at hi;obtain⟨f,hfi,he⟩:=Option.map_eq_some_iff.1 hi;simp only[Prod.mk.injEq]at he;have h1:=hg i f hfi;rw[he.1,he.2,hk]at h1;have hi6:i<xs.length:=by rw[hlen];exact(Array.getElem?_eq_some_iff.1 hfi).1
  exact⟨xs[i],by rw[h1,List.getElem?_eq_getElem hi6]⟩
 obtain⟨y0,g0⟩:=get 0 4 0 1 rfl (by kernel_rfl)
 obtain⟨y1,g1⟩:=get 1 4 1 1 rfl (by kernel_rfl)
 obtain⟨y2,g2⟩:=get 2 4 2 1 rfl (by kernel_rfl)
 obtain⟨a,e0,_⟩:=DataW.trod_bool Tryd.underlying4 g0;obtain⟨b,e1,_⟩:=DataW.trod_bool Tryd.underlying4 g1;obtain⟨c,e2,_⟩:=DataW.trod_bool Tryd.underlying4 g2;refine⟨(a,b,c),?_⟩
 obtain⟨l⟩:=cs;simp only[Value.cells]at e0 e1 e2
 match l,h3 with
 | [x0,x1,x2],_ =>
  simp at e0 e1 e2;subst e0 e1 e2;rfl
end
end Go.Proofs.YtklcgfkdemifcaaDoor
