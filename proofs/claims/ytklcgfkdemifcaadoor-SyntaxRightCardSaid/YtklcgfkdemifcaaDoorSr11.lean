/-
  Laws of walks, and walks.
-/
import Derived.Test.YtklcgfkdemifcaaDoorSr10
import Derived.Test.YtklcgfkdemifcaaDoorSr5
import Derived.Test.YtklcgfkdemifcaaDoorSr8
import Derived.Shelf.Strings.SlTrimAscii
import Derived.Laws.IdiomStrings
set_option linter.unusedVariables false
set_option linter.unusedSimpArgs false
set_option maxRecDepth 100000
set_option maxHeartbeats 16000000
namespace Go.Proofs.YtklcgfkdemifcaaDoor
section
open Go.RowKit Go.Shelf Go.MapKept
attribute [local go_sem] Oper.semAt_some
def thR (L:Str) (i:Nat):Except Nat (Value × Nat):=match zEV L i with|some (b,e)=>.ok (.int .u8 b,e)|none=>.error 4
theorem zFS (rb:Nat) (L:Str) (k:Nat) (U:TypeId) (hL:L.length≤2000) (hi:k+1≤L.length) {b j:Nat} (hx:escP L k=some (b,j)) (w0:World) (hr:w0.heap[rb]?=some (.cells (rdC L (k+1)) U (0,0))) :
  Calls Tryd.prog 69 #[ptrV rb] w0 (zAz rb L U w0 (.ok (.int .u8 b,j))):=by
 have:=zIC rb L k U hL hi w0 hr;unfold escR at this
 rwa [hx]at this
theorem zFT (rb:Nat) (L:Str) (k:Nat) (U:TypeId) (hL:L.length≤2000) (hi:k+1≤L.length) (hx:escP L k=none) (w0:World) (hr:w0.heap[rb]?=some (.cells (rdC L (k+1)) U (0,0))) :
  Calls Tryd.prog 69 #[ptrV rb] w0 (zAz rb L U w0 (.error 4)):=by
 have:=zIC rb L k U hL hi w0 hr;unfold escR at this
 rwa [hx]at this
theorem zM5 (rb:Nat) (L:Str) (i:Nat) (U:TypeId) (hL:L.length≤2000) (hi:i≤L.length) (w0:World) (hr:w0.heap[rb]?=some (.cells (rdC L i) U (0,0))) :
  Calls Tryd.prog 82 #[ptrV rb] w0 (zAz rb L U w0 (thR L i)):=by
 have H:=HoldG.startB hr;unfold thR zEV
 by_cases hlt:i<L.length
 ·rw[if_pos hlt];have hb:=zDy L i
  by_cases h92:byt L i=92
  ·rw[if_pos h92];have d92:(((byt L i:Nat):Int) == 92)=true:=by rw[beq_iff_eq];omega
   clear h92
   cases hx:escP L i with
   | none =>
    go_enter Tryd.func82,Tryd.ntmps82
    go_wp2_with (first|fail|(go_at_call 54;(with_reducible refine(zAI rb L i U hL hlt _ (H.blk .zero).2).mono ?_);rintro e w ⟨hk,rfl,hr⟩;replace H:=H.callBut atd_ hk hr;clear hk hr;try simp only[nr]at H)|(go_at_call 69;(with_reducible refine(zFT rb L i U hL (by omega) hx _ (H.blk .zero).2).mono ?_);rintro e w ⟨hk,rfl⟩;exact⟨rfl,H.keep.trans (hk.mono H.keep.size (fun _ _ m=>m)),rfl⟩))
   | some p =>
    obtain⟨b,j⟩:=p
    go_enter Tryd.func82,Tryd.ntmps82
    go_wp2_with (first|fail|(go_at_call 54;(with_reducible refine(zAI rb L i U hL hlt _ (H.blk .zero).2).mono ?_);rintro e w ⟨hk,rfl,hr⟩;replace H:=H.callBut atd_ hk hr;clear hk hr;try simp only[nr]at H)|(go_at_call 69;(with_reducible refine(zFS rb L i U hL (by omega) hx _ (H.blk .zero).2).mono ?_);rintro e w ⟨hk,rfl,hr⟩;replace H:=H.callBut atd_ hk hr;clear hk hr;try simp only[nr]at H))
    go_ret;exact⟨H.keep,rfl,(H.blk .zero).2⟩
  ·rw[if_neg h92];have d92:(((byt L i:Nat):Int) == 92)=false:=by rw[beq_eq_false_iff_ne];omega
   clear h92
   go_enter Tryd.func82,Tryd.ntmps82
   go_wp2_with (first|fail|(go_at_call 54;(with_reducible refine(zAI rb L i U hL hlt _ (H.blk .zero).2).mono ?_);rintro e w ⟨hk,rfl,hr⟩;replace H:=H.callBut atd_ hk hr;clear hk hr;try simp only[nr]at H))
   go_ret;exact⟨H.keep,rfl,(H.blk .zero).2⟩
 ·rw[if_neg hlt]
  go_enter Tryd.func82,Tryd.ntmps82
  go_wp2_with (first|fail|(go_at_call 54;(with_reducible refine(zEH rb L i U hL hi hlt _ (H.blk .zero).2).mono ?_);rintro e w ⟨hk,rfl⟩;exact⟨rfl,H.keep.trans (hk.mono H.keep.size (fun _ _ m=>m)),rfl⟩))
theorem zCr (rb:Nat) (L:Str) (i:Nat) (U:TypeId) (hL:L.length≤2000) (hi:i≤L.length) {b j:Nat} (hx:zEV L i=some (b,j)) (w0:World) (hr:w0.heap[rb]?=some (.cells (rdC L i) U (0,0))) :
  Calls Tryd.prog 82 #[ptrV rb] w0 (zAz rb L U w0 (.ok (.int .u8 b,j))):=by
 have:=zM5 rb L i U hL hi w0 hr;unfold thR at this
 rwa [hx]at this
theorem zH9 (rb:Nat) (L:Str) (i:Nat) (U:TypeId) (hL:L.length≤2000) (hi:i≤L.length) (hx:zEV L i=none) (w0:World) (hr:w0.heap[rb]?=some (.cells (rdC L i) U (0,0))) :
  Calls Tryd.prog 82 #[ptrV rb] w0 (zAz rb L U w0 (.error 4)):=by
 have:=zM5 rb L i U hL hi w0 hr;unfold thR at this
 rwa [hx]at this
def zII (L:Str) (i:Nat):Option (Nat→Nat):=if byt L i=92∧i+1<L.length then zEt (byt L (i+1)) else none
def zF8 (L:Str) (i:Nat):Value × Nat:=match zII L i with|some s=>(.tuple #[setV s,.bool true],i+2)|none=>(.tuple #[setV zAF,.bool false],i)
theorem zFw {L T:Str} {i:Nat} (hT:L.drop i=T) (j:Nat):byt T j=byt L (i+j):=by
 subst hT;unfold byt;simp[List.getD_eq_getElem?_getD]
theorem zJI {L T:Str} {i:Nat} (hT:L.drop i=T):T.length=L.length - i:=by subst hT;simp
def zFm (n0:Nat) (v:Value) (w:World):Prop:=∃ mb es c,v=.map (some mb)∧n0≤mb∧w.heap[mb]?=some (.map es c)∧zFo (.int .u8) zBd es
theorem zFF (n0:Nat):zDZ (zFm n0):=fun _ _ _ ⟨mb,es,c,e,h0,h1,h2⟩ hb=>⟨mb,es,c,e,h0,(hb.block mb (Array.getElem?_eq_some_iff.1 h1).1).trans h1,h2⟩
theorem zJU {ops:Array Oper} {o:Oper} {a:Act} {w:World} {ts:Array TypeId} {n0:Nat} (hn:n0≤w.heap.size) (hg:Region.wanted o (yielded ops a.tmps)=true)
  (hop:o.op=Op.call {callee:=Callee.value (Operand.func 77),args:=#[],argTypes:=ts}) {D:Prop} (hD:¬ D):zBK Tryd.prog ops o a w (fun v w'=>zFm n0 v w'∧(D→w.heap.size≤blk v)) :=
 zD1 hg hop (enters_of Tryd.func77 (by kernel_rfl) rfl) zNv ((zMC w).mono fun _ _ ⟨⟨mb,es,c,e,h0,h1,h2⟩,hb⟩=>⟨_,e,hb,⟨mb,es,c,rfl,Nat.le_trans hn h0,h1,h2⟩,fun h=>(hD h).elim⟩)
def zOY:Option (Nat→Nat)→Value|some s=>.tuple #[setV s,.bool true]|none=>.tuple #[setV zAF,.bool false]
theorem zHa (W:World):(zeroValue 28).run Tryd.prog W=.ok (setV zAF) W:=by kernel_rfl
theorem zHm (c:Nat):zBd (.int .u8 c)=(zEt c).map setV:=by simp[zBd]
theorem zFz {ops:Array Oper} {o:Oper} {a:Act} {w:World} {x y:Operand} {c:Nat} {D:Prop} {n0:Nat} (hg:Region.wanted o (yielded ops a.tmps)=true) (hop:o.op=Op.lookup 131 x y true)
  (hx:zFm n0 (a.eval x) w) (hy:a.eval y=.int .u8 c) {u:Value} (hu:zOY (zEt c)=u) (hD:¬ D):zBK Tryd.prog ops o a w (fun v _=>v=u∧(D→w.heap.size≤blk v)):=by
 subst hu;obtain⟨mb,es,c',e,_,h1,h2⟩:=hx;refine zAB hg ?_ hD
 cases hs:zEt c with
 | some s =>
  simp only[execOp,hop,hy,e,Sem.run_bind,zGB Tryd.underlying131 Tryd.underlying5 h1 h2 (show IsKey (.int .u8) (.int .u8 (c:Int)) from rfl) (show zBd (.int .u8 (c:Int))=some (setV s) by rw[zHm,hs];rfl),Result.andThen]
  rfl
 | none =>
  simp only[execOp,hop,hy,e,Sem.run_bind,zDu Tryd.underlying131 Tryd.underlying5 h1 h2 (show IsKey (.int .u8) (.int .u8 (c:Int)) from rfl) (show zBd (.int .u8 (c:Int))=none by rw[zHm,hs];rfl) zHa,Result.andThen]
  rfl
theorem zNV (rb:Nat) (L:Str) (i:Nat) (U:TypeId) (hL:L.length≤2000) (hi:i≤L.length) (w0:World) (hr:w0.heap[rb]?=some (.cells (rdC L i) U (0,0))) :
  Calls Tryd.prog 68 #[ptrV rb] w0 (zAz rb L U w0 (.ok (zF8 L i))):=by
 have H:=HoldG.startB hr;unfold zF8 zII;have hrest:=fun w h=>zFC rb L i U hi w h
 generalize hT:L.drop i=T at hrest
 have hT0:=zFw hT 0;have hT1:=zFw hT 1;have hTl:=zJI hT;rw[Nat.add_zero]at hT0;rw[← hT0,← hT1];clear hT
 by_cases h2:i+1<L.length
 ·have d1:decide ((1:Int)<(T.length:Int))=true:=by simp;omega
  have hb:=zDy T 0;have hb1:=zDy T 1;have hlen:1<T.length:=by omega
  by_cases h92:byt T 0=92
  ·rw[if_pos ⟨h92,h2⟩];have d92:(((byt T 0:Nat):Int) == 92)=true:=by rw[beq_iff_eq];omega
   clear h92 hT0 hT1 hTl
   cases hs:zEt (byt T 1) with
   | some s =>
    go_enter Tryd.func68,Tryd.ntmps68
    go_upto_region 3 with (first|((first|((with_reducible refine kgA 2 ?_);refine kA 2 H ?_)|((with_reducible refine kgX 2 ?_);(first|refine kS 2 H ?_|refine kB 2 H ?_)));clear H;intro b2 w H;try simp only[nr]at H)|((with_reducible refine gI ?_);refine aI ?_)|((with_reducible refine ch (hrest _ (H.blk .zero).2) H ?_);clear H;intro w H))
    refine zCL 7 6 [zFm w.heap.size,fun v _=>v=.string ⟨T.toArray⟩,fun v _=>v=.int .u8 (byt T 1),fun v _=>v=.tuple #[setV s,.bool true],fun v _=>v=.tuple #[setV s,.bool true],fun v _=>v=setV s,fun v _=>v=.bool true] (fun _=>false) (by kernel_rfl) (by kernel_rfl) (by kernel_rfl) (by repeat (first|exact trivial|refine⟨zBL _,?_⟩|refine⟨zFF _,?_⟩)) (fun _ _ h=>by cases h) ?ob ?en ?en2
    case ob =>
     refine⟨?_,?_,?_,?_,?_,?_,?_,trivial⟩<;>intro A W h
     ·exact zJU h.below.size rfl rfl (by decide)
     ·exact zAY rfl rfl (h.f 4)
     ·exact zAB rfl (zC4 rfl Tryd.underlying9 (h.d 1 19) rfl rfl hlen) (by decide)
     ·exact zFz rfl rfl (h.d 0 18) (h.d 2 20) (by rw[hs];rfl) (by decide)
     ·exact zAY rfl rfl (h.d 3 21)
     ·(have e17:A.eval (.tmp 17)=.tuple #[setV s,.bool true]:=h.d 4 17;refine zAB rfl ?_;simp only[execOp,e17];(simp[go_sem]<;>first|done|omega|(rw[IntKind.wrap_i64];omega)|(rw[IntKind.wrap_u8];omega)|(rw[IntKind.wrap_u64];omega)))
     ·(have e17:A.eval (.tmp 17)=.tuple #[setV s,.bool true]:=h.d 4 17;refine zAB rfl ?_;simp only[execOp,e17];(simp[go_sem]<;>first|done|omega|(rw[IntKind.wrap_i64];omega)|(rw[IntKind.wrap_u8];omega)|(rw[IntKind.wrap_u64];omega)))
    case en =>
     intro vals W hbw hv _;have x0:=hv 0 (by omega);simp only[zAq]at x0
     simp only[fa,Nat.reduceAdd];rw[e_ hv 1,e_ hv 2,e_ hv 3,e_ hv 4,e_ hv 5,e_ hv 6];clear hv
     try simp only[pl]
     replace H:=H.call hbw;clear hbw
     go_wp2_with (first|(first|((with_reducible refine gT ?_);((first|refine aS H ?_|refine aO H ?_);clear H;intro w H;try simp only[nr]at H))|((with_reducible refine gL ?_);(first|refine aL H ?_|refine aG H ?_))))
     (refine xctS Tryd.results68 H ?_)
     exact⟨H.keep,rfl,(H.blk .zero).2⟩
    case en2 =>
     intro vals W hbw hv _;have v1:vals 1=_:=hv 1 (by omega) (by omega)
     have v2:vals 2=_:=hv 2 (by omega) (by omega)
     have v3:vals 3=_:=hv 3 (by omega) (by omega)
     have v4:vals 4=_:=hv 4 (by omega) (by omega)
     have v5:vals 5=_:=hv 5 (by omega) (by omega)
     have x0:=hv 0 (by omega) (by omega);simp only[zAq]at x0
     simp only[List.take_succ_cons,List.take_zero,List.drop_succ_cons,List.drop_zero,List.drop_nil,List.take_nil,zDQ,zH8,List.cons_append,List.nil_append,Nat.reduceEqDiff,if_true,if_false,reduceCtorEq,Nat.zero_add,Nat.reduceAdd];rw[v1,v2,v3,v4,v5];clear hv v1 v2 v3 v4 v5
     try simp only[pl]
     replace H:=H.call hbw;clear hbw
     go_wp2_with (first|(first|((with_reducible refine gT ?_);((first|refine aS H ?_|refine aO H ?_);clear H;intro w H;try simp only[nr]at H))|((with_reducible refine gL ?_);(first|refine aL H ?_|refine aG H ?_))))
     (refine xctS Tryd.results68 H ?_)
     exact⟨H.keep,rfl,(H.blk .zero).2⟩
   | none =>
    go_enter Tryd.func68,Tryd.ntmps68
    go_upto_region 3 with (first|((first|((with_reducible refine kgA 2 ?_);refine kA 2 H ?_)|((with_reducible refine kgX 2 ?_);(first|refine kS 2 H ?_|refine kB 2 H ?_)));clear H;intro b2 w H;try simp only[nr]at H)|((with_reducible refine gI ?_);refine aI ?_)|((with_reducible refine ch (hrest _ (H.blk .zero).2) H ?_);clear H;intro w H))
    refine zCL 7 6 [zFm w.heap.size,fun v _=>v=.string ⟨T.toArray⟩,fun v _=>v=.int .u8 (byt T 1),fun v _=>v=.tuple #[setV zAF,.bool false],fun v _=>v=.tuple #[setV zAF,.bool false],fun v _=>v=setV zAF,fun v _=>v=.bool false] (fun _=>false) (by kernel_rfl) (by kernel_rfl) (by kernel_rfl) (by repeat (first|exact trivial|refine⟨zBL _,?_⟩|refine⟨zFF _,?_⟩)) (fun _ _ h=>by cases h) ?ob ?en ?en2
    case ob =>
     refine⟨?_,?_,?_,?_,?_,?_,?_,trivial⟩<;>intro A W h
     ·exact zJU h.below.size rfl rfl (by decide)
     ·exact zAY rfl rfl (h.f 4)
     ·exact zAB rfl (zC4 rfl Tryd.underlying9 (h.d 1 19) rfl rfl hlen) (by decide)
     ·exact zFz rfl rfl (h.d 0 18) (h.d 2 20) (by rw[hs];rfl) (by decide)
     ·exact zAY rfl rfl (h.d 3 21)
     ·(have e17:A.eval (.tmp 17)=.tuple #[setV zAF,.bool false]:=h.d 4 17;refine zAB rfl ?_;simp only[execOp,e17];(simp[go_sem]<;>first|done|omega|(rw[IntKind.wrap_i64];omega)|(rw[IntKind.wrap_u8];omega)|(rw[IntKind.wrap_u64];omega)))
     ·(have e17:A.eval (.tmp 17)=.tuple #[setV zAF,.bool false]:=h.d 4 17;refine zAB rfl ?_;simp only[execOp,e17];(simp[go_sem]<;>first|done|omega|(rw[IntKind.wrap_i64];omega)|(rw[IntKind.wrap_u8];omega)|(rw[IntKind.wrap_u64];omega)))
    case en =>
     intro vals W hbw hv _;have x0:=hv 0 (by omega);simp only[zAq]at x0
     simp only[fa,Nat.reduceAdd];rw[e_ hv 1,e_ hv 2,e_ hv 3,e_ hv 4,e_ hv 5,e_ hv 6];clear hv
     try simp only[pl]
     replace H:=H.call hbw;clear hbw
     go_wp2_with (first|(first|((with_reducible refine gT ?_);(refine aS H ?_;clear H;intro w H;try simp only[nr]at H))|((with_reducible refine gL ?_);refine aL H ?_)))
     (refine xctS Tryd.results68 H ?_)
     exact⟨H.keep,rfl,(H.blk .zero).2⟩
    case en2 =>
     intro vals W hbw hv _;have v1:vals 1=_:=hv 1 (by omega) (by omega)
     have v2:vals 2=_:=hv 2 (by omega) (by omega)
     have v3:vals 3=_:=hv 3 (by omega) (by omega)
     have v4:vals 4=_:=hv 4 (by omega) (by omega)
     have v5:vals 5=_:=hv 5 (by omega) (by omega)
     have x0:=hv 0 (by omega) (by omega);simp only[zAq]at x0
     simp only[List.take_succ_cons,List.take_zero,List.drop_succ_cons,List.drop_zero,List.drop_nil,List.take_nil,zDQ,zH8,List.cons_append,List.nil_append,Nat.reduceEqDiff,if_true,if_false,reduceCtorEq,Nat.zero_add,Nat.reduceAdd];rw[v1,v2,v3,v4,v5];clear hv v1 v2 v3 v4 v5
     try simp only[pl]
     replace H:=H.call hbw;clear hbw
     go_wp2_with (first|(first|((with_reducible refine gT ?_);(refine aS H ?_;clear H;intro w H;try simp only[nr]at H))|((with_reducible refine gL ?_);refine aL H ?_)))
     (refine xctS Tryd.results68 H ?_)
     exact⟨H.keep,rfl,(H.blk .zero).2⟩
  ·rw[if_neg (fun h=>h92 h.1)]
   have d92:(((byt T 0:Nat):Int) == 92)=false:=by rw[beq_eq_false_iff_ne];omega
   clear h92 hT0 hT1 hTl
   go_enter Tryd.func68,Tryd.ntmps68
   go_wp2_with (first|((first|((with_reducible refine kgA 2 ?_);refine kA 2 H ?_)|((with_reducible refine kgX 2 ?_);(first|refine kS 2 H ?_|refine kB 2 H ?_)));clear H;intro b2 w H;try simp only[nr]at H)|(first|((with_reducible refine gT ?_);(refine aS H ?_;clear H;intro w H;try simp only[nr]at H))|((with_reducible refine gL ?_);refine aL H ?_)|((with_reducible refine gI ?_);refine aI ?_))|((with_reducible refine ch (hrest _ (H.blk .zero).2) H ?_);clear H;intro w H))
   (refine xctS Tryd.results68 H ?_)
   exact⟨H.keep,rfl,(H.blk .zero).2⟩
 ·rw[if_neg (fun h=>h2 h.2)]
  have d1:decide ((1:Int)<(T.length:Int))=false:=by simp;omega
  clear hT0 hT1 hTl
  go_enter Tryd.func68,Tryd.ntmps68
  go_wp2_with (first|((first|((with_reducible refine kgA 2 ?_);refine kA 2 H ?_)|((with_reducible refine kgX 2 ?_);(first|refine kS 2 H ?_|refine kB 2 H ?_)));clear H;intro b2 w H;try simp only[nr]at H)|(first|((with_reducible refine gT ?_);(refine aS H ?_;clear H;intro w H;try simp only[nr]at H))|((with_reducible refine gL ?_);refine aL H ?_))|((with_reducible refine ch (hrest _ (H.blk .zero).2) H ?_);clear H;intro w H))
  (refine xctS Tryd.results68 H ?_)
  exact⟨H.keep,rfl,(H.blk .zero).2⟩
end
section
open Go.RowKit
def BelR (w w':World):Prop:=Below w.heap.size w w'
theorem BelR.refl (w:World):BelR w w:=Below.refl _ w
theorem BelR.trans (u v w:World) (h:BelR u v) (k:BelR v w):BelR u w:=Below.trans h (k.mono h.size)
theorem BelR.drew (w:World):BelR w {w with drawn:=w.drawn+1}:=⟨rfl,rfl,rfl,Nat.le_refl _,fun _ _=>rfl⟩
def ButR (rb:Nat) (w w':World):Prop:=KeepBut (·=rb) w.heap.size w w'
theorem BelR.but (rb:Nat) (u v:World) (h:BelR u v):ButR rb u v:=KeepBut.of_below h
theorem ButR.trans (rb:Nat) (u v w:World) (h:ButR rb u v) (k:ButR rb v w):ButR rb u w:=KeepBut.trans h (k.mono h.size (fun _ _ m=>m))
def stR (rb:Nat) (U:TypeId) (F:Nat→Array Value) (r:Nat) (w:World):Prop:=w.heap[rb]?=some (.cells (F r) U (0,0))
theorem zHJ (rb:Nat) (U:TypeId) (F:Nat→Array Value) (r:Nat) (u v:World) (h:stR rb U F r u) (k:BelR u v):stR rb U F r v:=(k.block rb (Array.getElem?_eq_some_iff.1 h).1).trans h
section
variable {P:Program} {ops:Array Oper} {o:Oper} {a:Act} {w:World} {Q:Exit→Act→World→Prop} {S:Value→World→Prop}
theorem zJC {rb:Nat} {L:Str} {U:TypeId} {f:FuncId} {xs:Array Operand} {ts:Array TypeId} {vs:Array Value} {v:Value} {j:Nat} (hg:Region.wanted o (yielded ops a.tmps)=true)
  (hop:o.op=Op.call {callee:=Callee.value (Operand.func f),args:=xs,argTypes:=ts}) (hf:∀ args w,(callFunc f args).run P w=.ok (.enter f args) w) (hx:xs.map a.eval=vs)
  (hc:Calls P f vs w (zAz rb L U w (.ok (v,j)))):QStepX P ops (ButR rb) Q o a w (fun v' w'=>v'=v∧w'.heap[rb]?=some (.cells (rdC L j) U (0,0))):=by
 unfold QStepX;rw[if_pos hg];unfold Oper.wp;have hr:(execOp a.eval o).run P w=.ok (.enter f vs) w:=by
  simp only[execOp,hop];simp[resolve,hx];rw[show a.eval (Operand.func f)=.func (.func f) #[] #[] from rfl]
  simp[go_sem];exact hf _ _
 rw[hr];simp only[Oper.upon];refine hc.mono ?_
 rintro e w' ⟨hk,rfl,hr'⟩;exact⟨v,rfl,hk,rfl,hr'⟩
theorem zHv {rb n:Nat} {L:Str} {U:TypeId} {f:FuncId} {xs:Array Operand} {ts:Array TypeId} {vs:Array Value} (hg:Region.wanted o (yielded ops a.tmps)=true)
  (hop:o.op=Op.call {callee:=Callee.value (Operand.func f),args:=xs,argTypes:=ts}) (hf:∀ args w,(callFunc f args).run P w=.ok (.enter f args) w) (hx:xs.map a.eval=vs)
  (hc:Calls P f vs w (zAz rb L U w (.error n))) (hQ:∀ w',KeepBut (·=rb) w.heap.size w w'→Q (.panic (zEC n)) a w'):QStepX P ops (ButR rb) Q o a w S:=by
 unfold QStepX;rw[if_pos hg];unfold Oper.wp;have hr:(execOp a.eval o).run P w=.ok (.enter f vs) w:=by
  simp only[execOp,hop];simp[resolve,hx];rw[show a.eval (Operand.func f)=.func (.func f) #[] #[] from rfl]
  simp[go_sem];exact hf _ _
 rw[hr];simp only[Oper.upon];refine hc.mono ?_
 rintro e w' ⟨hk,rfl⟩;exact hQ w' hk
end
def RdB (rb:Nat) (L:List (Nat→Nat)) (v:Value) (w:World):Prop:=∃ g,v=.slice (some ⟨g,0,none⟩) L.length L.length∧rb<g∧w.heap[g]?=some (.cells (rowC L).toArray 28 (0,0))
theorem zGt (rb:Nat) (L:List (Nat→Nat)):zDz (ButR rb) (RdB rb L):=by
 rintro v w w' ⟨g,rfl,h1,h2⟩ hk;exact⟨g,rfl,h1,(hk.old g (Array.getElem?_eq_some_iff.1 h2).1 (by omega)).trans h2⟩
theorem RdB.rds {rb:Nat} {L:List (Nat→Nat)} {v:Value} {w:World} (h:RdB rb L v w) (hl:L.length≤maxLen):RdS w w.heap.size v L:=by
 obtain⟨g,rfl,_,h2⟩:=h;refine .inr ⟨g,0,L.length,rfl,(Array.getElem?_eq_some_iff.1 h2).1,Nat.le_refl _,hl,fun j hj k hk=>?_⟩
 rw[cell_of_row w g _ _ _ _ h2];simp only[Nat.zero_add,List.getElem?_toArray];exact zHT hj hk
theorem zG6 {ops:Array Oper} {o:Oper} {a:Act} {w:World} {x y:Operand} {s t:Nat→Nat} {rb:Nat} (hrb:rb<w.heap.size) (hg:Region.wanted o (yielded ops a.tmps)=true)
  (hop:o.op=Op.buildSlice 96 2 #[(0,x),(1,y)]) (hx:a.eval x=setV s) (hy:a.eval y=setV t):zCF Tryd.prog ops BelR o a w (RdB rb [s,t]):=by
 unfold zCF;rw[if_pos hg];unfold Oper.wp;have hr:(execOp a.eval o).run Tryd.prog w=.ok (.value (.slice (some ⟨w.heap.size,0,none⟩) 2 2)) (w.alloc (.cells (rowC [s,t]).toArray 28)):=by
  simp only[execOp,hop];simp only[List.map_toArray,List.map_cons,List.map_nil,hx,hy];unfold setV;simp[go_sem];rfl
 rw[hr];exact⟨_,rfl,(Below.refl _ w).alloc (Nat.le_refl _) _,w.heap.size,rfl,hrb,World.alloc_heap_new w _⟩
theorem HoldG.other {M:Nat→Prop} {w0 W w:World} {l:List Res} (H:HoldG M w0 W l) {rb:Nat} (hk:ButR rb W w) {i b:Nat} {cs:Array Value} {T:TypeId} (hi:At l i (.blk b cs T)) (hb:b≠rb):w.heap[b]?=some (.cells cs T (0,0)) :=
 (hk.old b (Array.getElem?_eq_some_iff.1 (H.blk hi).2).1 hb).trans (H.blk hi).2
theorem HoldG.ne {M:Nat→Prop} {w0 W:World} {l:List Res} (H:HoldG M w0 W l) {i j b c:Nat} {cs ds:Array Value} {T U:TypeId} (hi:At l i (.blk b cs T)) (hj:At l j (.blk c ds U)) (hij:i≠j):b≠c :=
 fun e=>H.apart i j _ _ hij hi.get hj.get b rfl (by rw[e];rfl)
theorem zKg {P:Program} {o:Oper} {a:Act} {w:World} {T:TypeId} {x:Operand} (ho:o.op=.load T x) {b k n:Nat} (hx:a.eval x=.pointer (some ⟨b,k,none⟩)) {cs vs:Array Value} {U:TypeId} (hb:w.heap[b]?=some (.cells cs U (0,0)))
  (hT:rowB P T n=true) (hn:vs.size=n) (hv:∀ j,j<n→cs[k+j]?=vs[j]?):(execOp a.eval o).run P w=.ok (.value (.agg vs)) w:=by
 obtain⟨d,hu,hd,hs⟩:=zE5 hT
 have:=run_loadVar_mid (P:=P) w b k T vs.toList d (fun j v hj=>by
  have hlt:j<n:=by have:=(List.getElem?_eq_some_iff.1 hj).1;simp at this;omega
  rw[cell_of_row w b _ _ _ _ hb,hv j hlt];simpa using hj) hu hd (by rw[hs];simp[hn])
 unfold execOp;simp only[ho,hx,Instr.loadAt,Instr.sureAddr,Sem.run_bind,Sem.run_pure,Result.andThen_ok];rw[show (loadVar T ⟨b,k,none⟩).run P w=.ok (.agg vs) w by simpa using this]
 rfl
theorem zAv {rb n:Nat} {L:Str} {U:TypeId} {w w':World} {r:Except Nat (Value × Nat)} (h:r=.error n) (hk:KeepBut (·=rb) w.heap.size w w'):zAz rb L U w r (.panicked (zEC n)) w':=by subst h;exact⟨hk,rfl⟩
theorem zAb {rb j:Nat} {L:Str} {U:TypeId} {w w':World} {v:Value} {r:Except Nat (Value × Nat)} (h:r=.ok (v,j)) (hk:KeepBut (·=rb) w.heap.size w w') (hc:w'.heap[rb]?=some (.cells (rdC L j) U (0,0))):zAz rb L U w r (.returned v) w':=by subst h;exact⟨hk,rfl,hc⟩
theorem HoldG.keepR {rb:Nat} {w0 W w:World} {l:List Res} (H:HoldG (·=rb) w0 W l) (h:ButR rb W w):KeepBut (·=rb) w0.heap.size w0 w:=H.keep.trans (h.mono H.keep.size (fun _ _ m=>m))
end
section
open Go.RowKit Go.Shelf Go.MapKept
attribute [local go_sem] Oper.semAt_some
theorem zGX (c:UInt8):([48,49,50,51,52,53,54,55,56,57]:List UInt8).contains c=zA6 c:=by
 have key:∀ n,n<256→([48,49,50,51,52,53,54,55,56,57]:List UInt8).contains (UInt8.ofNat n)=zA6 (UInt8.ofNat n):=by decide +kernel
 have:=key c.toNat (UInt8.toNat_lt c)
 rwa [UInt8.ofNat_toNat]at this
theorem zNa (T:Str) (w0:World):Calls Tryd.prog 85 #[.string ⟨T.toArray⟩,.string ⟨#[48,49,50,51,52,53,54,55,56,57]⟩] w0 (Rt (.string ⟨(T.dropWhile zA6).toArray⟩) w0) :=
 (Go.Proofs.Any.strings_TrimLeft_laid Tryd.lays161 (by kernel_rfl) ⟨T.toArray⟩ ⟨#[48,49,50,51,52,53,54,55,56,57]⟩ w0 (by decide) (by
  intro j b hb;have:=List.mem_of_getElem? hb;simp only[List.mem_cons,List.not_mem_nil,or_false]at this
  rcases this with rfl|rfl|rfl|rfl|rfl|rfl|rfl|rfl|rfl|rfl<;>decide)).mono (by
  rintro e w ⟨rfl,hb⟩;refine⟨?_,hb⟩
  show Ending.returned (.string ⟨(T.dropWhile (fun x=>([48,49,50,51,52,53,54,55,56,57]:List UInt8).contains x)).toArray⟩)=_
  rw[show (fun x=>([48,49,50,51,52,53,54,55,56,57]:List UInt8).contains x)=zA6 from funext zGX])
section
variable {P:Program} {ops:Array Oper} {rest:List Oper} {o:Oper} {a:Act} {w w0:World} {Q:Exit→Act→World→Prop} {l:List Res} {M:Nat→Prop}
theorem zJR (hg:Region.wanted o (yielded ops a.tmps)=true) (S TS T:TypeId) (x:Operand) (ho:o.op=.convert S TS x) (hs:P.underlying S=some .string) (ht:P.underlying TS=some (.slice T)) (he:P.underlying T=some (.int .u8)) {L:Str} (hx:a.eval x=.string ⟨L.toArray⟩) (H:HoldG M w0 w l)
  (h:∀ g cap w',HoldG M w0 w' l→(∀ j,j<L.length→w'.cell? ⟨g,j,none⟩=some (.int .u8 (byt L j)))→wpList P ops Q rest (a.put o.dst (.slice (some ⟨g,0,none⟩) L.length cap)) w'):wpList P ops Q (o::rest) a w :=
 zAd hg fun _ hK=>by
  unfold Oper.wp;have hr:=run_bytes_of_string (P:=P) w S TS T ⟨L.toArray⟩ hs ht he;have hsz:(⟨L.toArray⟩:ByteArray).size=L.length:=by simp[ByteArray.size]
  have hex:(execOp a.eval o).run P w=.ok (.value (.slice (some ⟨w.heap.size,0,none⟩) L.length (grownCap w L.length 0 T))) (w.drew.alloc (.cells (bytesRow ⟨L.toArray⟩ (grownCap w L.length 0 T)) T ((bytesRow ⟨L.toArray⟩ (grownCap w L.length 0 T)).size,(bytesRow ⟨L.toArray⟩ (grownCap w L.length 0 T)).size+1))):=by
   rw[hsz]at hr;simp only[execOp,ho,hx,Sem.run_bind,hr,Result.andThen];rfl
  rw[hex];simp only[Oper.upon];refine hK _ _ (h _ _ _ (H.call ((Below.refl _ w).drew.alloc (Nat.le_refl _) _)) (fun j hj=>?_))
  rw[cell_of_row _ w.heap.size j _ _ _ (World.alloc_heap_new w.drew _)];rw[bytesRow_at ⟨L.toArray⟩ _ j (by simpa using hj)]
  unfold byt;rw[List.getD_eq_getElem?_getD,List.getElem?_eq_getElem hj];simp
end
def numR (L:Str) (i:Nat):Value × Nat:=match zDS L i with|some (n,k)=>(.tuple #[.int .i64 n,.bool true],k)|none=>(.tuple #[.int .i64 0,.bool false],i)
theorem zH4 {ds:Str} {k:Nat} (hk:k<ds.length):numF (ds.take (k+1))=min (10 * numF (ds.take k)+(byt ds k - 48)) 101:=by
 have e:ds.take (k+1)=ds.take k++[ds[k]]:=by simp
 rw[e,zHl,zHZ hk]
theorem zHR {p:UInt8→Bool} {l:Str} {k:Nat} (hk:k<(l.takeWhile p).length):p (l.takeWhile p)[k]=true:=by
 have:=List.all_takeWhile (p:=p) (l:=l);exact List.all_eq_true.1 this _ (List.getElem_mem hk)
theorem zLk (rb:Nat) (L:Str) (i:Nat) (U:TypeId) (hL:L.length≤2000) (hi:i≤L.length) (w0:World) (hr:w0.heap[rb]?=some (.cells (rdC L i) U (0,0))) :
  Calls Tryd.prog 73 #[ptrV rb] w0 (zAz rb L U w0 (.ok (numR L i))):=by
 have H:=HoldG.startB hr;have E:numR L i=numR L i:=rfl
 conv at E=>rhs;unfold numR zDS
 have hrest:=fun w h=>zFC rb L i U hi w h
 have hb48:∀ k,(hk:k<((L.drop i).takeWhile zA6).length)→48≤byt ((L.drop i).takeWhile zA6) k∧byt ((L.drop i).takeWhile zA6) k≤57:=by
  intro k hk;have:=zHR hk;rw[zHZ hk]
  simpa [zA6] using this
 have hsum:((L.drop i).takeWhile zA6).length+((L.drop i).dropWhile zA6).length=(L.drop i).length:=by
  rw[← List.length_append,List.takeWhile_append_dropWhile]
 have htk:(L.drop i).take ((L.drop i).takeWhile zA6).length=(L.drop i).takeWhile zA6:=by
  have h1:=List.takeWhile_append_dropWhile (p:=zA6) (l:=L.drop i);have h2:((L.drop i).takeWhile zA6++(L.drop i).dropWhile zA6).take ((L.drop i).takeWhile zA6).length=(L.drop i).takeWhile zA6:=List.take_left
  rwa [h1]at h2
 have hlen:((L.drop i).takeWhile zA6).length≤L.length - i:=by
  have:=(List.takeWhile_prefix zA6 (l:=L.drop i)).length_le;simpa using this
 have hfirst:((L.drop i).takeWhile zA6)≠[]→byt ((L.drop i).takeWhile zA6) 0=byt L i:=by
  intro hne;have h0:0<((L.drop i).takeWhile zA6).length:=List.length_pos_iff.2 hne;have:=zFw (L:=L) (T:=L.drop i) (i:=i) rfl 0;rw[Nat.add_zero]at this;rw[← this];unfold byt
  conv=>rhs;rw[← List.takeWhile_append_dropWhile (p:=zA6) (l:=L.drop i)]
  rw[List.getD_eq_getElem?_getD,List.getD_eq_getElem?_getD,List.getElem?_append_left h0]
 have htrim:=fun w=>zNa (L.drop i) w
 generalize hT:L.drop i=T at hrest hb48 hsum htk hlen hfirst htrim E
 generalize hds:T.takeWhile zA6=ds at hb48 hsum htk hlen hfirst E
 generalize hrs:T.dropWhile zA6=rs at hsum htrim
 have hNC:(T.length:Int) - (rs.length:Int)=((ds.length:Nat):Int):=by omega
 have hle:ds.length≤T.length:=by omega
 have HS:=Lib.hid hsum;have HT:=Lib.hid htk;clear hT hds hrs hsum htk
 go_enter Tryd.func73,Tryd.ntmps73
 go_upto_region 3 with (first|((with_reducible refine gU ?_);refine aU ?_)|((with_reducible first|refine ch (hrest _ (H.blk .zero).2) H ?_|refine ch (htrim _) H ?_);clear H;intro w H))
 rw[HT.out];clear HT HS hNC htrim
 by_cases hd0:ds=[]
 ·have e0:(ds == ([]:Str))=true:=by simp[hd0]
  rw[if_pos (.inl hd0)]at E;simp only[]at E;have E3:=Lib.hid (show (Except.ok (numR L i):Except Nat (Value × Nat))=.ok (_,_) from congrArg _ E);clear E hd0 hfirst hb48
  go_wp2_with (first|((with_reducible refine gE ?_);refine aE ?_))
  go_ret2
  exact zAb E3.out H.keep (H.blk .zero).2
 ·have e0:(ds == ([]:Str))=false:=by rw[beq_eq_false_iff_ne];exact hd0
  have hf:=hfirst hd0;have hpos:0<ds.length:=List.length_pos_iff.2 hd0;rw[← hf]at E;clear hfirst hf
  by_cases h1:1<ds.length
  ·have d1:decide ((1:Int)<(ds.length:Int))=true:=by simp;omega
   by_cases h48:byt ds 0=48
   ·have d48:(((byt ds 0:Nat):Int) == 48)=true:=by rw[beq_iff_eq];omega
    rw[if_pos (.inr ⟨h1,h48⟩)]at E;simp only[]at E;have E3:=Lib.hid (show (Except.ok (numR L i):Except Nat (Value × Nat))=.ok (_,_) from congrArg _ E);clear E hd0 hb48 h48
    go_wp2_with (first|(first|((with_reducible refine gI ?_);refine aI ?_)|((with_reducible refine gE ?_);refine aE ?_)))
    go_ret2
    exact zAb E3.out H.keep (H.blk .zero).2
   ·have d48:(((byt ds 0:Nat):Int) == 48)=false:=by rw[beq_eq_false_iff_ne];omega
    rw[if_neg (fun h=>h.elim hd0 (fun h=>h48 h.2))]at E;simp only[]at E
    have E3:=Lib.hid (show (Except.ok (numR L i):Except Nat (Value × Nat))=.ok (_,_) from congrArg _ E);clear E hd0 h48
    go_upto_region 5 with (first|(first|((with_reducible refine gI ?_);refine aI ?_)|((with_reducible refine gE ?_);refine aE ?_)))
    clear d1 d48 e0
    go_wp2_with (first|((with_reducible refine gCV ?_);refine zJR wtd_ 9 93 5 _ rfl Tryd.underlying9 Tryd.underlying93 Tryd.underlying5 rfl H ?_;clear H;intro g cap w H hg)|fail)
    have HG:=Lib.hid hg;clear hg
    go_loopw [2,35] (fun n k wr=>∃ j:Nat,j≤ds.length∧k=.int .i64 j∧n=.int .i64 (numF (ds.take j):Nat)∧HoldG (·=rb) w0 wr [.blk rb (rdC L i) U]∧Hid (∀ j,j<ds.length→wr.cell? ⟨g,j,none⟩=some (.int .u8 (byt ds j)))) (fun _ k _=>ds.length+1 - (intOf k).toNat)
    case atStart=>exact⟨0,by omega,rfl,by simp[numF],H,HG⟩
    case round =>
     clear H HG;obtain⟨j,hj,rfl,rfl,H,HG⟩:=hrel;have hnle:=zIz (ds.take j)
     by_cases hlt:j<ds.length
     ·have hst:=zH4 hlt;have hb:=hb48 j hlt;have hc:=HG.out j hlt
      generalize hn:numF (ds.take j)=n at hnle hst
      have HST:=Lib.hid hst;clear hst hn;have hd:decide ((j:Int)<(ds.length:Int))=true:=by simp;omega
      have hw1:IntKind.u8.wrap ((byt ds j:Int) - 48)=(byt ds j:Int) - 48:=by rw[IntKind.wrap_u8];omega
      go_wp2_with (first|fail)
      go_roundw
      case rel=>exact⟨j+1,by omega,by go_num,by rw[HST.out];congr 1;omega,H,HG⟩
      case measure=>simp[intOf];omega
     ·have hd:decide ((j:Int)<(ds.length:Int))=false:=by simp;omega
      have hj2:j=ds.length:=by omega
      subst hj2;rw[List.take_length]at hnle ⊢
      go_wp2_with (first|(first|((with_reducible refine gT ?_);(refine aO H ?_;clear H;intro w H;try simp only[nr]at H))|((with_reducible refine gL ?_);refine aG H ?_)))
      go_ret2
      exact zAb E3.out H.keep (H.blk .zero).2
  ·have d1:decide ((1:Int)<(ds.length:Int))=false:=by simp;omega
   rw[if_neg (fun h=>h.elim hd0 (fun h=>h1 h.1))]at E;simp only[]at E
   have E3:=Lib.hid (show (Except.ok (numR L i):Except Nat (Value × Nat))=.ok (_,_) from congrArg _ E);clear E hd0
   go_upto_region 5 with (first|((with_reducible refine gE ?_);refine aE ?_))
   clear d1 e0
   go_wp2_with (first|((with_reducible refine gCV ?_);refine zJR wtd_ 9 93 5 _ rfl Tryd.underlying9 Tryd.underlying93 Tryd.underlying5 rfl H ?_;clear H;intro g cap w H hg)|fail)
   have HG:=Lib.hid hg;clear hg
   go_loopw [2,35] (fun n k wr=>∃ j:Nat,j≤ds.length∧k=.int .i64 j∧n=.int .i64 (numF (ds.take j):Nat)∧HoldG (·=rb) w0 wr [.blk rb (rdC L i) U]∧Hid (∀ j,j<ds.length→wr.cell? ⟨g,j,none⟩=some (.int .u8 (byt ds j)))) (fun _ k _=>ds.length+1 - (intOf k).toNat)
   case atStart=>exact⟨0,by omega,rfl,by simp[numF],H,HG⟩
   case round =>
    clear H HG;obtain⟨j,hj,rfl,rfl,H,HG⟩:=hrel;have hnle:=zIz (ds.take j)
    by_cases hlt:j<ds.length
    ·have hst:=zH4 hlt;have hb:=hb48 j hlt;have hc:=HG.out j hlt
     generalize hn:numF (ds.take j)=n at hnle hst
     have HST:=Lib.hid hst;clear hst hn;have hd:decide ((j:Int)<(ds.length:Int))=true:=by simp;omega
     have hw1:IntKind.u8.wrap ((byt ds j:Int) - 48)=(byt ds j:Int) - 48:=by rw[IntKind.wrap_u8];omega
     go_wp2_with (first|fail)
     go_roundw
     case rel=>exact⟨j+1,by omega,by go_num,by rw[HST.out];congr 1;omega,H,HG⟩
     case measure=>simp[intOf];omega
    ·have hd:decide ((j:Int)<(ds.length:Int))=false:=by simp;omega
     have hj2:j=ds.length:=by omega
     subst hj2;rw[List.take_length]at hnle ⊢
     go_wp2_with (first|(first|((with_reducible refine gT ?_);(refine aO H ?_;clear H;intro w H;try simp only[nr]at H))|((with_reducible refine gL ?_);refine aG H ?_)))
     go_ret2
     exact zAb E3.out H.keep (H.blk .zero).2
theorem zBJ (rb:Nat) (L:Str) (i:Nat) (U:TypeId) (hL:L.length≤2000) (hi:i≤L.length) {r:Value × Nat} (hx:numR L i=r) (w0:World) (hr:w0.heap[rb]?=some (.cells (rdC L i) U (0,0))) :
  Calls Tryd.prog 73 #[ptrV rb] w0 (zAz rb L U w0 (.ok r)):=hx ▸ zLk rb L i U hL hi w0 hr
def zBp (L:Str) (i:Nat) (v:Value) (j:Nat):Prop:=match zC0 L i with
 | some (lo,hi,k)=>v=.tuple #[.int .i64 lo,.int .i64 hi,.bool true]∧j=k
 | none=>(∃ lo hi:Int,v=.tuple #[.int .i64 lo,.int .i64 hi,.bool false])∧j=i+1
theorem zBZ {L:Str} {k:Nat} {t:Str} {b:Bool} (rb:Nat) (ht:t.length≤10) (U:TypeId) (hL:L.length≤2000) (hi:k≤L.length) (hb:atP L k t=b) (w0:World) (hr:w0.heap[rb]?=some (.cells (rdC L k) U (0,0))) :
  Calls Tryd.prog 57 #[ptrV rb,.string ⟨t.toArray⟩] w0 (zAz rb L U w0 (.ok (.bool b,if b then k+t.length else k))):=hb ▸ zK0 rb L k t ht U hL hi w0 hr
theorem zGP (rb:Nat) (L:Str) (i:Nat) (U:TypeId) (hL:L.length≤2000) (hi:i+1≤L.length) (w0:World) (hr:w0.heap[rb]?=some (.cells (rdC L (i+1)) U (0,0))) :
  Calls Tryd.prog 59 #[ptrV rb] w0 fun e w'=>∃ v j,zBp L i v j∧zAz rb L U w0 (.ok (v,j)) e w':=by
 have H:=HoldG.startB hr;have E:zC0 L i=zC0 L i:=rfl
 conv at E=>rhs;unfold zC0
 cases hn:zDS L (i+1) with
 | none =>
  rw[hn]at E;simp only[]at E;have hN:numR L (i+1)=(.tuple #[.int .i64 0,.bool false],i+1):=by unfold numR;rw[hn]
  clear hn;have E3:∀ lo hi:Int,zBp L i (.tuple #[.int .i64 lo,.int .i64 hi,.bool false]) (i+1):=by intro lo hi;unfold zBp;rw[E];exact⟨⟨lo,hi,rfl⟩,rfl⟩
  have E4:=Lib.hid E3;clear E E3
  go_enter Tryd.func59,Tryd.ntmps59
  go_wp2_with (first|(first|((with_reducible refine gT ?_);(refine aO H ?_;clear H;intro w H;try simp only[nr]at H))|((with_reducible refine gL ?_);refine aG H ?_))|(go_at_call 73;(with_reducible refine(zBJ rb L (i+1) U hL hi hN _ (H.blk .zero).2).mono ?_);rintro e w ⟨hk,rfl,hr⟩;replace H:=H.callBut atd_ hk hr;clear hk hr;try simp only[nr]at H))
  go_ret3;exact⟨_,_,E4.out _ _,H.keep,rfl,(H.blk .zero).2⟩
 | some p =>
  obtain⟨n,k⟩:=p;obtain⟨hk1,hk2,hn1⟩:=zDA hn hi;rw[hn]at E;simp only[]at E;have hN:numR L (i+1)=(.tuple #[.int .i64 n,.bool true],k):=by unfold numR;rw[hn]
  clear hn
  cases h1:atP L k [44,125] with
  | true =>
   rw[h1]at E;simp only[if_true]at E;have S1:=fun w h=>zBZ rb (by simp) U hL hk2 h1 w h
   simp only[if_true,List.length_cons,List.length_nil]at S1;have E3:zBp L i (.tuple #[.int .i64 n,.int .i64 (-1),.bool true]) (k+2):=by unfold zBp;rw[E];exact⟨rfl,rfl⟩
   have E4:=Lib.hid E3;clear E E3 h1
   go_enter Tryd.func59,Tryd.ntmps59
   go_wp2_with (first|((with_reducible refine gL ?_);refine aG H ?_)|(go_at_call 73;(with_reducible refine(zBJ rb L (i+1) U hL hi hN _ (H.blk .zero).2).mono ?_);rintro e w ⟨hk,rfl,hr⟩;replace H:=H.callBut atd_ hk hr;clear hk hr;try simp only[nr]at H)|(go_at_call 57;(with_reducible refine(S1 _ (H.blk .zero).2).mono ?_);rintro e w ⟨hk,rfl,hr⟩;replace H:=H.callBut atd_ hk hr;clear hk hr;try simp only[nr]at H))
   go_ret3;exact⟨_,_,E4.out,H.keep,rfl,(H.blk .zero).2⟩
  | false =>
   rw[h1]at E;simp only[Bool.false_eq_true,if_false]at E;have S1:=fun w h=>zBZ rb (by simp) U hL hk2 h1 w h
   simp only[Bool.false_eq_true,if_false]at S1;clear h1
   cases h2:atP L k [44] with
   | true =>
    rw[h2]at E;simp only[if_true]at E;have hle:=zDx h2 (by simp)
    simp only[List.length_cons,List.length_nil,Nat.zero_add]at hle;have S2:=fun w h=>zBZ rb (by simp) U hL hk2 h2 w h
    simp only[if_true,List.length_cons,List.length_nil,Nat.zero_add]at S2;clear h2
    cases hm:zDS L (k+1) with
    | none =>
     rw[hm]at E;simp only[]at E;have hM:numR L (k+1)=(.tuple #[.int .i64 0,.bool false],k+1):=by unfold numR;rw[hm]
     clear hm;have E3:∀ lo hi:Int,zBp L i (.tuple #[.int .i64 lo,.int .i64 hi,.bool false]) (i+1):=by intro lo hi;unfold zBp;rw[E];exact⟨⟨lo,hi,rfl⟩,rfl⟩
     have E4:=Lib.hid E3;clear E E3
     go_enter Tryd.func59,Tryd.ntmps59
     go_wp2_with (first|(first|((with_reducible refine gT ?_);(refine aO H ?_;clear H;intro w H;try simp only[nr]at H))|((with_reducible refine gL ?_);refine aG H ?_))|(go_at_call 73;(with_reducible refine(zBJ rb L (i+1) U hL hi hN _ (H.blk .zero).2).mono ?_);rintro e w ⟨hk,rfl,hr⟩;replace H:=H.callBut atd_ hk hr;clear hk hr;try simp only[nr]at H)|(go_at_call 57;(with_reducible refine(S1 _ (H.blk .zero).2).mono ?_);rintro e w ⟨hk,rfl,hr⟩;replace H:=H.callBut atd_ hk hr;clear hk hr;try simp only[nr]at H)|(go_at_call 57;(with_reducible refine(S2 _ (H.blk .zero).2).mono ?_);rintro e w ⟨hk,rfl,hr⟩;replace H:=H.callBut atd_ hk hr;clear hk hr;try simp only[nr]at H)|(go_at_call 73;(with_reducible refine(zBJ rb L (k+1) U hL hle hM _ (H.blk .zero).2).mono ?_);rintro e w ⟨hk,rfl,hr⟩;replace H:=H.callBut atd_ hk hr;clear hk hr;try simp only[nr]at H))
     go_ret3;exact⟨_,_,E4.out _ _,H.keep,rfl,(H.blk .zero).2⟩
    | some q =>
     obtain⟨m,e⟩:=q;obtain⟨he1,he2,hm1⟩:=zDA hm hle;rw[hm]at E;simp only[]at E;have hM:numR L (k+1)=(.tuple #[.int .i64 m,.bool true],e):=by unfold numR;rw[hm]
     clear hm
     cases h3:atP L e [125] with
     | true =>
      rw[h3]at E;simp only[if_true]at E;have S3:=fun w h=>zBZ rb (by simp) U hL he2 h3 w h
      simp only[if_true,List.length_cons,List.length_nil,Nat.zero_add]at S3;have E3:zBp L i (.tuple #[.int .i64 n,.int .i64 m,.bool true]) (e+1):=by unfold zBp;rw[E];exact⟨rfl,rfl⟩
      have E4:=Lib.hid E3;clear E E3 h3
      go_enter Tryd.func59,Tryd.ntmps59
      go_wp2_with (first|((with_reducible refine gL ?_);refine aG H ?_)|(go_at_call 73;(with_reducible refine(zBJ rb L (i+1) U hL hi hN _ (H.blk .zero).2).mono ?_);rintro e w ⟨hk,rfl,hr⟩;replace H:=H.callBut atd_ hk hr;clear hk hr;try simp only[nr]at H)|(go_at_call 57;(with_reducible refine(S1 _ (H.blk .zero).2).mono ?_);rintro e w ⟨hk,rfl,hr⟩;replace H:=H.callBut atd_ hk hr;clear hk hr;try simp only[nr]at H)|(go_at_call 57;(with_reducible refine(S2 _ (H.blk .zero).2).mono ?_);rintro e w ⟨hk,rfl,hr⟩;replace H:=H.callBut atd_ hk hr;clear hk hr;try simp only[nr]at H)|(go_at_call 73;(with_reducible refine(zBJ rb L (k+1) U hL hle hM _ (H.blk .zero).2).mono ?_);rintro e w ⟨hk,rfl,hr⟩;replace H:=H.callBut atd_ hk hr;clear hk hr;try simp only[nr]at H)|(go_at_call 57;(with_reducible refine(S3 _ (H.blk .zero).2).mono ?_);rintro e w ⟨hk,rfl,hr⟩;replace H:=H.callBut atd_ hk hr;clear hk hr;try simp only[nr]at H))
      go_ret3;exact⟨_,_,E4.out,H.keep,rfl,(H.blk .zero).2⟩
     | false =>
      rw[h3]at E;simp only[Bool.false_eq_true,if_false]at E;have S3:=fun w h=>zBZ rb (by simp) U hL he2 h3 w h
      simp only[Bool.false_eq_true,if_false]at S3;have E3:∀ lo hi:Int,zBp L i (.tuple #[.int .i64 lo,.int .i64 hi,.bool false]) (i+1):=by intro lo hi;unfold zBp;rw[E];exact⟨⟨lo,hi,rfl⟩,rfl⟩
      have E4:=Lib.hid E3;clear E E3 h3
      go_enter Tryd.func59,Tryd.ntmps59
      go_wp2_with (first|(first|((with_reducible refine gT ?_);(refine aO H ?_;clear H;intro w H;try simp only[nr]at H))|((with_reducible refine gL ?_);refine aG H ?_))|(go_at_call 73;(with_reducible refine(zBJ rb L (i+1) U hL hi hN _ (H.blk .zero).2).mono ?_);rintro e w ⟨hk,rfl,hr⟩;replace H:=H.callBut atd_ hk hr;clear hk hr;try simp only[nr]at H)|(go_at_call 57;(with_reducible refine(S1 _ (H.blk .zero).2).mono ?_);rintro e w ⟨hk,rfl,hr⟩;replace H:=H.callBut atd_ hk hr;clear hk hr;try simp only[nr]at H)|(go_at_call 57;(with_reducible refine(S2 _ (H.blk .zero).2).mono ?_);rintro e w ⟨hk,rfl,hr⟩;replace H:=H.callBut atd_ hk hr;clear hk hr;try simp only[nr]at H)|(go_at_call 73;(with_reducible refine(zBJ rb L (k+1) U hL hle hM _ (H.blk .zero).2).mono ?_);rintro e w ⟨hk,rfl,hr⟩;replace H:=H.callBut atd_ hk hr;clear hk hr;try simp only[nr]at H)|(go_at_call 57;(with_reducible refine(S3 _ (H.blk .zero).2).mono ?_);rintro e w ⟨hk,rfl,hr⟩;replace H:=H.callBut atd_ hk hr;clear hk hr;try simp only[nr]at H))
      go_ret3;exact⟨_,_,E4.out _ _,H.keep,rfl,(H.blk .zero).2⟩
   | false =>
    rw[h2]at E;simp only[Bool.false_eq_true,if_false]at E;have S2:=fun w h=>zBZ rb (by simp) U hL hk2 h2 w h
    simp only[Bool.false_eq_true,if_false]at S2;clear h2
    cases h3:atP L k [125] with
    | true =>
     rw[h3]at E;simp only[if_true]at E;have S3:=fun w h=>zBZ rb (by simp) U hL hk2 h3 w h
     simp only[if_true,List.length_cons,List.length_nil,Nat.zero_add]at S3;have E3:zBp L i (.tuple #[.int .i64 n,.int .i64 n,.bool true]) (k+1):=by unfold zBp;rw[E];exact⟨rfl,rfl⟩
     have E4:=Lib.hid E3;clear E E3 h3
     go_enter Tryd.func59,Tryd.ntmps59
     go_wp2_with (first|((with_reducible refine gL ?_);refine aG H ?_)|(go_at_call 73;(with_reducible refine(zBJ rb L (i+1) U hL hi hN _ (H.blk .zero).2).mono ?_);rintro e w ⟨hk,rfl,hr⟩;replace H:=H.callBut atd_ hk hr;clear hk hr;try simp only[nr]at H)|(go_at_call 57;(with_reducible refine(S1 _ (H.blk .zero).2).mono ?_);rintro e w ⟨hk,rfl,hr⟩;replace H:=H.callBut atd_ hk hr;clear hk hr;try simp only[nr]at H)|(go_at_call 57;(with_reducible refine(S2 _ (H.blk .zero).2).mono ?_);rintro e w ⟨hk,rfl,hr⟩;replace H:=H.callBut atd_ hk hr;clear hk hr;try simp only[nr]at H)|(go_at_call 57;(with_reducible refine(S3 _ (H.blk .zero).2).mono ?_);rintro e w ⟨hk,rfl,hr⟩;replace H:=H.callBut atd_ hk hr;clear hk hr;try simp only[nr]at H))
     go_ret3;exact⟨_,_,E4.out,H.keep,rfl,(H.blk .zero).2⟩
    | false =>
     rw[h3]at E;simp only[Bool.false_eq_true,if_false]at E;have S3:=fun w h=>zBZ rb (by simp) U hL hk2 h3 w h
     simp only[Bool.false_eq_true,if_false]at S3;have E3:∀ lo hi:Int,zBp L i (.tuple #[.int .i64 lo,.int .i64 hi,.bool false]) (i+1):=by intro lo hi;unfold zBp;rw[E];exact⟨⟨lo,hi,rfl⟩,rfl⟩
     have E4:=Lib.hid E3;clear E E3 h3
     go_enter Tryd.func59,Tryd.ntmps59
     go_wp2_with (first|(first|((with_reducible refine gT ?_);(refine aO H ?_;clear H;intro w H;try simp only[nr]at H))|((with_reducible refine gL ?_);refine aG H ?_))|(go_at_call 73;(with_reducible refine(zBJ rb L (i+1) U hL hi hN _ (H.blk .zero).2).mono ?_);rintro e w ⟨hk,rfl,hr⟩;replace H:=H.callBut atd_ hk hr;clear hk hr;try simp only[nr]at H)|(go_at_call 57;(with_reducible refine(S1 _ (H.blk .zero).2).mono ?_);rintro e w ⟨hk,rfl,hr⟩;replace H:=H.callBut atd_ hk hr;clear hk hr;try simp only[nr]at H)|(go_at_call 57;(with_reducible refine(S2 _ (H.blk .zero).2).mono ?_);rintro e w ⟨hk,rfl,hr⟩;replace H:=H.callBut atd_ hk hr;clear hk hr;try simp only[nr]at H)|(go_at_call 57;(with_reducible refine(S3 _ (H.blk .zero).2).mono ?_);rintro e w ⟨hk,rfl,hr⟩;replace H:=H.callBut atd_ hk hr;clear hk hr;try simp only[nr]at H))
     go_ret3;exact⟨_,_,E4.out _ _,H.keep,rfl,(H.blk .zero).2⟩
def MaxL (w:World):Prop:=∃ m:Int,w.cell? ⟨0,0,none⟩=some (.int .i64 m)
theorem MaxL.block {w w':World} (h:MaxL w) (e:w'.heap[0]?=w.heap[0]?):MaxL w':=by
 obtain⟨m,h⟩:=h;refine⟨m,?_⟩
 unfold World.cell? at h ⊢;simp only at h ⊢;rw[e];exact h
theorem MaxL.lt {w:World} (h:MaxL w):0<w.heap.size:=by
 obtain⟨m,h⟩:=h;rcases Nat.eq_zero_or_pos w.heap.size with h0|h0
 ·unfold World.cell? at h;simp[Array.getElem?_eq_none (Nat.le_of_eq h0)]at h
 ·exact h0
theorem MaxL.keep {rb:Nat} {w w':World} (h:MaxL w) (hrb:rb≠0) (hk:KeepBut (·=rb) w.heap.size w w'):MaxL w':=h.block (hk.old 0 h.lt (fun e=>hrb e.symm))
theorem MaxL.below {w w':World} (h:MaxL w) (hk:Below w.heap.size w w'):MaxL w':=h.block (hk.block 0 h.lt)
theorem zE8 {t:Str} (ht:t≠[]):∀ l:Str,Lib.index l t=match zFZ t l with|some k=>(k:Int)|none => -1
 | []=>by
  unfold Lib.index zFZ
  cases t with
  | nil=>exact absurd rfl ht
  | cons a r=>rfl
 | c::l=>by
  unfold Lib.index zFZ
  by_cases h:t.isPrefixOf (c::l)=true
  ·rw[if_pos h,if_pos h];rfl
  ·rw[if_neg h,if_neg h,zE8 ht l]
   cases zFZ t l with
   | none=>rfl
   | some k =>
    simp only[Option.map_some];have:((k:Int) == -1)=false:=by rw[beq_eq_false_iff_ne];omega
    rw[this];rfl
theorem zMX {t l:Str} (ht:t≠[]) {k:Nat} (h:zFZ t l=some k):Lib.cut l t=(l.take k,l.drop (k+t.length),true):=by
 have hi:=zE8 ht l;rw[h]at hi;unfold Lib.cut;rw[hi,if_pos (by simp)]
 rfl
theorem zMm {t l:Str} (ht:t≠[]) (h:zFZ t l=none):Lib.cut l t=(l,[],false):=by
 have hi:=zE8 ht l;rw[h]at hi;unfold Lib.cut;rw[hi,if_neg (by simp)]
theorem zG3 (T A B:Str) (f:Bool) (hT:T.length≤2000) (hc:Lib.cut T [58,93]=(A,B,f)) (w0:World) (hm:MaxL w0):Calls Tryd.prog 89 #[.string ⟨T.toArray⟩,.string ⟨#[58,93]⟩] w0 (Rt (.tuple #[.string ⟨A.toArray⟩,.string ⟨B.toArray⟩,.bool f]) w0):=by
 obtain⟨m,hm⟩:=hm;refine(Tryd.strings_Cut ⟨T.toArray⟩ ⟨#[58,93]⟩ m w0 (by simp[ByteArray.size];omega) hm).mono ?_
 rintro e w ⟨rfl,n,rfl⟩;refine⟨?_,⟨rfl,rfl,rfl,Nat.le_refl _,fun _ _=>rfl⟩⟩
 show Ending.returned (.tuple #[.string ⟨(Lib.cut T [58,93]).1.toArray⟩,.string ⟨(Lib.cut T [58,93]).2.1.toArray⟩,.bool (Lib.cut T [58,93]).2.2])=_
 rw[hc]
theorem zNN (T:Str) (w0:World):Calls Tryd.prog 88 #[.string ⟨T.toArray⟩,.string ⟨#[91,58]⟩] w0 (Rt (.tuple #[.string ⟨(if atP T 0 [91,58] then T.drop 2 else T).toArray⟩,.bool (atP T 0 [91,58])]) w0) :=
 (Tryd.strings_CutPrefix ⟨T.toArray⟩ ⟨#[91,58]⟩ w0).mono (by
  rintro e w ⟨rfl,rfl⟩
  exact⟨rfl,Below.refl _ _⟩)
theorem zNI (T:Str) (w0:World):Calls Tryd.prog 88 #[.string ⟨T.toArray⟩,.string ⟨#[94]⟩] w0 (Rt (.tuple #[.string ⟨(if atP T 0 [94] then T.drop 1 else T).toArray⟩,.bool (atP T 0 [94])]) w0) :=
 (Tryd.strings_CutPrefix ⟨T.toArray⟩ ⟨#[94]⟩ w0).mono (by
  rintro e w ⟨rfl,rfl⟩
  exact⟨rfl,Below.refl _ _⟩)
def zGK (L:Str) (i:Nat):Except Nat (Value × Nat):=match zKG L i with
 | none=>.ok (.tuple #[setV zAF,.bool false],i)
 | some none=>.error 4
 | some (some (s,e))=>.ok (.tuple #[setV s,.bool true],e)
theorem zNU (rb:Nat) (L:Str) (i:Nat) (U:TypeId) (hL:L.length≤2000) (hi:i≤L.length) (hrb:rb≠0) (w0:World) (hz:MaxL w0) (hr:w0.heap[rb]?=some (.cells (rdC L i) U (0,0))) :
  Calls Tryd.prog 81 #[ptrV rb] w0 (zAz rb L U w0 (zGK L i)):=by
 have H:=HoldG.startB hr;have E:zGK L i=zGK L i:=rfl
 conv at E=>rhs;unfold zGK zKG
 have hrest:=fun w h=>zFC rb L i U hi w h
 have hcp:=fun w=>zNN (L.drop i) w
 have hA:atP (L.drop i) 0 [91,58]=atP L i [91,58]:=rfl;rw[hA]at hcp;have hTl:(L.drop i).length≤2000:=by simp;omega
 have hdd:(L.drop i).drop 2=L.drop (i+2):=by simp
 rw[hdd]at hcp;clear hA hdd;have ZZ:∀ W,KeepBut (·=rb) w0.heap.size w0 W→MaxL W:=fun W hk=>hz.keep hrb hk
 cases hp:atP L i [91,58]
 ·rw[hp]at E hcp;simp only[Bool.false_eq_true,if_false]at E hcp;rw[E];clear E hp
  generalize hT:L.drop i=T at hrest hcp hTl
  clear hT
  cases hc:Lib.cut T [58,93] with
  | mk A r =>
  obtain⟨B,f⟩:=r
  go_enter Tryd.func81,Tryd.ntmps81
  go_wp2_with (first|((first|((with_reducible refine kgA 2 ?_);refine kA 2 H ?_)|((with_reducible refine kgX 2 ?_);(first|refine kS 2 H ?_|refine kB 2 H ?_)));clear H;intro b2 w H;try simp only[nr]at H)|(first|((with_reducible refine gT ?_);(refine aS H ?_;clear H;intro w H;try simp only[nr]at H))|((with_reducible refine gL ?_);refine aL H ?_))|((with_reducible first|refine ch (hrest _ (H.blk .zero).2) H ?_|refine ch (hcp _) H ?_|refine ch (zG3 T A B f hTl hc _ (ZZ _ H.keep)) H ?_);clear H;intro w H))
  (refine xctS Tryd.results81 H ?_)
  exact⟨H.keep,rfl,(H.blk .zero).2⟩
 ·rw[hp]at E hcp;simp only[if_true]at E hcp;have hle:=zDx hp (by simp)
  have hTl2:(L.drop (i+2)).length≤2000:=by simp;omega
  clear hp
  cases hf:zFZ [58,93] (L.drop (i+2)) with
  | none =>
   rw[hf]at E;simp only[]at E;rw[E];clear E;have hc:=zMm (by simp) hf
   clear hf
   generalize hT:L.drop i=T at hrest hcp hTl
   generalize hT2:L.drop (i+2)=T2 at hc hcp hTl2
   clear hT hT2
   go_enter Tryd.func81,Tryd.ntmps81
   go_wp2_with (first|((first|((with_reducible refine kgA 2 ?_);refine kA 2 H ?_)|((with_reducible refine kgX 2 ?_);(first|refine kS 2 H ?_|refine kB 2 H ?_)));clear H;intro b2 w H;try simp only[nr]at H)|(first|((with_reducible refine gT ?_);(refine aS H ?_;clear H;intro w H;try simp only[nr]at H))|((with_reducible refine gL ?_);refine aL H ?_))|((with_reducible first|refine ch (hrest _ (H.blk .zero).2) H ?_|refine ch (hcp _) H ?_|refine ch (zG3 T2 T2 [] false hTl2 hc _ (ZZ _ H.keep)) H ?_);clear H;intro w H))
   (refine xctS Tryd.results81 H ?_)
   exact⟨H.keep,rfl,(H.blk .zero).2⟩
  | some k =>
   rw[hf]at E;simp only[]at E;have hc:=zMX (by simp) hf
   have hk:=zHV hf;clear hf;simp only[List.length_drop,List.length_cons,List.length_nil]at hk hle
   generalize hnm:(L.drop (i+2)).take k=nm at E hc
   have hnl:nm.length=k:=by rw[← hnm];simp;omega
   have hnl2:(nm.length:Int)=(k:Int):=by rw[hnl]
   clear hnm;have hch:=fun w=>zNI nm w
   generalize hB:(L.drop (i+2)).drop (k+[58,93].length)=B at hc
   clear hB
   cases hn:atP nm 0 [94]
   ·rw[hn]at E hch;simp only[Bool.false_eq_true,if_false]at E hch;clear hn
    cases hnn:zEu nm with
    | none =>
     rw[hnn]at E;simp only[]at E;rw[E];clear E
     generalize hT:L.drop i=T at hrest hcp hTl
     generalize hT2:L.drop (i+2)=T2 at hc hcp hTl2
     clear hT hT2 hnl
     go_enter Tryd.func81,Tryd.ntmps81
     go_wp2_with (first|((first|((with_reducible refine kgA 2 ?_);refine kA 2 H ?_)|((with_reducible refine kgX 2 ?_);(first|refine kS 2 H ?_|refine kB 2 H ?_)));clear H;intro b2 w H;try simp only[nr]at H)|(first|((with_reducible refine gT ?_);((first|refine aS H ?_|refine aO H ?_);clear H;intro w H;try simp only[nr]at H))|((with_reducible refine gL ?_);refine aG H ?_))|((with_reducible first|refine ch (hrest _ (H.blk .zero).2) H ?_|refine ch (hcp _) H ?_|refine ch (hch _) H ?_|refine ch (zG3 T2 nm B true hTl2 hc _ (ZZ _ H.keep)) H ?_);clear H;intro w H)|(go_at_call 80;(with_reducible refine(zDs _).mono ?_);rintro e w ⟨⟨mb,es,mc,rfl,hmn,hmh,hM⟩,hb⟩;replace H:=H.gainMp hb hmn hmh;clear hb hmn hmh;try simp only[nr]at H)|((with_reducible show @wpList _ _ _ ({dst:=_,op:=Op.lookup _ _ _ true,type:=_,pos:=_,after:=_,guard:=_}::_) _ _);refine zDO wtd_ _ _ _ rfl Tryd.underlying133 Tryd.underlying9 rfl evd_ H atd_ hM (by first|trivial|rfl) ⟨(show zBM _=none by rw[zEF,hnn];rfl),zHa⟩ ?_)|((with_reducible refine ch (zBu _) H ?_);clear H;intro w H))
     exact⟨rfl,H.keep,rfl⟩
    | some s =>
     rw[hnn]at E;simp only[]at E;rw[E];clear E
     generalize hT:L.drop i=T at hrest hcp hTl
     generalize hT2:L.drop (i+2)=T2 at hc hcp hTl2
     clear hT hT2 hnl
     go_enter Tryd.func81,Tryd.ntmps81
     go_wp2_with (first|((first|((with_reducible refine kgA 2 ?_);refine kA 2 H ?_)|((with_reducible refine kgX 2 ?_);(first|refine kS 2 H ?_|refine kB 2 H ?_)));clear H;intro b2 w H;try simp only[nr]at H)|(first|((with_reducible refine gT ?_);((first|refine aS H ?_|refine aO H ?_);clear H;intro w H;try simp only[nr]at H))|((with_reducible refine gL ?_);(first|refine aL H ?_|refine aG H ?_)))|((with_reducible first|refine ch (hrest _ (H.blk .zero).2) H ?_|refine ch (hcp _) H ?_|refine ch (hch _) H ?_|refine ch (zG3 T2 nm B true hTl2 hc _ (ZZ _ H.keep)) H ?_);clear H;intro w H)|(go_at_call 80;(with_reducible refine(zDs _).mono ?_);rintro e w ⟨⟨mb,es,mc,rfl,hmn,hmh,hM⟩,hb⟩;replace H:=H.gainMp hb hmn hmh;clear hb hmn hmh;try simp only[nr]at H)|((with_reducible show @wpList _ _ _ ({dst:=_,op:=Op.lookup _ _ _ true,type:=_,pos:=_,after:=_,guard:=_}::_) _ _);refine zEc wtd_ _ _ _ rfl Tryd.underlying133 Tryd.underlying9 rfl evd_ H atd_ hM (by first|trivial|rfl) (show zBM _=some (setV s) by rw[zEF,hnn];rfl) ?_)|((with_reducible refine ch (zBB _) H ?_);clear H;intro w H))
     (refine xctS Tryd.results81 H ?_)
     refine⟨H.keep,rfl,?_⟩
     rw[(H.blk .zero).2];rw[show ((i:Int)+((k:Int)+4))=((i+2+k+2:Nat):Int) from by omega]
   ·rw[hn]at E hch;simp only[if_true]at E hch;clear hn
    cases hnn:zEu (nm.drop 1) with
    | none =>
     rw[hnn]at E;simp only[]at E;rw[E];clear E
     generalize hT:L.drop i=T at hrest hcp hTl
     generalize hT2:L.drop (i+2)=T2 at hc hcp hTl2
     generalize hT3:nm.drop 1=nm2 at hnn hch
     clear hT hT2 hnl hT3
     go_enter Tryd.func81,Tryd.ntmps81
     go_wp2_with (first|((first|((with_reducible refine kgA 2 ?_);refine kA 2 H ?_)|((with_reducible refine kgX 2 ?_);(first|refine kS 2 H ?_|refine kB 2 H ?_)));clear H;intro b2 w H;try simp only[nr]at H)|(first|((with_reducible refine gT ?_);((first|refine aS H ?_|refine aO H ?_);clear H;intro w H;try simp only[nr]at H))|((with_reducible refine gL ?_);refine aG H ?_))|((with_reducible first|refine ch (hrest _ (H.blk .zero).2) H ?_|refine ch (hcp _) H ?_|refine ch (hch _) H ?_|refine ch (zG3 T2 nm B true hTl2 hc _ (ZZ _ H.keep)) H ?_);clear H;intro w H)|(go_at_call 80;(with_reducible refine(zDs _).mono ?_);rintro e w ⟨⟨mb,es,mc,rfl,hmn,hmh,hM⟩,hb⟩;replace H:=H.gainMp hb hmn hmh;clear hb hmn hmh;try simp only[nr]at H)|((with_reducible show @wpList _ _ _ ({dst:=_,op:=Op.lookup _ _ _ true,type:=_,pos:=_,after:=_,guard:=_}::_) _ _);refine zDO wtd_ _ _ _ rfl Tryd.underlying133 Tryd.underlying9 rfl evd_ H atd_ hM (by first|trivial|rfl) ⟨(show zBM _=none by rw[zEF,hnn];rfl),zHa⟩ ?_)|((with_reducible refine ch (zBu _) H ?_);clear H;intro w H))
     exact⟨rfl,H.keep,rfl⟩
    | some s =>
     rw[hnn]at E;simp only[]at E;rw[E];clear E;have hso:=zIN hnn
     generalize hT:L.drop i=T at hrest hcp hTl
     generalize hT2:L.drop (i+2)=T2 at hc hcp hTl2
     generalize hT3:nm.drop 1=nm2 at hnn hch
     clear hT hT2 hnl hT3
     go_enter Tryd.func81,Tryd.ntmps81
     go_wp2_with (first|((first|((with_reducible refine kgA 2 ?_);refine kA 2 H ?_)|((with_reducible refine kgX 2 ?_);(first|refine kS 2 H ?_|refine kB 2 H ?_)));clear H;intro b2 w H;try simp only[nr]at H)|(first|((with_reducible refine gT ?_);((first|refine aS H ?_|refine aO H ?_);clear H;intro w H;try simp only[nr]at H))|((with_reducible refine gL ?_);(first|refine aL H ?_|refine aG H ?_)))|((with_reducible first|refine ch (hrest _ (H.blk .zero).2) H ?_|refine ch (hcp _) H ?_|refine ch (hch _) H ?_|refine ch (zG3 T2 nm B true hTl2 hc _ (ZZ _ H.keep)) H ?_);clear H;intro w H)|(go_at_call 80;(with_reducible refine(zDs _).mono ?_);rintro e w ⟨⟨mb,es,mc,rfl,hmn,hmh,hM⟩,hb⟩;replace H:=H.gainMp hb hmn hmh;clear hb hmn hmh;try simp only[nr]at H)|((with_reducible show @wpList _ _ _ ({dst:=_,op:=Op.lookup _ _ _ true,type:=_,pos:=_,after:=_,guard:=_}::_) _ _);refine zEc wtd_ _ _ _ rfl Tryd.underlying133 Tryd.underlying9 rfl evd_ H atd_ hM (by first|trivial|rfl) (show zBM _=some (setV s) by rw[zEF,hnn];rfl) ?_)|((with_reducible first|refine ch (zBB _) H ?_|refine ch (zCO s hso _) H ?_);clear H;intro w H))
     (refine xctS Tryd.results81 H ?_)
     refine⟨H.keep,rfl,?_⟩
     rw[(H.blk .zero).2];rw[show ((i:Int)+((k:Int)+4))=((i+2+k+2:Nat):Int) from by omega]
theorem zBl (rb:Nat) (L:Str) (i:Nat) (U:TypeId) (hL:L.length≤2000) (hi:i≤L.length) (hrb:rb≠0) {r:Except Nat (Value × Nat)} (hx:zGK L i=r) (w0:World) (hz:MaxL w0) (hr:w0.heap[rb]?=some (.cells (rdC L i) U (0,0))) :
  Calls Tryd.prog 81 #[ptrV rb] w0 (zAz rb L U w0 r):=hx ▸ zNU rb L i U hL hi hrb w0 hz hr
theorem zBk (rb:Nat) (L:Str) (i:Nat) (U:TypeId) (hL:L.length≤2000) (hi:i≤L.length) {r:Value × Nat} (hx:zF8 L i=r) (w0:World) (hr:w0.heap[rb]?=some (.cells (rdC L i) U (0,0))) :
  Calls Tryd.prog 68 #[ptrV rb] w0 (zAz rb L U w0 (.ok r)):=hx ▸ zNV rb L i U hL hi w0 hr
theorem of_1 (c:Nat) (hc:c<256) (v:Value) (w:World) (h:Rd w w.heap.size v [.int .u8 c]):Calls Tryd.prog 28 #[v] w (Rt (setV (ofS [(c:Int)])) w) :=
 zFD v [(c:Int)] (by intro x hx;simp at hx;subst hx;omega) w h
def zE2 (L:Str) (i:Nat):Except Nat (Value × Nat):=match zIb L i with|some (s,e)=>.ok (setV s,e)|none=>.error 4
theorem zNT (rb:Nat) (L:Str) (i:Nat) (U:TypeId) (hL:L.length≤2000) (hi:i≤L.length) (hrb:rb≠0) (w0:World) (hz:MaxL w0) (hr:w0.heap[rb]?=some (.cells (rdC L i) U (0,0))) :
  Calls Tryd.prog 70 #[ptrV rb] w0 (zAz rb L U w0 (zE2 L i)):=by
 have H:=HoldG.startB hr;have E:zE2 L i=zE2 L i:=rfl
 conv at E=>rhs;unfold zE2 zIb
 have ZZ:∀ W,KeepBut (·=rb) w0.heap.size w0 W→MaxL W:=fun W hk=>hz.keep hrb hk
 cases hn:zKG L i with
 | some o =>
  cases o with
  | none =>
   rw[hn]at E;simp only[]at E;rw[E];clear E;have hN:zGK L i=.error 4:=by unfold zGK;rw[hn]
   clear hn
   go_enter Tryd.func70,Tryd.ntmps70
   go_wp2_with (first|((first|((with_reducible refine kgA 2 ?_);refine kA 2 H ?_)|((with_reducible refine kgX 2 ?_);(first|refine kS 2 H ?_|refine kB 2 H ?_)));clear H;intro b2 w H;try simp only[nr]at H)|fail|(go_at_call 81;(with_reducible refine(zBl rb L i U hL hi hrb hN _ (ZZ _ H.keep) (H.blk .zero).2).mono ?_);rintro e w ⟨hk,rfl⟩;exact⟨rfl,H.keep.trans (hk.mono H.keep.size (fun _ _ m=>m)),rfl⟩))
  | some p =>
   obtain⟨s,e⟩:=p;rw[hn]at E;simp only[]at E;rw[E];clear E;have hN:zGK L i=.ok (.tuple #[setV s,.bool true],e):=by unfold zGK;rw[hn]
   clear hn
   go_enter Tryd.func70,Tryd.ntmps70
   go_wp2_with (first|((first|((with_reducible refine kgA 2 ?_);refine kA 2 H ?_)|((with_reducible refine kgX 2 ?_);(first|refine kS 2 H ?_|refine kB 2 H ?_)));clear H;intro b2 w H;try simp only[nr]at H)|((first|((with_reducible refine kgA 3 ?_);refine kA 3 H ?_)|((with_reducible refine kgX 3 ?_);(first|refine kS 3 H ?_|refine kB 3 H ?_)));clear H;intro b3 w H;try simp only[nr]at H)|(first|((with_reducible refine gT ?_);(refine aS H ?_;clear H;intro w H;try simp only[nr]at H))|((with_reducible refine gL ?_);refine aL H ?_))|(go_at_call 81;(with_reducible refine(zBl rb L i U hL hi hrb hN _ (ZZ _ H.keep) (H.blk .zero).2).mono ?_);rintro e w ⟨hk,rfl,hr⟩;replace H:=H.callBut atd_ hk hr;clear hk hr;try simp only[nr]at H))
   (refine xcS Tryd.results70 H ?_)
   exact⟨H.keep,rfl,(H.blk .zero).2⟩
 | none =>
  rw[hn]at E;simp only[]at E;have hN:zGK L i=.ok (.tuple #[setV zAF,.bool false],i):=by unfold zGK;rw[hn]
  clear hn
  cases hm:zII L i with
  | some s =>
   have hm':=hm;unfold zII at hm';rw[hm']at E;simp only[]at E;rw[E];clear E hm';have hM2:zF8 L i=(.tuple #[setV s,.bool true],i+2):=by unfold zF8;rw[hm]
   clear hm
   go_enter Tryd.func70,Tryd.ntmps70
   go_wp2_with (first|((first|((with_reducible refine kgA 2 ?_);refine kA 2 H ?_)|((with_reducible refine kgX 2 ?_);(first|refine kS 2 H ?_|refine kB 2 H ?_)));clear H;intro b2 w H;try simp only[nr]at H)|((first|((with_reducible refine kgA 3 ?_);refine kA 3 H ?_)|((with_reducible refine kgX 3 ?_);(first|refine kS 3 H ?_|refine kB 3 H ?_)));clear H;intro b3 w H;try simp only[nr]at H)|((first|((with_reducible refine kgA 5 ?_);refine kA 5 H ?_)|((with_reducible refine kgX 5 ?_);(first|refine kS 5 H ?_|refine kB 5 H ?_)));clear H;intro b5 w H;try simp only[nr]at H)|(first|((with_reducible refine gT ?_);(refine aS H ?_;clear H;intro w H;try simp only[nr]at H))|((with_reducible refine gL ?_);refine aL H ?_))|(go_at_call 81;(with_reducible refine(zBl rb L i U hL hi hrb hN _ (ZZ _ H.keep) (H.blk .zero).2).mono ?_);rintro e w ⟨hk,rfl,hr⟩;replace H:=H.callBut atd_ hk hr;clear hk hr;try simp only[nr]at H)|(go_at_call 68;(with_reducible refine(zBk rb L i U hL hi hM2 _ (H.blk .zero).2).mono ?_);rintro e w ⟨hk,rfl,hr⟩;replace H:=H.callBut atd_ hk hr;clear hk hr;try simp only[nr]at H))
   (refine xcS Tryd.results70 H ?_)
   exact⟨H.keep,rfl,(H.blk .zero).2⟩
  | none =>
   have hm':=hm;unfold zII at hm';rw[hm']at E;simp only[]at E;clear hm';have hM2:zF8 L i=(.tuple #[setV zAF,.bool false],i):=by unfold zF8;rw[hm]
   clear hm;unfold zFe at E
   cases ht:zEV L i with
   | none =>
    rw[ht]at E;simp only[]at E;rw[E];clear E
    go_enter Tryd.func70,Tryd.ntmps70
    go_wp2_with (first|((first|((with_reducible refine kgA 2 ?_);refine kA 2 H ?_)|((with_reducible refine kgX 2 ?_);(first|refine kS 2 H ?_|refine kB 2 H ?_)));clear H;intro b2 w H;try simp only[nr]at H)|((first|((with_reducible refine kgA 3 ?_);refine kA 3 H ?_)|((with_reducible refine kgX 3 ?_);(first|refine kS 3 H ?_|refine kB 3 H ?_)));clear H;intro b3 w H;try simp only[nr]at H)|((first|((with_reducible refine kgA 5 ?_);refine kA 5 H ?_)|((with_reducible refine kgX 5 ?_);(first|refine kS 5 H ?_|refine kB 5 H ?_)));clear H;intro b5 w H;try simp only[nr]at H)|((with_reducible refine gT ?_);(refine aS H ?_;clear H;intro w H;try simp only[nr]at H))|(go_at_call 81;(with_reducible refine(zBl rb L i U hL hi hrb hN _ (ZZ _ H.keep) (H.blk .zero).2).mono ?_);rintro e w ⟨hk,rfl,hr⟩;replace H:=H.callBut atd_ hk hr;clear hk hr;try simp only[nr]at H)|(go_at_call 68;(with_reducible refine(zBk rb L i U hL hi hM2 _ (H.blk .zero).2).mono ?_);rintro e w ⟨hk,rfl,hr⟩;replace H:=H.callBut atd_ hk hr;clear hk hr;try simp only[nr]at H)|(go_at_call 82;(with_reducible refine(zH9 rb L i U hL hi ht _ (H.blk .zero).2).mono ?_);rintro e w ⟨hk,rfl⟩;exact⟨rfl,H.keep.trans (hk.mono H.keep.size (fun _ _ m=>m)),rfl⟩))
   | some p =>
    obtain⟨lo,k⟩:=p;rw[ht]at E;simp only[]at E;obtain⟨hk1,hk2,hlo⟩:=zEs ht;have hrest:=fun w h=>zFC rb L k U hk2 w h
    generalize hT:L.drop k=T at hrest
    have hT0:=zFw hT 0;have hT1:=zFw hT 1;have hTl:=zJI hT;rw[Nat.add_zero]at hT0;rw[← hT0,← hT1]at E;clear hT
    by_cases h1:k+1<L.length
    ·have d1:decide ((T.length:Int)<2)=false:=by simp;omega
     have hlen:1<T.length:=by omega
     have hb0:=zDy T 0;have hb1:=zDy T 1
     by_cases h45:byt T 0=45
     ·have d45:(((byt T 0:Nat):Int) == 45)=true:=by rw[beq_iff_eq];omega
      have e45:(((byt T 0:Nat):Int) != 45)=false:=by unfold bne;rw[d45];rfl
      by_cases h93:byt T 1=93
      ·have d93:(((byt T 1:Nat):Int) == 93)=true:=by rw[beq_iff_eq];omega
       rw[if_neg (fun h=>h.2.2 h93)]at E;simp only[]at E
       rw[E];clear E h45 h93 hT0 hT1 hTl
       go_enter Tryd.func70,Tryd.ntmps70
       go_wp2_with (first|((first|((with_reducible refine kgA 2 ?_);refine kA 2 H ?_)|((with_reducible refine kgX 2 ?_);(first|refine kS 2 H ?_|refine kB 2 H ?_)));clear H;intro b2 w H;try simp only[nr]at H)|((first|((with_reducible refine kgA 3 ?_);refine kA 3 H ?_)|((with_reducible refine kgX 3 ?_);(first|refine kS 3 H ?_|refine kB 3 H ?_)));clear H;intro b3 w H;try simp only[nr]at H)|((first|((with_reducible refine kgA 5 ?_);refine kA 5 H ?_)|((with_reducible refine kgX 5 ?_);(first|refine kS 5 H ?_|refine kB 5 H ?_)));clear H;intro b5 w H;try simp only[nr]at H)|(first|((with_reducible refine gT ?_);(refine aS H ?_;clear H;intro w H;try simp only[nr]at H))|((with_reducible refine gI ?_);refine aI ?_))|(go_at_call 81;(with_reducible refine(zBl rb L i U hL hi hrb hN _ (ZZ _ H.keep) (H.blk .zero).2).mono ?_);rintro e w ⟨hk,rfl,hr⟩;replace H:=H.callBut atd_ hk hr;clear hk hr;try simp only[nr]at H)|(go_at_call 68;(with_reducible refine(zBk rb L i U hL hi hM2 _ (H.blk .zero).2).mono ?_);rintro e w ⟨hk,rfl,hr⟩;replace H:=H.callBut atd_ hk hr;clear hk hr;try simp only[nr]at H)|(go_at_call 82;(with_reducible refine(zCr rb L i U hL hi ht _ (H.blk .zero).2).mono ?_);rintro e w ⟨hk,rfl,hr⟩;replace H:=H.callBut atd_ hk hr;clear hk hr;try simp only[nr]at H)|((with_reducible refine ch (hrest _ (H.blk .zero).2) H ?_);clear H;intro w H)|((with_reducible refine gBS ?_);refine zCA wtd_ _ _ _ rfl H (#[.int .u8 lo]) 5 (by intro W;simp only[ml];(try simp only[pe]);(try unfold setV);simp[go_sem]<;>rfl) ?_;clear H;intro b w H;try simp only[nr]at H)|((with_reducible refine ch (of_1 lo hlo _ _ (H.rdn (cs:=[.int .u8 lo]) atd_ (by simp) (by simp[maxLen]))) H ?_);clear H;intro w H))
       (refine xcS Tryd.results70 H ?_)
       exact⟨H.keep,rfl,(H.blk .zero).2⟩
      ·have d93:(((byt T 1:Nat):Int) == 93)=false:=by rw[beq_eq_false_iff_ne];omega
       rw[if_pos ⟨h1,h45,h93⟩]at E;clear h45 h93 hT0 hT1 hTl
       cases ht2:zEV L (k+1) with
       | none =>
        rw[ht2]at E;simp only[]at E;rw[E];clear E
        go_enter Tryd.func70,Tryd.ntmps70
        go_wp2_with (first|((first|((with_reducible refine kgA 2 ?_);refine kA 2 H ?_)|((with_reducible refine kgX 2 ?_);(first|refine kS 2 H ?_|refine kB 2 H ?_)));clear H;intro b2 w H;try simp only[nr]at H)|((first|((with_reducible refine kgA 3 ?_);refine kA 3 H ?_)|((with_reducible refine kgX 3 ?_);(first|refine kS 3 H ?_|refine kB 3 H ?_)));clear H;intro b3 w H;try simp only[nr]at H)|((first|((with_reducible refine kgA 5 ?_);refine kA 5 H ?_)|((with_reducible refine kgX 5 ?_);(first|refine kS 5 H ?_|refine kB 5 H ?_)));clear H;intro b5 w H;try simp only[nr]at H)|(first|((with_reducible refine gT ?_);((first|refine aS H ?_|refine aO H ?_);clear H;intro w H;try simp only[nr]at H))|((with_reducible refine gL ?_);refine aG H ?_)|((with_reducible refine gI ?_);refine aI ?_))|(go_at_call 81;(with_reducible refine(zBl rb L i U hL hi hrb hN _ (ZZ _ H.keep) (H.blk .zero).2).mono ?_);rintro e w ⟨hk,rfl,hr⟩;replace H:=H.callBut atd_ hk hr;clear hk hr;try simp only[nr]at H)|(go_at_call 68;(with_reducible refine(zBk rb L i U hL hi hM2 _ (H.blk .zero).2).mono ?_);rintro e w ⟨hk,rfl,hr⟩;replace H:=H.callBut atd_ hk hr;clear hk hr;try simp only[nr]at H)|(go_at_call 82;(with_reducible refine(zCr rb L i U hL hi ht _ (H.blk .zero).2).mono ?_);rintro e w ⟨hk,rfl,hr⟩;replace H:=H.callBut atd_ hk hr;clear hk hr;try simp only[nr]at H)|((with_reducible refine ch (hrest _ (H.blk .zero).2) H ?_);clear H;intro w H)|(go_at_call 82;(with_reducible refine(zH9 rb L (k+1) U hL (by omega) ht2 _ (H.blk .zero).2).mono ?_);rintro e w ⟨hk,rfl⟩;exact⟨rfl,H.keep.trans (hk.mono H.keep.size (fun _ _ m=>m)),rfl⟩))
       | some q =>
        obtain⟨hj,e⟩:=q;rw[ht2]at E;simp only[]at E;obtain⟨_,_,hhj⟩:=zEs ht2
        by_cases hle:lo≤hj
        ·have dle:decide ((lo:Int)≤(hj:Int))=true:=by simp;omega
         rw[if_pos hle]at E;simp only[]at E;rw[E];clear E
         go_enter Tryd.func70,Tryd.ntmps70
         go_wp2_with (first|((first|((with_reducible refine kgA 2 ?_);refine kA 2 H ?_)|((with_reducible refine kgX 2 ?_);(first|refine kS 2 H ?_|refine kB 2 H ?_)));clear H;intro b2 w H;try simp only[nr]at H)|((first|((with_reducible refine kgA 3 ?_);refine kA 3 H ?_)|((with_reducible refine kgX 3 ?_);(first|refine kS 3 H ?_|refine kB 3 H ?_)));clear H;intro b3 w H;try simp only[nr]at H)|((first|((with_reducible refine kgA 5 ?_);refine kA 5 H ?_)|((with_reducible refine kgX 5 ?_);(first|refine kS 5 H ?_|refine kB 5 H ?_)));clear H;intro b5 w H;try simp only[nr]at H)|(first|((with_reducible refine gT ?_);((first|refine aS H ?_|refine aO H ?_);clear H;intro w H;try simp only[nr]at H))|((with_reducible refine gL ?_);refine aG H ?_)|((with_reducible refine gI ?_);refine aI ?_))|(go_at_call 81;(with_reducible refine(zBl rb L i U hL hi hrb hN _ (ZZ _ H.keep) (H.blk .zero).2).mono ?_);rintro e w ⟨hk,rfl,hr⟩;replace H:=H.callBut atd_ hk hr;clear hk hr;try simp only[nr]at H)|(go_at_call 68;(with_reducible refine(zBk rb L i U hL hi hM2 _ (H.blk .zero).2).mono ?_);rintro e w ⟨hk,rfl,hr⟩;replace H:=H.callBut atd_ hk hr;clear hk hr;try simp only[nr]at H)|(go_at_call 82;(with_reducible refine(zCr rb L i U hL hi ht _ (H.blk .zero).2).mono ?_);rintro e w ⟨hk,rfl,hr⟩;replace H:=H.callBut atd_ hk hr;clear hk hr;try simp only[nr]at H)|((with_reducible refine ch (hrest _ (H.blk .zero).2) H ?_);clear H;intro w H)|(go_at_call 82;(with_reducible refine(zCr rb L (k+1) U hL (by omega) ht2 _ (H.blk .zero).2).mono ?_);rintro e w ⟨hk,rfl,hr⟩;replace H:=H.callBut atd_ hk hr;clear hk hr;try simp only[nr]at H)|((with_reducible first|refine ch (zBB _) H ?_|refine ch (zB5 lo hj (by omega) (by omega) _) H ?_);clear H;intro w H))
         (refine xcS Tryd.results70 H ?_)
         exact⟨H.keep,rfl,(H.blk .zero).2⟩
        ·have dle:decide ((lo:Int)≤(hj:Int))=false:=by simp;omega
         rw[if_neg hle]at E;simp only[]at E;rw[E];clear E
         go_enter Tryd.func70,Tryd.ntmps70
         go_wp2_with (first|((first|((with_reducible refine kgA 2 ?_);refine kA 2 H ?_)|((with_reducible refine kgX 2 ?_);(first|refine kS 2 H ?_|refine kB 2 H ?_)));clear H;intro b2 w H;try simp only[nr]at H)|((first|((with_reducible refine kgA 3 ?_);refine kA 3 H ?_)|((with_reducible refine kgX 3 ?_);(first|refine kS 3 H ?_|refine kB 3 H ?_)));clear H;intro b3 w H;try simp only[nr]at H)|((first|((with_reducible refine kgA 5 ?_);refine kA 5 H ?_)|((with_reducible refine kgX 5 ?_);(first|refine kS 5 H ?_|refine kB 5 H ?_)));clear H;intro b5 w H;try simp only[nr]at H)|(first|((with_reducible refine gT ?_);((first|refine aS H ?_|refine aO H ?_);clear H;intro w H;try simp only[nr]at H))|((with_reducible refine gL ?_);refine aG H ?_)|((with_reducible refine gI ?_);refine aI ?_))|(go_at_call 81;(with_reducible refine(zBl rb L i U hL hi hrb hN _ (ZZ _ H.keep) (H.blk .zero).2).mono ?_);rintro e w ⟨hk,rfl,hr⟩;replace H:=H.callBut atd_ hk hr;clear hk hr;try simp only[nr]at H)|(go_at_call 68;(with_reducible refine(zBk rb L i U hL hi hM2 _ (H.blk .zero).2).mono ?_);rintro e w ⟨hk,rfl,hr⟩;replace H:=H.callBut atd_ hk hr;clear hk hr;try simp only[nr]at H)|(go_at_call 82;(with_reducible refine(zCr rb L i U hL hi ht _ (H.blk .zero).2).mono ?_);rintro e w ⟨hk,rfl,hr⟩;replace H:=H.callBut atd_ hk hr;clear hk hr;try simp only[nr]at H)|((with_reducible refine ch (hrest _ (H.blk .zero).2) H ?_);clear H;intro w H)|(go_at_call 82;(with_reducible refine(zCr rb L (k+1) U hL (by omega) ht2 _ (H.blk .zero).2).mono ?_);rintro e w ⟨hk,rfl,hr⟩;replace H:=H.callBut atd_ hk hr;clear hk hr;try simp only[nr]at H)|((with_reducible refine ch (zBu _) H ?_);clear H;intro w H))
         exact⟨rfl,H.keep,rfl⟩
     ·have d45:(((byt T 0:Nat):Int) == 45)=false:=by rw[beq_eq_false_iff_ne];omega
      have e45:(((byt T 0:Nat):Int) != 45)=true:=by unfold bne;rw[d45];rfl
      rw[if_neg (fun h=>h45 h.2.1)]at E;simp only[]at E
      rw[E];clear E h45 hT0 hT1 hTl
      go_enter Tryd.func70,Tryd.ntmps70
      go_wp2_with (first|((first|((with_reducible refine kgA 2 ?_);refine kA 2 H ?_)|((with_reducible refine kgX 2 ?_);(first|refine kS 2 H ?_|refine kB 2 H ?_)));clear H;intro b2 w H;try simp only[nr]at H)|((first|((with_reducible refine kgA 3 ?_);refine kA 3 H ?_)|((with_reducible refine kgX 3 ?_);(first|refine kS 3 H ?_|refine kB 3 H ?_)));clear H;intro b3 w H;try simp only[nr]at H)|((first|((with_reducible refine kgA 5 ?_);refine kA 5 H ?_)|((with_reducible refine kgX 5 ?_);(first|refine kS 5 H ?_|refine kB 5 H ?_)));clear H;intro b5 w H;try simp only[nr]at H)|(first|((with_reducible refine gT ?_);(refine aS H ?_;clear H;intro w H;try simp only[nr]at H))|((with_reducible refine gI ?_);refine aI ?_))|(go_at_call 81;(with_reducible refine(zBl rb L i U hL hi hrb hN _ (ZZ _ H.keep) (H.blk .zero).2).mono ?_);rintro e w ⟨hk,rfl,hr⟩;replace H:=H.callBut atd_ hk hr;clear hk hr;try simp only[nr]at H)|(go_at_call 68;(with_reducible refine(zBk rb L i U hL hi hM2 _ (H.blk .zero).2).mono ?_);rintro e w ⟨hk,rfl,hr⟩;replace H:=H.callBut atd_ hk hr;clear hk hr;try simp only[nr]at H)|(go_at_call 82;(with_reducible refine(zCr rb L i U hL hi ht _ (H.blk .zero).2).mono ?_);rintro e w ⟨hk,rfl,hr⟩;replace H:=H.callBut atd_ hk hr;clear hk hr;try simp only[nr]at H)|((with_reducible refine ch (hrest _ (H.blk .zero).2) H ?_);clear H;intro w H)|((with_reducible refine gBS ?_);refine zCA wtd_ _ _ _ rfl H (#[.int .u8 lo]) 5 (by intro W;simp only[ml];(try simp only[pe]);(try unfold setV);simp[go_sem]<;>rfl) ?_;clear H;intro b w H;try simp only[nr]at H)|((with_reducible refine ch (of_1 lo hlo _ _ (H.rdn (cs:=[.int .u8 lo]) atd_ (by simp) (by simp[maxLen]))) H ?_);clear H;intro w H))
      (refine xcS Tryd.results70 H ?_)
      exact⟨H.keep,rfl,(H.blk .zero).2⟩
    ·have d1:decide ((T.length:Int)<2)=true:=by simp;omega
     rw[if_neg (fun h=>h1 h.1)]at E;simp only[]at E
     rw[E];clear E hT0 hT1 hTl
     go_enter Tryd.func70,Tryd.ntmps70
     go_wp2_with (first|((first|((with_reducible refine kgA 2 ?_);refine kA 2 H ?_)|((with_reducible refine kgX 2 ?_);(first|refine kS 2 H ?_|refine kB 2 H ?_)));clear H;intro b2 w H;try simp only[nr]at H)|((first|((with_reducible refine kgA 3 ?_);refine kA 3 H ?_)|((with_reducible refine kgX 3 ?_);(first|refine kS 3 H ?_|refine kB 3 H ?_)));clear H;intro b3 w H;try simp only[nr]at H)|((first|((with_reducible refine kgA 5 ?_);refine kA 5 H ?_)|((with_reducible refine kgX 5 ?_);(first|refine kS 5 H ?_|refine kB 5 H ?_)));clear H;intro b5 w H;try simp only[nr]at H)|((with_reducible refine gT ?_);(refine aS H ?_;clear H;intro w H;try simp only[nr]at H))|(go_at_call 81;(with_reducible refine(zBl rb L i U hL hi hrb hN _ (ZZ _ H.keep) (H.blk .zero).2).mono ?_);rintro e w ⟨hk,rfl,hr⟩;replace H:=H.callBut atd_ hk hr;clear hk hr;try simp only[nr]at H)|(go_at_call 68;(with_reducible refine(zBk rb L i U hL hi hM2 _ (H.blk .zero).2).mono ?_);rintro e w ⟨hk,rfl,hr⟩;replace H:=H.callBut atd_ hk hr;clear hk hr;try simp only[nr]at H)|(go_at_call 82;(with_reducible refine(zCr rb L i U hL hi ht _ (H.blk .zero).2).mono ?_);rintro e w ⟨hk,rfl,hr⟩;replace H:=H.callBut atd_ hk hr;clear hk hr;try simp only[nr]at H)|((with_reducible refine ch (hrest _ (H.blk .zero).2) H ?_);clear H;intro w H)|((with_reducible refine gBS ?_);refine zCA wtd_ _ _ _ rfl H (#[.int .u8 lo]) 5 (by intro W;simp only[ml];(try simp only[pe]);(try unfold setV);simp[go_sem]<;>rfl) ?_;clear H;intro b w H;try simp only[nr]at H)|((with_reducible refine ch (of_1 lo hlo _ _ (H.rdn (cs:=[.int .u8 lo]) atd_ (by simp) (by simp[maxLen]))) H ?_);clear H;intro w H))
     (refine xcS Tryd.results70 H ?_)
     exact⟨H.keep,rfl,(H.blk .zero).2⟩
end
end Go.Proofs.YtklcgfkdemifcaaDoor
