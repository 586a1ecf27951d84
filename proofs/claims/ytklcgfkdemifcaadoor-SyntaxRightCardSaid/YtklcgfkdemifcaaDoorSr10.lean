/-
  Laws of walks, and walks.
-/
import Derived.Test.YtklcgfkdemifcaaDoorSr3
import Derived.WalkSmall
import Derived.Test.YtklcgfkdemifcaaDoorSr8
import Derived.Test.YtklcgfkdemifcaaDoorSr4
set_option linter.unusedVariables false
set_option linter.unusedSimpArgs false
set_option maxRecDepth 100000
set_option maxHeartbeats 16000000
namespace Go.Proofs.YtklcgfkdemifcaaDoor
section
open Go.RowKit Go.Shelf
attribute [local go_sem] Oper.semAt_some
def zEC (n:Nat):List PanicEntry:=[{v:=.iface 32 (.int .i64 n),recovered:=false}]
abbrev rdC (L:Str) (i:Nat):Array Value:=#[.string ⟨L.toArray⟩,.int .i64 i]
abbrev ptrV (b:Nat):Value:=.pointer (some ⟨b,0,none⟩)
def zAz (rb:Nat) (L:Str) (U:TypeId) (w:World) (r:Except Nat (Value × Nat)) (e:Ending) (w':World):Prop :=
 KeepBut (·=rb) w.heap.size w w'∧match r with
 | .ok (v,j)=>e=.returned v∧w'.heap[rb]?=some (.cells (rdC L j) U (0,0))
 | .error n=>e=.panicked (zEC n)
theorem zI1 (n:Nat) (w0:World):Calls Tryd.prog 67 #[.bool true,.int .i64 n] w0 (Rt (.tuple #[]) w0):=by
 go_enter Tryd.func67,Tryd.ntmps67
 go_wp2
 exact⟨rfl,.tuple #[],(by simp[results,Tryd.f67,go_sem]),rfl,Below.refl _ _⟩
theorem zLA (n:Nat) (w0:World):Calls Tryd.prog 67 #[.bool false,.int .i64 n] w0 fun e w'=>e=.panicked (zEC n)∧Below w0.heap.size w0 w':=by
 go_enter Tryd.func67,Tryd.ntmps67
 go_wp2
 exact⟨rfl,rfl,Below.refl _ _⟩
theorem zBB (w0:World):Calls Tryd.prog 67 #[.bool true,.int .i64 4] w0 (Rt (.tuple #[]) w0):=zI1 4 w0
theorem zEk (w0:World):Calls Tryd.prog 67 #[.bool true,.int .i64 6] w0 (Rt (.tuple #[]) w0):=zI1 6 w0
theorem zBu (w0:World):Calls Tryd.prog 67 #[.bool false,.int .i64 4] w0 fun e w'=>e=.panicked (zEC 4)∧Below w0.heap.size w0 w':=zLA 4 w0
theorem zHD (w0:World):Calls Tryd.prog 67 #[.bool false,.int .i64 6] w0 fun e w'=>e=.panicked (zEC 6)∧Below w0.heap.size w0 w':=zLA 6 w0
section
variable {P:Program} {o:Oper} {a:Act} {w:World}
theorem zA7 {T:TypeId} {x:Operand} (ho:o.op=.load T x) (hT:oneB P T=true) {b k:Nat} (hx:a.eval x=.pointer (some ⟨b,k,none⟩)) {v:Value} (hv:w.cell? ⟨b,k,none⟩=some v):(execOp a.eval o).run P w=.ok (.value v) w:=by
 simp only[execOp,ho,hx,Instr.loadAt,Instr.sureAddr,Sem.run_bind,Sem.run_pure,Result.andThen_ok,zA4 hT hv]
theorem zIO {T:TypeId} {x lo:Operand} (ho:o.op=.slice T x (some lo) none none) (hT:P.underlying T=some .string) {L:Str} {y:Int} {i:Nat} (hx:a.eval x=.string ⟨L.toArray⟩) (hlo:a.eval lo=.int .i64 y) (hy:y=(i:Int))
  (h1:i≤L.length):(execOp a.eval o).run P w=.ok (.value (.string ⟨(L.drop i).toArray⟩)) w:=by
 subst hy;have hs:(⟨L.toArray⟩:ByteArray).size=L.length:=by simp[ByteArray.size]
 simp only[execOp,ho,hx,hlo,Option.map_some,Option.map_none,Sem.run_bind];rw[run_sliceAt_string _ T _ _ _ _ hT,run_slice_string_l w T ⟨L.toArray⟩ hT .i64 _ (by omega) (by rw[hs];omega),zLL,hs,List.take_length]
 rfl
theorem zDW {x:Operand} {t:TypeId} (hu:P.underlying t=some .string) {L:Str} (hop:o.op=Op.call {callee:=Callee.builtin Builtin.len,args:=#[x],argTypes:=#[t]})
  (hx:a.eval x=.string ⟨L.toArray⟩):(execOp a.eval o).run P w=.ok (.value (.int .i64 (L.length:Int))) w:=by
 have hs:(⟨L.toArray⟩:ByteArray).size=L.length:=by simp[ByteArray.size]
 simp only[execOp,hop,resolve,invoke,builtin,List.map_toArray,List.map_cons,List.map_nil,hx];simp[go_sem,Builtin.len_,run_underlying hu,hs]
end
theorem zFC (rb:Nat) (L:Str) (i:Nat) (U:TypeId) (hi:i≤L.length) (w0:World) (hr:w0.heap[rb]?=some (.cells (rdC L i) U (0,0))) :
  Calls Tryd.prog 72 #[ptrV rb] w0 (Rt (.string ⟨(L.drop i).toArray⟩) w0):=by
 have H:=HoldG.startB hr
 go_enter Tryd.func72,Tryd.ntmps72
 go_upto_region 1 with fail
 refine wr_ 10 [fun v _=>v=ptrV rb,fun v _=>v=ptrV rb,fun v _=>v=ptrV rb,fun v _=>v=.string ⟨L.toArray⟩,fun v _=>v=ptrV rb,fun v _=>v=ptrV rb,fun v _=>v=pt rb 1,fun v _=>v=.int .i64 (i:Int),fun v _=>v=.string ⟨(L.drop i).toArray⟩,fun v _=>v=.string ⟨(L.drop i).toArray⟩] ?ob ?en
 case ob =>
  refine⟨?_,?_,?_,?_,?_,?_,?_,?_,?_,?_,trivial⟩<;>intro A W h
  ·exact zAY rfl rfl (h.f 0)
  ·(have e3:A.eval (.tmp 3)=ptrV rb:=h.d 0 3;refine zAB rfl ?_;simp only[execOp,e3];(simp[go_sem]<;>first|done|omega|(rw[IntKind.wrap_i64];omega)|(rw[IntKind.wrap_u8];omega)|(rw[IntKind.wrap_u64];omega)))
  ·(have e4:A.eval (.tmp 4)=ptrV rb:=h.d 1 4;refine zAB rfl ?_;simp only[execOp,e4];(simp[go_sem]<;>first|done|omega|(rw[IntKind.wrap_i64];omega)|(rw[IntKind.wrap_u8];omega)|(rw[IntKind.wrap_u64];omega)))
  ·exact zAB rfl (zA7 rfl zAh (h.d 2 5) (((H.call h.below).cell .zero 0).trans rfl)) (by decide)
  ·exact zAY rfl rfl (h.f 0)
  ·(have e7:A.eval (.tmp 7)=ptrV rb:=h.d 4 7;refine zAB rfl ?_;simp only[execOp,e7];(simp[go_sem]<;>first|done|omega|(rw[IntKind.wrap_i64];omega)|(rw[IntKind.wrap_u8];omega)|(rw[IntKind.wrap_u64];omega)))
  ·(have e8:A.eval (.tmp 8)=ptrV rb:=h.d 5 8;refine zAB rfl ?_;simp only[execOp,e8];(simp[go_sem]<;>first|done|omega|(rw[IntKind.wrap_i64];omega)|(rw[IntKind.wrap_u8];omega)|(rw[IntKind.wrap_u64];omega)))
  ·exact zAB rfl (zA7 rfl zAJ (h.d 6 9) (((H.call h.below).cell .zero 1).trans rfl)) (by decide)
  ·exact zAB rfl (zIO rfl Tryd.underlying9 (h.d 3 6) (h.d 7 10) rfl hi) (by decide)
  ·exact zFl rfl rfl (h.d 8 11)
 case en =>
  intro vals W hbw hv _;simp only[fa,Nat.reduceAdd];rw[e_ hv 0,e_ hv 1,e_ hv 2,e_ hv 3,e_ hv 4,e_ hv 5,e_ hv 6,e_ hv 7,e_ hv 8,e_ hv 9];clear hv
  try simp only[pl]
  go_wp2
  go_ret;exact⟨rfl,hbw⟩
theorem zKm (rb:Nat) (L:Str) (i:Nat) (U:TypeId) (hL:L.length≤2000) (hi:i≤L.length) (w0:World) (hr:w0.heap[rb]?=some (.cells (rdC L i) U (0,0))) :
  Calls Tryd.prog 54 #[ptrV rb] w0 (zAz rb L U w0 (if i<L.length then .ok (.int .u8 (byt L i),i+1) else .error 4)):=by
 have H:=HoldG.startB hr
 by_cases hlt:i<L.length
 ·rw[if_pos hlt];have hd:decide ((i:Int)<(L.length:Int))=true:=by simp;omega
  have hb:=zDy L i
  go_enter Tryd.func54,Tryd.ntmps54
  go_upto_region 1 with fail
  refine wr_ 10 [fun v _=>v=ptrV rb,fun v _=>v=ptrV rb,fun v _=>v=pt rb 1,fun v _=>v=.int .i64 (i:Int),fun v _=>v=ptrV rb,fun v _=>v=ptrV rb,fun v _=>v=ptrV rb,fun v _=>v=.string ⟨L.toArray⟩,fun v _=>v=.int .i64 (L.length:Int),fun v _=>v=.bool true] ?ob ?en
  case ob =>
   refine⟨?_,?_,?_,?_,?_,?_,?_,?_,?_,?_,trivial⟩<;>intro A W h
   ·exact zAY rfl rfl (h.f 0)
   ·(have e3:A.eval (.tmp 3)=ptrV rb:=h.d 0 3;refine zAB rfl ?_;simp only[execOp,e3];(simp[go_sem]<;>first|done|omega|(rw[IntKind.wrap_i64];omega)|(rw[IntKind.wrap_u8];omega)|(rw[IntKind.wrap_u64];omega)))
   ·(have e4:A.eval (.tmp 4)=ptrV rb:=h.d 1 4;refine zAB rfl ?_;simp only[execOp,e4];(simp[go_sem]<;>first|done|omega|(rw[IntKind.wrap_i64];omega)|(rw[IntKind.wrap_u8];omega)|(rw[IntKind.wrap_u64];omega)))
   ·exact zAB rfl (zA7 rfl zAJ (h.d 2 5) (((H.call h.below).cell .zero 1).trans rfl)) (by decide)
   ·exact zAY rfl rfl (h.f 0)
   ·(have e7:A.eval (.tmp 7)=ptrV rb:=h.d 4 7;refine zAB rfl ?_;simp only[execOp,e7];(simp[go_sem]<;>first|done|omega|(rw[IntKind.wrap_i64];omega)|(rw[IntKind.wrap_u8];omega)|(rw[IntKind.wrap_u64];omega)))
   ·(have e8:A.eval (.tmp 8)=ptrV rb:=h.d 5 8;refine zAB rfl ?_;simp only[execOp,e8];(simp[go_sem]<;>first|done|omega|(rw[IntKind.wrap_i64];omega)|(rw[IntKind.wrap_u8];omega)|(rw[IntKind.wrap_u64];omega)))
   ·exact zAB rfl (zA7 rfl zAh (h.d 6 9) (((H.call h.below).cell .zero 0).trans rfl)) (by decide)
   ·exact zAB rfl (zDW Tryd.underlying9 rfl (h.d 7 10)) (by decide)
   ·(have e6:A.eval (.tmp 6)=.int .i64 (i:Int):=h.d 3 6;have e11:A.eval (.tmp 11)=.int .i64 (L.length:Int):=h.d 8 11;refine zAB rfl ?_;simp only[execOp,e6,e11];(simp[go_sem];exact hlt))
  case en =>
   intro vals W hbw hv _;simp only[fa,Nat.reduceAdd];rw[e_ hv 0,e_ hv 1,e_ hv 2,e_ hv 3,e_ hv 4,e_ hv 5,e_ hv 6,e_ hv 7,e_ hv 8,e_ hv 9];clear hv
   try simp only[pl]
   replace H:=H.call hbw;clear hbw
   go_wp2_with (first|(first|((with_reducible refine gT ?_);(refine aO H ?_;clear H;intro w H;try simp only[nr]at H))|((with_reducible refine gL ?_);refine aG H ?_))|((with_reducible refine ch (zBB _) H ?_);clear H;intro w H))
   clear hd
   go_upto_region 3 with fail
   refine wr_ 11 [fun v _=>v=ptrV rb,fun v _=>v=ptrV rb,fun v _=>v=ptrV rb,fun v _=>v=.string ⟨L.toArray⟩,fun v _=>v=ptrV rb,fun v _=>v=ptrV rb,fun v _=>v=pt rb 1,fun v _=>v=.int .i64 ((i:Int)+1),fun v _=>v=.int .i64 (i:Int),fun v _=>v=.int .u8 (byt L i:Int),fun v _=>v=.int .u8 (byt L i:Int)] ?ob ?en
   case ob =>
    refine⟨?_,?_,?_,?_,?_,?_,?_,?_,?_,?_,?_,trivial⟩<;>intro A W h
    ·exact zAY rfl rfl (h.f 0)
    ·(have e21:A.eval (.tmp 21)=ptrV rb:=h.d 0 21;refine zAB rfl ?_;simp only[execOp,e21];(simp[go_sem]<;>first|done|omega|(rw[IntKind.wrap_i64];omega)|(rw[IntKind.wrap_u8];omega)|(rw[IntKind.wrap_u64];omega)))
    ·(have e22:A.eval (.tmp 22)=ptrV rb:=h.d 1 22;refine zAB rfl ?_;simp only[execOp,e22];(simp[go_sem]<;>first|done|omega|(rw[IntKind.wrap_i64];omega)|(rw[IntKind.wrap_u8];omega)|(rw[IntKind.wrap_u64];omega)))
    ·exact zAB rfl (zA7 rfl zAh (h.d 2 23) (((H.call h.below).cell .zero 0).trans rfl)) (by decide)
    ·exact zAY rfl rfl (h.f 0)
    ·(have e25:A.eval (.tmp 25)=ptrV rb:=h.d 4 25;refine zAB rfl ?_;simp only[execOp,e25];(simp[go_sem]<;>first|done|omega|(rw[IntKind.wrap_i64];omega)|(rw[IntKind.wrap_u8];omega)|(rw[IntKind.wrap_u64];omega)))
    ·(have e26:A.eval (.tmp 26)=ptrV rb:=h.d 5 26;refine zAB rfl ?_;simp only[execOp,e26];(simp[go_sem]<;>first|done|omega|(rw[IntKind.wrap_i64];omega)|(rw[IntKind.wrap_u8];omega)|(rw[IntKind.wrap_u64];omega)))
    ·exact zAB rfl (zA7 rfl zAJ (h.d 6 27) (((H.call h.below).cell .zero 1).trans rfl)) (by decide)
    ·(have e28:A.eval (.tmp 28)=.int .i64 ((i:Int)+1):=h.d 7 28;refine zAB rfl ?_;simp only[execOp,e28];(simp[go_sem]<;>first|done|omega|(rw[IntKind.wrap_i64];omega)|(rw[IntKind.wrap_u8];omega)|(rw[IntKind.wrap_u64];omega)))
    ·exact zAB rfl (zC4 rfl Tryd.underlying9 (h.d 3 24) (h.d 8 29) rfl (by omega)) (by decide)
    ·exact zFl rfl rfl (h.d 9 30)
   case en =>
    intro vals W hbw hv _;simp only[fa,Nat.reduceAdd];rw[e_ hv 0,e_ hv 1,e_ hv 2,e_ hv 3,e_ hv 4,e_ hv 5,e_ hv 6,e_ hv 7,e_ hv 8,e_ hv 9,e_ hv 10];clear hv
    try simp only[pl]
    try simp only[pl]
    replace H:=H.call hbw;clear hbw
    go_wp2
    go_ret;exact⟨H.keep,rfl,(H.blk .zero).2⟩
 ·rw[if_neg hlt]
  go_enter Tryd.func54,Tryd.ntmps54
  go_upto_region 1 with fail
  refine wr_ 10 [fun v _=>v=ptrV rb,fun v _=>v=ptrV rb,fun v _=>v=pt rb 1,fun v _=>v=.int .i64 (i:Int),fun v _=>v=ptrV rb,fun v _=>v=ptrV rb,fun v _=>v=ptrV rb,fun v _=>v=.string ⟨L.toArray⟩,fun v _=>v=.int .i64 (L.length:Int),fun v _=>v=.bool false] ?ob ?en
  case ob =>
   refine⟨?_,?_,?_,?_,?_,?_,?_,?_,?_,?_,trivial⟩<;>intro A W h
   ·exact zAY rfl rfl (h.f 0)
   ·(have e3:A.eval (.tmp 3)=ptrV rb:=h.d 0 3;refine zAB rfl ?_;simp only[execOp,e3];(simp[go_sem]<;>first|done|omega|(rw[IntKind.wrap_i64];omega)|(rw[IntKind.wrap_u8];omega)|(rw[IntKind.wrap_u64];omega)))
   ·(have e4:A.eval (.tmp 4)=ptrV rb:=h.d 1 4;refine zAB rfl ?_;simp only[execOp,e4];(simp[go_sem]<;>first|done|omega|(rw[IntKind.wrap_i64];omega)|(rw[IntKind.wrap_u8];omega)|(rw[IntKind.wrap_u64];omega)))
   ·exact zAB rfl (zA7 rfl zAJ (h.d 2 5) (((H.call h.below).cell .zero 1).trans rfl)) (by decide)
   ·exact zAY rfl rfl (h.f 0)
   ·(have e7:A.eval (.tmp 7)=ptrV rb:=h.d 4 7;refine zAB rfl ?_;simp only[execOp,e7];(simp[go_sem]<;>first|done|omega|(rw[IntKind.wrap_i64];omega)|(rw[IntKind.wrap_u8];omega)|(rw[IntKind.wrap_u64];omega)))
   ·(have e8:A.eval (.tmp 8)=ptrV rb:=h.d 5 8;refine zAB rfl ?_;simp only[execOp,e8];(simp[go_sem]<;>first|done|omega|(rw[IntKind.wrap_i64];omega)|(rw[IntKind.wrap_u8];omega)|(rw[IntKind.wrap_u64];omega)))
   ·exact zAB rfl (zA7 rfl zAh (h.d 6 9) (((H.call h.below).cell .zero 0).trans rfl)) (by decide)
   ·exact zAB rfl (zDW Tryd.underlying9 rfl (h.d 7 10)) (by decide)
   ·(have e6:A.eval (.tmp 6)=.int .i64 (i:Int):=h.d 3 6;have e11:A.eval (.tmp 11)=.int .i64 (L.length:Int):=h.d 8 11;refine zAB rfl ?_;simp only[execOp,e6,e11];(simp[go_sem];omega))
  case en =>
   intro vals W hbw hv _;simp only[fa,Nat.reduceAdd];rw[e_ hv 0,e_ hv 1,e_ hv 2,e_ hv 3,e_ hv 4,e_ hv 5,e_ hv 6,e_ hv 7,e_ hv 8,e_ hv 9];clear hv
   try simp only[pl]
   replace H:=H.call hbw;clear hbw
   go_wp2_with (first|fail|((with_reducible refine ch (zBu _) H ?_);clear H;intro w H))
   exact⟨rfl,H.keep,rfl⟩
theorem zIP (L t:Str) (w0:World):Calls Tryd.prog 71 #[.string ⟨L.toArray⟩,.string ⟨t.toArray⟩] w0 (Rt (.bool (t.isPrefixOf L)) w0) :=
 (Tryd.strings_HasPrefix ⟨L.toArray⟩ ⟨t.toArray⟩ w0).mono (by
  rintro e w ⟨rfl,rfl⟩
  exact⟨by simp[Lib.hasPrefix],Below.refl _ _⟩)
theorem zK0 (rb:Nat) (L:Str) (i:Nat) (t:Str) (ht:t.length≤10) (U:TypeId) (hL:L.length≤2000) (hi:i≤L.length) (w0:World) (hr:w0.heap[rb]?=some (.cells (rdC L i) U (0,0))) :
  Calls Tryd.prog 57 #[ptrV rb,.string ⟨t.toArray⟩] w0 (zAz rb L U w0 (.ok (.bool (atP L i t),if atP L i t then i+t.length else i))):=by
 have H:=HoldG.startB hr;have ea:t.isPrefixOf (L.drop i)=atP L i t:=rfl
 cases hA:atP L i t
 ·rw[hA]at ea
  go_enter Tryd.func57,Tryd.ntmps57
  go_wp2_with (first|fail|((with_reducible first|refine ch (zFC rb L i U hi _ (H.blk .zero).2) H ?_|refine ch (ea ▸ zIP (L.drop i) t _) H ?_);clear H;intro w H))
  go_ret;exact⟨H.keep,rfl,(H.blk .zero).2⟩
 ·rw[hA]at ea;have hle:i+t.length≤L.length:=by
   have:=(List.isPrefixOf_iff_prefix.1 ea).length_le;simp at this;omega
  go_enter Tryd.func57,Tryd.ntmps57
  go_wp2_with (first|(first|((with_reducible refine gT ?_);(refine aO H ?_;clear H;intro w H;try simp only[nr]at H))|((with_reducible refine gL ?_);refine aG H ?_))|((with_reducible first|refine ch (zFC rb L i U hi _ (H.blk .zero).2) H ?_|refine ch (ea ▸ zIP (L.drop i) t _) H ?_);clear H;intro w H))
  go_ret;exact⟨H.keep,rfl,(H.blk .zero).2⟩
def lowP (c:Nat):Nat:=if 65≤c∧c≤90 then c+32 else c
theorem zJM (c:Nat) (hc:c<256) (w0:World):Calls Tryd.prog 86 #[.int .u8 c] w0 (Rt (.int .u8 (lowP c)) w0):=by
 go_enter Tryd.func86,Tryd.ntmps86
 go_wp2
 all_goals
  go_ret;refine⟨reti ?_,Below.refl _ _⟩;unfold lowP
  (repeat' split)<;>omega
end
section
open Go.RowKit Go.Shelf Go.MapKept
attribute [local go_sem] Oper.semAt_some
section
variable {ops:Array Oper} {o:Oper} {a:Act} {w w0:World} {l:List Res} {M:Nat→Prop}
theorem zAp {P:Program} {T:TypeId} {x:Operand} (ho:o.op=.load T x) {b:Nat} (hx:a.eval x=.pointer (some ⟨b,0,none⟩)) (H:HoldG M w0 w l) {i:Nat} {s:Nat→Nat} {U:TypeId} (hi:At l i (.blk b (setC s) U))
  (hT:rowB P T 4=true):(execOp a.eval o).run P w=.ok (.value (setV s)) w:=by
 unfold execOp;simp only[ho,hx,Instr.loadAt,Instr.sureAddr,Sem.run_bind,Sem.run_pure,Result.andThen_ok,H.run_row (T:=T) hi hT (n:=4) rfl (fun j _=>by rw[Nat.zero_add])]
 rfl
theorem zFf (n:Nat) (cs:List Value) {parts:Array (Nat × Operand)} (hn:cs.length=n) (hl:n≤maxLen) (hg:Region.wanted o (yielded ops a.tmps)=true) (ho:o.op=.buildSlice 93 n parts)
  (hr:∀ W:World,(Instr.buildSlice 93 n (parts.map fun (i,x)=>(i,a.eval x))).run Tryd.prog W=.ok (.slice (some ⟨W.heap.size,0,none⟩) n n) (W.alloc (.cells cs.toArray 5))) :
  zBK Tryd.prog ops o a w (fun v w'=>Rd w' w'.heap.size v cs):=by
 subst hn;refine zC1 hg (v:=.slice (some ⟨w.heap.size,0,none⟩) cs.length cs.length) (w':=w.alloc (.cells cs.toArray 5)) ?_ ((Below.refl _ w).alloc (Nat.le_refl _) _)
  ((Rd.lit w cs 5 (0,0) hl).up (by rw[World.size_alloc];exact Nat.le_refl _))
 simp only[execOp,ho,Sem.run_bind,hr,Result.andThen_ok];rfl
theorem zLr (n:Nat) (cs:List Value) {parts:Array (Nat × Operand)} {D:Prop} (hn:cs.length=n) (hl:n≤maxLen) (hg:Region.wanted o (yielded ops a.tmps)=true) (ho:o.op=.buildSlice 93 n parts)
  (hr:∀ W:World,(Instr.buildSlice 93 n (parts.map fun (i,x)=>(i,a.eval x))).run Tryd.prog W=.ok (.slice (some ⟨W.heap.size,0,none⟩) n n) (W.alloc (.cells cs.toArray 5))) (hD:¬ D) :
  zBK Tryd.prog ops o a w (fun v w'=>Rd w' w'.heap.size v cs∧(D→w.heap.size≤blk v)):=by
 subst hn;refine zC1 hg (v:=.slice (some ⟨w.heap.size,0,none⟩) cs.length cs.length) (w':=w.alloc (.cells cs.toArray 5)) ?_ ((Below.refl _ w).alloc (Nat.le_refl _) _)
  ⟨(Rd.lit w cs 5 (0,0) hl).up (by rw[World.size_alloc];exact Nat.le_refl _),fun h=>(hD h).elim⟩
 simp only[execOp,ho,Sem.run_bind,hr,Result.andThen_ok];rfl
end
section
variable {P:Program} {ops:Array Oper} {rest:List Oper} {o:Oper} {a:Act} {w w0:World} {Q:Exit→Act→World→Prop} {l:List Res} {M:Nat→Prop} {kt et:TypeId} {d:TypeDesc} {F:Value→Option Value} {es:Array MapEntry} {c mb i:Nat} {kv v z:Value}
theorem HoldG.mp (H:HoldG M w0 w l) (hi:At l i (.mp mb es c)):w0.heap.size≤mb∧w.heap[mb]?=some (.map es c):=H.all i _ hi.get
theorem zE3 (hg:Region.wanted o (yielded ops a.tmps)=true) (T:TypeId) (x k:Operand) (ho:o.op=.lookup T x k false) (hT:P.underlying T=some (.map kt et)) (hd:P.underlying kt=some d)
  (hx:a.eval x=.map (some mb)) (hk:a.eval k=kv) (H:HoldG M w0 w l) (hi:At l i (.mp mb es c)) (hM:zFo d F es) (hkey:IsKey d kv) (hF:F kv=some v) (h:wpList P ops Q rest (a.put o.dst v) w):wpList P ops Q (o::rest) a w :=
 zAx hg (by simp only[execOp,ho,hx,hk,Sem.run_bind,zGi hT hd (H.mp hi).2 hM hkey hF,Result.andThen];rfl) h
theorem zEc (hg:Region.wanted o (yielded ops a.tmps)=true) (T:TypeId) (x k:Operand) (ho:o.op=.lookup T x k true) (hT:P.underlying T=some (.map kt et)) (hd:P.underlying kt=some d)
  (hx:a.eval x=.map (some mb)) (hk:a.eval k=kv) (H:HoldG M w0 w l) (hi:At l i (.mp mb es c)) (hM:zFo d F es) (hkey:IsKey d kv) (hF:F kv=some v) (h:wpList P ops Q rest (a.put o.dst (.tuple #[v,.bool true])) w):wpList P ops Q (o::rest) a w :=
 zAx hg (by simp only[execOp,ho,hx,hk,Sem.run_bind,zGB hT hd (H.mp hi).2 hM hkey hF,Result.andThen];rfl) h
theorem zDO (hg:Region.wanted o (yielded ops a.tmps)=true) (T:TypeId) (x k:Operand) (ho:o.op=.lookup T x k true) (hT:P.underlying T=some (.map kt et)) (hd:P.underlying kt=some d)
  (hx:a.eval x=.map (some mb)) (hk:a.eval k=kv) (H:HoldG M w0 w l) (hi:At l i (.mp mb es c)) (hM:zFo d F es) (hkey:IsKey d kv) (hF:F kv=none∧∀ W,(zeroValue et).run P W=.ok z W) (h:wpList P ops Q rest (a.put o.dst (.tuple #[z,.bool false])) w):wpList P ops Q (o::rest) a w :=
 zAx hg (by simp only[execOp,ho,hx,hk,Sem.run_bind,zDu hT hd (H.mp hi).2 hM hkey hF.1 hF.2,Result.andThen];rfl) h
end
def zBM:Value→Option Value
 | .string s=>(zEu s.data.toList).map setV
 | _=>none
abbrev strD:TypeDesc:=.string
theorem zEF (L:Str):zBM (.string ⟨L.toArray⟩)=(zEu L).map setV:=by simp[zBM]
def keyV (L:Str):Value:=.string ⟨L.toArray⟩
theorem zLM (k v:Value) (h:zBM k=some v):k ∈ namesL.map (fun p=>keyV p.1):=by
 unfold zBM at h;split at h
 ·rename_i s
  cases hn:zEu s.data.toList with
  | none=>rw[hn]at h;cases h
  | some t =>
   unfold zEu at hn
   cases hf:namesL.find? (fun p=>s.data.toList == p.1) with
   | none=>rw[hf]at hn;cases hn
   | some p =>
    have h1:=List.find?_some hf;have h2:=List.mem_of_find?_eq_some hf;have h3:s.data.toList=p.1:=by simpa using h1
    refine List.mem_map.2 ⟨p,h2,?_⟩
    unfold keyV;rw[← h3]
 ·cases h
def zBd:Value→Option Value
 | .int .u8 c=>(zEt c.toNat).map setV
 | _=>none
theorem zMI (w0:World):Calls Tryd.prog 83 #[.int .u8 48,.int .u8 57] w0 (Rt (setV zBG) w0):=zB5 48 57 (by omega) (by omega) w0
theorem zLH (w0:World):Calls Tryd.prog 83 #[.int .u8 97,.int .u8 122] w0 (Rt (setV zC3) w0):=zB5 97 122 (by omega) (by omega) w0
theorem zLx (w0:World):Calls Tryd.prog 83 #[.int .u8 65,.int .u8 90] w0 (Rt (setV zC2) w0):=zB5 65 90 (by omega) (by omega) w0
theorem zLU (w0:World):Calls Tryd.prog 83 #[.int .u8 33,.int .u8 126] w0 (Rt (setV zD3) w0):=zB5 33 126 (by omega) (by omega) w0
theorem zMW (v:Value) (w:World) (h:RdS w w.heap.size v [zBG,zC3,zC2]):Calls Tryd.prog 63 #[v] w (Rt (setV zBt) w):=zCb v _ (ok3 zCv zD6 zED) w h
def MapR (d:TypeDesc) (F:Value→Option Value) (n0:Nat) (e:Ending) (w':World):Prop:=∃ mb es c,e=.returned (.map (some mb))∧n0≤mb∧w'.heap[mb]?=some (.map es c)∧zFo d F es
theorem zDs (w0:World):Calls Tryd.prog 80 #[] w0 fun e w'=>MapR strD zBM w0.heap.size e w'∧Below w0.heap.size w0 w':=by
 have H:=Hold.start w0
 go_enter Tryd.func80,Tryd.ntmps80
 go_upto_region 3 with (first|((first|((with_reducible refine kgA 1 ?_);refine kA 1 H ?_)|((with_reducible refine kgX 1 ?_);(first|refine kS 1 H ?_|refine kB 1 H ?_)));clear H;intro b1 w H;try simp only[nr]at H)|((first|((with_reducible refine kgA 2 ?_);refine kA 2 H ?_)|((with_reducible refine kgX 2 ?_);(first|refine kS 2 H ?_|refine kB 2 H ?_)));clear H;intro b2 w H;try simp only[nr]at H)|((first|((with_reducible refine kgA 3 ?_);refine kA 3 H ?_)|((with_reducible refine kgX 3 ?_);(first|refine kS 3 H ?_|refine kB 3 H ?_)));clear H;intro b3 w H;try simp only[nr]at H)|((first|((with_reducible refine kgA 4 ?_);refine kA 4 H ?_)|((with_reducible refine kgX 4 ?_);(first|refine kS 4 H ?_|refine kB 4 H ?_)));clear H;intro b4 w H;try simp only[nr]at H)|((first|((with_reducible refine kgA 5 ?_);refine kA 5 H ?_)|((with_reducible refine kgX 5 ?_);(first|refine kS 5 H ?_|refine kB 5 H ?_)));clear H;intro b5 w H;try simp only[nr]at H)|(first|((with_reducible refine gT ?_);(refine aS H ?_;clear H;intro w H;try simp only[nr]at H))|((with_reducible refine gL ?_);refine aL H ?_))|((with_reducible first|refine ch (zMI _) H ?_|refine ch (zLH _) H ?_|refine ch (zLx _) H ?_|refine ch (zLU _) H ?_|refine ch (zMW _ _ (H.rdsn (L:=[zBG,zC3,zC2]) atd_ (by simp) (by simp[maxLen]))) H ?_);clear H;intro w H)|((with_reducible refine gBS ?_);refine zCA wtd_ _ _ _ rfl H (rowC [zBG,zC3,zC2]).toArray 28 (by intro W;simp only[ml];(try simp only[pe]);(with_reducible exact zK2 (zBG) (zC3) (zC2) W)) ?_;clear H;intro b w H;try simp only[nr]at H))
 refine zBW (RelM strD zBM w.heap.size) RelM.refl RelM.trans RelM.drew 53 [InMap strD zBM w.heap.size [],fun v _=>v=setV zBt,InMap strD zBM w.heap.size [.string ⟨#[97,108,110,117,109]⟩],fun v _=>v=setV zC3,fun v _=>v=setV zC2,fun v w=>RdS w w.heap.size v [zC3,zC2],fun v _=>v=setV (zA1 [zC3,zC2]),InMap strD zBM w.heap.size [.string ⟨#[97,108,112,104,97]⟩],fun v _=>v=setV (zAm 0 128),InMap strD zBM w.heap.size [.string ⟨#[97,115,99,105,105]⟩],fun v w=>Rd w w.heap.size v [.int .u8 9,.int .u8 32],fun v _=>v=setV (ofS [9,32]),InMap strD zBM w.heap.size [.string ⟨#[98,108,97,110,107]⟩],fun v _=>v=setV (zAm 0 32),fun v w=>Rd w w.heap.size v [.int .u8 127],fun v _=>v=setV (ofS [127]),fun v w=>RdS w w.heap.size v [(zAm 0 32),(ofS [127])],fun v _=>v=setV (zA1 [(zAm 0 32),(ofS [127])]),InMap strD zBM w.heap.size [.string ⟨#[99,110,116,114,108]⟩],fun v _=>v=setV zBG,InMap strD zBM w.heap.size [.string ⟨#[100,105,103,105,116]⟩],fun v _=>v=setV zD3,InMap strD zBM w.heap.size [.string ⟨#[103,114,97,112,104]⟩],fun v _=>v=setV zC3,InMap strD zBM w.heap.size [.string ⟨#[108,111,119,101,114]⟩],fun v _=>v=setV (zAm 32 95),InMap strD zBM w.heap.size [.string ⟨#[112,114,105,110,116]⟩],fun v _=>v=setV zD3,fun v _=>v=setV zBt,fun v _=>v=setV (notS zBt),fun v w=>RdS w w.heap.size v [zD3,(notS zBt)],fun v _=>v=setV (zIV [zD3,(notS zBt)]),InMap strD zBM w.heap.size [.string ⟨#[112,117,110,99,116]⟩],fun v _=>v=setV (zAm 9 5),fun v w=>Rd w w.heap.size v [.int .u8 32],fun v _=>v=setV (ofS [32]),fun v w=>RdS w w.heap.size v [(zAm 9 5),(ofS [32])],fun v _=>v=setV (zA1 [(zAm 9 5),(ofS [32])]),InMap strD zBM w.heap.size [.string ⟨#[115,112,97,99,101]⟩],fun v _=>v=setV zC2,InMap strD zBM w.heap.size [.string ⟨#[117,112,112,101,114]⟩],fun v _=>v=setV zBt,fun v w=>Rd w w.heap.size v [.int .u8 95],fun v _=>v=setV (ofS [95]),fun v w=>RdS w w.heap.size v [zBt,(ofS [95])],fun v _=>v=setV (zA1 [zBt,(ofS [95])]),InMap strD zBM w.heap.size [.string ⟨#[119,111,114,100]⟩],fun v _=>v=setV zBG,fun v _=>v=setV (zAm 97 6),fun v _=>v=setV (zAm 65 6),fun v w=>RdS w w.heap.size v [zBG,(zAm 97 6),(zAm 65 6)],fun v _=>v=setV (zA1 [zBG,(zAm 97 6),(zAm 65 6)]),InMap strD zBM w.heap.size [.string ⟨#[120,100,105,103,105,116]⟩]] ⟨zAP _,zAA _,zAP _,zAA _,zAA _,zCg _,zAA _,zAP _,zAA _,zAP _,zEP _,zAA _,zAP _,zAA _,zEP _,zAA _,zCg _,zAA _,zAP _,zAA _,zAP _,zAA _,zAP _,zAA _,zAP _,zAA _,zAP _,zAA _,zAA _,zAA _,zCg _,zAA _,zAP _,zAA _,zEP _,zAA _,zCg _,zAA _,zAP _,zAA _,zAP _,zAA _,zEP _,zAA _,zCg _,zAA _,zAP _,zAA _,zAA _,zAA _,zCg _,zAA _,zAP _,trivial⟩ (by kernel_rfl) (by kernel_rfl) (by kernel_rfl) ?ob ?en
 case ob =>
  refine⟨?_,?_,?_,?_,?_,?_,?_,?_,?_,?_,?_,?_,?_,?_,?_,?_,?_,?_,?_,?_,?_,?_,?_,?_,?_,?_,?_,?_,?_,?_,?_,?_,?_,?_,?_,?_,?_,?_,?_,?_,?_,?_,?_,?_,?_,?_,?_,?_,?_,?_,?_,?_,?_,trivial⟩<;>intro A W h
  ·exact zAt rfl (zFB rfl rfl h.rel.size)
  ·exact zAt rfl (zAG RelM.refl rfl (zAp rfl (h.f 4) (H.call h.rel.below) atd_ zAf))
  ·exact zAi (k:=.string ⟨#[97,108,110,117,109]⟩) (v:=setV zBt) rfl rfl rfl Tryd.underlying133 Tryd.underlying9 (h.d 0 15) rfl (h.d 1 16) (by first|trivial|rfl) (by kernel_rfl)
  ·exact zAt rfl (zAG RelM.refl rfl (zAp rfl (h.f 2) (H.call h.rel.below) atd_ zAf))
  ·exact zAt rfl (zAG RelM.refl rfl (zAp rfl (h.f 3) (H.call h.rel.below) atd_ zAf))
  ·exact zAt rfl (zGT (fun w'=>RelM.of_below) (fun _ _ h=>h.1) (zEE (D:=False) rfl rfl (h.d 3 17) (h.d 4 18) (fun h=>h)))
  ·exact zAt rfl (zAy rfl rfl (enters_of Tryd.func63 (by kernel_rfl) rfl) (zCC rfl) ((zCb _ [zC3,zC2] ((ok2 zD6 zED)) W (h.d 5 19)).mono fun _ _ h=>⟨h.1,RelM.of_below h.2⟩))
  ·exact zAi (k:=.string ⟨#[97,108,112,104,97]⟩) (v:=setV (zA1 [zC3,zC2])) rfl rfl rfl Tryd.underlying133 Tryd.underlying9 (h.d 0 15) rfl (h.d 6 20) (by first|trivial|rfl) (by kernel_rfl)
  ·exact zAt rfl (zAy rfl rfl (enters_of Tryd.func83 (by kernel_rfl) rfl) (zHO ⟨rfl,rfl⟩) ((zB5 0 127 (by omega) (by omega) W).mono fun _ _ h=>⟨h.1,RelM.of_below h.2⟩))
  ·exact zAi (k:=.string ⟨#[97,115,99,105,105]⟩) (v:=setV (zAm 0 128)) rfl rfl rfl Tryd.underlying133 Tryd.underlying9 (h.d 0 15) rfl (h.d 8 21) (by first|trivial|rfl) (by kernel_rfl)
  ·exact zAt rfl (zGT (fun w'=>RelM.of_below) (fun _ _ h=>h) (zFf 2 [.int .u8 9,.int .u8 32] rfl (by decide) rfl rfl (fun W=>by simp[go_sem])))
  ·exact zAt rfl (zAy rfl rfl (enters_of Tryd.func28 (by kernel_rfl) rfl) (zCC rfl) ((zFD _ [9,32] (by decide) W (h.d 10 22)).mono fun _ _ h=>⟨h.1,RelM.of_below h.2⟩))
  ·exact zAi (k:=.string ⟨#[98,108,97,110,107]⟩) (v:=setV (ofS [9,32])) rfl rfl rfl Tryd.underlying133 Tryd.underlying9 (h.d 0 15) rfl (h.d 11 23) (by first|trivial|rfl) (by kernel_rfl)
  ·exact zAt rfl (zAy rfl rfl (enters_of Tryd.func83 (by kernel_rfl) rfl) (zHO ⟨rfl,rfl⟩) ((zB5 0 31 (by omega) (by omega) W).mono fun _ _ h=>⟨h.1,RelM.of_below h.2⟩))
  ·exact zAt rfl (zGT (fun w'=>RelM.of_below) (fun _ _ h=>h) (zFf 1 [.int .u8 127] rfl (by decide) rfl rfl (fun W=>by simp[go_sem])))
  ·exact zAt rfl (zAy rfl rfl (enters_of Tryd.func28 (by kernel_rfl) rfl) (zCC rfl) ((zFD _ [127] (by decide) W (h.d 14 25)).mono fun _ _ h=>⟨h.1,RelM.of_below h.2⟩))
  ·exact zAt rfl (zGT (fun w'=>RelM.of_below) (fun _ _ h=>h.1) (zEE (D:=False) rfl rfl (h.d 13 24) (h.d 15 26) (fun h=>h)))
  ·exact zAt rfl (zAy rfl rfl (enters_of Tryd.func63 (by kernel_rfl) rfl) (zCC rfl) ((zCb _ [(zAm 0 32),(ofS [127])] ((ok2 (zB2 _ _) (zBv _))) W (h.d 16 27)).mono fun _ _ h=>⟨h.1,RelM.of_below h.2⟩))
  ·exact zAi (k:=.string ⟨#[99,110,116,114,108]⟩) (v:=setV (zA1 [(zAm 0 32),(ofS [127])])) rfl rfl rfl Tryd.underlying133 Tryd.underlying9 (h.d 0 15) rfl (h.d 17 28) (by first|trivial|rfl) (by kernel_rfl)
  ·exact zAt rfl (zAG RelM.refl rfl (zAp rfl (h.f 1) (H.call h.rel.below) atd_ zAf))
  ·exact zAi (k:=.string ⟨#[100,105,103,105,116]⟩) (v:=setV zBG) rfl rfl rfl Tryd.underlying133 Tryd.underlying9 (h.d 0 15) rfl (h.d 19 29) (by first|trivial|rfl) (by kernel_rfl)
  ·exact zAt rfl (zAG RelM.refl rfl (zAp rfl (h.f 5) (H.call h.rel.below) atd_ zAf))
  ·exact zAi (k:=.string ⟨#[103,114,97,112,104]⟩) (v:=setV zD3) rfl rfl rfl Tryd.underlying133 Tryd.underlying9 (h.d 0 15) rfl (h.d 21 30) (by first|trivial|rfl) (by kernel_rfl)
  ·exact zAt rfl (zAG RelM.refl rfl (zAp rfl (h.f 2) (H.call h.rel.below) atd_ zAf))
  ·exact zAi (k:=.string ⟨#[108,111,119,101,114]⟩) (v:=setV zC3) rfl rfl rfl Tryd.underlying133 Tryd.underlying9 (h.d 0 15) rfl (h.d 23 31) (by first|trivial|rfl) (by kernel_rfl)
  ·exact zAt rfl (zAy rfl rfl (enters_of Tryd.func83 (by kernel_rfl) rfl) (zHO ⟨rfl,rfl⟩) ((zB5 32 126 (by omega) (by omega) W).mono fun _ _ h=>⟨h.1,RelM.of_below h.2⟩))
  ·exact zAi (k:=.string ⟨#[112,114,105,110,116]⟩) (v:=setV (zAm 32 95)) rfl rfl rfl Tryd.underlying133 Tryd.underlying9 (h.d 0 15) rfl (h.d 25 32) (by first|trivial|rfl) (by kernel_rfl)
  ·exact zAt rfl (zAG RelM.refl rfl (zAp rfl (h.f 5) (H.call h.rel.below) atd_ zAf))
  ·exact zAt rfl (zAG RelM.refl rfl (zAp rfl (h.f 4) (H.call h.rel.below) atd_ zAf))
  ·exact zAt rfl (zAy rfl rfl (enters_of Tryd.func34 (by kernel_rfl) rfl) (zCC (h.d 28 34)) ((zCO zBt zD5 W).mono fun _ _ h=>⟨h.1,RelM.of_below h.2⟩))
  ·exact zAt rfl (zGT (fun w'=>RelM.of_below) (fun _ _ h=>h.1) (zEE (D:=False) rfl rfl (h.d 27 33) (h.d 29 35) (fun h=>h)))
  ·exact zAt rfl (zAy rfl rfl (enters_of Tryd.func87 (by kernel_rfl) rfl) (zCC rfl) ((zMU _ [zD3,(notS zBt)] ((ok2 zFn (zEx _))) W (h.d 30 36)).mono fun _ _ h=>⟨h.1,RelM.of_below h.2⟩))
  ·exact zAi (k:=.string ⟨#[112,117,110,99,116]⟩) (v:=setV (zIV [zD3,(notS zBt)])) rfl rfl rfl Tryd.underlying133 Tryd.underlying9 (h.d 0 15) rfl (h.d 31 37) (by first|trivial|rfl) (by kernel_rfl)
  ·exact zAt rfl (zAy rfl rfl (enters_of Tryd.func83 (by kernel_rfl) rfl) (zHO ⟨rfl,rfl⟩) ((zB5 9 13 (by omega) (by omega) W).mono fun _ _ h=>⟨h.1,RelM.of_below h.2⟩))
  ·exact zAt rfl (zGT (fun w'=>RelM.of_below) (fun _ _ h=>h) (zFf 1 [.int .u8 32] rfl (by decide) rfl rfl (fun W=>by simp[go_sem])))
  ·exact zAt rfl (zAy rfl rfl (enters_of Tryd.func28 (by kernel_rfl) rfl) (zCC rfl) ((zFD _ [32] (by decide) W (h.d 34 39)).mono fun _ _ h=>⟨h.1,RelM.of_below h.2⟩))
  ·exact zAt rfl (zGT (fun w'=>RelM.of_below) (fun _ _ h=>h.1) (zEE (D:=False) rfl rfl (h.d 33 38) (h.d 35 40) (fun h=>h)))
  ·exact zAt rfl (zAy rfl rfl (enters_of Tryd.func63 (by kernel_rfl) rfl) (zCC rfl) ((zCb _ [(zAm 9 5),(ofS [32])] ((ok2 (zB2 _ _) (zBv _))) W (h.d 36 41)).mono fun _ _ h=>⟨h.1,RelM.of_below h.2⟩))
  ·exact zAi (k:=.string ⟨#[115,112,97,99,101]⟩) (v:=setV (zA1 [(zAm 9 5),(ofS [32])])) rfl rfl rfl Tryd.underlying133 Tryd.underlying9 (h.d 0 15) rfl (h.d 37 42) (by first|trivial|rfl) (by kernel_rfl)
  ·exact zAt rfl (zAG RelM.refl rfl (zAp rfl (h.f 3) (H.call h.rel.below) atd_ zAf))
  ·exact zAi (k:=.string ⟨#[117,112,112,101,114]⟩) (v:=setV zC2) rfl rfl rfl Tryd.underlying133 Tryd.underlying9 (h.d 0 15) rfl (h.d 39 43) (by first|trivial|rfl) (by kernel_rfl)
  ·exact zAt rfl (zAG RelM.refl rfl (zAp rfl (h.f 4) (H.call h.rel.below) atd_ zAf))
  ·exact zAt rfl (zGT (fun w'=>RelM.of_below) (fun _ _ h=>h) (zFf 1 [.int .u8 95] rfl (by decide) rfl rfl (fun W=>by simp[go_sem])))
  ·exact zAt rfl (zAy rfl rfl (enters_of Tryd.func28 (by kernel_rfl) rfl) (zCC rfl) ((zFD _ [95] (by decide) W (h.d 42 45)).mono fun _ _ h=>⟨h.1,RelM.of_below h.2⟩))
  ·exact zAt rfl (zGT (fun w'=>RelM.of_below) (fun _ _ h=>h.1) (zEE (D:=False) rfl rfl (h.d 41 44) (h.d 43 46) (fun h=>h)))
  ·exact zAt rfl (zAy rfl rfl (enters_of Tryd.func63 (by kernel_rfl) rfl) (zCC rfl) ((zCb _ [zBt,(ofS [95])] ((ok2 zD5 (zBv _))) W (h.d 44 47)).mono fun _ _ h=>⟨h.1,RelM.of_below h.2⟩))
  ·exact zAi (k:=.string ⟨#[119,111,114,100]⟩) (v:=setV (zA1 [zBt,(ofS [95])])) rfl rfl rfl Tryd.underlying133 Tryd.underlying9 (h.d 0 15) rfl (h.d 45 48) (by first|trivial|rfl) (by kernel_rfl)
  ·exact zAt rfl (zAG RelM.refl rfl (zAp rfl (h.f 1) (H.call h.rel.below) atd_ zAf))
  ·exact zAt rfl (zAy rfl rfl (enters_of Tryd.func83 (by kernel_rfl) rfl) (zHO ⟨rfl,rfl⟩) ((zB5 97 102 (by omega) (by omega) W).mono fun _ _ h=>⟨h.1,RelM.of_below h.2⟩))
  ·exact zAt rfl (zAy rfl rfl (enters_of Tryd.func83 (by kernel_rfl) rfl) (zHO ⟨rfl,rfl⟩) ((zB5 65 70 (by omega) (by omega) W).mono fun _ _ h=>⟨h.1,RelM.of_below h.2⟩))
  ·exact zAt rfl (zGT (fun w'=>RelM.of_below) (fun _ _ h=>h.1) (zKU (D:=False) rfl rfl (h.d 47 49) (h.d 48 50) (h.d 49 51) (fun h=>h)))
  ·exact zAt rfl (zAy rfl rfl (enters_of Tryd.func63 (by kernel_rfl) rfl) (zCC rfl) ((zCb _ [zBG,(zAm 97 6),(zAm 65 6)] ((ok3 zCv (zB2 _ _) (zB2 _ _))) W (h.d 50 52)).mono fun _ _ h=>⟨h.1,RelM.of_below h.2⟩))
  ·exact zAi (k:=.string ⟨#[120,100,105,103,105,116]⟩) (v:=setV (zA1 [zBG,(zAm 97 6),(zAm 65 6)])) rfl rfl rfl Tryd.underlying133 Tryd.underlying9 (h.d 0 15) rfl (h.d 51 53) (by first|trivial|rfl) (by kernel_rfl)
 case en =>
  intro vals w1 hrel hv hlk;have hb1:=hrel.below;have m0:InMap strD zBM w.heap.size [] (vals 0) w1:=hv 0 (by omega)
  have l2:vals 2=vals 0:=hlk 2 _ _ 0 _ rfl rfl rfl rfl rfl rfl rfl;have x2:=hv 2 (by omega);rw[l2]at x2
  have m1:=m0.both x2;have l7:vals 7=vals 0:=hlk 7 _ _ 0 _ rfl rfl rfl rfl rfl rfl rfl;have x7:=hv 7 (by omega);rw[l7]at x7
  have m2:=m1.both x7;have l9:vals 9=vals 0:=hlk 9 _ _ 0 _ rfl rfl rfl rfl rfl rfl rfl;have x9:=hv 9 (by omega);rw[l9]at x9
  have m3:=m2.both x9;have l12:vals 12=vals 0:=hlk 12 _ _ 0 _ rfl rfl rfl rfl rfl rfl rfl;have x12:=hv 12 (by omega);rw[l12]at x12
  have m4:=m3.both x12;have l18:vals 18=vals 0:=hlk 18 _ _ 0 _ rfl rfl rfl rfl rfl rfl rfl;have x18:=hv 18 (by omega);rw[l18]at x18
  have m5:=m4.both x18;have l20:vals 20=vals 0:=hlk 20 _ _ 0 _ rfl rfl rfl rfl rfl rfl rfl;have x20:=hv 20 (by omega);rw[l20]at x20
  have m6:=m5.both x20;have l22:vals 22=vals 0:=hlk 22 _ _ 0 _ rfl rfl rfl rfl rfl rfl rfl;have x22:=hv 22 (by omega);rw[l22]at x22
  have m7:=m6.both x22;have l24:vals 24=vals 0:=hlk 24 _ _ 0 _ rfl rfl rfl rfl rfl rfl rfl;have x24:=hv 24 (by omega);rw[l24]at x24
  have m8:=m7.both x24;have l26:vals 26=vals 0:=hlk 26 _ _ 0 _ rfl rfl rfl rfl rfl rfl rfl;have x26:=hv 26 (by omega);rw[l26]at x26
  have m9:=m8.both x26;have l32:vals 32=vals 0:=hlk 32 _ _ 0 _ rfl rfl rfl rfl rfl rfl rfl;have x32:=hv 32 (by omega);rw[l32]at x32
  have m10:=m9.both x32;have l38:vals 38=vals 0:=hlk 38 _ _ 0 _ rfl rfl rfl rfl rfl rfl rfl;have x38:=hv 38 (by omega);rw[l38]at x38
  have m11:=m10.both x38;have l40:vals 40=vals 0:=hlk 40 _ _ 0 _ rfl rfl rfl rfl rfl rfl rfl;have x40:=hv 40 (by omega);rw[l40]at x40
  have m12:=m11.both x40;have l46:vals 46=vals 0:=hlk 46 _ _ 0 _ rfl rfl rfl rfl rfl rfl rfl;have x46:=hv 46 (by omega);rw[l46]at x46
  have m13:=m12.both x46;have l52:vals 52=vals 0:=hlk 52 _ _ 0 _ rfl rfl rfl rfl rfl rfl rfl;have x52:=hv 52 (by omega);rw[l52]at x52
  have m14:=m13.both x52;have hm:=m14;obtain⟨mb,es,c,hv0,hn0,hmb,hsub,hks⟩:=hm;simp only[List.append,fa,Nat.reduceAdd,zGe];rw[hv0]
  go_wp2
  go_ret;refine⟨⟨mb,es,c,rfl,Nat.le_trans H.below.size hn0,hmb,hsub,fun k v hF=>hks k ?_⟩,H.below.trans (hrel.below.mono H.below.size)⟩
  exact zLM k v hF
theorem zHx (k v:Value) (h:zBd k=some v):k ∈ sortsL.map (fun p=>Value.int .u8 p.1):=by
 unfold zBd at h;split at h
 ·rename_i c
  cases hn:zEt c.toNat with
  | none=>rw[hn]at h;cases h
  | some t =>
   unfold zEt at hn
   cases hf:sortsL.find? (fun p=>c.toNat == p.1) with
   | none=>rw[hf]at hn;cases hn
   | some p =>
    have h1:=List.find?_some hf;have h2:=List.mem_of_find?_eq_some hf;have h3:c.toNat=p.1:=by simpa using h1
    refine List.mem_map.2 ⟨p,h2,?_⟩
    have h4:0<p.1:=by
     simp[sortsL]at h2;rcases h2 with rfl|rfl|rfl|rfl|rfl|rfl<;>simp
    rw[show c=((p.1:Nat):Int) from by omega]
 ·cases h
def zGG (n0:Nat) (v:Value) (w:World):Prop:=∃ mb es c,v=.map (some mb)∧n0≤mb∧w.heap[mb]?=some (.map es c)∧zFo strD zBM es
theorem zFN (n0:Nat):zDZ (zGG n0):=fun _ _ _ ⟨mb,es,c,e,h0,h1,h2⟩ hb=>⟨mb,es,c,e,h0,(hb.block mb (Array.getElem?_eq_some_iff.1 h1).1).trans h1,h2⟩
theorem zJL {ops:Array Oper} {o:Oper} {a:Act} {w:World} {ts:Array TypeId} {n0:Nat} (hn:n0≤w.heap.size) (hg:Region.wanted o (yielded ops a.tmps)=true)
  (hop:o.op=Op.call {callee:=Callee.value (Operand.func 80),args:=#[],argTypes:=ts}) {D:Prop} (hD:¬ D):zBK Tryd.prog ops o a w (fun v w'=>zGG n0 v w'∧(D→w.heap.size≤blk v)) :=
 zD1 hg hop (enters_of Tryd.func80 (by kernel_rfl) rfl) zNv ((zDs w).mono fun _ _ ⟨⟨mb,es,c,e,h0,h1,h2⟩,hb⟩=>⟨_,e,hb,⟨mb,es,c,rfl,Nat.le_trans hn h0,h1,h2⟩,fun h=>(hD h).elim⟩)
theorem zF2 {ops:Array Oper} {o:Oper} {a:Act} {w:World} {x y:Operand} {k:Value} {s:Nat→Nat} {D:Prop} {n0:Nat} (hg:Region.wanted o (yielded ops a.tmps)=true) (hop:o.op=Op.lookup 133 x y false)
  (hx:zGG n0 (a.eval x) w) (hy:a.eval y=k) (hk:IsKey strD k) (hF:zBM k=some (setV s)) (hD:¬ D):zBK Tryd.prog ops o a w (fun v _=>v=setV s∧(D→w.heap.size≤blk v)):=by
 obtain⟨mb,es,c,e,_,h1,h2⟩:=hx;refine zAB hg ?_ hD;simp only[execOp,hop,hy,e,Sem.run_bind,zGi Tryd.underlying133 Tryd.underlying9 h1 h2 hk hF,Result.andThen];rfl
theorem HoldG.gain {M:Nat→Prop} {w0 w w':World} {l:List Res} (H:HoldG M w0 w l) (hb:Below w.heap.size w w'):∀ (rs:List Res),(∀ r ∈ rs,r.Holds M w0.heap.size w'∧∀ b,r.place=some b→w.heap.size≤b)→rs.Pairwise zJd→(hn:∀ r ∈ rs,∀ b,r.foot b→r.place=some b:=by
   intro r hr b h
   repeat' (rcases hr with _|⟨_,hr⟩)
   all_goals exact h)→HoldG M w0 w' (l++rs):=by
 intro rs hrs hp hn;have H':=H.call hb;have hi:∀ i r,(l++rs)[i]?=some r→(i<l.length∧l[i]?=some r)∨(l.length≤i∧rs[i - l.length]?=some r∧r ∈ rs):=by
  intro i r h;rw[List.getElem?_append]at h;split at h
  ·exact .inl ⟨by assumption,h⟩
  ·exact .inr ⟨by omega,h,List.mem_of_getElem? h⟩
 refine⟨H'.keep,fun i r h=>?_,fun i j r s hij h1 h2=>?_⟩
 ·rcases hi i r h with ⟨_,h⟩|⟨_,_,h⟩
  ·exact H'.all i r h
  ·exact(hrs r h).1
 ·rcases hi i r h1 with ⟨_,g1⟩|⟨l1,g1,m1⟩<;>rcases hi j s h2 with ⟨_,g2⟩|⟨l2,g2,m2⟩
  ·exact H'.apart i j r s hij g1 g2
  ·intro b hb1 hb2;have:=((H.all i r g1).lt b hb1).2;have:=(hrs s m2).2 b (hn s m2 b hb2);omega
  ·intro b hb1 hb2;have:=(H.all j s g2).ltf b hb2;have:=(hrs r m1).2 b hb1;omega
  ·intro b hb1 hb2;have hne:i - l.length≠j - l.length:=by omega
   rcases Nat.lt_or_gt_of_ne hne with hlt|hlt
   ·have:=List.pairwise_iff_getElem.1 hp _ _ (List.getElem?_eq_some_iff.1 g1).1 (List.getElem?_eq_some_iff.1 g2).1 hlt;rw[(List.getElem?_eq_some_iff.1 g1).2,(List.getElem?_eq_some_iff.1 g2).2]at this;exact this b hb1 hb2
   ·have:=List.pairwise_iff_getElem.1 hp _ _ (List.getElem?_eq_some_iff.1 g2).1 (List.getElem?_eq_some_iff.1 g1).1 hlt;rw[(List.getElem?_eq_some_iff.1 g1).2,(List.getElem?_eq_some_iff.1 g2).2]at this;exact this b (hn s m2 b hb2) (Res.place_foot hb1)
theorem zMf (v:Value) (w:World) (h:Rd w w.heap.size v [.int .u8 9,.int .u8 10,.int .u8 12,.int .u8 13,.int .u8 32]):Calls Tryd.prog 28 #[v] w (Rt (setV zCf) w):=zFD v [9,10,12,13,32] (by decide) w h
theorem zMC (w0:World):Calls Tryd.prog 77 #[] w0 fun e w'=>MapR (.int .u8) zBd w0.heap.size e w'∧Below w0.heap.size w0 w':=by
 have H:=Hold.start w0
 go_enter Tryd.func77,Tryd.ntmps77
 go_upto_region 1 with (first|fail)
 refine zCL 9 3 [zGG w0.heap.size,fun v _=>v=setV zBG,zGG w0.heap.size,fun v _=>v=setV zDo,fun v w=>Rd w w.heap.size v [.int .u8 9,.int .u8 10,.int .u8 12,.int .u8 13,.int .u8 32],fun v _=>v=setV zCf,IsBox w0.heap.size zAF,IsBox w0.heap.size zAF,IsBox w0.heap.size zAF] (fun i=>decide (6≤i)) (by kernel_rfl) (by kernel_rfl) (by kernel_rfl) ⟨zFN _,zBL _,zFN _,zBL _,zLd _,zBL _,zE1 _ _,zE1 _ _,zE1 _ _,trivial⟩ ?dl ?ob ?en ?en2
 case dl =>
  intro i hi hD v w hs;have:6≤i:=by simpa using hD
  rcases(show i=6∨i=7∨i=8 by omega) with rfl|rfl|rfl<;>exact IsBox.lt hs
 case ob =>
  refine⟨?_,?_,?_,?_,?_,?_,?_,?_,?_,trivial⟩<;>intro A W h
  ·exact zJL h.below.size rfl rfl (by decide)
  ·exact zF2 rfl rfl (h.d 0 4) rfl trivial (by kernel_rfl) (by decide)
  ·exact zJL h.below.size rfl rfl (by decide)
  ·exact zF2 rfl rfl (h.d 2 6) rfl trivial (by kernel_rfl) (by decide)
  ·exact zLr 5 [.int .u8 9,.int .u8 10,.int .u8 12,.int .u8 13,.int .u8 32] rfl (by decide) rfl rfl (fun W=>by simp[go_sem]) (by decide)
  ·exact zCN rfl rfl (enters_of Tryd.func28 (by kernel_rfl) rfl) (zCC rfl) (zMf _ W (h.d 4 8)) (by decide)
  ·exact zHK rfl rfl h.below.size
  ·exact zHK rfl rfl h.below.size
  ·exact zHK rfl rfl h.below.size
 case en =>
  intro vals w1 hb1 hv hD;have v1:vals 1=setV zBG:=hv 1 (by omega)
  have v3:vals 3=setV zDo:=hv 3 (by omega)
  have v5:vals 5=setV zCf:=hv 5 (by omega)
  obtain⟨b1,e1,n1,x1⟩:=hv 6 (by omega)
  obtain⟨b2,e2,n2,x2⟩:=hv 7 (by omega)
  obtain⟨b3,e3,n3,x3⟩:=hv 8 (by omega)
  have d12:b1≠b2:=fun e=>hD 6 7 (by omega) (by omega) (by omega) rfl rfl (by rw[e1,e2,e])
  have d13:b1≠b3:=fun e=>hD 6 8 (by omega) (by omega) (by omega) rfl rfl (by rw[e1,e3,e])
  have d23:b2≠b3:=fun e=>hD 7 8 (by omega) (by omega) (by omega) rfl rfl (by rw[e2,e3,e])
  have H1:=H.gain hb1 [.blk b1 (setC zAF) 28,.blk b2 (setC zAF) 28,.blk b3 (setC zAF) 28] (by
   intro r hr;simp only[List.mem_cons,List.not_mem_nil,or_false]at hr;rcases hr with rfl|rfl|rfl
   ·exact⟨⟨.inl n1,x1⟩,fun b e=>by cases e;exact n1⟩
   ·exact⟨⟨.inl n2,x2⟩,fun b e=>by cases e;exact n2⟩
   ·exact⟨⟨.inl n3,x3⟩,fun b e=>by cases e;exact n3⟩) (by
   refine List.Pairwise.cons (fun r hr=>?_) (List.Pairwise.cons (fun r hr=>?_) (List.Pairwise.cons (fun r hr=>by cases hr) .nil))
   ·simp only[List.mem_cons,List.not_mem_nil,or_false]at hr;rcases hr with rfl|rfl
    ·intro b e f;cases e;cases f;exact d12 rfl
    ·intro b e f;cases e;cases f;exact d13 rfl
   ·simp only[List.mem_cons,List.not_mem_nil,or_false]at hr;subst hr
    intro b e f;cases e;cases f;exact d23 rfl)
  simp only[List.nil_append]at H1;replace H:=H1;clear H1;simp only[List.append,fa,Nat.reduceAdd,zGe];rw[v1,v3,v5,e1,e2,e3];clear hv v1 v3 v5 e1 e2 e3 x1 x2 x3 hD
  try simp only[pl]
  generalize vals 0=q0;generalize vals 2=q2;generalize vals 4=q4
  go_upto_region 2 with (first|((with_reducible refine gT ?_);(refine aS H ?_;clear H;intro w H;try simp only[nr]at H)))
  refine zBW (RelM (.int .u8) zBd w.heap.size) RelM.refl RelM.trans RelM.drew 16 [InMap (.int .u8) zBd w.heap.size [],fun v _=>v=setV zBG,InMap (.int .u8) zBd w.heap.size [.int .u8 100],fun v _=>v=setV zDo,InMap (.int .u8) zBd w.heap.size [.int .u8 119],fun v _=>v=setV zCf,InMap (.int .u8) zBd w.heap.size [.int .u8 115],fun v _=>v=setV zBG,fun v _=>v=setV (notS zBG),InMap (.int .u8) zBd w.heap.size [.int .u8 68],fun v _=>v=setV zDo,fun v _=>v=setV (notS zDo),InMap (.int .u8) zBd w.heap.size [.int .u8 87],fun v _=>v=setV zCf,fun v _=>v=setV (notS zCf),InMap (.int .u8) zBd w.heap.size [.int .u8 83]] ⟨zAP _,zAA _,zAP _,zAA _,zAP _,zAA _,zAP _,zAA _,zAA _,zAP _,zAA _,zAA _,zAP _,zAA _,zAA _,zAP _,trivial⟩ (by kernel_rfl) (by kernel_rfl) (by kernel_rfl) ?ob ?en
  case ob =>
   refine⟨?_,?_,?_,?_,?_,?_,?_,?_,?_,?_,?_,?_,?_,?_,?_,?_,trivial⟩<;>intro A W h
   ·exact zAt rfl (zFB rfl rfl h.rel.size)
   ·exact zAt rfl (zAG RelM.refl rfl (zAp rfl (h.f 1) (H.call h.rel.below) atd_ zAf))
   ·exact zAi (k:=.int .u8 100) (v:=setV zBG) rfl rfl rfl Tryd.underlying131 Tryd.underlying5 (h.d 0 10) rfl (h.d 1 11) (by first|trivial|rfl) (by kernel_rfl)
   ·exact zAt rfl (zAG RelM.refl rfl (zAp rfl (h.f 2) (H.call h.rel.below) atd_ zAf))
   ·exact zAi (k:=.int .u8 119) (v:=setV zDo) rfl rfl rfl Tryd.underlying131 Tryd.underlying5 (h.d 0 10) rfl (h.d 3 12) (by first|trivial|rfl) (by kernel_rfl)
   ·exact zAt rfl (zAG RelM.refl rfl (zAp rfl (h.f 3) (H.call h.rel.below) atd_ zAf))
   ·exact zAi (k:=.int .u8 115) (v:=setV zCf) rfl rfl rfl Tryd.underlying131 Tryd.underlying5 (h.d 0 10) rfl (h.d 5 13) (by first|trivial|rfl) (by kernel_rfl)
   ·exact zAt rfl (zAG RelM.refl rfl (zAp rfl (h.f 1) (H.call h.rel.below) atd_ zAf))
   ·exact zAt rfl (zAy rfl rfl (enters_of Tryd.func34 (by kernel_rfl) rfl) (zCC (h.d 7 14)) ((zCO zBG zCv W).mono fun _ _ h=>⟨h.1,RelM.of_below h.2⟩))
   ·exact zAi (k:=.int .u8 68) (v:=setV (notS zBG)) rfl rfl rfl Tryd.underlying131 Tryd.underlying5 (h.d 0 10) rfl (h.d 8 15) (by first|trivial|rfl) (by kernel_rfl)
   ·exact zAt rfl (zAG RelM.refl rfl (zAp rfl (h.f 2) (H.call h.rel.below) atd_ zAf))
   ·exact zAt rfl (zAy rfl rfl (enters_of Tryd.func34 (by kernel_rfl) rfl) (zCC (h.d 10 16)) ((zCO zDo zFa W).mono fun _ _ h=>⟨h.1,RelM.of_below h.2⟩))
   ·exact zAi (k:=.int .u8 87) (v:=setV (notS zDo)) rfl rfl rfl Tryd.underlying131 Tryd.underlying5 (h.d 0 10) rfl (h.d 11 17) (by first|trivial|rfl) (by kernel_rfl)
   ·exact zAt rfl (zAG RelM.refl rfl (zAp rfl (h.f 3) (H.call h.rel.below) atd_ zAf))
   ·exact zAt rfl (zAy rfl rfl (enters_of Tryd.func34 (by kernel_rfl) rfl) (zCC (h.d 13 18)) ((zCO zCf (zBv _) W).mono fun _ _ h=>⟨h.1,RelM.of_below h.2⟩))
   ·exact zAi (k:=.int .u8 83) (v:=setV (notS zCf)) rfl rfl rfl Tryd.underlying131 Tryd.underlying5 (h.d 0 10) rfl (h.d 14 19) (by first|trivial|rfl) (by kernel_rfl)
  case en =>
   intro vals w1 hrel hv hlk;have hb1:=hrel.below;have m0:InMap (.int .u8) zBd w.heap.size [] (vals 0) w1:=hv 0 (by omega)
   have l2:vals 2=vals 0:=hlk 2 _ _ 0 _ rfl rfl rfl rfl rfl rfl rfl;have x2:=hv 2 (by omega);rw[l2]at x2
   have m1:=m0.both x2;have l4:vals 4=vals 0:=hlk 4 _ _ 0 _ rfl rfl rfl rfl rfl rfl rfl;have x4:=hv 4 (by omega);rw[l4]at x4
   have m2:=m1.both x4;have l6:vals 6=vals 0:=hlk 6 _ _ 0 _ rfl rfl rfl rfl rfl rfl rfl;have x6:=hv 6 (by omega);rw[l6]at x6
   have m3:=m2.both x6;have l9:vals 9=vals 0:=hlk 9 _ _ 0 _ rfl rfl rfl rfl rfl rfl rfl;have x9:=hv 9 (by omega);rw[l9]at x9
   have m4:=m3.both x9;have l12:vals 12=vals 0:=hlk 12 _ _ 0 _ rfl rfl rfl rfl rfl rfl rfl;have x12:=hv 12 (by omega);rw[l12]at x12
   have m5:=m4.both x12;have l15:vals 15=vals 0:=hlk 15 _ _ 0 _ rfl rfl rfl rfl rfl rfl rfl;have x15:=hv 15 (by omega);rw[l15]at x15
   have m6:=m5.both x15;have hm:=m6;obtain⟨mb,es,c,hv0,hn0,hmb,hsub,hks⟩:=hm;simp only[List.append,fa,Nat.reduceAdd,zGe];rw[hv0]
   go_wp2
   go_ret;refine⟨⟨mb,es,c,rfl,Nat.le_trans H.below.size hn0,hmb,hsub,fun k v hF=>hks k ?_⟩,H.below.trans (hrel.below.mono H.below.size)⟩
   have:=zHx k v hF;simp only[sortsL,List.map_cons,List.map_nil,List.mem_cons,List.not_mem_nil,or_false]at this;simp only[List.nil_append,List.cons_append,List.mem_cons,List.not_mem_nil,or_false];rcases this with rfl|rfl|rfl|rfl|rfl|rfl<;>simp
 case en2 =>
  intro vals w1 hb1 hv hD;obtain⟨mb,es,c,e0,n0,x0,hM⟩:=hv 2 (by omega) (by omega)
  have v1:vals 1=setV zBG:=hv 1 (by omega) (by omega)
  have v5:vals 5=setV zCf:=hv 5 (by omega) (by omega)
  obtain⟨b1,e1,n1,x1⟩:=hv 6 (by omega) (by omega)
  obtain⟨b2,e2,n2,x2⟩:=hv 7 (by omega) (by omega)
  obtain⟨b3,e3,n3,x3⟩:=hv 8 (by omega) (by omega)
  have d12:b1≠b2:=fun e=>hD 6 7 (by omega) (by omega) (by omega) (by omega) (by omega) rfl rfl (by rw[e1,e2,e])
  have d13:b1≠b3:=fun e=>hD 6 8 (by omega) (by omega) (by omega) (by omega) (by omega) rfl rfl (by rw[e1,e3,e])
  have d23:b2≠b3:=fun e=>hD 7 8 (by omega) (by omega) (by omega) (by omega) (by omega) rfl rfl (by rw[e2,e3,e])
  have H1:=H.gain hb1 [.blk b1 (setC zAF) 28,.blk b2 (setC zAF) 28,.blk b3 (setC zAF) 28,.mp mb es c] (by
   intro r hr;simp only[List.mem_cons,List.not_mem_nil,or_false]at hr;rcases hr with rfl|rfl|rfl|rfl
   ·exact⟨⟨.inl n1,x1⟩,fun b e=>by cases e;exact n1⟩
   ·exact⟨⟨.inl n2,x2⟩,fun b e=>by cases e;exact n2⟩
   ·exact⟨⟨.inl n3,x3⟩,fun b e=>by cases e;exact n3⟩
   ·exact⟨⟨n0,x0⟩,fun b e=>by cases e;exact n0⟩) (by
   have dm:∀ g,SBox w1 g 28 zAF→g≠mb:=fun g hg e=>by subst e;unfold SBox at hg;rw[x0]at hg;cases hg
   refine List.Pairwise.cons (fun r hr=>?_) (List.Pairwise.cons (fun r hr=>?_) (List.Pairwise.cons (fun r hr=>?_) (List.Pairwise.cons (fun r hr=>by cases hr) .nil)))
   ·simp only[List.mem_cons,List.not_mem_nil,or_false]at hr;rcases hr with rfl|rfl|rfl
    ·intro b e f;cases e;cases f;exact d12 rfl
    ·intro b e f;cases e;cases f;exact d13 rfl
    ·intro b e f;cases e;cases f;exact dm _ x1 rfl
   ·simp only[List.mem_cons,List.not_mem_nil,or_false]at hr;rcases hr with rfl|rfl
    ·intro b e f;cases e;cases f;exact d23 rfl
    ·intro b e f;cases e;cases f;exact dm _ x2 rfl
   ·simp only[List.mem_cons,List.not_mem_nil,or_false]at hr;subst hr
    intro b e f;cases e;cases f;exact dm _ x3 rfl)
  simp only[List.nil_append]at H1;replace H:=H1;clear H1;simp only[List.append,List.take_succ_cons,List.take_zero,List.drop_succ_cons,List.drop_zero,List.drop_nil,List.take_nil,zDQ,zH8,List.cons_append,List.nil_append,Nat.reduceEqDiff,if_true,if_false,reduceCtorEq,Nat.zero_add,Nat.reduceAdd,zGe];rw[v1,v5,e0,e1,e2,e3];clear hv v1 v5 e0 e1 e2 e3 x1 x2 x3 hD
  try simp only[pl]
  generalize vals 0=q0;generalize vals 4=q4
  go_upto_region 2 with (first|((with_reducible refine gT ?_);(refine aS H ?_;clear H;intro w H;try simp only[nr]at H))|((with_reducible show @wpList _ _ _ ({dst:=_,op:=Op.lookup _ _ _ false,type:=_,pos:=_,after:=_,guard:=_}::_) _ _);refine zE3 wtd_ _ _ _ rfl Tryd.underlying133 Tryd.underlying9 rfl evd_ H atd_ hM (by first|trivial|rfl) (show zBM _=some (setV zDo) by kernel_rfl) ?_))
  refine zBW (RelM (.int .u8) zBd w.heap.size) RelM.refl RelM.trans RelM.drew 16 [InMap (.int .u8) zBd w.heap.size [],fun v _=>v=setV zBG,InMap (.int .u8) zBd w.heap.size [.int .u8 100],fun v _=>v=setV zDo,InMap (.int .u8) zBd w.heap.size [.int .u8 119],fun v _=>v=setV zCf,InMap (.int .u8) zBd w.heap.size [.int .u8 115],fun v _=>v=setV zBG,fun v _=>v=setV (notS zBG),InMap (.int .u8) zBd w.heap.size [.int .u8 68],fun v _=>v=setV zDo,fun v _=>v=setV (notS zDo),InMap (.int .u8) zBd w.heap.size [.int .u8 87],fun v _=>v=setV zCf,fun v _=>v=setV (notS zCf),InMap (.int .u8) zBd w.heap.size [.int .u8 83]] ⟨zAP _,zAA _,zAP _,zAA _,zAP _,zAA _,zAP _,zAA _,zAA _,zAP _,zAA _,zAA _,zAP _,zAA _,zAA _,zAP _,trivial⟩ (by kernel_rfl) (by kernel_rfl) (by kernel_rfl) ?ob ?en
  case ob =>
   refine⟨?_,?_,?_,?_,?_,?_,?_,?_,?_,?_,?_,?_,?_,?_,?_,?_,trivial⟩<;>intro A W h
   ·exact zAt rfl (zFB rfl rfl h.rel.size)
   ·exact zAt rfl (zAG RelM.refl rfl (zAp rfl (h.f 1) (H.call h.rel.below) atd_ zAf))
   ·exact zAi (k:=.int .u8 100) (v:=setV zBG) rfl rfl rfl Tryd.underlying131 Tryd.underlying5 (h.d 0 10) rfl (h.d 1 11) (by first|trivial|rfl) (by kernel_rfl)
   ·exact zAt rfl (zAG RelM.refl rfl (zAp rfl (h.f 2) (H.call h.rel.below) atd_ zAf))
   ·exact zAi (k:=.int .u8 119) (v:=setV zDo) rfl rfl rfl Tryd.underlying131 Tryd.underlying5 (h.d 0 10) rfl (h.d 3 12) (by first|trivial|rfl) (by kernel_rfl)
   ·exact zAt rfl (zAG RelM.refl rfl (zAp rfl (h.f 3) (H.call h.rel.below) atd_ zAf))
   ·exact zAi (k:=.int .u8 115) (v:=setV zCf) rfl rfl rfl Tryd.underlying131 Tryd.underlying5 (h.d 0 10) rfl (h.d 5 13) (by first|trivial|rfl) (by kernel_rfl)
   ·exact zAt rfl (zAG RelM.refl rfl (zAp rfl (h.f 1) (H.call h.rel.below) atd_ zAf))
   ·exact zAt rfl (zAy rfl rfl (enters_of Tryd.func34 (by kernel_rfl) rfl) (zCC (h.d 7 14)) ((zCO zBG zCv W).mono fun _ _ h=>⟨h.1,RelM.of_below h.2⟩))
   ·exact zAi (k:=.int .u8 68) (v:=setV (notS zBG)) rfl rfl rfl Tryd.underlying131 Tryd.underlying5 (h.d 0 10) rfl (h.d 8 15) (by first|trivial|rfl) (by kernel_rfl)
   ·exact zAt rfl (zAG RelM.refl rfl (zAp rfl (h.f 2) (H.call h.rel.below) atd_ zAf))
   ·exact zAt rfl (zAy rfl rfl (enters_of Tryd.func34 (by kernel_rfl) rfl) (zCC (h.d 10 16)) ((zCO zDo zFa W).mono fun _ _ h=>⟨h.1,RelM.of_below h.2⟩))
   ·exact zAi (k:=.int .u8 87) (v:=setV (notS zDo)) rfl rfl rfl Tryd.underlying131 Tryd.underlying5 (h.d 0 10) rfl (h.d 11 17) (by first|trivial|rfl) (by kernel_rfl)
   ·exact zAt rfl (zAG RelM.refl rfl (zAp rfl (h.f 3) (H.call h.rel.below) atd_ zAf))
   ·exact zAt rfl (zAy rfl rfl (enters_of Tryd.func34 (by kernel_rfl) rfl) (zCC (h.d 13 18)) ((zCO zCf (zBv _) W).mono fun _ _ h=>⟨h.1,RelM.of_below h.2⟩))
   ·exact zAi (k:=.int .u8 83) (v:=setV (notS zCf)) rfl rfl rfl Tryd.underlying131 Tryd.underlying5 (h.d 0 10) rfl (h.d 14 19) (by first|trivial|rfl) (by kernel_rfl)
  case en =>
   intro vals w1 hrel hv hlk;have hb1:=hrel.below;have m0:InMap (.int .u8) zBd w.heap.size [] (vals 0) w1:=hv 0 (by omega)
   have l2:vals 2=vals 0:=hlk 2 _ _ 0 _ rfl rfl rfl rfl rfl rfl rfl;have x2:=hv 2 (by omega);rw[l2]at x2
   have m1:=m0.both x2;have l4:vals 4=vals 0:=hlk 4 _ _ 0 _ rfl rfl rfl rfl rfl rfl rfl;have x4:=hv 4 (by omega);rw[l4]at x4
   have m2:=m1.both x4;have l6:vals 6=vals 0:=hlk 6 _ _ 0 _ rfl rfl rfl rfl rfl rfl rfl;have x6:=hv 6 (by omega);rw[l6]at x6
   have m3:=m2.both x6;have l9:vals 9=vals 0:=hlk 9 _ _ 0 _ rfl rfl rfl rfl rfl rfl rfl;have x9:=hv 9 (by omega);rw[l9]at x9
   have m4:=m3.both x9;have l12:vals 12=vals 0:=hlk 12 _ _ 0 _ rfl rfl rfl rfl rfl rfl rfl;have x12:=hv 12 (by omega);rw[l12]at x12
   have m5:=m4.both x12;have l15:vals 15=vals 0:=hlk 15 _ _ 0 _ rfl rfl rfl rfl rfl rfl rfl;have x15:=hv 15 (by omega);rw[l15]at x15
   have m6:=m5.both x15;have hm:=m6;obtain⟨mb,es,c,hv0,hn0,hmb,hsub,hks⟩:=hm;simp only[List.append,fa,Nat.reduceAdd,zGe];rw[hv0]
   go_wp2
   go_ret;refine⟨⟨mb,es,c,rfl,Nat.le_trans H.below.size hn0,hmb,hsub,fun k v hF=>hks k ?_⟩,H.below.trans (hrel.below.mono H.below.size)⟩
   have:=zHx k v hF;simp only[sortsL,List.map_cons,List.map_nil,List.mem_cons,List.not_mem_nil,or_false]at this;simp only[List.nil_append,List.cons_append,List.mem_cons,List.not_mem_nil,or_false];rcases this with rfl|rfl|rfl|rfl|rfl|rfl<;>simp
theorem zAI (rb:Nat) (L:Str) (i:Nat) (U:TypeId) (hL:L.length≤2000) (h:i<L.length) (w0:World) (hr:w0.heap[rb]?=some (.cells (rdC L i) U (0,0))) :
  Calls Tryd.prog 54 #[ptrV rb] w0 (zAz rb L U w0 (.ok (.int .u8 (byt L i),i+1))):=by
 have:=zKm rb L i U hL (by omega) w0 hr
 rwa [if_pos h]at this
theorem zEH (rb:Nat) (L:Str) (i:Nat) (U:TypeId) (hL:L.length≤2000) (hi:i≤L.length) (h:¬ i<L.length) (w0:World) (hr:w0.heap[rb]?=some (.cells (rdC L i) U (0,0))) :
  Calls Tryd.prog 54 #[ptrV rb] w0 (zAz rb L U w0 (.error 4)):=by
 have:=zKm rb L i U hL hi w0 hr
 rwa [if_neg h]at this
def hexI (c:Nat):Int:=match hexP c with|some h=>h|none => -1
theorem zKh:∀ c,c<256→Lib.indexByte [48,49,50,51,52,53,54,55,56,57,97,98,99,100,101,102] (Int.toNat (lowP c:Nat)).toUInt8=hexI c:=by decide +kernel
theorem zMy (c:Nat) (hc:c<256) (v:Int) (hv:hexI c=v) (w0:World):Calls Tryd.prog 78 #[.string ⟨#[48,49,50,51,52,53,54,55,56,57,97,98,99,100,101,102]⟩,.int .u8 (lowP c)] w0 (Rt (.int .i64 v) w0) :=
 (Tryd.strings_IndexByte ⟨#[48,49,50,51,52,53,54,55,56,57,97,98,99,100,101,102]⟩ (lowP c) w0).mono (by
  rintro e w ⟨rfl,rfl⟩;refine⟨?_,Below.refl _ _⟩
  rw[← hv,← zKh c hc])
def hexR (L:Str) (i:Nat):Except Nat (Value × Nat):=if i<L.length then (match hexP (byt L i) with|some h=>.ok (.int .u8 h,i+1)|none=>.error 4) else .error 4
theorem zM2 (rb:Nat) (L:Str) (i:Nat) (U:TypeId) (hL:L.length≤2000) (hi:i≤L.length) (w0:World) (hr:w0.heap[rb]?=some (.cells (rdC L i) U (0,0))) :
  Calls Tryd.prog 79 #[ptrV rb] w0 (zAz rb L U w0 (hexR L i)):=by
 have H:=HoldG.startB hr;unfold hexR
 by_cases hlt:i<L.length
 ·rw[if_pos hlt];have hb:=zDy L i
  cases hx:hexP (byt L i) with
  | some h =>
   have hI:hexI (byt L i)=h:=by unfold hexI;rw[hx]
   have h15:=zLJ hx;have hd:decide ((0:Int)≤(h:Int))=true:=by simp
   clear hx
   go_enter Tryd.func79,Tryd.ntmps79
   go_wp2_with (first|fail|(go_at_call 54;(with_reducible refine(zAI rb L i U hL hlt _ (H.blk .zero).2).mono ?_);rintro e w ⟨hk,rfl,hr⟩;replace H:=H.callBut atd_ hk hr;clear hk hr;try simp only[nr]at H)|((with_reducible first|refine ch (zJM (byt L i) hb _) H ?_|refine ch (zMy (byt L i) hb h hI _) H ?_|refine ch (zBB _) H ?_);clear H;intro w H))
   go_ret;refine⟨H.keep,reti ?_,(H.blk .zero).2⟩;rfl
  | none =>
   have hI:hexI (byt L i) = -1:=by unfold hexI;rw[hx]
   clear hx
   go_enter Tryd.func79,Tryd.ntmps79
   go_wp2_with (first|fail|(go_at_call 54;(with_reducible refine(zAI rb L i U hL hlt _ (H.blk .zero).2).mono ?_);rintro e w ⟨hk,rfl,hr⟩;replace H:=H.callBut atd_ hk hr;clear hk hr;try simp only[nr]at H)|((with_reducible first|refine ch (zJM (byt L i) hb _) H ?_|refine ch (zMy (byt L i) hb (-1) hI _) H ?_|refine ch (zBu _) H ?_);clear H;intro w H))
   exact⟨rfl,H.keep,rfl⟩
 ·rw[if_neg hlt]
  go_enter Tryd.func79,Tryd.ntmps79
  go_wp2_with (first|fail|(go_at_call 54;(with_reducible refine(zEH rb L i U hL hi hlt _ (H.blk .zero).2).mono ?_);rintro e w ⟨hk,rfl⟩;exact⟨rfl,H.keep.trans (hk.mono H.keep.size (fun _ _ m=>m)),rfl⟩))
theorem zF3 (rb:Nat) (L:Str) (i:Nat) (U:TypeId) (hL:L.length≤2000) (hi:i≤L.length) {h j:Nat} (hx:hexR L i=.ok (.int .u8 h,j)) (w0:World) (hr:w0.heap[rb]?=some (.cells (rdC L i) U (0,0))) :
  Calls Tryd.prog 79 #[ptrV rb] w0 (zAz rb L U w0 (.ok (.int .u8 h,j))):=by
 have:=zM2 rb L i U hL hi w0 hr
 rwa [hx]at this
theorem zIL (rb:Nat) (L:Str) (i:Nat) (U:TypeId) (hL:L.length≤2000) (hi:i≤L.length) (hx:hexR L i=.error 4) (w0:World) (hr:w0.heap[rb]?=some (.cells (rdC L i) U (0,0))) :
  Calls Tryd.prog 79 #[ptrV rb] w0 (zAz rb L U w0 (.error 4)):=by
 have:=zM2 rb L i U hL hi w0 hr
 rwa [hx]at this
theorem zGb (L:Str) (i:Nat):hexR L i=.error 4∨∃ h,h≤15∧i<L.length∧hexP (byt L i)=some h∧hexR L i=.ok (.int .u8 h,i+1):=by
 unfold hexR
 by_cases hlt:i<L.length
 ·rw[if_pos hlt]
  cases hx:hexP (byt L i) with
  | none=>exact .inl rfl
  | some h=>exact .inr ⟨h,zLJ hx,hlt,rfl,rfl⟩
 ·rw[if_neg hlt];exact .inl rfl
theorem zKz {L:Str} {i:Nat} (h:hexR L i=.error 4):¬ i<L.length∨(i<L.length∧hexP (byt L i)=none):=by
 unfold hexR at h
 by_cases hlt:i<L.length
 ·rw[if_pos hlt]at h
  cases hx:hexP (byt L i) with
  | none=>exact .inr ⟨hlt,rfl⟩
  | some x=>rw[hx]at h;cases h
 ·exact .inl hlt
theorem zIi:∀ c,c<256→(zGz c=none∧Lib.indexByte [110,116,114,102,118,97] (Int.toNat (c:Nat)).toUInt8 = -1)∨∃ j:Nat,j<6∧Lib.indexByte [110,116,114,102,118,97] (Int.toNat (c:Nat)).toUInt8=(j:Int)∧zGz c=some (byt [10,9,13,12,11,7] j):=by
 have key:∀ c,c<256→(zGz c=none&&Lib.indexByte [110,116,114,102,118,97] (Int.toNat (c:Nat)).toUInt8 == -1) || (List.range 6).any (fun j:Nat=>Lib.indexByte [110,116,114,102,118,97] (Int.toNat (c:Nat)).toUInt8 == (j:Int)&&zGz c=some (byt [10,9,13,12,11,7] j))=true:=by decide +kernel
 intro c hc;have:=key c hc;simp only[Bool.or_eq_true,Bool.and_eq_true,decide_eq_true_eq,beq_iff_eq,List.any_eq_true,List.mem_range]at this;rcases this with h|⟨j,h1,h2,h3⟩
 ·exact .inl h
 ·exact .inr ⟨j,h1,h2,h3⟩
theorem zJA (c:Nat) (v:Int) (hv:Lib.indexByte [110,116,114,102,118,97] (Int.toNat (c:Nat)).toUInt8=v) (w0:World):Calls Tryd.prog 78 #[.string ⟨#[110,116,114,102,118,97]⟩,.int .u8 c] w0 (Rt (.int .i64 v) w0) :=
 (Tryd.strings_IndexByte ⟨#[110,116,114,102,118,97]⟩ c w0).mono (by
  rintro e w ⟨rfl,rfl⟩;refine⟨?_,Below.refl _ _⟩
  rw[← hv])
theorem HoldG.gainMp {M:Nat→Prop} {w0 w w':World} {l:List Res} (H:HoldG M w0 w l) (hb:Below w.heap.size w w') {mb c:Nat} {es:Array MapEntry} (hn:w.heap.size≤mb) (hm:w'.heap[mb]?=some (.map es c)):HoldG M w0 w' (l++[.mp mb es c]) :=
 H.gain hb [.mp mb es c] (by
  intro r hr;simp only[List.mem_cons,List.not_mem_nil,or_false]at hr;subst hr
  exact⟨⟨Nat.le_trans H.keep.size hn,hm⟩,fun b e=>by cases e;exact hn⟩) (List.pairwise_singleton _ _)
def escR (L:Str) (k:Nat):Except Nat (Value × Nat):=match escP L k with|some (b,e)=>.ok (.int .u8 b,e)|none=>.error 4
theorem zIC (rb:Nat) (L:Str) (k:Nat) (U:TypeId) (hL:L.length≤2000) (hi:k+1≤L.length) (w0:World) (hr:w0.heap[rb]?=some (.cells (rdC L (k+1)) U (0,0))) :
  Calls Tryd.prog 69 #[ptrV rb] w0 (zAz rb L U w0 (escR L k)):=by
 have H:=HoldG.startB hr;have E:escR L k=escR L k:=rfl
 conv at E=>rhs;unfold escR escP
 by_cases hlt:k+1<L.length
 ·rw[if_pos hlt]at E;have hb:=zDy L (k+1);rcases zIi (byt L (k+1)) hb with ⟨hp,hx⟩|⟨j,hj,hx,hp⟩
  ·have hs:=fun w=>zJA (byt L (k+1)) (-1) hx w
   rw[hp]at E;simp only[]at E;clear hx hp
   by_cases h120:byt L (k+1)=120
   ·rw[if_pos h120]at E;have d120:(((byt L (k+1):Nat):Int) == 120)=true:=by rw[beq_iff_eq];omega
    clear h120;rcases zGb L (k+2) with h1|⟨h,hh,h1,h2,h3⟩
    ·have E2:escR L k=.error 4:=by
      rw[E];rcases zKz h1 with h|⟨h,g⟩
      ·rw[if_neg h]
      ·rw[if_pos h,g]
     rw[E2];clear E E2
     go_enter Tryd.func69,Tryd.ntmps69
     go_wp2_with (first|fail|(go_at_call 54;(with_reducible refine(zAI rb L (k+1) U hL hlt _ (H.blk .zero).2).mono ?_);rintro e w ⟨hk,rfl,hr⟩;replace H:=H.callBut atd_ hk hr;clear hk hr;try simp only[nr]at H)|((with_reducible refine ch (hs _) H ?_);clear H;intro w H)|(go_at_call 79;(with_reducible refine(zIL rb L (k+2) U hL (by omega) h1 _ (H.blk .zero).2).mono ?_);rintro e w ⟨hk,rfl⟩;exact⟨rfl,H.keep.trans (hk.mono H.keep.size (fun _ _ m=>m)),rfl⟩))
    ·rcases zGb L (k+3) with g1|⟨g,hg,g1,g2,g3⟩
     ·have E2:escR L k=.error 4:=by
       rw[E,if_pos h1,h2];simp only[];rcases zKz g1 with h|⟨h,g⟩
       ·rw[if_neg h]
       ·rw[if_pos h,g]
      rw[E2];clear E E2 h2
      go_enter Tryd.func69,Tryd.ntmps69
      go_wp2_with (first|fail|(go_at_call 54;(with_reducible refine(zAI rb L (k+1) U hL hlt _ (H.blk .zero).2).mono ?_);rintro e w ⟨hk,rfl,hr⟩;replace H:=H.callBut atd_ hk hr;clear hk hr;try simp only[nr]at H)|((with_reducible refine ch (hs _) H ?_);clear H;intro w H)|(go_at_call 79;(with_reducible refine(zF3 rb L (k+2) U hL (by omega) h3 _ (H.blk .zero).2).mono ?_);rintro e w ⟨hk,rfl,hr⟩;replace H:=H.callBut atd_ hk hr;clear hk hr;try simp only[nr]at H)|(go_at_call 79;(with_reducible refine(zIL rb L (k+3) U hL (by omega) g1 _ (H.blk .zero).2).mono ?_);rintro e w ⟨hk,rfl⟩;exact⟨rfl,H.keep.trans (hk.mono H.keep.size (fun _ _ m=>m)),rfl⟩))
     ·have E2:escR L k=.ok (.int .u8 (16 * h+g:Nat),k+4):=by
       rw[E,if_pos h1,h2];simp only[];rw[if_pos g1,g2]
      rw[E2];clear E E2 h2 g2
      go_enter Tryd.func69,Tryd.ntmps69
      go_wp2_with (first|fail|(go_at_call 54;(with_reducible refine(zAI rb L (k+1) U hL hlt _ (H.blk .zero).2).mono ?_);rintro e w ⟨hk,rfl,hr⟩;replace H:=H.callBut atd_ hk hr;clear hk hr;try simp only[nr]at H)|((with_reducible refine ch (hs _) H ?_);clear H;intro w H)|(go_at_call 79;(with_reducible refine(zF3 rb L (k+2) U hL (by omega) h3 _ (H.blk .zero).2).mono ?_);rintro e w ⟨hk,rfl,hr⟩;replace H:=H.callBut atd_ hk hr;clear hk hr;try simp only[nr]at H)|(go_at_call 79;(with_reducible refine(zF3 rb L (k+3) U hL (by omega) g3 _ (H.blk .zero).2).mono ?_);rintro e w ⟨hk,rfl,hr⟩;replace H:=H.callBut atd_ hk hr;clear hk hr;try simp only[nr]at H))
      go_ret;refine⟨H.keep,reti ?_,(H.blk .zero).2⟩;omega
   ·rw[if_neg h120]at E;have d120:(((byt L (k+1):Nat):Int) == 120)=false:=by rw[beq_eq_false_iff_ne];omega
    clear h120
    by_cases h128:128≤byt L (k+1)
    ·rw[if_pos h128]at E;rw[E];clear E;have d128:decide (((byt L (k+1):Nat):Int)<128)=false:=by simp;omega
     go_enter Tryd.func69,Tryd.ntmps69
     go_wp2_with (first|fail|(go_at_call 54;(with_reducible refine(zAI rb L (k+1) U hL hlt _ (H.blk .zero).2).mono ?_);rintro e w ⟨hk,rfl,hr⟩;replace H:=H.callBut atd_ hk hr;clear hk hr;try simp only[nr]at H)|((with_reducible first|refine ch (hs _) H ?_|refine ch (zBu _) H ?_);clear H;intro w H))
     exact⟨rfl,H.keep,rfl⟩
    ·rw[if_neg h128]at E;have d128:decide (((byt L (k+1):Nat):Int)<128)=true:=by simp;omega
     clear h128;have hH:=fun w=>zLq zBt zD5 (byt L (k+1)) hb w
     cases hA:hasB zBt (byt L (k+1))
     ·rw[hA]at E hH;simp only[Bool.false_eq_true,if_false]at E;rw[E];clear E hA
      go_enter Tryd.func69,Tryd.ntmps69
      go_wp2_with (first|fail|(go_at_call 54;(with_reducible refine(zAI rb L (k+1) U hL hlt _ (H.blk .zero).2).mono ?_);rintro e w ⟨hk,rfl,hr⟩;replace H:=H.callBut atd_ hk hr;clear hk hr;try simp only[nr]at H)|((with_reducible refine ch (hs _) H ?_);clear H;intro w H)|(go_at_call 80;(with_reducible refine(zDs _).mono ?_);rintro e w ⟨⟨mb,es,mc,rfl,hmn,hmh,hM⟩,hb⟩;replace H:=H.gainMp hb hmn hmh;clear hb hmn hmh;try simp only[nr]at H)|((with_reducible show @wpList _ _ _ ({dst:=_,op:=Op.lookup _ _ _ false,type:=_,pos:=_,after:=_,guard:=_}::_) _ _);refine zE3 wtd_ _ _ _ rfl Tryd.underlying133 Tryd.underlying9 rfl evd_ H atd_ hM (by first|trivial|rfl) (show zBM _=some (setV zBt) by kernel_rfl) ?_)|((with_reducible first|refine ch (hH _) H ?_|refine ch (zBB _) H ?_);clear H;intro w H))
      go_ret;refine⟨H.keep,rfl,(H.blk .zero).2⟩
     ·rw[hA]at E hH;simp only[if_true]at E;rw[E];clear E hA
      go_enter Tryd.func69,Tryd.ntmps69
      go_wp2_with (first|fail|(go_at_call 54;(with_reducible refine(zAI rb L (k+1) U hL hlt _ (H.blk .zero).2).mono ?_);rintro e w ⟨hk,rfl,hr⟩;replace H:=H.callBut atd_ hk hr;clear hk hr;try simp only[nr]at H)|((with_reducible refine ch (hs _) H ?_);clear H;intro w H)|(go_at_call 80;(with_reducible refine(zDs _).mono ?_);rintro e w ⟨⟨mb,es,mc,rfl,hmn,hmh,hM⟩,hb⟩;replace H:=H.gainMp hb hmn hmh;clear hb hmn hmh;try simp only[nr]at H)|((with_reducible show @wpList _ _ _ ({dst:=_,op:=Op.lookup _ _ _ false,type:=_,pos:=_,after:=_,guard:=_}::_) _ _);refine zE3 wtd_ _ _ _ rfl Tryd.underlying133 Tryd.underlying9 rfl evd_ H atd_ hM (by first|trivial|rfl) (show zBM _=some (setV zBt) by kernel_rfl) ?_)|((with_reducible first|refine ch (hH _) H ?_|refine ch (zBu _) H ?_);clear H;intro w H))
      exact⟨rfl,H.keep,rfl⟩
  ·have hs:=fun w=>zJA (byt L (k+1)) j hx w
   rw[hp]at E;simp only[]at E;rw[E];clear E hx hp;have dj:decide ((0:Int)≤(j:Int))=true:=by simp
   go_enter Tryd.func69,Tryd.ntmps69
   go_wp2_with (first|((with_reducible refine gI ?_);refine aI ?_)|(go_at_call 54;(with_reducible refine(zAI rb L (k+1) U hL hlt _ (H.blk .zero).2).mono ?_);rintro e w ⟨hk,rfl,hr⟩;replace H:=H.callBut atd_ hk hr;clear hk hr;try simp only[nr]at H)|((with_reducible refine ch (hs _) H ?_);clear H;intro w H))
   go_ret;refine⟨H.keep,rfl,(H.blk .zero).2⟩
 ·rw[if_neg hlt]at E;rw[E];clear E
  go_enter Tryd.func69,Tryd.ntmps69
  go_wp2_with (first|fail|(go_at_call 54;(with_reducible refine(zEH rb L (k+1) U hL hi hlt _ (H.blk .zero).2).mono ?_);rintro e w ⟨hk,rfl⟩;exact⟨rfl,H.keep.trans (hk.mono H.keep.size (fun _ _ m=>m)),rfl⟩))
end
end Go.Proofs.YtklcgfkdemifcaaDoor
