/-
  Laws of walks, and walks.
-/
import Derived.Test.YtdpcemijdmbpiaaGreatPr3
import Derived.Test.YtdpcemijdmbpiaaGreatPr2
import Derived.Test.YtdpcemijdmbpiaaGreatPr1
import Derived.Deep.MidRow
set_option linter.unusedVariables false
set_option linter.unusedSimpArgs false
set_option maxRecDepth 100000
set_option maxHeartbeats 16000000
namespace Go.Proofs.YtdpcemijdmbpiaaGreat
section
open Go.RowKit Go.Shelf
attribute [local go_sem] Oper.semAt_some
def markI (i:Nat):InstD:={kind:=0,next:=markF 1 i}
def marksI (k:Nat):List InstD:=(List.range k).map markI
theorem marksI_succ (k:Nat):marksI (k+1)=marksI k++[markI k]:=by simp[marksI,List.range_succ]
theorem marksI_len (k:Nat):(marksI k).length=k:=by simp[marksI]
theorem run_mkI (k:Int) (W:World):(Instr.build 50 #[(2,.int .i64 k)]).run Tryz.prog W=.ok (instV {kind:=0,next:=k}) W:=by simp[go_sem];rfl
theorem bMkI {ops:Array Oper} {dst:Option Tmp} {ty:TypeId} {pos:String} {aft:Array Edge} {grd:Option (Nat × Bool)} {rest:List Oper} {a:Act} {w:World} {Q:Exit→Act→World→Prop} {x:Operand} {k:Int} (h:wpList Tryz.prog ops Q rest (a.put dst (instV {kind:=0,next:=k})) w) (hg:Region.wanted (⟨dst,.build 50 #[(2,x)],ty,pos,aft,grd⟩:Oper) (yielded ops a.tmps)=true:=by first|rfl|exact wanted_g rfl (yielded_of rfl (by first|rfl|(simp only[pe];rfl)))) (hx:a.eval x=.int .i64 k:=by first|(simp only[pe];done)|(simp only[pe];rfl)):wpList Tryz.prog ops Q ((⟨dst,.build 50 #[(2,x)],ty,pos,aft,grd⟩:Oper)::rest) a w :=
 own_pure hg (by simp only[execOp,List.map_toArray,List.map_cons,List.map_nil,hx,Sem.run_bind,run_mkI];rfl) h
theorem info_inst:(Tryz.prog.info? 50).map (fun i=>(i.zero.map (·.cells.size),i.size,i.bytes))=some (some 9,9,72):=by kernel_rfl
theorem kit_markInst (i:Nat) (w0:World) (hi:i≤1000000):Calls Tryz.prog 39 #[.int .i64 1,.int .i64 i] w0 fun e w'=>e=.returned (instV (markI i))∧Below w0.heap.size w0 w':=by
 have H:=Hold.start w0;have hm:=fun w=>(kit_mark 1 i w (by omega) (by omega)).mono (R':=fun e w'=>e=.returned (.int .i64 (markF 1 i))∧Below w.heap.size w w') (fun e w' h=>⟨h.1,by rw[← h.2];exact Below.refl _ _⟩)
 obtain⟨mk,hmk⟩:∃ mk,markF 1 i=mk:=⟨_,rfl⟩;rw[hmk]at hm;have HM:=Lib.hid hmk;clear hmk
 go_enter Tryz.func39,Tryz.ntmps39
 go_wp2_with (first|((with_reducible show @wpList _ _ _ ({dst:=_,op:=Op.build _ _,type:=_,pos:=_,after:=_,guard:=_}::_) _ _);refine bMkI ?_)|(go_at_call 92;(with_reducible refine ch (hm _) H ?_);clear H;intro w H)|((first|((with_reducible refine kgA 4 ?_);refine kA 4 H ?_)|((with_reducible refine kgX 4 ?_);(first|refine kS 4 H ?_|refine kB 4 H ?_)));clear H;intro b4 w H;try simp only[nr]at H)|((with_reducible refine gTi ?_);refine aTi H ?_;clear H;intro w H;try simp only[nr]at H))
 refine ret_c Tryz.results39 rfl H (i:=0) .zero row_Inst rfl rfl ?_
 exact⟨by unfold markI;rw[HM.out],H.below⟩
theorem own_make0 {P:Program} {ops:Array Oper} {rest:List Oper} {o:Oper} {a:Act} {w w0:World} {Q:Exit→Act→World→Prop} {l:List Res} {M:Nat→Prop} (hg:o.guard=none) (x c:Operand) (t:TypeId) (hop:o.op=Op.makeSlice t x c) (H:HoldG M w0 w l) {e:TypeId} {i:TypeInfo} {z:Value} {sz bytes:Nat}
  (h1:P.underlying t=some (.slice e)) (h2:P.info? e=some i) (h3:i.zero=some z) (h4:i.size=sz) (h5:i.bytes=bytes) {n:Nat} (hl:a.eval x=.int .i64 0) (hc:a.eval c=.int .i64 n) (b2:bytes * n≤281474976710656) (b3:n≤maxLen)
  (h:∀ g w',HoldG M w0 w' (l++[.row (.slice (some ⟨g,0,none⟩) 0 n) e sz 0 []])→wpList P ops Q rest (a.put o.dst (.slice (some ⟨g,0,none⟩) 0 n)) w'):wpList P ops Q (o::rest) a w:=by
 refine wpList_make_own w hg x c t hop w0.heap.size e i z sz h1 h2 h3 h4 .i64 .i64 n n hl hc rfl (by rw[h5];exact b2) b3 H.keep.size (fun w' r1 r2=>h w.heap.size w' ?_)
 exact H.add r2 r1 (fun b e=>by cases e;exact Nat.le_refl _)
theorem inst_info:∃ (i:TypeInfo) (z:Value),Tryz.prog.info? 50=some i∧i.zero=some z∧i.size=9∧i.bytes=72∧z.cells.size=9:=by
 have h:=info_inst
 cases hu:Tryz.prog.info? 50 with
 | none=>rw[hu]at h;cases h
 | some i =>
  rw[hu]at h;simp only[Option.map_some,Option.some.injEq,Prod.mk.injEq]at h;obtain⟨h1,h2,h3⟩:=h;obtain⟨z,hz,hs⟩:=Option.map_eq_some_iff.1 h1;exact⟨i,z,rfl,hz,h2,h3,hs⟩
theorem run_instL (d:InstD) (W:World):(Instr.buildSlice 32 1 #[(0,instV d)]).run Tryz.prog W=.ok (.slice (some ⟨W.heap.size,0,none⟩) 1 1) (W.alloc (.cells (instC d) 50)):=by kernel_rfl
theorem inst_cells (xs:List InstD):∀ u ∈ flatR (xs.map instC),u.oneCell'=true:=by
 intro u hu;simp only[flatR,List.mem_flatten,List.mem_map]at hu;obtain⟨l,⟨r,⟨x,_,rfl⟩,rfl⟩,hu⟩:=hu;simp only[instC]at hu;simp at hu;rcases hu with rfl|rfl|rfl|rfl|rfl|rfl|rfl|rfl|rfl<;>rfl
theorem kit_LentInsts (pp:Option Addr) (cp:Nat) (ps:List InstD) (Fp:Nat→Prop) (w0:World) (hn:ps.length≤5000) (hFp:∀ b,Fp b→b<w0.heap.size) (hp:InstsR Fp pp cp ps w0) :
  Calls Tryz.prog 14 #[.slice pp ps.length cp] w0 fun e w'=>∃ g cap,e=.returned (.slice (some ⟨g,0,none⟩) ps.length cap)∧w'.ownsRow w0.heap.size 50 9 (.slice (some ⟨g,0,none⟩) (ps.length+12) cap) (ps.length+12) (flatR ((ps++marksI 12).map instC))∧Below w0.heap.size w0 w':=by
 have H:=Hold.insts hFp hp;have hbd:=hp.bound;clear hp;obtain⟨ii,iz,hii,hi0,hi1,hi2,hi3⟩:=inst_info;obtain⟨n,hnn⟩:∃ n,ps.length=n:=⟨_,rfl⟩;have HN:=Lib.hid hnn;have hrd:∀ V,InstsR Fp pp cp ps V→RdN 9 V Fp (.slice pp n cp) (ps.map instC):=fun V h=>by have:=HN.out;subst this;exact h
 rw[hnn]at hn hbd ⊢;clear hnn
 go_enter Tryz.func14,Tryz.ntmps14
 go_wp2_with (first|((with_reducible show @wpList _ _ _ ({dst:=_,op:=Op.makeSlice _ _ _,type:=_,pos:=_,after:=_,guard:=_}::_) _ _);refine own_make0 rfl _ _ 32 rfl H Tryz.underlying32 hii hi0 hi1 hi2 (n:=n+12) rfl rfl (by omega) (by unfold maxLen;omega) ?_;clear H;intro g w H;simp only[List.cons_append,List.nil_append]at H)|(at_builtin;refine own_appendK rfl _ _ 32 rfl H (i:=1) evd_ evd_ i_1 (hrd _ (H.kn (i:=0) .zero)) (instsX_size ps) Tryz.underlying32 hii hi0 hi1 hi2 hi3 (by decide) (inst_cells ps) (by unfold maxLen;omega) (by omega) ?_;clear H;intro v2 w H;simp only[List.set_cons_succ,List.set_cons_zero]at H)|fail)
 rw[Nat.zero_add,List.nil_append]at H;obtain⟨q0,c0,rfl,_,_,_⟩:=H.rowShape (i:=1) i_1
 go_loopw [3,4] (fun out k wr=>∃ (j:Nat) (q:Option Addr) (c:Nat),j≤12∧k=.int .i64 j∧out=.slice q (n+j) c∧Hold w0 wr [.kn Fp (InstsR Fp pp cp ps),.row (.slice q (n+j) c) 50 9 (n+j) (flatR ((ps++marksI j).map instC))]) (fun _ k _=>12 - (intOf k).toNat)
 case atStart=>exact⟨0,q0,c0,by omega,rfl,rfl,by simpa [marksI] using H⟩
 case round =>
  clear H;obtain⟨j,q,c,hj,rfl,rfl,H⟩:=hrel
  by_cases hlt:j<12
  ·have dj:decide (j<12)=true:=decide_eq_true hlt;have dj2:decide ((j:Int)<12)=true:=decide_eq_true (by omega)
   have hap:flatR ((ps++marksI j).map instC)++(instC (markI j)).toList=flatR ((ps++marksI (j+1)).map instC):=by
    rw[marksI_succ,← List.append_assoc,List.map_append (l₁:=ps++marksI j),flatR_append];simp[flatR]
   have HAP:=Lib.hid hap;clear hap;have hmk:=fun w=>kit_markInst j w (by omega)
   go_wp2_with (first|(go_at_call 39;(with_reducible refine ch (hmk _) H ?_);clear H;intro w H)|((with_reducible show @wpList _ _ _ ({dst:=_,op:=Op.buildSlice _ _ _,type:=_,pos:=_,after:=_,guard:=_}::_) _ _);refine own_build wtd_ _ _ _ rfl H (instC (markI j)) 50 (by intro W;simp only[List.map_toArray,List.map_cons,List.map_nil];(try simp only[pe]);exact run_instL _ W) ?_;clear H;intro bk w H;simp only[List.cons_append,List.nil_append]at H)|(at_builtin;refine own_append rfl _ _ 32 rfl H (i:=1) (j:=2) evd_ rfl i_1 i_2 Tryz.underlying32 hii hi0 hi1 hi2 hi3 (by decide) rfl rfl (by unfold maxLen;omega) (by omega) ?_;clear H;intro v2 w H;simp only[List.set_cons_succ,List.set_cons_zero]at H;(obtain⟨q2,c2,rfl,_,_,_⟩:=H.rowShape (i:=1) i_1))|fail)
   rw[HAP.out]at H;go_roundw
   case rel=>exact⟨j+1,q2,c2,by omega,by go_num,rfl,H.take 2⟩
   case measure=>simp[intOf];omega
  ·obtain rfl:j=12:=by omega
   have dj:decide ((12:Int)<12)=false:=by decide
   obtain⟨q2,c2,e2,hc1,_,hq2⟩:=H.rowShape (i:=1) i_1;obtain⟨g,rfl⟩:=hq2 (by omega)
   simp only[Value.slice.injEq]at e2;obtain⟨rfl,_,rfl⟩:=e2;have hcn:n≤c:=by omega
   go_wp2_with (first|((with_reducible show @wpList _ _ _ ({dst:=_,op:=Op.slice _ _ _ _ _,type:=_,pos:=_,after:=_,guard:=_}::_) _ _);refine own_pure wtd_ (run_cutS (sz:=9) (m:=n) (by kernel_rfl) (fun w=>by kernel_rfl) rfl rfl rfl hcn) ?_)|fail)
   go_ret;rw[← HN.out]at H ⊢;exact⟨g,c,rfl,H.all 1 _ rfl,H.below⟩
theorem run_eqIself {o:Oper} {a:Act} {w:World} {x y:Operand} {U:TypeId} {d:InstD} (hop:o.op=.binOp .eql 50 x y U) (hx:a.eval x=instV d) (hy:a.eval y=instV d):(execOp a.eval o).run Tryz.prog w=.ok (.value (.bool true)) w:=by
 have he:=run_eqSetD d.set d.set w;have hs:eqS d.set d.set=true:=by simp[eqS]
 simp only[execOp,hop,hx,hy];unfold instV instC;simp[go_sem,he,hs]
theorem kit_KeptInsts (pp:Option Addr) (cp:Nat) (ps:List InstD) (g cap:Nat) (Fp G:Nat→Prop) (w0:World) (hn:ps.length≤5000) (hFp:∀ b,Fp b→b<w0.heap.size) (hG:∀ b,G b→b<w0.heap.size) (hp:InstsR Fp pp cp ps w0) (hk:InstsR G (some ⟨g,0,none⟩) cap (ps++marksI 12) w0) :
  Calls Tryz.prog 19 #[.slice (some ⟨g,0,none⟩) ps.length cap,.slice pp ps.length cp] w0 fun e w'=>e=.returned (.bool true)∧Below w0.heap.size w0 w':=by
 have hbd:=hp.bound;have hbk:=hk.bound;have hat:=hp.at
 have H:=(Hold.insts hFp hp).know G (InstsR G (some ⟨g,0,none⟩) cap (ps++marksI 12)) hG (fun i r h=>by
  rcases i with _|i
  ·simp at h;subst h;intro b hb;cases hb
  ·simp at h) (fun V hV=>hk.kept hV)
 simp only[List.cons_append,List.nil_append]at H;clear hp hk;rw[List.length_append,marksI_len]at hbk;obtain⟨n,hnn⟩:∃ n,ps.length=n:=⟨_,rfl⟩;have HN:=Lib.hid hnn;rw[hnn]at hn hbd hbk hat ⊢;clear hnn;have hne:((n:Int) != (n:Int))=false:=by simp
 have hsum:wrap64 ((n:Int)+12)=((n+12:Nat):Int):=by unfold wrap64;omega
 have HLK:=Lib.hid hbk.1
 go_enter Tryz.func19,Tryz.ntmps19
 go_wp2_with (first|((with_reducible show @wpList _ _ _ ({dst:=_,op:=Op.slice _ _ _ _ _,type:=_,pos:=_,after:=_,guard:=_}::_) _ _);refine own_pure wtd_ (run_cutS (sz:=9) (m:=n+12) (by kernel_rfl) (fun w=>by kernel_rfl) rfl rfl rfl HLK.out) ?_)|fail)
 go_loopw [6] (fun ix wr=>∃ j:Nat,j≤n+12∧ix=.int .i64 j∧Hold w0 wr [.kn Fp (InstsR Fp pp cp ps),.kn G (InstsR G (some ⟨g,0,none⟩) cap (ps++marksI 12))]) (fun ix _=>n+13 - (intOf ix).toNat)
 case atStart=>exact⟨0,by omega,rfl,H⟩
 case round =>
  clear H;obtain⟨j,hj,rfl,H⟩:=hrel
  by_cases hlt:j<n+12
  ·have dj:decide (j<n+12)=true:=decide_eq_true hlt;have dj2:decide ((j:Int)<((n+12:Nat):Int))=true:=decide_eq_true (by omega)
   have dj3:decide ((j:Int)<(n:Int)+12)=true:=decide_eq_true (by omega)
   by_cases hjn:j<n
   ·obtain⟨x,hx⟩:∃ x,ps[j]?=some x:=⟨_,List.getElem?_eq_getElem (by rw[HN.out];exact hjn)⟩
    have hx2:(ps++marksI 12)[j]?=some x:=by rw[List.getElem?_append_left (by rw[HN.out];exact hjn)];exact hx
    obtain⟨bp,op,rfl⟩:=hat (by omega)
    have HC1:=Lib.hid (fun V (h:InstsR Fp (some ⟨bp,op,none⟩) cp ps V)=>h.cells hx rfl:∀ V,InstsR Fp (some ⟨bp,op,none⟩) cp ps V→∀ k,k<9→V.cell? ⟨bp,op+j * 9+k,none⟩=(instC x)[k]?)
    have HC2:=Lib.hid (fun V (h:InstsR G (some ⟨g,0,none⟩) cap (ps++marksI 12) V)=>h.cells hx2 rfl:∀ V,InstsR G (some ⟨g,0,none⟩) cap (ps++marksI 12) V→∀ k,k<9→V.cell? ⟨g,0+j * 9+k,none⟩=(instC x)[k]?)
    have d1:decide ((j:Int)<(n:Int))=true:=decide_eq_true (by omega)
    have d2:decide ((n:Int)≤(j:Int))=false:=decide_eq_false (by omega)
    clear hx hx2 hat
    go_upto_region 7 with fail
    refine wp_region_spec 35 [fun v _=>v=.int .i64 (j:Int),fun v _=>v=.slice (some ⟨bp,op,none⟩) n cp,fun v _=>v=.int .i64 ((n:Nat):Int),fun v _=>v=.bool true,fun v _=>v=.bool true,fun v _=>v=.slice (some ⟨g,0,none⟩) (n+12) cap,fun v _=>v=.int .i64 (j:Int),fun v _=>v=.pointer (some ⟨g,0+j * 9,none⟩),fun v _=>v=instV x,fun v _=>v=.slice (some ⟨bp,op,none⟩) n cp,fun v _=>v=.int .i64 (j:Int),fun v _=>v=.pointer (some ⟨bp,op+j * 9,none⟩),fun v _=>v=instV x,fun v _=>v=.bool true,fun v _=>v=.bool false,fun v _=>v=.bool false,fun v _=>v=.bool false,fun v _=>v=.int .i64 (j:Int),fun v _=>v=.slice (some ⟨bp,op,none⟩) n cp,fun v _=>v=.int .i64 ((n:Nat):Int),fun v _=>v=.bool false,fun v _=>v=.bool false,fun v _=>v=undef,fun v _=>v=undef,fun v _=>v=undef,fun v _=>v=undef,fun v _=>v=undef,fun v _=>v=undef,fun v _=>v=undef,fun v _=>v=undef,fun v _=>v=undef,fun v _=>v=undef,fun v _=>v=undef,fun v _=>v=Value.bool false,fun v _=>v=Value.bool false] (fun _=>false) (by kernel_rfl) (by kernel_rfl) (by kernel_rfl) (by repeat (first|exact trivial|refine⟨stable_eq _,?_⟩)) (fun _ _ h=>by cases h) ?ob ?en
    case ob =>
     refine⟨?_,?_,?_,?_,?_,?_,?_,?_,?_,?_,?_,?_,?_,?_,?_,?_,?_,?_,?_,?_,?_,?_,?_,?_,?_,?_,?_,?_,?_,?_,?_,?_,?_,?_,?_,trivial⟩<;>intro A W h
     ·exact rs_move rfl rfl (h.frame 6 rfl)
     ·exact rs_move rfl rfl (h.frame 1 rfl)
     ·exact rs_len Tryz.underlying32 rfl rfl (h.dep 1 24 rfl rfl)
     ·(have e23:A.eval (.tmp 23)=.int .i64 (j:Int):=h.dep 0 23 rfl rfl;have e25:A.eval (.tmp 25)=.int .i64 ((n:Nat):Int):=h.dep 2 25 rfl rfl;refine rs_pure rfl ?_;simp only[execOp,e23,e25];simp[go_sem]<;>omega)
     ·exact rs_move rfl rfl (h.dep 3 26 rfl rfl)
     ·exact rs_move (wanted_g rfl (yielded_of (d:=27) rfl (h.dep 4 27 rfl rfl))) rfl (h.frame 5 rfl)
     ·exact rs_move (wanted_g rfl (yielded_of (d:=27) rfl (h.dep 4 27 rfl rfl))) rfl (h.frame 6 rfl)
     ·exact rs_idx (sz:=9) Tryz.underlying32 (fun w=>by kernel_rfl) (wanted_g rfl (yielded_of (d:=27) rfl (h.dep 4 27 rfl rfl))) rfl (h.dep 5 28 rfl rfl) (h.dep 6 29 rfl rfl) hlt rfl (by decide)
     ·exact rs_pure (wanted_g rfl (yielded_of (d:=27) rfl (h.dep 4 27 rfl rfl))) (run_loadK rfl (h.dep 7 30 rfl rfl) row_Inst rfl (HC2.out _ ((H.call h.below).kn (i:=1) i_1))) (by decide)
     ·exact rs_move (wanted_g rfl (yielded_of (d:=27) rfl (h.dep 4 27 rfl rfl))) rfl (h.frame 1 rfl)
     ·exact rs_move (wanted_g rfl (yielded_of (d:=27) rfl (h.dep 4 27 rfl rfl))) rfl (h.frame 6 rfl)
     ·exact rs_idx (sz:=9) Tryz.underlying32 (fun w=>by kernel_rfl) (wanted_g rfl (yielded_of (d:=27) rfl (h.dep 4 27 rfl rfl))) rfl (h.dep 9 32 rfl rfl) (h.dep 10 33 rfl rfl) hjn rfl (by decide)
     ·exact rs_pure (wanted_g rfl (yielded_of (d:=27) rfl (h.dep 4 27 rfl rfl))) (run_loadK rfl (h.dep 11 34 rfl rfl) row_Inst rfl (HC1.out _ ((H.call h.below).kn (i:=0) .zero))) (by decide)
     ·exact rs_pure (wanted_g rfl (yielded_of (d:=27) rfl (h.dep 4 27 rfl rfl))) (run_eqIself rfl (h.dep 8 31 rfl rfl) (h.dep 12 35 rfl rfl)) (by decide)
     ·(have e36:A.eval (.tmp 36)=.bool true:=h.dep 13 36 rfl rfl;refine rs_pure (wanted_g rfl (yielded_of (d:=27) rfl (h.dep 4 27 rfl rfl))) ?_;simp only[execOp,e36];(simp[go_sem]<;>first|done|omega|(rw[IntKind.wrap_i64];omega)|(rw[IntKind.wrap_u8];omega)|(rw[IntKind.wrap_u64];omega)))
     ·exact rs_pick rfl rfl (h.dep 4 27 rfl rfl) (h.dep 14 37 rfl rfl)
     ·exact rs_move rfl rfl (h.dep 15 38 rfl rfl)
     ·exact rs_move (wanted_g rfl (yielded_of (d:=39) rfl (h.dep 16 39 rfl rfl))) rfl (h.frame 6 rfl)
     ·exact rs_move (wanted_g rfl (yielded_of (d:=39) rfl (h.dep 16 39 rfl rfl))) rfl (h.frame 1 rfl)
     ·exact rs_len Tryz.underlying32 (wanted_g rfl (yielded_of (d:=39) rfl (h.dep 16 39 rfl rfl))) rfl (h.dep 18 41 rfl rfl)
     ·(have e40:A.eval (.tmp 40)=.int .i64 (j:Int):=h.dep 17 40 rfl rfl;have e42:A.eval (.tmp 42)=.int .i64 ((n:Nat):Int):=h.dep 19 42 rfl rfl;refine rs_pure (wanted_g rfl (yielded_of (d:=39) rfl (h.dep 16 39 rfl rfl))) ?_;simp only[execOp,e40,e42];simp[go_sem]<;>omega)
     ·exact rs_move (wanted_g rfl (yielded_of (d:=39) rfl (h.dep 16 39 rfl rfl))) rfl (h.dep 20 43 rfl rfl)
     ·exact rsk (h.dep 21 44 rfl rfl)
     ·exact rsk (h.dep 21 44 rfl rfl)
     ·exact rsk (h.dep 21 44 rfl rfl)
     ·exact rsk (h.dep 21 44 rfl rfl)
     ·exact rsk (h.dep 21 44 rfl rfl)
     ·exact rsk (h.dep 21 44 rfl rfl)
     ·exact rsk (h.dep 21 44 rfl rfl)
     ·exact rsk (h.dep 21 44 rfl rfl)
     ·exact rsk (h.dep 21 44 rfl rfl)
     ·exact rsk (h.dep 21 44 rfl rfl)
     ·exact rsk (h.dep 21 44 rfl rfl)
     ·exact rs_pick (wanted_g rfl (yielded_of (d:=39) rfl (h.dep 16 39 rfl rfl))) rfl (h.dep 21 44 rfl rfl) (rfl)
     ·exact rs_pick rfl rfl (h.dep 16 39 rfl rfl) (h.dep 33 56 rfl rfl)
    case en =>
     intro vals W hbw hv _;simp only[fa,Nat.reduceAdd];rw[e_ hv 0,e_ hv 1,e_ hv 2,e_ hv 3,e_ hv 4,e_ hv 5,e_ hv 6,e_ hv 7,e_ hv 8,e_ hv 9,e_ hv 10,e_ hv 11,e_ hv 12,e_ hv 13,e_ hv 14,e_ hv 15,e_ hv 16,e_ hv 17,e_ hv 18,e_ hv 19,e_ hv 20,e_ hv 21,e_ hv 22,e_ hv 23,e_ hv 24,e_ hv 25,e_ hv 26,e_ hv 27,e_ hv 28,e_ hv 29,e_ hv 30,e_ hv 31,e_ hv 32,e_ hv 33,e_ hv 34];clear hv
     try simp only[pl]
     replace H:=H.call hbw;clear hbw
     go_wp2_with fail
     go_roundw
     case rel=>exact⟨j+1,by omega,by go_num,H⟩
     case measure=>simp[intOf];omega
   ·obtain⟨k,hk⟩:∃ k,j - n=k:=⟨_,rfl⟩;have hk12:k<12:=by omega
    have hx2:(ps++marksI 12)[j]?=some (markI k):=by
     rw[List.getElem?_append_right (by rw[HN.out];omega),HN.out,hk]
     simp[marksI,hk12]
    have HC2:=Lib.hid (fun V (h:InstsR G (some ⟨g,0,none⟩) cap (ps++marksI 12) V)=>h.cells hx2 rfl:∀ V,InstsR G (some ⟨g,0,none⟩) cap (ps++marksI 12) V→∀ q,q<9→V.cell? ⟨g,0+j * 9+q,none⟩=(instC (markI k))[q]?)
    have d1:decide ((j:Int)<(n:Int))=false:=decide_eq_false (by omega)
    have d2:decide ((n:Int)≤(j:Int))=true:=decide_eq_true (by omega)
    have hsb:((j:Nat):Int) - ((n:Nat):Int)=((k:Nat):Int):=by omega
    have hsb1:(-9223372036854775808:Int)≤((k:Nat):Int):=by omega
    have hsb2:((k:Nat):Int)≤9223372036854775807:=by omega
    have hmk:=fun w=>kit_markInst k w (by omega)
    clear hx2 hat hk
    go_upto_region 7 with fail
    refine wp_region_spec 35 [fun v _=>v=.int .i64 (j:Int),fun v _=>v=.slice pp n cp,fun v _=>v=.int .i64 ((n:Nat):Int),fun v _=>v=.bool false,fun v _=>v=.bool false,fun v _=>v=undef,fun v _=>v=undef,fun v _=>v=undef,fun v _=>v=undef,fun v _=>v=undef,fun v _=>v=undef,fun v _=>v=undef,fun v _=>v=undef,fun v _=>v=undef,fun v _=>v=undef,fun v _=>v=Value.bool false,fun v _=>v=Value.bool false,fun v _=>v=.int .i64 (j:Int),fun v _=>v=.slice pp n cp,fun v _=>v=.int .i64 ((n:Nat):Int),fun v _=>v=.bool true,fun v _=>v=.bool true,fun v _=>v=.slice (some ⟨g,0,none⟩) (n+12) cap,fun v _=>v=.int .i64 (j:Int),fun v _=>v=.pointer (some ⟨g,0+j * 9,none⟩),fun v _=>v=instV (markI k),fun v _=>v=.int .i64 (j:Int),fun v _=>v=.slice pp n cp,fun v _=>v=.int .i64 ((n:Nat):Int),fun v _=>v=.int .i64 (k:Nat),fun v _=>v=instV (markI k),fun v _=>v=.bool true,fun v _=>v=.bool false,fun v _=>v=.bool false,fun v _=>v=.bool false] (fun _=>false) (by kernel_rfl) (by kernel_rfl) (by kernel_rfl) (by repeat (first|exact trivial|refine⟨stable_eq _,?_⟩)) (fun _ _ h=>by cases h) ?ob ?en
    case ob =>
     refine⟨?_,?_,?_,?_,?_,?_,?_,?_,?_,?_,?_,?_,?_,?_,?_,?_,?_,?_,?_,?_,?_,?_,?_,?_,?_,?_,?_,?_,?_,?_,?_,?_,?_,?_,?_,trivial⟩<;>intro A W h
     ·exact rs_move rfl rfl (h.frame 6 rfl)
     ·exact rs_move rfl rfl (h.frame 1 rfl)
     ·exact rs_len Tryz.underlying32 rfl rfl (h.dep 1 24 rfl rfl)
     ·(have e23:A.eval (.tmp 23)=.int .i64 (j:Int):=h.dep 0 23 rfl rfl;have e25:A.eval (.tmp 25)=.int .i64 ((n:Nat):Int):=h.dep 2 25 rfl rfl;refine rs_pure rfl ?_;simp only[execOp,e23,e25];simp[go_sem]<;>omega)
     ·exact rs_move rfl rfl (h.dep 3 26 rfl rfl)
     ·exact rsk (h.dep 4 27 rfl rfl)
     ·exact rsk (h.dep 4 27 rfl rfl)
     ·exact rsk (h.dep 4 27 rfl rfl)
     ·exact rsk (h.dep 4 27 rfl rfl)
     ·exact rsk (h.dep 4 27 rfl rfl)
     ·exact rsk (h.dep 4 27 rfl rfl)
     ·exact rsk (h.dep 4 27 rfl rfl)
     ·exact rsk (h.dep 4 27 rfl rfl)
     ·exact rsk (h.dep 4 27 rfl rfl)
     ·exact rsk (h.dep 4 27 rfl rfl)
     ·exact rs_pick rfl rfl (h.dep 4 27 rfl rfl) (rfl)
     ·exact rs_move rfl rfl (h.dep 15 38 rfl rfl)
     ·exact rs_move (wanted_g rfl (yielded_of (d:=39) rfl (h.dep 16 39 rfl rfl))) rfl (h.frame 6 rfl)
     ·exact rs_move (wanted_g rfl (yielded_of (d:=39) rfl (h.dep 16 39 rfl rfl))) rfl (h.frame 1 rfl)
     ·exact rs_len Tryz.underlying32 (wanted_g rfl (yielded_of (d:=39) rfl (h.dep 16 39 rfl rfl))) rfl (h.dep 18 41 rfl rfl)
     ·(have e40:A.eval (.tmp 40)=.int .i64 (j:Int):=h.dep 17 40 rfl rfl;have e42:A.eval (.tmp 42)=.int .i64 ((n:Nat):Int):=h.dep 19 42 rfl rfl;refine rs_pure (wanted_g rfl (yielded_of (d:=39) rfl (h.dep 16 39 rfl rfl))) ?_;simp only[execOp,e40,e42];simp[go_sem]<;>omega)
     ·exact rs_move (wanted_g rfl (yielded_of (d:=39) rfl (h.dep 16 39 rfl rfl))) rfl (h.dep 20 43 rfl rfl)
     ·exact rs_move (wanted_g rfl (yielded_of (d:=44) rfl (h.dep 21 44 rfl rfl))) rfl (h.frame 5 rfl)
     ·exact rs_move (wanted_g rfl (yielded_of (d:=44) rfl (h.dep 21 44 rfl rfl))) rfl (h.frame 6 rfl)
     ·exact rs_idx (sz:=9) Tryz.underlying32 (fun w=>by kernel_rfl) (wanted_g rfl (yielded_of (d:=44) rfl (h.dep 21 44 rfl rfl))) rfl (h.dep 22 45 rfl rfl) (h.dep 23 46 rfl rfl) hlt rfl (by decide)
     ·exact rs_pure (wanted_g rfl (yielded_of (d:=44) rfl (h.dep 21 44 rfl rfl))) (run_loadK rfl (h.dep 24 47 rfl rfl) row_Inst rfl (HC2.out _ ((H.call h.below).kn (i:=1) i_1))) (by decide)
     ·exact rs_move (wanted_g rfl (yielded_of (d:=44) rfl (h.dep 21 44 rfl rfl))) rfl (h.frame 6 rfl)
     ·exact rs_move (wanted_g rfl (yielded_of (d:=44) rfl (h.dep 21 44 rfl rfl))) rfl (h.frame 1 rfl)
     ·exact rs_len Tryz.underlying32 (wanted_g rfl (yielded_of (d:=44) rfl (h.dep 21 44 rfl rfl))) rfl (h.dep 27 50 rfl rfl)
     ·exact rs_pure (wanted_g rfl (yielded_of (d:=44) rfl (h.dep 21 44 rfl rfl))) (run_subK rfl (h.dep 26 49 rfl rfl) (h.dep 28 51 rfl rfl) hsb hsb1 hsb2) (by decide)
     ·exact rs_calln (wanted_g rfl (yielded_of (d:=44) rfl (h.dep 21 44 rfl rfl))) rfl (enters_of Tryz.func39 (by kernel_rfl) rfl) (args2 ⟨rfl,(h.dep 29 52 rfl rfl)⟩) (hmk W)
     ·exact rs_pure (wanted_g rfl (yielded_of (d:=44) rfl (h.dep 21 44 rfl rfl))) (run_eqIself rfl (h.dep 25 48 rfl rfl) (h.dep 30 53 rfl rfl)) (by decide)
     ·(have e54:A.eval (.tmp 54)=.bool true:=h.dep 31 54 rfl rfl;refine rs_pure (wanted_g rfl (yielded_of (d:=44) rfl (h.dep 21 44 rfl rfl))) ?_;simp only[execOp,e54];(simp[go_sem]<;>first|done|omega|(rw[IntKind.wrap_i64];omega)|(rw[IntKind.wrap_u8];omega)|(rw[IntKind.wrap_u64];omega)))
     ·exact rs_pick (wanted_g rfl (yielded_of (d:=39) rfl (h.dep 16 39 rfl rfl))) rfl (h.dep 21 44 rfl rfl) (h.dep 32 55 rfl rfl)
     ·exact rs_pick rfl rfl (h.dep 16 39 rfl rfl) (h.dep 33 56 rfl rfl)
    case en =>
     intro vals W hbw hv _;simp only[fa,Nat.reduceAdd];rw[e_ hv 0,e_ hv 1,e_ hv 2,e_ hv 3,e_ hv 4,e_ hv 5,e_ hv 6,e_ hv 7,e_ hv 8,e_ hv 9,e_ hv 10,e_ hv 11,e_ hv 12,e_ hv 13,e_ hv 14,e_ hv 15,e_ hv 16,e_ hv 17,e_ hv 18,e_ hv 19,e_ hv 20,e_ hv 21,e_ hv 22,e_ hv 23,e_ hv 24,e_ hv 25,e_ hv 26,e_ hv 27,e_ hv 28,e_ hv 29,e_ hv 30,e_ hv 31,e_ hv 32,e_ hv 33,e_ hv 34];clear hv
     try simp only[pl]
     replace H:=H.call hbw;clear hbw
     go_wp2_with fail
     go_roundw
     case rel=>exact⟨j+1,by omega,by go_num,H⟩
     case measure=>simp[intOf];omega
  ·obtain rfl:j=n+12:=by omega
   have dj:decide (n+12<n+12)=false:=by simp
   have dj2:decide (((n+12:Nat):Int)<((n+12:Nat):Int))=false:=by simp
   have dj3:decide ((n:Int)+12<(n:Int)+12)=false:=by simp
   go_wp2_with fail
   go_ret;exact⟨rfl,H.below⟩
end
section
open Go.RowKit Go.Shelf
theorem InstsR.pre {G:Nat→Prop} {q:Option Addr} {c:Nat} {ps ys:List InstD} {V:World} (h:InstsR G q c (ps++ys) V):InstsR G q c ps V:=by
 obtain⟨p,cap,e,h1,h2,h0,h3⟩:=h;simp only[Value.slice.injEq]at e;obtain⟨rfl,_,rfl⟩:=e;refine⟨q,c,by simp,by simp at h1 ⊢;omega,h2,h0,fun j r hr=>h3 j r ?_⟩
 rw[List.map_append,List.getElem?_append_left (List.getElem?_eq_some_iff.1 hr).1];exact hr
section
variable {M:Nat→Prop} {P:Program} {f:FuncId} {args:Array Value} {w w0:World} {l:List Res} {R:Ending→World→Prop}
theorem chLI {ps:List InstD} (c:Calls P f args w fun e w'=>∃ g cap,e=.returned (.slice (some ⟨g,0,none⟩) ps.length cap)∧w'.ownsRow w.heap.size 50 9 (.slice (some ⟨g,0,none⟩) (ps.length+12) cap) (ps.length+12) (flatR ((ps++marksI 12).map instC))∧Below w.heap.size w w') (H:HoldG M w0 w l)
  (k:∀ g cap w',HoldG M w0 w' (l++[.kn (·=g) (InstsR (·=g) (some ⟨g,0,none⟩) cap (ps++marksI 12))])→R (.returned (.slice (some ⟨g,0,none⟩) ps.length cap)) w'):Calls P f args w R:=c.mono fun _ w' h=>by
 obtain⟨g,cap,rfl,ho,hb⟩:=h;have hlen:((ps++marksI 12).map instC).length=ps.length+12:=by simp[marksI_len]
 refine k g cap w' (H.learn hb Still.none (fun b hb'=>by subst hb';exact⟨(World.ownsRow.lt ho b rfl).2,.inl (World.ownsRow.lt ho b rfl).1⟩) (fun V hV=>?_))
 have:=RdN.of_own (V:=V) ho (instsX_size _) hlen (fun b hb'=>by
  have e:some g=some b:=hb'
  cases e;exact hV g rfl)
 have h2:=this.mono (G:=(·=g)) (fun b hb'=>by have e:some g=some b:=hb';cases e;rfl)
 unfold InstsR;rw[List.length_append,marksI_len];exact h2
end
end
section
open Go.RowKit
inductive AObj where
 | o (x:Obj)
 | row (cs:List Value) (T:TypeId) (sz:Nat)
 | ro (cs:List Value)
inductive Tr where
 | lf
 | nd (l:Tr) (v:Option AObj) (r:Tr)
def Tr.get:Tr→Nat→Option AObj
 | .lf,_=>none
 | .nd l v r,k=>cond (Nat.beq k 0) v (cond (Nat.beq (k % 2) 1) (l.get (k / 2)) (r.get (k / 2 - 1)))
def Tr.setF:Nat→Tr→Nat→Option AObj→Tr
 | 0,t,_,_=>t
 | f+1,.lf,k,v=>cond (Nat.beq k 0) (.nd .lf v .lf) (cond (Nat.beq (k % 2) 1) (.nd (setF f .lf (k / 2) v) none .lf) (.nd .lf none (setF f .lf (k / 2 - 1) v)))
 | f+1,.nd l x r,k,v=>cond (Nat.beq k 0) (.nd l v r) (cond (Nat.beq (k % 2) 1) (.nd (setF f l (k / 2) v) x r) (.nd l x (setF f r (k / 2 - 1) v)))
def Tr.set (t:Tr) (k:Nat) (v:Option AObj):Tr:=t.setF (k+1) k v
structure AH where
 t:Tr
 next:Nat
 floor:Nat
 hid:List (Nat × Nat)
def inR:List (Nat × Nat)→Nat→Bool
 | [],_=>false
 | (a,b)::r,k=>(Nat.ble a k&&Nat.blt k b) || inR r k
def AH.get (h:AH) (n:Nat):Option AObj:=cond (Nat.ble h.next n || inR h.hid n) none (h.t.get n)
def AH.put (h:AH) (n:Nat) (v:AObj):AH:={h with t:=h.t.set n (some v)}
def AH.drop (h:AH) (n:Nat):AH:={h with t:=h.t.set n none}
def AH.new (h:AH) (v:AObj):AH:={h with t:=h.t.set h.next (some v),next:=h.next+1}
def plain1:Value→Bool
 | .bool _|.int _ _|.string _|.pointer none|.slice none 0 0|.map none|.nilFunc|.nilIface=>true
 | .func (.func _) f c=>Nat.beq f.size 0&&Nat.beq c.size 0
 | _=>false
def plain:Value→Bool
 | .agg cs=>cs.toList.all plain1
 | .tuple cs=>cs.toList.all plain1
 | .iface _ v=>plain1 v
 | v=>plain1 v
def nth:List Value→Nat→Value
 | [],_=>undef
 | x::_,0=>x
 | _::r,n+1=>nth r n
def aev (G:Nat) (t:List Value):Operand→Option Value
 | .tmp i=>some (nth t i)
 | .const v=>cond (plain v) (some v) none
 | .global g=>cond (Nat.blt g G) (some (.pointer (some ⟨g,0,none⟩))) none
 | .func f=>some (.func (.func f) #[] #[])
def aevs (G:Nat) (t:List Value):List Operand→Option (List Value)
 | []=>some []
 | x::r=>match aev G t x with
  | none=>none
  | some v=>match aevs G t r with
   | none=>none
   | some l=>some (v::l)
def aevp (G:Nat) (t:List Value):List (Nat × Operand)→Option (List (Nat × Value))
 | []=>some []
 | (i,x)::r=>match aev G t x with
  | none=>none
  | some v=>match aevp G t r with
   | none=>none
   | some l=>some ((i,v)::l)
def pureP {α:Type} (P:Program):Sem α→Option α
 | .pure a=>some a
 | .program k=>pureP P (k P)
 | .mark _ k=>pureP P k
 | _=>none
def sizeP (P:Program) (T:TypeId):Option Nat:=(P.info? T).map (·.size)
def rdv (P:Program) (T:TypeId) (c:List Value) (off:Nat):Option Value :=
 match P.underlying T with
 | none=>none
 | some d=>cond d.isRow
   (match sizeP P T with
    | none=>none
    | some n=>let seg:=(c.drop off).take n
     cond (Nat.beq seg.length n) (some (.agg seg.toArray)) none)
   (match c.drop off with
    | v::_=>some v
    | []=>none)
def AH.load (P:Program) (h:AH) (T:TypeId) (b off:Nat):Option Value :=
 match h.get b with
 | some (.o (.cells c _ _))=>rdv P T c.toList off
 | some (.row c _ _)=>rdv P T c off
 | some (.ro c)=>rdv P T c off
 | _=>none
def setL (c:List Value):Nat→List Value→List Value
 | _,[]=>c
 | k,v::r=>setL (c.set k v) (k+1) r
def AH.store (h:AH) (b off:Nat) (vs:List Value):Option AH :=
 cond (Nat.ble h.floor b&&vs.all (·.oneCell'))
  (match h.get b with
   | some (.o (.cells c U (lo,hi)))=>cond (Nat.ble (off+vs.length) c.size&&(Nat.ble hi lo || Nat.ble (off+vs.length) lo || Nat.ble hi off)) (some (h.put b (.o (.cells (setL c.toList off vs).toArray U (lo,hi))))) none
   | some (.row c U sz)=>cond (Nat.ble (off+vs.length) c.length) (some (h.put b (.row (setL c off vs) U sz))) none
   | _=>none) none
def mk (h:AH) (o:Obj) (v:Nat→Value):Option (Value × AH):=some (v h.next,h.new (.o o))
def ptrN (n:Nat):Value:=.pointer (some ⟨n,0,none⟩)
def fillL (place:Nat→Option (Nat × Nat)) (cells:List Value):List (Nat × Value)→Option (List Value)
 | []=>some cells
 | (i,v)::r=>match place i with
  | none=>none
  | some (off,size)=>cond (Nat.beq v.cells.size size&&Nat.ble (off+size) cells.length) (fillL place (setL cells off v.cells.toList) r) none
def repL (l:List Value):Nat→List Value
 | 0=>[]
 | n+1=>l++repL l n
def bytesOf:List Value→Option (List UInt8)
 | []=>some []
 | .int .u8 n::r=>match bytesOf r with
  | none=>none
  | some l=>some (UInt8.ofNat n.toNat::l)
 | _=>none
def AH.seg (h:AH) (b off n:Nat):Option (List Value) :=
 match h.get b with
 | some (.o (.cells c _ _))=>let s:=(c.toList.drop off).take n;cond (Nat.beq s.length n) (some s) none
 | some (.row c _ _)=>let s:=(c.drop off).take n;cond (Nat.beq s.length n) (some s) none
 | some (.ro c)=>let s:=(c.drop off).take n;cond (Nat.beq s.length n) (some s) none
 | _=>none
def nilEq:Value→Value→Option Bool
 | .pointer (some _),.pointer none|.pointer none,.pointer (some _)|.slice (some _) _ _,.slice none 0 0|.slice none 0 0,.slice (some _) _ _
 | .map (some _),.map none|.map none,.map (some _)|.func _ _ _,.nilFunc|.nilFunc,.func _ _ _=>some false
 | _,_=>none
def nilT:TypeDesc→Value→Bool
 | .pointer _,.pointer _|.slice _,.slice _ _ _|.map _ _,.map _|.func _ _ _,.func _ _ _|.func _ _ _,.nilFunc=>true
 | _,_=>false
def loA (G:Nat) (t:List Value):Option Operand→Option Value
 | none=>some (.int .i64 0)
 | some l=>aev G t l
def hiA (G:Nat) (t:List Value) (v:Value):Option Operand→Option Value
 | none=>match v with
  | .slice _ n _=>some (.int .i64 n)
  | .string q=>some (.int .i64 q.size)
  | _=>none
 | some l=>aev G t l
def mapA (h:AH):Value→Option (Array MapEntry)
 | .map none=>some #[]
 | .map (some b)=>match h.get b with
  | some (.o (.map es _))=>some es
  | _=>none
 | _=>none
def srcA (h:AH) (sz:Nat):Value→Option (List Value)
 | .slice none 0 0=>some []
 | .slice (some ⟨b,off,none⟩) k _=>h.seg b off (k * sz)
 | _=>none
def evOp (P:Program) (G:Nat) (t:List Value) (h:AH) (ty:TypeId):Op→Option (Value × AH)
 | .move x|.assign x=>match aev G t x with
  | some v=>some (v,h)
  | none=>none
 | .pick c a b=>match aev G t c with
  | some (.bool true)=>match aev G t a with
   | some v=>some (v,h)
   | none=>none
  | some (.bool false)=>match aev G t b with
   | some v=>some (v,h)
   | none=>none
  | _=>none
 | .alloc T=>match P.info? T with
  | none=>none
  | some i=>match i.zero with
   | none=>none
   | some z=>cond (plain z) (mk h (.cells z.cells T) ptrN) none
 | .box T x=>match aev G t x with
  | none=>none
  | some v=>mk h (.cells v.cells T) ptrN
 | .build T parts=>match aevp G t parts.toList with
  | none=>none
  | some l=>match P.info? T with
   | none=>none
   | some i=>match i.zero with
    | none=>none
    | some z=>cond (plain z)
     (match P.underlying T with
      | some (.struct fields)=>match fillL (fun k=>(fields[k]?).bind fun f=>(sizeP P f.type).map fun n=>(f.offset,n)) z.cells.toList l with
       | some c=>cond (fields.toList.all fun f=>(sizeP P f.type).isSome) (some (.agg c.toArray,h)) none
       | none=>none
      | some (.array _ e)=>match sizeP P e with
       | none=>none
       | some n=>match fillL (fun k=>some (k * n,n)) z.cells.toList l with
        | some c=>some (.agg c.toArray,h)
        | none=>none
      | _=>none) none
 | .buildSlice T n parts=>match aevp G t parts.toList with
  | none=>none
  | some l=>match P.underlying T with
   | some (.slice e)=>match P.info? e with
    | none=>none
    | some i=>match i.zero with
     | none=>none
     | some z=>cond (plain z&&Nat.beq z.cells.size i.size&&Nat.ble 1 i.size&&Nat.ble (n * i.size) 65536)
      (match fillL (fun k=>some (k * i.size,i.size)) (repL z.cells.toList n) l with
       | some c=>mk h (.cells c.toArray e) fun b=>.slice (some ⟨b,0,none⟩) n n
       | none=>none) none
   | _=>none
 | .load T x=>match aev G t x with
  | some (.pointer (some ⟨b,off,none⟩))=>match h.load P T b off with
   | some v=>some (v,h)
   | none=>none
  | _=>none
 | .store T x y=>match aev G t x,aev G t y with
  | some (.pointer (some ⟨b,off,none⟩)),some v=>match sizeP P T with
   | none=>none
   | some n=>cond (Nat.beq n v.cells.size)
    (match h.store b off v.cells.toList with
     | some h'=>some (undef,h')
     | none=>none) none
  | _,_=>none
 | .nilCheck x=>match aev G t x with
  | some (.pointer (some a))=>some (.pointer (some a),h)
  | some (.func (.func f) a b)=>some (.func (.func f) a b,h)
  | some (.map (some a))=>some (.map (some a),h)
  | _=>none
 | .binOp op T x y _=>match aev G t x,aev G t y with
  | some a,some b=>cond (plain a&&plain b)
   (match pureP P (do eqGuard op T x y a b;binOp op T a b) with
    | some v=>cond (plain v) (some (v,h)) none
    | none=>none)
   (match P.underlying T,nilEq a b with
    | some d,some r=>cond (nilT d a&&nilT d b)
     (match op with
     | .eql=>some (.bool r,h)
     | .neq=>some (.bool !r,h)
     | _=>none) none
    | _,_=>none)
  | _,_=>none
 | .unOp op _ x=>match aev G t x with
  | some a=>cond (plain a)
   (match pureP P (Op.unary op a) with
    | some v=>cond (plain v) (some (v,h)) none
    | none=>none) none
  | none=>none
 | .convert s d x=>match aev G t x with
  | some (.slice (some ⟨b,off,none⟩) n c)=>match P.underlying s,P.underlying d with
   | some (.slice _),some (.slice e)=>match P.underlying e with
    | some (.int .u8)=>cond (Nat.beq s d)
     (match h.get b with
      | some (.o (.cells cs U (0,0)))=>cond (Nat.ble h.floor b) (some (.slice (some ⟨b,off,none⟩) n c,h.put b (.o (.cells cs U (cs.size,cs.size+1))))) none
      | _=>none) none
    | _=>none
   | some (.slice e),some .string=>match P.underlying e with
    | some (.int .u8)=>match h.seg b off n with
     | none=>none
     | some l=>match bytesOf l with
      | some q=>some (.string ⟨q.toArray⟩,h)
      | none=>none
    | _=>none
   | _,_=>none
  | some a=>cond (plain a)
   (match pureP P (convert s d a) with
    | some v=>cond (plain v) (some (v,h)) none
    | none=>none) none
  | none=>none
 | .makeInterface T x=>match aev G t x,P.underlying T with
  | some _,some (.interface _)=>none
  | some v,some _=>some (.iface T v,h)
  | _,_=>none
 | .makeFunc (.func f) first cap=>match aevs G t first.toList,aevs G t cap.toList with
  | some a,some b=>some (.func (.func f) a.toArray b.toArray,h)
  | _,_=>none
 | .makeMap _ none=>mk h (.map #[] 0) fun b=>.map (some b)
 | .makeSlice T x y=>match aev G t x,aev G t y with
  | some (.int .i64 a),some (.int .i64 b)=>match P.underlying T with
   | some (.slice e)=>match P.info? e with
    | none=>none
    | some i=>match i.zero with
     | none=>none
     | some z=>cond (plain z&&Nat.beq z.cells.size i.size&&Nat.ble 1 i.size&&decide (a=b)&&decide (0≤a)&&Nat.ble (a.toNat * i.size) 65536&&Nat.ble (a.toNat * i.bytes) 1048576)
      (mk h (.cells (repL z.cells.toList a.toNat).toArray e) fun b=>.slice (some ⟨b,0,none⟩) a.toNat a.toNat) none
   | _=>none
  | _,_=>none
 | .slice T x lo hi none=>match aev G t x,loA G t lo with
  | some v,some (.int _ l)=>match hiA G t v hi with
   | some (.int _ r)=>cond (decide (0≤l)&&decide (l≤r))
    (match v with
     | .string q=>match P.underlying T with
      | some .string=>cond (Nat.ble r.toNat q.size) (some (.string (q.extract l.toNat r.toNat),h)) none
      | _=>none
     | .slice none 0 0=>match P.underlying T with
      | some (.slice e)=>match sizeP P e with
       | some _=>cond (Nat.beq r.toNat 0) (some (.slice none 0 0,h)) none
       | none=>none
      | _=>none
     | .slice (some ⟨b,off,none⟩) n c=>match P.underlying T with
      | some (.slice e)=>match sizeP P e with
       | none=>none
       | some sz=>match h.get b with
        | some (.o (.cells _ _ _))=>cond (Nat.ble r.toNat c) (some (.slice (some ⟨b,cond (Nat.beq c l.toNat) off (off+l.toNat * sz),none⟩) (r.toNat - l.toNat) (c - l.toNat),h)) none
        | some (.row _ _ sz')=>cond (Nat.beq sz sz'&&Nat.ble r.toNat n&&Nat.blt l.toNat n) (some (.slice (some ⟨b,off+l.toNat * sz,none⟩) (r.toNat - l.toNat) 0,h)) none
        | _=>none
      | _=>none
     | _=>none) none
   | _=>none
  | _,_=>none
 | .fieldAddr S x f=>match aev G t x with
  | some (.pointer (some ⟨b,off,none⟩))=>match P.underlying S with
   | some (.struct fields)=>match fields[f]? with
    | some fd=>match sizeP P fd.type with
     | some (n+1)=>some (.pointer (some ⟨b,off+fd.offset,none⟩),h)
     | _=>none
    | none=>none
   | _=>none
  | _=>none
 | .field T x f=>match aev G t x with
  | some (.agg cs)=>match P.underlying T with
   | some (.struct fields)=>match fields[f]? with
    | some fd=>match rdv P fd.type cs.toList fd.offset with
     | some v=>some (v,h)
     | none=>none
    | none=>none
   | _=>none
  | _=>none
 | .indexAddr T x y=>match aev G t x,aev G t y with
  | some v,some (.int _ i)=>cond (decide (0≤i))
   (match P.underlying T,v with
    | some (.array n e),.pointer (some ⟨b,off,none⟩)=>match sizeP P e with
     | some sz=>cond (Nat.blt i.toNat n) (some (.pointer (some ⟨b,off+i.toNat * sz,none⟩),h)) none
     | none=>none
    | some (.slice e),.slice (some ⟨b,off,none⟩) n _=>match sizeP P e with
     | some sz=>cond (Nat.blt i.toNat n) (some (.pointer (some ⟨b,off+i.toNat * sz,none⟩),h)) none
     | none=>none
    | _,_=>none) none
  | _,_=>none
 | .index T x y=>match aev G t x,aev G t y with
  | some v,some (.int _ i)=>cond (decide (0≤i))
   (match P.underlying T,v with
    | some (.array n e),.agg cs=>match sizeP P e with
     | some sz=>cond (Nat.blt i.toNat n)
      (match rdv P e cs.toList (i.toNat * sz) with
      | some v=>some (v,h)
      | none=>none) none
     | none=>none
    | some .string,.string q=>match q.data.toList.drop i.toNat with
     | b::_=>some (.int .u8 b.toNat,h)
     | []=>none
    | _,_=>none) none
  | _,_=>none
 | .lookup T x y ok=>match aev G t x,aev G t y with
  | some v,some k=>match P.underlying T with
   | some (.map kt e)=>match P.underlying kt,mapA h v with
    | some d,some es=>cond (plain k&&(pureP P (Instr.checkKey es.isEmpty 10000 kt k)).isSome)
     (match Instr.findNow d k es.toList 0 with
      | some (some (_,u))=>some (cond ok (.tuple #[u,.bool true]) u,h)
      | some none=>match (P.info? e).bind (·.zero) with
       | some z=>cond (plain z) (some (cond ok (.tuple #[z,.bool false]) z,h)) none
       | none=>none
      | none=>none) none
    | _,_=>none
   | _=>none
  | _,_=>none
 | .mapUpdate T m k x|.insert T m k x=>match aev G t m,aev G t k,aev G t x with
  | some (.map (some b)),some kv,some v=>match P.underlying T with
   | some (.map kt _)=>match P.underlying kt,h.get b with
    | some d,some (.o (.map es clock))=>cond (plain1 kv&&Nat.ble h.floor b&&(pureP P (Instr.checkKey false 10000 kt kv)).isSome)
     (match Instr.findNow d kv es.toList 0 with
      | some none=>some (undef,h.put b (.o (.map (es.push {key:=kv,val:=v,born:=clock}) (clock+1))))
      | _=>none) none
    | _,_=>none
   | _=>none
  | _,_,_=>none
 | .typeAssert x _ A ok=>match aev G t x,P.underlying A with
  | some _,some (.interface _)=>none
  | some (.iface T v),some _=>cond (Nat.beq T A) (some (cond ok (.tuple #[v,.bool true]) v,h)) none
  | _,_=>none
 | .extract x i=>match aev G t x with
  | some (.tuple vs)=>match vs.toList.drop i with
   | v::_=>some (v,h)
   | []=>none
  | _=>none
 | .call {callee:=.builtin .len,args:=xs,argTypes:=ts}=>match ts.toList,xs.toList with
  | T::_,x::_=>match P.underlying T,aev G t x with
   | some .string,some (.string q)=>some (.int .i64 q.size,h)
   | some (.slice _),some (.slice _ n _)=>some (.int .i64 n,h)
   | some (.array n _),some _=>some (.int .i64 n,h)
   | some (.map _ _),some (.map none)=>some (.int .i64 0,h)
   | some (.map _ _),some (.map (some b))=>match h.get b with
    | some (.o (.map es _))=>some (.int .i64 es.size,h)
    | _=>none
   | _,_=>none
  | _,_=>none
 | .call {callee:=.builtin .copy,args:=xs,argTypes:=ts}=>match ts.toList,xs.toList with
  | T::_,[x,y]=>match aev G t x,aev G t y,P.underlying T with
   | some (.slice _ n _),some (.slice _ k _),some (.slice e)=>match sizeP P e with
    | some _=>cond (Nat.beq (Nat.min k n) 0) (some (.int .i64 0,h)) none
    | none=>none
   | _,_,_=>none
  | _,_=>none
 | .call {callee:=.builtin .max,args:=xs,argTypes:=ts}=>match aevs G t xs.toList with
  | some l=>cond (l.all plain)
   (match pureP P (Builtin.max_ ts ty l.toArray) with
    | some v=>cond (plain v) (some (v,h)) none
    | none=>none) none
  | none=>none
 | .call {callee:=.builtin .min,args:=xs,argTypes:=ts}=>match aevs G t xs.toList with
  | some l=>cond (l.all plain)
   (match pureP P (Builtin.min_ ts ty l.toArray) with
    | some v=>cond (plain v) (some (v,h)) none
    | none=>none) none
  | none=>none
 | .call {callee:=.builtin .append,args:=xs,argTypes:=ts}=>match ts.toList,xs.toList with
  | [T,U],[x,y]=>match aev G t x,aev G t y,P.underlying T with
   | some (.slice base n c),some src,some (.slice e)=>match P.info? e with
    | none=>none
    | some i=>match i.zero with
     | none=>none
     | some z=>cond (Nat.beq T U&&plain z&&Nat.beq z.cells.size i.size&&Nat.ble 1 i.size)
      (match srcA h i.size src with
       | none=>none
       | some new=>cond (Nat.beq new.length 0)
        (cond (match base with
         | none=>Nat.beq n 0
         | some ⟨b,_,none⟩=>(match h.get b with
          | some (.row _ _ _)=>true
          | some (.o (.cells _ _ _))=>Nat.ble n c
          | _=>false)
         | _=>false) (some (.slice base n c,h)) none)
        (cond (new.all (·.oneCell')&&Nat.ble ((n+new.length) * i.bytes) 1048576&&Nat.ble (n+new.length) 65536)
         (match base with
         | none=>cond (Nat.beq n 0) (some (.slice (some ⟨h.next,0,none⟩) (new.length / i.size) 0,h.new (.row new e i.size))) none
         | some ⟨b,0,none⟩=>match h.get b with
          | some (.row cs e' sz)=>cond (Nat.beq sz i.size&&Nat.beq e e'&&Nat.beq cs.length (n * sz)&&Nat.ble h.floor b)
           (some (.slice (some ⟨h.next,0,none⟩) (n+new.length / i.size) 0,(h.drop b).new (.row (cs++new) e i.size))) none
          | some (.o (.cells cs e' _))=>cond (Nat.beq n c&&Nat.beq e e'&&Nat.beq cs.size (n * i.size))
           (some (.slice (some ⟨h.next,0,none⟩) (n+new.length / i.size) 0,h.new (.row (cs.toList++new) e i.size))) none
          | _=>none
         | _=>none) none)) none
   | _,_,_=>none
  | _,_=>none
 | _=>none
def wantedA (ops:List Oper) (t:List Value) (o:Oper):Bool :=
 match o.guard with
 | none=>true
 | some (j,want)=>match (ops.drop j) with
  | {dst:=some d,..}::_=>(match nth t d with|.bool b=>b == want|_=>false)
  | _=>false
def putA (t:List Value):Option Tmp→Value→List Value
 | some d,v=>t.set d v
 | none,_=>t
abbrev Ev:=Option Nat→Code→List Value→List Deferred→AH→Option (Exit × List Value × List Deferred × AH)
def evRes (P:Program) (t:List Value) (h:AH):List ResultVar→Option (List Value)
 | []=>some []
 | .tmp k::r=>match evRes P t h r with
  | some l=>some (nth t k::l)
  | none=>none
 | .cell a T::r=>match nth t a with
  | .pointer (some ⟨b,off,none⟩)=>match h.load P T b off,evRes P t h r with
   | some v,some l=>some (v::l)
   | _,_=>none
  | _=>none
def isRec:Op→Bool
 | .call {callee:=.builtin .recover,..}=>true
 | _=>false
def evIdleOps (P:Program) (G:Nat) (ops:List Oper):List Oper→List Value→AH→Option (List Value × AH)
 | [],t,h=>some (t,h)
 | o::r,t,h=>match wantedA ops t o with
  | false=>evIdleOps P G ops r (putA t o.dst undef) h
  | true=>match isRec o.op with
   | true=>evIdleOps P G ops r (putA t o.dst .nilIface) h
   | false=>match evOp P G t h o.type o.op with
    | none=>none
    | some (v,h')=>evIdleOps P G ops r (putA t o.dst v) h'
def evIdle (P:Program) (G:Nat):Nat→Code→List Value→AH→Option (List Value × AH)
 | 0,_,_,_=>none
 | n+1,c,t,h=>match c with
  | .skip=>some (t,h)
  | .seq x y=>match evIdle P G n x t h with
   | some (t',h')=>evIdle P G n y t' h'
   | none=>none
  | .cond c x y=>match aev G t c with
   | some (.bool true)=>evIdle P G n x t h
   | some (.bool false)=>evIdle P G n y t h
   | _=>none
  | .region _ ops draw=>cond draw none (evIdleOps P G ops.toList ops.toList t h)
  | _=>none
def evLeave (P:Program) (G:Nat):List Deferred→AH→Option AH
 | [],h=>some h
 | {target:=.collected r,..}::ds,h=>match h.get r with
  | some (.o (.deferred (some [])))=>cond (Nat.ble h.floor r) (evLeave P G ds (h.put r (.o (.deferred none)))) none
  | _=>none
 | {target:=.fn (.func g) cap,args}::ds,h=>match P.funcs[g]? with
  | none=>none
  | some fn=>match fn.body with
   | none=>none
   | some c=>cond (fn.name == "runtime.NumGoroutine") none
    (match evIdle P G 30 c ((args.toList++cap.toList)++List.replicate (fn.ntmps - (args.toList++cap.toList).length) undef) h with
     | some (t,h')=>match evRes P t h' fn.results.toList with
      | some _=>evLeave P G ds h'
      | none=>none
     | none=>none)
 | _,_=>none
def tupA:List Value→Value
 | [v]=>v
 | l=>.tuple l.toArray
def evCall (P:Program) (G:Nat) (rec:Ev) (f:FuncId) (args:List Value) (h:AH):Option (Value × AH) :=
 match P.funcs[f]? with
 | none=>none
 | some fn=>match fn.body with
  | none=>none
  | some c=>cond (fn.name == "runtime.NumGoroutine") none
   (match rec none c (args++List.replicate (fn.ntmps - args.length) undef) [] h with
    | some (.normal,t,d,h')|some (.ret,t,d,h')=>match evLeave P G d h' with
     | none=>none
     | some h2=>match evRes P t h2 fn.results.toList with
      | some l=>some (tupA l,h2)
      | none=>none
    | _=>none)
def setTm:List Value→List Tmp→List Value→List Value
 | t,p::ps,v::vs=>setTm (t.set p v) ps vs
 | t,_,_=>t
def jumpOf:Exit→Option (Option Code)
 | .normal=>some none
 | .ret=>some (some .ret)
 | .exit id=>some (some (.exit id))
 | .goto l=>some (some (.goto l))
 | _=>none
def evYield (rec:Ev) (l:Nat) (args:List Value) (h:AH):Option (Value × AH) :=
 match h.get l with
 | some (.o (.loop r))=>cond (Nat.beq args.length r.params.size&&Nat.ble h.floor l)
  (match rec (some l) r.assign (setTm r.tmps.toList r.params.toList args) [] h with
   | some (.normal,t1,[],h1)=>match h1.get l with
    | some (.o (.loop r1))=>match r1.state with
     | .ready=>match rec (some l) r.body t1 [] (h1.put l (.o (.loop {r1 with state:=.busy}))) with
      | some (e,_,_,h3)=>match h3.get l,jumpOf e with
       | some (.o (.loop r3)),some none=>some (.bool true,h3.put l (.o (.loop {r3 with state:=.ready,pending:=none})))
       | some (.o (.loop r3)),some (some j)=>some (.bool false,h3.put l (.o (.loop {r3 with state:=.done,pending:=some j})))
       | _,_=>none
      | none=>none
     | _=>none
    | _=>none
   | _=>none) none
 | _=>none
def evFn (P:Program) (G:Nat) (rec:Ev) (f:Value) (args:List Value) (h:AH):Option (Value × AH) :=
 match f with
 | .func (.func g) first cap=>evCall P G rec g (first.toList++args++cap.toList) h
 | .func (.yield l) _ _=>evYield rec l args h
 | _=>none
def evAny (P:Program) (G:Nat) (rec:Ev) (t:List Value) (h:AH) (o:Oper):Option (Value × AH) :=
 match o.op with
 | .call {callee:=.value f,args:=xs,..}=>match aev G t f,aevs G t xs.toList with
  | some fv,some l=>evFn P G rec fv l h
  | _,_=>none
 | op=>evOp P G t h o.type op
def deferA (G:Nat) (t:List Value):Option Nat→Op→Option Deferred
 | none,.defer {callee:=.value f,args:=xs,..}=>match aev G t f,aevs G t xs.toList with
  | some (.func (.func g) first cap),some l=>some {target:=.fn (.func g) cap,args:=(first.toList++l).toArray}
  | _,_=>none
 | _,_=>none
def evSeq (P:Program) (G:Nat) (rec:Ev) (rd:Option Nat) (ops:List Oper):List Oper→List Value→List Deferred→AH→Option (List Value × List Deferred × AH)
 | [],t,d,h=>some (t,d,h)
 | o::r,t,d,h=>match wantedA ops t o with
  | false=>evSeq P G rec rd ops r (putA t o.dst undef) d h
  | true=>match deferA G t rd o.op with
   | some x=>evSeq P G rec rd ops r (putA t o.dst undef) (x::d) h
   | none=>match evAny P G rec t h o with
    | none=>none
    | some (v,h')=>evSeq P G rec rd ops r (putA t o.dst v) d h'
def tmpsOf (o:Oper):List Tmp:=o.dst.toList++o.op.operands.toList.filterMap fun|.tmp t=>some t|_=>none
def guardT (ops:List Oper) (o:Oper):List Tmp:=match o.guard with
 | none=>[]
 | some (j,_)=>match ops.drop j with
  | {dst:=some d,..}::_=>[d]
  | _=>[]
def nthN:List Nat→Nat→Nat
 | [],_=>0
 | x::_,0=>x
 | _::r,n+1=>nthN r n
def maskOf (acc:List Nat):List Edge→Nat
 | []=>0
 | e::r=>cond (Region.binds .any e) ((maskOf acc r ||| 2 ^ e.on) ||| nthN acc e.on) (maskOf acc r)
def befGo:List Oper→List Nat→List Nat
 | [],acc=>acc
 | o::r,acc=>befGo r (acc++[maskOf acc o.after.toList])
def befL (ops:List Oper):List Nat:=befGo ops []
def edgesOk:List Oper→Nat→Bool
 | [],_=>true
 | o::r,i=>(o.after.toList.all fun e=>!(Region.binds .any e) || Nat.blt e.on i)&&edgesOk r (i+1)
def tmpOk (ops:List Oper) (bef:List Nat):List Oper→Nat→Bool
 | [],_=>true
 | o::r,i=>((ops.zipIdx.all fun (p,j)=>Nat.beq i j || (match o.dst with
   | none=>true
   | some d=>!((tmpsOf p++guardT ops p).contains d) || (!(p.dst == some d)&&(cond (Nat.blt i j) ((nthN bef j).testBit i) ((nthN bef i).testBit j)))))&&tmpOk ops bef r (i+1))
structure Fx where
 rds:List (Nat × Nat)
 wrs:List (Nat × Nat)
 cls:List Nat
 frs:List (Nat × Nat × Nat)
 wcs:List Nat
def hidOf (b:Nat):List (Nat × Nat × Nat)→List (Nat × Nat)
 | []=>[]
 | (j,lo,hi)::r=>cond (b.testBit j) (hidOf b r) ((lo,hi)::hidOf b r)
inductive Kd where
 | free|read (b:Nat)|write (b:Nat)|call|wcall
def hidRW (b:Nat):List (Nat × Nat)→List (Nat × Nat)
 | []=>[]
 | (j,c)::r=>cond (b.testBit j) (hidRW b r) ((c,c+1)::hidRW b r)
def kindOf (G:Nat) (t:List Value):Op→Kd
 | .load _ x=>match aev G t x with
  | some (.pointer (some a))=>.read a.block
  | _=>.call
 | .store _ x _=>match aev G t x with
  | some (.pointer (some a))=>.write a.block
  | _=>.call
 | .mapUpdate _ x _ _|.insert _ x _ _=>match aev G t x with
  | some (.map (some b))=>.write b
  | _=>.call
 | .call {callee:=.builtin .len,..}|.call {callee:=.builtin .max,..}|.call {callee:=.builtin .min,..}=>.free
 | .convert _ _ x=>match aev G t x with
  | some (.slice (some _) _ _)=>.call
  | _=>.free
 | .slice _ x _ _ _=>match aev G t x with
  | some (.string _)=>.free
  | _=>.call
 | .move _|.assign _|.pick _ _ _|.alloc _|.box _ _|.build _ _|.buildSlice _ _ _|.nilCheck _|.binOp _ _ _ _ _|.unOp _ _ _|.makeInterface _ _|.makeFunc _ _ _|.makeMap _ _|.makeSlice _ _ _|.fieldAddr _ _ _|.field _ _ _|.indexAddr _ _ _|.index _ _ _|.typeAssert _ _ _ _|.extract _ _=>.free
 | _=>.call
def freshOk (b:Nat) (bi:Nat) (frs:List (Nat × Nat × Nat)):Bool:=frs.all fun (j,lo,hi)=>bi.testBit j || !(Nat.ble lo b&&Nat.blt b hi)
def hidK (k:Kd) (bi:Nat) (fx:Fx) (nx:Nat):List (Nat × Nat) :=
 match k with
 | .free=>[(0,nx)]
 | .read b|.write b=>[(0,b),(b+1,nx)]
 | .call=>hidOf bi fx.frs
 | .wcall=>hidOf bi fx.frs++(hidRW bi fx.rds++hidRW bi fx.wrs)
def floorK (k:Kd) (h:AH):Nat :=
 match k with
 | .write _|.wcall=>h.floor
 | _=>h.next
def okK (k:Kd) (bef:List Nat) (i:Nat) (fx:Fx) (h:AH):Bool :=
 match k with
 | .free=>true
 | .read b=>freshOk b (nthN bef i) fx.frs&&(fx.wrs.all fun (m,c)=>(nthN bef i).testBit m || !(Nat.beq b c))&&(h.get b).isSome&&(fx.wcs.all fun m=>(nthN bef i).testBit m)
 | .write b=>freshOk b (nthN bef i) fx.frs&&(fx.wrs.all fun (m,c)=>(nthN bef i).testBit m || !(Nat.beq b c))&&(fx.rds.all fun (m,c)=>(nthN bef i).testBit m || !(Nat.beq b c))&&(fx.cls.all fun m=>(nthN bef i).testBit m || inR (hidOf (nthN bef m) fx.frs) b)&&(h.get b).isSome&&Nat.ble h.floor b&&(fx.wcs.all fun m=>(nthN bef i).testBit m)
 | .call=>(fx.wrs.all fun (m,c)=>(nthN bef i).testBit m || inR (hidOf (nthN bef i) fx.frs) c)&&(fx.wcs.all fun m=>(nthN bef i).testBit m)
 | .wcall=>(fx.cls.all fun m=>(nthN bef i).testBit m)&&(fx.wcs.all fun m=>(nthN bef i).testBit m)
def fxK (k:Kd) (i:Nat) (fx:Fx) (lo hi:Nat):Fx :=
 match k with
 | .free=>{fx with frs:=(i,lo,hi)::fx.frs}
 | .read b=>{fx with rds:=(i,b)::fx.rds,frs:=(i,lo,hi)::fx.frs}
 | .write b=>{fx with wrs:=(i,b)::fx.wrs,frs:=(i,lo,hi)::fx.frs}
 | .call=>{fx with cls:=i::fx.cls,frs:=(i,lo,hi)::fx.frs}
 | .wcall=>{fx with wcs:=i::fx.wcs,frs:=(i,lo,hi)::fx.frs}
def freeOp:Op→Bool
 | .move _|.assign _|.pick _ _ _|.alloc _|.box _ _|.build _ _|.buildSlice _ _ _|.nilCheck _|.binOp _ _ _ _ _|.unOp _ _ _|.makeInterface _ _|.makeFunc _ _ _|.makeMap _ _|.makeSlice _ _ _|.fieldAddr _ _ _|.field _ _ _|.indexAddr _ _ _|.index _ _ _|.typeAssert _ _ _ _|.extract _ _=>true
 | .call {callee:=.builtin .len,..}|.call {callee:=.builtin .max,..}|.call {callee:=.builtin .min,..}=>true
 | _=>false
def lateOk (ops:List Oper) (bef:List Nat) (i:Nat):Bool:=ops.zipIdx.all fun (p,j)=>Nat.ble j i || freeOp p.op || (nthN bef j).testBit i
def kinds (ops:List Oper) (bef:List Nat) (i:Nat) (k:Kd):List Kd :=
 match k with
 | .call=>cond (lateOk ops bef i) [.wcall,.call] [.call]
 | k=>[k]
def evTry (P:Program) (G:Nat) (rec:Ev) (bef:List Nat) (i:Nat) (fx:Fx) (t:List Value) (h:AH) (o:Oper):List Kd→Option (Kd × Value × AH)
 | []=>none
 | k::r=>match cond (okK k bef i fx h) (evAny P G rec t {h with hid:=hidK k (nthN bef i) fx h.next++h.hid,floor:=floorK k h} o) none with
  | some (v,h')=>some (k,v,h')
  | none=>evTry P G rec bef i fx t h o r
def evDraw (P:Program) (G:Nat) (rec:Ev) (ops:List Oper) (bef:List Nat):List Oper→Nat→Fx→List Value→AH→Option (List Value × AH)
 | [],_,_,t,h=>some (t,h)
 | o::r,i,fx,t,h=>match wantedA ops t o with
  | false=>evDraw P G rec ops bef r (i+1) fx (putA t o.dst undef) h
  | true=>match evTry P G rec bef i fx t h o (kinds ops bef i (kindOf G t o.op)) with
   | none=>none
   | some (k,v,h')=>evDraw P G rec ops bef r (i+1) (fxK k i fx h.next h'.next) (putA t o.dst v) {h' with hid:=h.hid,floor:=h.floor}
def evRegion (P:Program) (G:Nat) (rec:Ev) (rd:Option Nat) (ops:Array Oper) (draw:Bool) (t:List Value) (d:List Deferred) (h:AH):Option (List Value × List Deferred × AH) :=
 cond draw
  (cond (tmpOk ops.toList (befL ops.toList) ops.toList 0&&edgesOk ops.toList 0)
   (match evDraw P G rec ops.toList (befL ops.toList) ops.toList 0 ⟨[],[],[],[],[]⟩ t h with
    | some (t',h')=>some (t',d,h')
    | none=>none) none)
  (evSeq P G rec rd ops.toList ops.toList t d h)
def exitOf:Option Code→Option Exit
 | none=>some .normal
 | some .ret=>some .ret
 | some (.exit id)=>some (.exit id)
 | some (.goto l)=>some (.goto l)
 | _=>none
def evGo (P:Program) (G:Nat) (rec:Ev) (f y:Value) (h:AH):Option (Value × AH) :=
 match f with
 | .func (.func g) first cap=>evCall P G rec g (first.toList++[y]++cap.toList) h
 | _=>none
def evAround (round:Option Nat) (h:AH):Option (Nat × List Deferred × AH) :=
 match round with
 | none=>some (h.next,[{target:=.collected h.next,args:=#[]}],h.new (.o (.deferred (some []))))
 | some l=>match h.get l with
  | some (.o (.loop r))=>some (r.defers,[],h)
  | _=>none
def evRange (P:Program) (G:Nat) (rec:Ev) (round:Option Nat) (f:Operand) (params:Array Tmp) (assign body:Code) (t:List Value) (d:List Deferred) (h:AH):Option (Exit × List Value × List Deferred × AH) :=
 match aev G t f with
 | none=>none
 | some fv =>
  match evAround round h with
  | none=>none
  | some (D,mark,h1) =>
   match evGo P G rec fv (.func (.yield h1.next) #[] #[]) (h1.new (.o (.loop {state:=.ready,pending:=none,fn:=0,tmps:=t.toArray,params,assign,body,defers:=D}))) with
   | none=>none
   | some (_,h2)=>match h2.get h1.next with
    | some (.o (.loop r))=>cond (r.state == .busy || Nat.blt h1.next h2.floor) none
     (match exitOf r.pending with
      | some e=>some (e,t,mark++d,h2.put h1.next (.o (.loop {r with state:=.exhausted})))
      | none=>none)
    | _=>none
def ev (P:Program) (G:Nat):Nat→Ev
 | 0,_,_,_,_,_=>none
 | n+1,rd,c,t,d,h=>match c with
  | .skip|.label _=>some (.normal,t,d,h)
  | .region _ ops draw=>match evRegion P G (ev P G n) rd ops draw t d h with
   | some (t',d',h')=>some (.normal,t',d',h')
   | none=>none
  | .seq a b=>match ev P G n rd a t d h with
   | some (.normal,t',d',h')=>ev P G n rd b t' d' h'
   | r=>r
  | .cond c x y=>match aev G t c with
   | some (.bool true)=>ev P G n rd x t d h
   | some (.bool false)=>ev P G n rd y t d h
   | _=>none
  | .block id b=>match ev P G n rd b t d h with
   | some (.exit k,t',d',h')=>cond (Nat.beq k id) (some (.normal,t',d',h')) (some (.exit k,t',d',h'))
   | r=>r
  | .loop b=>match ev P G n rd b t d h with
   | some (.normal,t',d',h')=>ev P G n rd (.loop b) t' d' h'
   | r=>r
  | .exit id=>some (.exit id,t,d,h)
  | .goto l=>some (.goto l,t,d,h)
  | .ret=>some (.ret,t,d,h)
  | .scope b=>match ev P G n rd b t d h with
   | some (.goto _,_,_,_)=>none
   | r=>r
  | .rangeFunc f params assign body=>evRange P G (ev P G n) rd f params assign body t d h
  | .refuse _=>none
def evRun (P:Program) (G n:Nat) (t:Tr) (f:FuncId) (args:List Value):Option (Value × AH):=evCall P G (ev P G n) f args ⟨t,G,G,[]⟩
def isT:Option (Value × AH)→Bool
 | some (.bool true,_)=>true
 | _=>false
theorem setF_get:∀ (f:Nat) (t:Tr) (k:Nat) (v:Option AObj) (j:Nat),k<f→(Tr.setF f t k v).get j=if j=k then v else t.get j
 | 0,_,_,_,_,h=>by omega
 | f+1,.lf,k,v,j,h=>by
  simp only[Tr.setF];rcases Nat.eq_zero_or_pos k with hk|hk
  ·subst hk;simp only[Nat.beq_eq_true_eq,Nat.beq]
   by_cases hj:j=0
   ·subst hj;simp[Tr.get]
   ·have:Nat.beq j 0=false:=by cases j<;>simp_all [Nat.beq]
    simp only[cond_true,Tr.get,this,cond_false,hj,if_false]
    cases Nat.beq (j % 2) 1<;>rfl
  ·have hk0:Nat.beq k 0=false:=by cases k<;>simp_all [Nat.beq]
   simp only[hk0,cond_false]
   by_cases hj:j=0
   ·subst hj;have:¬ (0=k):=by omega
    simp only[this,if_false]
    cases Nat.beq (k % 2) 1<;>simp[Tr.get]
   ·have hj0:Nat.beq j 0=false:=by cases j<;>simp_all [Nat.beq]
    rcases Nat.mod_two_eq_zero_or_one k with hk2|hk2<;>rcases Nat.mod_two_eq_zero_or_one j with hj2|hj2
    ·have h1:Nat.beq (k % 2) 1=false:=by rw[hk2];rfl
     have h2:Nat.beq (j % 2) 1=false:=by rw[hj2];rfl
     simp only[h1,cond_false,Tr.get,hj0,h2];rw[setF_get f _ _ _ _ (by omega)]
     by_cases e:j=k
     ·subst e;simp
     ·rw[if_neg e,if_neg (by omega)];rfl
    ·have h1:Nat.beq (k % 2) 1=false:=by rw[hk2];rfl
     have h2:Nat.beq (j % 2) 1=true:=by rw[hj2];rfl
     simp only[h1,cond_false,Tr.get,hj0,h2,cond_true];rw[if_neg (by omega)]
    ·have h1:Nat.beq (k % 2) 1=true:=by rw[hk2];rfl
     have h2:Nat.beq (j % 2) 1=false:=by rw[hj2];rfl
     simp only[h1,cond_false,Tr.get,hj0,h2,cond_true];rw[if_neg (by omega)]
    ·have h1:Nat.beq (k % 2) 1=true:=by rw[hk2];rfl
     have h2:Nat.beq (j % 2) 1=true:=by rw[hj2];rfl
     simp only[h1,cond_false,Tr.get,hj0,h2,cond_true];rw[setF_get f _ _ _ _ (by omega)]
     by_cases e:j=k
     ·subst e;simp
     ·rw[if_neg e,if_neg (by omega)];rfl
 | f+1,.nd l x r,k,v,j,h=>by
  simp only[Tr.setF];rcases Nat.eq_zero_or_pos k with hk|hk
  ·subst hk
   by_cases hj:j=0
   ·subst hj;simp[Tr.get]
   ·have:Nat.beq j 0=false:=by cases j<;>simp_all [Nat.beq]
    simp only[Nat.beq,cond_true,Tr.get,this,cond_false,hj,if_false]
  ·have hk0:Nat.beq k 0=false:=by cases k<;>simp_all [Nat.beq]
   simp only[hk0,cond_false]
   by_cases hj:j=0
   ·subst hj;have:¬ (0=k):=by omega
    simp only[this,if_false]
    cases Nat.beq (k % 2) 1<;>simp[Tr.get]
   ·have hj0:Nat.beq j 0=false:=by cases j<;>simp_all [Nat.beq]
    rcases Nat.mod_two_eq_zero_or_one k with hk2|hk2<;>rcases Nat.mod_two_eq_zero_or_one j with hj2|hj2
    ·have h1:Nat.beq (k % 2) 1=false:=by rw[hk2];rfl
     have h2:Nat.beq (j % 2) 1=false:=by rw[hj2];rfl
     simp only[h1,cond_false,Tr.get,hj0,h2];rw[setF_get f _ _ _ _ (by omega)]
     by_cases e:j=k
     ·subst e;simp
     ·rw[if_neg e,if_neg (by omega)]
    ·have h1:Nat.beq (k % 2) 1=false:=by rw[hk2];rfl
     have h2:Nat.beq (j % 2) 1=true:=by rw[hj2];rfl
     simp only[h1,cond_false,Tr.get,hj0,h2,cond_true];rw[if_neg (by omega)]
    ·have h1:Nat.beq (k % 2) 1=true:=by rw[hk2];rfl
     have h2:Nat.beq (j % 2) 1=false:=by rw[hj2];rfl
     simp only[h1,cond_false,Tr.get,hj0,h2,cond_true];rw[if_neg (by omega)]
    ·have h1:Nat.beq (k % 2) 1=true:=by rw[hk2];rfl
     have h2:Nat.beq (j % 2) 1=true:=by rw[hj2];rfl
     simp only[h1,cond_false,Tr.get,hj0,h2,cond_true];rw[setF_get f _ _ _ _ (by omega)]
     by_cases e:j=k
     ·subst e;simp
     ·rw[if_neg e,if_neg (by omega)]
theorem Tr.get_set (t:Tr) (k:Nat) (v:Option AObj) (j:Nat):(t.set k v).get j=if j=k then v else t.get j:=setF_get _ _ _ _ _ (Nat.lt_succ_self k)
theorem AH.get_parts {h:AH} {n:Nat} {o:AObj} (hg:h.get n=some o):n<h.next∧inR h.hid n=false∧h.t.get n=some o:=by
 unfold AH.get at hg
 cases e:(Nat.ble h.next n || inR h.hid n)
 ·rw[e,cond_false]at hg;rw[Bool.or_eq_false_iff]at e;refine⟨?_,e.2,hg⟩;rcases Nat.lt_or_ge n h.next with hl|hl
  ·exact hl
  ·have hb:Nat.ble h.next n=true:=by rw[Nat.ble_eq];exact hl
   rw[e.1]at hb;cases hb
 ·rw[e]at hg;simp at hg
theorem AH.get_of {h:AH} {n:Nat} (h1:n<h.next) (h2:inR h.hid n=false):h.get n=h.t.get n:=by
 unfold AH.get;have:Nat.ble h.next n=false:=by
  rw[Bool.eq_false_iff];intro hb;rw[Nat.ble_eq]at hb;omega
 rw[this,h2];rfl
theorem AH.get_none {h:AH} {n:Nat} (h1:h.next≤n∨inR h.hid n=true):h.get n=none:=by
 unfold AH.get;have:(Nat.ble h.next n || inR h.hid n)=true:=by
  rw[Bool.or_eq_true,Nat.ble_eq];exact h1
 rw[this];rfl
theorem AH.get_hid {h:AH} {n:Nat} {o:AObj} (hg:h.get n=some o):inR h.hid n=false:=(AH.get_parts hg).2.1
theorem AH.get_put (h:AH) (n:Nat) (v:AObj) (j:Nat) {o0:AObj} (hg:h.get n=some o0):(h.put n v).get j=if j=n then some v else h.get j:=by
 obtain⟨h1,h2,_⟩:=AH.get_parts hg
 by_cases e:j=n
 ·subst e;rw[if_pos rfl,AH.get_of (h:=h.put j v) h1 h2];simp[AH.put,Tr.get_set]
 ·rw[if_neg e];simp only[AH.get,AH.put,Tr.get_set,if_neg e]
theorem AH.get_drop (h:AH) (n:Nat) (j:Nat):(h.drop n).get j=if j=n then none else h.get j:=by
 simp only[AH.get,AH.drop,Tr.get_set]
 by_cases e:j=n
 ·subst e;simp
 ·simp[e]
abbrev NM:=Nat→Option (Nat × Option (Nat × Nat))
inductive VR (m:NM):Value→Value→Prop
 | bool (b:Bool):VR m (.bool b) (.bool b)
 | int (k:IntKind) (n:Int):VR m (.int k n) (.int k n)
 | string (s:ByteArray):VR m (.string s) (.string s)
 | ptrN:VR m (.pointer none) (.pointer none)
 | ptr {b b' off:Nat} {r:Option (Nat × Nat)} (h:m b=some (b',r)):VR m (.pointer (some ⟨b,off,none⟩)) (.pointer (some ⟨b',off,none⟩))
 | sliceN:VR m (.slice none 0 0) (.slice none 0 0)
 | slice {b b' off n c:Nat} (h:m b=some (b',none)):VR m (.slice (some ⟨b,off,none⟩) n c) (.slice (some ⟨b',off,none⟩) n c)
 | row {b b' off n c c' sz K:Nat} (h:m b=some (b',some (sz,K))) (hc:c' * sz+off=K * sz) (hl:n≤c'):VR m (.slice (some ⟨b,off,none⟩) n c) (.slice (some ⟨b',off,none⟩) n c')
 | mapN:VR m (.map none) (.map none)
 | map {b b':Nat} (h:m b=some (b',none)):VR m (.map (some b)) (.map (some b'))
 | func (f:FuncId) {a a' c c':Array Value} (ha:a.size=a'.size) (hc:c.size=c'.size) (iha:∀ (i:Nat) (u u':Value),a[i]?=some u→a'[i]?=some u'→VR m u u') (ihc:∀ (i:Nat) (u u':Value),c[i]?=some u→c'[i]?=some u'→VR m u u'):VR m (.func (.func f) a c) (.func (.func f) a' c')
 | yield {l l':Nat} (h:m l=some (l',none)):VR m (.func (.yield l) #[] #[]) (.func (.yield l') #[] #[])
 | nilFunc:VR m .nilFunc .nilFunc
 | iface (t:TypeId) {v v':Value} (h:VR m v v'):VR m (.iface t v) (.iface t v')
 | nilIface:VR m .nilIface .nilIface
 | agg {a a':Array Value} (ha:a.size=a'.size) (iha:∀ (i:Nat) (u u':Value),a[i]?=some u→a'[i]?=some u'→VR m u u'):VR m (.agg a) (.agg a')
 | tuple {a a':Array Value} (ha:a.size=a'.size) (iha:∀ (i:Nat) (u u':Value),a[i]?=some u→a'[i]?=some u'→VR m u u'):VR m (.tuple a) (.tuple a')
inductive LR (m:NM):List Value→List Value→Prop
 | nil:LR m [] []
 | cons {v v':Value} {l l':List Value} (h:VR m v v') (t:LR m l l'):LR m (v::l) (v'::l')
section
variable {m m':NM}
theorem VR.mono (hm:∀ n x,m n=some x→m' n=some x) {v v':Value} (h:VR m v v'):VR m' v v':=by
 induction h with
 | bool b=>exact .bool b
 | int k n=>exact .int k n
 | string s=>exact .string s
 | ptrN=>exact .ptrN
 | ptr h=>exact .ptr (hm _ _ h)
 | sliceN=>exact .sliceN
 | slice h=>exact .slice (hm _ _ h)
 | row h hc hl=>exact .row (hm _ _ h) hc hl
 | mapN=>exact .mapN
 | map h=>exact .map (hm _ _ h)
 | func f ha hc _ _ iha ihc=>exact .func f ha hc iha ihc
 | yield h=>exact .yield (hm _ _ h)
 | nilFunc=>exact .nilFunc
 | iface t _ ih=>exact .iface t ih
 | nilIface=>exact .nilIface
 | agg ha _ iha=>exact .agg ha iha
 | tuple ha _ iha=>exact .tuple ha iha
theorem LR.mono (hm:∀ n x,m n=some x→m' n=some x) {l l':List Value} (h:LR m l l'):LR m' l l':=by
 induction h with
 | nil=>exact .nil
 | cons h _ ih=>exact .cons (h.mono hm) ih
theorem LR.len {l l':List Value} (h:LR m l l'):l.length=l'.length:=by
 induction h with
 | nil=>rfl
 | cons _ _ ih=>simp[ih]
theorem LR.get {l l':List Value} (h:LR m l l'):∀ {i:Nat} {v v':Value},l[i]?=some v→l'[i]?=some v'→VR m v v':=by
 induction h with
 | nil=>intro i v v' h;simp at h
 | cons h _ ih =>
  intro i v v' h1 h2
  cases i with
  | zero=>simp at h1 h2;subst h1 h2;exact h
  | succ i=>exact ih (by simpa using h1) (by simpa using h2)
theorem LR.of:∀ {l l':List Value},l.length=l'.length→(∀ (i:Nat) (v v':Value),l[i]?=some v→l'[i]?=some v'→VR m v v')→LR m l l'
 | [],[],_,_=>.nil
 | _::_,[],h,_=>by simp at h
 | [],_::_,h,_=>by simp at h
 | a::l,b::l',h,k=>.cons (k 0 a b rfl rfl) (LR.of (by simpa using h) (fun i v v' h1 h2=>k (i+1) v v' (by simpa using h1) (by simpa using h2)))
theorem VR.aggL {a a':List Value} (h:LR m a a'):VR m (.agg a.toArray) (.agg a'.toArray):=.agg (by simpa using h.len) (fun i u u' h1 h2=>h.get (by simpa using h1) (by simpa using h2))
theorem VR.aggA {a a':Array Value} (h:LR m a.toList a'.toList):VR m (.agg a) (.agg a'):=.agg (by simpa using h.len) (fun i u u' h1 h2=>h.get (by simpa using h1) (by simpa using h2))
theorem VR.tupL {a a':List Value} (h:LR m a a'):VR m (.tuple a.toArray) (.tuple a'.toArray):=.tuple (by simpa using h.len) (fun i u u' h1 h2=>h.get (by simpa using h1) (by simpa using h2))
theorem VR.agg_inv {a:Array Value} {v:Value} (h:VR m (.agg a) v):∃ a',v=.agg a'∧LR m a.toList a'.toList:=by
 cases h with
 | agg ha iha=>exact⟨_,rfl,LR.of (by simpa using ha) (fun i v v' h1 h2=>iha i v v' (by simpa using h1) (by simpa using h2))⟩
theorem VR.tup_inv {a:Array Value} {v:Value} (h:VR m (.tuple a) v):∃ a',v=.tuple a'∧LR m a.toList a'.toList:=by
 cases h with
 | tuple ha iha=>exact⟨_,rfl,LR.of (by simpa using ha) (fun i v v' h1 h2=>iha i v v' (by simpa using h1) (by simpa using h2))⟩
theorem VR.func_inv {f:FuncId} {a c:Array Value} {v:Value} (h:VR m (.func (.func f) a c) v):∃ a' c',v=.func (.func f) a' c'∧LR m a.toList a'.toList∧LR m c.toList c'.toList:=by
 cases h with
 | func _ ha hc iha ihc=>exact⟨_,_,rfl,LR.of (by simpa using ha) (fun i v v' h1 h2=>iha i v v' (by simpa using h1) (by simpa using h2)),LR.of (by simpa using hc) (fun i v v' h1 h2=>ihc i v v' (by simpa using h1) (by simpa using h2))⟩
theorem VR.funcL {f:FuncId} {a c a' c':List Value} (h1:LR m a a') (h2:LR m c c'):VR m (.func (.func f) a.toArray c.toArray) (.func (.func f) a'.toArray c'.toArray) :=
 .func f (by simpa using h1.len) (by simpa using h2.len) (fun i u u' h3 h4=>h1.get (by simpa using h3) (by simpa using h4)) (fun i u u' h3 h4=>h2.get (by simpa using h3) (by simpa using h4))
theorem VR.undef:VR m undef undef:=.tuple rfl (fun i u u' h=>by simp at h)
theorem LR.append {a a' b b':List Value} (h:LR m a a') (k:LR m b b'):LR m (a++b) (a'++b'):=by
 induction h with
 | nil=>exact k
 | cons h _ ih=>exact .cons h ih
theorem LR.drop {a a':List Value} (h:LR m a a'):∀ n,LR m (a.drop n) (a'.drop n):=by
 induction h with
 | nil=>intro n;simp;exact .nil
 | cons h t ih=>intro n;cases n with
  | zero=>exact .cons h t
  | succ n=>simpa using ih n
theorem LR.take {a a':List Value} (h:LR m a a'):∀ n,LR m (a.take n) (a'.take n):=by
 induction h with
 | nil=>intro n;simp;exact .nil
 | cons h t ih=>intro n;cases n with
  | zero=>simp;exact .nil
  | succ n=>simpa using .cons h (ih n)
theorem LR.set {a a':List Value} {v v':Value} (h:LR m a a') (hv:VR m v v'):∀ n,LR m (a.set n v) (a'.set n v'):=by
 induction h with
 | nil=>intro n;simp;exact .nil
 | cons h t ih=>intro n;cases n with
  | zero=>exact .cons hv t
  | succ n=>exact .cons h (ih n)
theorem LR.rep (n:Nat):LR m (List.replicate n undef) (List.replicate n undef):=by
 induction n with
 | zero=>exact .nil
 | succ n ih=>exact .cons .undef ih
theorem LR.setL {vs vs':List Value} (hv:LR m vs vs'):∀ {a a':List Value} (n:Nat),LR m a a'→LR m (setL a n vs) (setL a' n vs'):=by
 induction hv with
 | nil=>intro a a' n h;exact h
 | cons h _ ih=>intro a a' n k;exact ih (n+1) (k.set h n)
theorem nth_get (l:List Value) (i:Nat):nth l i=l.getD i undef:=by
 induction l generalizing i with
 | nil=>rfl
 | cons x r ih=>cases i with
  | zero=>rfl
  | succ i=>simpa [nth] using ih i
theorem LR.nth {a a':List Value} (h:LR m a a'):∀ i,VR m (nth a i) (nth a' i):=by
 induction h with
 | nil=>intro i;exact .undef
 | cons h t ih=>intro i;cases i with
  | zero=>exact h
  | succ i=>exact ih i
theorem plain1_eq {v v':Value} (hp:plain1 v=true) (h:VR m v v'):v'=v:=by
 cases h with
 | func f ha hc iha ihc =>
  simp only[plain1,Bool.and_eq_true]at hp;replace hp:=And.intro (Nat.eq_of_beq_eq_true hp.1) (Nat.eq_of_beq_eq_true hp.2);have e1:=Array.eq_empty_of_size_eq_zero hp.1;have e2:=Array.eq_empty_of_size_eq_zero hp.2;have e3:=Array.eq_empty_of_size_eq_zero (ha.symm.trans hp.1);have e4:=Array.eq_empty_of_size_eq_zero (hc.symm.trans hp.2);rw[e1,e2,e3,e4]
 | _=>first|rfl|simp[plain1]at hp
theorem plain1_self {v:Value} (hp:plain1 v=true):VR m v v:=by
 cases v with
 | bool b=>exact .bool b
 | int k n=>exact .int k n
 | string s=>exact .string s
 | pointer a=>cases a with
  | none=>exact .ptrN
  | some a=>simp[plain1]at hp
 | slice a n c =>
  cases a with
  | none =>
   cases n<;>cases c<;>first|exact .sliceN|simp[plain1]at hp
  | some a=>simp[plain1]at hp
 | map r=>cases r with
  | none=>exact .mapN
  | some a=>simp[plain1]at hp
 | func fn a c =>
  cases fn with
  | func f =>
   simp only[plain1,Bool.and_eq_true]at hp;replace hp:=And.intro (Nat.eq_of_beq_eq_true hp.1) (Nat.eq_of_beq_eq_true hp.2);rw[Array.eq_empty_of_size_eq_zero hp.1,Array.eq_empty_of_size_eq_zero hp.2];exact .func f rfl rfl (fun i u u' h=>by simp at h) (fun i u u' h=>by simp at h)
  | _=>simp[plain1]at hp
 | nilFunc=>exact .nilFunc
 | nilIface=>exact .nilIface
 | _=>simp[plain1]at hp
theorem plainL_eq:∀ {l l':List Value},l.all plain1=true→LR m l l'→l'=l
 | [],_,_,.nil=>rfl
 | a::l,_,h,.cons h1 h2=>by
  simp only[List.all_cons,Bool.and_eq_true]at h;rw[plain1_eq h.1 h1,plainL_eq h.2 h2]
theorem plainL_self:∀ {l:List Value},l.all plain1=true→LR m l l
 | [],_=>.nil
 | a::l,h=>by
  simp only[List.all_cons,Bool.and_eq_true]at h;exact .cons (plain1_self h.1) (plainL_self h.2)
theorem plain_eq {v v':Value} (hp:plain v=true) (h:VR m v v'):v'=v:=by
 cases v with
 | agg a =>
  obtain⟨a',rfl,hl⟩:=h.agg_inv;have:=plainL_eq (by simpa [plain] using hp) hl
  rw[Array.toList_inj.1 this]
 | tuple a =>
  obtain⟨a',rfl,hl⟩:=h.tup_inv;have:=plainL_eq (by simpa [plain] using hp) hl
  rw[Array.toList_inj.1 this]
 | iface t v =>
  cases h with
  | iface _ h=>rw[plain1_eq (by simpa [plain] using hp) h]
 | _=>exact plain1_eq (by simpa [plain] using hp) h
theorem plain_self {v:Value} (hp:plain v=true):VR m v v:=by
 cases v with
 | agg a=>exact .aggA (plainL_self (by simpa [plain] using hp))
 | tuple a=>exact .tupL (a:=a.toList) (a':=a.toList) (plainL_self (by simpa [plain] using hp))
 | iface t v=>exact .iface t (plain1_self (by simpa [plain] using hp))
 | _=>exact plain1_self (by simpa [plain] using hp)
theorem plain_cells {v:Value} (hp:plain v=true):LR m v.cells.toList v.cells.toList:=by
 cases v with
 | agg a=>exact plainL_self (l:=a.toList) (by simpa [plain] using hp)
 | _=>exact .cons (plain_self hp) .nil
theorem VR.cells {v v':Value} (h:VR m v v'):LR m v.cells.toList v'.cells.toList:=by
 cases h with
 | agg ha iha=>exact(VR.agg_inv (.agg ha iha)).elim fun a' e=>by obtain⟨e1,e2⟩:=e;cases e1;exact e2
 | bool b=>exact .cons (.bool b) .nil
 | int k n=>exact .cons (.int k n) .nil
 | string s=>exact .cons (.string s) .nil
 | ptrN=>exact .cons .ptrN .nil
 | ptr h=>exact .cons (.ptr h) .nil
 | sliceN=>exact .cons .sliceN .nil
 | slice h=>exact .cons (.slice h) .nil
 | row h hc hl=>exact .cons (.row h hc hl) .nil
 | mapN=>exact .cons .mapN .nil
 | map h=>exact .cons (.map h) .nil
 | func f ha hc iha ihc=>exact .cons (.func f ha hc iha ihc) .nil
 | yield h=>exact .cons (.yield h) .nil
 | nilFunc=>exact .cons .nilFunc .nil
 | iface t h=>exact .cons (.iface t h) .nil
 | nilIface=>exact .cons .nilIface .nil
 | tuple ha iha=>exact .cons (.tuple ha iha) .nil
theorem VR.one {v v':Value} (h:VR m v v'):v'.oneCell'=v.oneCell':=by cases h<;>rfl
theorem LR.one {l l':List Value} (h:LR m l l'):l'.all (·.oneCell')=l.all (·.oneCell'):=by
 induction h with
 | nil=>rfl
 | cons h _ ih=>simp[h.one,ih]
end
def LoopR (m:NM) (r r':Loop):Prop:=r'.state=r.state∧r'.pending=r.pending∧LR m r.tmps.toList r'.tmps.toList∧r'.params=r.params∧r'.assign=r.assign∧r'.body=r.body∧m r.defers=some (r'.defers,none)
inductive ER (m:NM):List MapEntry→List MapEntry→Prop
 | nil:ER m [] []
 | cons {e e':MapEntry} {l l':List MapEntry} (hk:plain1 e.key=true) (hk':e'.key=e.key) (hv:VR m e.val e'.val) (hb:e'.born=e.born) (t:ER m l l'):ER m (e::l) (e'::l')
inductive OR (m:NM):AObj→Option (Nat × Nat)→Obj→Prop
 | cells {c c':Array Value} {U:TypeId} {fr:Nat × Nat} (h:LR m c.toList c'.toList):OR m (.o (.cells c U fr)) none (.cells c' U fr)
 | map {es es':Array MapEntry} {k:Nat} (h:ER m es.toList es'.toList):OR m (.o (.map es k)) none (.map es' k)
 | loop {r r':Loop} (h:LoopR m r r'):OR m (.o (.loop r)) none (.loop r')
 | ro {c:List Value} {c':Array Value} {U:TypeId} {fr:Nat × Nat} (h:LR m c c'.toList):OR m (.ro c) none (.cells c' U fr)
 | defs:OR m (.o (.deferred (some []))) none (.deferred (some []))
 | defn:OR m (.o (.deferred none)) none (.deferred none)
 | row {c:List Value} {cur:Array Value} {U:TypeId} {sz K:Nat} (hs:cur.size=K * sz) (hl:c.length≤cur.size) (h:LR m c (cur.toList.take c.length)) (h0:0<sz) (hK:K≤maxLen):OR m (.row c U sz) (some (sz,K)) (.cells cur U (0,0))
section
variable {m m':NM}
theorem LoopR.mono (hm:∀ n x,m n=some x→m' n=some x) {r r':Loop} (h:LoopR m r r'):LoopR m' r r':=⟨h.1,h.2.1,h.2.2.1.mono hm,h.2.2.2.1,h.2.2.2.2.1,h.2.2.2.2.2.1,hm _ _ h.2.2.2.2.2.2⟩
theorem ER.mono (hm:∀ n x,m n=some x→m' n=some x) {l l':List MapEntry} (h:ER m l l'):ER m' l l':=by
 induction h with
 | nil=>exact .nil
 | cons h1 h2 h3 h4 _ ih=>exact .cons h1 h2 (h3.mono hm) h4 ih
theorem OR.mono (hm:∀ n x,m n=some x→m' n=some x) {o:AObj} {r:Option (Nat × Nat)} {o':Obj} (h:OR m o r o'):OR m' o r o':=by
 cases h with
 | cells h=>exact .cells (h.mono hm)
 | ro h=>exact .ro (h.mono hm)
 | map h=>exact .map (h.mono hm)
 | loop h=>exact .loop (h.mono hm)
 | defs=>exact .defs
 | defn=>exact .defn
 | row hs hl h h0 hK=>exact .row hs hl (h.mono hm) h0 hK
end
structure MT (G:Nat) (m:NM) (h:AH) (w:World):Prop where
 lt:∀ n b r,m n=some (b,r)→b<w.heap.size
 inj:∀ n1 n2 o1 o2 b r1 r2,h.get n1=some o1→h.get n2=some o2→m n1=some (b,r1)→m n2=some (b,r2)→n1=n2
 obj:∀ n o,h.get n=some o→∃ b r o',m n=some (b,r)∧w.heap[b]?=some o'∧OR m o r o'
 glob:∀ g,g<G→m g=some (g,none)
 dom:∀ n o,h.get n=some o→n<h.next
 fl:h.floor≤h.next
def FreeN (m:NM) (a b:Nat):Prop:=∀ n,a≤n→n<b→m n=none
structure Keep (h h':AH):Prop where
 next:h.next≤h'.next
 floor:h'.floor=h.floor
 hid:h'.hid=h.hid
 kept:∀ n,n<h.next→(n<h.floor∨inR h.hid n=true)→h'.t.get n=h.t.get n
 dead:∀ n,n<h.next→h.t.get n=none→h'.t.get n=none
theorem Keep.refl (h:AH):Keep h h:=⟨Nat.le_refl _,rfl,rfl,fun _ _ _=>rfl,fun _ _ h=>h⟩
theorem Keep.trans {h h1 h2:AH} (A:Keep h h1) (B:Keep h1 h2):Keep h h2 :=
 ⟨Nat.le_trans A.next B.next,B.floor.trans A.floor,B.hid.trans A.hid,fun n hn hk=>(B.kept n (Nat.lt_of_lt_of_le hn A.next) (by rw[A.floor,A.hid];exact hk)).trans (A.kept n hn hk),fun n hn hk=>B.dead n (Nat.lt_of_lt_of_le hn A.next) (A.dead n hn hk)⟩
theorem Keep.new (h:AH) (o:AObj):Keep h (h.new o):=⟨Nat.le_succ _,rfl,rfl,fun n hn _=>by simp only[AH.new,Tr.get_set];rw[if_neg (by omega)],fun n hn hd=>by simp only[AH.new,Tr.get_set];rw[if_neg (by omega)];exact hd⟩
theorem Keep.put {h:AH} {n:Nat} {o0:AObj} (hg:h.get n=some o0) (hf:h.floor≤n) (o:AObj):Keep h (h.put n o):=⟨Nat.le_refl _,rfl,rfl,fun k hk hx=>by
 simp only[AH.put,Tr.get_set];rw[if_neg (fun e=>?_)]
 subst e;rcases hx with hx|hx
 ·omega
 ·exact absurd hx (by rw[AH.get_hid hg];decide),fun k hk hd=>by
 simp only[AH.put,Tr.get_set];rw[if_neg (fun e=>?_)]
 ·exact hd
 ·subst e
  rw[(AH.get_parts hg).2.2]at hd;cases hd⟩
theorem Keep.row {h:AH} {n:Nat} {o0:AObj} (hg:h.get n=some o0) (hf:h.floor≤n) (o:AObj):Keep h ((h.drop n).new o):=⟨Nat.le_succ _,rfl,rfl,fun k hk hx=>by
 simp only[AH.new,AH.drop,Tr.get_set];rw[if_neg (by omega),if_neg (fun e=>?_)]
 subst e;rcases hx with hx|hx
 ·omega
 ·exact absurd hx (by rw[AH.get_hid hg];decide),fun k hk hd=>by
 simp only[AH.new,AH.drop,Tr.get_set];rw[if_neg (by omega)]
 split
 ·rfl
 ·exact hd⟩
structure EX (m:NM) (h:AH) (w:World) (m':NM) (h':AH) (w':World):Prop where
 mono:∀ n x,m n=some x→m' n=some x
 same:∀ n,¬ (h.next≤n∧n<h'.next)→m' n=m n
 newb:∀ n b r,m n=none→m' n=some (b,r)→w.heap.size≤b∨∃ n0 o r0,h.floor≤n0∧h.get n0=some o∧m n0=some (b,r0)
 next:h.next≤h'.next
 floor:h'.floor=h.floor
 hid:h'.hid=h.hid
 live:∀ n o,n<h.next→h'.get n=some o→∃ o0,h.get n=some o0
 low:∀ n,n<h.floor→h'.t.get n=h.t.get n
 hidt:∀ n,n<h.next→inR h.hid n=true→h'.t.get n=h.t.get n
 os:w'.os=w.os
 tape:w'.tape=w.tape
 output:w'.output=w.output
 size:w.heap.size≤w'.heap.size
 old:∀ b,b<w.heap.size→(∀ n o r,h.floor≤n→h.get n=some o→m n≠some (b,r))→w'.heap[b]?=w.heap[b]?
theorem EX.refl (m:NM) (h:AH) (w:World):EX m h w m h w :=
 ⟨fun _ _ h=>h,fun _ _=>rfl,fun n b r h1 h2=>(by rw[h1]at h2;cases h2),Nat.le_refl _,rfl,rfl,fun n o _ h=>⟨o,h⟩,fun _ _=>rfl,fun _ _ _=>rfl,rfl,rfl,rfl,Nat.le_refl _,fun _ _ _=>rfl⟩
theorem EX.trans {G:Nat} {m m1 m2:NM} {h h1 h2:AH} {w w1 w2:World} (A:EX m h w m1 h1 w1) (M1:MT G m1 h1 w1) (F:FreeN m h.next h1.next) (B:EX m1 h1 w1 m2 h2 w2):EX m h w m2 h2 w2:=by
 have key:∀ n o r b,h.floor≤n→h1.get n=some o→m1 n=some (b,r)→w.heap.size≤b∨∃ n0 o r0,h.floor≤n0∧h.get n0=some o∧m n0=some (b,r0):=by
  intro n o r b hf hg hm
  by_cases hn:n<h.next
  ·obtain⟨o0,ho0⟩:=A.live n o hn hg;exact .inr ⟨n,o0,r,hf,ho0,by rw[← A.same n (by omega)];exact hm⟩
  ·exact A.newb n b r (F n (by omega) (M1.dom n o hg)) hm
 refine⟨fun n x e=>B.mono n x (A.mono n x e),?_,?_,Nat.le_trans A.next B.next,B.floor.trans A.floor,B.hid.trans A.hid,?_,?_,?_,B.os.trans A.os,B.tape.trans A.tape,B.output.trans A.output,Nat.le_trans A.size B.size,?_⟩
 ·intro n hn;have:=A.next;have:=B.next;rw[B.same n (by omega),A.same n (by omega)]
 ·intro n b r e1 e2
  cases e:m1 n with
  | none =>
   rcases B.newb n b r e e2 with h3|⟨n0,o,r0,hf,hg,hm⟩
   ·exact .inl (Nat.le_trans A.size h3)
   ·rw[A.floor]at hf;exact key n0 o r0 b hf hg hm
  | some x =>
   have:=B.mono n x e;rw[e2]at this;cases this
   exact A.newb n b r e1 e
 ·intro n o hn hg;obtain⟨o1,h3⟩:=B.live n o (by have:=A.next;omega) hg
  exact A.live n o1 hn h3
 ·intro n hn;rw[B.low n (by rw[A.floor];exact hn),A.low n hn]
 ·intro n hn hh;rw[B.hidt n (by have:=A.next;omega) (by rw[A.hid];exact hh),A.hidt n hn hh]
 ·intro b hb hno;rw[B.old b (Nat.lt_of_lt_of_le hb A.size),A.old b hb hno];intro n o r hf hg hm;rw[A.floor]at hf;rcases key n o r b hf hg hm with h3|⟨n0,o,r0,hf,hg,hm⟩
  ·omega
  ·exact hno n0 o r0 hf hg hm
theorem FreeN.after {m m1:NM} {h h1 h2:AH} {w w1:World} (A:EX m h w m1 h1 w1) (F:FreeN m h.next h2.next):FreeN m1 h1.next h2.next:=fun n h3 h4=>by
 rw[A.same n (by omega)]
 exact F n (Nat.le_trans A.next h3) h4
theorem FreeN.le {m:NM} {a b c d:Nat} (F:FreeN m a b) (h1:a≤c) (h2:d≤b):FreeN m c d:=fun n h3 h4=>F n (by omega) (by omega)
end
end Go.Proofs.YtdpcemijdmbpiaaGreat
