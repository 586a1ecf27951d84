/-
  Laws of walks, and walks.
-/
import Derived.Test.YtdoflhjhaciepaaGreatVt6
import Derived.Test.YtdoflhjhaciepaaGreatVt1
import Derived.Test.YtdoflhjhaciepaaGreatVt3
import Derived.Test.YtdoflhjhaciepaaGreatVt2
set_option linter.unusedVariables false
set_option linter.unusedSimpArgs false
set_option maxRecDepth 100000
set_option maxHeartbeats 16000000
namespace Go.Proofs.YtdoflhjhaciepaaGreat
open Go.RowKit Go.Shelf
attribute [local go_sem] Oper.semAt_some
def marksBytes (k:Nat):List Value:=(List.range k).map (fun i:Nat=>.int .u8 (markB 1 i))
theorem marksBytes_succ (k:Nat):marksBytes (k+1)=marksBytes k++[.int .u8 (markB 1 k)]:=by simp[marksBytes,List.range_succ]
theorem marksBytes_len (k:Nat):(marksBytes k).length=k:=by simp[marksBytes]
theorem marksBytes_get {k j:Nat} (h:j<k):(marksBytes k)[j]?=some (.int .u8 (markB 1 j)):=by simp[marksBytes,h]
theorem info_Bytes:(Tryz.prog.info? 5).map (fun i=>(i.zero,i.size,i.bytes))=some (some (.int .u8 0),1,1):=by kernel_rfl
theorem kit_LentBytes (v:Value) (B:List Int) (w:World) (hB:B.length≤4194304) (hr:Rd w w.heap.size v (u8s B)) :
  Calls Tryz.prog 7 #[v] w fun e w'=>∃ r,e=.returned r∧Lent w.heap.size w' r (u8s B) (marksBytes 12)∧Below w.heap.size w w':=by
 obtain⟨i0,hi,hz0,hz1,hz2⟩:=info_parts info_Bytes;have hv:∃ pa ca,v=.slice pa B.length ca:=by rcases hr.u8 with ⟨⟨q,h⟩,rfl⟩|⟨b,off,cap,h,_⟩<;>exact⟨_,_,h⟩
 obtain⟨pa,ca,rfl⟩:=hv;have hl:(u8s B).length=B.length:=by simp[u8s]
 have h1c:∀ c ∈ u8s B,c.oneCell'=true:=by intro c hc;obtain⟨x,_,rfl⟩:=List.mem_map.1 hc;rfl
 have HR:=Lib.hid hr;clear hr;have HL:=Lib.hid hl;clear hl;have H1:=Lib.hid h1c;clear h1c;have hsum:IntKind.i64.wrap ((B.length:Int)+12)=(B.length:Int)+12:=by rw[IntKind.wrap_i64];omega
 go_enter Tryz.func7,Tryz.ntmps7
 go_wp2_with (first
  | (at_make;refine wpList_make_own _ rfl _ _ 23 rfl w.heap.size 5 i0 (.int .u8 0) 1 Tryz.underlying23 hi hz0 hz1 .i64 .i64 _ (B.length+12) rfl rfl (by omega) (by rw[hz2];omega) (by unfold maxLen;omega) (Nat.le_refl _) ?_;intro w1 own1 grow1;have bel1:Below w.heap.size w w1:=(Below.refl _ w).grown grow1 (Nat.le_refl _) (fun k hk=>by cases hk);have hs1:=bel1.size;clear hsum;have OWN1:=Lib.hid own1;clear own1)
  | (at_builtin;refine wpList_append_rd w1 rfl _ _ 23 rfl w.heap.size 5 i0 (.int .u8 0) 1 Tryz.underlying23 hi hz0 hz1 hz2 rfl (.slice (some ⟨w.heap.size,0,none⟩) 0 (B.length+12)) 0 [] rfl OWN1.out (.slice pa B.length ca) (u8s B) rfl (HR.out.below bel1) H1.out (by rw[HL.out];unfold maxLen;omega) (by rw[HL.out];omega) hs1 ?_;intro v2 w2 own2 grow2 _;have bel2:Below w.heap.size w w2:=bel1.grown grow2 hs1 (fun k hk=>(OWN1.out.lt k hk).1);rw[HL.out,Nat.zero_add,List.nil_append]at own2;have O2:=Lib.hid own2;have B2:=Lib.hid bel2;clear OWN1 own2 grow1 grow2 bel1 bel2 hs1))
 go_loopw [3,4] (fun out k wr=>∃ j:Nat,j≤12∧k=.int .i64 j∧Hid (wr.ownsRow w.heap.size 5 1 out (B.length+j) (u8s B++marksBytes j)∧Below w.heap.size w wr)) (fun _ k _=>12 - (intOf k).toNat)
 case atStart=>exact⟨0,by omega,rfl,by simpa [marksBytes] using O2.out,B2.out⟩
 case round =>
  clear O2 B2;obtain⟨j,hj,rfl,H⟩:=hrel;have ⟨hown,hbel⟩:=H.out;have hsz:=hbel.size
  by_cases hlt:j<12
  ·have HB:=Lib.hid hbel;clear hbel;have HM:=Lib.hid (marksBytes_succ j);have hmk:=markB_range 1 j
   go_wp2_with (first
    | (go_at_call 18;refine(kit_markByte 1 j wr (by omega) (by omega)).mono ?_;rintro e w' ⟨rfl,rfl⟩)
    | (at_builtin;refine wpList_append_own_at _ rfl _ _ 23 rfl w.heap.size 5 i0 (.int .u8 0) 1 1 Tryz.underlying23 hi hz0 hz1 hz2 rfl (by decide) _ _ _ rfl (hown.alloc _) ⟨wr.heap.size,0,none⟩ 1 1 [.int .u8 (markB 1 j)] rfl rfl (cell_one_new _ _ _) (by simp[Value.oneCell']) (by unfold maxLen;omega) (by omega) (by simp;omega) ?_;intro v3 w3 hown3 hgrow3 _ _))
   have own3:w3.ownsRow w.heap.size 5 1 v3 (B.length+(j+1)) (u8s B++marksBytes (j+1)):=by rw[HM.out,← List.append_assoc];exact hown3
   have bel3:Below w.heap.size w w3:=(HB.out.alloc hsz _).grown hgrow3 (by simp;omega) (fun k hk=>(hown.lt k hk).1)
   clear hown hown3 hgrow3 H HB hmk;have O3:=Lib.hid own3;clear own3;have B3:=Lib.hid bel3;clear bel3;go_roundw
   case rel=>exact⟨j+1,by omega,by go_num,O3.out,B3.out⟩
   case measure=>simp[intOf];omega
  ·obtain rfl:j=12:=by omega
   obtain⟨g,cap,rfl,hg0,hg1,hcap,hm,hcell⟩:=own_open hown (by omega)
   have hsl:∀ W,(Instr.slice 23 (.slice (some ⟨g,0,none⟩) (B.length+12) cap) (some (.int .i64 ((0:Nat):Int))) (some (.int .i64 (B.length:Int))) none).run Tryz.prog W=.ok (.slice (some ⟨g,0,none⟩) B.length cap) W:=fun W=>by
    have:=run_slice_off (P:=Tryz.prog) 23 5 Tryz.underlying23 (fun w=>by kernel_rfl) (some ⟨g,0,none⟩) (B.length+12) cap 0 B.length (by omega) (by omega) W
    rw[this];simp[offA,Addr.add]
   have hle:((B.length:Int)≤(cap:Int)):=by omega
   have hcap0:¬ cap=0:=by omega
   have HC:=Lib.hid hcell;clear hcell;clear H;unfold maxLen at hm;have HBel:=Lib.hid hbel;clear hbel;clear hsl hown
   go_wp2
   go_ret;refine⟨.slice (some ⟨g,0,none⟩) B.length cap,rfl,⟨g,cap,by rw[HL.out],hg0,hg1,by rw[HL.out];omega,by unfold maxLen;omega,fun j hj=>?_⟩,HBel.out⟩
   rw[HC.out j (by simp[HL.out,marksBytes_len]at hj ⊢;omega),List.getElem?_eq_getElem]
theorem kit_KeptBytes (v v2:Value) (B:List Int) (b0:Nat) (w:World) (hB:B.length≤4194304) (hv:Lent b0 w v (u8s B) (marksBytes 12)) (hr:Rd w w.heap.size v2 (u8s B)) :
  Calls Tryz.prog 11 #[v,v2] w fun e w'=>e=.returned (.bool true)∧Below w.heap.size w w':=by
 have hl:(u8s B).length=B.length:=by simp[u8s]
 obtain⟨g,cap,rfl,hg0,hg1,hcap,hm,hcell⟩:=hv;rw[hl]at hcap hcell;rw[hl];have hv2:∃ p c,v2=.slice p B.length c:=by rcases hr.u8 with ⟨⟨q,h⟩,rfl⟩|⟨b,off,cap,h,_⟩<;>exact⟨_,_,h⟩
 obtain⟨p2,c2,rfl⟩:=hv2;have hc1:∀ j,(hj:j<B.length)→w.cell? ⟨g,j,none⟩=some (.int .u8 B[j]):=fun j hj=>by
  rw[hcell j (by omega),List.getElem?_append_left (by omega)];simp[u8s,hj]
 have hc2:∀ j,j<12→w.cell? ⟨g,B.length+j,none⟩=some (.int .u8 (markB 1 j)):=fun j hj=>by
  rw[hcell (B.length+j) (by omega),List.getElem?_append_right (by omega),hl,show B.length+j - B.length=j from by omega,marksBytes_get hj]
 have HC1:=Lib.hid hc1;clear hc1;have HC2:=Lib.hid hc2;clear hc2;have HR:=Lib.hid hr;clear hr;clear hcell hl;unfold maxLen at hm;have hcap0:¬ cap=0:=by omega
 have hbb:((B.length:Int) != (B.length:Int))=false:=by simp
 have hsum:IntKind.i64.wrap ((B.length:Int)+12)=(B.length:Int)+12:=by rw[IntKind.wrap_i64];omega
 have hle:((B.length:Int)+12≤(cap:Int)):=by omega
 go_enter Tryz.func11,Tryz.ntmps11
 go_wp2_with fail
 go_loopw [6] (fun i wr=>∃ j:Nat,j≤B.length+12∧i=.int .i64 j∧Hid (Below w.heap.size w wr)) (fun i _=>B.length+12 - (intOf i).toNat)
 case atStart=>exact⟨0,by omega,rfl,Below.refl _ _⟩
 case round =>
  obtain⟨j,hj,rfl,H⟩:=hrel
  by_cases hlt:j<B.length+12
  ·by_cases hin:j<B.length
   ·obtain⟨b2,off2,rfl,hb2,hcell2⟩:∃ b2 off2,p2=some ⟨b2,off2,none⟩∧b2<w.heap.size∧∀ i,(hi:i<B.length)→w.cell? ⟨b2,off2+i,none⟩=some (.int .u8 B[i]):=by
     rcases HR.out.u8 with ⟨⟨q,h⟩,h'⟩|⟨b,off,cap,h,h1,_,_,h4⟩
     ·subst h';simp at hin
     ·injection h with h2 _ _;exact⟨b,off,h2,h1,h4⟩
    have k1:=HC1.out j hin;have k2:=hcell2 j hin;clear hcell2
    generalize B[j]=x at k1 k2
    have K1:=Lib.hid k1;clear k1;have K2:=Lib.hid k2;clear k2
    go_upto_region 7 with fail
    refine wp_region_spec 35 [fun v _=>v=.int .i64 (j:Int),fun v _=>v=.slice (some ⟨b2,off2,none⟩) B.length c2,fun v _=>v=.int .i64 ((B.length:Nat):Int),fun v _=>v=.bool true,fun v _=>v=.bool true,fun v _=>v=.slice (some ⟨g,0,none⟩) (B.length+12) cap,fun v _=>v=.int .i64 (j:Int),fun v _=>v=.pointer (some ⟨g,j,none⟩),fun v _=>v=.int .u8 x,fun v _=>v=.slice (some ⟨b2,off2,none⟩) B.length c2,fun v _=>v=.int .i64 (j:Int),fun v _=>v=.pointer (some ⟨b2,off2+j,none⟩),fun v _=>v=.int .u8 x,fun v _=>v=.bool true,fun v _=>v=.bool false,fun v _=>v=.bool false,fun v _=>v=.bool false,fun v _=>v=.int .i64 (j:Int),fun v _=>v=.slice (some ⟨b2,off2,none⟩) B.length c2,fun v _=>v=.int .i64 ((B.length:Nat):Int),fun v _=>v=.bool false,fun v _=>v=.bool false,fun v _=>v=undef,fun v _=>v=undef,fun v _=>v=undef,fun v _=>v=undef,fun v _=>v=undef,fun v _=>v=undef,fun v _=>v=undef,fun v _=>v=undef,fun v _=>v=undef,fun v _=>v=undef,fun v _=>v=undef,fun v _=>v=Value.bool false,fun v _=>v=Value.bool false] (fun _=>false) (by kernel_rfl) (by kernel_rfl) (by kernel_rfl) (by repeat (first|exact trivial|refine⟨stable_eq _,?_⟩)) (fun _ _ h=>by cases h) ?ob ?en
    case ob =>
     refine⟨?_,?_,?_,?_,?_,?_,?_,?_,?_,?_,?_,?_,?_,?_,?_,?_,?_,?_,?_,?_,?_,?_,?_,?_,?_,?_,?_,?_,?_,?_,?_,?_,?_,?_,?_,trivial⟩<;>intro A W h
     ·exact rs_move rfl rfl (h.frame 6 rfl)
     ·exact rs_move rfl rfl (h.frame 1 rfl)
     ·exact rs_len Tryz.underlying23 rfl rfl (h.dep 1 24 rfl rfl)
     ·(have e23:A.eval (.tmp 23)=.int .i64 (j:Int):=h.dep 0 23 rfl rfl;have e25:A.eval (.tmp 25)=.int .i64 ((B.length:Nat):Int):=h.dep 2 25 rfl rfl;refine rs_pure rfl ?_;simp only[execOp,e23,e25];(simp[go_sem]<;>first|done|omega|(rw[IntKind.wrap_i64];omega)|(rw[IntKind.wrap_u8];omega)|(rw[IntKind.wrap_u64];omega)))
     ·exact rs_move rfl rfl (h.dep 3 26 rfl rfl)
     ·exact rs_move (wanted_g rfl (yielded_of (d:=27) rfl (h.dep 4 27 rfl rfl))) rfl (h.frame 5 rfl)
     ·exact rs_move (wanted_g rfl (yielded_of (d:=27) rfl (h.dep 4 27 rfl rfl))) rfl (h.frame 6 rfl)
     ·exact rs_idx (sz:=1) Tryz.underlying23 (fun w=>by kernel_rfl) (wanted_g rfl (yielded_of (d:=27) rfl (h.dep 4 27 rfl rfl))) rfl (h.dep 5 28 rfl rfl) (h.dep 6 29 rfl rfl) (by omega) (by omega)
     ·(have e30:A.eval (.tmp 30)=.pointer (some ⟨g,j,none⟩):=h.dep 7 30 rfl rfl;refine rs_pure (wanted_g rfl (yielded_of (d:=27) rfl (h.dep 4 27 rfl rfl))) ?_;simp only[execOp,e30];(have q:=((H.out.trans (h.below.mono H.out.size)).cell (p:=⟨g,j,none⟩) hg1).trans K1.out;simp[go_sem,q]))
     ·exact rs_move (wanted_g rfl (yielded_of (d:=27) rfl (h.dep 4 27 rfl rfl))) rfl (h.frame 1 rfl)
     ·exact rs_move (wanted_g rfl (yielded_of (d:=27) rfl (h.dep 4 27 rfl rfl))) rfl (h.frame 6 rfl)
     ·exact rs_idx (sz:=1) Tryz.underlying23 (fun w=>by kernel_rfl) (wanted_g rfl (yielded_of (d:=27) rfl (h.dep 4 27 rfl rfl))) rfl (h.dep 9 32 rfl rfl) (h.dep 10 33 rfl rfl) (by omega) (by omega)
     ·(have e34:A.eval (.tmp 34)=.pointer (some ⟨b2,off2+j,none⟩):=h.dep 11 34 rfl rfl;refine rs_pure (wanted_g rfl (yielded_of (d:=27) rfl (h.dep 4 27 rfl rfl))) ?_;simp only[execOp,e34];(have q:=((H.out.trans (h.below.mono H.out.size)).cell (p:=⟨b2,off2+j,none⟩) hb2).trans K2.out;simp[go_sem,q]))
     ·(have e31:A.eval (.tmp 31)=.int .u8 x:=h.dep 8 31 rfl rfl;have e35:A.eval (.tmp 35)=.int .u8 x:=h.dep 12 35 rfl rfl;refine rs_pure (wanted_g rfl (yielded_of (d:=27) rfl (h.dep 4 27 rfl rfl))) ?_;simp only[execOp,e31,e35];(simp[go_sem]<;>first|done|omega|(rw[IntKind.wrap_i64];omega)|(rw[IntKind.wrap_u8];omega)|(rw[IntKind.wrap_u64];omega)))
     ·(have e36:A.eval (.tmp 36)=.bool true:=h.dep 13 36 rfl rfl;refine rs_pure (wanted_g rfl (yielded_of (d:=27) rfl (h.dep 4 27 rfl rfl))) ?_;simp only[execOp,e36];(simp[go_sem]<;>first|done|omega|(rw[IntKind.wrap_i64];omega)|(rw[IntKind.wrap_u8];omega)|(rw[IntKind.wrap_u64];omega)))
     ·exact rs_pick rfl rfl (h.dep 4 27 rfl rfl) (h.dep 14 37 rfl rfl)
     ·exact rs_move rfl rfl (h.dep 15 38 rfl rfl)
     ·exact rs_move (wanted_g rfl (yielded_of (d:=39) rfl (h.dep 16 39 rfl rfl))) rfl (h.frame 6 rfl)
     ·exact rs_move (wanted_g rfl (yielded_of (d:=39) rfl (h.dep 16 39 rfl rfl))) rfl (h.frame 1 rfl)
     ·exact rs_len Tryz.underlying23 (wanted_g rfl (yielded_of (d:=39) rfl (h.dep 16 39 rfl rfl))) rfl (h.dep 18 41 rfl rfl)
     ·(have e40:A.eval (.tmp 40)=.int .i64 (j:Int):=h.dep 17 40 rfl rfl;have e42:A.eval (.tmp 42)=.int .i64 ((B.length:Nat):Int):=h.dep 19 42 rfl rfl;refine rs_pure (wanted_g rfl (yielded_of (d:=39) rfl (h.dep 16 39 rfl rfl))) ?_;simp only[execOp,e40,e42];(simp[go_sem]<;>first|done|omega|(rw[IntKind.wrap_i64];omega)|(rw[IntKind.wrap_u8];omega)|(rw[IntKind.wrap_u64];omega)))
     ·exact rs_move (wanted_g rfl (yielded_of (d:=39) rfl (h.dep 16 39 rfl rfl))) rfl (h.dep 20 43 rfl rfl)
     ·exact rsk (h.dep 21 44 rfl rfl)
     ·exact rsk (h.dep 21 44 rfl rfl)
     ·exact rsk (h.dep 21 44 rfl rfl)
     ·exact rsk (h.dep 21 44 rfl rfl)
     ·exact rsk (h.dep 21 44 rfl rfl)
     ·exact rsk (h.dep 21 44 rfl rfl)
     ·exact rsk (h.dep 21 44 rfl rfl)
     ·exact rsk (h.dep 21 44 rfl rfl)
     ·exact rsk (h.dep 21 44 rfl rfl)
     ·exact rsk (h.dep 21 44 rfl rfl)
     ·exact rsk (h.dep 21 44 rfl rfl)
     ·exact rs_pick (wanted_g rfl (yielded_of (d:=39) rfl (h.dep 16 39 rfl rfl))) rfl (h.dep 21 44 rfl rfl) (rfl)
     ·exact rs_pick rfl rfl (h.dep 16 39 rfl rfl) (h.dep 33 56 rfl rfl)
    case en =>
     intro vals W hbw hv _;simp only[fa,Nat.reduceAdd];rw[e_ hv 0,e_ hv 1,e_ hv 2,e_ hv 3,e_ hv 4,e_ hv 5,e_ hv 6,e_ hv 7,e_ hv 8,e_ hv 9,e_ hv 10,e_ hv 11,e_ hv 12,e_ hv 13,e_ hv 14,e_ hv 15,e_ hv 16,e_ hv 17,e_ hv 18,e_ hv 19,e_ hv 20,e_ hv 21,e_ hv 22,e_ hv 23,e_ hv 24,e_ hv 25,e_ hv 26,e_ hv 27,e_ hv 28,e_ hv 29,e_ hv 30,e_ hv 31,e_ hv 32,e_ hv 33,e_ hv 34];clear hv
     try simp only[pl]
     have BZ:=Lib.hid (H.out.trans (hbw.mono H.out.size));clear hbw H
     go_wp2_with fail
     go_roundw
     case rel=>exact⟨j+1,by omega,by go_num,BZ.out⟩
     case measure=>simp[intOf];omega
   ·have k1:=HC2.out (j - B.length) (by omega)
    rw[show B.length+(j - B.length)=j from by omega]at k1
    have K1:=Lib.hid k1;clear k1
    go_upto_region 7 with fail
    refine wp_region_spec 35 [fun v _=>v=.int .i64 (j:Int),fun v _=>v=.slice p2 B.length c2,fun v _=>v=.int .i64 ((B.length:Nat):Int),fun v _=>v=.bool false,fun v _=>v=.bool false,fun v _=>v=undef,fun v _=>v=undef,fun v _=>v=undef,fun v _=>v=undef,fun v _=>v=undef,fun v _=>v=undef,fun v _=>v=undef,fun v _=>v=undef,fun v _=>v=undef,fun v _=>v=undef,fun v _=>v=Value.bool false,fun v _=>v=Value.bool false,fun v _=>v=.int .i64 (j:Int),fun v _=>v=.slice p2 B.length c2,fun v _=>v=.int .i64 ((B.length:Nat):Int),fun v _=>v=.bool true,fun v _=>v=.bool true,fun v _=>v=.slice (some ⟨g,0,none⟩) (B.length+12) cap,fun v _=>v=.int .i64 (j:Int),fun v _=>v=.pointer (some ⟨g,j,none⟩),fun v _=>v=.int .u8 (markB 1 ((j - B.length:Nat):Int)),fun v _=>v=.int .i64 (j:Int),fun v _=>v=.slice p2 B.length c2,fun v _=>v=.int .i64 ((B.length:Nat):Int),fun v _=>v=.int .i64 ((j - B.length:Nat):Int),fun v _=>v=.int .u8 (markB 1 ((j - B.length:Nat):Int)),fun v _=>v=.bool true,fun v _=>v=.bool false,fun v _=>v=.bool false,fun v _=>v=.bool false] (fun _=>false) (by kernel_rfl) (by kernel_rfl) (by kernel_rfl) (by repeat (first|exact trivial|refine⟨stable_eq _,?_⟩)) (fun _ _ h=>by cases h) ?ob ?en
    case ob =>
     refine⟨?_,?_,?_,?_,?_,?_,?_,?_,?_,?_,?_,?_,?_,?_,?_,?_,?_,?_,?_,?_,?_,?_,?_,?_,?_,?_,?_,?_,?_,?_,?_,?_,?_,?_,?_,trivial⟩<;>intro A W h
     ·exact rs_move rfl rfl (h.frame 6 rfl)
     ·exact rs_move rfl rfl (h.frame 1 rfl)
     ·exact rs_len Tryz.underlying23 rfl rfl (h.dep 1 24 rfl rfl)
     ·(have e23:A.eval (.tmp 23)=.int .i64 (j:Int):=h.dep 0 23 rfl rfl;have e25:A.eval (.tmp 25)=.int .i64 ((B.length:Nat):Int):=h.dep 2 25 rfl rfl;refine rs_pure rfl ?_;simp only[execOp,e23,e25];(simp[go_sem]<;>first|done|omega|(rw[IntKind.wrap_i64];omega)|(rw[IntKind.wrap_u8];omega)|(rw[IntKind.wrap_u64];omega)))
     ·exact rs_move rfl rfl (h.dep 3 26 rfl rfl)
     ·exact rsk (h.dep 4 27 rfl rfl)
     ·exact rsk (h.dep 4 27 rfl rfl)
     ·exact rsk (h.dep 4 27 rfl rfl)
     ·exact rsk (h.dep 4 27 rfl rfl)
     ·exact rsk (h.dep 4 27 rfl rfl)
     ·exact rsk (h.dep 4 27 rfl rfl)
     ·exact rsk (h.dep 4 27 rfl rfl)
     ·exact rsk (h.dep 4 27 rfl rfl)
     ·exact rsk (h.dep 4 27 rfl rfl)
     ·exact rsk (h.dep 4 27 rfl rfl)
     ·exact rs_pick rfl rfl (h.dep 4 27 rfl rfl) (rfl)
     ·exact rs_move rfl rfl (h.dep 15 38 rfl rfl)
     ·exact rs_move (wanted_g rfl (yielded_of (d:=39) rfl (h.dep 16 39 rfl rfl))) rfl (h.frame 6 rfl)
     ·exact rs_move (wanted_g rfl (yielded_of (d:=39) rfl (h.dep 16 39 rfl rfl))) rfl (h.frame 1 rfl)
     ·exact rs_len Tryz.underlying23 (wanted_g rfl (yielded_of (d:=39) rfl (h.dep 16 39 rfl rfl))) rfl (h.dep 18 41 rfl rfl)
     ·(have e40:A.eval (.tmp 40)=.int .i64 (j:Int):=h.dep 17 40 rfl rfl;have e42:A.eval (.tmp 42)=.int .i64 ((B.length:Nat):Int):=h.dep 19 42 rfl rfl;refine rs_pure (wanted_g rfl (yielded_of (d:=39) rfl (h.dep 16 39 rfl rfl))) ?_;simp only[execOp,e40,e42];(simp[go_sem]<;>first|done|omega|(rw[IntKind.wrap_i64];omega)|(rw[IntKind.wrap_u8];omega)|(rw[IntKind.wrap_u64];omega)))
     ·exact rs_move (wanted_g rfl (yielded_of (d:=39) rfl (h.dep 16 39 rfl rfl))) rfl (h.dep 20 43 rfl rfl)
     ·exact rs_move (wanted_g rfl (yielded_of (d:=44) rfl (h.dep 21 44 rfl rfl))) rfl (h.frame 5 rfl)
     ·exact rs_move (wanted_g rfl (yielded_of (d:=44) rfl (h.dep 21 44 rfl rfl))) rfl (h.frame 6 rfl)
     ·exact rs_idx (sz:=1) Tryz.underlying23 (fun w=>by kernel_rfl) (wanted_g rfl (yielded_of (d:=44) rfl (h.dep 21 44 rfl rfl))) rfl (h.dep 22 45 rfl rfl) (h.dep 23 46 rfl rfl) (by omega) (by omega)
     ·(have e47:A.eval (.tmp 47)=.pointer (some ⟨g,j,none⟩):=h.dep 24 47 rfl rfl;refine rs_pure (wanted_g rfl (yielded_of (d:=44) rfl (h.dep 21 44 rfl rfl))) ?_;simp only[execOp,e47];(have q:=((H.out.trans (h.below.mono H.out.size)).cell (p:=⟨g,j,none⟩) hg1).trans K1.out;simp[go_sem,q]))
     ·exact rs_move (wanted_g rfl (yielded_of (d:=44) rfl (h.dep 21 44 rfl rfl))) rfl (h.frame 6 rfl)
     ·exact rs_move (wanted_g rfl (yielded_of (d:=44) rfl (h.dep 21 44 rfl rfl))) rfl (h.frame 1 rfl)
     ·exact rs_len Tryz.underlying23 (wanted_g rfl (yielded_of (d:=44) rfl (h.dep 21 44 rfl rfl))) rfl (h.dep 27 50 rfl rfl)
     ·(have e49:A.eval (.tmp 49)=.int .i64 (j:Int):=h.dep 26 49 rfl rfl;have e51:A.eval (.tmp 51)=.int .i64 ((B.length:Nat):Int):=h.dep 28 51 rfl rfl;refine rs_pure (wanted_g rfl (yielded_of (d:=44) rfl (h.dep 21 44 rfl rfl))) ?_;simp only[execOp,e49,e51];(simp[go_sem]<;>first|done|omega|(rw[IntKind.wrap_i64];omega)|(rw[IntKind.wrap_u8];omega)|(rw[IntKind.wrap_u64];omega)))
     ·exact rs_calln (wanted_g rfl (yielded_of (d:=44) rfl (h.dep 21 44 rfl rfl))) rfl (enters_of Tryz.func18 (by kernel_rfl) rfl) (args2 ⟨rfl,(h.dep 29 52 rfl rfl)⟩) ((kit_markByte 1 _ W (by omega) (by omega)).mono fun _ _ h=>⟨h.1,h.2 ▸ Below.refl _ _⟩)
     ·(have e48:A.eval (.tmp 48)=.int .u8 (markB 1 ((j - B.length:Nat):Int)):=h.dep 25 48 rfl rfl;have e53:A.eval (.tmp 53)=.int .u8 (markB 1 ((j - B.length:Nat):Int)):=h.dep 30 53 rfl rfl;refine rs_pure (wanted_g rfl (yielded_of (d:=44) rfl (h.dep 21 44 rfl rfl))) ?_;simp only[execOp,e48,e53];(simp[go_sem]<;>first|done|omega|(rw[IntKind.wrap_i64];omega)|(rw[IntKind.wrap_u8];omega)|(rw[IntKind.wrap_u64];omega)))
     ·(have e54:A.eval (.tmp 54)=.bool true:=h.dep 31 54 rfl rfl;refine rs_pure (wanted_g rfl (yielded_of (d:=44) rfl (h.dep 21 44 rfl rfl))) ?_;simp only[execOp,e54];(simp[go_sem]<;>first|done|omega|(rw[IntKind.wrap_i64];omega)|(rw[IntKind.wrap_u8];omega)|(rw[IntKind.wrap_u64];omega)))
     ·exact rs_pick (wanted_g rfl (yielded_of (d:=39) rfl (h.dep 16 39 rfl rfl))) rfl (h.dep 21 44 rfl rfl) (h.dep 32 55 rfl rfl)
     ·exact rs_pick rfl rfl (h.dep 16 39 rfl rfl) (h.dep 33 56 rfl rfl)
    case en =>
     intro vals W hbw hv _;simp only[fa,Nat.reduceAdd];rw[e_ hv 0,e_ hv 1,e_ hv 2,e_ hv 3,e_ hv 4,e_ hv 5,e_ hv 6,e_ hv 7,e_ hv 8,e_ hv 9,e_ hv 10,e_ hv 11,e_ hv 12,e_ hv 13,e_ hv 14,e_ hv 15,e_ hv 16,e_ hv 17,e_ hv 18,e_ hv 19,e_ hv 20,e_ hv 21,e_ hv 22,e_ hv 23,e_ hv 24,e_ hv 25,e_ hv 26,e_ hv 27,e_ hv 28,e_ hv 29,e_ hv 30,e_ hv 31,e_ hv 32,e_ hv 33,e_ hv 34];clear hv
     try simp only[pl]
     have BZ:=Lib.hid (H.out.trans (hbw.mono H.out.size));clear hbw H
     go_wp2_with fail
     go_roundw
     case rel=>exact⟨j+1,by omega,by go_num,BZ.out⟩
     case measure=>simp[intOf];omega
  ·obtain rfl:j=B.length+12:=by omega
   go_wp2
   go_ret;exact⟨rfl,H.out⟩
end Go.Proofs.YtdoflhjhaciepaaGreat
namespace Go.Proofs.YtdoflhjhaciepaaGreat
open Go.RowKit
theorem own_kept' {w w':World} {base:Nat} {e:TypeId} {s:Nat} {v:Value} {n:Nat} {xs:List Value} {row:Option Nat} (h:w.ownsRow base e s v n xs) (hg:w.grownBy w' row) (hr:∀ g,row=some g→v.ownBlock≠some g):w'.ownsRow base e s v n xs:=by
 obtain⟨hl,h'|⟨g,cap,cur,rfl,hb,hgk,r⟩⟩:=h
 ·exact⟨hl,.inl h'⟩
 ·refine⟨hl,.inr ⟨g,cap,cur,rfl,hb,?_,r⟩⟩;exact(hg.block g (Array.getElem?_eq_some_iff.1 hgk).1 (fun e=>hr g e.symm rfl)).trans hgk
theorem own_block {w:World} {base:Nat} {e:TypeId} {s:Nat} {v:Value} {n:Nat} {xs:List Value} {g:Nat} (h:w.ownsRow base e s v n xs) (hb:v.ownBlock=some g):g<w.heap.size∧base≤g∧∃ cur,w.heap[g]?=some (.cells cur e (0,0)):=by
 obtain⟨_,⟨rfl,_⟩|⟨g',cap,cur,rfl,h1,h2,_⟩⟩:=h
 ·cases hb
 ·simp[Value.ownBlock]at hb;subst hb;exact⟨(Array.getElem?_eq_some_iff.1 h2).1,h1,cur,h2⟩
theorem own_shrink {w:World} {base:Nat} {e:TypeId} {s g n m c:Nat} {ys:List Value} (h:w.ownsRow base e s (.slice (some ⟨g,0,none⟩) m c) m ys) (hn:n≤m) :
  w.ownsRow base e s (.slice (some ⟨g,0,none⟩) n c) n (ys.take (n * s)):=by
 obtain⟨hl,⟨h',_⟩|⟨g',cap,cur,e1,h1,h2,h3,h4,h5,h6⟩⟩:=h
 ·cases h'
 ·cases e1
  have hle:n * s≤m * s:=Nat.mul_le_mul_right _ hn;refine⟨by rw[List.length_take,hl];omega,.inr ⟨g,c,cur,rfl,h1,h2,by omega,h4,h5,?_⟩⟩
  rw[← h6,List.take_take]
  congr 1
  omega
theorem own_same {w:World} {base:Nat} {e:TypeId} {s g n m c:Nat} {xs ys:List Value} (h:w.ownsRow base e s (.slice (some ⟨g,0,none⟩) n c) n xs) (h2:w.ownsRow base e s (.slice (some ⟨g,0,none⟩) m c) m ys) (hn:n≤m):xs=ys.take (n * s):=by
 obtain⟨_,⟨h',_⟩|⟨g',cap,cur,e1,_,a2,_,_,_,a6⟩⟩:=h
 ·cases h'
 ·cases e1
  obtain⟨_,⟨h',_⟩|⟨g',cap',cur',e1,_,b2,_,_,_,b6⟩⟩:=h2
  ·cases h'
  ·cases e1
   rw[a2]at b2
   cases b2
   have hle:n * s≤m * s:=Nat.mul_le_mul_right _ hn;rw[← a6,← b6,List.take_take]
   congr 1
   omega
theorem own_setF {w:World} {base g n cap s:Nat} {e:TypeId} {xs:List Value} (h:w.ownsRow base e s (.slice (some ⟨g,0,none⟩) n cap) n xs) {k:Nat} (v:Value) :
  (w.setCell ⟨g,k,none⟩ v).ownsRow base e s (.slice (some ⟨g,0,none⟩) n cap) n (xs.set k v):=by
 obtain⟨hl,⟨h',_⟩|⟨g',cap',cur,e1,h1,h2,h3,h4,h5,h6⟩⟩:=h
 ·cases h'
 ·cases e1
  refine⟨by simpa using hl,.inr ⟨g,cap,cur.setIfInBounds k v,rfl,h1,?_,h3,h4,by simpa using h5,?_⟩⟩
  ·obtain⟨hlt,hh⟩:=Array.getElem?_eq_some_iff.1 h2
   show (w.heap.modify g _)[g]?=_
   rw[Array.getElem?_eq_getElem (by rw[Array.size_modify];exact hlt),Array.getElem_modify_self,hh]
   rfl
  ·rw[← h6,Array.toList_setIfInBounds,List.take_set]
theorem grownBy_setCellF (W:World) (g k:Nat) (v:Value):W.grownBy (W.setCell ⟨g,k,none⟩ v) (some g) :=
 ⟨rfl,rfl,rfl,by simp[World.setCell],fun j _ hj=>Below.heap_setCell _ _ _ j (fun e=>hj (by rw[e]))⟩
theorem own_cellF {w:World} {base g n cap s:Nat} {e:TypeId} {xs:List Value} (h:w.ownsRow base e s (.slice (some ⟨g,0,none⟩) n cap) n xs) {k:Nat} (hk:k<n * s):w.cell? ⟨g,k,none⟩=xs[k]?:=by
 obtain⟨hl,⟨h',_⟩|⟨g',cap',cur,e1,h1,h2,h3,h4,h5,h6⟩⟩:=h
 ·cases h'
 ·cases e1
  rw[cell_of_row w g k _ _ _ h2,← h6,List.getElem?_take_of_lt hk];simp
theorem own_frozenF {w:World} {base g n cap s:Nat} {e:TypeId} {xs:List Value} (h:w.ownsRow base e s (.slice (some ⟨g,0,none⟩) n cap) n xs) (k:Nat):w.frozen? ⟨g,k,none⟩=false:=by
 obtain⟨hl,⟨h',_⟩|⟨g',cap',cur,e1,h1,h2,h3,h4,h5,h6⟩⟩:=h
 ·cases h'
 ·cases e1
  simp[World.frozen?,h2]
def Grow (w w':World) (v v':Value):Prop :=
 (∃ g n m c,v=.slice (some ⟨g,0,none⟩) n c∧v'=.slice (some ⟨g,0,none⟩) m c∧n≤m∧w.grownBy w' (some g))∨((∃ m c,v'=.slice (some ⟨w.heap.size,0,none⟩) m c)∧w.grownBy w' none)
theorem Grow.any {w w':World} {v v':Value} (h:Grow w w' v v'):w.grownBy w' v.ownBlock:=by
 rcases h with ⟨g,n,m,c,rfl,rfl,_,h⟩|⟨_,h⟩
 ·exact h
 ·exact⟨h.os,h.tape,h.output,h.size,fun k hk _=>h.block k hk (by simp)⟩
theorem run_append_two {P:Program} (w:World) (base:Nat) (t ty e:TypeId) (i:TypeInfo) (z:Value) (size bytes:Nat) (ht:P.underlying t=some (.slice e)) (hi:P.info? e=some i) (hz:i.zero=some z)
  (hsize:i.size=size) (hby:i.bytes=bytes) (hzs:z.cells.size=size) (hsz:0<size)
  (v:Value) (n:Nat) (xs:List Value) (hown:w.ownsRow base e size v n xs)
  (a:Addr) (m c:Nat) (news:List Value) (hl:news.length=m * size) (hnews:∀ j u,news[j]?=some u→w.cell? (a.add j)=some u) (h1:∀ u ∈ news,u.oneCell'=true)
  (h63:n+m≤maxLen) (hbytes:(n+m) * bytes≤140737488355328) (hbase:base≤w.heap.size) (hm:0<m) :
  ∃ v' w',(Builtin.append_ #[t,t] ty #[v,.slice (some a) m c]).run P w=.ok v' w'∧w'.ownsRow base e size v' (n+m) (xs++news)∧Grow w w' v v':=by
 subst hsize;subst hby;have hsmall:n+m≤9223372036854775807:=by simp only[maxLen]at h63;omega
 have hlen:(xs++news).length=(n+m) * i.size:=by rw[List.length_append,hown.1,hl,Nat.add_mul]
 have grown:∀ (old:Nat),old<n+m→∀ (row:Option Nat),
   (w.drew.alloc (.cells (xs.toArray++news.toArray++Builtin.zeroCells z.cells (grownCap w (n+m) old e - (n+m))) e)).ownsRow base e i.size
    (.slice (some ⟨w.heap.size,0,none⟩) (n+m) (grownCap w (n+m) old e)) (n+m) (xs++news) ∧
   w.grownBy (w.drew.alloc (.cells (xs.toArray++news.toArray++Builtin.zeroCells z.cells (grownCap w (n+m) old e - (n+m))) e)) row:=by
  intro old ho row;have hge:=grownCap_ge w (n+m) old e;have hcm:grownCap w (n+m) old e≤maxLen:=grownCap_le_maxLen w (n+m) old e h63;refine⟨⟨hlen,.inr ⟨w.heap.size,_,_,rfl,hbase,heap_alloc_new w.drew _,hge,hcm,?_,?_⟩⟩,⟨rfl,rfl,rfl,by simp,fun k hk _=>heap_alloc_old w.drew _ k hk⟩⟩
  ·simp only[Array.size_append,List.size_toArray,size_zeroCells,hzs,hown.1,hl,← Nat.add_mul]
   congr 1
   omega
  ·simp only[Array.toList_append,List.append_assoc];rw[← List.append_assoc,← hlen];exact List.take_left
 rcases hown.2 with ⟨rfl,rfl⟩|⟨g,cap,cur,rfl,hbg,hg,hnc,hcm,hcs,htake⟩
 ·have hx:xs=[]:=List.eq_nil_of_length_eq_zero (by simpa using hown.1)
  subst hx;have hr:=run_append_nil (P:=P) w t ty e i z ht hi hz a m c news hl hnews (by omega) (by omega) (by have hb:=hbytes;simp only[Nat.zero_add]at hb;omega)
  have hgr:=grown 0 (by omega) none
  simp only[Nat.zero_add,List.nil_append,Array.empty_append]at hgr ⊢;exact⟨_,_,hr,hgr.1,.inr ⟨⟨_,_,rfl⟩,hgr.2⟩⟩
 ·by_cases hroom:n+m≤cap
  ·have hfit:n * i.size+news.length≤cur.size:=by rw[hl,hcs,← Nat.add_mul];exact Nat.mul_le_mul_right _ hroom
   have hr:=run_append_room (P:=P) w t ty e i ht hi g n cap cur hg a m c news hl hnews h1 hroom hfit;refine⟨_,_,hr,⟨hlen,.inr ⟨g,cap,_,rfl,hbg,setRow_heap w g cur _ e _ hg,hroom,hcm,?_,?_⟩⟩,.inl ⟨g,n,n+m,cap,rfl,rfl,by omega,⟨rfl,rfl,rfl,by simp,fun k _ hk=>setRow_other w g k _ (fun e=>hk (by rw[e]))⟩⟩⟩
   ·simp only[List.size_toArray,List.length_append,List.length_take,List.length_drop,Array.length_toList];omega
   ·rw[htake,← hlen];exact List.take_left
  ·have holds:∀ j u,xs[j]?=some u→w.cell? ((⟨g,0,none⟩:Addr).add j)=some u:=hown.cells (g:=g) rfl;have hr:=run_append_grow (P:=P) w t ty e i z ht hi hz ⟨g,0,none⟩ n cap xs hown.1 holds a m c news hl hnews (by omega) (by omega) (growslice_fits (by omega) hbytes)
   have hgr:=grown cap (by omega) none
   exact⟨_,_,hr,hgr.1,.inr ⟨⟨_,_,rfl⟩,hgr.2⟩⟩
theorem wpList_append_two {P:Program} (w:World) {ops:Array Oper} {rest:List Oper} {o:Oper} {a:Act} {Q:Exit→Act→World→Prop}
  (hg:o.guard=none) (s x:Operand) (t:TypeId) (hop:o.op=Op.call {callee:=Callee.builtin Builtin.append,args:=#[s,x],argTypes:=#[t,t]})
  (base:Nat) (e:TypeId) (i:TypeInfo) (z:Value) (size bytes:Nat) (h1:P.underlying t=some (.slice e)) (h2:P.info? e=some i) (h3:i.zero=some z) (h4:i.size=size) (h5:i.bytes=bytes) (h6:z.cells.size=size) (h7:0<size)
  (v:Value) (k:Nat) (xs:List Value) (hs:a.eval s=v) (hown:w.ownsRow base e size v k xs) (ad:Addr) (m c:Nat) (news:List Value) (hx:a.eval x=.slice (some ad) m c) (hn:news.length=m * size)
  (hc:∀ j u,news[j]?=some u→w.cell? (ad.add j)=some u) (h1c:∀ u ∈ news,u.oneCell'=true) (b1:k+m≤maxLen) (b2:(k+m) * bytes≤140737488355328) (b3:base≤w.heap.size) (hm:0<m)
  (hK:∀ v' w',w'.ownsRow base e size v' (k+m) (xs++news)→Grow w w' v v'→wpList P ops Q rest (a.put o.dst v') w') :
  wpList P ops Q (o::rest) a w:=by
 refine wpList_plain hg fun K hK'=>?_
 obtain⟨v',w',hr,r1,r2⟩:=run_append_two (P:=P) w base t o.type e i z size bytes h1 h2 h3 h4 h5 h6 h7 v k xs hown ad m c news hn hc h1c b1 b2 b3 hm;unfold Oper.wp execOp;simp only[hop,resolve,invoke,builtin,Sem.run_bind,Sem.run_pure,Result.andThen_ok,List.map_toArray,List.map_cons,List.map_nil,hs,hx,hr];exact hK' _ _ (hK v' w' r1 r2)
structure Fam (e:TypeId) (sz base:Nat) (w:World) (K:Nat) (V U:Nat→Value) (N M:Nat→Nat) (X Y:Nat→List Value):Prop where
 v:∀ j,j<K→w.ownsRow base e sz (V j) (N j) (X j)
 u:∀ j,j<K→w.ownsRow base e sz (U j) (M j) (Y j)
 link:∀ j,j<K→∀ g n c m d,V j=.slice (some ⟨g,0,none⟩) n c→U j=.slice (some ⟨g,0,none⟩) m d→n≤m∧c=d
 sep:∀ i j,i<K→j<K→i≠j→∀ g,((V i).ownBlock=some g∨(U i).ownBlock=some g)→¬ ((V j).ownBlock=some g∨(U j).ownBlock=some g)
section
variable {e:TypeId} {sz base:Nat} {w:World} {K:Nat} {V U:Nat→Value} {N M:Nat→Nat} {X Y:Nat→List Value}
theorem Fam.reset (h:Fam e sz base w K V U N M X Y):Fam e sz base w K V V N N X X :=
 ⟨h.v,h.v,fun j _ g n c m d h1 h2=>by rw[h1]at h2;cases h2;exact⟨Nat.le_refl _,rfl⟩,fun i j hi hj hij g h1 h2=>h.sep i j hi hj hij g (.inl (h1.elim id id)) (.inl (h2.elim id id))⟩
theorem Fam.grown {w':World} {row:Option Nat} (h:Fam e sz base w K V U N M X Y) (hg:w.grownBy w' row) (hr:∀ g,row=some g→∀ j,j<K→(V j).ownBlock≠some g∧(U j).ownBlock≠some g):Fam e sz base w' K V U N M X Y :=
 ⟨fun j hj=>own_kept' (h.v j hj) hg (fun g e=>(hr g e j hj).1),fun j hj=>own_kept' (h.u j hj) hg (fun g e=>(hr g e j hj).2),h.link,h.sep⟩
theorem Fam.below {w':World} (h:Fam e sz base w K V U N M X Y) (hb:Below w.heap.size w w'):Fam e sz base w' K V U N M X Y :=
 ⟨fun j hj=>own_below (h.v j hj) hb,fun j hj=>own_below (h.u j hj) hb,h.link,h.sep⟩
theorem Fam.other (h:Fam e sz base w K V U N M X Y) {g:Nat} {cur:Array Value} {e2:TypeId} {f:Nat × Nat} (hg:w.heap[g]?=some (.cells cur e2 f)) (hne:e≠e2):∀ j,j<K→(V j).ownBlock≠some g∧(U j).ownBlock≠some g:=by
 intro j hj;constructor
 ·intro hb;obtain⟨_,_,cur',h'⟩:=own_block (h.v j hj) hb;rw[hg]at h';cases h';exact hne rfl
 ·intro hb;obtain⟨_,_,cur',h'⟩:=own_block (h.u j hj) hb;rw[hg]at h';cases h';exact hne rfl
theorem Fam.append {w':World} {k:Nat} {v':Value} {news:List Value} {m:Nat} (h:Fam e sz base w K V U N M X Y) (hk:k<K) (ho:w'.ownsRow base e sz v' (M k+m) (Y k++news)) (hg:Grow w w' (U k) v') :
  Fam e sz base w' K V (fun j=>if j=k then v' else U j) N (fun j=>if j=k then M k+m else M j) X (fun j=>if j=k then Y k++news else Y j):=by
 have hany:=hg.any;have hoth:∀ j,j<K→j≠k→∀ g,(U k).ownBlock=some g→(V j).ownBlock≠some g∧(U j).ownBlock≠some g:=fun j hj hjk g hb =>
  ⟨fun h1=>h.sep k j hk hj (fun e=>hjk e.symm) g (.inr hb) (.inl h1),fun h1=>h.sep k j hk hj (fun e=>hjk e.symm) g (.inr hb) (.inr h1)⟩
 refine⟨fun j hj=>?_,fun j hj=>?_,fun j hj g n c m' d h1 h2=>?_,fun i j hi hj hij g h1 h2=>?_⟩
 ·by_cases hjk:j=k
  ·subst hjk;rcases hg with ⟨g,n,m',c,hu,rfl,hle,hgr⟩|⟨_,hgr⟩
   ·by_cases hvb:(V j).ownBlock=some g
    ·have hv:=h.v j hj;obtain⟨_,⟨hn,_⟩|⟨g',cap,cur,hv1,_⟩⟩:=id hv
     ·rw[hn]at hvb;cases hvb
     ·rw[hv1]at hvb;simp[Value.ownBlock]at hvb;subst hvb;obtain⟨h3,h4⟩:=h.link j hj _ _ _ _ _ hv1 hu;subst h4;have hu2:=h.u j hj;have hMn:M j=n:=by
       obtain⟨_,⟨e1,_⟩|⟨g1,c1,cur1,e1,_⟩⟩:=id hu2
       ·rw[hu]at e1;cases e1
       ·rw[hu]at e1;cases e1;rfl
      have hm':m'=M j+m:=by
       obtain⟨_,⟨e1,_⟩|⟨g1,c1,cur1,e1,_⟩⟩:=id ho
       ·cases e1
       ·cases e1;rfl
      subst hm';rw[hu,← hMn]at hu2;rw[hv1]at hv ⊢;have hx:=own_same hv hu2 (by omega)
      have:=own_shrink ho (n:=N j) (by omega)
      have hlen:=hu2.1;have hle2:N j * sz≤(Y j).length:=by rw[hlen];exact Nat.mul_le_mul_right _ (by omega)
      rw[List.take_append_of_le_length hle2,← hx]at this;exact this
    ·exact own_kept' (h.v j hj) hgr (fun g' e=>by cases e;exact hvb)
   ·exact own_kept' (h.v j hj) hgr (fun g e=>by cases e)
  ·exact own_kept' (h.v j hj) hany (fun g e=>(hoth j hj hjk g e).1)
 ·by_cases hjk:j=k
  ·subst hjk;simpa using ho
  ·simp only[if_neg hjk];exact own_kept' (h.u j hj) hany (fun g e=>(hoth j hj hjk g e).2)
 ·by_cases hjk:j=k
  ·subst hjk;simp only[if_true]at h2;rcases hg with ⟨g0,n0,m0,c0,hu,hv',hle,_⟩|⟨⟨m1,c1,hv'⟩,_⟩
   ·rw[h2]at hv';cases hv'
    obtain⟨h3,h4⟩:=h.link j hj _ _ _ _ _ h1 hu;exact⟨by omega,h4⟩
   ·exfalso
    rw[h2]at hv';cases hv'
    have:=(own_block (h.v j hj) (g:=w.heap.size) (by rw[h1];rfl)).1
    omega
  ·simp only[if_neg hjk]at h2;exact h.link j hj g n c m' d h1 h2
 ·-- what is new in row k's blocks: the same block,or a new one
  have hnew:∀ g,v'.ownBlock=some g→(U k).ownBlock=some g∨g=w.heap.size:=fun g hb=>by
   rcases hg with ⟨g0,n0,m0,c0,hu,hv',_,_⟩|⟨⟨m1,c1,hv'⟩,_⟩
   ·rw[hv']at hb;rw[hu];exact .inl hb
   ·rw[hv']at hb;simp[Value.ownBlock]at hb;exact .inr hb.symm
  have hold:∀ j,j<K→∀ g,((V j).ownBlock=some g∨(U j).ownBlock=some g)→g<w.heap.size:=fun j hj g hb=>by
   rcases hb with hb|hb
   ·exact(own_block (h.v j hj) hb).1
   ·exact(own_block (h.u j hj) hb).1
  by_cases hik:i=k
  ·subst hik;have hji:j≠i:=fun e=>hij e.symm
   simp only[if_true]at h1;simp only[if_neg hji]at h2;rcases h1 with h1|h1
   ·exact h.sep i j hi hj hij g (.inl h1) h2
   ·rcases hnew g h1 with h3|h3
    ·exact h.sep i j hi hj hij g (.inr h3) h2
    ·have:=hold j hj g h2;omega
  ·simp only[if_neg hik]at h1
   by_cases hjk:j=k
   ·subst hjk;simp only[if_true]at h2;rcases h2 with h2|h2
    ·exact h.sep i j hi hj hij g h1 (.inl h2)
    ·rcases hnew g h2 with h3|h3
     ·exact h.sep i j hi hj hij g h1 (.inr h3)
     ·have:=hold i hi g h1;omega
   ·simp only[if_neg hjk]at h2;exact h.sep i j hi hj hij g h1 h2
theorem Fam.store (h:Fam e sz base w K V V N N X X) {k g i c:Nat} (hk:k<K) (hv:V k=.slice (some ⟨g,0,none⟩) (N k) c) (x:Value) :
  Fam e sz base (w.setCell ⟨g,i,none⟩ x) K V V N N (fun j=>if j=k then (X k).set i x else X j) (fun j=>if j=k then (X k).set i x else X j):=by
 have key:∀ j,j<K→(w.setCell ⟨g,i,none⟩ x).ownsRow base e sz (V j) (N j) (if j=k then (X k).set i x else X j):=by
  intro j hj
  by_cases hjk:j=k
  ·subst hjk;have:=h.v j hj;rw[hv]at this ⊢
   simpa using own_setF this (k:=i) x
  ·simp only[if_neg hjk];refine own_kept' (h.v j hj) (grownBy_setCellF w g i x) (fun g' e hb=>?_)
   cases e
   exact h.sep k j hk hj (fun e=>hjk e.symm) g (.inl (by rw[hv];rfl)) (.inl hb)
 exact⟨key,key,h.link,h.sep⟩
end
end Go.Proofs.YtdoflhjhaciepaaGreat
namespace Go.Proofs.YtdoflhjhaciepaaGreat
open Go.RowKit Go.Shelf
attribute [local go_sem] Oper.semAt_some
theorem info_Ints:(Tryz.prog.info? 3).map (fun i=>(i.zero,i.size,i.bytes))=some (some (.int .i64 0),1,8):=by kernel_rfl
def rowV (V:Nat→Value) (K:Nat):List Value:=(List.range K).map V
theorem rowV_get {V:Nat→Value} {K k:Nat} (h:k<K):(rowV V K)[k]?=some (V k):=by simp[rowV,h]
def mks (k n:Nat):List Value:=(List.range n).map (fun i:Nat=>.int .i64 (markF k i))
theorem mks_succ (k n:Nat):mks k (n+1)=mks k n++[.int .i64 (markF k n)]:=by simp[mks,List.range_succ]
theorem mks_len (k n:Nat):(mks k n).length=n:=by simp[mks]
theorem mks_get {k n i:Nat} (h:i<n):(mks k n)[i]?=some (.int .i64 (markF k i)):=by simp[mks,h]
theorem mks_take {k n m:Nat} (h:n≤m):(mks k m).take n=mks k n:=by
 apply List.ext_getElem
 ·simp[mks];omega
 ·intro i h1 h2;simp[mks]
theorem own_form {w:World} {base:Nat} {e:TypeId} {s:Nat} {v:Value} {n:Nat} {xs:List Value} (h:w.ownsRow base e s v n xs):∃ p c,v=.slice p n c:=by
 rcases h.2 with ⟨h1,h'⟩|⟨g,cap,cur,h1,_⟩
 ·exact⟨none,0,by rw[h1,h']⟩
 ·exact⟨_,_,h1⟩
theorem own_some {w:World} {base:Nat} {e:TypeId} {s:Nat} {v:Value} {n:Nat} {xs:List Value} (h:w.ownsRow base e s v n xs) (hn:0<n):∃ g c,v=.slice (some ⟨g,0,none⟩) n c∧base≤g∧g<w.heap.size:=by
 rcases h.2 with ⟨h,h'⟩|⟨g,cap,cur,h,hb,h2,_⟩
 ·omega
 ·exact⟨g,cap,h,hb,(Array.getElem?_eq_some_iff.1 h2).1⟩
theorem own_ne {w:World} {base base':Nat} {e e2:TypeId} {s s2:Nat} {v v2:Value} {n n2:Nat} {xs ys:List Value} (h:w.ownsRow base e s v n xs) (h2:w.ownsRow base' e2 s2 v2 n2 ys) (hne:e≠e2) {g:Nat} (hb:v.ownBlock=some g):v2.ownBlock≠some g:=by
 intro hb2;obtain⟨_,_,c1,e1⟩:=own_block h hb;obtain⟨_,_,c2,e2'⟩:=own_block h2 hb2;rw[e1]at e2';cases e2';exact hne rfl
theorem Fam.congr {e:TypeId} {sz base:Nat} {w:World} {K:Nat} {V U U':Nat→Value} {N M M':Nat→Nat} {X Y X' Y':Nat→List Value} (h:Fam e sz base w K V U N M X Y) (h1:∀ j,j<K→U' j=U j) (h2:∀ j,j<K→M' j=M j)
  (h3:∀ j,j<K→X' j=X j) (h4:∀ j,j<K→Y' j=Y j):Fam e sz base w K V U' N M' X' Y' :=
 ⟨fun j hj=>by rw[h3 j hj];exact h.v j hj,fun j hj=>by rw[h1 j hj,h2 j hj,h4 j hj];exact h.u j hj,fun j hj g n c m d a b=>h.link j hj g n c m d a (by rw[← h1 j hj];exact b),
  fun i j hi hj hij g a b=>h.sep i j hi hj hij g (by rw[← h1 i hi];exact a) (by rw[← h1 j hj];exact b)⟩
def Mine (K:Nat) (V:Nat→Value) (b:Nat):Prop:=∃ j,j<K∧(V j).ownBlock=some b
theorem KeepBut.grown' {M:Nat→Prop} {B:Nat} {X W W':World} {row:Option Nat} (h:KeepBut M B X W) (hg:W.grownBy W' row) (hB:B≤W.heap.size) (hr:∀ g,row=some g→M g∨B≤g):KeepBut M B X W' :=
 h.trans ⟨hg.os,hg.tape,hg.output,hg.size,fun k h1 h2=>hg.block k (by omega) (fun e=>by rcases hr k e.symm with h|h;exact h2 h;omega)⟩
structure FSt (base:Nat) (w0:World) (lsv:Value) (K:Nat) (V:Nat→Value) (N:Nat→Nat) (X:Nat→List Value) (w:World):Prop where
 ls:w.ownsRow base 27 1 lsv K (rowV V K)
 fam:Fam 3 1 base w K V V N N X X
 below:KeepBut (Mine K V) w0.heap.size w0 w
 size0:base≤w0.heap.size
theorem FSt.size {base:Nat} {w0:World} {lsv:Value} {K:Nat} {V:Nat→Value} {N:Nat→Nat} {X:Nat→List Value} {w:World} (h:FSt base w0 lsv K V N X w):base≤w.heap.size:=Nat.le_trans h.size0 h.below.size
theorem FSt.up {base:Nat} {w0:World} {lsv:Value} {K:Nat} {V:Nat→Value} {N:Nat→Nat} {X:Nat→List Value} {w w':World} (h:FSt base w0 lsv K V N X w) (hb:Below w.heap.size w w'):FSt base w0 lsv K V N X w' :=
 ⟨own_below h.ls hb,h.fam.below hb,h.below.trans (KeepBut.of_below (hb.mono h.below.size)),h.size0⟩
theorem FSt.store {base:Nat} {w0:World} {lsv:Value} {K:Nat} {V:Nat→Value} {N:Nat→Nat} {X:Nat→List Value} {w:World} (h:FSt base w0 lsv K V N X w) {k g i c:Nat} (hk:k<K) (hv:V k=.slice (some ⟨g,0,none⟩) (N k) c) (x:Value) :
  FSt base w0 lsv K V N (fun j=>if j=k then (X k).set i x else X j) (w.setCell ⟨g,i,none⟩ x):=by
 have hb:(V k).ownBlock=some g:=by rw[hv];rfl
 refine⟨own_kept' h.ls (grownBy_setCellF w g i x) (fun g' e=>by cases e;exact own_ne (h.fam.v k hk) h.ls (by decide) hb),h.fam.store hk hv x,?_,h.size0⟩
 exact h.below.grown' (grownBy_setCellF w g i x) h.below.size (fun g' e=>by cases e;exact .inl ⟨k,hk,hb⟩)
theorem take_set {L:List Value} {i k:Nat} {x:Value} (h:L.take i=mks k i) (hi:i<L.length) (hx:x=.int .i64 (markF k i)):(L.set i x).take (i+1)=mks k (i+1):=by
 subst hx;rw[mks_succ,← h];rw[List.take_succ_eq_append_getElem (by simpa using hi),List.take_set_of_le (Nat.le_refl _)]
 simp
structure GSt (base:Nat) (w0:World) (lsv gsv:Value) (K:Nat) (V U:Nat→Value) (N M:Nat→Nat) (Y:Nat→List Value) (gsl:List Value) (w:World):Prop where
 ls:w.ownsRow base 27 1 lsv K (rowV V K)
 gs:w.ownsRow base 27 1 gsv K gsl
 fam:Fam 3 1 base w K V U N M (fun j=>mks j (N j)) Y
 ne:∀ g,gsv.ownBlock=some g→lsv.ownBlock≠some g
 below:KeepBut (Mine K V) w0.heap.size w0 w
 size0:base≤w0.heap.size
 ub:∀ j,j<K→∀ g,(U j).ownBlock=some g→Mine K V g∨w0.heap.size≤g
 gb:∀ g,gsv.ownBlock=some g→w0.heap.size≤g
section
variable {base:Nat} {w0:World} {lsv gsv:Value} {K:Nat} {V U:Nat→Value} {N M:Nat→Nat} {Y:Nat→List Value} {gsl:List Value} {w w':World}
theorem GSt.up (h:GSt base w0 lsv gsv K V U N M Y gsl w) (hb:Below w.heap.size w w'):GSt base w0 lsv gsv K V U N M Y gsl w' :=
 ⟨own_below h.ls hb,own_below h.gs hb,h.fam.below hb,h.ne,h.below.trans (KeepBut.of_below (hb.mono h.below.size)),h.size0,h.ub,h.gb⟩
theorem GSt.size (h:GSt base w0 lsv gsv K V U N M Y gsl w):base≤w.heap.size:=Nat.le_trans h.size0 h.below.size
theorem GSt.append {k:Nat} {v':Value} {news:List Value} {m:Nat} (h:GSt base w0 lsv gsv K V U N M Y gsl w) (hk:k<K) (ho:w'.ownsRow base 3 1 v' (M k+m) (Y k++news)) (hg:Grow w w' (U k) v') :
  GSt base w0 lsv gsv K V (fun j=>if j=k then v' else U j) N (fun j=>if j=k then M k+m else M j) (fun j=>if j=k then Y k++news else Y j) gsl w':=by
 have hany:=hg.any;refine⟨own_kept' h.ls hany (fun g e=>own_ne (h.fam.u k hk) h.ls (by decide) e),own_kept' h.gs hany (fun g e=>own_ne (h.fam.u k hk) h.gs (by decide) e),h.fam.append hk ho hg,h.ne,h.below.grown' hany h.below.size (fun g e=>h.ub k hk g e),h.size0,fun j hj g hb=>?_,h.gb⟩
 by_cases hjk:j=k
 ·subst hjk;simp only[if_true]at hb;rcases hg with ⟨g0,n0,m0,c0,hu,hv',_,_⟩|⟨⟨m1,c1,hv'⟩,_⟩
  ·exact h.ub j hj g (by rw[hu];rw[hv']at hb;exact hb)
  ·rw[hv']at hb;simp[Value.ownBlock]at hb;exact .inr (by have:=h.below.size;omega)
 ·simp only[if_neg hjk]at hb;exact h.ub j hj g hb
theorem GSt.store {k gg c:Nat} (h:GSt base w0 lsv gsv K V U N M Y gsl w) (hv:gsv=.slice (some ⟨gg,0,none⟩) K c) (x:Value) :
  GSt base w0 lsv gsv K V U N M Y (gsl.set k x) (w.setCell ⟨gg,k,none⟩ x):=by
 have hb:gsv.ownBlock=some gg:=by rw[hv];rfl
 obtain⟨_,hbg,cur,hcur⟩:=own_block h.gs hb;have hgs:=h.gs;rw[hv]at hgs;have hgr:=grownBy_setCellF w gg k x;refine⟨own_kept' h.ls hgr (fun g e=>by cases e;exact h.ne gg hb),by rw[hv];exact own_setF hgs x,h.fam.grown hgr (fun g e=>by cases e;exact h.fam.other hcur (by decide)),h.ne,?_,h.size0,h.ub,h.gb⟩
 exact h.below.grown' hgr h.below.size (fun g e=>by cases e;exact .inr (h.gb gg hb))
theorem GSt.reset (h:GSt base w0 lsv gsv K V U N M Y gsl w):GSt base w0 lsv gsv K V V N N (fun j=>mks j (N j)) gsl w :=
 ⟨h.ls,h.gs,h.fam.reset,h.ne,h.below,h.size0,fun j hj _ hb=>.inl ⟨j,hj,hb⟩,h.gb⟩
end
def Done (U:Nat→Value) (N M:Nat→Nat) (Y:Nat→List Value) (gsl:List Value) (j:Nat):Prop:=gsl[j]?=some (U j)∧M j=N j+64∧(Y j).take (N j)=mks j (N j)
def Full (N:Nat→Nat) (Y:Nat→List Value) (j:Nat):Prop:=Y j=mks j (N j+64)
def Undone (V U:Nat→Value) (N M:Nat→Nat) (Y:Nat→List Value) (j:Nat):Prop:=U j=V j∧M j=N j∧Y j=mks j (N j)
theorem done_upd {U:Nat→Value} {N M:Nat→Nat} {Y:Nat→List Value} {gsl:List Value} {j k:Nat} {v:Value} {m:Nat} {y:List Value} (h:Done U N M Y gsl j∧Full N Y j) (hjk:j≠k) :
  Done (fun j=>if j=k then v else U j) N (fun j=>if j=k then m else M j) (fun j=>if j=k then y else Y j) gsl j∧Full N (fun j=>if j=k then y else Y j) j:=by simpa [Done,Full,hjk] using h
theorem done1_upd {U:Nat→Value} {N M:Nat→Nat} {Y:Nat→List Value} {gsl:List Value} {j k:Nat} {v:Value} {m:Nat} {y:List Value} (h:Done U N M Y gsl j) (hjk:j≠k) :
  Done (fun j=>if j=k then v else U j) N (fun j=>if j=k then m else M j) (fun j=>if j=k then y else Y j) gsl j:=by simpa [Done,hjk] using h
theorem undone_upd {V U:Nat→Value} {N M:Nat→Nat} {Y:Nat→List Value} {j k:Nat} {v:Value} {m:Nat} {y:List Value} (h:Undone V U N M Y j) (hjk:j≠k) :
  Undone V (fun j=>if j=k then v else U j) N (fun j=>if j=k then m else M j) (fun j=>if j=k then y else Y j) j:=by simpa [Undone,hjk] using h
theorem done_set {U:Nat→Value} {N M:Nat→Nat} {Y:Nat→List Value} {gsl:List Value} {j k:Nat} {v:Value} (h:Done U N M Y gsl j) (hjk:j≠k):Done U N M Y (gsl.set k v) j :=
 ⟨by rw[List.getElem?_set_ne (fun e=>hjk e.symm)];exact h.1,h.2⟩
theorem done_at {U:Nat→Value} {N M:Nat→Nat} {Y:Nat→List Value} {gsl:List Value} {k:Nat} (hk:k<gsl.length) (hm:M k=N k+64) (hy:(Y k).take (N k)=mks k (N k)):Done U N M Y (gsl.set k (U k)) k :=
 ⟨by simp[hk],hm,hy⟩
theorem grown_read {base:Nat} {w0 w:World} {lsv gsv:Value} {K:Nat} {V U:Nat→Value} {N M:Nat→Nat} {Y:Nat→List Value} {gsl:List Value} (h:GSt base w0 lsv gsv K V U N M Y gsl w) {k:Nat} (hk:k<K) (hm:M k=N k+64) :
  ∃ gu cu,U k=.slice (some ⟨gu,0,none⟩) (N k+64) cu∧gu<w.heap.size∧∀ i x,i<N k+64→(Y k)[i]?=some x→w.cell? ⟨gu,i,none⟩=some x:=by
 have ho:=h.fam.u k hk;rw[hm]at ho;obtain⟨gu,cu,e,_,h2⟩:=own_some ho (by omega)
 refine⟨gu,cu,e,h2,fun i x hi hx=>?_⟩
 rw[e]at ho;rw[own_cellF ho (by omega),hx]
theorem base_read {base:Nat} {w0 w:World} {lsv gsv:Value} {K:Nat} {V U:Nat→Value} {N M:Nat→Nat} {Y:Nat→List Value} {gsl:List Value} (h:GSt base w0 lsv gsv K V U N M Y gsl w) {k:Nat} (hk:k<K) (hn:0<N k) :
  ∃ gv cv,V k=.slice (some ⟨gv,0,none⟩) (N k) cv∧gv<w.heap.size∧∀ i,i<N k→w.cell? ⟨gv,i,none⟩=some (.int .i64 (markF k i)):=by
 have ho:=h.fam.v k hk;obtain⟨gv,cv,e,_,h2⟩:=own_some ho hn;refine⟨gv,cv,e,h2,fun i hi=>?_⟩
 rw[e]at ho;rw[own_cellF ho (by omega),mks_get hi]
theorem info_ints:(Tryz.prog.info? 27).map (fun i=>(i.zero,i.size,i.bytes))=some (some (.slice none 0 0),1,24):=by kernel_rfl
theorem kit_flatInts (lsv:Value) (K base:Nat) (V:Nat→Value) (N:Nat→Nat) (X:Nat→List Value) (w:World) (hK:K≤1000) (hN:∀ j,j<K→N j≤4194304) (hst:FSt base w lsv K V N X w) :
  Calls Tryz.prog 43 #[lsv] w fun e w'=>e=.returned (.bool true)∧∃ X',FSt base w lsv K V N X' w':=by
 obtain⟨pl,cl,rfl⟩:=own_form hst.ls;have HST:=Lib.hid hst;clear hst;have HN:=Lib.hid hN;clear hN;obtain⟨i0,hi0,hz0,hz1,hz2⟩:=info_parts info_Ints;obtain⟨i3,hi3,hy0,hy1,hy2⟩:=info_parts info_ints
 go_enter Tryz.func43,Tryz.ntmps43
 go_wp2_with fail
 go_loopw [3,4] (fun n _ wr=>∃ k:Nat,k≤K∧n=.int .i64 k∧Hid (∃ X,FSt base w (.slice pl K cl) K V N X wr∧∀ j,j<k→X j=mks j (N j))) (fun n _ _=>K - (intOf n).toNat)
 case atStart=>exact⟨0,by omega,rfl,X,HST.out,fun j h=>by omega⟩
 case round =>
  clear HST;obtain⟨k,hk,rfl,G⟩:=hrel
  by_cases hlt:k<K
  ·obtain⟨wo,rfl⟩:∃ wo:World,wo=wr:=⟨_,rfl⟩;obtain⟨gl,rfl⟩:∃ gl,pl=some ⟨gl,0,none⟩:=by
    obtain⟨X,h,_⟩:=G.out;obtain⟨g,c,e,_⟩:=own_some h.ls (by omega)
    injection e with e1 _ _;exact⟨g,e1⟩
   obtain⟨pk,ck,hV⟩:∃ pk ck,V k=.slice pk (N k) ck:=by obtain⟨X,h,_⟩:=G.out;exact own_form (h.fam.v k hlt)
   have HV:=Lib.hid hV;clear hV;have hNk:=HN.out k hlt;obtain⟨nk,hnk⟩:∃ nk,N k=nk:=⟨_,rfl⟩;rw[hnk]at hNk HV;have HNK:=Lib.hid hnk;clear hnk
   go_wp2_with fail
   go_loopw [4] (fun n wr=>∃ i:Nat,i≤nk∧n=.int .i64 i∧Hid (∃ X,FSt base w (.slice (some ⟨gl,0,none⟩) K cl) K V N X wr∧(∀ j,j<k→X j=mks j (N j))∧(X k).take i=mks k i)) (fun n _=>nk - (intOf n).toNat)
   case atStart=>obtain⟨X,h1,h2⟩:=G.out;exact⟨0,by omega,rfl,X,h1,h2,by simp[mks]⟩
   case round =>
    clear G;obtain⟨i,hi,rfl,G⟩:=hrel;obtain⟨X,G⟩:∃ X,Hid (FSt base w (.slice (some ⟨gl,0,none⟩) K cl) K V N X wr∧(∀ j,j<k→X j=mks j (N j))∧(X k).take i=mks k i):=by obtain⟨X,h⟩:=G.out;exact⟨X,h⟩
    have hls:wr.cell? ⟨gl,k,none⟩=some (.slice pk nk ck):=by
     rw[own_cellF G.out.1.ls (by omega),rowV_get hlt,HV.out]
    have hglt:gl<wr.heap.size:=(own_block G.out.1.ls rfl).1
    go_upto_region 5 with fail
    by_cases hil:i<nk
    ·--
     refine wp_region_seq 7 [fun v _=>v=.int .i64 (i:Int),fun v _=>v=.slice (some ⟨gl,0,none⟩) K cl,fun v _=>v=.int .i64 (k:Int),fun v _=>v=.pointer (some ⟨gl,k,none⟩),fun v _=>v=.slice pk nk ck,fun v _=>v=.int .i64 ((nk:Nat):Int),fun v _=>v=.bool true] (fun _=>false) (by kernel_rfl) (by kernel_rfl) (by repeat (first|exact trivial|refine⟨stable_eq _,?_⟩)) (fun _ _ h=>by cases h) ?ob ?en
     case ob =>
      refine⟨?_,?_,?_,?_,?_,?_,?_,trivial⟩<;>intro A W h
      ·exact rs_move rfl rfl (h.frame 4 rfl)
      ·exact rs_move rfl rfl (h.frame 0 rfl)
      ·exact rs_move rfl rfl (h.frame 3 rfl)
      ·exact rs_idx (sz:=1) Tryz.underlying34 (fun w=>by kernel_rfl) rfl rfl (h.dep 1 23 rfl rfl) (h.dep 2 24 rfl rfl) (by omega) (by omega)
      ·(have e25:A.eval (.tmp 25)=.pointer (some ⟨gl,k,none⟩):=h.dep 3 25 rfl rfl;refine rs_pure rfl ?_;simp only[execOp,e25];(have q:=(h.below.cell (p:=⟨gl,k,none⟩) hglt).trans hls;simp[go_sem,q]))
      ·exact rs_len Tryz.underlying27 rfl rfl (h.dep 4 26 rfl rfl) (by decide)
      ·(have e22:A.eval (.tmp 22)=.int .i64 (i:Int):=h.dep 0 22 rfl rfl;have e27:A.eval (.tmp 27)=.int .i64 ((nk:Nat):Int):=h.dep 5 27 rfl rfl;refine rs_pure rfl ?_;simp only[execOp,e22,e27];(simp[go_sem]<;>omega))
     case en =>
      intro vals W hbw hv _;simp only[fa,Nat.reduceAdd];rw[e_ hv 0,e_ hv 1,e_ hv 2,e_ hv 3,e_ hv 4,e_ hv 5,e_ hv 6];clear hv
      try simp only[pl]
      have G1:=Lib.hid (G.out.1.up hbw);have hls1:=(hbw.cell (p:=⟨gl,k,none⟩) hglt).trans hls;have hgl1:gl<W.heap.size:=(own_block G1.out.ls rfl).1;clear hbw hls hglt;obtain⟨g,hpk,hg1⟩:∃ g,pk=some ⟨g,0,none⟩∧g<W.heap.size:=by
       have hv:=G1.out.fam.v k hlt;obtain⟨g,c,e,_,h2⟩:=own_some hv (by rw[HNK.out];omega)
       rw[HV.out]at e;injection e with e1 _ _;exact⟨g,e1,h2⟩
      subst hpk
      go_upto_region 7 with fail
      refine wp_region_spec 9 [fun v _=>v=.slice (some ⟨gl,0,none⟩) K cl,fun v _=>v=.int .i64 (k:Int),fun v _=>v=.pointer (some ⟨gl,k,none⟩),fun v _=>v=.slice (some ⟨g,0,none⟩) nk ck,fun v _=>v=.int .i64 (i:Int),fun v _=>v=.int .i64 (k:Int),fun v _=>v=.int .i64 (i:Int),fun v _=>v=.int .i64 (markF k i),fun v _=>v=.pointer (some ⟨g,i,none⟩)] (fun _=>false) (by kernel_rfl) (by kernel_rfl) (by kernel_rfl) (by repeat (first|exact trivial|refine⟨stable_eq _,?_⟩)) (fun _ _ h=>by cases h) ?ob ?en
      case ob =>
       refine⟨?_,?_,?_,?_,?_,?_,?_,?_,?_,trivial⟩<;>intro A W h
       ·exact rs_move rfl rfl (h.frame 0 rfl)
       ·exact rs_move rfl rfl (h.frame 3 rfl)
       ·exact rs_idx (sz:=1) Tryz.underlying34 (fun w=>by kernel_rfl) rfl rfl (h.dep 0 31 rfl rfl) (h.dep 1 32 rfl rfl) (by omega) (by omega)
       ·(have e33:A.eval (.tmp 33)=.pointer (some ⟨gl,k,none⟩):=h.dep 2 33 rfl rfl;refine rs_pure rfl ?_;simp only[execOp,e33];(have q:=(h.below.cell (p:=⟨gl,k,none⟩) hgl1).trans hls1;simp[go_sem,q]))
       ·exact rs_move rfl rfl (h.frame 4 rfl)
       ·exact rs_move rfl rfl (h.frame 3 rfl)
       ·exact rs_move rfl rfl (h.frame 4 rfl)
       ·exact rs_calln rfl rfl (enters_of Tryz.func30 (by kernel_rfl) rfl) (args2 ⟨(h.dep 5 36 rfl rfl),(h.dep 6 37 rfl rfl)⟩) ((kit_mark k i W (by omega) (by omega)).mono fun _ _ h=>⟨h.1,h.2 ▸ Below.refl _ _⟩)
       ·exact rs_idx (sz:=1) Tryz.underlying27 (fun w=>by kernel_rfl) rfl rfl (h.dep 3 34 rfl rfl) (h.dep 4 35 rfl rfl) (by omega) (by omega)
      case en =>
       intro vals W2 hbw hv _;simp only[fa,Nat.reduceAdd];rw[e_ hv 0,e_ hv 1,e_ hv 2,e_ hv 3,e_ hv 4,e_ hv 5,e_ hv 6,e_ hv 7,e_ hv 8];clear hv
       try simp only[pl]
       have G2:=Lib.hid (G1.out.up hbw);have hv2:=G2.out.fam.v k hlt;rw[HV.out,HNK.out]at hv2;obtain⟨z,hz⟩:∃ z,W2.cell? ⟨g,i,none⟩=some z:=by have:=own_cellF hv2 (k:=i) (by omega);rw[this];exact⟨_,List.getElem?_eq_getElem (by have:=hv2.1;omega)⟩
       have hf:=own_frozenF hv2 i;have hl2:=hv2.1;have G3:=Lib.hid (G2.out.store hlt (i:=i) (by rw[HV.out,HNK.out]) (.int .i64 (markF k i)))
       have hl3:i<(X k).length:=by omega
       clear hv2 hl2 hbw G1 hls1
       go_wp2_with fail
       go_roundw
       case rel=>exact⟨i+1,by omega,by go_num,_,G3.out,fun j hj=>by rw[if_neg (by omega)];exact G.out.2.1 j hj,by simp only[if_true];exact take_set G.out.2.2 hl3 rfl⟩
       case measure=>simp[intOf];omega
    ·--
     refine wp_region_seq 7 [fun v _=>v=.int .i64 (i:Int),fun v _=>v=.slice (some ⟨gl,0,none⟩) K cl,fun v _=>v=.int .i64 (k:Int),fun v _=>v=.pointer (some ⟨gl,k,none⟩),fun v _=>v=.slice pk nk ck,fun v _=>v=.int .i64 ((nk:Nat):Int),fun v _=>v=.bool false] (fun _=>false) (by kernel_rfl) (by kernel_rfl) (by repeat (first|exact trivial|refine⟨stable_eq _,?_⟩)) (fun _ _ h=>by cases h) ?ob ?en
     case ob =>
      refine⟨?_,?_,?_,?_,?_,?_,?_,trivial⟩<;>intro A W h
      ·exact rs_move rfl rfl (h.frame 4 rfl)
      ·exact rs_move rfl rfl (h.frame 0 rfl)
      ·exact rs_move rfl rfl (h.frame 3 rfl)
      ·exact rs_idx (sz:=1) Tryz.underlying34 (fun w=>by kernel_rfl) rfl rfl (h.dep 1 23 rfl rfl) (h.dep 2 24 rfl rfl) (by omega) (by omega)
      ·(have e25:A.eval (.tmp 25)=.pointer (some ⟨gl,k,none⟩):=h.dep 3 25 rfl rfl;refine rs_pure rfl ?_;simp only[execOp,e25];(have q:=(h.below.cell (p:=⟨gl,k,none⟩) hglt).trans hls;simp[go_sem,q]))
      ·exact rs_len Tryz.underlying27 rfl rfl (h.dep 4 26 rfl rfl) (by decide)
      ·(have e22:A.eval (.tmp 22)=.int .i64 (i:Int):=h.dep 0 22 rfl rfl;have e27:A.eval (.tmp 27)=.int .i64 ((nk:Nat):Int):=h.dep 5 27 rfl rfl;refine rs_pure rfl ?_;simp only[execOp,e22,e27];(simp[go_sem]<;>omega))
     case en =>
      intro vals W hbw hv _;simp only[fa,Nat.reduceAdd];rw[e_ hv 0,e_ hv 1,e_ hv 2,e_ hv 3,e_ hv 4,e_ hv 5,e_ hv 6];clear hv
      try simp only[pl]
      have G1:=Lib.hid (G.out.1.up hbw);have hxk:X k=mks k (N k):=by have h1:=G.out.2.2;have h2:=(G.out.1.fam.v k hlt).1;have h3:i=N k:=(by rw[HNK.out];omega);rw[List.take_of_length_le (by omega)]at h1;rw[h1,h3]
      have HXK:=Lib.hid hxk;clear hxk;clear hbw hls hglt
      go_wp2_with fail
      go_roundw
      case rel=>exact⟨k+1,by omega,by go_num,X,G1.out,fun j hj=>by rcases Nat.lt_or_ge j k with h|h;exact G.out.2.1 j h;rw[show j=k from by omega];exact HXK.out⟩
      case measure=>simp[intOf];omega
  ·obtain rfl:K=k:=by omega
   obtain⟨X,hfs,hX⟩:=G.out;clear G;have hfam:=hfs.fam.congr (X':=fun j=>mks j (N j)) (Y':=fun j=>mks j (N j)) (U':=V) (M':=N) (fun _ _=>rfl) (fun _ _=>rfl) (fun j hj=>(hX j hj).symm) (fun j hj=>(hX j hj).symm)
   have F0:=Lib.hid (And.intro hfs.ls (And.intro hfam (And.intro hfs.below (And.intro hfs.size hfs.size0))));clear hfs hX hfam
   go_wp2_with (at_make;refine wpList_make_full _ rfl _ _ 34 rfl base 27 i3 (.slice none 0 0) 1 Tryz.underlying34 hi3 hy0 hy1 .i64 .i64 _ _ K rfl rfl rfl rfl (by rw[hy2];omega) (by unfold maxLen;omega) F0.out.2.2.2.1 ?_;intro w3 own3 grow3)
   have hgst:GSt base w (.slice pl K cl) (.slice (some ⟨wr.heap.size,0,none⟩) K K) K V V N N (fun j=>mks j (N j)) (madeCells (Value.slice none 0 0).cells (K * 1)).toList w3:=by
    have hb:Below wr.heap.size wr w3:=(Below.refl _ wr).grown grow3 (Nat.le_refl _) (fun k hk=>by cases hk)
    refine⟨own_below F0.out.1 hb,own3,F0.out.2.1.below hb,fun g h1 h2=>?_,F0.out.2.2.1.trans (KeepBut.of_below (hb.mono F0.out.2.2.1.size)),F0.out.2.2.2.2,fun j hj _ h1=>.inl ⟨j,hj,h1⟩,fun g h1=>by simp[Value.ownBlock]at h1;have:=F0.out.2.2.1.size;omega⟩
    have h3:=(own_block F0.out.1 h2).1;simp[Value.ownBlock]at h1;omega
   generalize (madeCells (Value.slice none 0 0).cells (K * 1)).toList=gsl at hgst
   generalize wr.heap.size=gg at hgst ⊢
   have H0:=Lib.hid hgst;clear hgst own3 grow3 F0
   go_wp2_with fail
   go_loopw [6,7,8] (fun n _ _ wr=>∃ k:Nat,k≤K∧n=.int .i64 k∧Hid (∃ U M Y gsl,GSt base w (.slice pl K cl) (.slice (some ⟨gg,0,none⟩) K K) K V U N M Y gsl wr∧(∀ j,j<k→Done U N M Y gsl j∧Full N Y j)∧∀ j,k≤j→j<K→Undone V U N M Y j)) (fun n _ _ _=>K - (intOf n).toNat)
   case atStart=>exact⟨0,by omega,rfl,V,N,_,gsl,H0.out,fun j h=>by omega,fun j _ _=>⟨rfl,rfl,rfl⟩⟩
   case round =>
    clear H0;obtain⟨k,hk,rfl,G⟩:=hrel
    by_cases hlt:k<K
    ·obtain⟨wo,rfl⟩:∃ wo:World,wo=wr:=⟨_,rfl⟩;obtain⟨gl,rfl⟩:∃ gl,pl=some ⟨gl,0,none⟩:=by
      obtain⟨_,_,_,_,h,_⟩:=G.out;obtain⟨g,c,e,_⟩:=own_some h.ls (by omega)
      injection e with e1 _ _;exact⟨g,e1⟩
     obtain⟨pk,ck,hV⟩:∃ pk ck,V k=.slice pk (N k) ck:=by obtain⟨_,_,_,_,h,_⟩:=G.out;exact own_form (h.fam.v k hlt)
     have HV:=Lib.hid hV;clear hV;have hNk:=HN.out k hlt;obtain⟨nk,hnk⟩:∃ nk,N k=nk:=⟨_,rfl⟩;rw[hnk]at hNk HV;have HNK:=Lib.hid hnk;clear hnk;have hls:wo.cell? ⟨gl,k,none⟩=some (.slice pk nk ck):=by
      obtain⟨_,_,_,_,h,_⟩:=G.out;rw[own_cellF h.ls (by omega),rowV_get hlt,HV.out]
     have hglt:gl<wo.heap.size:=by obtain⟨_,_,_,_,h,_⟩:=G.out;exact(own_block h.ls rfl).1
     go_upto_region 12 with fail
     refine wp_region_seq 5 [fun v _=>v=.slice (some ⟨gl,0,none⟩) K cl,fun v _=>v=.int .i64 (k:Int),fun v _=>v=.pointer (some ⟨gl,k,none⟩),fun v _=>v=.slice pk nk ck,fun v _=>v=.slice pk nk ck] (fun _=>false) (by kernel_rfl) (by kernel_rfl) (by repeat (first|exact trivial|refine⟨stable_eq _,?_⟩)) (fun _ _ h=>by cases h) ?ob ?en
     case ob =>
      refine⟨?_,?_,?_,?_,?_,trivial⟩<;>intro A W h
      ·exact rs_move rfl rfl (h.frame 0 rfl)
      ·exact rs_move rfl rfl (h.frame 6 rfl)
      ·exact rs_idx (sz:=1) Tryz.underlying34 (fun w=>by kernel_rfl) rfl rfl (h.dep 0 49 rfl rfl) (h.dep 1 50 rfl rfl) (by omega) (by omega)
      ·(have e51:A.eval (.tmp 51)=.pointer (some ⟨gl,k,none⟩):=h.dep 2 51 rfl rfl;refine rs_pure rfl ?_;simp only[execOp,e51];(have q:=(h.below.cell (p:=⟨gl,k,none⟩) hglt).trans hls;simp[go_sem,q]))
      ·exact rs_assign rfl rfl (h.dep 3 52 rfl rfl)
     case en =>
      intro vals W0 hbw hv _;simp only[fa,Nat.reduceAdd];rw[e_ hv 0,e_ hv 1,e_ hv 2,e_ hv 3,e_ hv 4];clear hv
      try simp only[pl]
      have G0:Hid (∃ U M Y gsl,GSt base w (.slice (some ⟨gl,0,none⟩) K cl) (.slice (some ⟨gg,0,none⟩) K K) K V U N M Y gsl W0∧(∀ j,j<k→Done U N M Y gsl j∧Full N Y j)∧(∀ j,k<j→j<K→Undone V U N M Y j)∧U k=.slice pk nk ck∧M k=nk+0∧Y k=mks k (nk+0)):=by
       obtain⟨U,M,Y,gsl,h1,h2,h3⟩:=G.out;obtain⟨a1,a2,a3⟩:=h3 k (Nat.le_refl _) hlt;exact⟨U,M,Y,gsl,h1.up hbw,h2,fun j hj hjK=>h3 j (by omega) hjK,a1.trans HV.out,a2.trans HNK.out,by rw[a3,HNK.out];rfl⟩
      clear G hbw hls hglt
      go_wp2_with fail
      go_loopw [7,8] (fun u n wr=>∃ i:Nat,i≤64∧n=.int .i64 i∧Hid (∃ U M Y gsl,GSt base w (.slice (some ⟨gl,0,none⟩) K cl) (.slice (some ⟨gg,0,none⟩) K K) K V U N M Y gsl wr∧(∀ j,j<k→Done U N M Y gsl j∧Full N Y j)∧(∀ j,k<j→j<K→Undone V U N M Y j)∧U k=u∧M k=nk+i∧Y k=mks k (nk+i))) (fun _ n _=>64 - (intOf n).toNat)
      case atStart=>exact⟨0,by omega,rfl,G0.out⟩
      case round =>
       clear G0;obtain⟨i,hi,rfl,G⟩:=hrel;obtain⟨U,M,Y,gsl,G⟩:∃ U M Y gsl,Hid (GSt base w (.slice (some ⟨gl,0,none⟩) K cl) (.slice (some ⟨gg,0,none⟩) K K) K V U N M Y gsl wr∧(∀ j,j<k→Done U N M Y gsl j∧Full N Y j)∧(∀ j,k<j→j<K→Undone V U N M Y j)∧U k=u7∧M k=nk+i∧Y k=mks k (nk+i)):=by obtain⟨U,M,Y,gsl,h⟩:=G.out;exact⟨U,M,Y,gsl,h⟩
       have hls:wr.cell? ⟨gl,k,none⟩=some (.slice pk nk ck):=by
        rw[own_cellF G.out.1.ls (by omega),rowV_get hlt,HV.out]
       have hglt:gl<wr.heap.size:=(own_block G.out.1.ls rfl).1
       by_cases hil:i<64
       ·go_upto_region 16 with fail
        refine wp_region_seq 11 [fun v _=>v=u7,fun v _=>v=.int .i64 (k:Int),fun v _=>v=.slice (some ⟨gl,0,none⟩) K cl,fun v _=>v=.int .i64 (k:Int),fun v _=>v=.pointer (some ⟨gl,k,none⟩),fun v _=>v=.slice pk nk ck,fun v _=>v=.int .i64 ((nk:Nat):Int),fun v _=>v=.int .i64 (i:Int),fun v _=>v=.int .i64 ((nk+i:Nat):Int),fun v _=>v=.int .i64 (markF k ((nk+i:Nat):Int)),OneV 3 (.int .i64 (markF k ((nk+i:Nat):Int)))] (fun _=>false) (by kernel_rfl) (by kernel_rfl) (by repeat (first|exact trivial|refine⟨stable_eq _,?_⟩|refine⟨stable_oneV _ _,?_⟩)) (fun _ _ h=>by cases h) ?ob ?en
        case ob =>
         refine⟨?_,?_,?_,?_,?_,?_,?_,?_,?_,?_,?_,trivial⟩<;>intro A W h
         ·exact rs_move rfl rfl (h.frame 7 rfl)
         ·exact rs_move rfl rfl (h.frame 6 rfl)
         ·exact rs_move rfl rfl (h.frame 0 rfl)
         ·exact rs_move rfl rfl (h.frame 6 rfl)
         ·exact rs_idx (sz:=1) Tryz.underlying34 (fun w=>by kernel_rfl) rfl rfl (h.dep 2 59 rfl rfl) (h.dep 3 60 rfl rfl) (by omega) (by omega)
         ·(have e61:A.eval (.tmp 61)=.pointer (some ⟨gl,k,none⟩):=h.dep 4 61 rfl rfl;refine rs_pure rfl ?_;simp only[execOp,e61];(have q:=(h.below.cell (p:=⟨gl,k,none⟩) hglt).trans hls;simp[go_sem,q]))
         ·exact rs_len Tryz.underlying27 rfl rfl (h.dep 5 62 rfl rfl) (by decide)
         ·exact rs_move rfl rfl (h.frame 8 rfl)
         ·(have e63:A.eval (.tmp 63)=.int .i64 ((nk:Nat):Int):=h.dep 6 63 rfl rfl;have e64:A.eval (.tmp 64)=.int .i64 (i:Int):=h.dep 7 64 rfl rfl;refine rs_pure rfl ?_;simp only[execOp,e63,e64];(simp[go_sem]<;>(rw[IntKind.wrap_i64];omega)))
         ·exact rs_calln rfl rfl (enters_of Tryz.func30 (by kernel_rfl) rfl) (args2 ⟨(h.dep 1 58 rfl rfl),(h.dep 8 65 rfl rfl)⟩) ((kit_mark k ((nk+i:Nat):Int) W (by omega) (by omega)).mono fun _ _ h=>⟨h.1,h.2 ▸ Below.refl _ _⟩)
         ·exact rs_build1v rfl rfl (h.dep 9 66 rfl rfl) (fun W=>by simp[go_sem]) (by decide)
        case en =>
         intro vals W hbw hv _;have x10:=hv 10 (by omega);simp only[lookS]at x10
         simp only[fa,Nat.reduceAdd];rw[e_ hv 0,e_ hv 1,e_ hv 2,e_ hv 3,e_ hv 4,e_ hv 5,e_ hv 6,e_ hv 7,e_ hv 8,e_ hv 9];clear hv
         try simp only[pl]
         obtain⟨gb,e10,s10⟩:=x10;rw[e10];have G1:=G.out.1.up hbw;have hou:=G1.fam.u k hlt;rw[G.out.2.2.2.1,G.out.2.2.2.2.1]at hou;refine wpList_append_two W rfl _ _ 27 rfl base 3 i0 _ 1 8 Tryz.underlying27 hi0 hz0 hz1 hz2 rfl (by decide) u7 (nk+i) _ rfl hou ⟨gb,0,none⟩ 1 1 [.int .i64 (markF k ((nk+i:Nat):Int))] rfl rfl (OneV.news s10) (by simp[Value.oneCell']) (by unfold maxLen;omega) (by omega) G1.size (by decide) ?_
         intro v5 w5 own5 grow5;have G2:=Lib.hid (G1.append (v':=v5) (m:=1) (news:=[.int .i64 (markF k ((nk+i:Nat):Int))]) hlt (by rw[G.out.2.2.2.2.1];exact own5) (by rw[G.out.2.2.2.1];exact grow5))
         have HY:Hid (Y k++[.int .i64 (markF k ((nk+i:Nat):Int))]=mks k (nk+(i+1))):=by show _=_;rw[G.out.2.2.2.2.2,← Nat.add_assoc,mks_succ]
         clear G1 hou own5 grow5 s10 hbw hls hglt
         go_wp2_with fail
         go_roundw
         case rel=>exact⟨i+1,by omega,by go_num,_,_,_,gsl,G2.out,fun j hj=>done_upd (G.out.2.1 j hj) (by omega),fun j hj hjK=>undone_upd (G.out.2.2.1 j hj hjK) (by omega),by simp,by simp[G.out.2.2.2.2.1,Nat.add_assoc],by simp only[if_true];exact HY.out⟩
         case measure=>simp[intOf];omega
       ·obtain rfl:i=64:=by omega
        obtain⟨pu,cu,rfl⟩:∃ pu cu,u7=.slice pu (nk+64) cu:=by
         have:=G.out.1.fam.u k hlt;rw[G.out.2.2.2.1,G.out.2.2.2.2.1]at this;exact own_form this
        go_upto_region 17 with fail
        refine wp_region_seq 4 [fun v _=>v=.slice (some ⟨gg,0,none⟩) K K,fun v _=>v=.int .i64 (k:Int),fun v _=>v=.slice pu (nk+64) cu,fun v _=>v=.pointer (some ⟨gg,k,none⟩)] (fun _=>false) (by kernel_rfl) (by kernel_rfl) (by repeat (first|exact trivial|refine⟨stable_eq _,?_⟩)) (fun _ _ h=>by cases h) ?ob ?en
        case ob =>
         refine⟨?_,?_,?_,?_,trivial⟩<;>intro A W h
         ·exact rs_move rfl rfl (h.frame 5 rfl)
         ·exact rs_move rfl rfl (h.frame 6 rfl)
         ·exact rs_move rfl rfl (h.frame 7 rfl)
         ·exact rs_idx (sz:=1) Tryz.underlying34 (fun w=>by kernel_rfl) rfl rfl (h.dep 0 69 rfl rfl) (h.dep 1 70 rfl rfl) (by omega) (by omega)
        case en =>
         intro vals W3 hbw hv _;simp only[fa,Nat.reduceAdd];rw[e_ hv 0,e_ hv 1,e_ hv 2,e_ hv 3];clear hv
         try simp only[pl]
         have G1:=G.out.1.up hbw;have hgl:=G1.gs.1;obtain⟨z,hz⟩:∃ z,W3.cell? ⟨gg,k,none⟩=some z:=⟨_,(own_cellF G1.gs (k:=k) (by omega)).trans (List.getElem?_eq_getElem (by omega))⟩
         have hf:=own_frozenF G1.gs k;have hgl2:k<gsl.length:=by omega
         have G2:=Lib.hid (G1.store (k:=k) (gg:=gg) (c:=K) rfl (.slice pu (nk+64) cu));have GU:=Lib.hid G.out.2.2.2;have GD:=Lib.hid G.out.2.1;have GN:=Lib.hid G.out.2.2.1;clear G1 hgl hbw hls hglt G
         go_wp2_with fail
         go_roundw
         case rel=>exact⟨k+1,by omega,by go_num,U,M,Y,_,G2.out,fun j hj=>if hjk:j=k then by subst hjk;rw[← GU.out.1];exact⟨done_at hgl2 (by rw[GU.out.2.1,HNK.out]) (by rw[GU.out.2.2,HNK.out,mks_take (by omega)]),by unfold Full;rw[GU.out.2.2,HNK.out]⟩ else ⟨done_set (GD.out j (by omega)).1 hjk,(GD.out j (by omega)).2⟩,fun j hj hjK=>GN.out j (by omega) hjK⟩
         case measure=>simp[intOf];omega
    ·obtain rfl:K=k:=by omega
     obtain⟨U,M,Y,gsl,hg,hd,_⟩:=G.out;clear G;obtain⟨wq,rfl⟩:∃ wq:World,wq=wr:=⟨_,rfl⟩;have G:=Lib.hid hg;clear hg;have D:=Lib.hid hd;clear hd
     go_wp2_with fail
     go_loopw [9,10] (fun n _ wr=>∃ k:Nat,k≤K∧n=.int .i64 k∧Hid (Below wq.heap.size wq wr)) (fun n _ _=>K - (intOf n).toNat)
     case atStart=>exact⟨0,by omega,rfl,Below.refl _ _⟩
     case round =>
      obtain⟨k,hk,rfl,B⟩:=hrel
      by_cases hlt:k<K
      ·obtain⟨wo,rfl⟩:∃ wo:World,wo=wr:=⟨_,rfl⟩;obtain⟨gl,rfl⟩:∃ gl,pl=some ⟨gl,0,none⟩:=by
        obtain⟨g,c,e,_⟩:=own_some G.out.ls (by omega)
        injection e with e1 _ _;exact⟨g,e1⟩
       obtain⟨pk,ck,hV⟩:∃ pk ck,V k=.slice pk (N k) ck:=own_form (G.out.fam.v k hlt);obtain⟨gu,cu,hU,hgu,hcu⟩:=grown_read G.out hlt (D.out k hlt).1.2.1;have hbr:=fun h=>base_read G.out hlt h
       have hls:wq.cell? ⟨gl,k,none⟩=some (V k):=by rw[own_cellF G.out.ls (by omega),rowV_get hlt]
       have hgs:wq.cell? ⟨gg,k,none⟩=some (U k):=by rw[own_cellF G.out.gs (by omega)];exact(D.out k hlt).1.1
       have hglq:gl<wq.heap.size:=(own_block G.out.ls rfl).1;have hggq:gg<wq.heap.size:=(own_block G.out.gs rfl).1;have hcu2:∀ i,i<N k+64→wq.cell? ⟨gu,i,none⟩=some (.int .i64 (markF k i)):=fun i hi=>hcu i _ hi (by rw[(D.out k hlt).2];exact mks_get hi)
       have hNk:=HN.out k hlt;rw[hV]at hls hbr;rw[hU]at hgs
       generalize N k=nk at hls hbr hgs hcu2 hNk
       clear hcu hV hU;have HLS:=Lib.hid hls;clear hls;have HGS:=Lib.hid hgs;clear hgs;have HBR:=Lib.hid hbr;clear hbr;have HCU:=Lib.hid hcu2;clear hcu2
       go_wp2_with fail
       go_loopw [10] (fun n wr=>∃ i:Nat,i≤nk+64∧n=.int .i64 i∧Hid (Below wq.heap.size wq wr)) (fun n _=>nk+64 - (intOf n).toNat)
       case atStart=>exact⟨0,by omega,rfl,B.out⟩
       case round =>
        clear B;obtain⟨i,hi,rfl,B⟩:=hrel
        go_upto_region 22 with fail
        by_cases hil:i<nk+64
        ·have cu1:=Lib.hid (HCU.out i hil);refine wp_region_seq 7 [fun v _=>v=.int .i64 (i:Int),fun v _=>v=.slice (some ⟨gg,0,none⟩) K K,fun v _=>v=.int .i64 (k:Int),fun v _=>v=.pointer (some ⟨gg,k,none⟩),fun v _=>v=.slice (some ⟨gu,0,none⟩) (nk+64) cu,fun v _=>v=.int .i64 ((nk+64:Nat):Int),fun v _=>v=.bool true] (fun _=>false) (by kernel_rfl) (by kernel_rfl) (by repeat (first|exact trivial|refine⟨stable_eq _,?_⟩)) (fun _ _ h=>by cases h) ?ob ?en
         case ob =>
          refine⟨?_,?_,?_,?_,?_,?_,?_,trivial⟩<;>intro A W h
          ·exact rs_move rfl rfl (h.frame 10 rfl)
          ·exact rs_move rfl rfl (h.frame 5 rfl)
          ·exact rs_move rfl rfl (h.frame 9 rfl)
          ·exact rs_idx (sz:=1) Tryz.underlying34 (fun w=>by kernel_rfl) rfl rfl (h.dep 1 80 rfl rfl) (h.dep 2 81 rfl rfl) (by omega) (by omega)
          ·(have e82:A.eval (.tmp 82)=.pointer (some ⟨gg,k,none⟩):=h.dep 3 82 rfl rfl;refine rs_pure rfl ?_;simp only[execOp,e82];(have q:=((B.out.trans (h.below.mono B.out.size)).cell (p:=⟨gg,k,none⟩) hggq).trans HGS.out;simp[go_sem,q]))
          ·exact rs_len Tryz.underlying27 rfl rfl (h.dep 4 83 rfl rfl) (by decide)
          ·(have e79:A.eval (.tmp 79)=.int .i64 (i:Int):=h.dep 0 79 rfl rfl;have e84:A.eval (.tmp 84)=.int .i64 ((nk+64:Nat):Int):=h.dep 5 84 rfl rfl;refine rs_pure rfl ?_;simp only[execOp,e79,e84];(simp[go_sem]<;>omega))
         case en =>
          intro vals W1 hbw hv _;simp only[fa,Nat.reduceAdd];rw[e_ hv 0,e_ hv 1,e_ hv 2,e_ hv 3,e_ hv 4,e_ hv 5,e_ hv 6];clear hv
          try simp only[pl]
          have B1:=Lib.hid (B.out.trans (hbw.mono B.out.size));clear hbw B
          go_upto_region 24 with fail
          by_cases hin:i<nk
          ·obtain⟨gv,cv,hV,hgv,hcv⟩:=HBR.out (by omega)
           injection hV with hV1 _ hV2
           subst hV1 hV2;have cv1:=Lib.hid (hcv i hin);clear hcv;refine wp_region_spec 35 [fun v _=>v=.slice (some ⟨gg,0,none⟩) K K,fun v _=>v=.int .i64 (k:Int),fun v _=>v=.pointer (some ⟨gg,k,none⟩),fun v _=>v=.slice (some ⟨gu,0,none⟩) (nk+64) cu,fun v _=>v=.int .i64 (i:Int),fun v _=>v=.pointer (some ⟨gu,i,none⟩),fun v _=>v=.int .i64 (markF k i),fun v _=>v=.int .i64 (k:Int),fun v _=>v=.int .i64 (i:Int),fun v _=>v=.int .i64 (markF k i),fun v _=>v=.bool true,fun v _=>v=.bool false,fun v _=>v=.bool false,fun v _=>v=.int .i64 (i:Int),fun v _=>v=.slice (some ⟨gl,0,none⟩) K cl,fun v _=>v=.int .i64 (k:Int),fun v _=>v=.pointer (some ⟨gl,k,none⟩),fun v _=>v=.slice (some ⟨gv,0,none⟩) nk ck,fun v _=>v=.int .i64 ((nk:Nat):Int),fun v _=>v=.bool true,fun v _=>v=.bool true,fun v _=>v=.slice (some ⟨gl,0,none⟩) K cl,fun v _=>v=.int .i64 (k:Int),fun v _=>v=.pointer (some ⟨gl,k,none⟩),fun v _=>v=.slice (some ⟨gv,0,none⟩) nk ck,fun v _=>v=.int .i64 (i:Int),fun v _=>v=.pointer (some ⟨gv,i,none⟩),fun v _=>v=.int .i64 (markF k i),fun v _=>v=.int .i64 (k:Int),fun v _=>v=.int .i64 (i:Int),fun v _=>v=.int .i64 (markF k i),fun v _=>v=.bool true,fun v _=>v=.bool false,fun v _=>v=.bool false,fun v _=>v=.bool false] (fun _=>false) (by kernel_rfl) (by kernel_rfl) (by kernel_rfl) (by repeat (first|exact trivial|refine⟨stable_eq _,?_⟩)) (fun _ _ h=>by cases h) ?ob ?en
           case ob =>
            refine⟨?_,?_,?_,?_,?_,?_,?_,?_,?_,?_,?_,?_,?_,?_,?_,?_,?_,?_,?_,?_,?_,?_,?_,?_,?_,?_,?_,?_,?_,?_,?_,?_,?_,?_,?_,trivial⟩<;>intro A W h
            ·exact rs_move rfl rfl (h.frame 5 rfl)
            ·exact rs_move rfl rfl (h.frame 9 rfl)
            ·exact rs_idx (sz:=1) Tryz.underlying34 (fun w=>by kernel_rfl) rfl rfl (h.dep 0 88 rfl rfl) (h.dep 1 89 rfl rfl) (by omega) (by omega)
            ·(have e90:A.eval (.tmp 90)=.pointer (some ⟨gg,k,none⟩):=h.dep 2 90 rfl rfl;refine rs_pure rfl ?_;simp only[execOp,e90];(have q:=((B1.out.trans (h.below.mono B1.out.size)).cell (p:=⟨gg,k,none⟩) hggq).trans HGS.out;simp[go_sem,q]))
            ·exact rs_move rfl rfl (h.frame 10 rfl)
            ·exact rs_idx (sz:=1) Tryz.underlying27 (fun w=>by kernel_rfl) rfl rfl (h.dep 3 91 rfl rfl) (h.dep 4 92 rfl rfl) (by omega) (by omega)
            ·(have e93:A.eval (.tmp 93)=.pointer (some ⟨gu,i,none⟩):=h.dep 5 93 rfl rfl;refine rs_pure rfl ?_;simp only[execOp,e93];(have q:=((B1.out.trans (h.below.mono B1.out.size)).cell (p:=⟨gu,i,none⟩) hgu).trans cu1.out;simp[go_sem,q]))
            ·exact rs_move rfl rfl (h.frame 9 rfl)
            ·exact rs_move rfl rfl (h.frame 10 rfl)
            ·exact rs_calln rfl rfl (enters_of Tryz.func30 (by kernel_rfl) rfl) (args2 ⟨(h.dep 7 95 rfl rfl),(h.dep 8 96 rfl rfl)⟩) ((kit_mark k i W (by omega) (by omega)).mono fun _ _ h=>⟨h.1,h.2 ▸ Below.refl _ _⟩)
            ·(have e94:A.eval (.tmp 94)=.int .i64 (markF k i):=h.dep 6 94 rfl rfl;have e97:A.eval (.tmp 97)=.int .i64 (markF k i):=h.dep 9 97 rfl rfl;refine rs_pure rfl ?_;simp only[execOp,e94,e97];simp[go_sem])
            ·(have e98:A.eval (.tmp 98)=.bool true:=h.dep 10 98 rfl rfl;refine rs_pure rfl ?_;simp only[execOp,e98];simp[go_sem])
            ·exact rs_move rfl rfl (h.dep 11 99 rfl rfl)
            ·exact rs_move (wanted_g rfl (yielded_of (d:=100) rfl (h.dep 12 100 rfl rfl))) rfl (h.frame 10 rfl)
            ·exact rs_move (wanted_g rfl (yielded_of (d:=100) rfl (h.dep 12 100 rfl rfl))) rfl (h.frame 0 rfl)
            ·exact rs_move (wanted_g rfl (yielded_of (d:=100) rfl (h.dep 12 100 rfl rfl))) rfl (h.frame 9 rfl)
            ·exact rs_idx (sz:=1) Tryz.underlying34 (fun w=>by kernel_rfl) (wanted_g rfl (yielded_of (d:=100) rfl (h.dep 12 100 rfl rfl))) rfl (h.dep 14 102 rfl rfl) (h.dep 15 103 rfl rfl) (by omega) (by omega)
            ·(have e104:A.eval (.tmp 104)=.pointer (some ⟨gl,k,none⟩):=h.dep 16 104 rfl rfl;refine rs_pure (wanted_g rfl (yielded_of (d:=100) rfl (h.dep 12 100 rfl rfl))) ?_;simp only[execOp,e104];(have q:=((B1.out.trans (h.below.mono B1.out.size)).cell (p:=⟨gl,k,none⟩) hglq).trans HLS.out;simp[go_sem,q]))
            ·exact rs_len Tryz.underlying27 (wanted_g rfl (yielded_of (d:=100) rfl (h.dep 12 100 rfl rfl))) rfl (h.dep 17 105 rfl rfl)
            ·(have e101:A.eval (.tmp 101)=.int .i64 (i:Int):=h.dep 13 101 rfl rfl;have e106:A.eval (.tmp 106)=.int .i64 ((nk:Nat):Int):=h.dep 18 106 rfl rfl;refine rs_pure (wanted_g rfl (yielded_of (d:=100) rfl (h.dep 12 100 rfl rfl))) ?_;simp only[execOp,e101,e106];(simp[go_sem]<;>omega))
            ·exact rs_move (wanted_g rfl (yielded_of (d:=100) rfl (h.dep 12 100 rfl rfl))) rfl (h.dep 19 107 rfl rfl)
            ·exact rs_move (wanted_g rfl (yielded_of (d:=108) rfl (h.dep 20 108 rfl rfl))) rfl (h.frame 0 rfl)
            ·exact rs_move (wanted_g rfl (yielded_of (d:=108) rfl (h.dep 20 108 rfl rfl))) rfl (h.frame 9 rfl)
            ·exact rs_idx (sz:=1) Tryz.underlying34 (fun w=>by kernel_rfl) (wanted_g rfl (yielded_of (d:=108) rfl (h.dep 20 108 rfl rfl))) rfl (h.dep 21 109 rfl rfl) (h.dep 22 110 rfl rfl) (by omega) (by omega)
            ·(have e111:A.eval (.tmp 111)=.pointer (some ⟨gl,k,none⟩):=h.dep 23 111 rfl rfl;refine rs_pure (wanted_g rfl (yielded_of (d:=108) rfl (h.dep 20 108 rfl rfl))) ?_;simp only[execOp,e111];(have q:=((B1.out.trans (h.below.mono B1.out.size)).cell (p:=⟨gl,k,none⟩) hglq).trans HLS.out;simp[go_sem,q]))
            ·exact rs_move (wanted_g rfl (yielded_of (d:=108) rfl (h.dep 20 108 rfl rfl))) rfl (h.frame 10 rfl)
            ·exact rs_idx (sz:=1) Tryz.underlying27 (fun w=>by kernel_rfl) (wanted_g rfl (yielded_of (d:=108) rfl (h.dep 20 108 rfl rfl))) rfl (h.dep 24 112 rfl rfl) (h.dep 25 113 rfl rfl) (by omega) (by omega)
            ·(have e114:A.eval (.tmp 114)=.pointer (some ⟨gv,i,none⟩):=h.dep 26 114 rfl rfl;refine rs_pure (wanted_g rfl (yielded_of (d:=108) rfl (h.dep 20 108 rfl rfl))) ?_;simp only[execOp,e114];(have q:=((B1.out.trans (h.below.mono B1.out.size)).cell (p:=⟨gv,i,none⟩) hgv).trans cv1.out;simp[go_sem,q]))
            ·exact rs_move (wanted_g rfl (yielded_of (d:=108) rfl (h.dep 20 108 rfl rfl))) rfl (h.frame 9 rfl)
            ·exact rs_move (wanted_g rfl (yielded_of (d:=108) rfl (h.dep 20 108 rfl rfl))) rfl (h.frame 10 rfl)
            ·exact rs_calln (wanted_g rfl (yielded_of (d:=108) rfl (h.dep 20 108 rfl rfl))) rfl (enters_of Tryz.func30 (by kernel_rfl) rfl) (args2 ⟨(h.dep 28 116 rfl rfl),(h.dep 29 117 rfl rfl)⟩) ((kit_mark k i W (by omega) (by omega)).mono fun _ _ h=>⟨h.1,h.2 ▸ Below.refl _ _⟩)
            ·(have e115:A.eval (.tmp 115)=.int .i64 (markF k i):=h.dep 27 115 rfl rfl;have e118:A.eval (.tmp 118)=.int .i64 (markF k i):=h.dep 30 118 rfl rfl;refine rs_pure (wanted_g rfl (yielded_of (d:=108) rfl (h.dep 20 108 rfl rfl))) ?_;simp only[execOp,e115,e118];simp[go_sem])
            ·(have e119:A.eval (.tmp 119)=.bool true:=h.dep 31 119 rfl rfl;refine rs_pure (wanted_g rfl (yielded_of (d:=108) rfl (h.dep 20 108 rfl rfl))) ?_;simp only[execOp,e119];simp[go_sem])
            ·exact rs_pick (wanted_g rfl (yielded_of (d:=100) rfl (h.dep 12 100 rfl rfl))) rfl (h.dep 20 108 rfl rfl) (h.dep 32 120 rfl rfl)
            ·exact rs_pick rfl rfl (h.dep 12 100 rfl rfl) (h.dep 33 121 rfl rfl)
           case en =>
            intro vals W2 hbw hv _;simp only[fa,Nat.reduceAdd];rw[e_ hv 0,e_ hv 1,e_ hv 2,e_ hv 3,e_ hv 4,e_ hv 5,e_ hv 6,e_ hv 7,e_ hv 8,e_ hv 9,e_ hv 10,e_ hv 11,e_ hv 12,e_ hv 13,e_ hv 14,e_ hv 15,e_ hv 16,e_ hv 17,e_ hv 18,e_ hv 19,e_ hv 20,e_ hv 21,e_ hv 22,e_ hv 23,e_ hv 24,e_ hv 25,e_ hv 26,e_ hv 27,e_ hv 28,e_ hv 29,e_ hv 30,e_ hv 31,e_ hv 32,e_ hv 33,e_ hv 34];clear hv
            try simp only[pl]
            have B2:=Lib.hid (B1.out.trans (hbw.mono B1.out.size));clear hbw B1
            go_wp2_with fail
            go_roundw
            case rel=>exact⟨i+1,by omega,by go_num,B2.out⟩
            case measure=>simp[intOf];omega
          ·--
           refine wp_region_spec 35 [fun v _=>v=.slice (some ⟨gg,0,none⟩) K K,fun v _=>v=.int .i64 (k:Int),fun v _=>v=.pointer (some ⟨gg,k,none⟩),fun v _=>v=.slice (some ⟨gu,0,none⟩) (nk+64) cu,fun v _=>v=.int .i64 (i:Int),fun v _=>v=.pointer (some ⟨gu,i,none⟩),fun v _=>v=.int .i64 (markF k i),fun v _=>v=.int .i64 (k:Int),fun v _=>v=.int .i64 (i:Int),fun v _=>v=.int .i64 (markF k i),fun v _=>v=.bool true,fun v _=>v=.bool false,fun v _=>v=.bool false,fun v _=>v=.int .i64 (i:Int),fun v _=>v=.slice (some ⟨gl,0,none⟩) K cl,fun v _=>v=.int .i64 (k:Int),fun v _=>v=.pointer (some ⟨gl,k,none⟩),fun v _=>v=.slice pk nk ck,fun v _=>v=.int .i64 ((nk:Nat):Int),fun v _=>v=.bool false,fun v _=>v=.bool false,fun v _=>v=undef,fun v _=>v=undef,fun v _=>v=undef,fun v _=>v=undef,fun v _=>v=undef,fun v _=>v=undef,fun v _=>v=undef,fun v _=>v=undef,fun v _=>v=undef,fun v _=>v=undef,fun v _=>v=undef,fun v _=>v=undef,fun v _=>v=Value.bool false,fun v _=>v=Value.bool false] (fun _=>false) (by kernel_rfl) (by kernel_rfl) (by kernel_rfl) (by repeat (first|exact trivial|refine⟨stable_eq _,?_⟩)) (fun _ _ h=>by cases h) ?ob ?en
           case ob =>
            refine⟨?_,?_,?_,?_,?_,?_,?_,?_,?_,?_,?_,?_,?_,?_,?_,?_,?_,?_,?_,?_,?_,?_,?_,?_,?_,?_,?_,?_,?_,?_,?_,?_,?_,?_,?_,trivial⟩<;>intro A W h
            ·exact rs_move rfl rfl (h.frame 5 rfl)
            ·exact rs_move rfl rfl (h.frame 9 rfl)
            ·exact rs_idx (sz:=1) Tryz.underlying34 (fun w=>by kernel_rfl) rfl rfl (h.dep 0 88 rfl rfl) (h.dep 1 89 rfl rfl) (by omega) (by omega)
            ·(have e90:A.eval (.tmp 90)=.pointer (some ⟨gg,k,none⟩):=h.dep 2 90 rfl rfl;refine rs_pure rfl ?_;simp only[execOp,e90];(have q:=((B1.out.trans (h.below.mono B1.out.size)).cell (p:=⟨gg,k,none⟩) hggq).trans HGS.out;simp[go_sem,q]))
            ·exact rs_move rfl rfl (h.frame 10 rfl)
            ·exact rs_idx (sz:=1) Tryz.underlying27 (fun w=>by kernel_rfl) rfl rfl (h.dep 3 91 rfl rfl) (h.dep 4 92 rfl rfl) (by omega) (by omega)
            ·(have e93:A.eval (.tmp 93)=.pointer (some ⟨gu,i,none⟩):=h.dep 5 93 rfl rfl;refine rs_pure rfl ?_;simp only[execOp,e93];(have q:=((B1.out.trans (h.below.mono B1.out.size)).cell (p:=⟨gu,i,none⟩) hgu).trans cu1.out;simp[go_sem,q]))
            ·exact rs_move rfl rfl (h.frame 9 rfl)
            ·exact rs_move rfl rfl (h.frame 10 rfl)
            ·exact rs_calln rfl rfl (enters_of Tryz.func30 (by kernel_rfl) rfl) (args2 ⟨(h.dep 7 95 rfl rfl),(h.dep 8 96 rfl rfl)⟩) ((kit_mark k i W (by omega) (by omega)).mono fun _ _ h=>⟨h.1,h.2 ▸ Below.refl _ _⟩)
            ·(have e94:A.eval (.tmp 94)=.int .i64 (markF k i):=h.dep 6 94 rfl rfl;have e97:A.eval (.tmp 97)=.int .i64 (markF k i):=h.dep 9 97 rfl rfl;refine rs_pure rfl ?_;simp only[execOp,e94,e97];simp[go_sem])
            ·(have e98:A.eval (.tmp 98)=.bool true:=h.dep 10 98 rfl rfl;refine rs_pure rfl ?_;simp only[execOp,e98];simp[go_sem])
            ·exact rs_move rfl rfl (h.dep 11 99 rfl rfl)
            ·exact rs_move (wanted_g rfl (yielded_of (d:=100) rfl (h.dep 12 100 rfl rfl))) rfl (h.frame 10 rfl)
            ·exact rs_move (wanted_g rfl (yielded_of (d:=100) rfl (h.dep 12 100 rfl rfl))) rfl (h.frame 0 rfl)
            ·exact rs_move (wanted_g rfl (yielded_of (d:=100) rfl (h.dep 12 100 rfl rfl))) rfl (h.frame 9 rfl)
            ·exact rs_idx (sz:=1) Tryz.underlying34 (fun w=>by kernel_rfl) (wanted_g rfl (yielded_of (d:=100) rfl (h.dep 12 100 rfl rfl))) rfl (h.dep 14 102 rfl rfl) (h.dep 15 103 rfl rfl) (by omega) (by omega)
            ·(have e104:A.eval (.tmp 104)=.pointer (some ⟨gl,k,none⟩):=h.dep 16 104 rfl rfl;refine rs_pure (wanted_g rfl (yielded_of (d:=100) rfl (h.dep 12 100 rfl rfl))) ?_;simp only[execOp,e104];(have q:=((B1.out.trans (h.below.mono B1.out.size)).cell (p:=⟨gl,k,none⟩) hglq).trans HLS.out;simp[go_sem,q]))
            ·exact rs_len Tryz.underlying27 (wanted_g rfl (yielded_of (d:=100) rfl (h.dep 12 100 rfl rfl))) rfl (h.dep 17 105 rfl rfl)
            ·(have e101:A.eval (.tmp 101)=.int .i64 (i:Int):=h.dep 13 101 rfl rfl;have e106:A.eval (.tmp 106)=.int .i64 ((nk:Nat):Int):=h.dep 18 106 rfl rfl;refine rs_pure (wanted_g rfl (yielded_of (d:=100) rfl (h.dep 12 100 rfl rfl))) ?_;simp only[execOp,e101,e106];(simp[go_sem]<;>omega))
            ·exact rs_move (wanted_g rfl (yielded_of (d:=100) rfl (h.dep 12 100 rfl rfl))) rfl (h.dep 19 107 rfl rfl)
            ·exact rsk (h.dep 20 108 rfl rfl)
            ·exact rsk (h.dep 20 108 rfl rfl)
            ·exact rsk (h.dep 20 108 rfl rfl)
            ·exact rsk (h.dep 20 108 rfl rfl)
            ·exact rsk (h.dep 20 108 rfl rfl)
            ·exact rsk (h.dep 20 108 rfl rfl)
            ·exact rsk (h.dep 20 108 rfl rfl)
            ·exact rsk (h.dep 20 108 rfl rfl)
            ·exact rsk (h.dep 20 108 rfl rfl)
            ·exact rsk (h.dep 20 108 rfl rfl)
            ·exact rsk (h.dep 20 108 rfl rfl)
            ·exact rsk (h.dep 20 108 rfl rfl)
            ·exact rs_pick (wanted_g rfl (yielded_of (d:=100) rfl (h.dep 12 100 rfl rfl))) rfl (h.dep 20 108 rfl rfl) (rfl)
            ·exact rs_pick rfl rfl (h.dep 12 100 rfl rfl) (h.dep 33 121 rfl rfl)
           case en =>
            intro vals W2 hbw hv _;simp only[fa,Nat.reduceAdd];rw[e_ hv 0,e_ hv 1,e_ hv 2,e_ hv 3,e_ hv 4,e_ hv 5,e_ hv 6,e_ hv 7,e_ hv 8,e_ hv 9,e_ hv 10,e_ hv 11,e_ hv 12,e_ hv 13,e_ hv 14,e_ hv 15,e_ hv 16,e_ hv 17,e_ hv 18,e_ hv 19,e_ hv 20,e_ hv 21,e_ hv 22,e_ hv 23,e_ hv 24,e_ hv 25,e_ hv 26,e_ hv 27,e_ hv 28,e_ hv 29,e_ hv 30,e_ hv 31,e_ hv 32,e_ hv 33,e_ hv 34];clear hv
            try simp only[pl]
            have B2:=Lib.hid (B1.out.trans (hbw.mono B1.out.size));clear hbw B1
            go_wp2_with fail
            go_roundw
            case rel=>exact⟨i+1,by omega,by go_num,B2.out⟩
            case measure=>simp[intOf];omega
        ·obtain rfl:i=nk+64:=by omega
         refine wp_region_seq 7 [fun v _=>v=.int .i64 ((nk+64:Nat):Int),fun v _=>v=.slice (some ⟨gg,0,none⟩) K K,fun v _=>v=.int .i64 (k:Int),fun v _=>v=.pointer (some ⟨gg,k,none⟩),fun v _=>v=.slice (some ⟨gu,0,none⟩) (nk+64) cu,fun v _=>v=.int .i64 ((nk+64:Nat):Int),fun v _=>v=.bool false] (fun _=>false) (by kernel_rfl) (by kernel_rfl) (by repeat (first|exact trivial|refine⟨stable_eq _,?_⟩)) (fun _ _ h=>by cases h) ?ob ?en
         case ob =>
          refine⟨?_,?_,?_,?_,?_,?_,?_,trivial⟩<;>intro A W h
          ·exact rs_move rfl rfl (h.frame 10 rfl)
          ·exact rs_move rfl rfl (h.frame 5 rfl)
          ·exact rs_move rfl rfl (h.frame 9 rfl)
          ·exact rs_idx (sz:=1) Tryz.underlying34 (fun w=>by kernel_rfl) rfl rfl (h.dep 1 80 rfl rfl) (h.dep 2 81 rfl rfl) (by omega) (by omega)
          ·(have e82:A.eval (.tmp 82)=.pointer (some ⟨gg,k,none⟩):=h.dep 3 82 rfl rfl;refine rs_pure rfl ?_;simp only[execOp,e82];(have q:=((B.out.trans (h.below.mono B.out.size)).cell (p:=⟨gg,k,none⟩) hggq).trans HGS.out;simp[go_sem,q]))
          ·exact rs_len Tryz.underlying27 rfl rfl (h.dep 4 83 rfl rfl) (by decide)
          ·(have e79:A.eval (.tmp 79)=.int .i64 ((nk+64:Nat):Int):=h.dep 0 79 rfl rfl;have e84:A.eval (.tmp 84)=.int .i64 ((nk+64:Nat):Int):=h.dep 5 84 rfl rfl;refine rs_pure rfl ?_;simp only[execOp,e79,e84];(simp[go_sem]<;>omega))
         case en =>
          intro vals W1 hbw hv _;simp only[fa,Nat.reduceAdd];rw[e_ hv 0,e_ hv 1,e_ hv 2,e_ hv 3,e_ hv 4,e_ hv 5,e_ hv 6];clear hv
          try simp only[pl]
          have B1:=Lib.hid (B.out.trans (hbw.mono B.out.size));clear hbw B
          go_wp2_with fail
          go_roundw
          case rel=>exact⟨k+1,by omega,by go_num,B1.out⟩
          case measure=>simp[intOf];omega
      ·obtain rfl:K=k:=by omega
       have G1:=Lib.hid ((G.out.up B.out).reset);clear G D B
       go_wp2_with fail
       go_loopw [11,12,13] (fun n _ _ wr=>∃ k:Nat,k≤K∧n=.int .i64 k∧Hid (∃ U M Y gsl,GSt base w (.slice pl K cl) (.slice (some ⟨gg,0,none⟩) K K) K V U N M Y gsl wr∧(∀ j,j<k→Done U N M Y gsl j)∧∀ j,k≤j→j<K→Undone V U N M Y j)) (fun n _ _ _=>K - (intOf n).toNat)
       case atStart=>exact⟨0,by omega,rfl,V,N,_,gsl,G1.out,fun j h=>by omega,fun j _ _=>⟨rfl,rfl,rfl⟩⟩
       case round =>
        clear G1;obtain⟨k,hk,rfl,G⟩:=hrel
        by_cases hlt:k<K
        ·obtain⟨wo,rfl⟩:∃ wo:World,wo=wr:=⟨_,rfl⟩;obtain⟨U,M,Y,gsl,G⟩:∃ U M Y gsl,Hid (GSt base w (.slice pl K cl) (.slice (some ⟨gg,0,none⟩) K K) K V U N M Y gsl wo∧(∀ j,j<k→Done U N M Y gsl j)∧∀ j,k≤j→j<K→Undone V U N M Y j):=by obtain⟨U,M,Y,gsl,h⟩:=G.out;exact⟨U,M,Y,gsl,h⟩
         obtain⟨gl,rfl⟩:∃ gl,pl=some ⟨gl,0,none⟩:=by
          obtain⟨g,c,e,_⟩:=own_some G.out.1.ls (by omega)
          injection e with e1 _ _;exact⟨g,e1⟩
         obtain⟨pk,ck,hV⟩:∃ pk ck,V k=.slice pk (N k) ck:=own_form (G.out.1.fam.v k hlt);have HV:=Lib.hid hV;clear hV;have hNk:=HN.out k hlt;obtain⟨nk,hnk⟩:∃ nk,N k=nk:=⟨_,rfl⟩;rw[hnk]at hNk HV;have HNK:=Lib.hid hnk;clear hnk
         go_wp2_with (at_make;refine wpList_make_full _ rfl _ _ 27 rfl wo.heap.size 3 i0 (.int .i64 0) 1 Tryz.underlying27 hi0 hz0 hz1 .i64 .i64 _ _ 64 rfl rfl rfl rfl (by rw[hz2];omega) (by unfold maxLen;omega) (Nat.le_refl _) ?_;intro wm ownm growm)
         have bm:Below wo.heap.size wo wm:=(Below.refl _ wo).grown growm (Nat.le_refl _) (fun k hk=>by cases hk)
         have hL0:∀ u ∈ (madeCells (Value.int .i64 0).cells (64 * 1)).toList,∃ z,u=.int .i64 z:=by intro u hu;simp[madeCells,Value.cells]at hu;obtain⟨a,_,rfl⟩:=hu;exact⟨0,by simp[Nat.mod_one]⟩
         generalize (madeCells (Value.int .i64 0).cells (64 * 1)).toList=L0 at ownm hL0
         have M0:=Lib.hid (And.intro ownm (And.intro hL0 bm));clear ownm hL0 bm growm
         go_wp2_with fail
         go_loopw [13] (fun n wr=>∃ i:Nat,i≤64∧n=.int .i64 i∧Hid (∃ L,wr.ownsRow wo.heap.size 3 1 (.slice (some ⟨wo.heap.size,0,none⟩) 64 64) 64 L∧(∀ u ∈ L,∃ z,u=.int .i64 z)∧Below wo.heap.size wo wr)) (fun n _=>64 - (intOf n).toNat)
         case atStart=>exact⟨0,by omega,rfl,L0,M0.out⟩
         case round =>
          clear M0;obtain⟨i,hi,rfl,B⟩:=hrel;obtain⟨L,B⟩:∃ L,Hid (wr.ownsRow wo.heap.size 3 1 (.slice (some ⟨wo.heap.size,0,none⟩) 64 64) 64 L∧(∀ u ∈ L,∃ z,u=.int .i64 z)∧Below wo.heap.size wo wr):=by obtain⟨L,h⟩:=B.out;exact⟨L,h⟩
          by_cases hil:i<64
          ·go_upto_region 33 with fail
           refine wp_region_seq 9 [fun v _=>v=.slice (some ⟨wo.heap.size,0,none⟩) 64 64,fun v _=>v=.int .i64 (i:Int),fun v _=>v=.int .i64 (k:Int),fun v _=>v=.slice (some ⟨gl,0,none⟩) K cl,fun v _=>v=.int .i64 ((K:Nat):Int),fun v _=>v=.int .i64 ((k+K:Nat):Int),fun v _=>v=.int .i64 (i:Int),fun v _=>v=.int .i64 (markF ((k+K:Nat):Int) i),fun v _=>v=.pointer (some ⟨wo.heap.size,i,none⟩)] (fun _=>false) (by kernel_rfl) (by kernel_rfl) (by repeat (first|exact trivial|refine⟨stable_eq _,?_⟩)) (fun _ _ h=>by cases h) ?ob ?en
           case ob =>
            refine⟨?_,?_,?_,?_,?_,?_,?_,?_,?_,trivial⟩<;>intro A W h
            ·exact rs_move rfl rfl (h.frame 12 rfl)
            ·exact rs_move rfl rfl (h.frame 13 rfl)
            ·exact rs_move rfl rfl (h.frame 11 rfl)
            ·exact rs_move rfl rfl (h.frame 0 rfl)
            ·exact rs_len Tryz.underlying34 rfl rfl (h.dep 3 137 rfl rfl)
            ·(have e136:A.eval (.tmp 136)=.int .i64 (k:Int):=h.dep 2 136 rfl rfl;have e138:A.eval (.tmp 138)=.int .i64 ((K:Nat):Int):=h.dep 4 138 rfl rfl;refine rs_pure rfl ?_;simp only[execOp,e136,e138];(simp[go_sem]<;>(rw[IntKind.wrap_i64];omega)))
            ·exact rs_move rfl rfl (h.frame 13 rfl)
            ·exact rs_calln rfl rfl (enters_of Tryz.func30 (by kernel_rfl) rfl) (args2 ⟨(h.dep 5 139 rfl rfl),(h.dep 6 140 rfl rfl)⟩) ((kit_mark _ i W (by omega) (by omega)).mono fun _ _ h=>⟨h.1,h.2 ▸ Below.refl _ _⟩)
            ·exact rs_idx (sz:=1) Tryz.underlying27 (fun w=>by kernel_rfl) rfl rfl (h.dep 0 134 rfl rfl) (h.dep 1 135 rfl rfl) (by omega) (by omega)
           case en =>
            intro vals W1 hbw hv _;simp only[fa,Nat.reduceAdd];rw[e_ hv 0,e_ hv 1,e_ hv 2,e_ hv 3,e_ hv 4,e_ hv 5,e_ hv 6,e_ hv 7,e_ hv 8];clear hv
            try simp only[pl]
            have o1:=own_below B.out.1 hbw;have b1:=B.out.2.2.trans (hbw.mono B.out.2.2.size);have hl:=o1.1;obtain⟨z,hz⟩:∃ z,W1.cell? ⟨wo.heap.size,i,none⟩=some z:=⟨_,(own_cellF o1 (k:=i) (by omega)).trans (List.getElem?_eq_getElem (by omega))⟩
            have hf:=own_frozenF o1 i;have O2:=Lib.hid (own_setF o1 (k:=i) (.int .i64 (markF ((k+K:Nat):Int) i)));have B2:=Lib.hid (b1.setCell (p:=⟨wo.heap.size,i,none⟩) (Nat.le_refl _) (.int .i64 (markF ((k+K:Nat):Int) i)));clear o1 b1 hl hbw
            go_wp2_with fail
            go_roundw
            case rel=>exact⟨i+1,by omega,by go_num,_,O2.out,fun u hu=>by rcases List.mem_or_eq_of_mem_set hu with h|h;exact B.out.2.1 u h;exact⟨_,h⟩,B2.out⟩
            case measure=>simp[intOf];omega
          ·have G1:=Lib.hid (G.out.1.up B.out.2.2);have hls:wr.cell? ⟨gl,k,none⟩=some (.slice pk nk ck):=by rw[own_cellF G1.out.ls (by omega),rowV_get hlt,HV.out]
           have hglt:gl<wr.heap.size:=(own_block G1.out.ls rfl).1
           go_upto_region 34 with fail
           refine wp_region_seq 7 [fun v _=>v=.slice (some ⟨gg,0,none⟩) K K,fun v _=>v=.int .i64 (k:Int),fun v _=>v=.slice (some ⟨gl,0,none⟩) K cl,fun v _=>v=.int .i64 (k:Int),fun v _=>v=.pointer (some ⟨gl,k,none⟩),fun v _=>v=.slice pk nk ck,fun v _=>v=.slice (some ⟨wo.heap.size,0,none⟩) 64 64] (fun _=>false) (by kernel_rfl) (by kernel_rfl) (by repeat (first|exact trivial|refine⟨stable_eq _,?_⟩)) (fun _ _ h=>by cases h) ?ob ?en
           case ob =>
            refine⟨?_,?_,?_,?_,?_,?_,?_,trivial⟩<;>intro A W h
            ·exact rs_move rfl rfl (h.frame 5 rfl)
            ·exact rs_move rfl rfl (h.frame 11 rfl)
            ·exact rs_move rfl rfl (h.frame 0 rfl)
            ·exact rs_move rfl rfl (h.frame 11 rfl)
            ·exact rs_idx (sz:=1) Tryz.underlying34 (fun w=>by kernel_rfl) rfl rfl (h.dep 2 145 rfl rfl) (h.dep 3 146 rfl rfl) (by omega) (by omega)
            ·(have e147:A.eval (.tmp 147)=.pointer (some ⟨gl,k,none⟩):=h.dep 4 147 rfl rfl;refine rs_pure rfl ?_;simp only[execOp,e147];(have q:=(h.below.cell (p:=⟨gl,k,none⟩) hglt).trans hls;simp[go_sem,q]))
            ·exact rs_move rfl rfl (h.frame 12 rfl)
           case en =>
            intro vals W1 hbw hv _;simp only[fa,Nat.reduceAdd];rw[e_ hv 0,e_ hv 1,e_ hv 2,e_ hv 3,e_ hv 4,e_ hv 5,e_ hv 6];clear hv
            try simp only[pl]
            have G2:=G1.out.up hbw;have o2:=own_below B.out.1 hbw;obtain⟨un1,un2,un3⟩:=G.out.2.2 k (Nat.le_refl _) hlt;have hou:=G2.fam.u k hlt;rw[un1,un2,un3,HV.out,HNK.out]at hou;refine wpList_append_two W1 rfl _ _ 27 rfl base 3 i0 _ 1 8 Tryz.underlying27 hi0 hz0 hz1 hz2 rfl (by decide) (.slice pk nk ck) nk _ rfl hou ⟨wo.heap.size,0,none⟩ 64 64 L rfl o2.1 (o2.cells (g:=wo.heap.size) rfl) (fun u hu=>by obtain⟨z,rfl⟩:=B.out.2.1 u hu;rfl) (by unfold maxLen;omega) (by omega) G2.size (by decide) ?_
            intro v5 w5 own5 grow5;have G3:=G2.append (v':=v5) (m:=64) (news:=L) hlt (by rw[un2,un3,HNK.out];exact own5) (by rw[un1,HV.out];exact grow5)
            obtain⟨p5,c5,rfl⟩:=own_form own5;have hgl:=G3.gs.1;obtain⟨z,hz⟩:∃ z,w5.cell? ⟨gg,k,none⟩=some z:=⟨_,(own_cellF G3.gs (k:=k) (by omega)).trans (List.getElem?_eq_getElem (by omega))⟩
            have hf:=own_frozenF G3.gs k;have hgl2:k<gsl.length:=by omega
            have G4:=Lib.hid (G3.store (k:=k) (gg:=gg) (c:=K) rfl (.slice p5 (nk+64) c5));have HD:Hid (∀ j,j<k+1→Done (fun j=>if j=k then .slice p5 (nk+64) c5 else U j) N (fun j=>if j=k then M k+64 else M j) (fun j=>if j=k then Y k++L else Y j) (gsl.set k (.slice p5 (nk+64) c5)) j):=fun j hj=>if hjk:j=k then by subst hjk;exact⟨by simp[hgl2],by simp[un2],by simp only[if_true];rw[un3,List.take_append_of_le_length (by rw[mks_len];omega),mks_take (by omega)]⟩ else done_set (done1_upd (G.out.2.1 j (by omega)) hjk) hjk
            have HU:Hid (∀ j,k+1≤j→j<K→Undone V (fun j=>if j=k then .slice p5 (nk+64) c5 else U j) N (fun j=>if j=k then M k+64 else M j) (fun j=>if j=k then Y k++L else Y j) j):=fun j hj hjK=>undone_upd (G.out.2.2 j (by omega) hjK) (by omega)
            clear G2 o2 hou un1 un2 un3 own5 grow5 G3 hgl hbw hls hglt G1
            go_wp2_with fail
            go_roundw
            case rel=>exact⟨k+1,by omega,by go_num,_,_,_,_,G4.out,HD.out,HU.out⟩
            case measure=>simp[intOf];omega
        ·obtain rfl:K=k:=by omega
         obtain⟨U,M,Y,gsl,hg,hd,_⟩:=G.out;clear G;obtain⟨wq,rfl⟩:∃ wq:World,wq=wr:=⟨_,rfl⟩;have G:=Lib.hid hg;clear hg;have D:=Lib.hid hd;clear hd
         go_wp2_with fail
         go_loopw [14,15] (fun n _ wr=>∃ k:Nat,k≤K∧n=.int .i64 k∧Hid (Below wq.heap.size wq wr)) (fun n _ _=>K - (intOf n).toNat)
         case atStart=>exact⟨0,by omega,rfl,Below.refl _ _⟩
         case round =>
          obtain⟨k,hk,rfl,B⟩:=hrel
          by_cases hlt:k<K
          ·obtain⟨wo,rfl⟩:∃ wo:World,wo=wr:=⟨_,rfl⟩;obtain⟨gl,rfl⟩:∃ gl,pl=some ⟨gl,0,none⟩:=by
            obtain⟨g,c,e,_⟩:=own_some G.out.ls (by omega)
            injection e with e1 _ _;exact⟨g,e1⟩
           obtain⟨pk,ck,hV⟩:∃ pk ck,V k=.slice pk (N k) ck:=own_form (G.out.fam.v k hlt);obtain⟨gu,cu,hU,hgu,hcu⟩:=grown_read G.out hlt (D.out k hlt).2.1;have hbr:=fun h=>base_read G.out hlt h
           have hls:wq.cell? ⟨gl,k,none⟩=some (V k):=by rw[own_cellF G.out.ls (by omega),rowV_get hlt]
           have hgs:wq.cell? ⟨gg,k,none⟩=some (U k):=by rw[own_cellF G.out.gs (by omega)];exact(D.out k hlt).1
           have hglq:gl<wq.heap.size:=(own_block G.out.ls rfl).1;have hggq:gg<wq.heap.size:=(own_block G.out.gs rfl).1
           have hcu2:∀ i,i<N k→wq.cell? ⟨gu,i,none⟩=some (.int .i64 (markF k i)):=fun i hi=>hcu i _ (by omega) (by
            have h1:=(D.out k hlt).2.2;have h2:=mks_get (k:=k) hi;rw[← h1,List.getElem?_take_of_lt hi]at h2
            exact h2)
           have hNk:=HN.out k hlt;rw[hV]at hls hbr;rw[hU]at hgs
           generalize N k=nk at hls hbr hgs hcu2 hNk
           clear hcu hV hU;have HLS:=Lib.hid hls;clear hls;have HGS:=Lib.hid hgs;clear hgs;have HBR:=Lib.hid hbr;clear hbr;have HCU:=Lib.hid hcu2;clear hcu2
           go_wp2_with fail
           go_loopw [15] (fun n wr=>∃ i:Nat,i≤nk∧n=.int .i64 i∧Hid (Below wq.heap.size wq wr)) (fun n _=>nk - (intOf n).toNat)
           case atStart=>exact⟨0,by omega,rfl,B.out⟩
           case round =>
            clear B;obtain⟨i,hi,rfl,B⟩:=hrel
            go_upto_region 39 with fail
            by_cases hil:i<nk
            ·have cu1:=Lib.hid (HCU.out i hil);obtain⟨gv,cv,hV,hgv,hcv⟩:=HBR.out (by omega)
             injection hV with hV1 _ hV2
             subst hV1 hV2;have cv1:=Lib.hid (hcv i hil);clear hcv;refine wp_region_seq 7 [fun v _=>v=.int .i64 (i:Int),fun v _=>v=.slice (some ⟨gl,0,none⟩) K cl,fun v _=>v=.int .i64 (k:Int),fun v _=>v=.pointer (some ⟨gl,k,none⟩),fun v _=>v=.slice (some ⟨gv,0,none⟩) nk ck,fun v _=>v=.int .i64 ((nk:Nat):Int),fun v _=>v=.bool true] (fun _=>false) (by kernel_rfl) (by kernel_rfl) (by repeat (first|exact trivial|refine⟨stable_eq _,?_⟩)) (fun _ _ h=>by cases h) ?ob ?en
             case ob =>
              refine⟨?_,?_,?_,?_,?_,?_,?_,trivial⟩<;>intro A W h
              ·exact rs_move rfl rfl (h.frame 15 rfl)
              ·exact rs_move rfl rfl (h.frame 0 rfl)
              ·exact rs_move rfl rfl (h.frame 14 rfl)
              ·exact rs_idx (sz:=1) Tryz.underlying34 (fun w=>by kernel_rfl) rfl rfl (h.dep 1 159 rfl rfl) (h.dep 2 160 rfl rfl) (by omega) (by omega)
              ·(have e161:A.eval (.tmp 161)=.pointer (some ⟨gl,k,none⟩):=h.dep 3 161 rfl rfl;refine rs_pure rfl ?_;simp only[execOp,e161];(have q:=((B.out.trans (h.below.mono B.out.size)).cell (p:=⟨gl,k,none⟩) hglq).trans HLS.out;simp[go_sem,q]))
              ·exact rs_len Tryz.underlying27 rfl rfl (h.dep 4 162 rfl rfl) (by decide)
              ·(have e158:A.eval (.tmp 158)=.int .i64 (i:Int):=h.dep 0 158 rfl rfl;have e163:A.eval (.tmp 163)=.int .i64 ((nk:Nat):Int):=h.dep 5 163 rfl rfl;refine rs_pure rfl ?_;simp only[execOp,e158,e163];(simp[go_sem]<;>omega))
             case en =>
              intro vals W1 hbw hv _;simp only[fa,Nat.reduceAdd];rw[e_ hv 0,e_ hv 1,e_ hv 2,e_ hv 3,e_ hv 4,e_ hv 5,e_ hv 6];clear hv
              try simp only[pl]
              have B1:=Lib.hid (B.out.trans (hbw.mono B.out.size));clear hbw B
              go_upto_region 41 with fail
              refine wp_region_spec 26 [fun v _=>v=.slice (some ⟨gl,0,none⟩) K cl,fun v _=>v=.int .i64 (k:Int),fun v _=>v=.pointer (some ⟨gl,k,none⟩),fun v _=>v=.slice (some ⟨gv,0,none⟩) nk ck,fun v _=>v=.int .i64 (i:Int),fun v _=>v=.pointer (some ⟨gv,i,none⟩),fun v _=>v=.int .i64 (markF k i),fun v _=>v=.int .i64 (k:Int),fun v _=>v=.int .i64 (i:Int),fun v _=>v=.int .i64 (markF k i),fun v _=>v=.bool true,fun v _=>v=.bool false,fun v _=>v=.bool false,fun v _=>v=.slice (some ⟨gg,0,none⟩) K K,fun v _=>v=.int .i64 (k:Int),fun v _=>v=.pointer (some ⟨gg,k,none⟩),fun v _=>v=.slice (some ⟨gu,0,none⟩) (nk+64) cu,fun v _=>v=.int .i64 (i:Int),fun v _=>v=.pointer (some ⟨gu,i,none⟩),fun v _=>v=.int .i64 (markF k i),fun v _=>v=.int .i64 (k:Int),fun v _=>v=.int .i64 (i:Int),fun v _=>v=.int .i64 (markF k i),fun v _=>v=.bool true,fun v _=>v=.bool false,fun v _=>v=.bool false] (fun _=>false) (by kernel_rfl) (by kernel_rfl) (by kernel_rfl) (by repeat (first|exact trivial|refine⟨stable_eq _,?_⟩)) (fun _ _ h=>by cases h) ?ob ?en
              case ob =>
               refine⟨?_,?_,?_,?_,?_,?_,?_,?_,?_,?_,?_,?_,?_,?_,?_,?_,?_,?_,?_,?_,?_,?_,?_,?_,?_,?_,trivial⟩<;>intro A W h
               ·exact rs_move rfl rfl (h.frame 0 rfl)
               ·exact rs_move rfl rfl (h.frame 14 rfl)
               ·exact rs_idx (sz:=1) Tryz.underlying34 (fun w=>by kernel_rfl) rfl rfl (h.dep 0 167 rfl rfl) (h.dep 1 168 rfl rfl) (by omega) (by omega)
               ·(have e169:A.eval (.tmp 169)=.pointer (some ⟨gl,k,none⟩):=h.dep 2 169 rfl rfl;refine rs_pure rfl ?_;simp only[execOp,e169];(have q:=((B1.out.trans (h.below.mono B1.out.size)).cell (p:=⟨gl,k,none⟩) hglq).trans HLS.out;simp[go_sem,q]))
               ·exact rs_move rfl rfl (h.frame 15 rfl)
               ·exact rs_idx (sz:=1) Tryz.underlying27 (fun w=>by kernel_rfl) rfl rfl (h.dep 3 170 rfl rfl) (h.dep 4 171 rfl rfl) (by omega) (by omega)
               ·(have e172:A.eval (.tmp 172)=.pointer (some ⟨gv,i,none⟩):=h.dep 5 172 rfl rfl;refine rs_pure rfl ?_;simp only[execOp,e172];(have q:=((B1.out.trans (h.below.mono B1.out.size)).cell (p:=⟨gv,i,none⟩) hgv).trans cv1.out;simp[go_sem,q]))
               ·exact rs_move rfl rfl (h.frame 14 rfl)
               ·exact rs_move rfl rfl (h.frame 15 rfl)
               ·exact rs_calln rfl rfl (enters_of Tryz.func30 (by kernel_rfl) rfl) (args2 ⟨(h.dep 7 174 rfl rfl),(h.dep 8 175 rfl rfl)⟩) ((kit_mark k i W (by omega) (by omega)).mono fun _ _ h=>⟨h.1,h.2 ▸ Below.refl _ _⟩)
               ·(have e173:A.eval (.tmp 173)=.int .i64 (markF k i):=h.dep 6 173 rfl rfl;have e176:A.eval (.tmp 176)=.int .i64 (markF k i):=h.dep 9 176 rfl rfl;refine rs_pure rfl ?_;simp only[execOp,e173,e176];simp[go_sem])
               ·(have e177:A.eval (.tmp 177)=.bool true:=h.dep 10 177 rfl rfl;refine rs_pure rfl ?_;simp only[execOp,e177];simp[go_sem])
               ·exact rs_move rfl rfl (h.dep 11 178 rfl rfl)
               ·exact rs_move (wanted_g rfl (yielded_of (d:=179) rfl (h.dep 12 179 rfl rfl))) rfl (h.frame 5 rfl)
               ·exact rs_move (wanted_g rfl (yielded_of (d:=179) rfl (h.dep 12 179 rfl rfl))) rfl (h.frame 14 rfl)
               ·exact rs_idx (sz:=1) Tryz.underlying34 (fun w=>by kernel_rfl) (wanted_g rfl (yielded_of (d:=179) rfl (h.dep 12 179 rfl rfl))) rfl (h.dep 13 180 rfl rfl) (h.dep 14 181 rfl rfl) (by omega) (by omega)
               ·(have e182:A.eval (.tmp 182)=.pointer (some ⟨gg,k,none⟩):=h.dep 15 182 rfl rfl;refine rs_pure (wanted_g rfl (yielded_of (d:=179) rfl (h.dep 12 179 rfl rfl))) ?_;simp only[execOp,e182];(have q:=((B1.out.trans (h.below.mono B1.out.size)).cell (p:=⟨gg,k,none⟩) hggq).trans HGS.out;simp[go_sem,q]))
               ·exact rs_move (wanted_g rfl (yielded_of (d:=179) rfl (h.dep 12 179 rfl rfl))) rfl (h.frame 15 rfl)
               ·exact rs_idx (sz:=1) Tryz.underlying27 (fun w=>by kernel_rfl) (wanted_g rfl (yielded_of (d:=179) rfl (h.dep 12 179 rfl rfl))) rfl (h.dep 16 183 rfl rfl) (h.dep 17 184 rfl rfl) (by omega) (by omega)
               ·(have e185:A.eval (.tmp 185)=.pointer (some ⟨gu,i,none⟩):=h.dep 18 185 rfl rfl;refine rs_pure (wanted_g rfl (yielded_of (d:=179) rfl (h.dep 12 179 rfl rfl))) ?_;simp only[execOp,e185];(have q:=((B1.out.trans (h.below.mono B1.out.size)).cell (p:=⟨gu,i,none⟩) hgu).trans cu1.out;simp[go_sem,q]))
               ·exact rs_move (wanted_g rfl (yielded_of (d:=179) rfl (h.dep 12 179 rfl rfl))) rfl (h.frame 14 rfl)
               ·exact rs_move (wanted_g rfl (yielded_of (d:=179) rfl (h.dep 12 179 rfl rfl))) rfl (h.frame 15 rfl)
               ·exact rs_calln (wanted_g rfl (yielded_of (d:=179) rfl (h.dep 12 179 rfl rfl))) rfl (enters_of Tryz.func30 (by kernel_rfl) rfl) (args2 ⟨(h.dep 20 187 rfl rfl),(h.dep 21 188 rfl rfl)⟩) ((kit_mark k i W (by omega) (by omega)).mono fun _ _ h=>⟨h.1,h.2 ▸ Below.refl _ _⟩)
               ·(have e186:A.eval (.tmp 186)=.int .i64 (markF k i):=h.dep 19 186 rfl rfl;have e189:A.eval (.tmp 189)=.int .i64 (markF k i):=h.dep 22 189 rfl rfl;refine rs_pure (wanted_g rfl (yielded_of (d:=179) rfl (h.dep 12 179 rfl rfl))) ?_;simp only[execOp,e186,e189];simp[go_sem])
               ·(have e190:A.eval (.tmp 190)=.bool true:=h.dep 23 190 rfl rfl;refine rs_pure (wanted_g rfl (yielded_of (d:=179) rfl (h.dep 12 179 rfl rfl))) ?_;simp only[execOp,e190];simp[go_sem])
               ·exact rs_pick rfl rfl (h.dep 12 179 rfl rfl) (h.dep 24 191 rfl rfl)
              case en =>
               intro vals W2 hbw hv _;simp only[fa,Nat.reduceAdd];rw[e_ hv 0,e_ hv 1,e_ hv 2,e_ hv 3,e_ hv 4,e_ hv 5,e_ hv 6,e_ hv 7,e_ hv 8,e_ hv 9,e_ hv 10,e_ hv 11,e_ hv 12,e_ hv 13,e_ hv 14,e_ hv 15,e_ hv 16,e_ hv 17,e_ hv 18,e_ hv 19,e_ hv 20,e_ hv 21,e_ hv 22,e_ hv 23,e_ hv 24,e_ hv 25];clear hv
               try simp only[pl]
               have B2:=Lib.hid (B1.out.trans (hbw.mono B1.out.size));clear hbw B1
               go_wp2_with fail
               go_roundw
               case rel=>exact⟨i+1,by omega,by go_num,B2.out⟩
               case measure=>simp[intOf];omega
            ·obtain rfl:i=nk:=by omega
             refine wp_region_seq 7 [fun v _=>v=.int .i64 (i:Int),fun v _=>v=.slice (some ⟨gl,0,none⟩) K cl,fun v _=>v=.int .i64 (k:Int),fun v _=>v=.pointer (some ⟨gl,k,none⟩),fun v _=>v=.slice pk i ck,fun v _=>v=.int .i64 ((i:Nat):Int),fun v _=>v=.bool false] (fun _=>false) (by kernel_rfl) (by kernel_rfl) (by repeat (first|exact trivial|refine⟨stable_eq _,?_⟩)) (fun _ _ h=>by cases h) ?ob ?en
             case ob =>
              refine⟨?_,?_,?_,?_,?_,?_,?_,trivial⟩<;>intro A W h
              ·exact rs_move rfl rfl (h.frame 15 rfl)
              ·exact rs_move rfl rfl (h.frame 0 rfl)
              ·exact rs_move rfl rfl (h.frame 14 rfl)
              ·exact rs_idx (sz:=1) Tryz.underlying34 (fun w=>by kernel_rfl) rfl rfl (h.dep 1 159 rfl rfl) (h.dep 2 160 rfl rfl) (by omega) (by omega)
              ·(have e161:A.eval (.tmp 161)=.pointer (some ⟨gl,k,none⟩):=h.dep 3 161 rfl rfl;refine rs_pure rfl ?_;simp only[execOp,e161];(have q:=((B.out.trans (h.below.mono B.out.size)).cell (p:=⟨gl,k,none⟩) hglq).trans HLS.out;simp[go_sem,q]))
              ·exact rs_len Tryz.underlying27 rfl rfl (h.dep 4 162 rfl rfl) (by decide)
              ·(have e158:A.eval (.tmp 158)=.int .i64 (i:Int):=h.dep 0 158 rfl rfl;have e163:A.eval (.tmp 163)=.int .i64 ((i:Nat):Int):=h.dep 5 163 rfl rfl;refine rs_pure rfl ?_;simp only[execOp,e158,e163];(simp[go_sem]<;>omega))
             case en =>
              intro vals W1 hbw hv _;simp only[fa,Nat.reduceAdd];rw[e_ hv 0,e_ hv 1,e_ hv 2,e_ hv 3,e_ hv 4,e_ hv 5,e_ hv 6];clear hv
              try simp only[pl]
              have B1:=Lib.hid (B.out.trans (hbw.mono B.out.size));clear hbw B
              go_wp2_with fail
              go_roundw
              case rel=>exact⟨k+1,by omega,by go_num,B1.out⟩
              case measure=>simp[intOf];omega
          ·obtain rfl:K=k:=by omega
           go_wp2
           go_ret;exact⟨rfl,_,⟨(G.out.up B.out).ls,(G.out.up B.out).reset.fam,(G.out.up B.out).below,G.out.size0⟩⟩
abbrev NilOk (f:FuncId):Prop:=∀ w,Calls Tryz.prog f #[.slice none 0 0] w fun e w'=>e=.returned (.bool true)∧Below w.heap.size w w'
abbrev MadeNil (T E:TypeId):Prop:=∀ w,(Instr.makeSlice T (.int .i64 0) (.int .i64 0)).run Tryz.prog w=.ok (.slice (some ⟨w.heap.size,0,none⟩) 0 0) (w.alloc (.cells #[] E))
theorem made_below {T E:TypeId} (_:Hid (MadeNil T E)) {w wr:World} (B:Hid (Below w.heap.size w wr)):Hid (Below w.heap.size w (wr.alloc (.cells #[] E))):=Lib.hid (B.out.alloc B.out.size _)
theorem flats_nil:NilOk 41∧NilOk 42∧NilOk 44∧NilOk 45∧NilOk 46∧NilOk 47∧NilOk 48∧NilOk 49∧NilOk 50∧NilOk 51∧NilOk 52∧NilOk 53∧NilOk 54∧NilOk 55∧NilOk 56∧NilOk 57∧NilOk 58∧NilOk 59∧NilOk 60∧NilOk 61:=by
 refine⟨?fLimbs,?fWords,?fLongs,?fTexts,?fBytes,?fTruths,?fNodes,?fInsts,?fQueries,?fFiles,?fDocs,?fPlaces,?fPostings,?fShardRefs,?fManifests,?fAsks,?fHits,?fAnswers,?fParts,?fChanges⟩<;>intro w
 case' fLimbs=>(have E:MadeNil 63 161:=fun _=>by kernel_rfl);have HMK:=Lib.hid E;clear E;go_enter Tryz.func41,Tryz.ntmps41
 case' fWords=>(have E:MadeNil 64 162:=fun _=>by kernel_rfl);have HMK:=Lib.hid E;clear E;go_enter Tryz.func42,Tryz.ntmps42
 case' fLongs=>(have E:MadeNil 65 163:=fun _=>by kernel_rfl);have HMK:=Lib.hid E;clear E;go_enter Tryz.func44,Tryz.ntmps44
 case' fTexts=>(have E:MadeNil 66 35:=fun _=>by kernel_rfl);have HMK:=Lib.hid E;clear E;go_enter Tryz.func45,Tryz.ntmps45
 case' fBytes=>(have E:MadeNil 67 23:=fun _=>by kernel_rfl);have HMK:=Lib.hid E;clear E;go_enter Tryz.func46,Tryz.ntmps46
 case' fTruths=>(have E:MadeNil 68 108:=fun _=>by kernel_rfl);have HMK:=Lib.hid E;clear E;go_enter Tryz.func47,Tryz.ntmps47
 case' fNodes=>(have E:MadeNil 69 85:=fun _=>by kernel_rfl);have HMK:=Lib.hid E;clear E;go_enter Tryz.func48,Tryz.ntmps48
 case' fInsts=>(have E:MadeNil 45 22:=fun _=>by kernel_rfl);have HMK:=Lib.hid E;clear E;go_enter Tryz.func49,Tryz.ntmps49
 case' fQueries=>(have E:MadeNil 70 167:=fun _=>by kernel_rfl);have HMK:=Lib.hid E;clear E;go_enter Tryz.func50,Tryz.ntmps50
 case' fFiles=>(have E:MadeNil 71 173:=fun _=>by kernel_rfl);have HMK:=Lib.hid E;clear E;go_enter Tryz.func51,Tryz.ntmps51
 case' fDocs=>(have E:MadeNil 72 178:=fun _=>by kernel_rfl);have HMK:=Lib.hid E;clear E;go_enter Tryz.func52,Tryz.ntmps52
 case' fPlaces=>(have E:MadeNil 73 182:=fun _=>by kernel_rfl);have HMK:=Lib.hid E;clear E;go_enter Tryz.func53,Tryz.ntmps53
 case' fPostings=>(have E:MadeNil 74 186:=fun _=>by kernel_rfl);have HMK:=Lib.hid E;clear E;go_enter Tryz.func54,Tryz.ntmps54
 case' fShardRefs=>(have E:MadeNil 75 191:=fun _=>by kernel_rfl);have HMK:=Lib.hid E;clear E;go_enter Tryz.func55,Tryz.ntmps55
 case' fManifests=>(have E:MadeNil 76 196:=fun _=>by kernel_rfl);have HMK:=Lib.hid E;clear E;go_enter Tryz.func56,Tryz.ntmps56
 case' fAsks=>(have E:MadeNil 77 201:=fun _=>by kernel_rfl);have HMK:=Lib.hid E;clear E;go_enter Tryz.func57,Tryz.ntmps57
 case' fHits=>(have E:MadeNil 78 206:=fun _=>by kernel_rfl);have HMK:=Lib.hid E;clear E;go_enter Tryz.func58,Tryz.ntmps58
 case' fAnswers=>(have E:MadeNil 79 210:=fun _=>by kernel_rfl);have HMK:=Lib.hid E;clear E;go_enter Tryz.func59,Tryz.ntmps59
 case' fParts=>(have E:MadeNil 80 215:=fun _=>by kernel_rfl);have HMK:=Lib.hid E;clear E;go_enter Tryz.func60,Tryz.ntmps60
 case' fChanges=>(have E:MadeNil 81 220:=fun _=>by kernel_rfl);have HMK:=Lib.hid E;clear E;go_enter Tryz.func61,Tryz.ntmps61
 all_goals
  go_wp2_with fail
  go_loopw [3] (fun i wr=>i=.int .i64 0∧Hid (Below w.heap.size w wr)) (fun _ _=>0)
  case atStart=>exact⟨rfl,Below.refl _ _⟩
  case round =>
   obtain⟨rfl,B⟩:=hrel;have hmk:=HMK.out
   go_wp2_with fail
   have B1:=made_below HMK B;clear B hmk
   go_loopw [6] (fun i wr=>i=.int .i64 0∧Hid (Below w.heap.size w wr)) (fun _ _=>0)
   case atStart=>exact⟨rfl,B1.out⟩
   case round =>
    clear B1;obtain⟨rfl,B⟩:=hrel
    go_wp2_with fail
    have B2:=B;clear B
    go_loopw [9] (fun i wr=>i=.int .i64 0∧Hid (Below w.heap.size w wr)) (fun _ _=>0)
    case atStart=>exact⟨rfl,B2.out⟩
    case round =>
     clear B2;obtain⟨rfl,B⟩:=hrel
     go_wp2_with fail
     have B3:=B;clear B
     go_loopw [11] (fun i wr=>i=.int .i64 0∧Hid (Below w.heap.size w wr)) (fun _ _=>0)
     case atStart=>exact⟨rfl,B3.out⟩
     case round =>
      clear B3;obtain⟨rfl,B⟩:=hrel
      go_wp2_with fail
      have B4:=B;clear B
      go_loopw [14] (fun i wr=>i=.int .i64 0∧Hid (Below w.heap.size w wr)) (fun _ _=>0)
      case atStart=>exact⟨rfl,B4.out⟩
      case round =>
       clear B4;obtain⟨rfl,B⟩:=hrel
       go_wp2
       go_ret;exact⟨rfl,B.out⟩
theorem kit_flatLimbs_nil:NilOk 41:=flats_nil.1
theorem kit_flatWords_nil:NilOk 42:=flats_nil.2.1
theorem kit_flatLongs_nil:NilOk 44:=flats_nil.2.2.1
theorem kit_flatTexts_nil:NilOk 45:=flats_nil.2.2.2.1
theorem kit_flatBytes_nil:NilOk 46:=flats_nil.2.2.2.2.1
theorem kit_flatTruths_nil:NilOk 47:=flats_nil.2.2.2.2.2.1
theorem kit_flatNodes_nil:NilOk 48:=flats_nil.2.2.2.2.2.2.1
theorem kit_flatInsts_nil:NilOk 49:=flats_nil.2.2.2.2.2.2.2.1
theorem kit_flatQueries_nil:NilOk 50:=flats_nil.2.2.2.2.2.2.2.2.1
theorem kit_flatFiles_nil:NilOk 51:=flats_nil.2.2.2.2.2.2.2.2.2.1
theorem kit_flatDocs_nil:NilOk 52:=flats_nil.2.2.2.2.2.2.2.2.2.2.1
theorem kit_flatPlaces_nil:NilOk 53:=flats_nil.2.2.2.2.2.2.2.2.2.2.2.1
theorem kit_flatPostings_nil:NilOk 54:=flats_nil.2.2.2.2.2.2.2.2.2.2.2.2.1
theorem kit_flatShardRefs_nil:NilOk 55:=flats_nil.2.2.2.2.2.2.2.2.2.2.2.2.2.1
theorem kit_flatManifests_nil:NilOk 56:=flats_nil.2.2.2.2.2.2.2.2.2.2.2.2.2.2.1
theorem kit_flatAsks_nil:NilOk 57:=flats_nil.2.2.2.2.2.2.2.2.2.2.2.2.2.2.2.1
theorem kit_flatHits_nil:NilOk 58:=flats_nil.2.2.2.2.2.2.2.2.2.2.2.2.2.2.2.2.1
theorem kit_flatAnswers_nil:NilOk 59:=flats_nil.2.2.2.2.2.2.2.2.2.2.2.2.2.2.2.2.2.1
theorem kit_flatParts_nil:NilOk 60:=flats_nil.2.2.2.2.2.2.2.2.2.2.2.2.2.2.2.2.2.2.1
theorem kit_flatChanges_nil:NilOk 61:=flats_nil.2.2.2.2.2.2.2.2.2.2.2.2.2.2.2.2.2.2.2
def RowsAt (base:Nat) (lsv:Value) (K:Nat) (V:Nat→Value) (N:Nat→Nat) (w:World):Prop:=∃ X,w.ownsRow base 27 1 lsv K (rowV V K)∧Fam 3 1 base w K V V N N X X
def RelA (base:Nat) (lsv:Value) (K:Nat) (V:Nat→Value) (N:Nat→Nat) (B0:Nat) (u v:World):Prop:=KeepBut (Mine K V) B0 u v∧(RowsAt base lsv K V N u→RowsAt base lsv K V N v)
section
variable {base:Nat} {lsv:Value} {K:Nat} {V:Nat→Value} {N:Nat→Nat} {B0:Nat}
theorem RelA.refl (w:World):RelA base lsv K V N B0 w w:=⟨KeepBut.refl _ _ _,id⟩
theorem RelA.trans (u v w:World) (h1:RelA base lsv K V N B0 u v) (h2:RelA base lsv K V N B0 v w):RelA base lsv K V N B0 u w:=⟨h1.1.trans h2.1,fun h=>h2.2 (h1.2 h)⟩
theorem RelA.size {w W:World} (h:RelA base lsv K V N w.heap.size w W):w.heap.size≤W.heap.size:=h.1.size
theorem RelA.rows {w W:World} (h:RelA base lsv K V N B0 w W) (h2:RowsAt base lsv K V N w):RowsAt base lsv K V N W:=h.2 h2
theorem KeepBut.cellOf {M:Nat→Prop} {B b o:Nat} {u v:World} (h:KeepBut M B u v) (hb:b<B) (hM:¬ M b):v.cell? ⟨b,o,none⟩=u.cell? ⟨b,o,none⟩:=World.cell?_of_block (h.old b hb hM)
theorem RelA.nil {f:FuncId} {args:Array Value} {W:World} (hs:B0≤W.heap.size) (h:Calls Tryz.prog f args W fun e w'=>e=.returned (.bool true)∧Below W.heap.size W w') :
  Calls Tryz.prog f args W fun e w'=>e=.returned (.bool true)∧RelA base lsv K V N B0 W w' :=
 h.mono fun _ _ ⟨he,hb⟩=>⟨he,KeepBut.of_below (hb.mono hs),fun ⟨X,h1,h2⟩=>⟨X,own_below h1 hb,h2.below hb⟩⟩
theorem RelA.ints {W:World} (hK:K≤1000) (hN:∀ j,j<K→N j≤4194304) (hr:RowsAt base lsv K V N W) (hs:B0≤W.heap.size) (hbase:base≤B0) :
  Calls Tryz.prog 43 #[lsv] W fun e w'=>e=.returned (.bool true)∧RelA base lsv K V N B0 W w':=by
 obtain⟨X,h1,h2⟩:=hr;refine(kit_flatInts lsv K base V N X W hK hN ⟨h1,h2,KeepBut.refl _ _ _,Nat.le_trans hbase hs⟩).mono fun e w' ⟨he,X',hf⟩=>⟨he,hf.below.mono hs (fun _ _ h=>h),fun _=>⟨X',hf.ls,hf.fam⟩⟩
end
def bagV (lsv:Value) (k:Nat):Value:=if k=2 then lsv else .slice none 0 0
theorem kit_apart (lsv:Value) (K base B:Nat) (V:Nat→Value) (N:Nat→Nat) (w:World) (hK:K≤1000) (hN:∀ j,j<K→N j≤4194304) (hrows:RowsAt base lsv K V N w) (hbase:base≤w.heap.size)
  (hB:B<w.heap.size) (hBM:¬ Mine K V B) (hbag:∀ k,k<21→w.cell? ⟨B,k,none⟩=some (bagV lsv k)) (hlsv:∃ p n c,lsv=.slice p n c) :
  Calls Tryz.prog 27 #[.pointer (some ⟨B,0,none⟩)] w fun e w'=>e=.returned (.bool true)∧RelA base lsv K V N w.heap.size w w':=by
 obtain⟨pl,nl,cl,rfl⟩:=hlsv;have HBAG:=Lib.hid hbag
 go_enter Tryz.func27,Tryz.ntmps27
 go_upto_region 1 with fail
 have hrefl:∀ W,(RelA base (.slice pl nl cl) K V N w.heap.size) W W:=(RelA.refl);refine wp_region_seqR (RelA base (.slice pl nl cl) K V N w.heap.size) (RelA.refl) (RelA.trans) 145 [fun v _=>v=.pointer (some ⟨B,0,none⟩),fun v _=>v=.pointer (some ⟨B,0,none⟩),fun v _=>v=.pointer (some ⟨B,0,none⟩),fun v _=>v=.slice none 0 0,fun v _=>v=.bool true,fun v _=>v=.bool true,fun v _=>v=.pointer (some ⟨B,0,none⟩),fun v _=>v=.pointer (some ⟨B,0,none⟩),fun v _=>v=.pointer (some ⟨B,1,none⟩),fun v _=>v=.slice none 0 0,fun v _=>v=.bool true,fun v _=>v=.bool true,fun v _=>v=.bool true,fun v _=>v=.pointer (some ⟨B,0,none⟩),fun v _=>v=.pointer (some ⟨B,0,none⟩),fun v _=>v=.pointer (some ⟨B,2,none⟩),fun v _=>v=(.slice pl nl cl),fun v _=>v=.bool true,fun v _=>v=.bool true,fun v _=>v=.bool true,fun v _=>v=.pointer (some ⟨B,0,none⟩),fun v _=>v=.pointer (some ⟨B,0,none⟩),fun v _=>v=.pointer (some ⟨B,3,none⟩),fun v _=>v=.slice none 0 0,fun v _=>v=.bool true,fun v _=>v=.bool true,fun v _=>v=.bool true,fun v _=>v=.pointer (some ⟨B,0,none⟩),fun v _=>v=.pointer (some ⟨B,0,none⟩),fun v _=>v=.pointer (some ⟨B,4,none⟩),fun v _=>v=.slice none 0 0,fun v _=>v=.bool true,fun v _=>v=.bool true,fun v _=>v=.bool true,fun v _=>v=.pointer (some ⟨B,0,none⟩),fun v _=>v=.pointer (some ⟨B,0,none⟩),fun v _=>v=.pointer (some ⟨B,5,none⟩),fun v _=>v=.slice none 0 0,fun v _=>v=.bool true,fun v _=>v=.bool true,fun v _=>v=.bool true,fun v _=>v=.pointer (some ⟨B,0,none⟩),fun v _=>v=.pointer (some ⟨B,0,none⟩),fun v _=>v=.pointer (some ⟨B,6,none⟩),fun v _=>v=.slice none 0 0,fun v _=>v=.bool true,fun v _=>v=.bool true,fun v _=>v=.bool true,fun v _=>v=.pointer (some ⟨B,0,none⟩),fun v _=>v=.pointer (some ⟨B,0,none⟩),fun v _=>v=.pointer (some ⟨B,7,none⟩),fun v _=>v=.slice none 0 0,fun v _=>v=.bool true,fun v _=>v=.bool true,fun v _=>v=.bool true,fun v _=>v=.pointer (some ⟨B,0,none⟩),fun v _=>v=.pointer (some ⟨B,0,none⟩),fun v _=>v=.pointer (some ⟨B,8,none⟩),fun v _=>v=.slice none 0 0,fun v _=>v=.bool true,fun v _=>v=.bool true,fun v _=>v=.bool true,fun v _=>v=.pointer (some ⟨B,0,none⟩),fun v _=>v=.pointer (some ⟨B,0,none⟩),fun v _=>v=.pointer (some ⟨B,9,none⟩),fun v _=>v=.slice none 0 0,fun v _=>v=.bool true,fun v _=>v=.bool true,fun v _=>v=.bool true,fun v _=>v=.pointer (some ⟨B,0,none⟩),fun v _=>v=.pointer (some ⟨B,0,none⟩),fun v _=>v=.pointer (some ⟨B,10,none⟩),fun v _=>v=.slice none 0 0,fun v _=>v=.bool true,fun v _=>v=.bool true,fun v _=>v=.bool true,fun v _=>v=.pointer (some ⟨B,0,none⟩),fun v _=>v=.pointer (some ⟨B,0,none⟩),fun v _=>v=.pointer (some ⟨B,11,none⟩),fun v _=>v=.slice none 0 0,fun v _=>v=.bool true,fun v _=>v=.bool true,fun v _=>v=.bool true,fun v _=>v=.pointer (some ⟨B,0,none⟩),fun v _=>v=.pointer (some ⟨B,0,none⟩),fun v _=>v=.pointer (some ⟨B,12,none⟩),fun v _=>v=.slice none 0 0,fun v _=>v=.bool true,fun v _=>v=.bool true,fun v _=>v=.bool true,fun v _=>v=.pointer (some ⟨B,0,none⟩),fun v _=>v=.pointer (some ⟨B,0,none⟩),fun v _=>v=.pointer (some ⟨B,13,none⟩),fun v _=>v=.slice none 0 0,fun v _=>v=.bool true,fun v _=>v=.bool true,fun v _=>v=.bool true,fun v _=>v=.pointer (some ⟨B,0,none⟩),fun v _=>v=.pointer (some ⟨B,0,none⟩),fun v _=>v=.pointer (some ⟨B,14,none⟩),fun v _=>v=.slice none 0 0,fun v _=>v=.bool true,fun v _=>v=.bool true,fun v _=>v=.bool true,fun v _=>v=.pointer (some ⟨B,0,none⟩),fun v _=>v=.pointer (some ⟨B,0,none⟩),fun v _=>v=.pointer (some ⟨B,15,none⟩),fun v _=>v=.slice none 0 0,fun v _=>v=.bool true,fun v _=>v=.bool true,fun v _=>v=.bool true,fun v _=>v=.pointer (some ⟨B,0,none⟩),fun v _=>v=.pointer (some ⟨B,0,none⟩),fun v _=>v=.pointer (some ⟨B,16,none⟩),fun v _=>v=.slice none 0 0,fun v _=>v=.bool true,fun v _=>v=.bool true,fun v _=>v=.bool true,fun v _=>v=.pointer (some ⟨B,0,none⟩),fun v _=>v=.pointer (some ⟨B,0,none⟩),fun v _=>v=.pointer (some ⟨B,17,none⟩),fun v _=>v=.slice none 0 0,fun v _=>v=.bool true,fun v _=>v=.bool true,fun v _=>v=.bool true,fun v _=>v=.pointer (some ⟨B,0,none⟩),fun v _=>v=.pointer (some ⟨B,0,none⟩),fun v _=>v=.pointer (some ⟨B,18,none⟩),fun v _=>v=.slice none 0 0,fun v _=>v=.bool true,fun v _=>v=.bool true,fun v _=>v=.bool true,fun v _=>v=.pointer (some ⟨B,0,none⟩),fun v _=>v=.pointer (some ⟨B,0,none⟩),fun v _=>v=.pointer (some ⟨B,19,none⟩),fun v _=>v=.slice none 0 0,fun v _=>v=.bool true,fun v _=>v=.bool true,fun v _=>v=.bool true,fun v _=>v=.pointer (some ⟨B,0,none⟩),fun v _=>v=.pointer (some ⟨B,0,none⟩),fun v _=>v=.pointer (some ⟨B,20,none⟩),fun v _=>v=.slice none 0 0,fun v _=>v=.bool true,fun v _=>v=.bool true] (by repeat (first|exact trivial|refine⟨stableR_eq _,?_⟩)) (by kernel_rfl) (by kernel_rfl) ?ob ?en
 case ob =>
  refine⟨?_,?_,?_,?_,?_,?_,?_,?_,?_,?_,?_,?_,?_,?_,?_,?_,?_,?_,?_,?_,?_,?_,?_,?_,?_,?_,?_,?_,?_,?_,?_,?_,?_,?_,?_,?_,?_,?_,?_,?_,?_,?_,?_,?_,?_,?_,?_,?_,?_,?_,?_,?_,?_,?_,?_,?_,?_,?_,?_,?_,?_,?_,?_,?_,?_,?_,?_,?_,?_,?_,?_,?_,?_,?_,?_,?_,?_,?_,?_,?_,?_,?_,?_,?_,?_,?_,?_,?_,?_,?_,?_,?_,?_,?_,?_,?_,?_,?_,?_,?_,?_,?_,?_,?_,?_,?_,?_,?_,?_,?_,?_,?_,?_,?_,?_,?_,?_,?_,?_,?_,?_,?_,?_,?_,?_,?_,?_,?_,?_,?_,?_,?_,?_,?_,?_,?_,?_,?_,?_,?_,?_,?_,?_,?_,?_,trivial⟩<;>intro A W h
  ·exact rq_move hrefl rfl rfl (h.frame 0 rfl)
  ·(have e3:A.eval (.tmp 3)=.pointer (some ⟨B,0,none⟩):=h.dep 0 3 rfl rfl;refine rq_pure hrefl rfl ?_;simp only[execOp,e3];simp[go_sem])
  ·(have e4:A.eval (.tmp 4)=.pointer (some ⟨B,0,none⟩):=h.dep 1 4 rfl rfl;refine rq_pure hrefl rfl ?_;simp only[execOp,e4];simp[go_sem])
  ·(have e5:A.eval (.tmp 5)=.pointer (some ⟨B,0,none⟩):=h.dep 2 5 rfl rfl;refine rq_pure hrefl rfl ?_;simp only[execOp,e5];(have q:=(h.rel.1.cellOf hB hBM).trans (hbag 0 (by omega));simp[bagV]at q;simp[go_sem,q]))
  ·exact rq_calln rfl rfl (enters_of Tryz.func41 (by kernel_rfl) rfl) (args1 (h.dep 3 6 rfl rfl)) (RelA.nil (RelA.size h.rel) (kit_flatLimbs_nil W))
  ·exact rq_move hrefl rfl rfl (h.dep 4 7 rfl rfl)
  ·exact rq_move hrefl (wanted_g rfl (yielded_of (d:=8) rfl (h.dep 5 8 rfl rfl))) rfl (h.frame 0 rfl)
  ·(have e9:A.eval (.tmp 9)=.pointer (some ⟨B,0,none⟩):=h.dep 6 9 rfl rfl;refine rq_pure hrefl (wanted_g rfl (yielded_of (d:=8) rfl (h.dep 5 8 rfl rfl))) ?_;simp only[execOp,e9];simp[go_sem])
  ·(have e10:A.eval (.tmp 10)=.pointer (some ⟨B,0,none⟩):=h.dep 7 10 rfl rfl;refine rq_pure hrefl (wanted_g rfl (yielded_of (d:=8) rfl (h.dep 5 8 rfl rfl))) ?_;simp only[execOp,e10];simp[go_sem])
  ·(have e11:A.eval (.tmp 11)=.pointer (some ⟨B,1,none⟩):=h.dep 8 11 rfl rfl;refine rq_pure hrefl (wanted_g rfl (yielded_of (d:=8) rfl (h.dep 5 8 rfl rfl))) ?_;simp only[execOp,e11];(have q:=(h.rel.1.cellOf hB hBM).trans (hbag 1 (by omega));simp[bagV]at q;simp[go_sem,q]))
  ·exact rq_calln (wanted_g rfl (yielded_of (d:=8) rfl (h.dep 5 8 rfl rfl))) rfl (enters_of Tryz.func42 (by kernel_rfl) rfl) (args1 (h.dep 9 12 rfl rfl)) (RelA.nil (RelA.size h.rel) (kit_flatWords_nil W))
  ·exact rq_pick hrefl rfl rfl (h.dep 5 8 rfl rfl) (h.dep 10 13 rfl rfl)
  ·exact rq_move hrefl rfl rfl (h.dep 11 14 rfl rfl)
  ·exact rq_move hrefl (wanted_g rfl (yielded_of (d:=15) rfl (h.dep 12 15 rfl rfl))) rfl (h.frame 0 rfl)
  ·(have e16:A.eval (.tmp 16)=.pointer (some ⟨B,0,none⟩):=h.dep 13 16 rfl rfl;refine rq_pure hrefl (wanted_g rfl (yielded_of (d:=15) rfl (h.dep 12 15 rfl rfl))) ?_;simp only[execOp,e16];simp[go_sem])
  ·(have e17:A.eval (.tmp 17)=.pointer (some ⟨B,0,none⟩):=h.dep 14 17 rfl rfl;refine rq_pure hrefl (wanted_g rfl (yielded_of (d:=15) rfl (h.dep 12 15 rfl rfl))) ?_;simp only[execOp,e17];simp[go_sem])
  ·(have e18:A.eval (.tmp 18)=.pointer (some ⟨B,2,none⟩):=h.dep 15 18 rfl rfl;refine rq_pure hrefl (wanted_g rfl (yielded_of (d:=15) rfl (h.dep 12 15 rfl rfl))) ?_;simp only[execOp,e18];(have q:=(h.rel.1.cellOf hB hBM).trans (hbag 2 (by omega));simp[bagV]at q;simp[go_sem,q]))
  ·exact rq_calln (wanted_g rfl (yielded_of (d:=15) rfl (h.dep 12 15 rfl rfl))) rfl (enters_of Tryz.func43 (by kernel_rfl) rfl) (args1 (h.dep 16 19 rfl rfl)) (RelA.ints hK hN (RelA.rows h.rel hrows) (RelA.size h.rel) hbase)
  ·exact rq_pick hrefl rfl rfl (h.dep 12 15 rfl rfl) (h.dep 17 20 rfl rfl)
  ·exact rq_move hrefl rfl rfl (h.dep 18 21 rfl rfl)
  ·exact rq_move hrefl (wanted_g rfl (yielded_of (d:=22) rfl (h.dep 19 22 rfl rfl))) rfl (h.frame 0 rfl)
  ·(have e23:A.eval (.tmp 23)=.pointer (some ⟨B,0,none⟩):=h.dep 20 23 rfl rfl;refine rq_pure hrefl (wanted_g rfl (yielded_of (d:=22) rfl (h.dep 19 22 rfl rfl))) ?_;simp only[execOp,e23];simp[go_sem])
  ·(have e24:A.eval (.tmp 24)=.pointer (some ⟨B,0,none⟩):=h.dep 21 24 rfl rfl;refine rq_pure hrefl (wanted_g rfl (yielded_of (d:=22) rfl (h.dep 19 22 rfl rfl))) ?_;simp only[execOp,e24];simp[go_sem])
  ·(have e25:A.eval (.tmp 25)=.pointer (some ⟨B,3,none⟩):=h.dep 22 25 rfl rfl;refine rq_pure hrefl (wanted_g rfl (yielded_of (d:=22) rfl (h.dep 19 22 rfl rfl))) ?_;simp only[execOp,e25];(have q:=(h.rel.1.cellOf hB hBM).trans (hbag 3 (by omega));simp[bagV]at q;simp[go_sem,q]))
  ·exact rq_calln (wanted_g rfl (yielded_of (d:=22) rfl (h.dep 19 22 rfl rfl))) rfl (enters_of Tryz.func44 (by kernel_rfl) rfl) (args1 (h.dep 23 26 rfl rfl)) (RelA.nil (RelA.size h.rel) (kit_flatLongs_nil W))
  ·exact rq_pick hrefl rfl rfl (h.dep 19 22 rfl rfl) (h.dep 24 27 rfl rfl)
  ·exact rq_move hrefl rfl rfl (h.dep 25 28 rfl rfl)
  ·exact rq_move hrefl (wanted_g rfl (yielded_of (d:=29) rfl (h.dep 26 29 rfl rfl))) rfl (h.frame 0 rfl)
  ·(have e30:A.eval (.tmp 30)=.pointer (some ⟨B,0,none⟩):=h.dep 27 30 rfl rfl;refine rq_pure hrefl (wanted_g rfl (yielded_of (d:=29) rfl (h.dep 26 29 rfl rfl))) ?_;simp only[execOp,e30];simp[go_sem])
  ·(have e31:A.eval (.tmp 31)=.pointer (some ⟨B,0,none⟩):=h.dep 28 31 rfl rfl;refine rq_pure hrefl (wanted_g rfl (yielded_of (d:=29) rfl (h.dep 26 29 rfl rfl))) ?_;simp only[execOp,e31];simp[go_sem])
  ·(have e32:A.eval (.tmp 32)=.pointer (some ⟨B,4,none⟩):=h.dep 29 32 rfl rfl;refine rq_pure hrefl (wanted_g rfl (yielded_of (d:=29) rfl (h.dep 26 29 rfl rfl))) ?_;simp only[execOp,e32];(have q:=(h.rel.1.cellOf hB hBM).trans (hbag 4 (by omega));simp[bagV]at q;simp[go_sem,q]))
  ·exact rq_calln (wanted_g rfl (yielded_of (d:=29) rfl (h.dep 26 29 rfl rfl))) rfl (enters_of Tryz.func45 (by kernel_rfl) rfl) (args1 (h.dep 30 33 rfl rfl)) (RelA.nil (RelA.size h.rel) (kit_flatTexts_nil W))
  ·exact rq_pick hrefl rfl rfl (h.dep 26 29 rfl rfl) (h.dep 31 34 rfl rfl)
  ·exact rq_move hrefl rfl rfl (h.dep 32 35 rfl rfl)
  ·exact rq_move hrefl (wanted_g rfl (yielded_of (d:=36) rfl (h.dep 33 36 rfl rfl))) rfl (h.frame 0 rfl)
  ·(have e37:A.eval (.tmp 37)=.pointer (some ⟨B,0,none⟩):=h.dep 34 37 rfl rfl;refine rq_pure hrefl (wanted_g rfl (yielded_of (d:=36) rfl (h.dep 33 36 rfl rfl))) ?_;simp only[execOp,e37];simp[go_sem])
  ·(have e38:A.eval (.tmp 38)=.pointer (some ⟨B,0,none⟩):=h.dep 35 38 rfl rfl;refine rq_pure hrefl (wanted_g rfl (yielded_of (d:=36) rfl (h.dep 33 36 rfl rfl))) ?_;simp only[execOp,e38];simp[go_sem])
  ·(have e39:A.eval (.tmp 39)=.pointer (some ⟨B,5,none⟩):=h.dep 36 39 rfl rfl;refine rq_pure hrefl (wanted_g rfl (yielded_of (d:=36) rfl (h.dep 33 36 rfl rfl))) ?_;simp only[execOp,e39];(have q:=(h.rel.1.cellOf hB hBM).trans (hbag 5 (by omega));simp[bagV]at q;simp[go_sem,q]))
  ·exact rq_calln (wanted_g rfl (yielded_of (d:=36) rfl (h.dep 33 36 rfl rfl))) rfl (enters_of Tryz.func46 (by kernel_rfl) rfl) (args1 (h.dep 37 40 rfl rfl)) (RelA.nil (RelA.size h.rel) (kit_flatBytes_nil W))
  ·exact rq_pick hrefl rfl rfl (h.dep 33 36 rfl rfl) (h.dep 38 41 rfl rfl)
  ·exact rq_move hrefl rfl rfl (h.dep 39 42 rfl rfl)
  ·exact rq_move hrefl (wanted_g rfl (yielded_of (d:=43) rfl (h.dep 40 43 rfl rfl))) rfl (h.frame 0 rfl)
  ·(have e44:A.eval (.tmp 44)=.pointer (some ⟨B,0,none⟩):=h.dep 41 44 rfl rfl;refine rq_pure hrefl (wanted_g rfl (yielded_of (d:=43) rfl (h.dep 40 43 rfl rfl))) ?_;simp only[execOp,e44];simp[go_sem])
  ·(have e45:A.eval (.tmp 45)=.pointer (some ⟨B,0,none⟩):=h.dep 42 45 rfl rfl;refine rq_pure hrefl (wanted_g rfl (yielded_of (d:=43) rfl (h.dep 40 43 rfl rfl))) ?_;simp only[execOp,e45];simp[go_sem])
  ·(have e46:A.eval (.tmp 46)=.pointer (some ⟨B,6,none⟩):=h.dep 43 46 rfl rfl;refine rq_pure hrefl (wanted_g rfl (yielded_of (d:=43) rfl (h.dep 40 43 rfl rfl))) ?_;simp only[execOp,e46];(have q:=(h.rel.1.cellOf hB hBM).trans (hbag 6 (by omega));simp[bagV]at q;simp[go_sem,q]))
  ·exact rq_calln (wanted_g rfl (yielded_of (d:=43) rfl (h.dep 40 43 rfl rfl))) rfl (enters_of Tryz.func47 (by kernel_rfl) rfl) (args1 (h.dep 44 47 rfl rfl)) (RelA.nil (RelA.size h.rel) (kit_flatTruths_nil W))
  ·exact rq_pick hrefl rfl rfl (h.dep 40 43 rfl rfl) (h.dep 45 48 rfl rfl)
  ·exact rq_move hrefl rfl rfl (h.dep 46 49 rfl rfl)
  ·exact rq_move hrefl (wanted_g rfl (yielded_of (d:=50) rfl (h.dep 47 50 rfl rfl))) rfl (h.frame 0 rfl)
  ·(have e51:A.eval (.tmp 51)=.pointer (some ⟨B,0,none⟩):=h.dep 48 51 rfl rfl;refine rq_pure hrefl (wanted_g rfl (yielded_of (d:=50) rfl (h.dep 47 50 rfl rfl))) ?_;simp only[execOp,e51];simp[go_sem])
  ·(have e52:A.eval (.tmp 52)=.pointer (some ⟨B,0,none⟩):=h.dep 49 52 rfl rfl;refine rq_pure hrefl (wanted_g rfl (yielded_of (d:=50) rfl (h.dep 47 50 rfl rfl))) ?_;simp only[execOp,e52];simp[go_sem])
  ·(have e53:A.eval (.tmp 53)=.pointer (some ⟨B,7,none⟩):=h.dep 50 53 rfl rfl;refine rq_pure hrefl (wanted_g rfl (yielded_of (d:=50) rfl (h.dep 47 50 rfl rfl))) ?_;simp only[execOp,e53];(have q:=(h.rel.1.cellOf hB hBM).trans (hbag 7 (by omega));simp[bagV]at q;simp[go_sem,q]))
  ·exact rq_calln (wanted_g rfl (yielded_of (d:=50) rfl (h.dep 47 50 rfl rfl))) rfl (enters_of Tryz.func48 (by kernel_rfl) rfl) (args1 (h.dep 51 54 rfl rfl)) (RelA.nil (RelA.size h.rel) (kit_flatNodes_nil W))
  ·exact rq_pick hrefl rfl rfl (h.dep 47 50 rfl rfl) (h.dep 52 55 rfl rfl)
  ·exact rq_move hrefl rfl rfl (h.dep 53 56 rfl rfl)
  ·exact rq_move hrefl (wanted_g rfl (yielded_of (d:=57) rfl (h.dep 54 57 rfl rfl))) rfl (h.frame 0 rfl)
  ·(have e58:A.eval (.tmp 58)=.pointer (some ⟨B,0,none⟩):=h.dep 55 58 rfl rfl;refine rq_pure hrefl (wanted_g rfl (yielded_of (d:=57) rfl (h.dep 54 57 rfl rfl))) ?_;simp only[execOp,e58];simp[go_sem])
  ·(have e59:A.eval (.tmp 59)=.pointer (some ⟨B,0,none⟩):=h.dep 56 59 rfl rfl;refine rq_pure hrefl (wanted_g rfl (yielded_of (d:=57) rfl (h.dep 54 57 rfl rfl))) ?_;simp only[execOp,e59];simp[go_sem])
  ·(have e60:A.eval (.tmp 60)=.pointer (some ⟨B,8,none⟩):=h.dep 57 60 rfl rfl;refine rq_pure hrefl (wanted_g rfl (yielded_of (d:=57) rfl (h.dep 54 57 rfl rfl))) ?_;simp only[execOp,e60];(have q:=(h.rel.1.cellOf hB hBM).trans (hbag 8 (by omega));simp[bagV]at q;simp[go_sem,q]))
  ·exact rq_calln (wanted_g rfl (yielded_of (d:=57) rfl (h.dep 54 57 rfl rfl))) rfl (enters_of Tryz.func49 (by kernel_rfl) rfl) (args1 (h.dep 58 61 rfl rfl)) (RelA.nil (RelA.size h.rel) (kit_flatInsts_nil W))
  ·exact rq_pick hrefl rfl rfl (h.dep 54 57 rfl rfl) (h.dep 59 62 rfl rfl)
  ·exact rq_move hrefl rfl rfl (h.dep 60 63 rfl rfl)
  ·exact rq_move hrefl (wanted_g rfl (yielded_of (d:=64) rfl (h.dep 61 64 rfl rfl))) rfl (h.frame 0 rfl)
  ·(have e65:A.eval (.tmp 65)=.pointer (some ⟨B,0,none⟩):=h.dep 62 65 rfl rfl;refine rq_pure hrefl (wanted_g rfl (yielded_of (d:=64) rfl (h.dep 61 64 rfl rfl))) ?_;simp only[execOp,e65];simp[go_sem])
  ·(have e66:A.eval (.tmp 66)=.pointer (some ⟨B,0,none⟩):=h.dep 63 66 rfl rfl;refine rq_pure hrefl (wanted_g rfl (yielded_of (d:=64) rfl (h.dep 61 64 rfl rfl))) ?_;simp only[execOp,e66];simp[go_sem])
  ·(have e67:A.eval (.tmp 67)=.pointer (some ⟨B,9,none⟩):=h.dep 64 67 rfl rfl;refine rq_pure hrefl (wanted_g rfl (yielded_of (d:=64) rfl (h.dep 61 64 rfl rfl))) ?_;simp only[execOp,e67];(have q:=(h.rel.1.cellOf hB hBM).trans (hbag 9 (by omega));simp[bagV]at q;simp[go_sem,q]))
  ·exact rq_calln (wanted_g rfl (yielded_of (d:=64) rfl (h.dep 61 64 rfl rfl))) rfl (enters_of Tryz.func50 (by kernel_rfl) rfl) (args1 (h.dep 65 68 rfl rfl)) (RelA.nil (RelA.size h.rel) (kit_flatQueries_nil W))
  ·exact rq_pick hrefl rfl rfl (h.dep 61 64 rfl rfl) (h.dep 66 69 rfl rfl)
  ·exact rq_move hrefl rfl rfl (h.dep 67 70 rfl rfl)
  ·exact rq_move hrefl (wanted_g rfl (yielded_of (d:=71) rfl (h.dep 68 71 rfl rfl))) rfl (h.frame 0 rfl)
  ·(have e72:A.eval (.tmp 72)=.pointer (some ⟨B,0,none⟩):=h.dep 69 72 rfl rfl;refine rq_pure hrefl (wanted_g rfl (yielded_of (d:=71) rfl (h.dep 68 71 rfl rfl))) ?_;simp only[execOp,e72];simp[go_sem])
  ·(have e73:A.eval (.tmp 73)=.pointer (some ⟨B,0,none⟩):=h.dep 70 73 rfl rfl;refine rq_pure hrefl (wanted_g rfl (yielded_of (d:=71) rfl (h.dep 68 71 rfl rfl))) ?_;simp only[execOp,e73];simp[go_sem])
  ·(have e74:A.eval (.tmp 74)=.pointer (some ⟨B,10,none⟩):=h.dep 71 74 rfl rfl;refine rq_pure hrefl (wanted_g rfl (yielded_of (d:=71) rfl (h.dep 68 71 rfl rfl))) ?_;simp only[execOp,e74];(have q:=(h.rel.1.cellOf hB hBM).trans (hbag 10 (by omega));simp[bagV]at q;simp[go_sem,q]))
  ·exact rq_calln (wanted_g rfl (yielded_of (d:=71) rfl (h.dep 68 71 rfl rfl))) rfl (enters_of Tryz.func51 (by kernel_rfl) rfl) (args1 (h.dep 72 75 rfl rfl)) (RelA.nil (RelA.size h.rel) (kit_flatFiles_nil W))
  ·exact rq_pick hrefl rfl rfl (h.dep 68 71 rfl rfl) (h.dep 73 76 rfl rfl)
  ·exact rq_move hrefl rfl rfl (h.dep 74 77 rfl rfl)
  ·exact rq_move hrefl (wanted_g rfl (yielded_of (d:=78) rfl (h.dep 75 78 rfl rfl))) rfl (h.frame 0 rfl)
  ·(have e79:A.eval (.tmp 79)=.pointer (some ⟨B,0,none⟩):=h.dep 76 79 rfl rfl;refine rq_pure hrefl (wanted_g rfl (yielded_of (d:=78) rfl (h.dep 75 78 rfl rfl))) ?_;simp only[execOp,e79];simp[go_sem])
  ·(have e80:A.eval (.tmp 80)=.pointer (some ⟨B,0,none⟩):=h.dep 77 80 rfl rfl;refine rq_pure hrefl (wanted_g rfl (yielded_of (d:=78) rfl (h.dep 75 78 rfl rfl))) ?_;simp only[execOp,e80];simp[go_sem])
  ·(have e81:A.eval (.tmp 81)=.pointer (some ⟨B,11,none⟩):=h.dep 78 81 rfl rfl;refine rq_pure hrefl (wanted_g rfl (yielded_of (d:=78) rfl (h.dep 75 78 rfl rfl))) ?_;simp only[execOp,e81];(have q:=(h.rel.1.cellOf hB hBM).trans (hbag 11 (by omega));simp[bagV]at q;simp[go_sem,q]))
  ·exact rq_calln (wanted_g rfl (yielded_of (d:=78) rfl (h.dep 75 78 rfl rfl))) rfl (enters_of Tryz.func52 (by kernel_rfl) rfl) (args1 (h.dep 79 82 rfl rfl)) (RelA.nil (RelA.size h.rel) (kit_flatDocs_nil W))
  ·exact rq_pick hrefl rfl rfl (h.dep 75 78 rfl rfl) (h.dep 80 83 rfl rfl)
  ·exact rq_move hrefl rfl rfl (h.dep 81 84 rfl rfl)
  ·exact rq_move hrefl (wanted_g rfl (yielded_of (d:=85) rfl (h.dep 82 85 rfl rfl))) rfl (h.frame 0 rfl)
  ·(have e86:A.eval (.tmp 86)=.pointer (some ⟨B,0,none⟩):=h.dep 83 86 rfl rfl;refine rq_pure hrefl (wanted_g rfl (yielded_of (d:=85) rfl (h.dep 82 85 rfl rfl))) ?_;simp only[execOp,e86];simp[go_sem])
  ·(have e87:A.eval (.tmp 87)=.pointer (some ⟨B,0,none⟩):=h.dep 84 87 rfl rfl;refine rq_pure hrefl (wanted_g rfl (yielded_of (d:=85) rfl (h.dep 82 85 rfl rfl))) ?_;simp only[execOp,e87];simp[go_sem])
  ·(have e88:A.eval (.tmp 88)=.pointer (some ⟨B,12,none⟩):=h.dep 85 88 rfl rfl;refine rq_pure hrefl (wanted_g rfl (yielded_of (d:=85) rfl (h.dep 82 85 rfl rfl))) ?_;simp only[execOp,e88];(have q:=(h.rel.1.cellOf hB hBM).trans (hbag 12 (by omega));simp[bagV]at q;simp[go_sem,q]))
  ·exact rq_calln (wanted_g rfl (yielded_of (d:=85) rfl (h.dep 82 85 rfl rfl))) rfl (enters_of Tryz.func53 (by kernel_rfl) rfl) (args1 (h.dep 86 89 rfl rfl)) (RelA.nil (RelA.size h.rel) (kit_flatPlaces_nil W))
  ·exact rq_pick hrefl rfl rfl (h.dep 82 85 rfl rfl) (h.dep 87 90 rfl rfl)
  ·exact rq_move hrefl rfl rfl (h.dep 88 91 rfl rfl)
  ·exact rq_move hrefl (wanted_g rfl (yielded_of (d:=92) rfl (h.dep 89 92 rfl rfl))) rfl (h.frame 0 rfl)
  ·(have e93:A.eval (.tmp 93)=.pointer (some ⟨B,0,none⟩):=h.dep 90 93 rfl rfl;refine rq_pure hrefl (wanted_g rfl (yielded_of (d:=92) rfl (h.dep 89 92 rfl rfl))) ?_;simp only[execOp,e93];simp[go_sem])
  ·(have e94:A.eval (.tmp 94)=.pointer (some ⟨B,0,none⟩):=h.dep 91 94 rfl rfl;refine rq_pure hrefl (wanted_g rfl (yielded_of (d:=92) rfl (h.dep 89 92 rfl rfl))) ?_;simp only[execOp,e94];simp[go_sem])
  ·(have e95:A.eval (.tmp 95)=.pointer (some ⟨B,13,none⟩):=h.dep 92 95 rfl rfl;refine rq_pure hrefl (wanted_g rfl (yielded_of (d:=92) rfl (h.dep 89 92 rfl rfl))) ?_;simp only[execOp,e95];(have q:=(h.rel.1.cellOf hB hBM).trans (hbag 13 (by omega));simp[bagV]at q;simp[go_sem,q]))
  ·exact rq_calln (wanted_g rfl (yielded_of (d:=92) rfl (h.dep 89 92 rfl rfl))) rfl (enters_of Tryz.func54 (by kernel_rfl) rfl) (args1 (h.dep 93 96 rfl rfl)) (RelA.nil (RelA.size h.rel) (kit_flatPostings_nil W))
  ·exact rq_pick hrefl rfl rfl (h.dep 89 92 rfl rfl) (h.dep 94 97 rfl rfl)
  ·exact rq_move hrefl rfl rfl (h.dep 95 98 rfl rfl)
  ·exact rq_move hrefl (wanted_g rfl (yielded_of (d:=99) rfl (h.dep 96 99 rfl rfl))) rfl (h.frame 0 rfl)
  ·(have e100:A.eval (.tmp 100)=.pointer (some ⟨B,0,none⟩):=h.dep 97 100 rfl rfl;refine rq_pure hrefl (wanted_g rfl (yielded_of (d:=99) rfl (h.dep 96 99 rfl rfl))) ?_;simp only[execOp,e100];simp[go_sem])
  ·(have e101:A.eval (.tmp 101)=.pointer (some ⟨B,0,none⟩):=h.dep 98 101 rfl rfl;refine rq_pure hrefl (wanted_g rfl (yielded_of (d:=99) rfl (h.dep 96 99 rfl rfl))) ?_;simp only[execOp,e101];simp[go_sem])
  ·(have e102:A.eval (.tmp 102)=.pointer (some ⟨B,14,none⟩):=h.dep 99 102 rfl rfl;refine rq_pure hrefl (wanted_g rfl (yielded_of (d:=99) rfl (h.dep 96 99 rfl rfl))) ?_;simp only[execOp,e102];(have q:=(h.rel.1.cellOf hB hBM).trans (hbag 14 (by omega));simp[bagV]at q;simp[go_sem,q]))
  ·exact rq_calln (wanted_g rfl (yielded_of (d:=99) rfl (h.dep 96 99 rfl rfl))) rfl (enters_of Tryz.func55 (by kernel_rfl) rfl) (args1 (h.dep 100 103 rfl rfl)) (RelA.nil (RelA.size h.rel) (kit_flatShardRefs_nil W))
  ·exact rq_pick hrefl rfl rfl (h.dep 96 99 rfl rfl) (h.dep 101 104 rfl rfl)
  ·exact rq_move hrefl rfl rfl (h.dep 102 105 rfl rfl)
  ·exact rq_move hrefl (wanted_g rfl (yielded_of (d:=106) rfl (h.dep 103 106 rfl rfl))) rfl (h.frame 0 rfl)
  ·(have e107:A.eval (.tmp 107)=.pointer (some ⟨B,0,none⟩):=h.dep 104 107 rfl rfl;refine rq_pure hrefl (wanted_g rfl (yielded_of (d:=106) rfl (h.dep 103 106 rfl rfl))) ?_;simp only[execOp,e107];simp[go_sem])
  ·(have e108:A.eval (.tmp 108)=.pointer (some ⟨B,0,none⟩):=h.dep 105 108 rfl rfl;refine rq_pure hrefl (wanted_g rfl (yielded_of (d:=106) rfl (h.dep 103 106 rfl rfl))) ?_;simp only[execOp,e108];simp[go_sem])
  ·(have e109:A.eval (.tmp 109)=.pointer (some ⟨B,15,none⟩):=h.dep 106 109 rfl rfl;refine rq_pure hrefl (wanted_g rfl (yielded_of (d:=106) rfl (h.dep 103 106 rfl rfl))) ?_;simp only[execOp,e109];(have q:=(h.rel.1.cellOf hB hBM).trans (hbag 15 (by omega));simp[bagV]at q;simp[go_sem,q]))
  ·exact rq_calln (wanted_g rfl (yielded_of (d:=106) rfl (h.dep 103 106 rfl rfl))) rfl (enters_of Tryz.func56 (by kernel_rfl) rfl) (args1 (h.dep 107 110 rfl rfl)) (RelA.nil (RelA.size h.rel) (kit_flatManifests_nil W))
  ·exact rq_pick hrefl rfl rfl (h.dep 103 106 rfl rfl) (h.dep 108 111 rfl rfl)
  ·exact rq_move hrefl rfl rfl (h.dep 109 112 rfl rfl)
  ·exact rq_move hrefl (wanted_g rfl (yielded_of (d:=113) rfl (h.dep 110 113 rfl rfl))) rfl (h.frame 0 rfl)
  ·(have e114:A.eval (.tmp 114)=.pointer (some ⟨B,0,none⟩):=h.dep 111 114 rfl rfl;refine rq_pure hrefl (wanted_g rfl (yielded_of (d:=113) rfl (h.dep 110 113 rfl rfl))) ?_;simp only[execOp,e114];simp[go_sem])
  ·(have e115:A.eval (.tmp 115)=.pointer (some ⟨B,0,none⟩):=h.dep 112 115 rfl rfl;refine rq_pure hrefl (wanted_g rfl (yielded_of (d:=113) rfl (h.dep 110 113 rfl rfl))) ?_;simp only[execOp,e115];simp[go_sem])
  ·(have e116:A.eval (.tmp 116)=.pointer (some ⟨B,16,none⟩):=h.dep 113 116 rfl rfl;refine rq_pure hrefl (wanted_g rfl (yielded_of (d:=113) rfl (h.dep 110 113 rfl rfl))) ?_;simp only[execOp,e116];(have q:=(h.rel.1.cellOf hB hBM).trans (hbag 16 (by omega));simp[bagV]at q;simp[go_sem,q]))
  ·exact rq_calln (wanted_g rfl (yielded_of (d:=113) rfl (h.dep 110 113 rfl rfl))) rfl (enters_of Tryz.func57 (by kernel_rfl) rfl) (args1 (h.dep 114 117 rfl rfl)) (RelA.nil (RelA.size h.rel) (kit_flatAsks_nil W))
  ·exact rq_pick hrefl rfl rfl (h.dep 110 113 rfl rfl) (h.dep 115 118 rfl rfl)
  ·exact rq_move hrefl rfl rfl (h.dep 116 119 rfl rfl)
  ·exact rq_move hrefl (wanted_g rfl (yielded_of (d:=120) rfl (h.dep 117 120 rfl rfl))) rfl (h.frame 0 rfl)
  ·(have e121:A.eval (.tmp 121)=.pointer (some ⟨B,0,none⟩):=h.dep 118 121 rfl rfl;refine rq_pure hrefl (wanted_g rfl (yielded_of (d:=120) rfl (h.dep 117 120 rfl rfl))) ?_;simp only[execOp,e121];simp[go_sem])
  ·(have e122:A.eval (.tmp 122)=.pointer (some ⟨B,0,none⟩):=h.dep 119 122 rfl rfl;refine rq_pure hrefl (wanted_g rfl (yielded_of (d:=120) rfl (h.dep 117 120 rfl rfl))) ?_;simp only[execOp,e122];simp[go_sem])
  ·(have e123:A.eval (.tmp 123)=.pointer (some ⟨B,17,none⟩):=h.dep 120 123 rfl rfl;refine rq_pure hrefl (wanted_g rfl (yielded_of (d:=120) rfl (h.dep 117 120 rfl rfl))) ?_;simp only[execOp,e123];(have q:=(h.rel.1.cellOf hB hBM).trans (hbag 17 (by omega));simp[bagV]at q;simp[go_sem,q]))
  ·exact rq_calln (wanted_g rfl (yielded_of (d:=120) rfl (h.dep 117 120 rfl rfl))) rfl (enters_of Tryz.func58 (by kernel_rfl) rfl) (args1 (h.dep 121 124 rfl rfl)) (RelA.nil (RelA.size h.rel) (kit_flatHits_nil W))
  ·exact rq_pick hrefl rfl rfl (h.dep 117 120 rfl rfl) (h.dep 122 125 rfl rfl)
  ·exact rq_move hrefl rfl rfl (h.dep 123 126 rfl rfl)
  ·exact rq_move hrefl (wanted_g rfl (yielded_of (d:=127) rfl (h.dep 124 127 rfl rfl))) rfl (h.frame 0 rfl)
  ·(have e128:A.eval (.tmp 128)=.pointer (some ⟨B,0,none⟩):=h.dep 125 128 rfl rfl;refine rq_pure hrefl (wanted_g rfl (yielded_of (d:=127) rfl (h.dep 124 127 rfl rfl))) ?_;simp only[execOp,e128];simp[go_sem])
  ·(have e129:A.eval (.tmp 129)=.pointer (some ⟨B,0,none⟩):=h.dep 126 129 rfl rfl;refine rq_pure hrefl (wanted_g rfl (yielded_of (d:=127) rfl (h.dep 124 127 rfl rfl))) ?_;simp only[execOp,e129];simp[go_sem])
  ·(have e130:A.eval (.tmp 130)=.pointer (some ⟨B,18,none⟩):=h.dep 127 130 rfl rfl;refine rq_pure hrefl (wanted_g rfl (yielded_of (d:=127) rfl (h.dep 124 127 rfl rfl))) ?_;simp only[execOp,e130];(have q:=(h.rel.1.cellOf hB hBM).trans (hbag 18 (by omega));simp[bagV]at q;simp[go_sem,q]))
  ·exact rq_calln (wanted_g rfl (yielded_of (d:=127) rfl (h.dep 124 127 rfl rfl))) rfl (enters_of Tryz.func59 (by kernel_rfl) rfl) (args1 (h.dep 128 131 rfl rfl)) (RelA.nil (RelA.size h.rel) (kit_flatAnswers_nil W))
  ·exact rq_pick hrefl rfl rfl (h.dep 124 127 rfl rfl) (h.dep 129 132 rfl rfl)
  ·exact rq_move hrefl rfl rfl (h.dep 130 133 rfl rfl)
  ·exact rq_move hrefl (wanted_g rfl (yielded_of (d:=134) rfl (h.dep 131 134 rfl rfl))) rfl (h.frame 0 rfl)
  ·(have e135:A.eval (.tmp 135)=.pointer (some ⟨B,0,none⟩):=h.dep 132 135 rfl rfl;refine rq_pure hrefl (wanted_g rfl (yielded_of (d:=134) rfl (h.dep 131 134 rfl rfl))) ?_;simp only[execOp,e135];simp[go_sem])
  ·(have e136:A.eval (.tmp 136)=.pointer (some ⟨B,0,none⟩):=h.dep 133 136 rfl rfl;refine rq_pure hrefl (wanted_g rfl (yielded_of (d:=134) rfl (h.dep 131 134 rfl rfl))) ?_;simp only[execOp,e136];simp[go_sem])
  ·(have e137:A.eval (.tmp 137)=.pointer (some ⟨B,19,none⟩):=h.dep 134 137 rfl rfl;refine rq_pure hrefl (wanted_g rfl (yielded_of (d:=134) rfl (h.dep 131 134 rfl rfl))) ?_;simp only[execOp,e137];(have q:=(h.rel.1.cellOf hB hBM).trans (hbag 19 (by omega));simp[bagV]at q;simp[go_sem,q]))
  ·exact rq_calln (wanted_g rfl (yielded_of (d:=134) rfl (h.dep 131 134 rfl rfl))) rfl (enters_of Tryz.func60 (by kernel_rfl) rfl) (args1 (h.dep 135 138 rfl rfl)) (RelA.nil (RelA.size h.rel) (kit_flatParts_nil W))
  ·exact rq_pick hrefl rfl rfl (h.dep 131 134 rfl rfl) (h.dep 136 139 rfl rfl)
  ·exact rq_move hrefl rfl rfl (h.dep 137 140 rfl rfl)
  ·exact rq_move hrefl (wanted_g rfl (yielded_of (d:=141) rfl (h.dep 138 141 rfl rfl))) rfl (h.frame 0 rfl)
  ·(have e142:A.eval (.tmp 142)=.pointer (some ⟨B,0,none⟩):=h.dep 139 142 rfl rfl;refine rq_pure hrefl (wanted_g rfl (yielded_of (d:=141) rfl (h.dep 138 141 rfl rfl))) ?_;simp only[execOp,e142];simp[go_sem])
  ·(have e143:A.eval (.tmp 143)=.pointer (some ⟨B,0,none⟩):=h.dep 140 143 rfl rfl;refine rq_pure hrefl (wanted_g rfl (yielded_of (d:=141) rfl (h.dep 138 141 rfl rfl))) ?_;simp only[execOp,e143];simp[go_sem])
  ·(have e144:A.eval (.tmp 144)=.pointer (some ⟨B,20,none⟩):=h.dep 141 144 rfl rfl;refine rq_pure hrefl (wanted_g rfl (yielded_of (d:=141) rfl (h.dep 138 141 rfl rfl))) ?_;simp only[execOp,e144];(have q:=(h.rel.1.cellOf hB hBM).trans (hbag 20 (by omega));simp[bagV]at q;simp[go_sem,q]))
  ·exact rq_calln (wanted_g rfl (yielded_of (d:=141) rfl (h.dep 138 141 rfl rfl))) rfl (enters_of Tryz.func61 (by kernel_rfl) rfl) (args1 (h.dep 142 145 rfl rfl)) (RelA.nil (RelA.size h.rel) (kit_flatChanges_nil W))
  ·exact rq_pick hrefl rfl rfl (h.dep 138 141 rfl rfl) (h.dep 143 146 rfl rfl)
 case en =>
  intro vals W hbw hv;simp only[List.append,fa,Nat.reduceAdd];rw[e_ hv 0,e_ hv 1,e_ hv 2,e_ hv 3,e_ hv 4,e_ hv 5,e_ hv 6,e_ hv 7,e_ hv 8,e_ hv 9,e_ hv 10,e_ hv 11,e_ hv 12,e_ hv 13,e_ hv 14,e_ hv 15,e_ hv 16,e_ hv 17,e_ hv 18,e_ hv 19,e_ hv 20,e_ hv 21,e_ hv 22,e_ hv 23,e_ hv 24,e_ hv 25,e_ hv 26,e_ hv 27,e_ hv 28,e_ hv 29,e_ hv 30,e_ hv 31,e_ hv 32,e_ hv 33,e_ hv 34,e_ hv 35,e_ hv 36,e_ hv 37,e_ hv 38,e_ hv 39,e_ hv 40,e_ hv 41,e_ hv 42,e_ hv 43,e_ hv 44,e_ hv 45,e_ hv 46,e_ hv 47,e_ hv 48,e_ hv 49,e_ hv 50,e_ hv 51,e_ hv 52,e_ hv 53,e_ hv 54,e_ hv 55,e_ hv 56,e_ hv 57,e_ hv 58,e_ hv 59,e_ hv 60,e_ hv 61,e_ hv 62,e_ hv 63,e_ hv 64,e_ hv 65,e_ hv 66,e_ hv 67,e_ hv 68,e_ hv 69,e_ hv 70,e_ hv 71,e_ hv 72,e_ hv 73,e_ hv 74,e_ hv 75,e_ hv 76,e_ hv 77,e_ hv 78,e_ hv 79,e_ hv 80,e_ hv 81,e_ hv 82,e_ hv 83,e_ hv 84,e_ hv 85,e_ hv 86,e_ hv 87,e_ hv 88,e_ hv 89,e_ hv 90,e_ hv 91,e_ hv 92,e_ hv 93,e_ hv 94,e_ hv 95,e_ hv 96,e_ hv 97,e_ hv 98,e_ hv 99,e_ hv 100,e_ hv 101,e_ hv 102,e_ hv 103,e_ hv 104,e_ hv 105,e_ hv 106,e_ hv 107,e_ hv 108,e_ hv 109,e_ hv 110,e_ hv 111,e_ hv 112,e_ hv 113,e_ hv 114,e_ hv 115,e_ hv 116,e_ hv 117,e_ hv 118,e_ hv 119,e_ hv 120,e_ hv 121,e_ hv 122,e_ hv 123,e_ hv 124,e_ hv 125,e_ hv 126,e_ hv 127,e_ hv 128,e_ hv 129,e_ hv 130,e_ hv 131,e_ hv 132,e_ hv 133,e_ hv 134,e_ hv 135,e_ hv 136,e_ hv 137,e_ hv 138,e_ hv 139,e_ hv 140,e_ hv 141,e_ hv 142,e_ hv 143,e_ hv 144]
  clear hv
  try simp only[pl]
  have R:=Lib.hid hbw;clear hbw
  go_wp2
  go_ret;exact⟨rfl,R.out⟩
def bagC (lsv:Value):Array Value:=#[.slice none 0 0,.slice none 0 0,lsv,.slice none 0 0,.slice none 0 0,.slice none 0 0,.slice none 0 0,.slice none 0 0,.slice none 0 0,.slice none 0 0,.slice none 0 0,.slice none 0 0,.slice none 0 0,.slice none 0 0,.slice none 0 0,.slice none 0 0,.slice none 0 0,.slice none 0 0,.slice none 0 0,.slice none 0 0,.slice none 0 0]
def Bag (W:World) (B:Nat) (lsv:Value):Prop:=W.heap[B]?=some (.cells (bagC lsv) 83 (0,0))
theorem Bag.lt {W:World} {B:Nat} {lsv:Value} (h:Bag W B lsv):B<W.heap.size:=(Array.getElem?_eq_some_iff.1 h).1
theorem Bag.cell {W:World} {B:Nat} {lsv:Value} (h:Bag W B lsv) {k:Nat} (hk:k<21):W.cell? ⟨B,k,none⟩=some (bagV lsv k):=by
 rw[cell_of_row W B k _ _ _ h];have:∀ k,k<21→(bagC lsv)[k]?=some (bagV lsv k):=by
  intro k hk
  match k,hk with
  | 0,_=>rfl
  | 1,_=>rfl
  | 2,_=>rfl
  | 3,_=>rfl
  | 4,_=>rfl
  | 5,_=>rfl
  | 6,_=>rfl
  | 7,_=>rfl
  | 8,_=>rfl
  | 9,_=>rfl
  | 10,_=>rfl
  | 11,_=>rfl
  | 12,_=>rfl
  | 13,_=>rfl
  | 14,_=>rfl
  | 15,_=>rfl
  | 16,_=>rfl
  | 17,_=>rfl
  | 18,_=>rfl
  | 19,_=>rfl
  | 20,_=>rfl
  | k+21,hk=>exact absurd hk (by omega)
 exact this k hk
theorem Bag.frozen {W:World} {B:Nat} {lsv:Value} (h:Bag W B lsv) (k:Nat):W.frozen? ⟨B,k,none⟩=false:=by
 simp[World.frozen?,show W.heap[B]?=_ from h]
theorem Bag.set {W:World} {B:Nat} {lsv:Value} (h:Bag W B lsv) (x:Value):Bag (W.setCell ⟨B,2,none⟩ x) B x:=by
 obtain⟨hlt,hh⟩:=Array.getElem?_eq_some_iff.1 h
 show (W.heap.modify B _)[B]?=_
 rw[Array.getElem?_eq_getElem (by rw[Array.size_modify];exact hlt),Array.getElem_modify_self,hh]
 rfl
theorem Bag.kept {W W':World} {B:Nat} {lsv:Value} {row:Option Nat} (h:Bag W B lsv) (hg:W.grownBy W' row) (hr:row≠some B):Bag W' B lsv:=(hg.block B h.lt (fun e=>hr e.symm)).trans h
theorem Bag.below {W W':World} {B:Nat} {lsv:Value} (h:Bag W B lsv) (hb:Below W.heap.size W W'):Bag W' B lsv:=(hb.block B h.lt).trans h
theorem Bag.ne {W:World} {B:Nat} {lsv:Value} (h:Bag W B lsv) {base:Nat} {e:TypeId} {s:Nat} {v:Value} {n:Nat} {xs:List Value} (ho:W.ownsRow base e s v n xs) (hne:e≠83):v.ownBlock≠some B:=by
 intro hb;obtain⟨_,_,cur,hc⟩:=own_block ho hb;rw[show W.heap[B]?=_ from h]at hc
 cases hc
 exact hne rfl
theorem kit_putInts (B b0 k:Nat) (lsv l:Value) (xs:List Value) (w:World) (hk:k≤1000) (hbag:Bag w B lsv) (hown:w.ownsRow b0 27 1 lsv k xs) (hb0:b0≤B) (hl:∃ p n c,l=.slice p n c) :
  Calls Tryz.prog 26 #[.pointer (some ⟨B,0,none⟩),l] w fun e w'=>e=.returned (.tuple #[])∧∃ lsv',Bag w' B lsv'∧w'.ownsRow b0 27 1 lsv' (k+1) (xs++[l])∧Below b0 w w':=by
 obtain⟨i3,hi3,hy0,hy1,hy2⟩:=info_parts info_ints;obtain⟨pl,nl,cl,rfl⟩:=hl;obtain⟨pv,cv,rfl⟩:=own_form hown;have hlt:=hbag.lt;have HB:=Lib.hid hbag;clear hbag;have HO:=Lib.hid hown;clear hown
 go_enter Tryz.func26,Tryz.ntmps26
 go_upto_region 0 with fail
 refine wp_region_seq 7 [fun v _=>v=.pointer (some ⟨B,0,none⟩),fun v _=>v=.pointer (some ⟨B,0,none⟩),fun v _=>v=.pointer (some ⟨B,0,none⟩),fun v _=>v=.pointer (some ⟨B,2,none⟩),fun v _=>v=.slice pv k cv,fun v _=>v=.slice pl nl cl,OneV 27 (.slice pl nl cl)] (fun _=>false) (by kernel_rfl) (by kernel_rfl) (by repeat (first|exact trivial|refine⟨stable_eq _,?_⟩|refine⟨stable_oneV _ _,?_⟩)) (fun _ _ h=>by cases h) ?ob ?en
 case ob =>
  refine⟨?_,?_,?_,?_,?_,?_,?_,trivial⟩<;>intro A W h
  ·exact rs_move rfl rfl (h.frame 0 rfl)
  ·exact rs_move rfl rfl (h.frame 0 rfl)
  ·(have e5:A.eval (.tmp 5)=.pointer (some ⟨B,0,none⟩):=h.dep 1 5 rfl rfl;refine rs_pure rfl ?_;simp only[execOp,e5];simp[go_sem])
  ·(have e6:A.eval (.tmp 6)=.pointer (some ⟨B,0,none⟩):=h.dep 2 6 rfl rfl;refine rs_pure rfl ?_;simp only[execOp,e6];simp[go_sem])
  ·(have e7:A.eval (.tmp 7)=.pointer (some ⟨B,2,none⟩):=h.dep 3 7 rfl rfl;refine rs_pure rfl ?_;simp only[execOp,e7];(have q:=(HB.out.below h.below).cell (k:=2) (by omega);simp[bagV]at q;simp[go_sem,q]))
  ·exact rs_move rfl rfl (h.frame 1 rfl)
  ·exact rs_build1v rfl rfl (h.dep 5 9 rfl rfl) (fun W=>by simp[go_sem]) (by decide)
 case en =>
  intro vals W hbw hv _;have x6:=hv 6 (by omega);simp only[lookS]at x6
  simp only[fa,Nat.reduceAdd];rw[e_ hv 0,e_ hv 1,e_ hv 2,e_ hv 3,e_ hv 4,e_ hv 5];clear hv
  try simp only[pl]
  obtain⟨gb,e6,s6⟩:=x6;rw[e6];have o1:=own_below HO.out hbw;have b1:=HB.out.below hbw;have hs:=hbw.size;refine wpList_append_two W rfl _ _ 34 rfl b0 27 i3 _ 1 24 Tryz.underlying34 hi3 hy0 hy1 hy2 rfl (by decide) (.slice pv k cv) k _ rfl o1 ⟨gb,0,none⟩ 1 1 [.slice pl nl cl] rfl rfl (OneV.news s6) (by simp[Value.oneCell']) (by unfold maxLen;omega) (by omega) (by omega) (by decide) ?_
  intro v5 w5 own5 grow5;have hany:=grow5.any;have b5:=b1.kept hany (b1.ne o1 (by decide))
  have bel5:Below b0 w w5:=(hbw.mono (by omega)).grown hany (by omega) (fun g e=>(own_block o1 e).2.1)
  have hne5:=b5.ne own5 (by decide)
  obtain⟨p5,c5,rfl⟩:=own_form own5;have hcell:=b5.cell (k:=2) (by omega)
  have hf:=b5.frozen 2;have B6:=Lib.hid (b5.set (.slice p5 (k+1) c5));have O6:=Lib.hid (own_kept' own5 (grownBy_setCellF w5 B 2 (.slice p5 (k+1) c5)) (fun g e=>by cases e;exact hne5))
  have BL6:=Lib.hid (bel5.setCell (p:=⟨B,2,none⟩) (by omega) (.slice p5 (k+1) c5))
  clear o1 b1 own5 grow5 hany b5 bel5 hne5 hbw s6
  go_wp2
  go_end0
  exact⟨rfl,_,B6.out,O6.out,BL6.out⟩
theorem kit_ApartInts (G cap K base:Nat) (V:Nat→Value) (N:Nat→Nat) (X:Nat→List Value) (w:World) (hK:K≤1000) (hK0:0<K) (hN:∀ j,j<K→N j≤4194304) (hG:G<w.heap.size) (hcell:∀ k,k<K→w.cell? ⟨G,k,none⟩=some (V k))
  (hbase:base≤w.heap.size) (hfam:Fam 3 1 base w K V V N N X X) :
  Calls Tryz.prog 12 #[.slice (some ⟨G,0,none⟩) K cap] w fun e w'=>e=.returned (.bool true)∧KeepBut (Mine K V) w.heap.size w w'∧∃ X',Fam 3 1 base w' K V V N N X' X':=by
 have HC:=Lib.hid hcell;clear hcell;have HF:=Lib.hid hfam;clear hfam;have HN:=Lib.hid hN;clear hN
 go_enter Tryz.func12,Tryz.ntmps12
 go_wp2_with fail
 have hb1:Bag (w.alloc (.cells (bagC (.slice none 0 0)) 83)) w.heap.size (.slice none 0 0):=World.alloc_heap_new w _;have bel1:Below w.heap.size w (w.alloc (.cells (bagC (.slice none 0 0)) 83)):=(Below.refl _ w).alloc (Nat.le_refl _) _;have HB1:=Lib.hid hb1;clear hb1;have BL1:=Lib.hid bel1;clear bel1
 go_loopw [4] (fun n wr=>∃ k:Nat,k≤K∧n=.int .i64 k∧Hid (∃ lsv,Bag wr w.heap.size lsv∧wr.ownsRow w.heap.size 27 1 lsv k (rowV V k)∧Below w.heap.size w wr)) (fun n _=>K - (intOf n).toNat)
 case atStart=>exact⟨0,by omega,rfl,_,HB1.out,⟨rfl,.inl ⟨rfl,rfl⟩⟩,BL1.out⟩
 case round =>
  clear HB1 BL1;obtain⟨k,hk,rfl,S⟩:=hrel;obtain⟨lsv,S⟩:∃ lsv,Hid (Bag wr w.heap.size lsv∧wr.ownsRow w.heap.size 27 1 lsv k (rowV V k)∧Below w.heap.size w wr):=by obtain⟨l,h⟩:=S.out;exact⟨l,h⟩
  by_cases hlt:k<K
  ·have ck:=Lib.hid (HC.out k hlt);obtain⟨pk,ck2,hV⟩:∃ p c,V k=.slice p (N k) c:=own_form (HF.out.v k hlt);have HR:Hid (rowV V (k+1)=rowV V k++[V k]):=by show _=_;simp[rowV,List.range_succ]
   rw[hV]at ck HR;clear hV
   go_upto_region 5 with fail
   refine wp_region_seq 5 [fun v _=>v=.pointer (some ⟨w.heap.size,0,none⟩),fun v _=>v=.slice (some ⟨G,0,none⟩) K cap,fun v _=>v=.int .i64 (k:Int),fun v _=>v=.pointer (some ⟨G,k,none⟩),fun v _=>v=.slice pk (N k) ck2] (fun _=>false) (by kernel_rfl) (by kernel_rfl) (by repeat (first|exact trivial|refine⟨stable_eq _,?_⟩)) (fun _ _ h=>by cases h) ?ob ?en
   case ob =>
    refine⟨?_,?_,?_,?_,?_,trivial⟩<;>intro A W h
    ·exact rs_move rfl rfl (h.frame 3 rfl)
    ·exact rs_move rfl rfl (h.frame 0 rfl)
    ·exact rs_move rfl rfl (h.frame 4 rfl)
    ·exact rs_idx (sz:=1) Tryz.underlying34 (fun w=>by kernel_rfl) rfl rfl (h.dep 1 14 rfl rfl) (h.dep 2 15 rfl rfl) (by omega) (by omega)
    ·(have e16:A.eval (.tmp 16)=.pointer (some ⟨G,k,none⟩):=h.dep 3 16 rfl rfl;refine rs_pure rfl ?_;simp only[execOp,e16];(have q:=((S.out.2.2.trans (h.below.mono S.out.2.2.size)).cell (p:=⟨G,k,none⟩) hG).trans ck.out;simp[go_sem,q]))
   case en =>
    intro vals W1 hbw hv _;simp only[fa,Nat.reduceAdd];rw[e_ hv 0,e_ hv 1,e_ hv 2,e_ hv 3,e_ hv 4];clear hv
    try simp only[pl]
    have S1:=Lib.hid (And.intro (S.out.1.below hbw) (And.intro (own_below S.out.2.1 hbw) (S.out.2.2.trans (hbw.mono S.out.2.2.size))));clear hbw S
    go_wp2_with fail
    refine(kit_putInts w.heap.size w.heap.size k lsv _ _ W1 (by omega) S1.out.1 S1.out.2.1 (Nat.le_refl _) ⟨_,_,_,rfl⟩).mono ?_
    rintro e w2 ⟨rfl,lsv2,s1,s2,s3⟩;have S2:Hid (Bag w2 w.heap.size lsv2∧w2.ownsRow w.heap.size 27 1 lsv2 (k+1) (rowV V (k+1))∧Below w.heap.size w w2):=⟨s1,by rw[HR.out];exact s2,S1.out.2.2.trans s3⟩
    clear s1 s2 s3 S1
    go_wp2_with fail
    go_roundw
    case rel=>exact⟨k+1,by omega,by go_num,lsv2,S2.out⟩
    case measure=>simp[intOf];omega
  ·obtain rfl:K=k:=by omega
   have hsz:=S.out.2.2.size;have hnm:¬ Mine K V w.heap.size:=by
    rintro⟨j,hj,hb⟩;have:=(own_block (HF.out.v j hj) hb).1;omega
   have hrows:RowsAt base lsv K V N wr:=⟨X,own_base S.out.2.1 hbase,HF.out.below S.out.2.2⟩;have hform:=own_form S.out.2.1;have HRW:=Lib.hid hrows;clear hrows;have HNM:=Lib.hid hnm;clear hnm;have HFM:=Lib.hid hform;clear hform
   go_wp2_with fail
   refine(kit_apart lsv K base w.heap.size V N wr hK HN.out HRW.out (by omega) S.out.1.lt HNM.out (fun k hk=>S.out.1.cell hk) (by obtain⟨p,c,h⟩:=HFM.out;exact⟨p,_,c,h⟩)).mono ?_
   rintro e w' ⟨rfl,hrel2⟩;have R:=Lib.hid hrel2;clear hrel2
   go_wp2
   go_ret;obtain⟨X',_,hfam'⟩:=R.out.2 HRW.out;exact⟨rfl,(KeepBut.of_below S.out.2.2).trans (R.out.1.mono hsz (fun _ _ h=>h)),X',hfam'⟩
theorem InstsR.pre {G:Nat→Prop} {q:Option Addr} {c:Nat} {ps ys:List InstD} {V:World} (h:InstsR G q c (ps++ys) V):InstsR G q c ps V:=by
 obtain⟨p,cap,e,h1,h2,h0,h3⟩:=h;simp only[Value.slice.injEq]at e;obtain⟨rfl,_,rfl⟩:=e;refine⟨q,c,by simp,by simp at h1 ⊢;omega,h2,h0,fun j r hr=>h3 j r ?_⟩
 rw[List.map_append,List.getElem?_append_left (List.getElem?_eq_some_iff.1 hr).1];exact hr
def numsL (L:Str):List Int:=L.map (fun b=>(b.toNat:Int))
theorem numsL_len (L:Str):(numsL L).length=L.length:=by simp[numsL]
theorem u8s_nums (L:Str):u8s (numsL L)=L.map (fun b=>Value.int .u8 b.toNat):=by simp[u8s,numsL]
theorem Rd.grown {w0 w:World} {v:Value} {cs:List Value} (h:Rd w0 w0.heap.size v cs) (hb:Below w0.heap.size w0 w):Rd w w.heap.size v cs:=(h.below hb).up hb.size
def LentS (g:Nat) (L:Str) (V:World):Prop:=∀ j,j<L.length+12→V.cell? ⟨g,j,none⟩=(u8s (numsL L)++marksBytes 12)[j]?
theorem LentS.bytes {g cap:Nat} {L:Str} {V:World} (h:LentS g L V) (h1:L.length+12≤cap) (h2:cap≤maxLen):BytesR (·=g) (some ⟨g,0,none⟩) cap L V:=by
 refine⟨_,cap,by rw[List.length_map],by simp;omega,h2,(fun h=>by cases h),fun j r hr=>⟨g,0,rfl,rfl,?_,fun k hk=>?_⟩⟩
 ·rw[List.getElem?_map]at hr;obtain⟨x,_,rfl⟩:=Option.map_eq_some_iff.1 hr;rfl
 ·rw[List.getElem?_map]at hr;obtain⟨x,hx,rfl⟩:=Option.map_eq_some_iff.1 hr;obtain rfl:k=0:=by omega
  obtain⟨hlt,rfl⟩:=List.getElem?_eq_some_iff.1 hx;have:=h j (by omega)
  rw[show (0+j * 1+0)=j by omega,this,List.getElem?_append_left (by simp[u8s,numsL];exact hlt),u8s_nums,List.getElem?_map,List.getElem?_eq_getElem hlt]
  rfl
theorem LentS.lent {g cap b0:Nat} {L:Str} {V:World} (h:LentS g L V) (h1:L.length+12≤cap) (h2:cap≤maxLen) (hb:b0≤g) (hg:g<V.heap.size):Lent b0 V (.slice (some ⟨g,0,none⟩) L.length cap) (u8s (numsL L)) (marksBytes 12):=by
 have hl:(u8s (numsL L)).length=L.length:=by simp[u8s,numsL]
 exact⟨g,cap,by rw[hl],hb,hg,by rw[hl];exact h1,h2,fun j hj=>h j (by rw[hl]at hj;exact hj)⟩
section
variable {M:Nat→Prop} {P:Program} {f:FuncId} {args:Array Value} {w w0:World} {l:List Res} {R:Ending→World→Prop}
theorem chLI {ps:List InstD} (c:Calls P f args w fun e w'=>∃ g cap,e=.returned (.slice (some ⟨g,0,none⟩) ps.length cap)∧w'.ownsRow w.heap.size 43 9 (.slice (some ⟨g,0,none⟩) (ps.length+12) cap) (ps.length+12) (flatR ((ps++marksI 12).map instC))∧Below w.heap.size w w') (H:HoldG M w0 w l)
  (k:∀ g cap w',HoldG M w0 w' (l++[.kn (·=g) (InstsR (·=g) (some ⟨g,0,none⟩) cap (ps++marksI 12))])→R (.returned (.slice (some ⟨g,0,none⟩) ps.length cap)) w'):Calls P f args w R:=c.mono fun _ w' h=>by
 obtain⟨g,cap,rfl,ho,hb⟩:=h;have hlen:((ps++marksI 12).map instC).length=ps.length+12:=by simp[marksI_len]
 refine k g cap w' (H.learn hb Still.none (fun b hb'=>by subst hb';exact⟨(World.ownsRow.lt ho b rfl).2,.inl (World.ownsRow.lt ho b rfl).1⟩) (fun V hV=>?_))
 have:=RdN.of_own (V:=V) ho (instsX_size _) hlen (fun b hb'=>by
  have e:some g=some b:=hb'
  cases e;exact hV g rfl)
 have h2:=this.mono (G:=(·=g)) (fun b hb'=>by have e:some g=some b:=hb';cases e;rfl)
 unfold InstsR;rw[List.length_append,marksI_len];exact h2
theorem chLB {L:Str} (c:Calls P f args w fun e w'=>∃ r,e=.returned r∧Lent w.heap.size w' r (u8s (numsL L)) (marksBytes 12)∧Below w.heap.size w w') (H:HoldG M w0 w l)
  (k:∀ g cap w',Hid (w0.heap.size≤g∧L.length+12≤cap∧cap≤maxLen)→HoldG M w0 w' (l++[.kn (·=g) (LentS g L)])→R (.returned (.slice (some ⟨g,0,none⟩) L.length cap)) w'):Calls P f args w R:=c.mono fun _ w' h=>by
 obtain⟨r,rfl,⟨g,cap,rfl,hg0,hg1,hc,hm,hcell⟩,hb⟩:=h;have hl:(u8s (numsL L)).length=L.length:=by simp[u8s,numsL]
 rw[hl]at hc hcell ⊢;refine k g cap w' (Lib.hid ⟨Nat.le_trans H.keep.size hg0,hc,hm⟩) (H.learn hb Still.none (fun b hb'=>by subst hb';exact⟨hg1,.inl hg0⟩) (fun V hV j hj=>?_))
 rw[← hcell j hj];simp[World.cell?,hV g rfl]
theorem chRO {sl:Slots} (c:Calls P f args w fun e w'=>RunOwn w (some sl) e w'∧Below w.heap.size w w') (H:HoldG M w0 w l)
  (k:∀ q n w',HoldG M w0 w' (l++[.row (.slice q sl.length n) 3 1 sl.length (sl.map (.int .i64))])→R (.returned (.tuple #[.slice q sl.length n,.bool true])) w'):Calls P f args w R:=c.mono fun _ w' h=>by
 obtain⟨⟨q,n,rfl,ho⟩,hb⟩:=h;exact k q n w' (H.gainRowX hb ho)
theorem chRO0 (c:Calls P f args w fun e w'=>RunOwn w none e w'∧Below w.heap.size w w') (H:HoldG M w0 w l)
  (k:∀ w',HoldG M w0 w' (l++[.row (.slice none 0 0) 3 1 0 []])→R (.returned (.tuple #[.slice none 0 0,.bool false])) w'):Calls P f args w R:=c.mono fun _ w' h=>by
 obtain⟨rfl,hb⟩:=h;exact k w' ((H.call hb).addNil 3 1)
end
theorem Hold.afterMine {w0 w w':World} {l:List Res} (H:Hold w0 w l) {N:Nat→Prop} (hk:KeepBut N w.heap.size w w') (hN:∀ b,N b→w0.heap.size≤b) {i j:Nat} {F G:Nat→Prop} {S T:World→Prop} (hi:At l i (.kn F S)) (hj:At l j (.kn G T)) (hF:∀ b,F b→b<w0.heap.size) (hG:∀ b,G b→b<w0.heap.size):Hold w0 w' [.kn F S,.kn G T]:=by
 have hs:=H.keep.size;have hold:∀ b,b<w0.heap.size→w'.heap[b]?=w.heap[b]?:=fun b hb=>hk.old b (by omega) (fun h=>by have:=hN b h;omega)
 have h1:=H.all i _ hi.get;have h2:=H.all j _ hj.get;have hkeep:KeepBut (fun _=>False) w0.heap.size w0 w':=H.keep.trans ⟨hk.os,hk.tape,hk.output,hk.size,fun b hb _=>hold b hb⟩
 refine⟨hkeep,fun k r hr=>?_,fun a b r s hab hr hs'=>?_⟩
 ·match k,hr with
  | 0,hr=>simp at hr;subst hr;exact⟨fun b hb=>Nat.lt_of_lt_of_le (h1.1 b hb) hk.size,fun V hV=>h1.2 V (fun b hb=>(hV b hb).trans (hold b (hF b hb)))⟩
  | 1,hr=>simp at hr;subst hr;exact⟨fun b hb=>Nat.lt_of_lt_of_le (h2.1 b hb) hk.size,fun V hV=>h2.2 V (fun b hb=>(hV b hb).trans (hold b (hG b hb)))⟩
  | k+2,hr=>simp at hr
 ·match a,hr with
  | 0,hr=>simp at hr;subst hr;intro b hb;cases hb
  | 1,hr=>simp at hr;subst hr;intro b hb;cases hb
  | a+2,hr=>simp at hr
theorem ap_two {w0 w:World} {l:List Res} (H:Hold w0 w l) {i j k g n c1 c2:Nat} {q1 q2:Option Addr} {xs:List Value} (hij:i≠j) (hi:At l i (.row (.slice q1 n c1) 3 1 n xs)) (hj:At l j (.row (.slice q2 n c2) 3 1 n xs)) (hk:At l k (.blk g #[.slice q1 n c1,.slice q2 n c2] 27)) (hn:n≤4194304) :
  Calls Tryz.prog 12 #[.slice (some ⟨g,0,none⟩) 2 2] w fun e w'=>e=.returned (.bool true)∧KeepBut (Mine 2 (fun j=>if j=0 then .slice q1 n c1 else .slice q2 n c2)) w.heap.size w w':=by
 have h1:=H.all i _ hi.get;have h2:=H.all j _ hj.get;refine(kit_ApartInts g 2 2 w0.heap.size (fun j=>if j=0 then .slice q1 n c1 else .slice q2 n c2) (fun _=>n) (fun _=>xs) w (by omega) (by omega) (fun _ _=>hn) (Array.getElem?_eq_some_iff.1 (H.blk hk).2).1 (fun m hm=>?_) H.keep.size ⟨fun m hm=>?_,fun m hm=>?_,fun m hm g' n' c' m' d' e1 e2=>by rw[e1]at e2;cases e2;exact⟨Nat.le_refl _,rfl⟩,fun a b ha hb hab g' e1 e2=>?_⟩).mono fun e w' ⟨he,h1,_⟩=>⟨he,h1⟩
 ·rw[H.cell hk]
  match m,hm with
  | 0,_=>rfl
  | 1,_=>rfl
 ·match m,hm with
  | 0,_=>exact h1
  | 1,_=>exact h2
 ·match m,hm with
  | 0,_=>exact h1
  | 1,_=>exact h2
 ·have f1:=e1.elim id id;have f2:=e2.elim id id
  match a,b,ha,hb,hab,f1,f2 with
  | 0,1,_,_,_,f1,f2=>exact H.apart i j _ _ hij hi.get hj.get g' f1 f2
  | 1,0,_,_,_,f1,f2=>exact H.apart j i _ _ (Ne.symm hij) hj.get hi.get g' f1 f2
  | 0,0,_,_,hab,_,_=>exact hab rfl
  | 1,1,_,_,hab,_,_=>exact hab rfl
theorem mine_lt {w0 w:World} {l:List Res} (H:Hold w0 w l) {i j n c1 c2:Nat} {q1 q2:Option Addr} {xs:List Value} (hi:At l i (.row (.slice q1 n c1) 3 1 n xs)) (hj:At l j (.row (.slice q2 n c2) 3 1 n xs)):∀ b,Mine 2 (fun j=>if j=0 then .slice q1 n c1 else .slice q2 n c2) b→w0.heap.size≤b:=by
 rintro b ⟨m,hm,hb⟩
 match m,hm,hb with
 | 0,_,hb=>exact((H.all i _ hi.get).lt b hb).1.elim id False.elim
 | 1,_,hb=>exact((H.all j _ hj.get).lt b hb).1.elim id False.elim
theorem run_lenT {p:List InstD} {s:Str} {a:Int} {l:Slots} (h:runP p s a=some l):l.length=slotsP p:=by
 have h0:¬ (a<0∨(s.length:Int)<a∨rightP p=false):=fun hh=>by unfold runP at h;rw[if_pos hh]at h;cases h
 have hr:rightP p=true:=by
  cases hq:rightP p with
  | true=>rfl
  | false=>exact absurd (.inr (.inr hq)) h0
 have d:=runP_dfs (p:=p) (s:=s) (a:=a) (by omega) (by omega) hr
 rw[h]at d
 obtain⟨k,i,hq,_⟩:=d.keeps (Q:=fun e=>e.2.2.length=slotsP p) (fun k i sl hq _ e he=>by
  unfold sucE at he;simp only at he hq;split at he
  ·split at he
   ·simp only[List.mem_singleton]at he;subst he;exact hq
   ·cases he
  split at he
  ·simp only[List.mem_cons,List.not_mem_nil,or_false]at he;rcases he with rfl|rfl<;>exact hq
  split at he
  ·simp only[List.mem_singleton]at he;subst he;simpa using hq
  split at he
  ·split at he
   ·simp only[List.mem_singleton]at he;subst he;exact hq
   ·cases he
  ·cases he) (fun e he=>by rw[(starts_mem he).2.1,List.length_replicate]) rfl
 exact hq
theorem slots_small {p:List InstD} {s:Str} {a:Int} {l:Slots} (h:runP p s a=some l):l.length≤42:=by
 have h0:¬ (a<0∨(s.length:Int)<a∨rightP p=false):=fun hh=>by unfold runP at h;rw[if_pos hh]at h;cases h
 have hr:rightP p=true:=by
  cases hq:rightP p with
  | true=>rfl
  | false=>exact absurd (.inr (.inr hq)) h0
 rw[run_lenT h];exact(slots_right hr).2.2
theorem run_two (q1 q2:Option Addr) (n1 n2 c1 c2:Nat) (W:World):(Instr.buildSlice 34 2 #[(0,.slice q1 n1 c1),(1,.slice q2 n2 c2)]).run Tryz.prog W=.ok (.slice (some ⟨W.heap.size,0,none⟩) 2 2) (W.alloc (.cells #[.slice q1 n1 c1,.slice q2 n2 c2] 27)):=by kernel_rfl
theorem own_two {M:Nat→Prop} {ops:Array Oper} {rest:List Oper} {o:Oper} {a:Act} {w w0:World} {l:List Res} {Q:Exit→Act→World→Prop} (hg:Region.wanted o (yielded ops a.tmps)=true) {x0 x1:Operand} (ho:o.op=.buildSlice 34 2 #[(0,x0),(1,x1)]) (H:HoldG M w0 w l) {q1 q2:Option Addr} {n1 n2 c1 c2:Nat} (h0:a.eval x0=.slice q1 n1 c1) (h1:a.eval x1=.slice q2 n2 c2)
  (h:∀ b w',HoldG M w0 w' (l++[.blk b #[.slice q1 n1 c1,.slice q2 n2 c2] 27])→wpList Tryz.prog ops Q rest (a.put o.dst (.slice (some ⟨b,0,none⟩) 2 2)) w'):wpList Tryz.prog ops Q (o::rest) a w :=
 own_build hg _ _ _ ho H _ _ (fun W=>by simp only[List.map_toArray,List.map_cons,List.map_nil,h0,h1];exact run_two _ _ _ _ _ _ W) h
theorem law_VmTells (pp:Option Addr) (cp:Nat) (ps:List InstD) (psl:Option Addr) (csl:Nat) (S:Str) (at_:Int) (Fp Fs:Nat→Prop) (w0:World) (hset:∀ x ∈ ps,SetOk x.set) (hFp:∀ b,Fp b→b<w0.heap.size) (hFs:∀ b,Fs b→b<w0.heap.size) (hp:InstsR Fp pp cp ps w0) (hs:BytesR Fs psl csl S w0) (hrd:Rd w0 w0.heap.size (.slice psl S.length csl) (u8s (numsL S))) :
  Calls Tryz.prog 3 #[.slice pp ps.length cp,.slice psl S.length csl,.int .i64 at_] w0 fun e w'=>e=.returned (.bool true)∧Below w0.heap.size w0 w':=by
 have hb1:=hp.bound;have hb2:=hs.bound;have H:=Hold.insts2 hFp hFs hp hs;clear hp hs
 by_cases hn:300<ps.length
 ·have d3:decide ((300:Int)<(ps.length:Int))=true:=decide_eq_true (by omega)
  have d4:decide (300<ps.length)=true:=decide_eq_true hn;clear hn hset
  go_enter Tryz.func3,Tryz.ntmps3
  go_wp2_with (first|(go_at_call 5;(with_reducible refine ch (law_awake _) H ?_);clear H;intro w H)|fail)
  go_ret;exact⟨rfl,H.below⟩
 have d3:decide ((300:Int)<(ps.length:Int))=false:=decide_eq_false (by omega)
 have d4:decide (300<ps.length)=false:=decide_eq_false hn
 by_cases hm:200<S.length
 ·have d5:decide ((200:Int)<(S.length:Int))=true:=decide_eq_true (by omega)
  have d6:decide (200<S.length)=true:=decide_eq_true hm;clear hm hset hn
  go_enter Tryz.func3,Tryz.ntmps3
  go_wp2_with (first|(go_at_call 5;(with_reducible refine ch (law_awake _) H ?_);clear H;intro w H)|fail)
  go_ret;exact⟨rfl,H.below⟩
 have d5:decide ((200:Int)<(S.length:Int))=false:=decide_eq_false (by omega)
 have d6:decide (200<S.length)=false:=decide_eq_false hm;have hn2:ps.length≤1000:=by omega
 have hm2:S.length≤1000:=by omega
 have hm3:(numsL S).length≤4194304:=by rw[numsL_len];omega
 have ht:=fun q c F w Q C G h1 h2 h3 h4=>law_tells q c ps Q C S at_ F G w hset hm2 h1 h2 h3 h4
 have hv:=fun q c F w Q C G h1 h2 h3 h4=>vm_RunO q c ps Q C S at_ F G w hset hm2 h1 h2 h3 h4
 have hli:=fun w h1 h2=>kit_LentInsts pp cp ps Fp w hn2 h1 h2
 have hki:=fun g cap w h1 h2 h3 h4=>kit_KeptInsts pp cp ps g cap Fp (·=g) w hn2 h1 h2 h3 h4
 clear hn hm;have hsl:=fun l=>@slots_small ps S at_ l
 cases hres:runP ps S at_ with
 | none =>
  rw[hres]at hv;clear hres hsl
  go_enter Tryz.func3,Tryz.ntmps3
  go_wp2_with (first|(go_at_call 6;refine chLI (hli _ (H.knlt (i:=0) .zero) (H.kn (i:=0) .zero)) H ?_;clear H;intro g1 n1 w H;simp only[List.cons_append,List.nil_append]at H)|(go_at_call 7;refine chLB (kit_LentBytes _ (numsL S) _ hm3 (hrd.grown H.below)) H ?_;clear H;intro g2 n2 w HQ H;simp only[List.cons_append,List.nil_append]at H)|(go_at_call 8;refine chRO0 (hv _ _ _ _ _ _ _ (H.knlt (i:=2) i_2) (H.knlt (i:=3) i_3) (InstsR.pre (H.kn (i:=2) i_2)) (LentS.bytes (H.kn (i:=3) i_3) HQ.out.2.1 HQ.out.2.2)) H ?_;clear H;intro w H;simp only[List.cons_append,List.nil_append]at H)|(go_at_call 9;refine ch (ht _ _ _ _ _ _ _ (H.knlt (i:=2) i_2) (H.knlt (i:=3) i_3) (InstsR.pre (H.kn (i:=2) i_2)) (LentS.bytes (H.kn (i:=3) i_3) HQ.out.2.1 HQ.out.2.2)) H ?_;clear H;intro w H)|(go_at_call 10;refine ch (hki _ _ _ (H.knlt (i:=0) .zero) (H.knlt (i:=2) i_2) (H.kn (i:=0) .zero) (H.kn (i:=2) i_2)) H ?_;clear H;intro w H)|(go_at_call 11;refine ch (kit_KeptBytes _ _ (numsL S) w0.heap.size _ hm3 (LentS.lent (H.kn (i:=3) i_3) HQ.out.2.1 HQ.out.2.2 HQ.out.1 ((H.knlt (i:=3) i_3) _ rfl)) (hrd.grown H.below)) H ?_;clear H;intro w H)|(go_at_call 12;refine(ap_two H (i:=4) (j:=5) (k:=6) (by decide) i_4 i_5 i_6 (by decide)).mono ?_;intro e w' h;obtain⟨rfl,h⟩:=h;replace H:=Hold.afterMine H h (mine_lt H i_4 i_5) (i:=0) (j:=1) .zero i_1 hFp hFs;clear h)|(go_at_call 9;refine ch (ht _ _ _ _ _ _ _ (H.knlt (i:=0) .zero) (H.knlt (i:=1) i_1) (H.kn (i:=0) .zero) (H.kn (i:=1) i_1)) H ?_;clear H;intro w H)|(go_at_call 5;(with_reducible refine ch (law_awake _) H ?_);clear H;intro w H)|((with_reducible show @wpList _ _ _ ({dst:=_,op:=Op.buildSlice _ 2 _,type:=_,pos:=_,after:=_,guard:=_}::_) _ _);refine own_two wtd_ rfl H evd_ evd_ ?_;clear H;intro bt w H;simp only[List.cons_append,List.nil_append]at H)|fail)
  go_ret;exact⟨rfl,H.below⟩
 | some sl =>
  have HN:=Lib.hid (show sl.length≤4194304 from Nat.le_trans (hsl sl hres) (by decide))
  rw[hres]at hv;clear hres hsl
  go_enter Tryz.func3,Tryz.ntmps3
  go_wp2_with (first|(go_at_call 6;refine chLI (hli _ (H.knlt (i:=0) .zero) (H.kn (i:=0) .zero)) H ?_;clear H;intro g1 n1 w H;simp only[List.cons_append,List.nil_append]at H)|(go_at_call 7;refine chLB (kit_LentBytes _ (numsL S) _ hm3 (hrd.grown H.below)) H ?_;clear H;intro g2 n2 w HQ H;simp only[List.cons_append,List.nil_append]at H)|(go_at_call 8;refine chRO (hv _ _ _ _ _ _ _ (H.knlt (i:=2) i_2) (H.knlt (i:=3) i_3) (InstsR.pre (H.kn (i:=2) i_2)) (LentS.bytes (H.kn (i:=3) i_3) HQ.out.2.1 HQ.out.2.2)) H ?_;clear H;intro q3 n3 w H;simp only[List.cons_append,List.nil_append]at H)|(go_at_call 9;refine ch (ht _ _ _ _ _ _ _ (H.knlt (i:=2) i_2) (H.knlt (i:=3) i_3) (InstsR.pre (H.kn (i:=2) i_2)) (LentS.bytes (H.kn (i:=3) i_3) HQ.out.2.1 HQ.out.2.2)) H ?_;clear H;intro w H)|(go_at_call 10;refine ch (hki _ _ _ (H.knlt (i:=0) .zero) (H.knlt (i:=2) i_2) (H.kn (i:=0) .zero) (H.kn (i:=2) i_2)) H ?_;clear H;intro w H)|(go_at_call 11;refine ch (kit_KeptBytes _ _ (numsL S) w0.heap.size _ hm3 (LentS.lent (H.kn (i:=3) i_3) HQ.out.2.1 HQ.out.2.2 HQ.out.1 ((H.knlt (i:=3) i_3) _ rfl)) (hrd.grown H.below)) H ?_;clear H;intro w H)|(go_at_call 12;refine(ap_two H (i:=4) (j:=5) (k:=6) (by decide) i_4 i_5 i_6 HN.out).mono ?_;intro e w' h;obtain⟨rfl,h⟩:=h;replace H:=Hold.afterMine H h (mine_lt H i_4 i_5) (i:=0) (j:=1) .zero i_1 hFp hFs;clear h)|(go_at_call 9;refine ch (ht _ _ _ _ _ _ _ (H.knlt (i:=0) .zero) (H.knlt (i:=1) i_1) (H.kn (i:=0) .zero) (H.kn (i:=1) i_1)) H ?_;clear H;intro w H)|(go_at_call 5;(with_reducible refine ch (law_awake _) H ?_);clear H;intro w H)|((with_reducible show @wpList _ _ _ ({dst:=_,op:=Op.buildSlice _ 2 _,type:=_,pos:=_,after:=_,guard:=_}::_) _ _);refine own_two wtd_ rfl H evd_ evd_ ?_;clear H;intro bt w H;simp only[List.cons_append,List.nil_append]at H)|fail)
  go_ret;exact⟨rfl,H.below⟩
end Go.Proofs.YtdoflhjhaciepaaGreat
namespace Go.Proofs.YtdoflhjhaciepaaGreat
open Go.RowKit Go.Shelf
theorem nums_of {xs:List Int} (wf:∀ x ∈ xs,(Lit.int .u8 x).wf=true):numsL (xs.map fun x=>UInt8.ofNat x.toNat)=xs:=by
 unfold numsL;rw[List.map_map]
 conv=>rhs;rw[← List.map_id xs]
 exact List.map_congr_left fun x hx=>u8_of (u8_lit (wf x hx))
theorem bytes_rd2 {W:World} {v:Value} {xs:List Int} (h:Rd W W.heap.size v (xs.map (.int .u8))) (wf:∀ x ∈ xs,(Lit.int .u8 x).wf=true):∃ (L:Str) (q:Option Addr) (c:Nat),v=.slice q L.length c∧BytesR (fun b=>b<W.heap.size) q c L W∧Rd W W.heap.size (.slice q L.length c) (u8s (numsL L)):=by
 obtain⟨L,hL⟩:∃ L:Str,L=xs.map fun x=>UInt8.ofNat x.toNat:=⟨_,rfl⟩
 have hx:=nums_of wf;rw[← hL]at hx;have h2:Rd W W.heap.size v (u8s (numsL L)):=by rw[hx];exact h
 have hl:(u8s (numsL L)).length=L.length:=by simp[u8s,numsL]
 rcases h2 with ⟨⟨p,rfl⟩,hn⟩|⟨b,off,cap,rfl,hb,hc,hm,hcell⟩
 ·have:L=[]:=List.length_eq_zero_iff.1 (by rw[← hl,hn];rfl)
  subst this;exact⟨[],p,0,rfl,RdN.nil ..,.inl ⟨⟨p,rfl⟩,rfl⟩⟩
 ·rw[hl]at hc;refine⟨L,some ⟨b,off,none⟩,cap,by rw[hl],⟨_,cap,by simp,by simpa using hc,hm,(fun h=>by cases h),fun j r hr=>⟨b,off,rfl,hb,?_,fun k hk=>?_⟩⟩,.inr ⟨b,off,cap,by rw[hl],hb,by rw[hl];exact hc,hm,hcell⟩⟩
  ·rw[List.getElem?_map]at hr;obtain⟨y,_,rfl⟩:=Option.map_eq_some_iff.1 hr;rfl
  ·rw[List.getElem?_map]at hr;obtain⟨x,hx,rfl⟩:=Option.map_eq_some_iff.1 hr;obtain rfl:k=0:=by omega
   obtain⟨hlt,e⟩:=List.getElem?_eq_some_iff.1 hx;have hj:j<(u8s (numsL L)).length:=by rw[hl];exact hlt
   have hc2:=hcell j hj;rw[Nat.mul_one,Nat.add_zero,hc2];simp[u8s,numsL,e]
end Go.Proofs.YtdoflhjhaciepaaGreat
