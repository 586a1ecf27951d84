/-
  Laws of walks, and walks.
-/
import Derived.Test.YtphjgfjbiimkjaaGreatEc13
import Derived.Test.YtphjgfjbiimkjaaGreatEc1
set_option linter.unusedVariables false
set_option linter.unusedSimpArgs false
set_option maxRecDepth 100000
set_option maxHeartbeats 16000000
namespace Go.Proofs.YtphjgfjbiimkjaaGreat
section
open Go.RowKit Go.Shelf
attribute [local go_sem] Oper.semAt_some
def zA1 (k:Nat):List Value:=(List.range k).map (fun i:Nat=>.int .u8 (zEN 1 i))
theorem zGD (k:Nat):zA1 (k+1)=zA1 k++[.int .u8 (zEN 1 k)]:=by simp[zA1,List.range_succ]
theorem zGZ (k:Nat):(zA1 k).length=k:=by simp[zA1]
theorem zGP {k j:Nat} (h:j<k):(zA1 k)[j]?=some (.int .u8 (zEN 1 j)):=by simp[zA1,h]
theorem zGp:(Tryz.prog.info? 5).map (fun i=>(i.zero,i.size,i.bytes))=some (some (.int .u8 0),1,1):=by kernel_rfl
theorem zHA (v:Value) (B:List Int) (w:World) (hB:B.length<=4194304) (hr:Rd w w.heap.size v (u8s B)) :
  Calls Tryz.prog 16 #[v] w fun e w'=>∃ r,e=.returned r/\Lent w.heap.size w' r (u8s B) (zA1 12)/\Below w.heap.size w w':=by
 obtain⟨i0,hi,hz0,hz1,hz2⟩:=info_parts zGp;have hv:∃ pa ca,v=.slice pa B.length ca:=by rcases hr.u8 with ⟨⟨q,h⟩,rfl⟩|⟨b,off,cap,h,_⟩<;>exact⟨_,_,h⟩
 obtain⟨pa,ca,rfl⟩:=hv;have hl:(u8s B).length=B.length:=by simp[u8s]
 have h1c:∀ c ∈ u8s B,c.oneCell'=true:=by intro c hc;obtain⟨x,_,rfl⟩:=List.mem_map.1 hc;rfl
 have HR:=Lib.hid hr;clear hr;have HL:=Lib.hid hl;clear hl;have H1:=Lib.hid h1c;clear h1c;have hsum:IntKind.i64.wrap ((B.length:Int)+12)=(B.length:Int)+12:=by rw[IntKind.wrap_i64];omega
 go_enter Tryz.func16,Tryz.ntmps16
 go_wp2_with (first
  | (at_make;refine wpList_make_own _ rfl _ _ 25 rfl w.heap.size 5 i0 (.int .u8 0) 1 Tryz.underlying25 hi hz0 hz1 .i64 .i64 _ (B.length+12) rfl rfl (by omega) (by rw[hz2];omega) (by unfold maxLen;omega) (Nat.le_refl _) ?_;intro w1 own1 grow1;have bel1:Below w.heap.size w w1:=(Below.refl _ w).grown grow1 (Nat.le_refl _) (fun k hk=>by cases hk);have hs1:=bel1.size;clear hsum;have OWN1:=Lib.hid own1;clear own1)
  | (at_builtin;refine zFV w1 rfl _ _ 25 rfl w.heap.size 5 i0 (.int .u8 0) 1 Tryz.underlying25 hi hz0 hz1 hz2 rfl (.slice (some ⟨w.heap.size,0,none⟩) 0 (B.length+12)) 0 [] rfl OWN1.out (.slice pa B.length ca) (u8s B) rfl (HR.out.below bel1) H1.out (by rw[HL.out];unfold maxLen;omega) (by rw[HL.out];omega) hs1 ?_;intro v2 w2 own2 grow2 _;have bel2:Below w.heap.size w w2:=bel1.grown grow2 hs1 (fun k hk=>(OWN1.out.lt k hk).1);rw[HL.out,Nat.zero_add,List.nil_append]at own2;have O2:=Lib.hid own2;have B2:=Lib.hid bel2;clear OWN1 own2 grow1 grow2 bel1 bel2 hs1))
 go_loopw [3,4] (fun out k wr=>∃ j:Nat,j<=12/\k=.int .i64 j/\Hid (wr.ownsRow w.heap.size 5 1 out (B.length+j) (u8s B++zA1 j)/\Below w.heap.size w wr)) (fun _ k _=>12 - (intOf k).toNat)
 case atStart=>exact⟨0,by omega,rfl,by simpa [zA1] using O2.out,B2.out⟩
 case round =>
  clear O2 B2;obtain⟨j,hj,rfl,H⟩:=hrel;have ⟨hown,hbel⟩:=H.out;have hsz:=hbel.size
  by_cases hlt:j<12
  ·have HB:=Lib.hid hbel;clear hbel;have HM:=Lib.hid (zGD j);have hmk:=zIu 1 j
   go_wp2_with (first
    | (go_at_call 33;refine(zFD 1 j wr (by omega) (by omega)).mono ?_;rintro e w' ⟨rfl,rfl⟩)
    | (at_builtin;refine wpList_append_own_at _ rfl _ _ 25 rfl w.heap.size 5 i0 (.int .u8 0) 1 1 Tryz.underlying25 hi hz0 hz1 hz2 rfl (by decide) _ _ _ rfl (hown.alloc _) ⟨wr.heap.size,0,none⟩ 1 1 [.int .u8 (zEN 1 j)] rfl rfl (cell_one_new _ _ _) (by simp[Value.oneCell']) (by unfold maxLen;omega) (by omega) (by simp;omega) ?_;intro v3 w3 hown3 hgrow3 _ _))
   have own3:w3.ownsRow w.heap.size 5 1 v3 (B.length+(j+1)) (u8s B++zA1 (j+1)):=by rw[HM.out,← List.append_assoc];exact hown3
   have bel3:Below w.heap.size w w3:=(HB.out.alloc hsz _).grown hgrow3 (by simp;omega) (fun k hk=>(hown.lt k hk).1)
   clear hown hown3 hgrow3 H HB hmk;have O3:=Lib.hid own3;clear own3;have B3:=Lib.hid bel3;clear bel3;go_roundw
   case rel=>exact⟨j+1,by omega,by go_num,O3.out,B3.out⟩
   case measure=>simp[intOf];omega
  ·obtain rfl:j=12:=by omega
   obtain⟨g,cap,rfl,hg0,hg1,hcap,hm,hcell⟩:=zOd hown (by omega)
   have hsl:∀ W,(Instr.slice 25 (.slice (some ⟨g,0,none⟩) (B.length+12) cap) (some (.int .i64 ((0:Nat):Int))) (some (.int .i64 (B.length:Int))) none).run Tryz.prog W=.ok (.slice (some ⟨g,0,none⟩) B.length cap) W:=fun W=>by
    have:=zHE (P:=Tryz.prog) 25 5 Tryz.underlying25 (fun w=>by kernel_rfl) (some ⟨g,0,none⟩) (B.length+12) cap 0 B.length (by omega) (by omega) W
    rw[this];simp[offA,Addr.add]
   have hle:((B.length:Int)<=(cap:Int)):=by omega
   have hcap0:¬ cap=0:=by omega
   have HC:=Lib.hid hcell;clear hcell;clear H;unfold maxLen at hm;have HBel:=Lib.hid hbel;clear hbel;clear hsl hown
   go_wp2
   go_ret;refine⟨.slice (some ⟨g,0,none⟩) B.length cap,rfl,⟨g,cap,by rw[HL.out],hg0,hg1,by rw[HL.out];omega,by unfold maxLen;omega,fun j hj=>?_⟩,HBel.out⟩
   rw[HC.out j (by simp[HL.out,zGZ]at hj ⊢;omega),List.getElem?_eq_getElem]
theorem zHT (v v2:Value) (B:List Int) (b0:Nat) (w:World) (hB:B.length<=4194304) (hv:Lent b0 w v (u8s B) (zA1 12)) (hr:Rd w w.heap.size v2 (u8s B)) :
  Calls Tryz.prog 20 #[v,v2] w fun e w'=>e=.returned (.bool true)/\Below w.heap.size w w':=by
 have hl:(u8s B).length=B.length:=by simp[u8s]
 obtain⟨g,cap,rfl,hg0,hg1,hcap,hm,hcell⟩:=hv;rw[hl]at hcap hcell;rw[hl];have hv2:∃ p c,v2=.slice p B.length c:=by rcases hr.u8 with ⟨⟨q,h⟩,rfl⟩|⟨b,off,cap,h,_⟩<;>exact⟨_,_,h⟩
 obtain⟨p2,c2,rfl⟩:=hv2;have hc1:∀ j,(hj:j<B.length)->w.cell? ⟨g,j,none⟩=some (.int .u8 B[j]):=fun j hj=>by
  rw[hcell j (by omega),List.getElem?_append_left (by omega)];simp[u8s,hj]
 have hc2:∀ j,j<12->w.cell? ⟨g,B.length+j,none⟩=some (.int .u8 (zEN 1 j)):=fun j hj=>by
  rw[hcell (B.length+j) (by omega),List.getElem?_append_right (by omega),hl,show B.length+j - B.length=j from by omega,zGP hj]
 have HC1:=Lib.hid hc1;clear hc1;have HC2:=Lib.hid hc2;clear hc2;have HR:=Lib.hid hr;clear hr;clear hcell hl;unfold maxLen at hm;have hcap0:¬ cap=0:=by omega
 have hbb:((B.length:Int) != (B.length:Int))=false:=by simp
 have hsum:IntKind.i64.wrap ((B.length:Int)+12)=(B.length:Int)+12:=by rw[IntKind.wrap_i64];omega
 have hle:((B.length:Int)+12<=(cap:Int)):=by omega
 go_enter Tryz.func20,Tryz.ntmps20
 go_wp2_with fail
 go_loopw [6] (fun i wr=>∃ j:Nat,j<=B.length+12/\i=.int .i64 j/\Hid (Below w.heap.size w wr)) (fun i _=>B.length+12 - (intOf i).toNat)
 case atStart=>exact⟨0,by omega,rfl,Below.refl _ _⟩
 case round =>
  obtain⟨j,hj,rfl,H⟩:=hrel
  by_cases hlt:j<B.length+12
  ·by_cases hin:j<B.length
   ·obtain⟨b2,off2,rfl,hb2,hcell2⟩:∃ b2 off2,p2=some ⟨b2,off2,none⟩/\b2<w.heap.size/\∀ i,(hi:i<B.length)->w.cell? ⟨b2,off2+i,none⟩=some (.int .u8 B[i]):=by
     rcases HR.out.u8 with ⟨⟨q,h⟩,h'⟩|⟨b,off,cap,h,h1,_,_,h4⟩
     ·subst h';simp at hin
     ·injection h with h2 _ _;exact⟨b,off,h2,h1,h4⟩
    have k1:=HC1.out j hin;have k2:=hcell2 j hin;clear hcell2
    generalize B[j]=x at k1 k2
    have K1:=Lib.hid k1;clear k1;have K2:=Lib.hid k2;clear k2
    go_upto_region 7 with fail
    refine wr_ 35 [fun v _=>v=.int .i64 (j:Int),fun v _=>v=.slice (some ⟨b2,off2,none⟩) B.length c2,fun v _=>v=.int .i64 ((B.length:Nat):Int),fun v _=>v=.bool true,fun v _=>v=.bool true,fun v _=>v=.slice (some ⟨g,0,none⟩) (B.length+12) cap,fun v _=>v=.int .i64 (j:Int),fun v _=>v=.pointer (some ⟨g,j,none⟩),fun v _=>v=.int .u8 x,fun v _=>v=.slice (some ⟨b2,off2,none⟩) B.length c2,fun v _=>v=.int .i64 (j:Int),fun v _=>v=.pointer (some ⟨b2,off2+j,none⟩),fun v _=>v=.int .u8 x,fun v _=>v=.bool true,fun v _=>v=.bool false,fun v _=>v=.bool false,fun v _=>v=.bool false,fun v _=>v=.int .i64 (j:Int),fun v _=>v=.slice (some ⟨b2,off2,none⟩) B.length c2,fun v _=>v=.int .i64 ((B.length:Nat):Int),fun v _=>v=.bool false,fun v _=>v=.bool false,fun v _=>v=undef,fun v _=>v=undef,fun v _=>v=undef,fun v _=>v=undef,fun v _=>v=undef,fun v _=>v=undef,fun v _=>v=undef,fun v _=>v=undef,fun v _=>v=undef,fun v _=>v=undef,fun v _=>v=undef,fun v _=>v=Value.bool false,fun v _=>v=Value.bool false] ?ob ?en
    case ob =>
     refine⟨?_,?_,?_,?_,?_,?_,?_,?_,?_,?_,?_,?_,?_,?_,?_,?_,?_,?_,?_,?_,?_,?_,?_,?_,?_,?_,?_,?_,?_,?_,?_,?_,?_,?_,?_,trivial⟩<;>intro A W h
     ·exact zAB rfl rfl (h.f 6)
     ·exact zAB rfl rfl (h.f 1)
     ·exact zBB Tryz.underlying25 rfl rfl (h.d 1 24)
     ·(have e23:A.eval (.tmp 23)=.int .i64 (j:Int):=h.d 0 23;have e25:A.eval (.tmp 25)=.int .i64 ((B.length:Nat):Int):=h.d 2 25;refine zAA rfl ?_;simp only[execOp,e23,e25];(simp[go_sem]<;>omega))
     ·exact zAB rfl rfl (h.d 3 26)
     ·exact zAB (wg (h.d 4 27)) rfl (h.f 5)
     ·exact zAB (wg (h.d 4 27)) rfl (h.f 6)
     ·exact zAU (sz:=1) Tryz.underlying25 (fun w=>by kernel_rfl) (wg (h.d 4 27)) rfl (h.d 5 28) (h.d 6 29) (by omega) (by omega)
     ·(have e30:A.eval (.tmp 30)=.pointer (some ⟨g,j,none⟩):=h.d 7 30;refine zAA (wg (h.d 4 27)) ?_;simp only[execOp,e30];(have q:=((H.out.trans (h.below.mono H.out.size)).cell (p:=⟨g,j,none⟩) hg1).trans K1.out;simp[go_sem,q]))
     ·exact zAB (wg (h.d 4 27)) rfl (h.f 1)
     ·exact zAB (wg (h.d 4 27)) rfl (h.f 6)
     ·exact zAU (sz:=1) Tryz.underlying25 (fun w=>by kernel_rfl) (wg (h.d 4 27)) rfl (h.d 9 32) (h.d 10 33) (by omega) (by omega)
     ·(have e34:A.eval (.tmp 34)=.pointer (some ⟨b2,off2+j,none⟩):=h.d 11 34;refine zAA (wg (h.d 4 27)) ?_;simp only[execOp,e34];(have q:=((H.out.trans (h.below.mono H.out.size)).cell (p:=⟨b2,off2+j,none⟩) hb2).trans K2.out;simp[go_sem,q]))
     ·(have e31:A.eval (.tmp 31)=.int .u8 x:=h.d 8 31;have e35:A.eval (.tmp 35)=.int .u8 x:=h.d 12 35;refine zAA (wg (h.d 4 27)) ?_;simp only[execOp,e31,e35];simp[go_sem])
     ·(have e36:A.eval (.tmp 36)=.bool true:=h.d 13 36;refine zAA (wg (h.d 4 27)) ?_;simp only[execOp,e36];simp[go_sem])
     ·exact zAy rfl rfl (h.d 4 27) (h.d 14 37)
     ·exact zAB rfl rfl (h.d 15 38)
     ·exact zAB (wg (h.d 16 39)) rfl (h.f 6)
     ·exact zAB (wg (h.d 16 39)) rfl (h.f 1)
     ·exact zBB Tryz.underlying25 (wg (h.d 16 39)) rfl (h.d 18 41)
     ·(have e40:A.eval (.tmp 40)=.int .i64 (j:Int):=h.d 17 40;have e42:A.eval (.tmp 42)=.int .i64 ((B.length:Nat):Int):=h.d 19 42;refine zAA (wg (h.d 16 39)) ?_;simp only[execOp,e40,e42];(simp[go_sem]<;>omega))
     ·exact zAB (wg (h.d 16 39)) rfl (h.d 20 43)
     ·exact rsk (h.d 21 44)
     ·exact rsk (h.d 21 44)
     ·exact rsk (h.d 21 44)
     ·exact rsk (h.d 21 44)
     ·exact rsk (h.d 21 44)
     ·exact rsk (h.d 21 44)
     ·exact rsk (h.d 21 44)
     ·exact rsk (h.d 21 44)
     ·exact rsk (h.d 21 44)
     ·exact rsk (h.d 21 44)
     ·exact rsk (h.d 21 44)
     ·exact zAy (wg (h.d 16 39)) rfl (h.d 21 44) (rfl)
     ·exact zAy rfl rfl (h.d 16 39) (h.d 33 56)
    case en =>
     intro vals W hbw hv _;simp only[fa,Nat.reduceAdd];rw[e_ hv 0,e_ hv 1,e_ hv 2,e_ hv 3,e_ hv 4,e_ hv 5,e_ hv 6,e_ hv 7,e_ hv 8,e_ hv 9,e_ hv 10,e_ hv 11,e_ hv 12,e_ hv 13,e_ hv 14,e_ hv 15,e_ hv 16,e_ hv 17,e_ hv 18,e_ hv 19,e_ hv 20,e_ hv 21,e_ hv 22,e_ hv 23,e_ hv 24,e_ hv 25,e_ hv 26,e_ hv 27,e_ hv 28,e_ hv 29,e_ hv 30,e_ hv 31,e_ hv 32,e_ hv 33,e_ hv 34];clear hv
     try simp only[pl]
     have BZ:=Lib.hid (H.out.trans (hbw.mono H.out.size));clear hbw H
     go_wp2_with fail
     go_roundw
     case rel=>exact⟨j+1,by omega,by go_num,BZ.out⟩
     case measure=>simp[intOf];omega
   ·have k1:=HC2.out (j - B.length) (by omega)
    rw[show B.length+(j - B.length)=j from by omega]at k1
    have K1:=Lib.hid k1;clear k1
    go_upto_region 7 with fail
    refine wr_ 35 [fun v _=>v=.int .i64 (j:Int),fun v _=>v=.slice p2 B.length c2,fun v _=>v=.int .i64 ((B.length:Nat):Int),fun v _=>v=.bool false,fun v _=>v=.bool false,fun v _=>v=undef,fun v _=>v=undef,fun v _=>v=undef,fun v _=>v=undef,fun v _=>v=undef,fun v _=>v=undef,fun v _=>v=undef,fun v _=>v=undef,fun v _=>v=undef,fun v _=>v=undef,fun v _=>v=Value.bool false,fun v _=>v=Value.bool false,fun v _=>v=.int .i64 (j:Int),fun v _=>v=.slice p2 B.length c2,fun v _=>v=.int .i64 ((B.length:Nat):Int),fun v _=>v=.bool true,fun v _=>v=.bool true,fun v _=>v=.slice (some ⟨g,0,none⟩) (B.length+12) cap,fun v _=>v=.int .i64 (j:Int),fun v _=>v=.pointer (some ⟨g,j,none⟩),fun v _=>v=.int .u8 (zEN 1 ((j - B.length:Nat):Int)),fun v _=>v=.int .i64 (j:Int),fun v _=>v=.slice p2 B.length c2,fun v _=>v=.int .i64 ((B.length:Nat):Int),fun v _=>v=.int .i64 ((j - B.length:Nat):Int),fun v _=>v=.int .u8 (zEN 1 ((j - B.length:Nat):Int)),fun v _=>v=.bool true,fun v _=>v=.bool false,fun v _=>v=.bool false,fun v _=>v=.bool false] ?ob ?en
    case ob =>
     refine⟨?_,?_,?_,?_,?_,?_,?_,?_,?_,?_,?_,?_,?_,?_,?_,?_,?_,?_,?_,?_,?_,?_,?_,?_,?_,?_,?_,?_,?_,?_,?_,?_,?_,?_,?_,trivial⟩<;>intro A W h
     ·exact zAB rfl rfl (h.f 6)
     ·exact zAB rfl rfl (h.f 1)
     ·exact zBB Tryz.underlying25 rfl rfl (h.d 1 24)
     ·(have e23:A.eval (.tmp 23)=.int .i64 (j:Int):=h.d 0 23;have e25:A.eval (.tmp 25)=.int .i64 ((B.length:Nat):Int):=h.d 2 25;refine zAA rfl ?_;simp only[execOp,e23,e25];(simp[go_sem]<;>omega))
     ·exact zAB rfl rfl (h.d 3 26)
     ·exact rsk (h.d 4 27)
     ·exact rsk (h.d 4 27)
     ·exact rsk (h.d 4 27)
     ·exact rsk (h.d 4 27)
     ·exact rsk (h.d 4 27)
     ·exact rsk (h.d 4 27)
     ·exact rsk (h.d 4 27)
     ·exact rsk (h.d 4 27)
     ·exact rsk (h.d 4 27)
     ·exact rsk (h.d 4 27)
     ·exact zAy rfl rfl (h.d 4 27) (rfl)
     ·exact zAB rfl rfl (h.d 15 38)
     ·exact zAB (wg (h.d 16 39)) rfl (h.f 6)
     ·exact zAB (wg (h.d 16 39)) rfl (h.f 1)
     ·exact zBB Tryz.underlying25 (wg (h.d 16 39)) rfl (h.d 18 41)
     ·(have e40:A.eval (.tmp 40)=.int .i64 (j:Int):=h.d 17 40;have e42:A.eval (.tmp 42)=.int .i64 ((B.length:Nat):Int):=h.d 19 42;refine zAA (wg (h.d 16 39)) ?_;simp only[execOp,e40,e42];(simp[go_sem]<;>omega))
     ·exact zAB (wg (h.d 16 39)) rfl (h.d 20 43)
     ·exact zAB (wg (h.d 21 44)) rfl (h.f 5)
     ·exact zAB (wg (h.d 21 44)) rfl (h.f 6)
     ·exact zAU (sz:=1) Tryz.underlying25 (fun w=>by kernel_rfl) (wg (h.d 21 44)) rfl (h.d 22 45) (h.d 23 46) (by omega) (by omega)
     ·(have e47:A.eval (.tmp 47)=.pointer (some ⟨g,j,none⟩):=h.d 24 47;refine zAA (wg (h.d 21 44)) ?_;simp only[execOp,e47];(have q:=((H.out.trans (h.below.mono H.out.size)).cell (p:=⟨g,j,none⟩) hg1).trans K1.out;simp[go_sem,q]))
     ·exact zAB (wg (h.d 21 44)) rfl (h.f 6)
     ·exact zAB (wg (h.d 21 44)) rfl (h.f 1)
     ·exact zBB Tryz.underlying25 (wg (h.d 21 44)) rfl (h.d 27 50)
     ·(have e49:A.eval (.tmp 49)=.int .i64 (j:Int):=h.d 26 49;have e51:A.eval (.tmp 51)=.int .i64 ((B.length:Nat):Int):=h.d 28 51;refine zAA (wg (h.d 21 44)) ?_;simp only[execOp,e49,e51];(simp[go_sem]<;>(rw[IntKind.wrap_i64];omega)))
     ·exact zAc (wg (h.d 21 44)) rfl (enters_of Tryz.func33 (by kernel_rfl) rfl) (zBm ⟨rfl,(h.d 29 52)⟩) ((zFD 1 _ W (by omega) (by omega)).mono fun _ _ h=>⟨h.1,h.2 ▸ Below.refl _ _⟩)
     ·(have e48:A.eval (.tmp 48)=.int .u8 (zEN 1 ((j - B.length:Nat):Int)):=h.d 25 48;have e53:A.eval (.tmp 53)=.int .u8 (zEN 1 ((j - B.length:Nat):Int)):=h.d 30 53;refine zAA (wg (h.d 21 44)) ?_;simp only[execOp,e48,e53];simp[go_sem])
     ·(have e54:A.eval (.tmp 54)=.bool true:=h.d 31 54;refine zAA (wg (h.d 21 44)) ?_;simp only[execOp,e54];simp[go_sem])
     ·exact zAy (wg (h.d 16 39)) rfl (h.d 21 44) (h.d 32 55)
     ·exact zAy rfl rfl (h.d 16 39) (h.d 33 56)
    case en =>
     intro vals W hbw hv _;simp only[fa,Nat.reduceAdd];rw[e_ hv 0,e_ hv 1,e_ hv 2,e_ hv 3,e_ hv 4,e_ hv 5,e_ hv 6,e_ hv 7,e_ hv 8,e_ hv 9,e_ hv 10,e_ hv 11,e_ hv 12,e_ hv 13,e_ hv 14,e_ hv 15,e_ hv 16,e_ hv 17,e_ hv 18,e_ hv 19,e_ hv 20,e_ hv 21,e_ hv 22,e_ hv 23,e_ hv 24,e_ hv 25,e_ hv 26,e_ hv 27,e_ hv 28,e_ hv 29,e_ hv 30,e_ hv 31,e_ hv 32,e_ hv 33,e_ hv 34];clear hv
     try simp only[pl]
     have BZ:=Lib.hid (H.out.trans (hbw.mono H.out.size));clear hbw H
     go_wp2_with fail
     go_roundw
     case rel=>exact⟨j+1,by omega,by go_num,BZ.out⟩
     case measure=>simp[intOf];omega
  ·obtain rfl:j=B.length+12:=by omega
   go_wp2
   go_ret;exact⟨rfl,H.out⟩
end
section
open Go.RowKit
theorem zBO {w w':World} {base:Nat} {e:TypeId} {s:Nat} {v:Value} {n:Nat} {xs:List Value} {row:Option Nat} (h:w.ownsRow base e s v n xs) (hg:w.grownBy w' row) (hr:∀ g,row=some g->v.ownBlock≠some g):w'.ownsRow base e s v n xs:=by
 obtain⟨hl,h'|⟨g,cap,cur,rfl,hb,hgk,r⟩⟩:=h
 ·exact⟨hl,.inl h'⟩
 ·refine⟨hl,.inr ⟨g,cap,cur,rfl,hb,?_,r⟩⟩;exact(hg.block g (Array.getElem?_eq_some_iff.1 hgk).1 (fun e=>hr g e.symm rfl)).trans hgk
theorem zAm {w:World} {base:Nat} {e:TypeId} {s:Nat} {v:Value} {n:Nat} {xs:List Value} {g:Nat} (h:w.ownsRow base e s v n xs) (hb:v.ownBlock=some g):g<w.heap.size/\base<=g/\∃ cur,w.heap[g]?=some (.cells cur e (0,0)):=by
 obtain⟨_,⟨rfl,_⟩|⟨g',cap,cur,rfl,h1,h2,_⟩⟩:=h
 ·cases hb
 ·simp[Value.ownBlock]at hb;subst hb;exact⟨(Array.getElem?_eq_some_iff.1 h2).1,h1,cur,h2⟩
theorem zKg {w:World} {base:Nat} {e:TypeId} {s g n m c:Nat} {ys:List Value} (h:w.ownsRow base e s (.slice (some ⟨g,0,none⟩) m c) m ys) (hn:n<=m) :
  w.ownsRow base e s (.slice (some ⟨g,0,none⟩) n c) n (ys.take (n * s)):=by
 obtain⟨hl,⟨h',_⟩|⟨g',cap,cur,e1,h1,h2,h3,h4,h5,h6⟩⟩:=h
 ·cases h'
 ·cases e1
  have hle:n * s<=m * s:=Nat.mul_le_mul_right _ hn;refine⟨by rw[List.length_take,hl];omega,.inr ⟨g,c,cur,rfl,h1,h2,by omega,h4,h5,?_⟩⟩
  rw[← h6,List.take_take]
  congr 1
  omega
theorem zON {w:World} {base:Nat} {e:TypeId} {s g n m c:Nat} {xs ys:List Value} (h:w.ownsRow base e s (.slice (some ⟨g,0,none⟩) n c) n xs) (h2:w.ownsRow base e s (.slice (some ⟨g,0,none⟩) m c) m ys) (hn:n<=m):xs=ys.take (n * s):=by
 obtain⟨_,⟨h',_⟩|⟨g',cap,cur,e1,_,a2,_,_,_,a6⟩⟩:=h
 ·cases h'
 ·cases e1
  obtain⟨_,⟨h',_⟩|⟨g',cap',cur',e1,_,b2,_,_,_,b6⟩⟩:=h2
  ·cases h'
  ·cases e1
   rw[a2]at b2
   cases b2
   have hle:n * s<=m * s:=Nat.mul_le_mul_right _ hn;rw[← a6,← b6,List.take_take]
   congr 1
   omega
theorem zHZ {w:World} {base g n cap s:Nat} {e:TypeId} {xs:List Value} (h:w.ownsRow base e s (.slice (some ⟨g,0,none⟩) n cap) n xs) {k:Nat} (v:Value) :
  (w.setCell ⟨g,k,none⟩ v).ownsRow base e s (.slice (some ⟨g,0,none⟩) n cap) n (xs.set k v):=by
 obtain⟨hl,⟨h',_⟩|⟨g',cap',cur,e1,h1,h2,h3,h4,h5,h6⟩⟩:=h
 ·cases h'
 ·cases e1
  refine⟨by simpa using hl,.inr ⟨g,cap,cur.setIfInBounds k v,rfl,h1,?_,h3,h4,by simpa using h5,?_⟩⟩
  ·obtain⟨hlt,hh⟩:=Array.getElem?_eq_some_iff.1 h2
   show (w.heap.modify g _)[g]?=_
   rw[Array.getElem?_eq_getElem (by rw[Array.size_modify];exact hlt),Array.getElem_modify_self,hh]
   rfl
  ·rw[← h6,Array.toList_setIfInBounds,List.take_set]
theorem zBN (W:World) (g k:Nat) (v:Value):W.grownBy (W.setCell ⟨g,k,none⟩ v) (some g) :=
 ⟨rfl,rfl,rfl,by simp[World.setCell],fun j _ hj=>Below.heap_setCell _ _ _ j (fun e=>hj (by rw[e]))⟩
theorem zBD {w:World} {base g n cap s:Nat} {e:TypeId} {xs:List Value} (h:w.ownsRow base e s (.slice (some ⟨g,0,none⟩) n cap) n xs) {k:Nat} (hk:k<n * s):w.cell? ⟨g,k,none⟩=xs[k]?:=by
 obtain⟨hl,⟨h',_⟩|⟨g',cap',cur,e1,h1,h2,h3,h4,h5,h6⟩⟩:=h
 ·cases h'
 ·cases e1
  rw[cell_of_row w g k _ _ _ h2,← h6,List.getElem?_take_of_lt hk];simp
theorem zC5 {w:World} {base g n cap s:Nat} {e:TypeId} {xs:List Value} (h:w.ownsRow base e s (.slice (some ⟨g,0,none⟩) n cap) n xs) (k:Nat):w.frozen? ⟨g,k,none⟩=false:=by
 obtain⟨hl,⟨h',_⟩|⟨g',cap',cur,e1,h1,h2,h3,h4,h5,h6⟩⟩:=h
 ·cases h'
 ·cases e1
  simp[World.frozen?,h2]
def Grow (w w':World) (v v':Value):Prop :=
 (∃ g n m c,v=.slice (some ⟨g,0,none⟩) n c/\v'=.slice (some ⟨g,0,none⟩) m c/\n<=m/\w.grownBy w' (some g))\/((∃ m c,v'=.slice (some ⟨w.heap.size,0,none⟩) m c)/\w.grownBy w' none)
theorem Grow.any {w w':World} {v v':Value} (h:Grow w w' v v'):w.grownBy w' v.ownBlock:=by
 rcases h with ⟨g,n,m,c,rfl,rfl,_,h⟩|⟨_,h⟩
 ·exact h
 ·exact⟨h.os,h.tape,h.output,h.size,fun k hk _=>h.block k hk (by simp)⟩
theorem zGR {P:Program} (w:World) (base:Nat) (t ty e:TypeId) (i:TypeInfo) (z:Value) (size bytes:Nat) (ht:P.underlying t=some (.slice e)) (hi:P.info? e=some i) (hz:i.zero=some z)
  (hsize:i.size=size) (hby:i.bytes=bytes) (hzs:z.cells.size=size) (hsz:0<size)
  (v:Value) (n:Nat) (xs:List Value) (hown:w.ownsRow base e size v n xs)
  (a:Addr) (m c:Nat) (news:List Value) (hl:news.length=m * size) (hnews:∀ j u,news[j]?=some u->w.cell? (a.add j)=some u) (h1:∀ u ∈ news,u.oneCell'=true)
  (h63:n+m<=maxLen) (hbytes:(n+m) * bytes<=140737488355328) (hbase:base<=w.heap.size) (hm:0<m) :
  ∃ v' w',(Builtin.append_ #[t,t] ty #[v,.slice (some a) m c]).run P w=.ok v' w'/\w'.ownsRow base e size v' (n+m) (xs++news)/\Grow w w' v v':=by
 subst hsize;subst hby;have hsmall:n+m<=9223372036854775807:=by simp only[maxLen]at h63;omega
 have hlen:(xs++news).length=(n+m) * i.size:=by rw[List.length_append,hown.1,hl,Nat.add_mul]
 have grown:∀ (old:Nat),old<n+m->∀ (row:Option Nat),
   (w.drew.alloc (.cells (xs.toArray++news.toArray++Builtin.zeroCells z.cells (grownCap w (n+m) old e - (n+m))) e)).ownsRow base e i.size
    (.slice (some ⟨w.heap.size,0,none⟩) (n+m) (grownCap w (n+m) old e)) (n+m) (xs++news) /\
   w.grownBy (w.drew.alloc (.cells (xs.toArray++news.toArray++Builtin.zeroCells z.cells (grownCap w (n+m) old e - (n+m))) e)) row:=by
  intro old ho row;have hge:=grownCap_ge w (n+m) old e;have hcm:grownCap w (n+m) old e<=maxLen:=grownCap_le_maxLen w (n+m) old e h63;refine⟨⟨hlen,.inr ⟨w.heap.size,_,_,rfl,hbase,heap_alloc_new w.drew _,hge,hcm,?_,?_⟩⟩,⟨rfl,rfl,rfl,by simp,fun k hk _=>heap_alloc_old w.drew _ k hk⟩⟩
  ·simp only[Array.size_append,List.size_toArray,size_zeroCells,hzs,hown.1,hl,← Nat.add_mul]
   congr 1
   omega
  ·simp only[Array.toList_append,List.append_assoc];rw[← List.append_assoc,← hlen];exact List.take_left
 rcases hown.2 with ⟨rfl,rfl⟩|⟨g,cap,cur,rfl,hbg,hg,hnc,hcm,hcs,htake⟩
 ·have hx:xs=[]:=List.eq_nil_of_length_eq_zero (by simpa using hown.1)
  subst hx;have hr:=run_append_nil (P:=P) w t ty e i z ht hi hz a m c news hl hnews (by omega) (by omega) (by have hb:=hbytes;simp only[Nat.zero_add]at hb;omega)
  have hgr:=grown 0 (by omega) none
  simp only[Nat.zero_add,List.nil_append,Array.empty_append]at hgr ⊢;exact⟨_,_,hr,hgr.1,.inr ⟨⟨_,_,rfl⟩,hgr.2⟩⟩
 ·by_cases hroom:n+m<=cap
  ·have hfit:n * i.size+news.length<=cur.size:=by rw[hl,hcs,← Nat.add_mul];exact Nat.mul_le_mul_right _ hroom
   have hr:=run_append_room (P:=P) w t ty e i ht hi g n cap cur hg a m c news hl hnews h1 hroom hfit;refine⟨_,_,hr,⟨hlen,.inr ⟨g,cap,_,rfl,hbg,setRow_heap w g cur _ e _ hg,hroom,hcm,?_,?_⟩⟩,.inl ⟨g,n,n+m,cap,rfl,rfl,by omega,⟨rfl,rfl,rfl,by simp,fun k _ hk=>setRow_other w g k _ (fun e=>hk (by rw[e]))⟩⟩⟩
   ·simp only[List.size_toArray,List.length_append,List.length_take,List.length_drop,Array.length_toList];omega
   ·rw[htake,← hlen];exact List.take_left
  ·have holds:∀ j u,xs[j]?=some u->w.cell? ((⟨g,0,none⟩:Addr).add j)=some u:=hown.cells (g:=g) rfl;have hr:=run_append_grow (P:=P) w t ty e i z ht hi hz ⟨g,0,none⟩ n cap xs hown.1 holds a m c news hl hnews (by omega) (by omega) (growslice_fits (by omega) hbytes)
   have hgr:=grown cap (by omega) none
   exact⟨_,_,hr,hgr.1,.inr ⟨⟨_,_,rfl⟩,hgr.2⟩⟩
theorem zB8 {P:Program} (w:World) {ops:Array Oper} {rest:List Oper} {o:Oper} {a:Act} {Q:Exit->Act->World->Prop}
  (hg:o.guard=none) (s x:Operand) (t:TypeId) (hop:o.op=Op.call {callee:=Callee.builtin Builtin.append,args:=#[s,x],argTypes:=#[t,t]})
  (base:Nat) (e:TypeId) (i:TypeInfo) (z:Value) (size bytes:Nat) (h1:P.underlying t=some (.slice e)) (h2:P.info? e=some i) (h3:i.zero=some z) (h4:i.size=size) (h5:i.bytes=bytes) (h6:z.cells.size=size) (h7:0<size)
  (v:Value) (k:Nat) (xs:List Value) (hs:a.eval s=v) (hown:w.ownsRow base e size v k xs) (ad:Addr) (m c:Nat) (news:List Value) (hx:a.eval x=.slice (some ad) m c) (hn:news.length=m * size)
  (hc:∀ j u,news[j]?=some u->w.cell? (ad.add j)=some u) (h1c:∀ u ∈ news,u.oneCell'=true) (b1:k+m<=maxLen) (b2:(k+m) * bytes<=140737488355328) (b3:base<=w.heap.size) (hm:0<m)
  (hK:∀ v' w',w'.ownsRow base e size v' (k+m) (xs++news)->Grow w w' v v'->wpList P ops Q rest (a.put o.dst v') w') :
  wpList P ops Q (o::rest) a w:=by
 refine wpList_plain hg fun K hK'=>?_
 obtain⟨v',w',hr,r1,r2⟩:=zGR (P:=P) w base t o.type e i z size bytes h1 h2 h3 h4 h5 h6 h7 v k xs hown ad m c news hn hc h1c b1 b2 b3 hm;unfold Oper.wp execOp;simp only[hop,resolve,invoke,builtin,Sem.run_bind,Sem.run_pure,Result.andThen_ok,List.map_toArray,List.map_cons,List.map_nil,hs,hx,hr];exact hK' _ _ (hK v' w' r1 r2)
structure Fam (e:TypeId) (sz base:Nat) (w:World) (K:Nat) (V U:Nat->Value) (N M:Nat->Nat) (X Y:Nat->List Value):Prop where
 v:∀ j,j<K->w.ownsRow base e sz (V j) (N j) (X j)
 u:∀ j,j<K->w.ownsRow base e sz (U j) (M j) (Y j)
 link:∀ j,j<K->∀ g n c m d,V j=.slice (some ⟨g,0,none⟩) n c->U j=.slice (some ⟨g,0,none⟩) m d->n<=m/\c=d
 sep:∀ i j,i<K->j<K->i≠j->∀ g,((V i).ownBlock=some g\/(U i).ownBlock=some g)->¬ ((V j).ownBlock=some g\/(U j).ownBlock=some g)
section
variable {e:TypeId} {sz base:Nat} {w:World} {K:Nat} {V U:Nat->Value} {N M:Nat->Nat} {X Y:Nat->List Value}
theorem Fam.reset (h:Fam e sz base w K V U N M X Y):Fam e sz base w K V V N N X X :=
 ⟨h.v,h.v,fun j _ g n c m d h1 h2=>by rw[h1]at h2;cases h2;exact⟨Nat.le_refl _,rfl⟩,fun i j hi hj hij g h1 h2=>h.sep i j hi hj hij g (.inl (h1.elim id id)) (.inl (h2.elim id id))⟩
theorem Fam.grown {w':World} {row:Option Nat} (h:Fam e sz base w K V U N M X Y) (hg:w.grownBy w' row) (hr:∀ g,row=some g->∀ j,j<K->(V j).ownBlock≠some g/\(U j).ownBlock≠some g):Fam e sz base w' K V U N M X Y :=
 ⟨fun j hj=>zBO (h.v j hj) hg (fun g e=>(hr g e j hj).1),fun j hj=>zBO (h.u j hj) hg (fun g e=>(hr g e j hj).2),h.link,h.sep⟩
theorem Fam.below {w':World} (h:Fam e sz base w K V U N M X Y) (hb:Below w.heap.size w w'):Fam e sz base w' K V U N M X Y :=
 ⟨fun j hj=>zBT (h.v j hj) hb,fun j hj=>zBT (h.u j hj) hb,h.link,h.sep⟩
theorem Fam.other (h:Fam e sz base w K V U N M X Y) {g:Nat} {cur:Array Value} {e2:TypeId} {f:Nat × Nat} (hg:w.heap[g]?=some (.cells cur e2 f)) (hne:e≠e2):∀ j,j<K->(V j).ownBlock≠some g/\(U j).ownBlock≠some g:=by
 intro j hj;constructor
 ·intro hb;obtain⟨_,_,cur',h'⟩:=zAm (h.v j hj) hb;rw[hg]at h';cases h';exact hne rfl
 ·intro hb;obtain⟨_,_,cur',h'⟩:=zAm (h.u j hj) hb;rw[hg]at h';cases h';exact hne rfl
theorem Fam.append {w':World} {k:Nat} {v':Value} {news:List Value} {m:Nat} (h:Fam e sz base w K V U N M X Y) (hk:k<K) (ho:w'.ownsRow base e sz v' (M k+m) (Y k++news)) (hg:Grow w w' (U k) v') :
  Fam e sz base w' K V (fun j=>if j=k then v' else U j) N (fun j=>if j=k then M k+m else M j) X (fun j=>if j=k then Y k++news else Y j):=by
 have hany:=hg.any;have hoth:∀ j,j<K->j≠k->∀ g,(U k).ownBlock=some g->(V j).ownBlock≠some g/\(U j).ownBlock≠some g:=fun j hj hjk g hb =>
  ⟨fun h1=>h.sep k j hk hj (fun e=>hjk e.symm) g (.inr hb) (.inl h1),fun h1=>h.sep k j hk hj (fun e=>hjk e.symm) g (.inr hb) (.inr h1)⟩
 refine⟨fun j hj=>?_,fun j hj=>?_,fun j hj g n c m' d h1 h2=>?_,fun i j hi hj hij g h1 h2=>?_⟩
 ·by_cases hjk:j=k
  ·subst hjk;rcases hg with ⟨g,n,m',c,hu,rfl,hle,hgr⟩|⟨_,hgr⟩
   ·by_cases hvb:(V j).ownBlock=some g
    ·have hv:=h.v j hj;obtain⟨_,⟨hn,_⟩|⟨g',cap,cur,hv1,_⟩⟩:=id hv
     ·rw[hn]at hvb;cases hvb
     ·rw[hv1]at hvb;simp[Value.ownBlock]at hvb;subst hvb;obtain⟨h3,h4⟩:=h.link j hj _ _ _ _ _ hv1 hu;subst h4;have hu2:=h.u j hj;have hMn:M j=n:=by
       obtain⟨_,⟨e1,_⟩|⟨g1,c1,cur1,e1,_⟩⟩:=id hu2
       ·rw[hu]at e1;cases e1
       ·rw[hu]at e1;cases e1;rfl
      have hm':m'=M j+m:=by
       obtain⟨_,⟨e1,_⟩|⟨g1,c1,cur1,e1,_⟩⟩:=id ho
       ·cases e1
       ·cases e1;rfl
      subst hm';rw[hu,← hMn]at hu2;rw[hv1]at hv ⊢;have hx:=zON hv hu2 (by omega)
      have:=zKg ho (n:=N j) (by omega)
      have hlen:=hu2.1;have hle2:N j * sz<=(Y j).length:=by rw[hlen];exact Nat.mul_le_mul_right _ (by omega)
      rw[List.take_append_of_le_length hle2,← hx]at this;exact this
    ·exact zBO (h.v j hj) hgr (fun g' e=>by cases e;exact hvb)
   ·exact zBO (h.v j hj) hgr (fun g e=>by cases e)
  ·exact zBO (h.v j hj) hany (fun g e=>(hoth j hj hjk g e).1)
 ·by_cases hjk:j=k
  ·subst hjk;simpa using ho
  ·simp only[if_neg hjk];exact zBO (h.u j hj) hany (fun g e=>(hoth j hj hjk g e).2)
 ·by_cases hjk:j=k
  ·subst hjk;simp only[if_true]at h2;rcases hg with ⟨g0,n0,m0,c0,hu,hv',hle,_⟩|⟨⟨m1,c1,hv'⟩,_⟩
   ·rw[h2]at hv';cases hv'
    obtain⟨h3,h4⟩:=h.link j hj _ _ _ _ _ h1 hu;exact⟨by omega,h4⟩
   ·exfalso
    rw[h2]at hv';cases hv'
    have:=(zAm (h.v j hj) (g:=w.heap.size) (by rw[h1];rfl)).1
    omega
  ·simp only[if_neg hjk]at h2;exact h.link j hj g n c m' d h1 h2
 ·-- what is new in row k's blocks: the same block,or a new one
  have hnew:∀ g,v'.ownBlock=some g->(U k).ownBlock=some g\/g=w.heap.size:=fun g hb=>by
   rcases hg with ⟨g0,n0,m0,c0,hu,hv',_,_⟩|⟨⟨m1,c1,hv'⟩,_⟩
   ·rw[hv']at hb;rw[hu];exact .inl hb
   ·rw[hv']at hb;simp[Value.ownBlock]at hb;exact .inr hb.symm
  have hold:∀ j,j<K->∀ g,((V j).ownBlock=some g\/(U j).ownBlock=some g)->g<w.heap.size:=fun j hj g hb=>by
   rcases hb with hb|hb
   ·exact(zAm (h.v j hj) hb).1
   ·exact(zAm (h.u j hj) hb).1
  by_cases hik:i=k
  ·subst hik;have hji:j≠i:=fun e=>hij e.symm
   simp only[if_true]at h1;simp only[if_neg hji]at h2;rcases h1 with h1|h1
   ·exact h.sep i j hi hj hij g (.inl h1) h2
   ·rcases hnew g h1 with h3|h3
    ·exact h.sep i j hi hj hij g (.inr h3) h2
    ·have:=hold j hj g h2;omega
  ·simp only[if_neg hik]at h1
   by_cases hjk:j=k
   ·subst hjk;simp only[if_true]at h2;rcases h2 with h2|h2
    ·exact h.sep i j hi hj hij g h1 (.inl h2)
    ·rcases hnew g h2 with h3|h3
     ·exact h.sep i j hi hj hij g h1 (.inr h3)
     ·have:=hold i hi g h1;omega
   ·simp only[if_neg hjk]at h2;exact h.sep i j hi hj hij g h1 h2
theorem Fam.store (h:Fam e sz base w K V V N N X X) {k g i c:Nat} (hk:k<K) (hv:V k=.slice (some ⟨g,0,none⟩) (N k) c) (x:Value) :
  Fam e sz base (w.setCell ⟨g,i,none⟩ x) K V V N N (fun j=>if j=k then (X k).set i x else X j) (fun j=>if j=k then (X k).set i x else X j):=by
 have key:∀ j,j<K->(w.setCell ⟨g,i,none⟩ x).ownsRow base e sz (V j) (N j) (if j=k then (X k).set i x else X j):=by
  intro j hj
  by_cases hjk:j=k
  ·subst hjk;have:=h.v j hj;rw[hv]at this ⊢
   simpa using zHZ this (k:=i) x
  ·simp only[if_neg hjk];refine zBO (h.v j hj) (zBN w g i x) (fun g' e hb=>?_)
   cases e
   exact h.sep k j hk hj (fun e=>hjk e.symm) g (.inl (by rw[hv];rfl)) (.inl hb)
 exact⟨key,key,h.link,h.sep⟩
end
end
section
open Go.RowKit Go.Shelf
attribute [local go_sem] Oper.semAt_some
theorem zM3:(Tryz.prog.info? 3).map (fun i=>(i.zero,i.size,i.bytes))=some (some (.int .i64 0),1,8):=by kernel_rfl
end
end Go.Proofs.YtphjgfjbiimkjaaGreat
