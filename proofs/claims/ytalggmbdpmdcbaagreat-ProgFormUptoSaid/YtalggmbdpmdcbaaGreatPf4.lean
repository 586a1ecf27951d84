/-
  Laws of walks, and walks.
-/
import Derived.Test.YtalggmbdpmdcbaaGreatPf1
import Derived.Deep.CutRange
import Derived.Test.YtalggmbdpmdcbaaGreatPf3
set_option linter.unusedVariables false
set_option linter.unusedSimpArgs false
set_option maxRecDepth 100000
set_option maxHeartbeats 16000000
namespace Go.Proofs.YtalggmbdpmdcbaaGreat
section
open Go.RowKit Go.Shelf
attribute [local go_sem] Oper.semAt_some
theorem zOB (x j:Nat):x / 2 ^ (j+1)=x / 2 ^ j / 2:=by rw[Nat.pow_succ,Nat.div_div_eq_div_mul]
theorem zNw (x j:Nat):(((x:Int) / 2 ^ j).tmod 2 == 1)=x.testBit j:=by
 have e:(x:Int) / 2 ^ j=((x / 2 ^ j:Nat):Int):=by push_cast;rfl
 rw[e,Int.tmod_eq_emod_of_nonneg (Int.natCast_nonneg _),Bool.eq_iff_iff,← zM5];simp;omega
theorem zFt (s:Nat->Nat) (hs:zAv s) (b:Nat) (hb:b<256) (w:World) :
  Calls Tryz.prog 196 #[setV s,.int .u8 b] w fun e w'=>e=.returned (.bool (hasB s b))/\Below w.heap.size w w':=by
 obtain⟨r,hr,hr1,hr2,h⟩:=zG9 hb;have hlt:s (b / 64)<2 ^ 64:=hs _ (by omega)
 unfold setV;rcases h with ⟨h1,hq⟩|⟨h1,hq⟩|⟨h1,hq⟩|⟨h1,hq⟩
 all_goals
  rw[h1]at hlt;have H1:=Lib.hid h1;clear h1;have HR:=Lib.hid hr1;clear hr1
  go_enter Tryz.func196,Tryz.ntmps196
  go_wp2_with fail
  go_loop [5,6] (fun n i=>∃ j:Nat,j<=r/\i=.int .u8 j/\n=.int .u64 ((s (b / 64) / 2 ^ j:Nat):Int)) (fun _ i=>r - (intOf i).toNat)
  case atStart=>exact⟨0,by omega,rfl,by rw[H1.out];simp⟩
  case round =>
   obtain⟨j,hj,rfl,rfl⟩:=hrel;rw[H1.out]
   by_cases hlt2:j<r
   ·obtain⟨y,hy⟩:∃ y,y=s (b / 64) / 2 ^ j:=⟨_,rfl⟩;have hn:=zOB (s (b / 64)) j;rw[H1.out]at hn hy;rw[← hy]at hn ⊢;have hyb:y<=18446744073709551615:=by have:=Nat.div_le_self (s (b / 64)) (2 ^ j);rw[H1.out]at this;rw[hy];omega
    have HN:=Lib.hid hn;clear hn;have HY:=Lib.hid hy;clear hy
    go_wp2
    go_round
    case rel=>exact⟨j+1,by omega,by go_num,by rw[HN.out];first|rfl|(congr 1)⟩
    case measure=>simp[intOf];omega
   ·obtain rfl:j=r:=by omega
    have ht:=zM5 (s (b / 64)) j;rw[H1.out]at ht;have HT:=Lib.hid ht;clear ht;have hyb:=Nat.div_le_self (s (b / 64)) (2 ^ j);rw[H1.out]at hyb
    go_wp2
    go_ret;refine⟨?_,(Below.refl _ _).alloc (Nat.le_refl _) _⟩;unfold hasB;rw[H1.out,HR.out];exact congrArg (fun x=>Ending.returned (Value.bool x)) (zNw _ _)
theorem zPj {x r:Nat} (hx:x<2 ^ 64) (hr:r<64) (h:x.testBit r=false):x+2 ^ r=x ||| 2 ^ r:=by
 have hr2:2 ^ r<2 ^ 64:=Nat.pow_lt_pow_right (by omega) hr
 have e:=BitVec.add_eq_or_of_and_eq_zero (BitVec.ofNat 64 x) (BitVec.ofNat 64 (2 ^ r)) (by
  apply BitVec.eq_of_getLsbD_eq;intro i hi;simp only[BitVec.getLsbD_and,BitVec.getLsbD_ofNat,BitVec.getLsbD_zero,Nat.testBit_two_pow]
  by_cases e:r=i
  ·subst e;simp[h]
  ·simp[e])
 have e2:=congrArg BitVec.toNat e;rw[BitVec.toNat_add,BitVec.toNat_or,BitVec.toNat_ofNat,BitVec.toNat_ofNat,Nat.mod_eq_of_lt hx,Nat.mod_eq_of_lt hr2]at e2;have hor:x ||| 2 ^ r<2 ^ 64:=Nat.or_lt_two_pow hx hr2
 have hle:x+2 ^ r<2 ^ 64+2 ^ 64:=by omega
 by_cases hc:x+2 ^ r<2 ^ 64
 ·rwa [Nat.mod_eq_of_lt hc]at e2
 ·exfalso
  have h1:(x+2 ^ r) % 2 ^ 64=x+2 ^ r - 2 ^ 64:=by omega
  rw[h1]at e2;have h2:x<=x ||| 2 ^ r:=Nat.left_le_or
  omega
theorem zNM {s:Nat->Nat} (hs:zAv s) {b:Nat} (h:hasB s b=true):setV s=setV (addS s b) :=
 zJm hs (zFJ hs b) fun c _=>by
  rw[zLA]
  by_cases e:c=b
  ·subst e;simp[h]
  ·simp[e]
theorem zEr (s:Nat->Nat) (hs:zAv s) (b:Nat) (hb:b<256) (w:World) :
  Calls Tryz.prog 197 #[setV s,.int .u8 b] w fun e w'=>e=.returned (setV (addS s b))/\Below w.heap.size w w':=by
 obtain⟨r,hr,hr1,hr2,h⟩:=zG9 hb;obtain⟨q,hq4,hq,hqi⟩:∃ q:Nat,q<4/\b / 64=q/\(b:Int) / 64=q:=⟨b / 64,by omega,rfl,by omega⟩
 clear h;have h2r:∀ j,j<=r->2 ^ j<=9223372036854775808:=fun j hj=>by
  have:2 ^ j<=2 ^ 63:=Nat.pow_le_pow_right (by omega) (by omega)
  omega
 rw[show setV s=.agg #[.int .u64 (s 0),.int .u64 (s 1),.int .u64 (s 2),.int .u64 (s 3)] from rfl]
 have b1:SBox (w.alloc (.cells (setC s) 25)) w.heap.size 25 s:=SBox.new w _ _;have b2:SBox ((w.alloc (.cells (setC s) 25)).alloc (.cells (setC zAN) 25)) w.heap.size 25 s:=b1.alloc _;have e2:SBox ((w.alloc (.cells (setC s) 25)).alloc (.cells (setC zAN) 25)) (w.heap.size+1) 25 zAN:=by have:=SBox.new (w.alloc (.cells (setC s) 25)) 25 zAN;rwa [World.size_alloc]at this
 have bel:Below w.heap.size w ((w.alloc (.cells (setC s) 25)).alloc (.cells (setC zAN) 25)):=((Below.refl _ w).alloc (Nat.le_refl _) _).alloc (by simp) _
 have HS:=Lib.hid hs;clear hs;have HQ:=Lib.hid hq;clear hq;have HR:=Lib.hid hr1;clear hr1;have H2R:=Lib.hid h2r;clear h2r;clear b1
 go_enter Tryz.func197,Tryz.ntmps197
 go_wp2_with fail
 refine(zFt s HS.out b hb _).mono ?_
 rintro e w1 ⟨rfl,bel1⟩;have sz1:=bel1.size;simp at sz1;have b3:=b2.below bel1 b2.lt;have e3:=e2.below bel1 e2.lt;have bel2:Below w.heap.size w w1:=bel.trans (bel1.mono (by simp;omega))
 clear b2 e2 bel bel1;have f0:=e3.frozen 0;have f1:=e3.frozen 1;have f2:=e3.frozen 2;have f3:=e3.frozen 3;have r0:=e3.cell (k:=0) (by omega);have r1:=e3.cell (k:=1) (by omega);have r2:=e3.cell (k:=2) (by omega);have r3:=e3.cell (k:=3) (by omega)
 have E3:=Lib.hid e3;clear e3;have BEL2:=Lib.hid bel2;clear bel2
 cases hh:hasB s b with
 | true =>
  have HH:=Lib.hid hh;clear hh;have c0:=b3.cell (k:=0) (by omega);have c1:=b3.cell (k:=1) (by omega);have c2:=b3.cell (k:=2) (by omega);have c3:=b3.cell (k:=3) (by omega)
  clear b3
  go_wp2
  have b4:=E3.out.set4 s;have g0:=b4.cell (k:=0) (by omega);have g1:=b4.cell (k:=1) (by omega);have g2:=b4.cell (k:=2) (by omega);have g3:=b4.cell (k:=3) (by omega)
  exact bodyPost_ret (v:=setV s) (by unfold setV;simp[results,Tryz.results197,go_sem,g0,g1,g2,g3]) rfl ⟨by rw[zNM HS.out HH.out],zCD BEL2.out (by omega) _ _ _ _⟩
 | false =>
  have HH:=Lib.hid hh;clear hh;have B3:=Lib.hid b3;have k1:=b3.cell hq4;have k2:=b3.frozen q;clear b3
  go_wp2_with fail
  go_loop [5,6] (fun n i=>∃ j:Nat,j<=r/\i=.int .u8 j/\n=.int .u64 ((2 ^ j:Nat):Int)) (fun _ i=>r - (intOf i).toNat)
  case atStart=>exact⟨0,by omega,rfl,rfl⟩
  case round =>
   obtain⟨j,hj,rfl,rfl⟩:=hrel
   by_cases hlt:j<r
   ·have hp:=H2R.out (j+1) (by omega)
    rw[Nat.pow_succ]at hp;have hs2:2 ^ (j+1)=2 ^ j * 2:=Nat.pow_succ ..;have HS2:=Lib.hid hs2;clear hs2;obtain⟨y,hy⟩:∃ y,y=2 ^ j:=⟨_,rfl⟩;rw[← hy]at hp HS2 ⊢;clear hy;have hw:IntKind.u64.wrap (2 * (y:Int))=2 * (y:Int):=by rw[IntKind.wrap_u64];omega
    go_wp2
    go_round
    case rel=>exact⟨j+1,by omega,by go_num,by rw[HS2.out];go_num⟩
    case measure=>simp[intOf];omega
   ·obtain rfl:j=r:=by omega
    have hadd:=zPj (HS.out q hq4) hr (by have:=HH.out;unfold hasB at this;rwa [HQ.out,HR.out]at this)
    have hp:=H2R.out j (Nat.le_refl _);have hor:s q ||| 2 ^ j<2 ^ 64:=Nat.or_lt_two_pow (HS.out q hq4) (by omega)
    rw[← hadd]at hor;have HADD:=Lib.hid hadd;clear hadd;obtain⟨y,hy⟩:∃ y,y=2 ^ j:=⟨_,rfl⟩;rw[← hy]at hp hor HADD ⊢;have HY:=Lib.hid hy;clear hy;have hw:IntKind.u64.wrap (((s q:Nat):Int)+(y:Int))=((s q+y:Nat):Int):=by rw[IntKind.wrap_u64];omega
    have b5:SBox (w1.setCell ⟨w.heap.size,q,none⟩ (.int .u64 (((s q:Nat):Int)+(y:Int)))) w.heap.size 25 (addS s b):=by
     have h1:=B3.out.set hq4 (s q+y);rw[HADD.out,HY.out,zK9 HQ.out HR.out,← HY.out,← HADD.out]at h1
     simpa using h1
    have e5:SBox (w1.setCell ⟨w.heap.size,q,none⟩ (.int .u64 (((s q:Nat):Int)+(y:Int)))) (w.heap.size+1) 25 zAN:=E3.out.other (by omega) _ _
    have bel5:Below w.heap.size w (w1.setCell ⟨w.heap.size,q,none⟩ (.int .u64 (((s q:Nat):Int)+(y:Int)))):=BEL2.out.setCell (p:=⟨w.heap.size,q,none⟩) (Nat.le_refl _) _;have B5:=Lib.hid bel5;clear bel5;have c0:=b5.cell (k:=0) (by omega);have c1:=b5.cell (k:=1) (by omega);have c2:=b5.cell (k:=2) (by omega);have c3:=b5.cell (k:=3) (by omega)
    clear f0 f1 f2 f3 r0 r1 r2 r3 B3 E3;have f0:=e5.frozen 0;have f1:=e5.frozen 1;have f2:=e5.frozen 2;have f3:=e5.frozen 3;have r0:=e5.cell (k:=0) (by omega);have r1:=e5.cell (k:=1) (by omega);have r2:=e5.cell (k:=2) (by omega);have r3:=e5.cell (k:=3) (by omega)
    clear b5;have E5:=Lib.hid e5;clear e5
    go_wp2
    have b4:=E5.out.set4 (addS s b);have g0:=b4.cell (k:=0) (by omega);have g1:=b4.cell (k:=1) (by omega);have g2:=b4.cell (k:=2) (by omega);have g3:=b4.cell (k:=3) (by omega)
    exact bodyPost_ret (v:=setV (addS s b)) (by unfold setV;simp[results,Tryz.results197,go_sem,g0,g1,g2,g3]) rfl ⟨rfl,zCD B5.out (by omega) _ _ _ _⟩
theorem zOR (v:Value) (xs:List Int) (hx:∀ x ∈ xs,0<=x/\x<=255) (w:World) (h:Rd w w.heap.size v (xs.map (.int .u8))) :
  Calls Tryz.prog 185 #[v] w fun e w'=>e=.returned (setV (ofS xs))/\Below w.heap.size w w':=by
 have b1:SBox (w.alloc (.cells (setC zAN) 25)) w.heap.size 25 zAN:=SBox.new w _ _;have b2:SBox ((w.alloc (.cells (setC zAN) 25)).alloc (.cells (setC zAN) 25)) w.heap.size 25 zAN:=b1.alloc _;have e2:SBox ((w.alloc (.cells (setC zAN) 25)).alloc (.cells (setC zAN) 25)) (w.heap.size+1) 25 zAN:=by have:=SBox.new (w.alloc (.cells (setC zAN) 25)) 25 zAN;rwa [World.size_alloc]at this
 have bel:Below w.heap.size w ((w.alloc (.cells (setC zAN) 25)).alloc (.cells (setC zAN) 25)):=((Below.refl _ w).alloc (Nat.le_refl _) _).alloc (by simp) _
 clear b1;have hl:xs.length<=9223372036854775807:=by simpa using h.len
 obtain⟨p,cap,rfl⟩:∃ p cap,v=.slice p xs.length cap:=by rcases h with ⟨⟨q,h⟩,h'⟩|⟨b,off,cap,h,_⟩;(obtain rfl:xs=[]:=by simpa using h');exact⟨_,_,h⟩;exact⟨some ⟨b,off,none⟩,cap,by simpa using h⟩
 have H:=Lib.hid h;clear h;have HX:=Lib.hid hx;clear hx
 go_enter Tryz.func185,Tryz.ntmps185
 go_wp2_with fail
 go_loopw [4] (fun i wr=>∃ k:Nat,k<=xs.length/\i=.int .i64 k/\Hid (SBox wr (w.heap.size+1) 25 (ofS (xs.take k))/\SBox wr w.heap.size 25 zAN/\Below w.heap.size w wr)) (fun i _=>xs.length - (intOf i).toNat)
 case atStart=>exact⟨0,by omega,rfl,e2,b2,bel⟩
 case round =>
  clear e2 b2 bel;obtain⟨k,hk,rfl,G⟩:=hrel
  by_cases hlt:k<xs.length
  ·obtain⟨b0,off,rfl,hb0,hcell⟩:∃ b0 off,p=some ⟨b0,off,none⟩/\b0<w.heap.size/\w.cell? ⟨b0,off+k,none⟩=some (.int .u8 xs[k]):=by
    rcases H.out with ⟨⟨q,h⟩,h'⟩|⟨b,off,cap,h,h1,_,_,h4⟩
    ·simp at h';subst h';simp at hlt
    ·injection h with h2 _ _;exact⟨b,off,h2,h1,by have:=h4 k (by simpa using hlt);simpa using this⟩
   have hxk:=HX.out xs[k] (List.getElem_mem hlt);have hnext:ofS (xs.take (k+1))=addS (ofS (xs.take k)) xs[k].toNat:=by rw[List.take_succ_eq_append_getElem hlt,zHL]
   have hS:zAv (ofS (xs.take k)):=zCO _;have HN:=Lib.hid hnext;clear hnext;have HS:=Lib.hid hS;clear hS
   generalize ofS (xs.take k)=S at G HN HS
   generalize xs[k]=x at hcell hxk HN
   obtain⟨hx0,hx1⟩:=hxk;obtain⟨x,rfl⟩:∃ n:Nat,x=n:=⟨x.toNat,by omega⟩
   have HC:=Lib.hid hcell;clear hcell
   go_upto_region 5 with fail
   refine wr_ 6 [fun v _=>v=setV S,fun v _=>v=.slice (some ⟨b0,off,none⟩) xs.length cap,fun v _=>v=.int .i64 (k:Int),fun v _=>v=.pointer (some ⟨b0,off+k,none⟩),fun v _=>v=.int .u8 (x:Int),fun v _=>v=setV (addS S x)] ?ob ?en
   case ob =>
    refine⟨?_,?_,?_,?_,?_,?_,trivial⟩<;>intro A W h
    ·exact zHB (s:=S) rfl rfl (h.f 3) (G.out.1.below h.below G.out.1.lt) (by decide)
    ·exact zAH rfl rfl (h.f 0)
    ·exact zAH rfl rfl (h.f 4)
    ·exact zBr (sz:=1) Tryz.underlying110 (fun w=>by kernel_rfl) rfl rfl (h.d 1 12) (h.d 2 13) (by omega) (by omega)
    ·(have e14:A.eval (.tmp 14)=.pointer (some ⟨b0,off+k,none⟩):=h.d 3 14;refine zAA rfl ?_;simp only[execOp,e14];(have q:=((G.out.2.2.trans (h.below.mono G.out.2.2.size)).cell (p:=⟨b0,off+k,none⟩) hb0).trans HC.out;simp[go_sem,q]))
    ·exact zD6 rfl rfl (enters_of Tryz.func197 (by kernel_rfl) rfl) (zPc ⟨(h.d 0 11),(h.d 4 15)⟩) (zEr S HS.out x (by omega) W)
   case en =>
    intro vals W hbw hv _;simp only[fa,Nat.reduceAdd];rw[e_ hv 0,e_ hv 1,e_ hv 2,e_ hv 3,e_ hv 4,e_ hv 5];clear hv
    try simp only[pl]
    have s1:=G.out.1.below hbw G.out.1.lt;have s2:=G.out.2.1.below hbw G.out.2.1.lt;have s3:=G.out.2.2.trans (hbw.mono G.out.2.2.size);have f0:=s1.frozen 0;have f1:=s1.frozen 1;have f2:=s1.frozen 2;have f3:=s1.frozen 3;have r0:=s1.cell (k:=0) (by omega);have r1:=s1.cell (k:=1) (by omega);have r2:=s1.cell (k:=2) (by omega);have r3:=s1.cell (k:=3) (by omega)
    have S1:=Lib.hid s1;clear s1;have S2:=Lib.hid s2;clear s2;have S3:=Lib.hid s3;clear s3;have sz:=G.out.1.lt;clear hbw G;rw[show setV (addS S x)=.agg #[.int .u64 (addS S x 0),.int .u64 (addS S x 1),.int .u64 (addS S x 2),.int .u64 (addS S x 3)] from rfl]
    go_wp2_with fail
    go_roundw
    case rel=>exact⟨k+1,by omega,by go_num,by rw[HN.out];exact S1.out.set4 _,(((S2.out.other (by omega) _ _).other (by omega) _ _).other (by omega) _ _).other (by omega) _ _,zCD S3.out (by omega) _ _ _ _⟩
    case measure=>simp[intOf];omega
  ·obtain rfl:k=xs.length:=by omega
   have ⟨s1,s2,s3⟩:=G.out;rw[List.take_length]at s1;clear G;have f0:=s2.frozen 0;have f1:=s2.frozen 1;have f2:=s2.frozen 2;have f3:=s2.frozen 3;have r0:=s2.cell (k:=0) (by omega);have r1:=s2.cell (k:=1) (by omega);have r2:=s2.cell (k:=2) (by omega);have r3:=s2.cell (k:=3) (by omega)
   have c0:=s1.cell (k:=0) (by omega);have c1:=s1.cell (k:=1) (by omega);have c2:=s1.cell (k:=2) (by omega);have c3:=s1.cell (k:=3) (by omega)
   clear s1;have S2:=Lib.hid s2;clear s2;have S3:=Lib.hid s3;clear s3
   go_wp2
   have b4:=S2.out.set4 (ofS xs);have g0:=b4.cell (k:=0) (by omega);have g1:=b4.cell (k:=1) (by omega);have g2:=b4.cell (k:=2) (by omega);have g3:=b4.cell (k:=3) (by omega)
   exact bodyPost_ret (v:=setV (ofS xs)) (by unfold setV;simp[results,Tryz.results185,go_sem,g0,g1,g2,g3]) rfl ⟨rfl,zCD S3.out (by omega) _ _ _ _⟩
def UTo (L:List (Nat->Nat)) (b i:Nat) (S:Nat->Nat):Prop:=zAv S/\∀ c,c<256->hasB S c=((decide (c<b)&&L.any (fun t=>hasB t c)) || (decide (c=b)&&(L.take i).any (fun t=>hasB t c)))
theorem UTo.start (L:List (Nat->Nat)):UTo L 0 0 zAN:=⟨zBu,fun c _=>by simp[zGV]⟩
theorem UTo.next {L:List (Nat->Nat)} {b:Nat} {S:Nat->Nat} (h:UTo L b L.length S):UTo L (b+1) 0 S :=
 ⟨h.1,fun c hc=>by
  rw[h.2 c hc,List.take_length]
  by_cases e:c=b
  ·subst e;simp
  ·by_cases e2:c<b
   ·simp[e,e2,Nat.lt_succ_of_lt e2]
   ·simp[e,e2,show ¬ c<b+1 from by omega]⟩
def MTo (L:List (Nat->Nat)) (b:Nat) (S:Nat->Nat):Prop:=zAv S/\∀ c,c<256->hasB S c=(decide (c<b)&&L.all (fun t=>hasB t c))
theorem MTo.start (L:List (Nat->Nat)):MTo L 0 zAN:=⟨zBu,fun c _=>by simp[zGV]⟩
theorem zIL (lo hi:Nat) (hlo:lo<=255) (hhi:hi<=255) (w:World) :
  Calls Tryz.prog 184 #[.int .u8 lo,.int .u8 hi] w fun e w'=>e=.returned (setV (zBn lo (hi+1 - lo)))/\Below w.heap.size w w':=by
 have b1:SBox (w.alloc (.cells (setC zAN) 25)) w.heap.size 25 zAN:=SBox.new w _ _;have b2:SBox ((w.alloc (.cells (setC zAN) 25)).alloc (.cells (setC zAN) 25)) w.heap.size 25 zAN:=b1.alloc _;have e2:SBox ((w.alloc (.cells (setC zAN) 25)).alloc (.cells (setC zAN) 25)) (w.heap.size+1) 25 zAN:=by have:=SBox.new (w.alloc (.cells (setC zAN) 25)) 25 zAN;rwa [World.size_alloc]at this
 have bel:Below w.heap.size w ((w.alloc (.cells (setC zAN) 25)).alloc (.cells (setC zAN) 25)):=((Below.refl _ w).alloc (Nat.le_refl _) _).alloc (by simp) _
 clear b1
 go_enter Tryz.func184,Tryz.ntmps184
 go_wp2_with fail
 go_loopw [6] (fun i wr=>∃ m:Nat,m<=hi+1 - lo/\i=.int .i64 ((lo+m:Nat):Int)/\Hid (SBox wr (w.heap.size+1) 25 (zBn lo m)/\SBox wr w.heap.size 25 zAN/\Below w.heap.size w wr/\True)) (fun i _=>256 - (intOf i).toNat)
 case atStart=>exact⟨0,by omega,rfl,e2,b2,bel,trivial⟩
 case round =>
  clear e2 b2 bel;obtain⟨m,hm,rfl,H⟩:=hrel;obtain⟨n,hn⟩:∃ n,lo+m=n:=⟨_,rfl⟩;rw[hn];have HN:=Lib.hid hn;clear hn;have hn2:n<=hi+1\/n=lo:=by have:=HN.out;omega
  by_cases hlt:n<=hi
  ·have hnext:=zIv lo m;rw[HN.out]at hnext;have hS:zAv (zBn lo m):=zCO _;have Hnext:=Lib.hid hnext;clear hnext;have HS:=Lib.hid hS;clear hS
   generalize zBn lo m=S at H Hnext HS
   go_upto_region 5 with fail
   refine ws_ 4 [fun v _=>v=setV S,fun v _=>v=.int .i64 (n:Int),fun v _=>v=.int .u8 (n:Int),fun v _=>v=setV (addS S n)] ?ob ?en
   case ob =>
    refine⟨?_,?_,?_,?_,trivial⟩<;>intro A W h
    ·exact zHB (s:=S) rfl rfl (h.f 5) (H.out.1.below h.below H.out.1.lt) (by decide)
    ·exact zAH rfl rfl (h.f 6)
    ·(have e16:A.eval (.tmp 16)=.int .i64 (n:Int):=h.d 1 16;refine zAA rfl ?_;simp only[execOp,e16];(simp[go_sem]<;>(rw[IntKind.wrap_u8];omega)))
    ·exact zD6 rfl rfl (enters_of Tryz.func197 (by kernel_rfl) rfl) (zPc ⟨(h.d 0 15),(h.d 2 17)⟩) (zEr S HS.out n (by omega) W)
   case en =>
    intro vals W hbw hv _;simp only[fa,Nat.reduceAdd];rw[e_ hv 0,e_ hv 1,e_ hv 2,e_ hv 3];clear hv
    try simp only[pl]
    have s1:=H.out.1.below hbw H.out.1.lt;have s2:=H.out.2.1.below hbw H.out.2.1.lt;have s3:=H.out.2.2.1.trans (hbw.mono H.out.2.2.1.size);have f0:=s1.frozen 0;have f1:=s1.frozen 1;have f2:=s1.frozen 2;have f3:=s1.frozen 3;have r0:=s1.cell (k:=0) (by omega);have r1:=s1.cell (k:=1) (by omega);have r2:=s1.cell (k:=2) (by omega);have r3:=s1.cell (k:=3) (by omega)
    have S1:=Lib.hid s1;clear s1;have S2:=Lib.hid s2;clear s2;have S3:=Lib.hid s3;clear s3;clear hbw;rw[show setV (addS S n)=.agg #[.int .u64 (addS S n 0),.int .u64 (addS S n 1),.int .u64 (addS S n 2),.int .u64 (addS S n 3)] from rfl]
    go_wp2_with fail
    have T1:=Lib.hid (S1.out.set4 (addS S n));have T2:=Lib.hid ((((S2.out.other (B':=w.heap.size+1) (by omega) 0 (.int .u64 (addS S n 0))).other (B':=w.heap.size+1) (by omega) 1 (.int .u64 (addS S n 1))).other (B':=w.heap.size+1) (by omega) 2 (.int .u64 (addS S n 2))).other (B':=w.heap.size+1) (by omega) 3 (.int .u64 (addS S n 3)))
    have T3:=Lib.hid (zCD S3.out (B:=w.heap.size+1) (by omega) (.int .u64 (addS S n 0)) (.int .u64 (addS S n 1)) (.int .u64 (addS S n 2)) (.int .u64 (addS S n 3)))
    go_roundw
    case rel=>exact⟨m+1,by have:=HN.out;omega,by have:=HN.out;go_num,by rw[Hnext.out];exact T1.out,T2.out,T3.out,trivial⟩
    case measure=>simp[intOf];omega
  ·have hm2:m=hi+1 - lo:=by have:=HN.out;omega
   subst hm2;have ⟨s1,s2,s3,_⟩:=H.out;clear H;have f0:=s2.frozen 0;have f1:=s2.frozen 1;have f2:=s2.frozen 2;have f3:=s2.frozen 3;have r0:=s2.cell (k:=0) (by omega);have r1:=s2.cell (k:=1) (by omega);have r2:=s2.cell (k:=2) (by omega);have r3:=s2.cell (k:=3) (by omega)
   have c0:=s1.cell (k:=0) (by omega);have c1:=s1.cell (k:=1) (by omega);have c2:=s1.cell (k:=2) (by omega);have c3:=s1.cell (k:=3) (by omega)
   clear s1;have S2:=Lib.hid s2;clear s2;have S3:=Lib.hid s3;clear s3
   go_wp2
   have b4:=S2.out.set4 (zBn lo (hi+1 - lo));have g0:=b4.cell (k:=0) (by omega);have g1:=b4.cell (k:=1) (by omega);have g2:=b4.cell (k:=2) (by omega);have g3:=b4.cell (k:=3) (by omega)
   exact bodyPost_ret (v:=setV (zBn lo (hi+1 - lo))) (by unfold setV;simp[results,Tryz.results184,go_sem,g0,g1,g2,g3]) rfl ⟨rfl,zCD S3.out (by omega) _ _ _ _⟩
def optI:Option Nat->Int
 | some n=>n
 | none => -1
theorem zQM (c:Nat) (hc:c<256) (w0:World):Calls Tryz.prog 200 #[.int .u8 c] w0 (Rt (.int .i64 (optI (hexP c))) w0):=by
 go_enter Tryz.func200,Tryz.ntmps200
 go_wp2
 all_goals
  go_ret;refine⟨reti ?_,Below.refl _ _⟩;unfold hexP
  (repeat' split)<;>simp only[optI]<;>omega
theorem zP8 (lo hi:Nat) (hlo:lo<=255) (hhi:hi<=255) (w0:World):Calls Tryz.prog 203 #[.int .u8 lo,.int .u8 hi] w0 (Rt (setV (zBn lo (hi+1 - lo))) w0):=by
 have H:=Hold.start w0
 go_enter Tryz.func203,Tryz.ntmps203
 go_wp2_with (first|(first|((with_reducible refine gT ?_);(refine aS H ?_;clear H;intro w H;try simp only[nr]at H))|((with_reducible refine gA ?_);(refine bA H ?_;clear H;intro b w H;try simp only[nr]at H)))|((with_reducible refine ch (zIL lo hi hlo hhi _) H ?_);clear H;intro w H))
 (refine xcS Tryz.results203 H ?_)
 exact⟨rfl,H.below⟩
theorem zPK (c:Nat) (hc:c<256) (w0:World):Calls Tryz.prog 180 #[.int .u8 c] w0 (Rt (setV (ofS [(c:Int)])) w0):=by
 have H:=Hold.start w0
 go_enter Tryz.func180,Tryz.ntmps180
 go_wp2_with (first|(first|((with_reducible refine gT ?_);(refine aS H ?_;clear H;intro w H;try simp only[nr]at H))|((with_reducible refine gA ?_);(refine bA H ?_;clear H;intro b w H;try simp only[nr]at H)))|((with_reducible refine gBS ?_);refine zAY wtd_ _ _ _ rfl H (#[.int .u8 c]) 5 (by intro W;simp only[ml];(try simp only[pe]);(try unfold setV);simp[go_sem]<;>rfl) ?_;clear H;intro b w H;try simp only[nr]at H)|((with_reducible refine ch (zOR _ [(c:Int)] (by simp;omega) _ (H.rdn (cs:=[.int .u8 c]) atd_ (by simp) (by simp[maxLen]))) H ?_);clear H;intro w H))
 (refine xcS Tryz.results180 H ?_)
 exact⟨rfl,H.below⟩
theorem zOJ (L t:Str) (i:Nat) (hL:L.length<=2000) (ht:t≠[]) (htl:t.length<=2000) (hi:i<=4000) (w0:World) :
  Calls Tryz.prog 176 #[.string ⟨L.toArray⟩,.int .i64 i,.string ⟨t.toArray⟩] w0 (Rt (.bool (atP L i t)) w0):=by
 have H:=Hold.start w0;have HT:=Lib.hid ht;clear ht
 by_cases h:i+t.length<=L.length
 ·have hd:decide ((i:Int)+(t.length:Int)<=(L.length:Int))=true:=by simp;omega
  have hw:IntKind.i64.wrap ((i:Int)+(t.length:Int))=(i:Int)+(t.length:Int):=by rw[IntKind.wrap_i64];omega
  go_enter Tryz.func176,Tryz.ntmps176
  go_wp2_with (first|(first|((with_reducible refine gC ?_);refine aC ?_)|((with_reducible refine gE ?_);refine aE ?_)))
  go_ret;exact⟨retb (zQA h),Below.refl _ _⟩
 ·have hd:decide ((i:Int)+(t.length:Int)<=(L.length:Int))=false:=by simp;omega
  have hw:IntKind.i64.wrap ((i:Int)+(t.length:Int))=(i:Int)+(t.length:Int):=by rw[IntKind.wrap_i64];omega
  go_enter Tryz.func176,Tryz.ntmps176
  go_wp2_with (first|fail)
  go_ret;exact⟨retb (zOM (by omega) HT.out).symm,Below.refl _ _⟩
theorem zMD (s:Nat->Nat):zAv zAN/\∀ c,c<256->hasB zAN c=(decide (c<0)&&!hasB s c):=⟨zBu,fun c _=>by simp[zGV]⟩
theorem zJE (s:Nat->Nat) (hs:zAv s) (w0:World):Calls Tryz.prog 182 #[setV s] w0 (Rt (setV (notS s)) w0):=by
 have H:=Hold.start w0
 go_enter Tryz.func182,Tryz.ntmps182
 go_wp2_with (first|((with_reducible refine kg 1 ?_);(first|refine kA 1 H ?_|refine kS 1 H ?_|refine kB 1 H ?_);clear H;intro b1 w H;try simp only[nr]at H)|((with_reducible refine kg 2 ?_);(first|refine kA 2 H ?_|refine kS 2 H ?_|refine kB 2 H ?_);clear H;intro b2 w H;try simp only[nr]at H)|((with_reducible refine kg 3 ?_);(first|refine kA 3 H ?_|refine kS 3 H ?_|refine kB 3 H ?_);clear H;intro b3 w H;try simp only[nr]at H)|fail)
 go_loopw [4] (fun i wr=>∃ (k:Nat) (S:Nat->Nat),k<=256/\i=.int .i64 k/\Hid (zAv S/\∀ c,c<256->hasB S c=(decide (c<k)&&!hasB s c))/\Hold w0 wr [.blk b1 (setC s) 25,.blk b2 (setC zAN) 25,.blk b3 (setC S) 25]) (fun i _=>256 - (intOf i).toNat)
 case atStart=>exact⟨0,zAN,by omega,rfl,Lib.hid (zMD s),H⟩
 case round =>
  clear H;obtain⟨k,S,hk,rfl,G,H⟩:=hrel
  by_cases hlt:k<256
  ·cases hb:hasB s k with
   | true =>
    have hc:=fun w=>zFt s hs k hlt w
    rw[hb]at hc;have HB:=Lib.hid hb;clear hb
    go_wp2_with (first|((with_reducible refine gL ?_);refine aL H ?_)|((with_reducible refine ch (hc _) H ?_);clear H;intro w H))
    go_roundw
    case rel=>exact⟨k+1,S,by omega,by go_num,Lib.hid ⟨G.out.1,fun c hc=>by
     rw[G.out.2 c hc]
     by_cases e:c=k
     ·subst e;simp[HB.out]
     ·simp[show c<k+1↔c<k from by omega]⟩,H⟩
    case measure=>simp[intOf];omega
   | false =>
    have hc:=fun w=>zFt s hs k hlt w
    rw[hb]at hc;have HB:=Lib.hid hb;clear hb
    go_wp2_with (first|(first|((with_reducible refine gT ?_);(refine aS H ?_;clear H;intro w H;try simp only[nr]at H))|((with_reducible refine gL ?_);refine aL H ?_))|((with_reducible first|refine ch (hc _) H ?_|refine ch (zEr S G.out.1 k hlt _) H ?_);clear H;intro w H))
    go_roundw
    case rel=>exact⟨k+1,addS S k,by omega,by go_num,Lib.hid ⟨zFJ G.out.1 k,fun c hc=>by
     rw[zLA,G.out.2 c hc]
     by_cases e:c=k
     ·subst e;simp[HB.out]
     ·simp[e,show c<k+1↔c<k from by omega]⟩,H⟩
    case measure=>simp[intOf];omega
  ·obtain rfl:k=256:=by omega
   go_wp2_with (first|(first|((with_reducible refine gT ?_);(refine aS H ?_;clear H;intro w H;try simp only[nr]at H))|((with_reducible refine gL ?_);refine aL H ?_)))
   (refine xcS Tryz.results182 H ?_)
   exact⟨congrArg Ending.returned (zJm G.out.1 (zFA s) fun c hc=>by rw[G.out.2 c hc,zOk hs hc];simp[hc]),H.below⟩
theorem zNa (s:Nat->Nat) (hs:zAv s) (w0:World):Calls Tryz.prog 181 #[setV s] w0 (Rt (setV (zNd s)) w0):=by
 have H:=Hold.start w0
 go_enter Tryz.func181,Tryz.ntmps181
 go_wp2_with (first|((with_reducible refine kg 1 ?_);(first|refine kA 1 H ?_|refine kS 1 H ?_|refine kB 1 H ?_);clear H;intro b1 w H;try simp only[nr]at H)|((with_reducible refine kg 2 ?_);(first|refine kA 2 H ?_|refine kS 2 H ?_|refine kB 2 H ?_);clear H;intro b2 w H;try simp only[nr]at H)|((with_reducible refine kg 3 ?_);(first|refine kA 3 H ?_|refine kS 3 H ?_|refine kB 3 H ?_);clear H;intro b3 w H;try simp only[nr]at H)|(first|((with_reducible refine gT ?_);(refine aS H ?_;clear H;intro w H;try simp only[nr]at H))|((with_reducible refine gL ?_);refine aL H ?_)))
 go_loopw [4] (fun i wr=>∃ (k:Nat),k<=26/\i=.int .u8 (97+(k:Int))/\Hold w0 wr [.blk b1 (setC s) 25,.blk b2 (setC zAN) 25,.blk b3 (setC (zCY s k)) 25]) (fun i _=>26+97 - (intOf i).toNat)
 case atStart=>exact⟨0,by omega,rfl,H⟩
 case round =>
  clear H;obtain⟨k,hk,rfl,H⟩:=hrel
  by_cases hlt:k<26
  ·have hd:decide (97+(k:Int)<=122)=true:=by simp;omega
   have hc:=fun w=>zFt s hs (97+k) (by omega) w
   have hc2:=fun w=>zFt s hs (65+k) (by omega) w
   have h32:IntKind.u8.wrap (97+(k:Int) - 32)=65+(k:Int):=by rw[IntKind.wrap_u8];omega
   have hw1:=fun w=>zEr (zCY s k) (zDv hs k) (97+k) (by omega) w
   have hw2:=fun w=>zEr (addS (zCY s k) (97+k)) (zFJ (zDv hs k) _) (65+k) (by omega) w
   simp only[Int.natCast_add,Int.cast_ofNat_Int]at hc hc2 hw1 hw2;have ha1:IntKind.u8.wrap (97+(k:Int)+1)=97+((k+1:Nat):Int):=by rw[IntKind.wrap_u8];omega
   cases ha:hasB s (97+k) with
   | true =>
    have E:=Lib.hid (show zCY s (k+1)=addS (addS (zCY s k) (97+k)) (65+k) by simp[zCY,ha])
    rw[ha]at hc;clear ha
    go_wp2_with (first|(first|((with_reducible refine gT ?_);(refine aS H ?_;clear H;intro w H;try simp only[nr]at H))|((with_reducible refine gL ?_);refine aL H ?_))|((with_reducible first|refine ch (hc _) H ?_|refine ch (hw1 _) H ?_|refine ch (hw2 _) H ?_);clear H;intro w H))
    go_roundw
    case rel=>exact⟨k+1,by omega,rfl,by rw[E.out];exact H⟩
    case measure=>simp[intOf];omega
   | false =>
    cases hb:hasB s (65+k) with
    | true =>
     have E:=Lib.hid (show zCY s (k+1)=addS (addS (zCY s k) (97+k)) (65+k) by simp[zCY,hb])
     rw[ha]at hc;rw[hb]at hc2;clear ha hb
     go_wp2_with (first|(first|((with_reducible refine gT ?_);(refine aS H ?_;clear H;intro w H;try simp only[nr]at H))|((with_reducible refine gL ?_);refine aL H ?_))|((with_reducible first|refine ch (hc _) H ?_|refine ch (hc2 _) H ?_|refine ch (hw1 _) H ?_|refine ch (hw2 _) H ?_);clear H;intro w H))
     go_roundw
     case rel=>exact⟨k+1,by omega,rfl,by rw[E.out];exact H⟩
     case measure=>simp[intOf];omega
    | false =>
     have E:=Lib.hid (show zCY s (k+1)=zCY s k by simp[zCY,ha,hb])
     rw[ha]at hc;rw[hb]at hc2;clear ha hb
     go_wp2_with (first|((with_reducible refine gL ?_);refine aL H ?_)|((with_reducible first|refine ch (hc _) H ?_|refine ch (hc2 _) H ?_);clear H;intro w H))
     go_roundw
     case rel=>exact⟨k+1,by omega,rfl,by rw[E.out];exact H⟩
     case measure=>simp[intOf];omega
  ·obtain rfl:k=26:=by omega
   go_wp2_with (first|(first|((with_reducible refine gT ?_);(refine aS H ?_;clear H;intro w H;try simp only[nr]at H))|((with_reducible refine gL ?_);refine aL H ?_)))
   (refine xcS Tryz.results181 H ?_)
   exact⟨rfl,H.below⟩
theorem or3 (f n:Bool):(f=true)\/(f=false/\n=true)\/(f=false/\n=false):=by cases f<;>cases n<;>simp
theorem zG7 (f:zBL) (d:WordD) (w0:World):Calls Tryz.prog 151 #[zCN f,zC3 d] w0 (Rt (zCN (zGR f d)) w0):=by
 have H:=Hold.start w0
 rcases or3 f.1 d.on.1 with h1|⟨h1,k1⟩|⟨h1,k1⟩<;>rcases or3 f.2.1 d.on.2.1 with h2|⟨h2,k2⟩|⟨h2,k2⟩<;>rcases or3 f.2.2 d.on.2.2 with h3|⟨h3,k3⟩|⟨h3,k3⟩<;>(
  go_enter Tryz.func151,Tryz.ntmps151
  go_wp2_with (first|(first|((with_reducible refine gT ?_);(refine aT H ?_;clear H;intro w H;try simp only[nr]at H))|((with_reducible refine gL ?_);(first|refine aGb H ?_|refine aG H ?_))|((with_reducible refine gX ?_);(refine bB H ?_;clear H;intro b w H;try simp only[nr]at H))|((with_reducible refine gA ?_);(refine bA H ?_;clear H;intro b w H;try simp only[nr]at H))|((with_reducible refine gZ ?_);refine fb3 ?_)))
  (refine xc Tryz.results151 H ?_)
  exact⟨congrArg (fun x=>Ending.returned (zCN x)) (by simp[zGR, *]),H.below⟩)
theorem zF4 (d:WordD) (w0:World):Calls Tryz.prog 150 #[zC3 d] w0 (Rt (.bool (zA7 d)) w0):=by
 have H:=Hold.start w0
 by_cases h6:d.kind=6
 ·have d6:((d.kind:Int) == 6)=true:=by rw[beq_iff_eq];omega
  have E:=Lib.hid (show zA7 d=true by simp[zA7,h6]);clear h6
  go_enter Tryz.func150,Tryz.ntmps150
  go_wp2_with (first|(first|((with_reducible refine gL ?_);refine aG H ?_)|((with_reducible refine gX ?_);(refine bB H ?_;clear H;intro b w H;try simp only[nr]at H))))
  go_ret;exact⟨retb E.out.symm,H.below⟩
 ·have d6:((d.kind:Int) == 6)=false:=by rw[beq_eq_false_iff_ne];omega
  have E:=Lib.hid (show zA7 d=((d.kind:Int) == 7) by
   simp only[zA7,show (d.kind == 6)=false from by simpa using h6,Bool.false_or]
   rw[Bool.eq_iff_iff,beq_iff_eq,beq_iff_eq];omega);clear h6
  go_enter Tryz.func150,Tryz.ntmps150
  go_wp2_with (first|(first|((with_reducible refine gL ?_);refine aG H ?_)|((with_reducible refine gX ?_);(refine bB H ?_;clear H;intro b w H;try simp only[nr]at H))))
  go_ret;exact⟨retb E.out.symm,H.below⟩
theorem zMY (s:Nat->Nat) (w0:World):Calls Tryz.prog 183 #[setV s] w0 (Rt (zAV (setT s).d nilS) w0):=by
 have H:=Hold.start w0
 cases hq:eqS s zAN with
 | true =>
  have E:=Lib.hid (show (setT s).d={kind:=2} by simp[setT,hq,zBs,Tree.d])
  go_enter Tryz.func183,Tryz.ntmps183
  go_wp2_with (first|(first|((with_reducible refine gT ?_);(refine aT H ?_;clear H;intro w H;try simp only[nr]at H))|((with_reducible refine gL ?_);refine aL H ?_)|((with_reducible refine gX ?_);(refine bS H ?_;clear H;intro b w H;try simp only[nr]at H))|((with_reducible refine gA ?_);(refine bA H ?_;clear H;intro b w H;try simp only[nr]at H))|((with_reducible refine gZ ?_);refine nb1 ?_)|((with_reducible refine gES ?_);refine qS ?_)|((with_reducible refine gZ ?_);refine aZ ?_)))
  (refine xc Tryz.results183 H ?_)
  exact⟨by rw[E.out],H.below⟩
 | false =>
  have E:=Lib.hid (show (setT s).d={kind:=3,set:=s} by simp[setT,hq,Tree.d])
  go_enter Tryz.func183,Tryz.ntmps183
  go_wp2_with (first|(first|((with_reducible refine gT ?_);(refine aT H ?_;clear H;intro w H;try simp only[nr]at H))|((with_reducible refine gL ?_);refine aL H ?_)|((with_reducible refine gX ?_);(refine bS H ?_;clear H;intro b w H;try simp only[nr]at H))|((with_reducible refine gA ?_);(refine bA H ?_;clear H;intro b w H;try simp only[nr]at H))|((with_reducible refine gZ ?_);refine nbS ?_)|((with_reducible refine gES ?_);refine qS ?_)|((with_reducible refine gZ ?_);refine aZ ?_)))
  (refine xc Tryz.results183 H ?_)
  exact⟨by rw[E.out],H.below⟩
theorem zGm (f:zBL) (p q:Int) (w0:World):Calls Tryz.prog 186 #[zCN f,.int .i64 p,.int .i64 q] w0 (Rt (zAV (zLk f p q).d nilS) w0):=by
 have H:=Hold.start w0;obtain⟨f1,f2,f3⟩:=f
 cases f2 with
 | true =>
  go_enter Tryz.func186,Tryz.ntmps186
  go_wp2_with (first|(first|((with_reducible refine gT ?_);(refine aT H ?_;clear H;intro w H;try simp only[nr]at H))|((with_reducible refine gL ?_);refine aG H ?_)|((with_reducible refine gX ?_);(refine bB H ?_;clear H;intro b w H;try simp only[nr]at H))|((with_reducible refine gA ?_);(refine bA H ?_;clear H;intro b w H;try simp only[nr]at H))|((with_reducible refine gZ ?_);refine nb1 ?_)))
  (refine xc Tryz.results186 H ?_)
  exact⟨rfl,H.below⟩
 | false =>
  go_enter Tryz.func186,Tryz.ntmps186
  go_wp2_with (first|(first|((with_reducible refine gT ?_);(refine aT H ?_;clear H;intro w H;try simp only[nr]at H))|((with_reducible refine gL ?_);refine aG H ?_)|((with_reducible refine gX ?_);(refine bB H ?_;clear H;intro b w H;try simp only[nr]at H))|((with_reducible refine gA ?_);(refine bA H ?_;clear H;intro b w H;try simp only[nr]at H))|((with_reducible refine gZ ?_);refine nb1 ?_)))
  (refine xc Tryz.results186 H ?_)
  exact⟨rfl,H.below⟩
theorem zOd (w0:World):Calls Tryz.prog 184 #[.int .u8 0,.int .u8 255] w0 (Rt (setV (zBn 0 256)) w0):=zIL 0 255 (by omega) (by omega) w0
theorem zQC (v:Value) (w0:World) (h:Rd w0 w0.heap.size v [.int .u8 10]):Calls Tryz.prog 185 #[v] w0 (Rt (setV (ofS [10])) w0):=zOR v [10] (by simp) w0 h
theorem zNB {s:Nat->Nat} (hs:zAv s):zAv (zNd s):=zDv hs 26
theorem zN3 (f:zBL) (d:WordD) (hs:zAv d.set) (w0:World):Calls Tryz.prog 154 #[zC3 d,zCN f] w0 (Rt (zAV (zFM d f).d nilS) w0):=by
 have H:=Hold.start w0;have E:zFM d f=zFM d f:=rfl
 conv at E=>rhs;unfold zFM
 by_cases h1:d.kind=1
 ·have d1:((d.kind:Int) == 1)=true:=by rw[beq_iff_eq];omega
  rw[if_pos h1]at E;clear h1;have hof:=fun s w=>zMY s w
  cases hf:f.1 with
  | true =>
   rw[hf]at E;simp only[if_true]at E;have hfo:=fun w=>zNa d.set hs w
   have hno:=fun w=>zJE (zNd d.set) (zNB hs) w
   cases hg:d.neg with
   | true =>
    rw[hg]at E;simp only[if_true]at E;have E2:=Lib.hid E;clear E
    go_enter Tryz.func154,Tryz.ntmps154
    go_wp2_with (first|(first|((with_reducible refine gT ?_);((first|refine aS H ?_|refine aT H ?_);clear H;intro w H;try simp only[nr]at H))|((with_reducible refine gL ?_);(first|refine aV H ?_|refine aL H ?_|refine aGb H ?_|refine aG H ?_))|((with_reducible refine gX ?_);(refine bB H ?_;clear H;intro b w H;try simp only[nr]at H))|((with_reducible refine gA ?_);(refine bA H ?_;clear H;intro b w H;try simp only[nr]at H)))|((with_reducible first|refine ch (hfo _) H ?_|refine ch (hno _) H ?_|refine ch (hof _ _) H ?_);clear H;intro w H))
    (refine xc Tryz.results154 H ?_)
    exact⟨by rw[E2.out],H.below⟩
   | false =>
    rw[hg]at E;simp only[Bool.false_eq_true,if_false]at E;have E2:=Lib.hid E;clear E
    go_enter Tryz.func154,Tryz.ntmps154
    go_wp2_with (first|(first|((with_reducible refine gT ?_);((first|refine aS H ?_|refine aT H ?_);clear H;intro w H;try simp only[nr]at H))|((with_reducible refine gL ?_);(first|refine aV H ?_|refine aL H ?_|refine aGb H ?_|refine aG H ?_))|((with_reducible refine gX ?_);(refine bB H ?_;clear H;intro b w H;try simp only[nr]at H))|((with_reducible refine gA ?_);(refine bA H ?_;clear H;intro b w H;try simp only[nr]at H)))|((with_reducible first|refine ch (hfo _) H ?_|refine ch (hof _ _) H ?_);clear H;intro w H))
    (refine xc Tryz.results154 H ?_)
    exact⟨by rw[E2.out],H.below⟩
  | false =>
   rw[hf]at E;simp only[Bool.false_eq_true,if_false]at E;have hno:=fun w=>zJE d.set hs w
   cases hg:d.neg with
   | true =>
    rw[hg]at E;simp only[if_true]at E;have E2:=Lib.hid E;clear E
    go_enter Tryz.func154,Tryz.ntmps154
    go_wp2_with (first|(first|((with_reducible refine gT ?_);((first|refine aS H ?_|refine aT H ?_);clear H;intro w H;try simp only[nr]at H))|((with_reducible refine gL ?_);(first|refine aV H ?_|refine aL H ?_|refine aGb H ?_|refine aG H ?_))|((with_reducible refine gX ?_);(refine bB H ?_;clear H;intro b w H;try simp only[nr]at H))|((with_reducible refine gA ?_);(refine bA H ?_;clear H;intro b w H;try simp only[nr]at H)))|((with_reducible first|refine ch (hno _) H ?_|refine ch (hof _ _) H ?_);clear H;intro w H))
    (refine xc Tryz.results154 H ?_)
    exact⟨by rw[E2.out],H.below⟩
   | false =>
    rw[hg]at E;simp only[Bool.false_eq_true,if_false]at E;have E2:=Lib.hid E;clear E
    go_enter Tryz.func154,Tryz.ntmps154
    go_wp2_with (first|(first|((with_reducible refine gT ?_);((first|refine aS H ?_|refine aT H ?_);clear H;intro w H;try simp only[nr]at H))|((with_reducible refine gL ?_);(first|refine aV H ?_|refine aL H ?_|refine aGb H ?_|refine aG H ?_))|((with_reducible refine gX ?_);(refine bB H ?_;clear H;intro b w H;try simp only[nr]at H))|((with_reducible refine gA ?_);(refine bA H ?_;clear H;intro b w H;try simp only[nr]at H)))|((with_reducible refine ch (hof _ _) H ?_);clear H;intro w H))
    (refine xc Tryz.results154 H ?_)
    exact⟨by rw[E2.out],H.below⟩
 ·have d1:((d.kind:Int) == 1)=false:=by rw[beq_eq_false_iff_ne];omega
  rw[if_neg h1]at E;clear h1
  by_cases h2:d.kind=2
  ·have d2:((d.kind:Int) == 2)=true:=by rw[beq_iff_eq];omega
   rw[if_pos h2]at E;clear h2
   cases hf:f.2.2 with
   | true =>
    rw[hf]at E;simp only[if_true]at E;have E2:=Lib.hid E;clear E;have hof:=fun w=>zMY (zBn 0 256) w
    have hr:=fun w=>zOd w
    go_enter Tryz.func154,Tryz.ntmps154
    go_wp2_with (first|(first|((with_reducible refine gT ?_);(refine aT H ?_;clear H;intro w H;try simp only[nr]at H))|((with_reducible refine gL ?_);(first|refine aGb H ?_|refine aG H ?_))|((with_reducible refine gX ?_);(refine bB H ?_;clear H;intro b w H;try simp only[nr]at H))|((with_reducible refine gA ?_);(refine bA H ?_;clear H;intro b w H;try simp only[nr]at H)))|((with_reducible first|refine ch (hr _) H ?_|refine ch (hof _) H ?_);clear H;intro w H))
    (refine xc Tryz.results154 H ?_)
    exact⟨by rw[E2.out],H.below⟩
   | false =>
    rw[hf]at E;simp only[Bool.false_eq_true,if_false]at E;have E2:=Lib.hid E;clear E;have hof:=fun w=>zMY (notS (ofS [10])) w
    have hno:=fun w=>zJE (ofS [10]) (zCO _) w
    go_enter Tryz.func154,Tryz.ntmps154
    go_wp2_with (first|(first|((with_reducible refine gT ?_);(refine aT H ?_;clear H;intro w H;try simp only[nr]at H))|((with_reducible refine gL ?_);(first|refine aGb H ?_|refine aG H ?_))|((with_reducible refine gX ?_);(refine bB H ?_;clear H;intro b w H;try simp only[nr]at H))|((with_reducible refine gA ?_);(refine bA H ?_;clear H;intro b w H;try simp only[nr]at H)))|((with_reducible refine gBS ?_);refine zAY wtd_ _ _ _ rfl H (#[.int .u8 10]) 5 (by intro W;simp only[ml];(try simp only[pe]);(try unfold setV);simp[go_sem]<;>rfl) ?_;clear H;intro b w H;try simp only[nr]at H)|((with_reducible first|refine ch (zQC _ _ (H.rdn (cs:=[.int .u8 10]) atd_ (by simp) (by simp[maxLen]))) H ?_|refine ch (hno _) H ?_|refine ch (hof _) H ?_);clear H;intro w H))
    (refine xc Tryz.results154 H ?_)
    exact⟨by rw[E2.out],H.below⟩
  ·have d2:((d.kind:Int) == 2)=false:=by rw[beq_eq_false_iff_ne];omega
   rw[if_neg h2]at E;clear h2
   by_cases h3:d.kind=3
   ·have d3:((d.kind:Int) == 3)=true:=by rw[beq_iff_eq];omega
    rw[if_pos h3]at E;clear h3;have E2:=Lib.hid E;clear E;have hsp:=fun w=>zGm f 8 10 w
    go_enter Tryz.func154,Tryz.ntmps154
    go_wp2_with (first|(first|((with_reducible refine gT ?_);(refine aT H ?_;clear H;intro w H;try simp only[nr]at H))|((with_reducible refine gL ?_);(first|refine aG H ?_|refine aD H ?_))|((with_reducible refine gX ?_);(refine bB H ?_;clear H;intro b w H;try simp only[nr]at H))|((with_reducible refine gA ?_);(refine bA H ?_;clear H;intro b w H;try simp only[nr]at H)))|((with_reducible refine ch (hsp _) H ?_);clear H;intro w H))
    (refine xc Tryz.results154 H ?_)
    exact⟨by rw[E2.out],H.below⟩
   ·have d3:((d.kind:Int) == 3)=false:=by rw[beq_eq_false_iff_ne];omega
    rw[if_neg h3]at E;clear h3
    by_cases h4:d.kind=4
    ·have d4:((d.kind:Int) == 4)=true:=by rw[beq_iff_eq];omega
     rw[if_pos h4]at E;clear h4;have E2:=Lib.hid E;clear E;have hsp:=fun w=>zGm f 9 11 w
     go_enter Tryz.func154,Tryz.ntmps154
     go_wp2_with (first|(first|((with_reducible refine gT ?_);(refine aT H ?_;clear H;intro w H;try simp only[nr]at H))|((with_reducible refine gL ?_);(first|refine aG H ?_|refine aD H ?_))|((with_reducible refine gX ?_);(refine bB H ?_;clear H;intro b w H;try simp only[nr]at H))|((with_reducible refine gA ?_);(refine bA H ?_;clear H;intro b w H;try simp only[nr]at H)))|((with_reducible refine ch (hsp _) H ?_);clear H;intro w H))
     (refine xc Tryz.results154 H ?_)
     exact⟨by rw[E2.out],H.below⟩
    ·have d4:((d.kind:Int) == 4)=false:=by rw[beq_eq_false_iff_ne];omega
     rw[if_neg h4]at E;clear h4;have E2:=Lib.hid E;clear E
     go_enter Tryz.func154,Tryz.ntmps154
     go_wp2_with (first|(first|((with_reducible refine gT ?_);(refine aT H ?_;clear H;intro w H;try simp only[nr]at H))|((with_reducible refine gL ?_);refine aG H ?_)|((with_reducible refine gX ?_);(refine bB H ?_;clear H;intro b w H;try simp only[nr]at H))|((with_reducible refine gA ?_);(refine bA H ?_;clear H;intro b w H;try simp only[nr]at H))|((with_reducible refine gZ ?_);refine nb1 ?_)))
     (refine xc Tryz.results154 H ?_)
     exact⟨by rw[E2.out];rfl,H.below⟩
def Knows (F:Nat->Prop) (p:Option Addr) (n c:Nat) (xs:List TV) (V:World):Prop:=RdN 10 V F (.slice p n c) (xs.map zAT)/\ListR V F xs
section
variable {F:Nat->Prop} {p:Option Addr} {n c:Nat} {xs:List TV} {V W w0:World}
theorem Knows.kept (h:Knows F p n c xs W) (hV:∀ b,F b->V.heap[b]?=W.heap[b]?):Knows F p n c xs V:=⟨h.1.kept hV,h.2.kept hV⟩
theorem Knows.forest (h:Knows F p (xs.map (·.1)).length c xs V):ForestR V F p c (xs.map (·.1)):=.mk _ _ _ xs h.1 h.2 rfl
theorem Hold.knows (hF:∀ b,F b->b<w0.heap.size) (h:Knows F p n c xs w0):Hold w0 w0 [.kn F (Knows F p n c xs)] :=
 (Hold.start w0).know F (Knows F p n c xs) hF (fun i r h=>by simp at h) (fun V hV=>h.kept hV)
theorem Knows.cells {b off:Nat} (h:Knows F (some ⟨b,off,none⟩) n c xs V) {j:Nat} {x:TV} (hj:xs[j]?=some x) {q:Nat} (hq:off+j * 10=q):∀ k,k<10->V.cell? ⟨b,q+k,none⟩=(zAT x)[k]?:=by
 obtain⟨p,c,e1,_,_,_,h3⟩:=h.1;obtain⟨b',off',e2,_,_,h4⟩:=h3 j (zAT x) (by rw[List.getElem?_map,hj];rfl)
 cases e1;cases e2;subst hq
 exact h4
theorem Knows.bound (h:Knows F p n c xs V):n=xs.length/\n<=c/\c<=9223372036854775807:=by
 obtain⟨p,c,e1,h1,h2,_,h3⟩:=h.1
 cases e1
 unfold maxLen at h2;rw[List.length_map]at h1 ⊢;exact⟨rfl,h1,h2⟩
theorem Knows.at (h:Knows F p n c xs V) (h0:0<xs.length):∃ b off,p=some ⟨b,off,none⟩:=by
 obtain⟨p,c,e1,h1,h2,_,h3⟩:=h.1
 cases e1
 obtain⟨b,off,e,_⟩:=h3 0 _ (by rw[List.getElem?_map,List.getElem?_eq_getElem h0];rfl)
 exact⟨b,off,e⟩
end
theorem zDq (k:Int) (p:Option Addr) (c n:Nat) (F:Nat->Prop) (ts:List Tree) (w0:World) (hF:∀ b,F b->b<w0.heap.size) (h:ForestR w0 F p c ts) (hn:n=ts.length) :
  Calls Tryz.prog 152 #[.int .i64 k,.slice p n c] w0 fun e w'=>zCf w0 F (rowT k ts) e w'/\Below w0.heap.size w0 w':=by
 obtain⟨xs,h1,h2,rfl⟩:=h.open;rw[List.length_map]at hn;rw[← hn]at h1;have hK:Knows F p n c xs w0:=⟨h1,h2⟩;clear h h1 h2;have H:=Hold.knows hF hK;have hc1:=hK.bound.2.1;have hc2:=hK.bound.2.2;have hp:=hK.at;rcases xs with _|⟨x,_|⟨y,xs⟩⟩
 ·obtain rfl:n=0:=hn;clear hp
  go_enter Tryz.func152,Tryz.ntmps152
  go_wp2_with (first|(first|((with_reducible refine gT ?_);(refine aT H ?_;clear H;intro w H;try simp only[nr]at H))|((with_reducible refine gA ?_);(refine bA H ?_;clear H;intro b w H;try simp only[nr]at H))|((with_reducible refine gZ ?_);refine nb1 ?_)))
  (refine xc Tryz.results152 H ?_)
  exact⟨⟨none,0,fun _=>False,rfl,ForestR.nil ..,fun _ h=>h.elim⟩,H.below⟩
 ·obtain rfl:n=1:=hn;obtain⟨b,off,rfl⟩:=hp (by simp)
  clear hp;have hcell:∀ V,Knows F (some ⟨b,off,none⟩) 1 c [x] V->∀ k,k<10->V.cell? ⟨b,off+k,none⟩=(zAT x)[k]?:=fun V h=>h.cells (j:=0) rfl rfl
  go_enter Tryz.func152,Tryz.ntmps152
  go_wp2_with (first|((with_reducible refine gL ?_);refine zAO wtd_ _ _ rfl rfl zAP (zAl x) (hcell _ (H.kn .zero)) ?_)|(first|((with_reducible refine gT ?_);(refine aT H ?_;clear H;intro w H;try simp only[nr]at H))|((with_reducible refine gA ?_);(refine bA H ?_;clear H;intro b w H;try simp only[nr]at H))))
  (refine xc Tryz.results152 H ?_)
  exact⟨⟨_,_,F,rfl,(H.kn (i:=0) .zero).2 x (List.mem_singleton.2 rfl),fun b h=>⟨H.knlt .zero b h,.inr h⟩⟩,H.below⟩
 ·clear hp;have h2:2<=n:=by rw[hn];simp
  have HN:=Lib.hid hn;clear hn;have d0:((n:Int) == 0)=false:=by rw[beq_eq_false_iff_ne];omega
  have d1:((n:Int) == 1)=false:=by rw[beq_eq_false_iff_ne];omega
  go_enter Tryz.func152,Tryz.ntmps152
  go_wp2_with (first|(first|((with_reducible refine gT ?_);(refine aT H ?_;clear H;intro w H;try simp only[nr]at H))|((with_reducible refine gA ?_);(refine bA H ?_;clear H;intro b w H;try simp only[nr]at H))|((with_reducible refine gZ ?_);refine nbK ?_)))
  (refine xc Tryz.results152 H ?_)
  have e:n=((x::y::xs).map (·.1)).length:=by rw[HN.out,List.length_map]
  refine⟨⟨p,c,F,by rw[e];rfl,?_,fun b h=>⟨H.knlt .zero b h,.inr h⟩⟩,H.below⟩
  have:=H.kn (i:=0) .zero;rw[e]at this;exact this.forest
theorem zLu {xs:List TV} {j:Nat} {x:TV} (h:xs[j]?=some x):zAF ((xs.map (·.1)).take (j+1))=zAF ((xs.map (·.1)).take j)+zAB x.1:=zET (by rw[List.getElem?_map,h];rfl)
theorem zEs {xs:List TV} {j:Nat} {x:TV} (h:xs[j]?=some x):zAF ((xs.map (·.1)).take j)+zAB x.1<=zAF (xs.map (·.1)):=zD4 (by rw[List.getElem?_map,h];rfl)
theorem zIU:∀ (m:Nat) (t:Tree) (p:Option Addr) (n c:Nat) (F:Nat->Prop) (w0:World),zAB t<=m->m<=1000000000000->(∀ b,F b->b<w0.heap.size)->ForestR w0 F p c t.kids->n=t.kids.length ->
  Calls Tryz.prog 102 #[zAV t.d (.slice p n c)] w0 (Rt (.int .i64 (zAB t)) w0)
 | 0,t,_,_,_,_,_,hm,_,_,_,_=>by have:=zBX t;omega
 | m+1,.mk d ts,p,n,c,F,w0,hm,hm2,hF,h,hn=>by
  have IH:=zIU m;simp only[Tree.kids,Tree.d]at h hn ⊢;obtain⟨xs,h1,h2,rfl⟩:=h.open;rw[List.length_map]at hn;rw[← hn]at h1;have hK:Knows F p n c xs w0:=⟨h1,h2⟩;clear h h1 h2;have H:=Hold.knows hF hK;have hc1:=hK.bound.2.1;have hc2:=hK.bound.2.2;have hp:=hK.at;clear hK;have E:zAB (.mk d (xs.map (·.1)))=1+zAF (xs.map (·.1)):=by simp[zAB]
  rw[E]at hm;have E2:=Lib.hid E;clear E;have HN:=Lib.hid hn;clear hn
  go_enter Tryz.func102,Tryz.ntmps102
  go_wp2_with (first|((with_reducible refine kg 1 ?_);(first|refine kA 1 H ?_|refine kS 1 H ?_|refine kB 1 H ?_);clear H;intro b1 w H;try simp only[nr]at H)|fail)
  go_loopw [3,4] (fun k i wr=>∃ j:Nat,j<=n/\i=.int .i64 j/\k=.int .i64 ((1+zAF ((xs.map (·.1)).take j):Nat):Int)/\Hold w0 wr [.kn F (Knows F p n c xs),.blk b1 (zAR d (.slice p n c)) 28]) (fun _ i _=>n+1 - (intOf i).toNat)
  case atStart=>exact⟨0,by omega,rfl,by simp[zAF],H⟩
  case round =>
   clear H;obtain⟨j,hj,rfl,rfl,H⟩:=hrel
   by_cases hlt:j<n
   ·have dj:decide ((j:Int)<(n:Int))=true:=by simp;omega
    obtain⟨x,hx⟩:∃ x,xs[j]?=some x:=⟨_,List.getElem?_eq_getElem (by rw[← HN.out];exact hlt)⟩
    obtain⟨b,off,rfl⟩:=hp (by rw[← HN.out];omega)
    have hs1:=zEs hx;have HS:=Lib.hid (zLu hx);have hmem:=List.mem_of_getElem? hx;have hcell:∀ V,Knows F (some ⟨b,off,none⟩) n c xs V->∀ k,k<10->V.cell? ⟨b,off+j * 10+k,none⟩=(zAT x)[k]?:=fun V h=>h.cells hx rfl
    have ih:=fun w (hw:∀ b,F b->b<w.heap.size) (hk:Knows F (some ⟨b,off,none⟩) n c xs w)=>IH x.1 x.2.1 _ x.2.2 F w (by omega) (by omega) hw (hk.2 x hmem) rfl
    clear IH hx hmem hp
    generalize zAF ((xs.map (·.1)).take j)=S at *
    go_wp2_with (first|((with_reducible refine gL ?_);refine zAO wtd_ _ _ rfl rfl zAP (zAl x) (hcell _ (H.kn .zero)) ?_)|((with_reducible refine gL ?_);refine aG H ?_)|((with_reducible refine ch (ih _ (H.knlt .zero) (H.kn .zero)) H ?_);clear H;intro w H))
    go_roundw
    case rel=>exact⟨j+1,by omega,by go_num,by rw[HS.out];go_num,H⟩
    case measure=>simp[intOf];omega
   ·have dj:decide ((j:Int)<(n:Int))=false:=by simp;omega
    obtain rfl:j=n:=by omega
    go_wp2_with (first|((with_reducible refine gL ?_);refine aG H ?_))
    go_ret;exact⟨reti (by rw[E2.out,List.take_of_length_le (by rw[List.length_map,← HN.out];exact Nat.le_refl _)];omega),H.below⟩
theorem zM6 {xs:List TV} {j:Nat} {x:TV} (h:xs[j]?=some x):zBJ ((xs.map (·.1)).take (j+1))=max (zBJ ((xs.map (·.1)).take j)) (zC4 x.1):=zI3 (by rw[List.getElem?_map,h];rfl)
theorem zJ7:∀ (m:Nat) (t:Tree) (p:Option Addr) (n c:Nat) (F:Nat->Prop) (w0:World),zAB t<=m->m<=1000000000000->(∀ b,F b->b<w0.heap.size)->ForestR w0 F p c t.kids->n=t.kids.length ->
  Calls Tryz.prog 103 #[zAV t.d (.slice p n c)] w0 (Rt (.int .i64 (zC4 t)) w0)
 | 0,t,_,_,_,_,_,hm,_,_,_,_=>by have:=zBX t;omega
 | m+1,.mk d ts,p,n,c,F,w0,hm,hm2,hF,h,hn=>by
  have IH:=zJ7 m;simp only[Tree.kids,Tree.d]at h hn ⊢;obtain⟨xs,h1,h2,rfl⟩:=h.open;rw[List.length_map]at hn;rw[← hn]at h1;have hK:Knows F p n c xs w0:=⟨h1,h2⟩;clear h h1 h2;have H:=Hold.knows hF hK;have hc1:=hK.bound.2.1;have hc2:=hK.bound.2.2;have hp:=hK.at;clear hK;have E:zC4 (.mk d (xs.map (·.1)))=zBJ (xs.map (·.1))+1:=by simp[zC4]
  have hd:=zFN (xs.map (·.1));simp only[zAB]at hm;have E2:=Lib.hid E;clear E;have HN:=Lib.hid hn;clear hn
  go_enter Tryz.func103,Tryz.ntmps103
  go_wp2_with (first|((with_reducible refine kg 1 ?_);(first|refine kA 1 H ?_|refine kS 1 H ?_|refine kB 1 H ?_);clear H;intro b1 w H;try simp only[nr]at H)|fail)
  go_loopw [3,4] (fun k i wr=>∃ j:Nat,j<=n/\i=.int .i64 j/\k=.int .i64 ((zBJ ((xs.map (·.1)).take j):Nat):Int)/\zBJ ((xs.map (·.1)).take j)<=m/\Hold w0 wr [.kn F (Knows F p n c xs),.blk b1 (zAR d (.slice p n c)) 28]) (fun _ i _=>n+1 - (intOf i).toNat)
  case atStart=>exact⟨0,by omega,rfl,by simp[zBJ],by simp[zBJ],H⟩
  case round =>
   clear H;obtain⟨j,hj,rfl,rfl,hS,H⟩:=hrel
   by_cases hlt:j<n
   ·have dj:decide ((j:Int)<(n:Int))=true:=by simp;omega
    obtain⟨x,hx⟩:∃ x,xs[j]?=some x:=⟨_,List.getElem?_eq_getElem (by rw[← HN.out];exact hlt)⟩
    obtain⟨b,off,rfl⟩:=hp (by rw[← HN.out];omega)
    have hs1:=zEs hx;have hs2:=zGG x.1;have HS:=Lib.hid (zM6 hx);have hmem:=List.mem_of_getElem? hx;have hcell:∀ V,Knows F (some ⟨b,off,none⟩) n c xs V->∀ k,k<10->V.cell? ⟨b,off+j * 10+k,none⟩=(zAT x)[k]?:=fun V h=>h.cells hx rfl
    have ih:=fun w (hw:∀ b,F b->b<w.heap.size) (hk:Knows F (some ⟨b,off,none⟩) n c xs w)=>IH x.1 x.2.1 _ x.2.2 F w (by omega) (by omega) hw (hk.2 x hmem) rfl
    clear IH hx hmem hp
    generalize zBJ ((xs.map (·.1)).take j)=S at *
    go_wp2_with (first|((with_reducible refine gL ?_);refine zAO wtd_ _ _ rfl rfl zAP (zAl x) (hcell _ (H.kn .zero)) ?_)|((with_reducible refine gL ?_);refine aG H ?_)|((with_reducible refine ch (ih _ (H.knlt .zero) (H.kn .zero)) H ?_);clear H;intro w H))
    go_roundw
    case rel=>exact⟨j+1,by omega,by go_num,by rw[HS.out];go_num,by rw[HS.out];omega,H⟩
    case measure=>simp[intOf];omega
   ·have dj:decide ((j:Int)<(n:Int))=false:=by simp;omega
    obtain rfl:j=n:=by omega
    go_wp2_with (first|((with_reducible refine gL ?_);refine aG H ?_))
    go_ret;exact⟨reti (by rw[E2.out,List.take_of_length_le (by rw[List.length_map,← HN.out];exact Nat.le_refl _)];omega),H.below⟩
end
end Go.Proofs.YtalggmbdpmdcbaaGreat
