/-
  Laws of walks, and walks.
-/
import Derived.Test.YtphjgfjbiimkjaaGreatEc5
import Derived.Test.YtphjgfjbiimkjaaGreatEc2
import Derived.Test.YtphjgfjbiimkjaaGreatEc1
import Derived.Laws.Cover3
import Derived.Test.YtphjgfjbiimkjaaGreatEc4
import Derived.Deep.Onto
set_option linter.unusedVariables false
set_option linter.unusedSimpArgs false
set_option maxRecDepth 100000
set_option maxHeartbeats 16000000
namespace Go.Proofs.YtphjgfjbiimkjaaGreat
section
open Go.RowKit Go.Shelf
attribute [local go_sem] Oper.semAt_some
def UTo (L:List (Nat->Nat)) (b i:Nat) (S:Nat->Nat):Prop:=zAb S/\∀ c,c<256->hasB S c=((decide (c<b)&&L.any (fun t=>hasB t c)) || (decide (c=b)&&(L.take i).any (fun t=>hasB t c)))
theorem UTo.start (L:List (Nat->Nat)):UTo L 0 0 zAG:=⟨zAj,fun c _=>by simp[zEP]⟩
theorem UTo.hit {L:List (Nat->Nat)} {b i:Nat} {S:Nat->Nat} (h:UTo L b i S) (hi:i<L.length) (hb:hasB L[i] b=true):UTo L b (i+1) (addS S b) :=
 ⟨zFy h.1 b,fun c hc=>by
  rw[zHC,h.2 c hc,List.take_succ_eq_append_getElem hi,List.any_append]
  by_cases e:c=b
  ·subst e;simp[hb]
  ·simp[e]⟩
theorem UTo.miss {L:List (Nat->Nat)} {b i:Nat} {S:Nat->Nat} (h:UTo L b i S) (hi:i<L.length) (hb:hasB L[i] b=false):UTo L b (i+1) S :=
 ⟨h.1,fun c hc=>by
  rw[h.2 c hc,List.take_succ_eq_append_getElem hi,List.any_append]
  by_cases e:c=b
  ·subst e;simp[hb]
  ·simp[e]⟩
theorem UTo.next {L:List (Nat->Nat)} {b:Nat} {S:Nat->Nat} (h:UTo L b L.length S):UTo L (b+1) 0 S :=
 ⟨h.1,fun c hc=>by
  rw[h.2 c hc,List.take_length]
  by_cases e:c=b
  ·subst e;simp
  ·by_cases e2:c<b
   ·simp[e,e2,Nat.lt_succ_of_lt e2]
   ·simp[e,e2,show ¬ c<b+1 from by omega]⟩
theorem UTo.done {L:List (Nat->Nat)} {S:Nat->Nat} (hL:∀ t ∈ L,zAb t) (h:UTo L 256 0 S):setV S=setV (zCi L) :=
 zFh h.1 (zEY hL) fun c hc=>by rw[h.2 c hc,zLS];simp[hc]
def MTo (L:List (Nat->Nat)) (b:Nat) (S:Nat->Nat):Prop:=zAb S/\∀ c,c<256->hasB S c=(decide (c<b)&&L.all (fun t=>hasB t c))
theorem MTo.start (L:List (Nat->Nat)):MTo L 0 zAG:=⟨zAj,fun c _=>by simp[zEP]⟩
theorem MTo.hit {L:List (Nat->Nat)} {b:Nat} {S:Nat->Nat} (h:MTo L b S) (hb:L.all (fun t=>hasB t b)=true):MTo L (b+1) (addS S b) :=
 ⟨zFy h.1 b,fun c hc=>by
  rw[zHC,h.2 c hc]
  by_cases e:c=b
  ·subst e;rw[hb];simp
  ·by_cases e2:c<b
   ·simp[e,e2,Nat.lt_succ_of_lt e2]
   ·simp[e,e2,show ¬ c<b+1 from by omega]⟩
theorem MTo.miss {L:List (Nat->Nat)} {b:Nat} {S:Nat->Nat} (h:MTo L b S) (hb:L.all (fun t=>hasB t b)=false):MTo L (b+1) S :=
 ⟨h.1,fun c hc=>by
  rw[h.2 c hc]
  by_cases e:c=b
  ·subst e;rw[hb];simp
  ·by_cases e2:c<b
   ·simp[e2,Nat.lt_succ_of_lt e2]
   ·simp[e2,show ¬ c<b+1 from by omega]⟩
theorem MTo.done {L:List (Nat->Nat)} {S:Nat->Nat} (hL:∀ t ∈ L,zAb t) (h:MTo L 256 S):setV S=setV (zJf L) :=
 zFh h.1 (zOn hL) fun c hc=>by rw[h.2 c hc,zOD];simp[hc]
theorem zNX {L:List (Nat->Nat)} {b i:Nat} (hi:i<L.length):(L.take (i+1)).all (fun t=>hasB t b)=((L.take i).all (fun t=>hasB t b)&&hasB L[i] b):=by
 rw[List.take_succ_eq_append_getElem hi,List.all_append];simp
theorem zFJ {ops:Array Oper} {o:Oper} {a:Act} {w:World} {x:Operand} {B off:Nat} {s:Nat->Nat} {D:Prop} (hg:Region.wanted o (yielded ops a.tmps)=true) (hop:o.op=Op.load 30 x)
  (hx:a.eval x=.pointer (some ⟨B,off,none⟩)) (hB:∀ k,k<4->w.cell? ⟨B,off+k,none⟩=some (.int .u64 (s k))) (hD:¬ D):zA4 Tryz.prog ops o a w (fun v _=>v=setV s/\(D->w.heap.size<=blk v)):=by
 have k0:=hB 0 (by omega);have k1:=hB 1 (by omega);have k2:=hB 2 (by omega);have k3:=hB 3 (by omega)
 rw[Nat.add_zero]at k0;refine zBo hg (v:=setV s) (w':=w) ?_ (Below.refl _ w) ⟨rfl,fun h=>(hD h).elim⟩
 unfold setV;simp only[execOp,hop,hx];simp[go_sem,k0,k1,k2,k3]
theorem zMX (lo hi:Nat) (hlo:lo<=255) (hhi:hi<=255) (w:World) :
  Calls Tryz.prog 64 #[.int .u8 lo,.int .u8 hi] w fun e w'=>e=.returned (setV (zAn lo (hi+1 - lo)))/\Below w.heap.size w w':=by
 have b1:SBox (w.alloc (.cells (setC zAG) 30)) w.heap.size 30 zAG:=SBox.new w _ _;have b2:SBox ((w.alloc (.cells (setC zAG) 30)).alloc (.cells (setC zAG) 30)) w.heap.size 30 zAG:=b1.alloc _;have e2:SBox ((w.alloc (.cells (setC zAG) 30)).alloc (.cells (setC zAG) 30)) (w.heap.size+1) 30 zAG:=by have:=SBox.new (w.alloc (.cells (setC zAG) 30)) 30 zAG;rwa [World.size_alloc]at this
 have bel:Below w.heap.size w ((w.alloc (.cells (setC zAG) 30)).alloc (.cells (setC zAG) 30)):=((Below.refl _ w).alloc (Nat.le_refl _) _).alloc (by simp) _
 clear b1
 go_enter Tryz.func64,Tryz.ntmps64
 go_wp2_with fail
 go_loopw [6] (fun i wr=>∃ m:Nat,m<=hi+1 - lo/\i=.int .i64 ((lo+m:Nat):Int)/\Hid (SBox wr (w.heap.size+1) 30 (zAn lo m)/\SBox wr w.heap.size 30 zAG/\Below w.heap.size w wr/\True)) (fun i _=>256 - (intOf i).toNat)
 case atStart=>exact⟨0,by omega,rfl,e2,b2,bel,trivial⟩
 case round =>
  clear e2 b2 bel;obtain⟨m,hm,rfl,H⟩:=hrel;obtain⟨n,hn⟩:∃ n,lo+m=n:=⟨_,rfl⟩;rw[hn];have HN:=Lib.hid hn;clear hn;have hn2:n<=hi+1\/n=lo:=by have:=HN.out;omega
  by_cases hlt:n<=hi
  ·have hnext:=zI5 lo m;rw[HN.out]at hnext;have hS:zAb (zAn lo m):=zCt _;have Hnext:=Lib.hid hnext;clear hnext;have HS:=Lib.hid hS;clear hS
   generalize zAn lo m=S at H Hnext HS
   go_upto_region 5 with fail
   refine ws_ 4 [fun v _=>v=setV S,fun v _=>v=.int .i64 (n:Int),fun v _=>v=.int .u8 (n:Int),fun v _=>v=setV (addS S n)] ?ob ?en
   case ob =>
    refine⟨?_,?_,?_,?_,trivial⟩<;>intro A W h
    ·exact zCS (s:=S) rfl rfl (h.f 5) (H.out.1.below h.below H.out.1.lt) (by decide)
    ·exact zAB rfl rfl (h.f 6)
    ·(have e16:A.eval (.tmp 16)=.int .i64 (n:Int):=h.d 1 16;refine zAA rfl ?_;simp only[execOp,e16];(simp[go_sem]<;>(rw[IntKind.wrap_u8];omega)))
    ·exact zAc rfl rfl (enters_of Tryz.func105 (by kernel_rfl) rfl) (zBm ⟨(h.d 0 15),(h.d 2 17)⟩) (zEa S HS.out n (by omega) W)
   case en =>
    intro vals W hbw hv _;simp only[fa,Nat.reduceAdd];rw[e_ hv 0,e_ hv 1,e_ hv 2,e_ hv 3];clear hv
    try simp only[pl]
    have s1:=H.out.1.below hbw H.out.1.lt;have s2:=H.out.2.1.below hbw H.out.2.1.lt;have s3:=H.out.2.2.1.trans (hbw.mono H.out.2.2.1.size);have f0:=s1.frozen 0;have f1:=s1.frozen 1;have f2:=s1.frozen 2;have f3:=s1.frozen 3;have r0:=s1.cell (k:=0) (by omega);have r1:=s1.cell (k:=1) (by omega);have r2:=s1.cell (k:=2) (by omega);have r3:=s1.cell (k:=3) (by omega)
    have S1:=Lib.hid s1;clear s1;have S2:=Lib.hid s2;clear s2;have S3:=Lib.hid s3;clear s3;clear hbw;rw[show setV (addS S n)=.agg #[.int .u64 (addS S n 0),.int .u64 (addS S n 1),.int .u64 (addS S n 2),.int .u64 (addS S n 3)] from rfl]
    go_wp2_with fail
    have T1:=Lib.hid (S1.out.set4 (addS S n));have T2:=Lib.hid ((((S2.out.other (B':=w.heap.size+1) (by omega) 0 (.int .u64 (addS S n 0))).other (B':=w.heap.size+1) (by omega) 1 (.int .u64 (addS S n 1))).other (B':=w.heap.size+1) (by omega) 2 (.int .u64 (addS S n 2))).other (B':=w.heap.size+1) (by omega) 3 (.int .u64 (addS S n 3)))
    have T3:=Lib.hid (zBP S3.out (B:=w.heap.size+1) (by omega) (.int .u64 (addS S n 0)) (.int .u64 (addS S n 1)) (.int .u64 (addS S n 2)) (.int .u64 (addS S n 3)))
    go_roundw
    case rel=>exact⟨m+1,by have:=HN.out;omega,by have:=HN.out;go_num,by rw[Hnext.out];exact T1.out,T2.out,T3.out,trivial⟩
    case measure=>simp[intOf];omega
  ·have hm2:m=hi+1 - lo:=by have:=HN.out;omega
   subst hm2;have ⟨s1,s2,s3,_⟩:=H.out;clear H;have f0:=s2.frozen 0;have f1:=s2.frozen 1;have f2:=s2.frozen 2;have f3:=s2.frozen 3;have r0:=s2.cell (k:=0) (by omega);have r1:=s2.cell (k:=1) (by omega);have r2:=s2.cell (k:=2) (by omega);have r3:=s2.cell (k:=3) (by omega)
   have c0:=s1.cell (k:=0) (by omega);have c1:=s1.cell (k:=1) (by omega);have c2:=s1.cell (k:=2) (by omega);have c3:=s1.cell (k:=3) (by omega)
   clear s1;have S2:=Lib.hid s2;clear s2;have S3:=Lib.hid s3;clear s3
   go_wp2
   have b4:=S2.out.set4 (zAn lo (hi+1 - lo));have g0:=b4.cell (k:=0) (by omega);have g1:=b4.cell (k:=1) (by omega);have g2:=b4.cell (k:=2) (by omega);have g3:=b4.cell (k:=3) (by omega)
   exact bodyPost_ret (v:=setV (zAn lo (hi+1 - lo))) (by unfold setV;simp[results,Tryz.results64,go_sem,g0,g1,g2,g3]) rfl ⟨rfl,zBP S3.out (by omega) _ _ _ _⟩
theorem zLe (v:Value) (L:List (Nat->Nat)) (hL:∀ t ∈ L,zAb t) (w:World) (h:RdS w w.heap.size v L) :
  Calls Tryz.prog 146 #[v] w fun e w'=>e=.returned (setV (zCi L))/\Below w.heap.size w w':=by
 have b1:SBox (w.alloc (.cells (setC zAG) 30)) w.heap.size 30 zAG:=SBox.new w _ _;have b2:SBox ((w.alloc (.cells (setC zAG) 30)).alloc (.cells (setC zAG) 30)) w.heap.size 30 zAG:=b1.alloc _;have e2:SBox ((w.alloc (.cells (setC zAG) 30)).alloc (.cells (setC zAG) 30)) (w.heap.size+1) 30 zAG:=by have:=SBox.new (w.alloc (.cells (setC zAG) 30)) 30 zAG;rwa [World.size_alloc]at this
 have bel:Below w.heap.size w ((w.alloc (.cells (setC zAG) 30)).alloc (.cells (setC zAG) 30)):=((Below.refl _ w).alloc (Nat.le_refl _) _).alloc (by simp) _
 clear b1;have hl:L.length<=9223372036854775807:=by
  rcases h with ⟨_,rfl⟩|⟨b,off,cap,_,_,h1,h2,_⟩
  ·simp
  ·unfold maxLen at h2;omega
 obtain⟨p,cap,rfl⟩:∃ p cap,v=.slice p L.length cap:=by rcases h with ⟨⟨q,h⟩,rfl⟩|⟨b,off,cap,h,_⟩<;>exact⟨_,_,h⟩
 have H:=Lib.hid h;clear h;have HL:=Lib.hid hL;clear hL
 go_enter Tryz.func146,Tryz.ntmps146
 go_wp2_with fail
 go_loopw [4,5] (fun n _ wr=>∃ k:Nat,k<=256/\n=.int .i64 k/\Hid (∃ S,SBox wr (w.heap.size+1) 30 S/\SBox wr w.heap.size 30 zAG/\Below w.heap.size w wr/\UTo L k 0 S)) (fun n _ _=>256 - (intOf n).toNat)
 case atStart=>exact⟨0,by omega,rfl,_,e2,b2,bel,UTo.start L⟩
 case round =>
  clear e2 b2 bel;obtain⟨n,hn,rfl,G⟩:=hrel
  by_cases hlt:n<256
  ·obtain⟨wo,rfl⟩:∃ wo:World,wo=wr:=⟨_,rfl⟩
   go_wp2_with fail
   go_loopw [5] (fun i wr=>∃ k:Nat,k<=L.length/\i=.int .i64 k/\Hid (∃ S,SBox wr (w.heap.size+1) 30 S/\SBox wr w.heap.size 30 zAG/\Below w.heap.size w wr/\UTo L n k S)) (fun i _=>L.length - (intOf i).toNat)
   case atStart=>exact⟨0,by omega,rfl,G.out⟩
   case round =>
    clear G;obtain⟨i,hi,rfl,G⟩:=hrel
    by_cases hil:i<L.length
    ·obtain⟨b0,off,rfl,hb0,hcell⟩:∃ b0 off,p=some ⟨b0,off,none⟩/\b0<w.heap.size/\∀ k,k<4->w.cell? ⟨b0,off+i * 4+k,none⟩=some (.int .u64 (L[i] k)):=by
      rcases H.out with ⟨⟨q,h⟩,h'⟩|⟨b,off,cap,h,h1,_,_,h4⟩
      ·subst h';simp at hil
      ·injection h with h2 _ _;exact⟨b,off,h2,h1,fun k hk=>h4 i hil k hk⟩
     obtain⟨S,G⟩:∃ S,Hid (SBox wr (w.heap.size+1) 30 S/\SBox wr w.heap.size 30 zAG/\Below w.heap.size w wr/\UTo L n i S):=by obtain⟨S,h⟩:=G.out;exact⟨S,h⟩
     have hOk:=HL.out L[i] (List.getElem_mem hil);have hHit:=fun h:hasB L[i] n=true=>G.out.2.2.2.hit hil h
     have hMiss:=fun h:hasB L[i] n=false=>G.out.2.2.2.miss hil h
     have HOK:=Lib.hid hOk;clear hOk;have HHit:=Lib.hid hHit;clear hHit;have HMiss:=Lib.hid hMiss;clear hMiss;have HC:=Lib.hid hcell;clear hcell
     generalize L[i]=t at HOK HHit HMiss HC
     go_upto_region 8 with fail
     refine ws_ 7 [fun v _=>v=.slice (some ⟨b0,off,none⟩) L.length cap,fun v _=>v=.int .i64 (i:Int),fun v _=>v=.pointer (some ⟨b0,off+i * 4,none⟩),fun v _=>v=setV t,fun v _=>v=.int .i64 (n:Int),fun v _=>v=.int .u8 (n:Int),fun v _=>v=.bool (hasB t n)] ?ob ?en
     case ob =>
      refine⟨?_,?_,?_,?_,?_,?_,?_,trivial⟩<;>intro A W h
      ·exact zAB rfl rfl (h.f 0)
      ·exact zAB rfl rfl (h.f 5)
      ·exact zAU (sz:=4) Tryz.underlying270 (fun w=>by kernel_rfl) rfl rfl (h.d 0 16) (h.d 1 17) (by omega) (by omega)
      ·exact zFJ rfl rfl (h.d 2 18) (fun k hk=>((G.out.2.2.1.trans (h.below.mono G.out.2.2.1.size)).cell (p:=⟨b0,off+i * 4+k,none⟩) hb0).trans (HC.out k hk)) (by decide)
      ·exact zAB rfl rfl (h.f 4)
      ·(have e20:A.eval (.tmp 20)=.int .i64 (n:Int):=h.d 4 20;refine zAA rfl ?_;simp only[execOp,e20];(simp[go_sem]<;>(rw[IntKind.wrap_u8];omega)))
      ·exact zAc rfl rfl (enters_of Tryz.func104 (by kernel_rfl) rfl) (zBm ⟨(h.d 3 19),(h.d 5 21)⟩) (zE6 t HOK.out n (by omega) W)
     case en =>
      intro vals W hbw hv _;simp only[fa,Nat.reduceAdd];rw[e_ hv 0,e_ hv 1,e_ hv 2,e_ hv 3,e_ hv 4,e_ hv 5,e_ hv 6];clear hv
      try simp only[pl]
      have G9:Hid (SBox W (w.heap.size+1) 30 S/\SBox W w.heap.size 30 zAG/\Below w.heap.size w W/\UTo L n i S):=⟨G.out.1.below hbw G.out.1.lt,G.out.2.1.below hbw G.out.2.1.lt,G.out.2.2.1.trans (hbw.mono G.out.2.2.1.size),G.out.2.2.2⟩;clear G hbw
      cases hb:hasB t n with
      | false =>
       have U:=Lib.hid (HMiss.out hb);clear hb
       go_wp2_with fail
       go_roundw
       case rel=>exact⟨i+1,by omega,by go_num,S,G9.out.1,G9.out.2.1,G9.out.2.2.1,U.out⟩
       case measure=>simp[intOf];omega
      | true =>
       have U:=Lib.hid (HHit.out hb);clear hb
       go_upto_region 9 with fail
       refine ws_ 4 [fun v _=>v=setV S,fun v _=>v=.int .i64 (n:Int),fun v _=>v=.int .u8 (n:Int),fun v _=>v=setV (addS S n)] ?ob ?en
       case ob =>
        refine⟨?_,?_,?_,?_,trivial⟩<;>intro A W h
        ·exact zCS (s:=S) rfl rfl (h.f 3) (G9.out.1.below h.below G9.out.1.lt) (by decide)
        ·exact zAB rfl rfl (h.f 4)
        ·(have e24:A.eval (.tmp 24)=.int .i64 (n:Int):=h.d 1 24;refine zAA rfl ?_;simp only[execOp,e24];(simp[go_sem]<;>(rw[IntKind.wrap_u8];omega)))
        ·exact zAc rfl rfl (enters_of Tryz.func105 (by kernel_rfl) rfl) (zBm ⟨(h.d 0 23),(h.d 2 25)⟩) (zEa S G9.out.2.2.2.1 n (by omega) W)
       case en =>
        intro vals W hbw hv _;simp only[fa,Nat.reduceAdd];rw[e_ hv 0,e_ hv 1,e_ hv 2,e_ hv 3];clear hv
        try simp only[pl]
        have s1:=G9.out.1.below hbw G9.out.1.lt;have s2:=G9.out.2.1.below hbw G9.out.2.1.lt;have s3:=G9.out.2.2.1.trans (hbw.mono G9.out.2.2.1.size);have f0:=s1.frozen 0;have f1:=s1.frozen 1;have f2:=s1.frozen 2;have f3:=s1.frozen 3;have r0:=s1.cell (k:=0) (by omega);have r1:=s1.cell (k:=1) (by omega);have r2:=s1.cell (k:=2) (by omega);have r3:=s1.cell (k:=3) (by omega)
        have S1:=Lib.hid s1;clear s1;have S2:=Lib.hid s2;clear s2;have S3:=Lib.hid s3;clear s3;clear hbw;rw[show setV (addS S n)=.agg #[.int .u64 (addS S n 0),.int .u64 (addS S n 1),.int .u64 (addS S n 2),.int .u64 (addS S n 3)] from rfl]
        go_wp2_with fail
        have T1:=Lib.hid (S1.out.set4 (addS S n));have T2:=Lib.hid ((((S2.out.other (B':=w.heap.size+1) (by omega) 0 (.int .u64 (addS S n 0))).other (B':=w.heap.size+1) (by omega) 1 (.int .u64 (addS S n 1))).other (B':=w.heap.size+1) (by omega) 2 (.int .u64 (addS S n 2))).other (B':=w.heap.size+1) (by omega) 3 (.int .u64 (addS S n 3)))
        have T3:=Lib.hid (zBP S3.out (B:=w.heap.size+1) (by omega) (.int .u64 (addS S n 0)) (.int .u64 (addS S n 1)) (.int .u64 (addS S n 2)) (.int .u64 (addS S n 3)))
        go_roundw
        case rel=>exact⟨i+1,by omega,by go_num,addS S n,T1.out,T2.out,T3.out,U.out⟩
        case measure=>simp[intOf];omega
    ·obtain rfl:i=L.length:=by omega
     go_wp2_with fail
     go_roundw
     case rel=>obtain⟨S,g1,g2,g3,g4⟩:=G.out;exact⟨n+1,by omega,by go_num,S,g1,g2,g3,g4.next⟩
     case measure=>simp[intOf];omega
  ·obtain rfl:n=256:=by omega
   obtain⟨S,s1,s2,s3,hu⟩:=G.out;have HU:=Lib.hid (hu.done HL.out);clear hu G;have f0:=s2.frozen 0;have f1:=s2.frozen 1;have f2:=s2.frozen 2;have f3:=s2.frozen 3;have r0:=s2.cell (k:=0) (by omega);have r1:=s2.cell (k:=1) (by omega);have r2:=s2.cell (k:=2) (by omega);have r3:=s2.cell (k:=3) (by omega)
   have c0:=s1.cell (k:=0) (by omega);have c1:=s1.cell (k:=1) (by omega);have c2:=s1.cell (k:=2) (by omega);have c3:=s1.cell (k:=3) (by omega)
   clear s1;have S2:=Lib.hid s2;clear s2;have S3:=Lib.hid s3;clear s3
   go_wp2
   have b4:=S2.out.set4 (S);have g0:=b4.cell (k:=0) (by omega);have g1:=b4.cell (k:=1) (by omega);have g2:=b4.cell (k:=2) (by omega);have g3:=b4.cell (k:=3) (by omega)
   exact bodyPost_ret (v:=setV (S)) (by unfold setV;simp[results,Tryz.results146,go_sem,g0,g1,g2,g3]) rfl ⟨by rw[HU.out],zBP S3.out (by omega) _ _ _ _⟩
theorem zJ5 (v:Value) (L:List (Nat->Nat)) (hL:∀ t ∈ L,zAb t) (w:World) (h:RdS w w.heap.size v L) :
  Calls Tryz.prog 163 #[v] w fun e w'=>e=.returned (setV (zJf L))/\Below w.heap.size w w':=by
 have b1:SBox (w.alloc (.cells (setC zAG) 30)) w.heap.size 30 zAG:=SBox.new w _ _;have b2:SBox ((w.alloc (.cells (setC zAG) 30)).alloc (.cells (setC zAG) 30)) w.heap.size 30 zAG:=b1.alloc _;have e2:SBox ((w.alloc (.cells (setC zAG) 30)).alloc (.cells (setC zAG) 30)) (w.heap.size+1) 30 zAG:=by have:=SBox.new (w.alloc (.cells (setC zAG) 30)) 30 zAG;rwa [World.size_alloc]at this
 have bel:Below w.heap.size w ((w.alloc (.cells (setC zAG) 30)).alloc (.cells (setC zAG) 30)):=((Below.refl _ w).alloc (Nat.le_refl _) _).alloc (by simp) _
 clear b1;have hl:L.length<=9223372036854775807:=by
  rcases h with ⟨_,rfl⟩|⟨b,off,cap,_,_,h1,h2,_⟩
  ·simp
  ·unfold maxLen at h2;omega
 obtain⟨p,cap,rfl⟩:∃ p cap,v=.slice p L.length cap:=by rcases h with ⟨⟨q,h⟩,rfl⟩|⟨b,off,cap,h,_⟩<;>exact⟨_,_,h⟩
 have H:=Lib.hid h;clear h;have HL:=Lib.hid hL;clear hL
 go_enter Tryz.func163,Tryz.ntmps163
 go_wp2_with fail
 go_loopw [4,5,6] (fun n _ _ wr=>∃ k:Nat,k<=256/\n=.int .i64 k/\Hid (∃ S,SBox wr (w.heap.size+1) 30 S/\SBox wr w.heap.size 30 zAG/\Below w.heap.size w wr/\MTo L k S)) (fun n _ _ _=>256 - (intOf n).toNat)
 case atStart=>exact⟨0,by omega,rfl,_,e2,b2,bel,MTo.start L⟩
 case round =>
  clear e2 b2 bel;obtain⟨n,hn,rfl,G⟩:=hrel
  by_cases hlt:n<256
  ·obtain⟨wo,rfl⟩:∃ wo:World,wo=wr:=⟨_,rfl⟩;obtain⟨S,G⟩:∃ S,Hid (SBox wo (w.heap.size+1) 30 S/\SBox wo w.heap.size 30 zAG/\Below w.heap.size w wo/\MTo L n S):=by obtain⟨S,h⟩:=G.out;exact⟨S,h⟩
   go_wp2_with fail
   go_loopw [5,6] (fun a i wr=>∃ k:Nat,k<=L.length/\i=.int .i64 k/\a=.bool ((L.take k).all (fun t=>hasB t n))/\Hid (SBox wr (w.heap.size+1) 30 S/\SBox wr w.heap.size 30 zAG/\Below w.heap.size w wr/\MTo L n S)) (fun _ i _=>L.length - (intOf i).toNat)
   case atStart=>exact⟨0,by omega,rfl,by simp,G.out⟩
   case round =>
    clear G;obtain⟨i,hi,rfl,rfl,G⟩:=hrel
    by_cases hil:i<L.length
    ·obtain⟨b0,off,rfl,hb0,hcell⟩:∃ b0 off,p=some ⟨b0,off,none⟩/\b0<w.heap.size/\∀ k,k<4->w.cell? ⟨b0,off+i * 4+k,none⟩=some (.int .u64 (L[i] k)):=by
      rcases H.out with ⟨⟨q,h⟩,h'⟩|⟨b,off,cap,h,h1,_,_,h4⟩
      ·subst h';simp at hil
      ·injection h with h2 _ _;exact⟨b,off,h2,h1,fun k hk=>h4 i hil k hk⟩
     have hOk:=HL.out L[i] (List.getElem_mem hil);have HOK:=Lib.hid hOk;clear hOk;have HA:=Lib.hid (zNX (b:=n) hil);have HC:=Lib.hid hcell;clear hcell
     generalize L[i]=t at HOK HA HC
     generalize (L.take i).all (fun t=>hasB t n)=fl at HA
     cases fl with
     | true =>
      have HA':=Lib.hid (HA.out.trans (Bool.true_and _));clear HA
      go_upto_region 9 with fail
      refine ws_ 10 [fun v _=>v=.bool true,fun v _=>v=.bool true,fun v _=>v=.slice (some ⟨b0,off,none⟩) L.length cap,fun v _=>v=.int .i64 (i:Int),fun v _=>v=.pointer (some ⟨b0,off+i * 4,none⟩),fun v _=>v=setV t,fun v _=>v=.int .i64 (n:Int),fun v _=>v=.int .u8 (n:Int),fun v _=>v=.bool (hasB t n),fun v _=>v=.bool (hasB t n)] ?ob ?en
      case ob =>
       refine⟨?_,?_,?_,?_,?_,?_,?_,?_,?_,?_,trivial⟩<;>intro A W h
       ·exact zAB rfl rfl (h.f 5)
       ·exact zAB rfl rfl (h.d 0 17)
       ·exact zAB (wg (h.d 1 18)) rfl (h.f 0)
       ·exact zAB (wg (h.d 1 18)) rfl (h.f 6)
       ·exact zAU (sz:=4) Tryz.underlying270 (fun w=>by kernel_rfl) (wg (h.d 1 18)) rfl (h.d 2 19) (h.d 3 20) (by omega) (by omega)
       ·exact zFJ (wg (h.d 1 18)) rfl (h.d 4 21) (fun k hk=>((G.out.2.2.1.trans (h.below.mono G.out.2.2.1.size)).cell (p:=⟨b0,off+i * 4+k,none⟩) hb0).trans (HC.out k hk)) (by decide)
       ·exact zAB (wg (h.d 1 18)) rfl (h.f 4)
       ·(have e23:A.eval (.tmp 23)=.int .i64 (n:Int):=h.d 6 23;refine zAA (wg (h.d 1 18)) ?_;simp only[execOp,e23];(simp[go_sem]<;>(rw[IntKind.wrap_u8];omega)))
       ·exact zAc (wg (h.d 1 18)) rfl (enters_of Tryz.func104 (by kernel_rfl) rfl) (zBm ⟨(h.d 5 22),(h.d 7 24)⟩) (zE6 t HOK.out n (by omega) W)
       ·exact zAy rfl rfl (h.d 1 18) (h.d 8 25)
      case en =>
       intro vals W hbw hv _;simp only[fa,Nat.reduceAdd];rw[e_ hv 0,e_ hv 1,e_ hv 2,e_ hv 3,e_ hv 4,e_ hv 5,e_ hv 6,e_ hv 7,e_ hv 8,e_ hv 9];clear hv
       try simp only[pl]
       have G9:Hid (SBox W (w.heap.size+1) 30 S/\SBox W w.heap.size 30 zAG/\Below w.heap.size w W/\MTo L n S):=⟨G.out.1.below hbw G.out.1.lt,G.out.2.1.below hbw G.out.2.1.lt,G.out.2.2.1.trans (hbw.mono G.out.2.2.1.size),G.out.2.2.2⟩;clear G hbw
       go_wp2_with fail
       go_roundw
       case rel=>exact⟨i+1,by omega,by go_num,by rw[HA'.out],G9.out⟩
       case measure=>simp[intOf];omega
     | false =>
      have HA':=Lib.hid (HA.out.trans (Bool.false_and _));clear HA
      go_upto_region 9 with fail
      refine ws_ 10 [fun v _=>v=.bool false,fun v _=>v=.bool false,fun v _=>v=undef,fun v _=>v=undef,fun v _=>v=undef,fun v _=>v=undef,fun v _=>v=undef,fun v _=>v=undef,fun v _=>v=undef,fun v _=>v=Value.bool false] ?ob ?en
      case ob =>
       refine⟨?_,?_,?_,?_,?_,?_,?_,?_,?_,?_,trivial⟩<;>intro A W h
       ·exact zAB rfl rfl (h.f 5)
       ·exact zAB rfl rfl (h.d 0 17)
       ·exact rsk (h.d 1 18)
       ·exact rsk (h.d 1 18)
       ·exact rsk (h.d 1 18)
       ·exact rsk (h.d 1 18)
       ·exact rsk (h.d 1 18)
       ·exact rsk (h.d 1 18)
       ·exact rsk (h.d 1 18)
       ·exact zAy rfl rfl (h.d 1 18) (rfl)
      case en =>
       intro vals W hbw hv _;simp only[fa,Nat.reduceAdd];rw[e_ hv 0,e_ hv 1,e_ hv 2,e_ hv 3,e_ hv 4,e_ hv 5,e_ hv 6,e_ hv 7,e_ hv 8,e_ hv 9];clear hv
       try simp only[pl]
       have G9:Hid (SBox W (w.heap.size+1) 30 S/\SBox W w.heap.size 30 zAG/\Below w.heap.size w W/\MTo L n S):=⟨G.out.1.below hbw G.out.1.lt,G.out.2.1.below hbw G.out.2.1.lt,G.out.2.2.1.trans (hbw.mono G.out.2.2.1.size),G.out.2.2.2⟩;clear G hbw
       go_wp2_with fail
       go_roundw
       case rel=>exact⟨i+1,by omega,by go_num,by rw[HA'.out],G9.out⟩
       case measure=>simp[intOf];omega
    ·obtain rfl:i=L.length:=by omega
     rw[List.take_length]
     cases hb:L.all (fun t=>hasB t n) with
     | false =>
      have U:=Lib.hid (G.out.2.2.2.miss hb);clear hb
      go_wp2_with fail
      go_roundw
      case rel=>exact⟨n+1,by omega,by go_num,S,G.out.1,G.out.2.1,G.out.2.2.1,U.out⟩
      case measure=>simp[intOf];omega
     | true =>
      have U:=Lib.hid (G.out.2.2.2.hit hb);clear hb
      go_upto_region 11 with fail
      refine ws_ 4 [fun v _=>v=setV S,fun v _=>v=.int .i64 (n:Int),fun v _=>v=.int .u8 (n:Int),fun v _=>v=setV (addS S n)] ?ob ?en
      case ob =>
       refine⟨?_,?_,?_,?_,trivial⟩<;>intro A W h
       ·exact zCS (s:=S) rfl rfl (h.f 3) (G.out.1.below h.below G.out.1.lt) (by decide)
       ·exact zAB rfl rfl (h.f 4)
       ·(have e29:A.eval (.tmp 29)=.int .i64 (n:Int):=h.d 1 29;refine zAA rfl ?_;simp only[execOp,e29];(simp[go_sem]<;>(rw[IntKind.wrap_u8];omega)))
       ·exact zAc rfl rfl (enters_of Tryz.func105 (by kernel_rfl) rfl) (zBm ⟨(h.d 0 28),(h.d 2 30)⟩) (zEa S G.out.2.2.2.1 n (by omega) W)
      case en =>
       intro vals W hbw hv _;simp only[fa,Nat.reduceAdd];rw[e_ hv 0,e_ hv 1,e_ hv 2,e_ hv 3];clear hv
       try simp only[pl]
       have s1:=G.out.1.below hbw G.out.1.lt;have s2:=G.out.2.1.below hbw G.out.2.1.lt;have s3:=G.out.2.2.1.trans (hbw.mono G.out.2.2.1.size);have f0:=s1.frozen 0;have f1:=s1.frozen 1;have f2:=s1.frozen 2;have f3:=s1.frozen 3;have r0:=s1.cell (k:=0) (by omega);have r1:=s1.cell (k:=1) (by omega);have r2:=s1.cell (k:=2) (by omega);have r3:=s1.cell (k:=3) (by omega)
       have S1:=Lib.hid s1;clear s1;have S2:=Lib.hid s2;clear s2;have S3:=Lib.hid s3;clear s3;clear hbw;rw[show setV (addS S n)=.agg #[.int .u64 (addS S n 0),.int .u64 (addS S n 1),.int .u64 (addS S n 2),.int .u64 (addS S n 3)] from rfl]
       go_wp2_with fail
       have T1:=Lib.hid (S1.out.set4 (addS S n));have T2:=Lib.hid ((((S2.out.other (B':=w.heap.size+1) (by omega) 0 (.int .u64 (addS S n 0))).other (B':=w.heap.size+1) (by omega) 1 (.int .u64 (addS S n 1))).other (B':=w.heap.size+1) (by omega) 2 (.int .u64 (addS S n 2))).other (B':=w.heap.size+1) (by omega) 3 (.int .u64 (addS S n 3)))
       have T3:=Lib.hid (zBP S3.out (B:=w.heap.size+1) (by omega) (.int .u64 (addS S n 0)) (.int .u64 (addS S n 1)) (.int .u64 (addS S n 2)) (.int .u64 (addS S n 3)))
       go_roundw
       case rel=>exact⟨n+1,by omega,by go_num,addS S n,T1.out,T2.out,T3.out,U.out⟩
       case measure=>simp[intOf];omega
  ·obtain rfl:n=256:=by omega
   obtain⟨S,s1,s2,s3,hu⟩:=G.out;have HU:=Lib.hid (hu.done HL.out);clear hu G;have f0:=s2.frozen 0;have f1:=s2.frozen 1;have f2:=s2.frozen 2;have f3:=s2.frozen 3;have r0:=s2.cell (k:=0) (by omega);have r1:=s2.cell (k:=1) (by omega);have r2:=s2.cell (k:=2) (by omega);have r3:=s2.cell (k:=3) (by omega)
   have c0:=s1.cell (k:=0) (by omega);have c1:=s1.cell (k:=1) (by omega);have c2:=s1.cell (k:=2) (by omega);have c3:=s1.cell (k:=3) (by omega)
   clear s1;have S2:=Lib.hid s2;clear s2;have S3:=Lib.hid s3;clear s3
   go_wp2
   have b4:=S2.out.set4 (S);have g0:=b4.cell (k:=0) (by omega);have g1:=b4.cell (k:=1) (by omega);have g2:=b4.cell (k:=2) (by omega);have g3:=b4.cell (k:=3) (by omega)
   exact bodyPost_ret (v:=setV (S)) (by unfold setV;simp[results,Tryz.results163,go_sem,g0,g1,g2,g3]) rfl ⟨by rw[HU.out],zBP S3.out (by omega) _ _ _ _⟩
def optI:Option Nat->Int
 | some n=>n
 | none => -1
theorem zQa (c:Nat) (hc:c<256) (w0:World):Calls Tryz.prog 142 #[.int .u8 c] w0 (Rt (.int .i64 (optI (hexP c))) w0):=by
 go_enter Tryz.func142,Tryz.ntmps142
 go_wp2
 all_goals
  go_ret;refine⟨reti ?_,Below.refl _ _⟩;unfold hexP
  (repeat' split)<;>simp only[optI]<;>omega
theorem zCD (lo hi:Nat) (hlo:lo<=255) (hhi:hi<=255) (w0:World):Calls Tryz.prog 145 #[.int .u8 lo,.int .u8 hi] w0 (Rt (setV (zAn lo (hi+1 - lo))) w0):=by
 have H:=Hold.start w0
 go_enter Tryz.func145,Tryz.ntmps145
 go_wp2_with (first|(first|((with_reducible refine gT ?_);(refine aS H ?_;clear H;intro w H;try simp only[nr]at H))|((with_reducible refine gA ?_);(refine bA H ?_;clear H;intro b w H;try simp only[nr]at H)))|((with_reducible refine ch (zMX lo hi hlo hhi _) H ?_);clear H;intro w H))
 (refine xcS Tryz.results145 H ?_)
 exact⟨rfl,H.below⟩
theorem zI3 (c:Nat) (hc:c<256) (w0:World):Calls Tryz.prog 60 #[.int .u8 c] w0 (Rt (setV (ofS [(c:Int)])) w0):=by
 have H:=Hold.start w0
 go_enter Tryz.func60,Tryz.ntmps60
 go_wp2_with (first|(first|((with_reducible refine gT ?_);(refine aS H ?_;clear H;intro w H;try simp only[nr]at H))|((with_reducible refine gA ?_);(refine bA H ?_;clear H;intro b w H;try simp only[nr]at H)))|((with_reducible refine gBS ?_);refine zAQ wtd_ _ _ _ rfl H (#[.int .u8 c]) 5 (by intro W;simp only[ml];(try simp only[pe]);(try unfold setV);simp[go_sem]<;>rfl) ?_;clear H;intro b w H;try simp only[nr]at H)|((with_reducible refine ch (zMh _ [(c:Int)] (by simp;omega) _ (H.rdn (cs:=[.int .u8 c]) atd_ (by simp) (by simp[maxLen]))) H ?_);clear H;intro w H))
 (refine xcS Tryz.results60 H ?_)
 exact⟨rfl,H.below⟩
theorem zN5 (w0:World):Calls Tryz.prog 145 #[.int .u8 0,.int .u8 127] w0 (Rt (setV (zAn 0 128)) w0):=zCD 0 127 (by omega) (by omega) w0
theorem zO3 (w0:World):Calls Tryz.prog 145 #[.int .u8 0,.int .u8 31] w0 (Rt (setV (zAn 0 32)) w0):=zCD 0 31 (by omega) (by omega) w0
theorem zIM (w0:World):Calls Tryz.prog 145 #[.int .u8 33,.int .u8 126] w0 (Rt (setV zDL) w0):=zCD 33 126 (by omega) (by omega) w0
theorem zIJ (w0:World):Calls Tryz.prog 145 #[.int .u8 97,.int .u8 122] w0 (Rt (setV zDw) w0):=zCD 97 122 (by omega) (by omega) w0
theorem zMG (w0:World):Calls Tryz.prog 145 #[.int .u8 32,.int .u8 126] w0 (Rt (setV (zAn 32 95)) w0):=zCD 32 126 (by omega) (by omega) w0
theorem zPV (w0:World):Calls Tryz.prog 145 #[.int .u8 9,.int .u8 13] w0 (Rt (setV (zAn 9 5)) w0):=zCD 9 13 (by omega) (by omega) w0
theorem zKQ (w0:World):Calls Tryz.prog 145 #[.int .u8 65,.int .u8 90] w0 (Rt (setV zD4) w0):=zCD 65 90 (by omega) (by omega) w0
theorem zMT (w0:World):Calls Tryz.prog 145 #[.int .u8 97,.int .u8 102] w0 (Rt (setV (zAn 97 6)) w0):=zCD 97 102 (by omega) (by omega) w0
theorem zNg (w0:World):Calls Tryz.prog 145 #[.int .u8 65,.int .u8 70] w0 (Rt (setV (zAn 65 6)) w0):=zCD 65 70 (by omega) (by omega) w0
theorem zNn (w0:World):Calls Tryz.prog 145 #[.int .u8 48,.int .u8 57] w0 (Rt (setV zBb) w0):=zCD 48 57 (by omega) (by omega) w0
theorem zQY (w0:World):Calls Tryz.prog 60 #[.int .u8 127] w0 (Rt (setV (ofS [127])) w0):=zI3 127 (by omega) w0
theorem zQt (w0:World):Calls Tryz.prog 60 #[.int .u8 32] w0 (Rt (setV (ofS [32])) w0):=zI3 32 (by omega) w0
theorem zQT (w0:World):Calls Tryz.prog 60 #[.int .u8 95] w0 (Rt (setV (ofS [95])) w0):=zI3 95 (by omega) w0
theorem zDB (v:Value) (L:List (Nat->Nat)) (hL:∀ t ∈ L,zAb t) (w0:World) (h:RdS w0 w0.heap.size v L):Calls Tryz.prog 102 #[v] w0 (Rt (setV (zCi L)) w0):=by
 have H:=Hold.start w0
 go_enter Tryz.func102,Tryz.ntmps102
 go_wp2_with (first|(first|((with_reducible refine gT ?_);(refine aS H ?_;clear H;intro w H;try simp only[nr]at H))|((with_reducible refine gA ?_);(refine bA H ?_;clear H;intro b w H;try simp only[nr]at H)))|((with_reducible refine ch (zLe _ L hL _ ((h.below H.below).up H.below.size)) H ?_);clear H;intro w H))
 (refine xcS Tryz.results102 H ?_)
 exact⟨rfl,H.below⟩
theorem zGq (w0:World):Calls Tryz.prog 141 #[] w0 (Rt (setV zBb) w0):=by
 have H:=Hold.start w0
 go_enter Tryz.func141,Tryz.ntmps141
 go_wp2_with (first|(first|((with_reducible refine gT ?_);(refine aS H ?_;clear H;intro w H;try simp only[nr]at H))|((with_reducible refine gA ?_);(refine bA H ?_;clear H;intro b w H;try simp only[nr]at H)))|((with_reducible refine ch (zNn _) H ?_);clear H;intro w H))
 (refine xcS Tryz.results141 H ?_)
 exact⟨rfl,H.below⟩
def zBt:Nat->Nat:=zCi [zDw,zD4]
theorem zJd:zAb zBt:=zEY (ok2 zGA zFt)
theorem zIx (w0:World):Calls Tryz.prog 162 #[] w0 (Rt (setV zBt) w0):=by
 have H:=Hold.start w0
 go_enter Tryz.func162,Tryz.ntmps162
 go_wp2_with (first|(first|((with_reducible refine gT ?_);(refine aS H ?_;clear H;intro w H;try simp only[nr]at H))|((with_reducible refine gA ?_);(refine bA H ?_;clear H;intro b w H;try simp only[nr]at H)))|((with_reducible refine gBS ?_);refine zAQ wtd_ _ _ _ rfl H (rowC [zDw,zD4]).toArray 30 (by intro W;simp only[ml];(try simp only[pe]);(with_reducible exact zCv (zDw) (zD4) W)) ?_;clear H;intro b w H;try simp only[nr]at H)|((with_reducible first|refine ch (zDB _ [zDw,zD4] (ok2 zGA zFt) _ (H.rdsn (L:=[zDw,zD4]) atd_ (by simp) (by simp[maxLen]))) H ?_|refine ch (zIJ _) H ?_|refine ch (zKQ _) H ?_);clear H;intro w H))
 (refine xcS Tryz.results162 H ?_)
 exact⟨rfl,H.below⟩
theorem zOW {s t:Nat->Nat} (h0:s 0=t 0) (h1:s 1=t 1) (h2:s 2=t 2) (h3:s 3=t 3):setV s=setV t:=by unfold setV;rw[h0,h1,h2,h3]
theorem zNQ:setV (zCi [zBb,zBt])=setV zBL:=zOW (by decide +kernel) (by decide +kernel) (by decide +kernel) (by decide +kernel)
def setO (o:Option (Nat->Nat)):Value:=.tuple #[setV (o.getD zAG),.bool o.isSome]
theorem zB0 {o:Option (Nat->Nat)} {s:Nat->Nat} (h:o=some s):Value.tuple #[setV s,.bool true]=setO o:=by rw[h];rfl
theorem zEd {o:Option (Nat->Nat)} (h:o=none):Value.tuple #[setV zAG,.bool false]=setO o:=by rw[h];rfl
theorem zND (s:Nat->Nat):zAb zAG/\∀ c,c<256->hasB zAG c=(decide (c<0)&&!hasB s c):=⟨zAj,fun c _=>by simp[zEP]⟩
theorem zGC (s:Nat->Nat) (hs:zAb s) (w0:World):Calls Tryz.prog 62 #[setV s] w0 (Rt (setV (notS s)) w0):=by
 have H:=Hold.start w0
 go_enter Tryz.func62,Tryz.ntmps62
 go_wp2_with (first|((with_reducible refine kg 1 ?_);(first|refine kA 1 H ?_|refine kS 1 H ?_|refine kB 1 H ?_);clear H;intro b1 w H;try simp only[nr]at H)|((with_reducible refine kg 2 ?_);(first|refine kA 2 H ?_|refine kS 2 H ?_|refine kB 2 H ?_);clear H;intro b2 w H;try simp only[nr]at H)|((with_reducible refine kg 3 ?_);(first|refine kA 3 H ?_|refine kS 3 H ?_|refine kB 3 H ?_);clear H;intro b3 w H;try simp only[nr]at H)|fail)
 go_loopw [4] (fun i wr=>∃ (k:Nat) (S:Nat->Nat),k<=256/\i=.int .i64 k/\Hid (zAb S/\∀ c,c<256->hasB S c=(decide (c<k)&&!hasB s c))/\Hold w0 wr [.blk b1 (setC s) 30,.blk b2 (setC zAG) 30,.blk b3 (setC S) 30]) (fun i _=>256 - (intOf i).toNat)
 case atStart=>exact⟨0,zAG,by omega,rfl,Lib.hid (zND s),H⟩
 case round =>
  clear H;obtain⟨k,S,hk,rfl,G,H⟩:=hrel
  by_cases hlt:k<256
  ·cases hb:hasB s k with
   | true =>
    have hc:=fun w=>zE6 s hs k hlt w
    rw[hb]at hc;have HB:=Lib.hid hb;clear hb
    go_wp2_with (first|((with_reducible refine gL ?_);refine aL H ?_)|((with_reducible refine ch (hc _) H ?_);clear H;intro w H))
    go_roundw
    case rel=>exact⟨k+1,S,by omega,by go_num,Lib.hid ⟨G.out.1,fun c hc=>by
     rw[G.out.2 c hc]
     by_cases e:c=k
     ·subst e;simp[HB.out]
     ·simp[show c<k+1↔c<k from by omega]⟩,H⟩
    case measure=>simp[intOf];omega
   | false =>
    have hc:=fun w=>zE6 s hs k hlt w
    rw[hb]at hc;have HB:=Lib.hid hb;clear hb
    go_wp2_with (first|(first|((with_reducible refine gT ?_);(refine aS H ?_;clear H;intro w H;try simp only[nr]at H))|((with_reducible refine gL ?_);refine aL H ?_))|((with_reducible first|refine ch (hc _) H ?_|refine ch (zEa S G.out.1 k hlt _) H ?_);clear H;intro w H))
    go_roundw
    case rel=>exact⟨k+1,addS S k,by omega,by go_num,Lib.hid ⟨zFy G.out.1 k,fun c hc=>by
     rw[zHC,G.out.2 c hc]
     by_cases e:c=k
     ·subst e;simp[HB.out]
     ·simp[e,show c<k+1↔c<k from by omega]⟩,H⟩
    case measure=>simp[intOf];omega
  ·obtain rfl:k=256:=by omega
   go_wp2_with (first|(first|((with_reducible refine gT ?_);(refine aS H ?_;clear H;intro w H;try simp only[nr]at H))|((with_reducible refine gL ?_);refine aL H ?_)))
   (refine xcS Tryz.results62 H ?_)
   exact⟨congrArg Ending.returned (zFh G.out.1 (zJb s) fun c hc=>by rw[G.out.2 c hc,zPi hs hc];simp[hc]),H.below⟩
theorem zNV (v:Value) (w0:World) (h:RdS w0 w0.heap.size v [zBb,zBt]):Calls Tryz.prog 102 #[v] w0 (Rt (setV zBL) w0) :=
 zNQ ▸ zDB v [zBb,zBt] (ok2 zEg zJd) w0 h
theorem zIh (L:Str) (w0:World):Calls Tryz.prog 140 #[.string ⟨L.toArray⟩] w0 (Rt (setO (zEj L)) w0):=by
 have H:=Hold.start w0
 go_enter Tryz.func140,Tryz.ntmps140
 go_wp2_with (first|((with_reducible refine kg 4 ?_);(first|refine kA 4 H ?_|refine kS 4 H ?_|refine kB 4 H ?_);clear H;intro b4 w H;try simp only[nr]at H)|(first|((with_reducible refine gT ?_);(refine aS H ?_;clear H;intro w H;try simp only[nr]at H))|((with_reducible refine gL ?_);refine aL H ?_)|((with_reducible refine gA ?_);(refine bA H ?_;clear H;intro b w H;try simp only[nr]at H))|((with_reducible refine gZ ?_);refine aZ ?_)|((with_reducible refine gE ?_);refine aE ?_))|((with_reducible refine gBS ?_);refine zAQ wtd_ _ _ _ rfl H (rowC [zBb,zBt]).toArray 30 (by intro W;simp only[ml];(try simp only[pe]);(with_reducible exact zCv (zBb) (zBt) W)) ?_;clear H;intro b w H;try simp only[nr]at H)|((with_reducible refine gBS ?_);refine zAQ wtd_ _ _ _ rfl H (rowC [zAn 0 32,ofS [127]]).toArray 30 (by intro W;simp only[ml];(try simp only[pe]);(with_reducible exact zCv (zAn 0 32) (ofS [127]) W)) ?_;clear H;intro b w H;try simp only[nr]at H)|((with_reducible refine gBS ?_);refine zAQ wtd_ _ _ _ rfl H (rowC [zAn 9 5,ofS [32]]).toArray 30 (by intro W;simp only[ml];(try simp only[pe]);(with_reducible exact zCv (zAn 9 5) (ofS [32]) W)) ?_;clear H;intro b w H;try simp only[nr]at H)|((with_reducible refine gBS ?_);refine zAQ wtd_ _ _ _ rfl H (rowC [zBL,ofS [95]]).toArray 30 (by intro W;simp only[ml];(try simp only[pe]);(with_reducible exact zCv (zBL) (ofS [95]) W)) ?_;clear H;intro b w H;try simp only[nr]at H)|((with_reducible refine gBS ?_);refine zAQ wtd_ _ _ _ rfl H (rowC [zBb,zAn 97 6,zAn 65 6]).toArray 30 (by intro W;simp only[ml];(try simp only[pe]);(with_reducible exact zLv (zBb) (zAn 97 6) (zAn 65 6) W)) ?_;clear H;intro b w H;try simp only[nr]at H)|((with_reducible refine gBS ?_);refine zAQ wtd_ _ _ _ rfl H (rowC [zDL,notS zBL]).toArray 30 (by intro W;simp only[ml];(try simp only[pe]);(with_reducible exact zCv (zDL) (notS zBL) W)) ?_;clear H;intro b w H;try simp only[nr]at H)|((with_reducible refine gBS ?_);refine zAQ wtd_ _ _ _ rfl H (#[.int .u8 9,.int .u8 32]) 5 (by intro W;simp only[ml];(try simp only[pe]);(try unfold setV);simp[go_sem]<;>rfl) ?_;clear H;intro b w H;try simp only[nr]at H)|((with_reducible first|refine ch (zMh _ [9,32] (by simp) _ (H.rdn (cs:=[.int .u8 9,.int .u8 32]) atd_ (by simp) (by simp[maxLen]))) H ?_|refine ch (zGq _) H ?_|refine ch (zIx _) H ?_|refine ch (zNV _ _ (H.rdsn (L:=[zBb,zBt]) atd_ (by simp) (by simp[maxLen]))) H ?_|refine ch (zDB _ [zAn 0 32,ofS [127]] (ok2 (zEm _ _) (zCt _)) _ (H.rdsn (L:=[zAn 0 32,ofS [127]]) atd_ (by simp) (by simp[maxLen]))) H ?_|refine ch (zDB _ [zAn 9 5,ofS [32]] (ok2 (zEm _ _) (zCt _)) _ (H.rdsn (L:=[zAn 9 5,ofS [32]]) atd_ (by simp) (by simp[maxLen]))) H ?_|refine ch (zDB _ [zBL,ofS [95]] (ok2 zDT (zCt _)) _ (H.rdsn (L:=[zBL,ofS [95]]) atd_ (by simp) (by simp[maxLen]))) H ?_|refine ch (zDB _ [zBb,zAn 97 6,zAn 65 6] (ok3 zEg (zEm _ _) (zEm _ _)) _ (H.rdsn (L:=[zBb,zAn 97 6,zAn 65 6]) atd_ (by simp) (by simp[maxLen]))) H ?_|refine ch (zGC zBL zDT _) H ?_|refine ch (zJ5 _ [zDL,notS zBL] (ok2 zIU (zJb _)) _ (H.rdsn (L:=[zDL,notS zBL]) atd_ (by simp) (by simp[maxLen]))) H ?_|refine ch (zN5 _) H ?_|refine ch (zO3 _) H ?_|refine ch (zIM _) H ?_|refine ch (zIJ _) H ?_|refine ch (zMG _) H ?_|refine ch (zPV _) H ?_|refine ch (zKQ _) H ?_|refine ch (zMT _) H ?_|refine ch (zNg _) H ?_|refine ch (zQY _) H ?_|refine ch (zQt _) H ?_|refine ch (zQT _) H ?_);clear H;intro w H))
 any_goals
  (refine xctS Tryz.results140 H ?_)
  (first|exact⟨congrArg _ (zEd (by simp[zEj,namesL,List.find?_cons, *])),H.below⟩|exact⟨congrArg _ (zB0 (by simp[zEj,namesL,List.find?_cons,zBt, *])),H.below⟩)
 ·skip
  refine zAd 5 [fun v _=>v=setV zDL,fun v _=>v=setV zBL,fun v _=>v=setV (notS zBL),fun v w=>RdS w w.heap.size v [zDL,notS zBL],fun v _=>v=setV (zJf [zDL,notS zBL])] (fun _=>false) (by kernel_rfl) (by kernel_rfl) (by kernel_rfl) (by repeat (first|exact trivial|refine⟨zAI _,?_⟩|refine⟨zGh _,?_⟩)) (fun _ _ h=>by cases h) ?ob ?en
  case ob =>
   refine⟨?_,?_,?_,?_,?_,trivial⟩<;>intro A W h
   ·exact zAc rfl rfl (enters_of Tryz.func145 (by kernel_rfl) rfl) (zBm ⟨rfl,rfl⟩) (zIM W)
   ·exact zCS (s:=zBL) rfl rfl (h.f 4) ((H.call h.below).blk atd_).2 (by decide)
   ·exact zAc rfl rfl (enters_of Tryz.func62 (by kernel_rfl) rfl) (zCN (h.d 1 44)) (zGC zBL zDT W)
   ·exact zIA rfl rfl (h.d 0 43) (h.d 2 45) (by decide)
   ·exact zAc rfl rfl (enters_of Tryz.func163 (by kernel_rfl) rfl) (zCN rfl) (zJ5 _ [zDL,notS zBL] (ok2 zIU (zJb _)) W (h.d 3 46))
  case en =>
   intro vals W hbw hv _;have x3:=hv 3 (by omega);simp only[zAO]at x3
   simp only[fa,Nat.reduceAdd];rw[e_ hv 0,e_ hv 1,e_ hv 2,e_ hv 4];clear hv
   try simp only[pl]
   replace H:=H.call hbw;clear hbw
   go_wp2_with (first|((with_reducible refine gT ?_);(refine aS H ?_;clear H;intro w H;try simp only[nr]at H)))
   (refine xctS Tryz.results140 H ?_)
   (first|exact⟨congrArg _ (zEd (by simp[zEj,namesL,List.find?_cons, *])),H.below⟩|exact⟨congrArg _ (zB0 (by simp[zEj,namesL,List.find?_cons,zBt, *])),H.below⟩)
 ·skip
  refine zAd 4 [fun v _=>v=setV zBL,fun v _=>v=setV (ofS [95]),fun v w=>RdS w w.heap.size v [zBL,ofS [95]],fun v _=>v=setV zHq] (fun _=>false) (by kernel_rfl) (by kernel_rfl) (by kernel_rfl) (by repeat (first|exact trivial|refine⟨zAI _,?_⟩|refine⟨zGh _,?_⟩)) (fun _ _ h=>by cases h) ?ob ?en
  case ob =>
   refine⟨?_,?_,?_,?_,trivial⟩<;>intro A W h
   ·exact zCS (s:=zBL) rfl rfl (h.f 4) ((H.call h.below).blk atd_).2 (by decide)
   ·exact zAc rfl rfl (enters_of Tryz.func60 (by kernel_rfl) rfl) (zCN rfl) (zQT W)
   ·exact zIA rfl rfl (h.d 0 59) (h.d 1 60) (by decide)
   ·exact zAc rfl rfl (enters_of Tryz.func102 (by kernel_rfl) rfl) (zCN rfl) ((zDB _ [zBL,ofS [95]] (ok2 zDT (zCt _)) W (h.d 2 61)))
  case en =>
   intro vals W hbw hv _;have x2:=hv 2 (by omega);simp only[zAO]at x2
   simp only[fa,Nat.reduceAdd];rw[e_ hv 0,e_ hv 1,e_ hv 3];clear hv
   try simp only[pl]
   replace H:=H.call hbw;clear hbw
   go_wp2_with (first|((with_reducible refine gT ?_);(refine aS H ?_;clear H;intro w H;try simp only[nr]at H)))
   (refine xctS Tryz.results140 H ?_)
   (first|exact⟨congrArg _ (zEd (by simp[zEj,namesL,List.find?_cons, *])),H.below⟩|exact⟨congrArg _ (zB0 (by simp[zEj,namesL,List.find?_cons,zBt, *])),H.below⟩)



def Knows (F:Nat->Prop) (p:Option Addr) (n c:Nat) (xs:List TV) (V:World):Prop:=RdN 10 V F (.slice p n c) (xs.map zOT)/\ListR V F xs
section
variable {F:Nat->Prop} {p:Option Addr} {n c:Nat} {xs:List TV} {V W w0:World}
theorem Knows.cells {b off:Nat} (h:Knows F (some ⟨b,off,none⟩) n c xs V) {j:Nat} {x:TV} (hj:xs[j]?=some x) {q:Nat} (hq:off+j * 10=q):∀ k,k<10->V.cell? ⟨b,q+k,none⟩=(zOT x)[k]?:=by
 obtain⟨p,c,e1,_,_,_,h3⟩:=h.1;obtain⟨b',off',e2,_,_,h4⟩:=h3 j (zOT x) (by rw[List.getElem?_map,hj];rfl)
 cases e1;cases e2;subst hq
 exact h4
theorem Knows.at (h:Knows F p n c xs V) (h0:0<xs.length):∃ b off,p=some ⟨b,off,none⟩:=by
 obtain⟨p,c,e1,h1,h2,_,h3⟩:=h.1
 cases e1
 obtain⟨b,off,e,_⟩:=h3 0 _ (by rw[List.getElem?_map,List.getElem?_eq_getElem h0];rfl)
 exact⟨b,off,e⟩
end
def WKnows (F:Nat->Prop) (p:Option Addr) (n c:Nat) (ws:List WordD) (V:World):Prop:=RdN 17 V F (.slice p n c) (ws.map zI4)
section
variable {F:Nat->Prop} {p:Option Addr} {n c:Nat} {ws:List WordD} {V W w0:World}
theorem WKnows.cells {b off:Nat} (h:WKnows F (some ⟨b,off,none⟩) n c ws V) {j:Nat} {d:WordD} (hj:ws[j]?=some d) {q:Nat} (hq:off+j * 17=q):∀ k,k<17->V.cell? ⟨b,q+k,none⟩=(zI4 d)[k]?:=by
 obtain⟨p,c,e1,_,_,_,h3⟩:=h;obtain⟨b',off',e2,_,_,h4⟩:=h3 j (zI4 d) (by rw[List.getElem?_map,hj];rfl)
 cases e1;cases e2;subst hq
 exact h4
theorem WKnows.kind {b off:Nat} (h:WKnows F (some ⟨b,off,none⟩) n c ws V) {j:Nat} {d:WordD} (hj:ws[j]?=some d):V.cell? ⟨b,off+j * 17,none⟩=some (.int .i64 d.kind):=h.cells hj rfl 0 (by omega)
theorem WKnows.place {b off:Nat} (h:WKnows F (some ⟨b,off,none⟩) n c ws V) {j:Nat} {d:WordD} (hj:ws[j]?=some d):V.cell? ⟨b,off+j * 17+1,none⟩=some (.int .i64 d.place):=h.cells hj rfl 1 (by omega)
theorem WKnows.at (h:WKnows F p n c ws V) (h0:0<ws.length):∃ b off,p=some ⟨b,off,none⟩:=by
 obtain⟨p,c,e1,h1,h2,_,h3⟩:=h
 cases e1
 obtain⟨b,off,e,_⟩:=h3 0 _ (by rw[List.getElem?_map,List.getElem?_eq_getElem h0];rfl)
 exact⟨b,off,e⟩
end
abbrev pC (p:Option Addr) (n c:Nat) (j g:Nat):Array Value:=#[.slice p n c,.int .i64 (j:Int),.int .i64 (g:Int)]
structure AltPre (pb:Nat) (U:TypeId) (FW:Nat->Prop) (p:Option Addr) (n c:Nat) (ws:List WordD) (j g:Nat) (w:World):Prop where
 cells:w.heap[pb]?=some (.cells (pC p n c j g) U (0,0))
 lt:∀ b,FW b->b<w.heap.size
 ne:¬ FW pb
 words:WKnows FW p n c ws w
 ok:∀ d ∈ ws,zAb d.set
 len:n<=1000
 jn:j<=n
 gn:g<=j
section
variable {M:Nat->Prop} {w0 w:World} {l:List Res}
end
end
section
open Go.RowKit
def zF4 (n0:Nat) (cs:Array Value) (T:TypeId) (v:Value) (W:World):Prop:=∃ b,v=pt b 0/\n0<=b/\W.heap[b]?=some (.cells cs T (0,0))
theorem zCl (n0:Nat) (cs:Array Value) (T:TypeId):zC0 (zF4 n0 cs T):=fun v w w' ⟨b,e,h1,h2⟩ hb=>⟨b,e,h1,(hb.block b (Array.getElem?_eq_some_iff.1 h2).1).trans h2⟩
theorem zFc {P:Program} {ops:Array Oper} {o:Oper} {a:Act} {w:World} {n0:Nat} {T:TypeId} {cs:Array Value} {D:Prop} (hg:Region.wanted o (yielded ops a.tmps)=true) (hop:o.op=Op.alloc T) (hi:((P.info? T).bind (·.zero)).isSome=true) (hz:zBa P T=cs) (hn:n0<=w.heap.size) (hD:¬ D:=by decide) :
  zA4 P ops o a w (fun v w'=>zF4 n0 cs T v w'/\(D->w.heap.size<=blk v)):=by
 subst hz
 cases hi1:P.info? T with
 | none=>simp[hi1]at hi
 | some i0 =>
  cases hz:i0.zero with
  | none=>simp[hi1,hz]at hi
  | some z =>
   have hzc:zBa P T=z.cells:=by simp[zBa,hi1,hz]
   refine zBo hg (v:=.pointer (some ⟨w.heap.size,0,none⟩)) (w':=w.alloc (.cells (zBa P T) T)) ?_ ((Below.refl _ w).alloc (Nat.le_refl _) _) ⟨⟨w.heap.size,rfl,hn,World.alloc_heap_new w _⟩,fun h=>(hD h).elim⟩
   rw[hzc];simp[execOp,hop,Instr.alloc,zeroValue,typeInfo,hi1,hz,newVar,newRow]
theorem HoldG.gainB {M:Nat->Prop} {w0 w w':World} {l:List Res} (H:HoldG M w0 w l) (hb:Below w.heap.size w w') {cs:Array Value} {T:TypeId} {v:Value} (h:zF4 w.heap.size cs T v w'):∃ b,v=pt b 0/\HoldG M w0 w' (l++[.blk b cs T]):=by
 obtain⟨b,e,h1,h2⟩:=h;refine⟨b,e,(H.call hb).keep,?_,?_⟩
 ·intro j s hs;rw[List.getElem?_append]at hs;split at hs
  ·exact(H.call hb).all j s hs
  ·rcases List.getElem?_eq_some_iff.1 hs with ⟨h3,h4⟩
   simp at h3;simp[h3]at h4;subst h4;exact⟨.inl (Nat.le_trans H.keep.size h1),h2⟩
 ·intro j k s t hjk hs ht;rw[List.getElem?_append]at hs ht;split at hs
  ·split at ht
   ·exact H.apart j k s t hjk hs ht
   ·rcases List.getElem?_eq_some_iff.1 ht with ⟨h3,h4⟩
    simp at h3;simp[h3]at h4;subst h4;intro z hz1 hz2;have:=((H.all j s hs).lt z hz1).2;have e:some b=some z:=hz2
    cases e;omega
  ·rcases List.getElem?_eq_some_iff.1 hs with ⟨h3,h4⟩
   simp at h3;simp[h3]at h4;subst h4;split at ht
   ·intro z hz1 hz2;have:=(H.all k t ht).ltf z hz2
    cases hz1;omega
   ·rcases List.getElem?_eq_some_iff.1 ht with ⟨h5,h6⟩
    simp at h5;omega
def FreshS (n0:Nat) (cs:Array Value) (T:TypeId) (v:Value) (W:World):Prop:=∃ b,v=.slice (some ⟨b,0,none⟩) 1 1/\n0<=b/\W.heap[b]?=some (.cells cs T (0,0))
theorem zDC (n0:Nat) (cs:Array Value) (T:TypeId):zC0 (FreshS n0 cs T):=fun v w w' ⟨b,e,h1,h2⟩ hb=>⟨b,e,h1,(hb.block b (Array.getElem?_eq_some_iff.1 h2).1).trans h2⟩
end
section
open Go.RowKit Go.Shelf
attribute [local go_sem] Oper.semAt_some
section
variable {M:Nat->Prop} {w0 w:World} {l:List Res}
end
section
variable {m:Nat} {f:zNC} {w:WordD} {r:List WordD} {g:Nat} {all items:List Tree}
end
end
section
open Go.RowKit

end
section
open Go.RowKit Go.Shelf
attribute [local go_sem] Oper.semAt_some
section
variable {P:Program} {ops:Array Oper} {rest:List Oper} {o:Oper} {a:Act} {w w0:World} {Q:Exit->Act->World->Prop} {l:List Res} {M:Nat->Prop}
theorem zDH (hg:o.guard=none) (s x:Operand) (T:TypeId) (ho:o.op=.call {callee:=.builtin .append,args:=#[s,x],argTypes:=#[T,T]}) (H:HoldG M w0 w l) {i:Nat} {v:Value} {e:TypeId} {sz n m c:Nat} {q:Option Addr} {xs:List Value} {F:Nat->Prop} {rows:List (Array Value)}
  (hs:a.eval s=v) (hx:a.eval x=.slice q m c) (hi:At l i (.row v e sz n xs)) (hR:RdN sz w F (.slice q m c) rows) (hrs:∀ r ∈ rows,r.size=sz) {it:TypeInfo} {z:Value} {bytes:Nat}
  (h1:P.underlying T=some (.slice e)) (h2:P.info? e=some it) (h3:it.zero=some z) (h4:it.size=sz) (h5:it.bytes=bytes) (h6:z.cells.size=sz) (h7:0<sz) (h1c:∀ u ∈ zAW rows,u.oneCell'=true)
  (b1:n+m<=maxLen) (b2:(n+m) * bytes<=140737488355328)
  (h:∀ v' w',HoldG M w0 w' (l.set i (.row v' e sz (n+m) (xs++zAW rows)))->wpList P ops Q rest (a.put o.dst v') w'):wpList P ops Q (o::rest) a w:=by
 obtain⟨p,cap,e1,r1,r2,r0,r3⟩:=hR
 cases e1
 have key:∀ ad:Addr,q=some ad->(∀ j u,(zAW rows)[j]?=some u->w.cell? (ad.add j)=some u)->wpList P ops Q (o::rest) a w:=fun ad hq hc=>by
  subst hq;refine wpList_append_own_at w hg s x T ho w0.heap.size e it z sz bytes h1 h2 h3 h4 h5 h6 h7 v n xs hs (H.all i _ hi.get) ad rows.length c (zAW rows) hx (zDh hrs) hc h1c b1 b2 H.keep.size (fun v' w' r1 r2 _ r4=>h v' w' ?_)
  refine H.upd hi.get (by exact r2) r1 (fun b' hb'=>?_)
  rcases r4 with r4|r4
  ·left;show v.ownBlock=some b';rw[← r4];exact hb'
  ·right;have:v'.ownBlock=some b':=hb';rw[r4]at this
   cases this;exact Nat.le_refl _
 cases rows with
 | nil =>
  cases q with
  | none =>
   have hc0:=r0 rfl;subst hc0;refine wpList_append_own_none hg s x T ho w0.heap.size e it sz h1 h2 v n xs hs (H.all i _ hi.get) hx ?_
   have hset:l.set i (.row v e sz (n+0) (xs++zAW []))=l:=by
    apply List.ext_getElem?;intro j;rw[List.getElem?_set];split
    ·rename_i e;subst e;have:=hi.get;rw[if_pos (List.getElem?_eq_some_iff.1 this).1,this];simp[zAW]
    ·rfl
   have:=h v w (by rw[show (List.length ([]:List (Array Value)))=0 from rfl,hset];exact H)
   exact this
  | some ad=>exact key ad rfl (fun j u hj=>by simp[zAW]at hj)
 | cons r rows =>
  obtain⟨b,off,hq,hF,_,_⟩:=r3 0 r rfl;refine key _ hq (fun j u hj=>?_)
  have hlen:(zAW (r::rows)).length=(r::rows).length * sz:=zDh hrs;have hjl:=(List.getElem?_eq_some_iff.1 hj).1;have hd:j=j / sz * sz+j % sz:=by rw[Nat.mul_comm];exact(Nat.div_add_mod j sz).symm
  have hm:j % sz<sz:=Nat.mod_lt _ h7;have hqq:j / sz<(r::rows).length:=Nat.div_lt_of_lt_mul (by rw[Nat.mul_comm];omega)
  have hget:(r::rows)[j / sz]?=some (r::rows)[j / sz]:=List.getElem?_eq_getElem hqq;obtain⟨b',off',hq',_,_,hk⟩:=r3 (j / sz) _ hget;rw[hq]at hq';cases hq'
  have h8:=zDP hrs hget hm;rw[← hd,hj]at h8;have h9:=hk (j % sz) hm;rw[← h8]at h9;rw[Addr.add_mid,← h9]
  congr 2;omega
end
section
variable {P:Program} {ops:Array Oper} {rest:List Oper} {o:Oper} {a:Act} {w w0:World} {Q:Exit->Act->World->Prop} {l:List Res} {M:Nat->Prop}
end
theorem HoldG.blkRowN {M:Nat->Prop} {w0 W:World} {l:List Res} (H:HoldG M w0 W l) {i b sz n:Nat} {cs:Array Value} {T:TypeId} (hi:At l i (.blk b cs T)) (hM:¬ M b) (hs:cs.size=n * sz) (hn:n<=maxLen):HoldG M w0 W (l.set i (.row (.slice (some ⟨b,0,none⟩) n n) T sz n cs.toList)):=by
 have hb:=H.blk hi;refine H.upd hi.get ⟨rfl,rfl,rfl,Nat.le_refl _,fun _ _ _=>rfl⟩ ⟨by simp[hs],.inr ⟨b,n,cs,rfl,hb.1.resolve_right hM,hb.2,Nat.le_refl _,hn,by simp[hs],?_⟩⟩ (fun _ e=>.inl e)
 rw[List.take_of_length_le (by simp[hs])]
theorem zOh (xs:List Int):zAW (xs.map fun v=>#[Value.int .i64 v])=xs.map (.int .i64):=by
 rw[show (xs.map fun v=>#[Value.int .i64 v])=(xs.map (Value.int .i64)).map (fun v=>#[v]) by rw[List.map_map];rfl,zA7]
theorem IntsR.bound {F:Nat->Prop} {p:Option Addr} {c:Nat} {xs:List Int} {W:World} (h:IntsR F p c xs W):xs.length<=c/\c<=9223372036854775807:=by
 obtain⟨p',c',e,h1,h2,_⟩:=h;simp only[Value.slice.injEq]at e;obtain⟨rfl,_,rfl⟩:=e;rw[List.length_map]at h1;exact⟨h1,by simpa [maxLen] using h2⟩
theorem IntsR.at {F:Nat->Prop} {p:Option Addr} {c:Nat} {xs:List Int} {W:World} (h:IntsR F p c xs W) (hn:0<xs.length):∃ b off,p=some ⟨b,off,none⟩:=by
 obtain⟨p',c',e,_,_,_,h3⟩:=h;simp only[Value.slice.injEq]at e;obtain⟨rfl,_,rfl⟩:=e;obtain⟨b,off,e2,_⟩:=h3 0 #[.int .i64 xs[0]] (by rw[List.getElem?_map,List.getElem?_eq_getElem hn];rfl)
 exact⟨b,off,e2⟩
theorem IntsR.nil (F:Nat->Prop) (V:World):IntsR F none 0 [] V:=RdN.nil ..
theorem IntsR.none0 {F:Nat->Prop} {p:Option Addr} {c:Nat} {xs:List Int} {W:World} (h:IntsR F p c xs W) (hp:p=none):xs=[]/\c=0:=by
 obtain⟨p',c',e,h1,h2,h0,_⟩:=h;simp only[Value.slice.injEq]at e;obtain⟨rfl,_,rfl⟩:=e;rw[List.length_map]at h1;have:=h0 hp;subst this;exact⟨List.length_eq_zero_iff.1 (by omega),rfl⟩
theorem zO5 {o:Oper} {a:Act} {w:World} {x y:Operand} {U:TypeId} {p:Option Addr} {n c:Nat} (hop:o.op=.binOp .eql 55 x y U) (hx:a.eval x=.slice p n c) (hy:a.eval y=.slice none 0 0):(execOp a.eval o).run Tryz.prog w=.ok (.value (.bool p.isNone)) w:=by
 simp only[execOp,hop,hx,hy];simp[go_sem,binOp,run_equal_slice_nil w 55 _ p n c Tryz.underlying55]
theorem zPR {o:Oper} {a:Act} {w:World} {x y:Operand} {U:TypeId} {p:Option Addr} {n c:Nat} (hop:o.op=.binOp .neq 55 x y U) (hx:a.eval x=.slice p n c) (hy:a.eval y=.slice none 0 0):(execOp a.eval o).run Tryz.prog w=.ok (.value (.bool (!p.isNone))) w:=by
 simp only[execOp,hop,hx,hy];simp[go_sem,binOp,run_equal_slice_nil w 55 _ p n c Tryz.underlying55]
section
variable {ops:Array Oper} {dst:Option Tmp} {ty:TypeId} {pos:String} {aft:Array Edge} {grd:Option (Nat × Bool)} {rest:List Oper} {a:Act} {w:World} {Q:Exit->Act->World->Prop}
theorem gEN {U:TypeId} {x y:Operand} (h:wpList Tryz.prog ops Q ((⟨dst,.binOp .eql 55 x y U,ty,pos,aft,grd⟩:Oper)::rest) a w):wpList Tryz.prog ops Q ((⟨dst,.binOp .eql 55 x y U,ty,pos,aft,grd⟩:Oper)::rest) a w:=h
theorem eN {U:TypeId} {x y:Operand} {p:Option Addr} {n c:Nat} (h:wpList Tryz.prog ops Q rest (a.put dst (.bool p.isNone)) w) (hg:Region.wanted (⟨dst,.binOp .eql 55 x y U,ty,pos,aft,grd⟩:Oper) (yielded ops a.tmps)=true:=by first|rfl|exact zAT rfl (zAM rfl (by first|rfl|(simp only[pe];rfl)))) (hx:a.eval x=.slice p n c:=by first|(simp only[pe];done)|(simp only[pe];rfl)) (hy:a.eval y=.slice none 0 0:=by rfl):wpList Tryz.prog ops Q ((⟨dst,.binOp .eql 55 x y U,ty,pos,aft,grd⟩:Oper)::rest) a w :=
 zAh hg (zO5 rfl hx hy) h
theorem gNN {U:TypeId} {x y:Operand} (h:wpList Tryz.prog ops Q ((⟨dst,.binOp .neq 55 x y U,ty,pos,aft,grd⟩:Oper)::rest) a w):wpList Tryz.prog ops Q ((⟨dst,.binOp .neq 55 x y U,ty,pos,aft,grd⟩:Oper)::rest) a w:=h
theorem nN {U:TypeId} {x y:Operand} {p:Option Addr} {n c:Nat} (h:wpList Tryz.prog ops Q rest (a.put dst (.bool (!p.isNone))) w) (hg:Region.wanted (⟨dst,.binOp .neq 55 x y U,ty,pos,aft,grd⟩:Oper) (yielded ops a.tmps)=true:=by first|rfl|exact zAT rfl (zAM rfl (by first|rfl|(simp only[pe];rfl)))) (hx:a.eval x=.slice p n c:=by first|(simp only[pe];done)|(simp only[pe];rfl)) (hy:a.eval y=.slice none 0 0:=by rfl):wpList Tryz.prog ops Q ((⟨dst,.binOp .neq 55 x y U,ty,pos,aft,grd⟩:Oper)::rest) a w :=
 zAh hg (zPR rfl hx hy) h
end
theorem zNI (W:World):(Instr.buildSlice 55 0 #[]).run Tryz.prog W=.ok (.slice (some ⟨W.heap.size,0,none⟩) 0 0) (W.alloc (.cells #[] 3)):=by kernel_rfl
def OwnI (w:World) (xs:List Int) (e:Ending) (w':World):Prop:=∃ q c,e=.returned (.slice q xs.length c)/\w'.ownsRow w.heap.size 3 1 (.slice q xs.length c) xs.length (xs.map (.int .i64))/\Below w.heap.size w w'
theorem zFf (q:Option Addr) (c:Nat) (xs:List Int) (F:Nat->Prop) (w0:World) (hn:xs.length<=1000000) (hF:∀ b,F b->b<w0.heap.size) (h:IntsR F q c xs w0) :
  Calls Tryz.prog 115 #[.slice q xs.length c] w0 fun e w'=>OwnI w0 xs e w':=by
 have H:=(Hold.start w0).know F (IntsR F q c xs) hF (fun i r h=>by simp at h) (fun V hV=>h.kept hV)
 simp only[List.nil_append]at H;have hnil:=h.none0;clear h;obtain⟨ii,hii,hi0,hi1,hi2⟩:=info_parts zEO
 cases q with
 | none =>
  obtain⟨hx,hc⟩:=hnil rfl;subst hx hc
  go_enter Tryz.func115,Tryz.ntmps115
  go_wp2_with (first|((with_reducible refine gEN ?_);refine eN ?_)|fail)
  go_ret;exact⟨none,0,rfl,World.ownsRow_nil _ _ _ _,H.below⟩
 | some ad =>
  obtain⟨n,hnn⟩:∃ n,xs.length=n:=⟨_,rfl⟩;have HN:=Lib.hid hnn;rw[hnn]at hn ⊢;clear hnn;have hrd:∀ V,IntsR F (some ad) c xs V->RdN 1 V F (.slice (some ad) n c) (xs.map fun v=>#[.int .i64 v]):=fun V h=>by have:=HN.out;subst this;exact h
  go_enter Tryz.func115,Tryz.ntmps115
  go_wp2_with (first|((with_reducible refine gEN ?_);refine eN ?_)|((with_reducible refine gBS ?_);refine zAQ wtd_ _ _ _ rfl H #[] 3 (by intro W;simp only[List.map_toArray,List.map_nil];exact zNI W) ?_;clear H;intro bk w H;(have H2:=H.blkRowN (i:=1) (sz:=1) (n:=0) i_1 id rfl (by decide));clear H;(have H:=H2);clear H2;simp only[List.cons_append,List.nil_append,List.set_cons_succ,List.set_cons_zero]at H)|(at_builtin;refine zDH rfl _ _ 55 rfl H (i:=1) evd_ evd_ i_1 (hrd _ (H.kn (i:=0) .zero)) (fun r hr=>by obtain⟨v,_,rfl⟩:=List.mem_map.1 hr;rfl) Tryz.underlying55 hii hi0 hi1 hi2 rfl (by decide) (fun u hu=>by rw[zOh]at hu;obtain⟨v,_,rfl⟩:=List.mem_map.1 hu;rfl) (by unfold maxLen;omega) (by omega) ?_;clear H;intro v2 w H;try simp only[nr]at H)|fail)
  go_ret;rw[zOh]at H;simp only[List.nil_append,Nat.zero_add]at H;obtain⟨q2,c2,rfl,_,_,_⟩:=H.rowShape (i:=1) i_1;rw[← HN.out]at H;refine⟨q2,c2,?_,H.all 1 _ rfl,H.below⟩;rw[HN.out];rfl
theorem HoldG.gainRowX {M:Nat->Prop} {w0 w w':World} {l:List Res} (H:HoldG M w0 w l) (hb:Below w.heap.size w w') {e:TypeId} {sz n:Nat} {v:Value} {xs:List Value} (ho:w'.ownsRow w.heap.size e sz v n xs):HoldG M w0 w' (l++[.row v e sz n xs]):=by
 have H':=H.call hb;refine⟨H'.keep,?_,?_⟩
 ·intro j s hs;rw[List.getElem?_append]at hs;split at hs
  ·exact H'.all j s hs
  ·rcases List.getElem?_eq_some_iff.1 hs with ⟨h3,h4⟩
   simp at h3;simp[h3]at h4;subst h4;exact ho.mono H.keep.size
 ·intro j k s t hjk hs ht;rw[List.getElem?_append]at hs ht;split at hs
  ·split at ht
   ·exact H'.apart j k s t hjk hs ht
   ·rcases List.getElem?_eq_some_iff.1 ht with ⟨h3,h4⟩
    simp at h3;simp[h3]at h4;subst h4;intro z hz1 hz2;have h1:=((H.all j s hs).lt z hz1).2;have h2:=(World.ownsRow.lt ho z hz2).1;omega
  ·rcases List.getElem?_eq_some_iff.1 hs with ⟨h3,h4⟩
   simp at h3;simp[h3]at h4;subst h4;split at ht
   ·intro z hz1 hz2;have h1:=(H.all k t ht).ltf z hz2;have h2:=(World.ownsRow.lt ho z hz1).1;omega
   ·rcases List.getElem?_eq_some_iff.1 ht with ⟨h5,h6⟩
    simp at h5;omega
theorem chI {M:Nat->Prop} {P:Program} {f:FuncId} {args:Array Value} {w w0:World} {l:List Res} {xs:List Int} {R:Ending->World->Prop} (c:Calls P f args w fun e w'=>OwnI w xs e w') (H:HoldG M w0 w l)
  (k:∀ q c w',HoldG M w0 w' (l++[.row (.slice q xs.length c) 3 1 xs.length (xs.map (.int .i64))])->R (.returned (.slice q xs.length c)) w'):Calls P f args w R:=c.mono fun _ w' ⟨q,c,e,ho,hb⟩=>by
 subst e;exact k q c w' (H.gainRowX hb ho)
def zQG (w:World) (xs:List Int) (e:Ending) (w':World):Prop:=∃ q c F,e=.returned (.slice q xs.length c)/\IntsR F q c xs w'/\∀ b,F b->b<w'.heap.size/\w.heap.size<=b
theorem zOj (at_ slot:Nat) (q:Option Addr) (c:Nat) (xs:List Int) (F:Nat->Prop) (w0:World) (hn:xs.length<=1000000) (hs:slot<xs.length) (hF:∀ b,F b->b<w0.heap.size) (h:IntsR F q c xs w0) :
  Calls Tryz.prog 169 #[.int .i64 at_,.int .i64 slot,.slice q xs.length c] w0 fun e w'=>zQG w0 (xs.set slot at_) e w'/\Below w0.heap.size w0 w':=by
 have H:=(Hold.start w0).know F (IntsR F q c xs) hF (fun i r h=>by simp at h) (fun V hV=>h.kept hV)
 simp only[List.nil_append]at H;clear h;have hcl:=fun w h1 h2=>zFf q c xs F w hn h1 h2
 obtain⟨n,hnn⟩:∃ n,xs.length=n:=⟨_,rfl⟩;have HN:=Lib.hid hnn;have hlen:(xs.map (Value.int .i64)).length=n:=by rw[List.length_map];exact hnn
 rw[hnn]at hn hs hcl ⊢;have hset:(xs.set slot (at_:Int)).length=n:=by rw[List.length_set];exact hnn
 clear hnn;have HS:=Lib.hid hset;clear hset
 go_enter Tryz.func169,Tryz.ntmps169
 go_upto_region 2 with (first|fail|(go_at_call 115;refine chI (hcl _ (H.knlt (i:=0) .zero) (H.kn (i:=0) .zero)) H ?_;clear H hcl;intro q1 c1 w H;simp only[ca]at H))
 rw[HN.out]at H ⊢;obtain⟨q2,c2,e2,_,_,hq2⟩:=H.rowShape (i:=1) i_1;obtain⟨g,rfl⟩:=hq2 (by omega)
 simp only[Value.slice.injEq]at e2;obtain⟨rfl,_,rfl⟩:=e2
 go_wp2_with (first|((with_reducible refine gT ?_);refine zB6 wtd_ _ _ _ rfl rfl (v:=.int .i64 at_) evd_ H (j:=1) i_1 hlen (by with_reducible exact zAD zAF) rfl hs ?_;clear H;intro w H;simp only[sc]at H)|fail)
 go_ret;refine⟨?_,H.below⟩;rw[show (xs.map (Value.int .i64)).set slot (.int .i64 at_)=(xs.set slot (at_:Int)).map (.int .i64) by rw[List.map_set],← HS.out]at H
 obtain⟨F9,hF9,hI⟩:=H.rowInts (i:=1) i_1;exact⟨some ⟨g,0,none⟩,c1,F9,by rw[HS.out];rfl,hI,fun b h=>⟨(hF9 b h).2,(hF9 b h).1.elim id False.elim⟩⟩
end
end Go.Proofs.YtphjgfjbiimkjaaGreat
