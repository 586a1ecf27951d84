/-
  Laws of walks, and walks.
-/
import Derived.Test.YtdoflhjhaciepaaGreatVd4
import Derived.Test.YtdoflhjhaciepaaGreatVd3
set_option linter.unusedVariables false
set_option linter.unusedSimpArgs false
set_option maxRecDepth 100000
set_option maxHeartbeats 16000000
namespace Go.Proofs.YtdoflhjhaciepaaGreat
section
open Go.RowKit Go.Shelf
attribute [local go_sem] Oper.semAt_some
def UTo (L:List (Nat→Nat)) (b i:Nat) (S:Nat→Nat):Prop:=zAW S∧∀ c,c<256→hasB S c=((decide (c<b)&&L.any (fun t=>hasB t c)) || (decide (c=b)&&(L.take i).any (fun t=>hasB t c)))
theorem UTo.start (L:List (Nat→Nat)):UTo L 0 0 zAE:=⟨zAa,fun c _=>by simp[zF8]⟩
theorem UTo.hit {L:List (Nat→Nat)} {b i:Nat} {S:Nat→Nat} (h:UTo L b i S) (hi:i<L.length) (hb:hasB L[i] b=true):UTo L b (i+1) (addS S b) :=
 ⟨zEj h.1 b,fun c hc=>by
  rw[zI4,h.2 c hc,List.take_succ_eq_append_getElem hi,List.any_append]
  by_cases e:c=b
  ·subst e;simp[hb]
  ·simp[e]⟩
theorem UTo.miss {L:List (Nat→Nat)} {b i:Nat} {S:Nat→Nat} (h:UTo L b i S) (hi:i<L.length) (hb:hasB L[i] b=false):UTo L b (i+1) S :=
 ⟨h.1,fun c hc=>by
  rw[h.2 c hc,List.take_succ_eq_append_getElem hi,List.any_append]
  by_cases e:c=b
  ·subst e;simp[hb]
  ·simp[e]⟩
theorem UTo.next {L:List (Nat→Nat)} {b:Nat} {S:Nat→Nat} (h:UTo L b L.length S):UTo L (b+1) 0 S :=
 ⟨h.1,fun c hc=>by
  rw[h.2 c hc,List.take_length]
  by_cases e:c=b
  ·subst e;simp
  ·by_cases e2:c<b
   ·simp[e,e2,Nat.lt_succ_of_lt e2]
   ·simp[e,e2,show ¬ c<b+1 from by omega]⟩
theorem UTo.done {L:List (Nat→Nat)} {S:Nat→Nat} (hL:∀ t ∈ L,zAW t) (h:UTo L 256 0 S):setV S=setV (zBu L) :=
 zG5 h.1 (zBd hL) fun c hc=>by rw[h.2 c hc,zNe];simp[hc]
def MTo (L:List (Nat→Nat)) (b:Nat) (S:Nat→Nat):Prop:=zAW S∧∀ c,c<256→hasB S c=(decide (c<b)&&L.all (fun t=>hasB t c))
theorem MTo.start (L:List (Nat→Nat)):MTo L 0 zAE:=⟨zAa,fun c _=>by simp[zF8]⟩
theorem MTo.hit {L:List (Nat→Nat)} {b:Nat} {S:Nat→Nat} (h:MTo L b S) (hb:L.all (fun t=>hasB t b)=true):MTo L (b+1) (addS S b) :=
 ⟨zEj h.1 b,fun c hc=>by
  rw[zI4,h.2 c hc]
  by_cases e:c=b
  ·subst e;rw[hb];simp
  ·by_cases e2:c<b
   ·simp[e,e2,Nat.lt_succ_of_lt e2]
   ·simp[e,e2,show ¬ c<b+1 from by omega]⟩
theorem MTo.miss {L:List (Nat→Nat)} {b:Nat} {S:Nat→Nat} (h:MTo L b S) (hb:L.all (fun t=>hasB t b)=false):MTo L (b+1) S :=
 ⟨h.1,fun c hc=>by
  rw[h.2 c hc]
  by_cases e:c=b
  ·subst e;rw[hb];simp
  ·by_cases e2:c<b
   ·simp[e2,Nat.lt_succ_of_lt e2]
   ·simp[e2,show ¬ c<b+1 from by omega]⟩
theorem MTo.done {L:List (Nat→Nat)} {S:Nat→Nat} (hL:∀ t ∈ L,zAW t) (h:MTo L 256 S):setV S=setV (zKO L) :=
 zG5 h.1 (zLc hL) fun c hc=>by rw[h.2 c hc,zO2];simp[hc]
theorem zPS {L:List (Nat→Nat)} {b i:Nat} (hi:i<L.length):(L.take (i+1)).all (fun t=>hasB t b)=((L.take i).all (fun t=>hasB t b)&&hasB L[i] b):=by
 rw[List.take_succ_eq_append_getElem hi,List.all_append];simp
theorem zGi {ops:Array Oper} {o:Oper} {a:Act} {w:World} {x:Operand} {B off:Nat} {s:Nat→Nat} {D:Prop} (hg:Region.wanted o (yielded ops a.tmps)=true) (hop:o.op=Op.load 40 x)
  (hx:a.eval x=.pointer (some ⟨B,off,none⟩)) (hB:∀ k,k<4→w.cell? ⟨B,off+k,none⟩=some (.int .u64 (s k))) (hD:¬ D):zA7 Tryz.prog ops o a w (fun v _=>v=setV s∧(D→w.heap.size≤blk v)):=by
 have k0:=hB 0 (by omega);have k1:=hB 1 (by omega);have k2:=hB 2 (by omega);have k3:=hB 3 (by omega)
 rw[Nat.add_zero]at k0;refine zBr hg (v:=setV s) (w':=w) ?_ (Below.refl _ w) ⟨rfl,fun h=>(hD h).elim⟩
 unfold setV;simp only[execOp,hop,hx];simp[go_sem,k0,k1,k2,k3]
theorem zJC (lo hi:Nat) (hlo:lo≤255) (hhi:hi≤255) (w:World) :
  Calls Tryz.prog 134 #[.int .u8 lo,.int .u8 hi] w fun e w'=>e=.returned (setV (zAs lo (hi+1 - lo)))∧Below w.heap.size w w':=by
 have b1:SBox (w.alloc (.cells (setC zAE) 40)) w.heap.size 40 zAE:=SBox.new w _ _;have b2:SBox ((w.alloc (.cells (setC zAE) 40)).alloc (.cells (setC zAE) 40)) w.heap.size 40 zAE:=b1.alloc _;have e2:SBox ((w.alloc (.cells (setC zAE) 40)).alloc (.cells (setC zAE) 40)) (w.heap.size+1) 40 zAE:=by have:=SBox.new (w.alloc (.cells (setC zAE) 40)) 40 zAE;rwa [World.size_alloc]at this
 have bel:Below w.heap.size w ((w.alloc (.cells (setC zAE) 40)).alloc (.cells (setC zAE) 40)):=((Below.refl _ w).alloc (Nat.le_refl _) _).alloc (by simp) _
 clear b1
 go_enter Tryz.func134,Tryz.ntmps134
 go_wp2_with fail
 go_loopw [6] (fun i wr=>∃ m:Nat,m≤hi+1 - lo∧i=.int .i64 ((lo+m:Nat):Int)∧Hid (SBox wr (w.heap.size+1) 40 (zAs lo m)∧SBox wr w.heap.size 40 zAE∧Below w.heap.size w wr∧True)) (fun i _=>256 - (intOf i).toNat)
 case atStart=>exact⟨0,by omega,rfl,e2,b2,bel,trivial⟩
 case round =>
  clear e2 b2 bel;obtain⟨m,hm,rfl,H⟩:=hrel;obtain⟨n,hn⟩:∃ n,lo+m=n:=⟨_,rfl⟩;rw[hn];have HN:=Lib.hid hn;clear hn;have hn2:n≤hi+1∨n=lo:=by have:=HN.out;omega
  by_cases hlt:n≤hi
  ·have hnext:=zKk lo m;rw[HN.out]at hnext;have hS:zAW (zAs lo m):=zB3 _;have Hnext:=Lib.hid hnext;clear hnext;have HS:=Lib.hid hS;clear hS
   generalize zAs lo m=S at H Hnext HS
   go_upto_region 5 with fail
   refine ws_ 4 [fun v _=>v=setV S,fun v _=>v=.int .i64 (n:Int),fun v _=>v=.int .u8 (n:Int),fun v _=>v=setV (addS S n)] ?ob ?en
   case ob =>
    refine⟨?_,?_,?_,?_,trivial⟩<;>intro A W h
    ·exact zDC (s:=S) rfl rfl (h.f 5) (H.out.1.below h.below H.out.1.lt) (by decide)
    ·exact zAB rfl rfl (h.f 6)
    ·(have e16:A.eval (.tmp 16)=.int .i64 (n:Int):=h.d 1 16;refine zAA rfl ?_;simp only[execOp,e16];(simp[go_sem]<;>(rw[IntKind.wrap_u8];omega)))
    ·exact zAm rfl rfl (enters_of Tryz.func151 (by kernel_rfl) rfl) (zBz ⟨(h.d 0 15),(h.d 2 17)⟩) (zD7 S HS.out n (by omega) W)
   case en =>
    intro vals W hbw hv _;simp only[fa,Nat.reduceAdd];rw[e_ hv 0,e_ hv 1,e_ hv 2,e_ hv 3];clear hv
    try simp only[pl]
    have s1:=H.out.1.below hbw H.out.1.lt;have s2:=H.out.2.1.below hbw H.out.2.1.lt;have s3:=H.out.2.2.1.trans (hbw.mono H.out.2.2.1.size);have f0:=s1.frozen 0;have f1:=s1.frozen 1;have f2:=s1.frozen 2;have f3:=s1.frozen 3;have r0:=s1.cell (k:=0) (by omega);have r1:=s1.cell (k:=1) (by omega);have r2:=s1.cell (k:=2) (by omega);have r3:=s1.cell (k:=3) (by omega)
    have S1:=Lib.hid s1;clear s1;have S2:=Lib.hid s2;clear s2;have S3:=Lib.hid s3;clear s3;clear hbw;rw[show setV (addS S n)=.agg #[.int .u64 (addS S n 0),.int .u64 (addS S n 1),.int .u64 (addS S n 2),.int .u64 (addS S n 3)] from rfl]
    go_wp2_with fail
    have T1:=Lib.hid (S1.out.set4 (addS S n));have T2:=Lib.hid ((((S2.out.other (B':=w.heap.size+1) (by omega) 0 (.int .u64 (addS S n 0))).other (B':=w.heap.size+1) (by omega) 1 (.int .u64 (addS S n 1))).other (B':=w.heap.size+1) (by omega) 2 (.int .u64 (addS S n 2))).other (B':=w.heap.size+1) (by omega) 3 (.int .u64 (addS S n 3)))
    have T3:=Lib.hid (zBq S3.out (B:=w.heap.size+1) (by omega) (.int .u64 (addS S n 0)) (.int .u64 (addS S n 1)) (.int .u64 (addS S n 2)) (.int .u64 (addS S n 3)))
    go_roundw
    case rel=>exact⟨m+1,by have:=HN.out;omega,by have:=HN.out;go_num,by rw[Hnext.out];exact T1.out,T2.out,T3.out,trivial⟩
    case measure=>simp[intOf];omega
  ·have hm2:m=hi+1 - lo:=by have:=HN.out;omega
   subst hm2;have ⟨s1,s2,s3,_⟩:=H.out;clear H;have f0:=s2.frozen 0;have f1:=s2.frozen 1;have f2:=s2.frozen 2;have f3:=s2.frozen 3;have r0:=s2.cell (k:=0) (by omega);have r1:=s2.cell (k:=1) (by omega);have r2:=s2.cell (k:=2) (by omega);have r3:=s2.cell (k:=3) (by omega)
   have c0:=s1.cell (k:=0) (by omega);have c1:=s1.cell (k:=1) (by omega);have c2:=s1.cell (k:=2) (by omega);have c3:=s1.cell (k:=3) (by omega)
   clear s1;have S2:=Lib.hid s2;clear s2;have S3:=Lib.hid s3;clear s3
   go_wp2
   have b4:=S2.out.set4 (zAs lo (hi+1 - lo));have g0:=b4.cell (k:=0) (by omega);have g1:=b4.cell (k:=1) (by omega);have g2:=b4.cell (k:=2) (by omega);have g3:=b4.cell (k:=3) (by omega)
   exact bodyPost_ret (v:=setV (zAs lo (hi+1 - lo))) (by unfold setV;simp[results,Tryz.results134,go_sem,g0,g1,g2,g3]) rfl ⟨rfl,zBq S3.out (by omega) _ _ _ _⟩
theorem zN3 (v:Value) (L:List (Nat→Nat)) (hL:∀ t ∈ L,zAW t) (w:World) (h:RdS w w.heap.size v L) :
  Calls Tryz.prog 161 #[v] w fun e w'=>e=.returned (setV (zBu L))∧Below w.heap.size w w':=by
 have b1:SBox (w.alloc (.cells (setC zAE) 40)) w.heap.size 40 zAE:=SBox.new w _ _;have b2:SBox ((w.alloc (.cells (setC zAE) 40)).alloc (.cells (setC zAE) 40)) w.heap.size 40 zAE:=b1.alloc _;have e2:SBox ((w.alloc (.cells (setC zAE) 40)).alloc (.cells (setC zAE) 40)) (w.heap.size+1) 40 zAE:=by have:=SBox.new (w.alloc (.cells (setC zAE) 40)) 40 zAE;rwa [World.size_alloc]at this
 have bel:Below w.heap.size w ((w.alloc (.cells (setC zAE) 40)).alloc (.cells (setC zAE) 40)):=((Below.refl _ w).alloc (Nat.le_refl _) _).alloc (by simp) _
 clear b1;have hl:L.length≤9223372036854775807:=by
  rcases h with ⟨_,rfl⟩|⟨b,off,cap,_,_,h1,h2,_⟩
  ·simp
  ·unfold maxLen at h2;omega
 obtain⟨p,cap,rfl⟩:∃ p cap,v=.slice p L.length cap:=by rcases h with ⟨⟨q,h⟩,rfl⟩|⟨b,off,cap,h,_⟩<;>exact⟨_,_,h⟩
 have H:=Lib.hid h;clear h;have HL:=Lib.hid hL;clear hL
 go_enter Tryz.func161,Tryz.ntmps161
 go_wp2_with fail
 go_loopw [4,5] (fun n _ wr=>∃ k:Nat,k≤256∧n=.int .i64 k∧Hid (∃ S,SBox wr (w.heap.size+1) 40 S∧SBox wr w.heap.size 40 zAE∧Below w.heap.size w wr∧UTo L k 0 S)) (fun n _ _=>256 - (intOf n).toNat)
 case atStart=>exact⟨0,by omega,rfl,_,e2,b2,bel,UTo.start L⟩
 case round =>
  clear e2 b2 bel;obtain⟨n,hn,rfl,G⟩:=hrel
  by_cases hlt:n<256
  ·obtain⟨wo,rfl⟩:∃ wo:World,wo=wr:=⟨_,rfl⟩
   go_wp2_with fail
   go_loopw [5] (fun i wr=>∃ k:Nat,k≤L.length∧i=.int .i64 k∧Hid (∃ S,SBox wr (w.heap.size+1) 40 S∧SBox wr w.heap.size 40 zAE∧Below w.heap.size w wr∧UTo L n k S)) (fun i _=>L.length - (intOf i).toNat)
   case atStart=>exact⟨0,by omega,rfl,G.out⟩
   case round =>
    clear G;obtain⟨i,hi,rfl,G⟩:=hrel
    by_cases hil:i<L.length
    ·obtain⟨b0,off,rfl,hb0,hcell⟩:∃ b0 off,p=some ⟨b0,off,none⟩∧b0<w.heap.size∧∀ k,k<4→w.cell? ⟨b0,off+i * 4+k,none⟩=some (.int .u64 (L[i] k)):=by
      rcases H.out with ⟨⟨q,h⟩,h'⟩|⟨b,off,cap,h,h1,_,_,h4⟩
      ·subst h';simp at hil
      ·injection h with h2 _ _;exact⟨b,off,h2,h1,fun k hk=>h4 i hil k hk⟩
     obtain⟨S,G⟩:∃ S,Hid (SBox wr (w.heap.size+1) 40 S∧SBox wr w.heap.size 40 zAE∧Below w.heap.size w wr∧UTo L n i S):=by obtain⟨S,h⟩:=G.out;exact⟨S,h⟩
     have hOk:=HL.out L[i] (List.getElem_mem hil);have hHit:=fun h:hasB L[i] n=true=>G.out.2.2.2.hit hil h
     have hMiss:=fun h:hasB L[i] n=false=>G.out.2.2.2.miss hil h
     have HOK:=Lib.hid hOk;clear hOk;have HHit:=Lib.hid hHit;clear hHit;have HMiss:=Lib.hid hMiss;clear hMiss;have HC:=Lib.hid hcell;clear hcell
     generalize L[i]=t at HOK HHit HMiss HC
     go_upto_region 8 with fail
     refine ws_ 7 [fun v _=>v=.slice (some ⟨b0,off,none⟩) L.length cap,fun v _=>v=.int .i64 (i:Int),fun v _=>v=.pointer (some ⟨b0,off+i * 4,none⟩),fun v _=>v=setV t,fun v _=>v=.int .i64 (n:Int),fun v _=>v=.int .u8 (n:Int),fun v _=>v=.bool (hasB t n)] ?ob ?en
     case ob =>
      refine⟨?_,?_,?_,?_,?_,?_,?_,trivial⟩<;>intro A W h
      ·exact zAB rfl rfl (h.f 0)
      ·exact zAB rfl rfl (h.f 5)
      ·exact zAo (sz:=4) Tryz.underlying282 (fun w=>by kernel_rfl) rfl rfl (h.d 0 16) (h.d 1 17) (by omega) (by omega)
      ·exact zGi rfl rfl (h.d 2 18) (fun k hk=>((G.out.2.2.1.trans (h.below.mono G.out.2.2.1.size)).cell (p:=⟨b0,off+i * 4+k,none⟩) hb0).trans (HC.out k hk)) (by decide)
      ·exact zAB rfl rfl (h.f 4)
      ·(have e20:A.eval (.tmp 20)=.int .i64 (n:Int):=h.d 4 20;refine zAA rfl ?_;simp only[execOp,e20];(simp[go_sem]<;>(rw[IntKind.wrap_u8];omega)))
      ·exact zAm rfl rfl (enters_of Tryz.func78 (by kernel_rfl) rfl) (zBz ⟨(h.d 3 19),(h.d 5 21)⟩) (zD9 t HOK.out n (by omega) W)
     case en =>
      intro vals W hbw hv _;simp only[fa,Nat.reduceAdd];rw[e_ hv 0,e_ hv 1,e_ hv 2,e_ hv 3,e_ hv 4,e_ hv 5,e_ hv 6];clear hv
      try simp only[pl]
      have G9:Hid (SBox W (w.heap.size+1) 40 S∧SBox W w.heap.size 40 zAE∧Below w.heap.size w W∧UTo L n i S):=⟨G.out.1.below hbw G.out.1.lt,G.out.2.1.below hbw G.out.2.1.lt,G.out.2.2.1.trans (hbw.mono G.out.2.2.1.size),G.out.2.2.2⟩;clear G hbw
      cases hb:hasB t n with
      | false =>
       have U:=Lib.hid (HMiss.out hb);clear hb
       go_wp2_with fail
       go_roundw
       case rel=>exact⟨i+1,by omega,by go_num,S,G9.out.1,G9.out.2.1,G9.out.2.2.1,U.out⟩
       case measure=>simp[intOf];omega
      | true =>
       have U:=Lib.hid (HHit.out hb);clear hb
       go_upto_region 9 with fail
       refine ws_ 4 [fun v _=>v=setV S,fun v _=>v=.int .i64 (n:Int),fun v _=>v=.int .u8 (n:Int),fun v _=>v=setV (addS S n)] ?ob ?en
       case ob =>
        refine⟨?_,?_,?_,?_,trivial⟩<;>intro A W h
        ·exact zDC (s:=S) rfl rfl (h.f 3) (G9.out.1.below h.below G9.out.1.lt) (by decide)
        ·exact zAB rfl rfl (h.f 4)
        ·(have e24:A.eval (.tmp 24)=.int .i64 (n:Int):=h.d 1 24;refine zAA rfl ?_;simp only[execOp,e24];(simp[go_sem]<;>(rw[IntKind.wrap_u8];omega)))
        ·exact zAm rfl rfl (enters_of Tryz.func151 (by kernel_rfl) rfl) (zBz ⟨(h.d 0 23),(h.d 2 25)⟩) (zD7 S G9.out.2.2.2.1 n (by omega) W)
       case en =>
        intro vals W hbw hv _;simp only[fa,Nat.reduceAdd];rw[e_ hv 0,e_ hv 1,e_ hv 2,e_ hv 3];clear hv
        try simp only[pl]
        have s1:=G9.out.1.below hbw G9.out.1.lt;have s2:=G9.out.2.1.below hbw G9.out.2.1.lt;have s3:=G9.out.2.2.1.trans (hbw.mono G9.out.2.2.1.size);have f0:=s1.frozen 0;have f1:=s1.frozen 1;have f2:=s1.frozen 2;have f3:=s1.frozen 3;have r0:=s1.cell (k:=0) (by omega);have r1:=s1.cell (k:=1) (by omega);have r2:=s1.cell (k:=2) (by omega);have r3:=s1.cell (k:=3) (by omega)
        have S1:=Lib.hid s1;clear s1;have S2:=Lib.hid s2;clear s2;have S3:=Lib.hid s3;clear s3;clear hbw;rw[show setV (addS S n)=.agg #[.int .u64 (addS S n 0),.int .u64 (addS S n 1),.int .u64 (addS S n 2),.int .u64 (addS S n 3)] from rfl]
        go_wp2_with fail
        have T1:=Lib.hid (S1.out.set4 (addS S n));have T2:=Lib.hid ((((S2.out.other (B':=w.heap.size+1) (by omega) 0 (.int .u64 (addS S n 0))).other (B':=w.heap.size+1) (by omega) 1 (.int .u64 (addS S n 1))).other (B':=w.heap.size+1) (by omega) 2 (.int .u64 (addS S n 2))).other (B':=w.heap.size+1) (by omega) 3 (.int .u64 (addS S n 3)))
        have T3:=Lib.hid (zBq S3.out (B:=w.heap.size+1) (by omega) (.int .u64 (addS S n 0)) (.int .u64 (addS S n 1)) (.int .u64 (addS S n 2)) (.int .u64 (addS S n 3)))
        go_roundw
        case rel=>exact⟨i+1,by omega,by go_num,addS S n,T1.out,T2.out,T3.out,U.out⟩
        case measure=>simp[intOf];omega
    ·obtain rfl:i=L.length:=by omega
     go_wp2_with fail
     go_roundw
     case rel=>obtain⟨S,g1,g2,g3,g4⟩:=G.out;exact⟨n+1,by omega,by go_num,S,g1,g2,g3,g4.next⟩
     case measure=>simp[intOf];omega
  ·obtain rfl:n=256:=by omega
   obtain⟨S,s1,s2,s3,hu⟩:=G.out;have HU:=Lib.hid (hu.done HL.out);clear hu G;have f0:=s2.frozen 0;have f1:=s2.frozen 1;have f2:=s2.frozen 2;have f3:=s2.frozen 3;have r0:=s2.cell (k:=0) (by omega);have r1:=s2.cell (k:=1) (by omega);have r2:=s2.cell (k:=2) (by omega);have r3:=s2.cell (k:=3) (by omega)
   have c0:=s1.cell (k:=0) (by omega);have c1:=s1.cell (k:=1) (by omega);have c2:=s1.cell (k:=2) (by omega);have c3:=s1.cell (k:=3) (by omega)
   clear s1;have S2:=Lib.hid s2;clear s2;have S3:=Lib.hid s3;clear s3
   go_wp2
   have b4:=S2.out.set4 (S);have g0:=b4.cell (k:=0) (by omega);have g1:=b4.cell (k:=1) (by omega);have g2:=b4.cell (k:=2) (by omega);have g3:=b4.cell (k:=3) (by omega)
   exact bodyPost_ret (v:=setV (S)) (by unfold setV;simp[results,Tryz.results161,go_sem,g0,g1,g2,g3]) rfl ⟨by rw[HU.out],zBq S3.out (by omega) _ _ _ _⟩
theorem zLV (v:Value) (L:List (Nat→Nat)) (hL:∀ t ∈ L,zAW t) (w:World) (h:RdS w w.heap.size v L) :
  Calls Tryz.prog 163 #[v] w fun e w'=>e=.returned (setV (zKO L))∧Below w.heap.size w w':=by
 have b1:SBox (w.alloc (.cells (setC zAE) 40)) w.heap.size 40 zAE:=SBox.new w _ _;have b2:SBox ((w.alloc (.cells (setC zAE) 40)).alloc (.cells (setC zAE) 40)) w.heap.size 40 zAE:=b1.alloc _;have e2:SBox ((w.alloc (.cells (setC zAE) 40)).alloc (.cells (setC zAE) 40)) (w.heap.size+1) 40 zAE:=by have:=SBox.new (w.alloc (.cells (setC zAE) 40)) 40 zAE;rwa [World.size_alloc]at this
 have bel:Below w.heap.size w ((w.alloc (.cells (setC zAE) 40)).alloc (.cells (setC zAE) 40)):=((Below.refl _ w).alloc (Nat.le_refl _) _).alloc (by simp) _
 clear b1;have hl:L.length≤9223372036854775807:=by
  rcases h with ⟨_,rfl⟩|⟨b,off,cap,_,_,h1,h2,_⟩
  ·simp
  ·unfold maxLen at h2;omega
 obtain⟨p,cap,rfl⟩:∃ p cap,v=.slice p L.length cap:=by rcases h with ⟨⟨q,h⟩,rfl⟩|⟨b,off,cap,h,_⟩<;>exact⟨_,_,h⟩
 have H:=Lib.hid h;clear h;have HL:=Lib.hid hL;clear hL
 go_enter Tryz.func163,Tryz.ntmps163
 go_wp2_with fail
 go_loopw [4,5,6] (fun n _ _ wr=>∃ k:Nat,k≤256∧n=.int .i64 k∧Hid (∃ S,SBox wr (w.heap.size+1) 40 S∧SBox wr w.heap.size 40 zAE∧Below w.heap.size w wr∧MTo L k S)) (fun n _ _ _=>256 - (intOf n).toNat)
 case atStart=>exact⟨0,by omega,rfl,_,e2,b2,bel,MTo.start L⟩
 case round =>
  clear e2 b2 bel;obtain⟨n,hn,rfl,G⟩:=hrel
  by_cases hlt:n<256
  ·obtain⟨wo,rfl⟩:∃ wo:World,wo=wr:=⟨_,rfl⟩;obtain⟨S,G⟩:∃ S,Hid (SBox wo (w.heap.size+1) 40 S∧SBox wo w.heap.size 40 zAE∧Below w.heap.size w wo∧MTo L n S):=by obtain⟨S,h⟩:=G.out;exact⟨S,h⟩
   go_wp2_with fail
   go_loopw [5,6] (fun a i wr=>∃ k:Nat,k≤L.length∧i=.int .i64 k∧a=.bool ((L.take k).all (fun t=>hasB t n))∧Hid (SBox wr (w.heap.size+1) 40 S∧SBox wr w.heap.size 40 zAE∧Below w.heap.size w wr∧MTo L n S)) (fun _ i _=>L.length - (intOf i).toNat)
   case atStart=>exact⟨0,by omega,rfl,by simp,G.out⟩
   case round =>
    clear G;obtain⟨i,hi,rfl,rfl,G⟩:=hrel
    by_cases hil:i<L.length
    ·obtain⟨b0,off,rfl,hb0,hcell⟩:∃ b0 off,p=some ⟨b0,off,none⟩∧b0<w.heap.size∧∀ k,k<4→w.cell? ⟨b0,off+i * 4+k,none⟩=some (.int .u64 (L[i] k)):=by
      rcases H.out with ⟨⟨q,h⟩,h'⟩|⟨b,off,cap,h,h1,_,_,h4⟩
      ·subst h';simp at hil
      ·injection h with h2 _ _;exact⟨b,off,h2,h1,fun k hk=>h4 i hil k hk⟩
     have hOk:=HL.out L[i] (List.getElem_mem hil);have HOK:=Lib.hid hOk;clear hOk;have HA:=Lib.hid (zPS (b:=n) hil);have HC:=Lib.hid hcell;clear hcell
     generalize L[i]=t at HOK HA HC
     generalize (L.take i).all (fun t=>hasB t n)=fl at HA
     cases fl with
     | true =>
      have HA':=Lib.hid (HA.out.trans (Bool.true_and _));clear HA
      go_upto_region 9 with fail
      refine ws_ 10 [fun v _=>v=.bool true,fun v _=>v=.bool true,fun v _=>v=.slice (some ⟨b0,off,none⟩) L.length cap,fun v _=>v=.int .i64 (i:Int),fun v _=>v=.pointer (some ⟨b0,off+i * 4,none⟩),fun v _=>v=setV t,fun v _=>v=.int .i64 (n:Int),fun v _=>v=.int .u8 (n:Int),fun v _=>v=.bool (hasB t n),fun v _=>v=.bool (hasB t n)] ?ob ?en
      case ob =>
       refine⟨?_,?_,?_,?_,?_,?_,?_,?_,?_,?_,trivial⟩<;>intro A W h
       ·exact zAB rfl rfl (h.f 5)
       ·exact zAB rfl rfl (h.d 0 17)
       ·exact zAB (wg (h.d 1 18)) rfl (h.f 0)
       ·exact zAB (wg (h.d 1 18)) rfl (h.f 6)
       ·exact zAo (sz:=4) Tryz.underlying282 (fun w=>by kernel_rfl) (wg (h.d 1 18)) rfl (h.d 2 19) (h.d 3 20) (by omega) (by omega)
       ·exact zGi (wg (h.d 1 18)) rfl (h.d 4 21) (fun k hk=>((G.out.2.2.1.trans (h.below.mono G.out.2.2.1.size)).cell (p:=⟨b0,off+i * 4+k,none⟩) hb0).trans (HC.out k hk)) (by decide)
       ·exact zAB (wg (h.d 1 18)) rfl (h.f 4)
       ·(have e23:A.eval (.tmp 23)=.int .i64 (n:Int):=h.d 6 23;refine zAA (wg (h.d 1 18)) ?_;simp only[execOp,e23];(simp[go_sem]<;>(rw[IntKind.wrap_u8];omega)))
       ·exact zAm (wg (h.d 1 18)) rfl (enters_of Tryz.func78 (by kernel_rfl) rfl) (zBz ⟨(h.d 5 22),(h.d 7 24)⟩) (zD9 t HOK.out n (by omega) W)
       ·exact zA8 rfl rfl (h.d 1 18) (h.d 8 25)
      case en =>
       intro vals W hbw hv _;simp only[fa,Nat.reduceAdd];rw[e_ hv 0,e_ hv 1,e_ hv 2,e_ hv 3,e_ hv 4,e_ hv 5,e_ hv 6,e_ hv 7,e_ hv 8,e_ hv 9];clear hv
       try simp only[pl]
       have G9:Hid (SBox W (w.heap.size+1) 40 S∧SBox W w.heap.size 40 zAE∧Below w.heap.size w W∧MTo L n S):=⟨G.out.1.below hbw G.out.1.lt,G.out.2.1.below hbw G.out.2.1.lt,G.out.2.2.1.trans (hbw.mono G.out.2.2.1.size),G.out.2.2.2⟩;clear G hbw
       go_wp2_with fail
       go_roundw
       case rel=>exact⟨i+1,by omega,by go_num,by rw[HA'.out],G9.out⟩
       case measure=>simp[intOf];omega
     | false =>
      have HA':=Lib.hid (HA.out.trans (Bool.false_and _));clear HA
      go_upto_region 9 with fail
      refine ws_ 10 [fun v _=>v=.bool false,fun v _=>v=.bool false,fun v _=>v=undef,fun v _=>v=undef,fun v _=>v=undef,fun v _=>v=undef,fun v _=>v=undef,fun v _=>v=undef,fun v _=>v=undef,fun v _=>v=Value.bool false] ?ob ?en
      case ob =>
       refine⟨?_,?_,?_,?_,?_,?_,?_,?_,?_,?_,trivial⟩<;>intro A W h
       ·exact zAB rfl rfl (h.f 5)
       ·exact zAB rfl rfl (h.d 0 17)
       ·exact rsk (h.d 1 18)
       ·exact rsk (h.d 1 18)
       ·exact rsk (h.d 1 18)
       ·exact rsk (h.d 1 18)
       ·exact rsk (h.d 1 18)
       ·exact rsk (h.d 1 18)
       ·exact rsk (h.d 1 18)
       ·exact zA8 rfl rfl (h.d 1 18) (rfl)
      case en =>
       intro vals W hbw hv _;simp only[fa,Nat.reduceAdd];rw[e_ hv 0,e_ hv 1,e_ hv 2,e_ hv 3,e_ hv 4,e_ hv 5,e_ hv 6,e_ hv 7,e_ hv 8,e_ hv 9];clear hv
       try simp only[pl]
       have G9:Hid (SBox W (w.heap.size+1) 40 S∧SBox W w.heap.size 40 zAE∧Below w.heap.size w W∧MTo L n S):=⟨G.out.1.below hbw G.out.1.lt,G.out.2.1.below hbw G.out.2.1.lt,G.out.2.2.1.trans (hbw.mono G.out.2.2.1.size),G.out.2.2.2⟩;clear G hbw
       go_wp2_with fail
       go_roundw
       case rel=>exact⟨i+1,by omega,by go_num,by rw[HA'.out],G9.out⟩
       case measure=>simp[intOf];omega
    ·obtain rfl:i=L.length:=by omega
     rw[List.take_length]
     cases hb:L.all (fun t=>hasB t n) with
     | false =>
      have U:=Lib.hid (G.out.2.2.2.miss hb);clear hb
      go_wp2_with fail
      go_roundw
      case rel=>exact⟨n+1,by omega,by go_num,S,G.out.1,G.out.2.1,G.out.2.2.1,U.out⟩
      case measure=>simp[intOf];omega
     | true =>
      have U:=Lib.hid (G.out.2.2.2.hit hb);clear hb
      go_upto_region 11 with fail
      refine ws_ 4 [fun v _=>v=setV S,fun v _=>v=.int .i64 (n:Int),fun v _=>v=.int .u8 (n:Int),fun v _=>v=setV (addS S n)] ?ob ?en
      case ob =>
       refine⟨?_,?_,?_,?_,trivial⟩<;>intro A W h
       ·exact zDC (s:=S) rfl rfl (h.f 3) (G.out.1.below h.below G.out.1.lt) (by decide)
       ·exact zAB rfl rfl (h.f 4)
       ·(have e29:A.eval (.tmp 29)=.int .i64 (n:Int):=h.d 1 29;refine zAA rfl ?_;simp only[execOp,e29];(simp[go_sem]<;>(rw[IntKind.wrap_u8];omega)))
       ·exact zAm rfl rfl (enters_of Tryz.func151 (by kernel_rfl) rfl) (zBz ⟨(h.d 0 28),(h.d 2 30)⟩) (zD7 S G.out.2.2.2.1 n (by omega) W)
      case en =>
       intro vals W hbw hv _;simp only[fa,Nat.reduceAdd];rw[e_ hv 0,e_ hv 1,e_ hv 2,e_ hv 3];clear hv
       try simp only[pl]
       have s1:=G.out.1.below hbw G.out.1.lt;have s2:=G.out.2.1.below hbw G.out.2.1.lt;have s3:=G.out.2.2.1.trans (hbw.mono G.out.2.2.1.size);have f0:=s1.frozen 0;have f1:=s1.frozen 1;have f2:=s1.frozen 2;have f3:=s1.frozen 3;have r0:=s1.cell (k:=0) (by omega);have r1:=s1.cell (k:=1) (by omega);have r2:=s1.cell (k:=2) (by omega);have r3:=s1.cell (k:=3) (by omega)
       have S1:=Lib.hid s1;clear s1;have S2:=Lib.hid s2;clear s2;have S3:=Lib.hid s3;clear s3;clear hbw;rw[show setV (addS S n)=.agg #[.int .u64 (addS S n 0),.int .u64 (addS S n 1),.int .u64 (addS S n 2),.int .u64 (addS S n 3)] from rfl]
       go_wp2_with fail
       have T1:=Lib.hid (S1.out.set4 (addS S n));have T2:=Lib.hid ((((S2.out.other (B':=w.heap.size+1) (by omega) 0 (.int .u64 (addS S n 0))).other (B':=w.heap.size+1) (by omega) 1 (.int .u64 (addS S n 1))).other (B':=w.heap.size+1) (by omega) 2 (.int .u64 (addS S n 2))).other (B':=w.heap.size+1) (by omega) 3 (.int .u64 (addS S n 3)))
       have T3:=Lib.hid (zBq S3.out (B:=w.heap.size+1) (by omega) (.int .u64 (addS S n 0)) (.int .u64 (addS S n 1)) (.int .u64 (addS S n 2)) (.int .u64 (addS S n 3)))
       go_roundw
       case rel=>exact⟨n+1,by omega,by go_num,addS S n,T1.out,T2.out,T3.out,U.out⟩
       case measure=>simp[intOf];omega
  ·obtain rfl:n=256:=by omega
   obtain⟨S,s1,s2,s3,hu⟩:=G.out;have HU:=Lib.hid (hu.done HL.out);clear hu G;have f0:=s2.frozen 0;have f1:=s2.frozen 1;have f2:=s2.frozen 2;have f3:=s2.frozen 3;have r0:=s2.cell (k:=0) (by omega);have r1:=s2.cell (k:=1) (by omega);have r2:=s2.cell (k:=2) (by omega);have r3:=s2.cell (k:=3) (by omega)
   have c0:=s1.cell (k:=0) (by omega);have c1:=s1.cell (k:=1) (by omega);have c2:=s1.cell (k:=2) (by omega);have c3:=s1.cell (k:=3) (by omega)
   clear s1;have S2:=Lib.hid s2;clear s2;have S3:=Lib.hid s3;clear s3
   go_wp2
   have b4:=S2.out.set4 (S);have g0:=b4.cell (k:=0) (by omega);have g1:=b4.cell (k:=1) (by omega);have g2:=b4.cell (k:=2) (by omega);have g3:=b4.cell (k:=3) (by omega)
   exact bodyPost_ret (v:=setV (S)) (by unfold setV;simp[results,Tryz.results163,go_sem,g0,g1,g2,g3]) rfl ⟨by rw[HU.out],zBq S3.out (by omega) _ _ _ _⟩
def optI:Option Nat→Int
 | some n=>n
 | none => -1
theorem zMi (c:Nat) (hc:c<256) (w0:World):Calls Tryz.prog 157 #[.int .u8 c] w0 (Rt (.int .i64 (optI (hexP c))) w0):=by
 go_enter Tryz.func157,Tryz.ntmps157
 go_wp2
 all_goals
  go_ret;refine⟨reti ?_,Below.refl _ _⟩;unfold hexP
  (repeat' split)<;>simp only[optI]<;>omega
theorem zCR (lo hi:Nat) (hlo:lo≤255) (hhi:hi≤255) (w0:World):Calls Tryz.prog 160 #[.int .u8 lo,.int .u8 hi] w0 (Rt (setV (zAs lo (hi+1 - lo))) w0):=by
 have H:=Hold.start w0
 go_enter Tryz.func160,Tryz.ntmps160
 go_wp2_with (first|(first|((with_reducible refine gT ?_);(refine aS H ?_;clear H;intro w H;try simp only[nr]at H))|((with_reducible refine gA ?_);(refine bA H ?_;clear H;intro b w H;try simp only[nr]at H)))|((with_reducible refine ch (zJC lo hi hlo hhi _) H ?_);clear H;intro w H))
 (refine xcS Tryz.results160 H ?_)
 exact⟨rfl,H.below⟩
theorem zER (c:Nat) (hc:c<256) (w0:World):Calls Tryz.prog 130 #[.int .u8 c] w0 (Rt (setV (ofS [(c:Int)])) w0):=by
 have H:=Hold.start w0
 go_enter Tryz.func130,Tryz.ntmps130
 go_wp2_with (first|(first|((with_reducible refine gT ?_);(refine aS H ?_;clear H;intro w H;try simp only[nr]at H))|((with_reducible refine gA ?_);(refine bA H ?_;clear H;intro b w H;try simp only[nr]at H)))|((with_reducible refine gBS ?_);refine zAL wtd_ _ _ _ rfl H (#[.int .u8 c]) 5 (by intro W;simp only[ml];(try simp only[pe]);(try unfold setV);simp[go_sem]<;>rfl) ?_;clear H;intro b w H;try simp only[nr]at H)|((with_reducible refine ch (zLL _ [(c:Int)] (by simp;omega) _ (H.rdn (cs:=[.int .u8 c]) atd_ (by simp) (by simp[maxLen]))) H ?_);clear H;intro w H))
 (refine xcS Tryz.results130 H ?_)
 exact⟨rfl,H.below⟩
theorem zPO (w0:World):Calls Tryz.prog 160 #[.int .u8 0,.int .u8 127] w0 (Rt (setV (zAs 0 128)) w0):=zCR 0 127 (by omega) (by omega) w0
theorem zQJ (w0:World):Calls Tryz.prog 160 #[.int .u8 0,.int .u8 31] w0 (Rt (setV (zAs 0 32)) w0):=zCR 0 31 (by omega) (by omega) w0
theorem zJb (w0:World):Calls Tryz.prog 160 #[.int .u8 33,.int .u8 126] w0 (Rt (setV zEN) w0):=zCR 33 126 (by omega) (by omega) w0
theorem zJX (w0:World):Calls Tryz.prog 160 #[.int .u8 97,.int .u8 122] w0 (Rt (setV zFI) w0):=zCR 97 122 (by omega) (by omega) w0
theorem zOV (w0:World):Calls Tryz.prog 160 #[.int .u8 32,.int .u8 126] w0 (Rt (setV (zAs 32 95)) w0):=zCR 32 126 (by omega) (by omega) w0
theorem zQv (w0:World):Calls Tryz.prog 160 #[.int .u8 9,.int .u8 13] w0 (Rt (setV (zAs 9 5)) w0):=zCR 9 13 (by omega) (by omega) w0
theorem zLQ (w0:World):Calls Tryz.prog 160 #[.int .u8 65,.int .u8 90] w0 (Rt (setV zFH) w0):=zCR 65 90 (by omega) (by omega) w0
theorem zOG (w0:World):Calls Tryz.prog 160 #[.int .u8 97,.int .u8 102] w0 (Rt (setV (zAs 97 6)) w0):=zCR 97 102 (by omega) (by omega) w0
theorem zPU (w0:World):Calls Tryz.prog 160 #[.int .u8 65,.int .u8 70] w0 (Rt (setV (zAs 65 6)) w0):=zCR 65 70 (by omega) (by omega) w0
theorem zOi (w0:World):Calls Tryz.prog 160 #[.int .u8 48,.int .u8 57] w0 (Rt (setV zB8) w0):=zCR 48 57 (by omega) (by omega) w0
theorem zRp (w0:World):Calls Tryz.prog 130 #[.int .u8 127] w0 (Rt (setV (ofS [127])) w0):=zER 127 (by omega) w0
theorem zSV (w0:World):Calls Tryz.prog 130 #[.int .u8 32] w0 (Rt (setV (ofS [32])) w0):=zER 32 (by omega) w0
theorem zRc (w0:World):Calls Tryz.prog 130 #[.int .u8 95] w0 (Rt (setV (ofS [95])) w0):=zER 95 (by omega) w0
theorem zCa (v:Value) (L:List (Nat→Nat)) (hL:∀ t ∈ L,zAW t) (w0:World) (h:RdS w0 w0.heap.size v L):Calls Tryz.prog 149 #[v] w0 (Rt (setV (zBu L)) w0):=by
 have H:=Hold.start w0
 go_enter Tryz.func149,Tryz.ntmps149
 go_wp2_with (first|(first|((with_reducible refine gT ?_);(refine aS H ?_;clear H;intro w H;try simp only[nr]at H))|((with_reducible refine gA ?_);(refine bA H ?_;clear H;intro b w H;try simp only[nr]at H)))|((with_reducible refine ch (zN3 _ L hL _ ((h.below H.below).up H.below.size)) H ?_);clear H;intro w H))
 (refine xcS Tryz.results149 H ?_)
 exact⟨rfl,H.below⟩
theorem zHq (w0:World):Calls Tryz.prog 156 #[] w0 (Rt (setV zB8) w0):=by
 have H:=Hold.start w0
 go_enter Tryz.func156,Tryz.ntmps156
 go_wp2_with (first|(first|((with_reducible refine gT ?_);(refine aS H ?_;clear H;intro w H;try simp only[nr]at H))|((with_reducible refine gA ?_);(refine bA H ?_;clear H;intro b w H;try simp only[nr]at H)))|((with_reducible refine ch (zOi _) H ?_);clear H;intro w H))
 (refine xcS Tryz.results156 H ?_)
 exact⟨rfl,H.below⟩
def zCN:Nat→Nat:=zBu [zFI,zFH]
theorem zKP:zAW zCN:=zBd (ok2 zEk zEa)
theorem zKm (w0:World):Calls Tryz.prog 162 #[] w0 (Rt (setV zCN) w0):=by
 have H:=Hold.start w0
 go_enter Tryz.func162,Tryz.ntmps162
 go_wp2_with (first|(first|((with_reducible refine gT ?_);(refine aS H ?_;clear H;intro w H;try simp only[nr]at H))|((with_reducible refine gA ?_);(refine bA H ?_;clear H;intro b w H;try simp only[nr]at H)))|((with_reducible refine gBS ?_);refine zAL wtd_ _ _ _ rfl H (rowC [zFI,zFH]).toArray 40 (by intro W;simp only[ml];(try simp only[pe]);(with_reducible exact zB9 (zFI) (zFH) W)) ?_;clear H;intro b w H;try simp only[nr]at H)|((with_reducible first|refine ch (zCa _ [zFI,zFH] (ok2 zEk zEa) _ (H.rdsn (L:=[zFI,zFH]) atd_ (by simp) (by simp[maxLen]))) H ?_|refine ch (zJX _) H ?_|refine ch (zLQ _) H ?_);clear H;intro w H))
 (refine xcS Tryz.results162 H ?_)
 exact⟨rfl,H.below⟩
theorem zPz {s t:Nat→Nat} (h0:s 0=t 0) (h1:s 1=t 1) (h2:s 2=t 2) (h3:s 3=t 3):setV s=setV t:=by unfold setV;rw[h0,h1,h2,h3]
theorem zPy:setV (zBu [zB8,zCN])=setV zBP:=zPz (by decide +kernel) (by decide +kernel) (by decide +kernel) (by decide +kernel)
theorem zDV (L t:Str) (i:Nat) (hL:L.length≤2000) (ht:t≠[]) (htl:t.length≤2000) (hi:i≤4000) (w0:World) :
  Calls Tryz.prog 126 #[.string ⟨L.toArray⟩,.int .i64 i,.string ⟨t.toArray⟩] w0 (Rt (.bool (atP L i t)) w0):=by
 have H:=Hold.start w0;have HT:=Lib.hid ht;clear ht
 by_cases h:i+t.length≤L.length
 ·have hd:decide ((i:Int)+(t.length:Int)≤(L.length:Int))=true:=by simp;omega
  have hw:IntKind.i64.wrap ((i:Int)+(t.length:Int))=(i:Int)+(t.length:Int):=by rw[IntKind.wrap_i64];omega
  go_enter Tryz.func126,Tryz.ntmps126
  go_wp2_with (first|(first|((with_reducible refine gC ?_);refine aC ?_)|((with_reducible refine gE ?_);refine aE ?_)))
  go_ret;exact⟨retb (zST h),Below.refl _ _⟩
 ·have hd:decide ((i:Int)+(t.length:Int)≤(L.length:Int))=false:=by simp;omega
  have hw:IntKind.i64.wrap ((i:Int)+(t.length:Int))=(i:Int)+(t.length:Int):=by rw[IntKind.wrap_i64];omega
  go_enter Tryz.func126,Tryz.ntmps126
  go_wp2_with (first|fail)
  go_ret;exact⟨retb (zOf (by omega) HT.out).symm,Below.refl _ _⟩
theorem zOs (L t:Str) (i:Nat) (hL:L.length≤2000) (ht:t≠[]) (htl:t.length≤2000) (hi:i≤L.length) (w0:World) :
  Calls Tryz.prog 158 #[.string ⟨L.toArray⟩,.int .i64 i,.string ⟨t.toArray⟩] w0 (Rt (.int .i64 (optI (fnd L i t))) w0):=by
 have H:=Hold.start w0;have HT:=Lib.hid ht;clear ht;have htp:0<t.length:=List.length_pos_iff.2 HT.out
 go_enter Tryz.func158,Tryz.ntmps158
 go_wp2_with (first|fail)
 go_loopw [7] (fun k wr=>∃ n:Nat,n≤L.length∧k=.int .i64 n∧Hid (fnd L i t=fnd L n t)∧Hold w0 wr []) (fun k _=>L.length+1 - (intOf k).toNat)
 case atStart=>exact⟨i,hi,rfl,Lib.hid rfl,H⟩
 case round =>
  clear H;obtain⟨n,hn,rfl,HF,H⟩:=hrel;have hw:IntKind.i64.wrap ((n:Int)+(t.length:Int))=(n:Int)+(t.length:Int):=by rw[IntKind.wrap_i64];omega
  by_cases h:n+t.length≤L.length
  ·have hd:decide ((n:Int)+(t.length:Int)≤(L.length:Int))=true:=by simp;omega
   cases ha:atP L n t with
   | true =>
    have hc:=fun w=>zDV L t n hL HT.out htl (by omega) w
    rw[ha]at hc;have HA:=Lib.hid ha;clear ha
    go_wp2_with (first|fail|((with_reducible refine ch (hc _) H ?_);clear H;intro w H))
    go_ret;exact⟨reti (by rw[HF.out,zQe HA.out];rfl),H.below⟩
   | false =>
    have hc:=fun w=>zDV L t n hL HT.out htl (by omega) w
    rw[ha]at hc;have HA:=Lib.hid ha;clear ha
    go_wp2_with (first|fail|((with_reducible refine ch (hc _) H ?_);clear H;intro w H))
    go_roundw
    case rel=>exact⟨n+1,by omega,by go_num,Lib.hid (by rw[HF.out,zPk HA.out (by omega)]),H⟩
    case measure=>simp[intOf];omega
  ·have hd:decide ((n:Int)+(t.length:Int)≤(L.length:Int))=false:=by simp;omega
   go_wp2_with (first|fail)
   go_ret;exact⟨reti (by rw[HF.out,zRW (by omega) HT.out];rfl),H.below⟩
def setO (o:Option (Nat→Nat)):Value:=.tuple #[setV (o.getD zAE),.bool o.isSome]
theorem zCJ {o:Option (Nat→Nat)} {s:Nat→Nat} (h:o=some s):Value.tuple #[setV s,.bool true]=setO o:=by rw[h];rfl
theorem zFz {o:Option (Nat→Nat)} (h:o=none):Value.tuple #[setV zAE,.bool false]=setO o:=by rw[h];rfl
theorem zNH (s:Nat→Nat):zAW zAE∧∀ c,c<256→hasB zAE c=(decide (c<0)&&!hasB s c):=⟨zAa,fun c _=>by simp[zF8]⟩
theorem zEB (s:Nat→Nat) (hs:zAW s) (w0:World):Calls Tryz.prog 132 #[setV s] w0 (Rt (setV (notS s)) w0):=by
 have H:=Hold.start w0
 go_enter Tryz.func132,Tryz.ntmps132
 go_wp2_with (first|((first|((with_reducible refine kgA 1 ?_);refine kA 1 H ?_)|((with_reducible refine kgX 1 ?_);(first|refine kS 1 H ?_|refine kB 1 H ?_)));clear H;intro b1 w H;try simp only[nr]at H)|((first|((with_reducible refine kgA 2 ?_);refine kA 2 H ?_)|((with_reducible refine kgX 2 ?_);(first|refine kS 2 H ?_|refine kB 2 H ?_)));clear H;intro b2 w H;try simp only[nr]at H)|((first|((with_reducible refine kgA 3 ?_);refine kA 3 H ?_)|((with_reducible refine kgX 3 ?_);(first|refine kS 3 H ?_|refine kB 3 H ?_)));clear H;intro b3 w H;try simp only[nr]at H)|fail)
 go_loopw [4] (fun i wr=>∃ (k:Nat) (S:Nat→Nat),k≤256∧i=.int .i64 k∧Hid (zAW S∧∀ c,c<256→hasB S c=(decide (c<k)&&!hasB s c))∧Hold w0 wr [.blk b1 (setC s) 40,.blk b2 (setC zAE) 40,.blk b3 (setC S) 40]) (fun i _=>256 - (intOf i).toNat)
 case atStart=>exact⟨0,zAE,by omega,rfl,Lib.hid (zNH s),H⟩
 case round =>
  clear H;obtain⟨k,S,hk,rfl,G,H⟩:=hrel
  by_cases hlt:k<256
  ·cases hb:hasB s k with
   | true =>
    have hc:=fun w=>zD9 s hs k hlt w
    rw[hb]at hc;have HB:=Lib.hid hb;clear hb
    go_wp2_with (first|((with_reducible refine gL ?_);refine aL H ?_)|((with_reducible refine ch (hc _) H ?_);clear H;intro w H))
    go_roundw
    case rel=>exact⟨k+1,S,by omega,by go_num,Lib.hid ⟨G.out.1,fun c hc=>by
     rw[G.out.2 c hc]
     by_cases e:c=k
     ·subst e;simp[HB.out]
     ·simp[show c<k+1↔c<k from by omega]⟩,H⟩
    case measure=>simp[intOf];omega
   | false =>
    have hc:=fun w=>zD9 s hs k hlt w
    rw[hb]at hc;have HB:=Lib.hid hb;clear hb
    go_wp2_with (first|(first|((with_reducible refine gT ?_);(refine aS H ?_;clear H;intro w H;try simp only[nr]at H))|((with_reducible refine gL ?_);refine aL H ?_))|((with_reducible first|refine ch (hc _) H ?_|refine ch (zD7 S G.out.1 k hlt _) H ?_);clear H;intro w H))
    go_roundw
    case rel=>exact⟨k+1,addS S k,by omega,by go_num,Lib.hid ⟨zEj G.out.1 k,fun c hc=>by
     rw[zI4,G.out.2 c hc]
     by_cases e:c=k
     ·subst e;simp[HB.out]
     ·simp[e,show c<k+1↔c<k from by omega]⟩,H⟩
    case measure=>simp[intOf];omega
  ·obtain rfl:k=256:=by omega
   go_wp2_with (first|(first|((with_reducible refine gT ?_);(refine aS H ?_;clear H;intro w H;try simp only[nr]at H))|((with_reducible refine gL ?_);refine aL H ?_)))
   (refine xcS Tryz.results132 H ?_)
   exact⟨congrArg Ending.returned (zG5 G.out.1 (zDg s) fun c hc=>by rw[G.out.2 c hc,zRV hs hc];simp[hc]),H.below⟩
theorem zPP (v:Value) (w0:World) (h:RdS w0 w0.heap.size v [zB8,zCN]):Calls Tryz.prog 149 #[v] w0 (Rt (setV zBP) w0) :=
 zPy ▸ zCa v [zB8,zCN] (ok2 zDP zKP) w0 h
theorem zEY (L:Str) (w0:World):Calls Tryz.prog 155 #[.string ⟨L.toArray⟩] w0 (Rt (setO (zDy L)) w0):=by
 have H:=Hold.start w0
 go_enter Tryz.func155,Tryz.ntmps155
 go_wp2_with (first|((first|((with_reducible refine kgA 4 ?_);refine kA 4 H ?_)|((with_reducible refine kgX 4 ?_);(first|refine kS 4 H ?_|refine kB 4 H ?_)));clear H;intro b4 w H;try simp only[nr]at H)|(first|((with_reducible refine gT ?_);(refine aS H ?_;clear H;intro w H;try simp only[nr]at H))|((with_reducible refine gL ?_);refine aL H ?_)|((with_reducible refine gA ?_);(refine bA H ?_;clear H;intro b w H;try simp only[nr]at H))|((with_reducible refine gZ ?_);refine aZ ?_)|((with_reducible refine gE ?_);refine aE ?_))|((with_reducible refine gBS ?_);refine zAL wtd_ _ _ _ rfl H (rowC [zB8,zCN]).toArray 40 (by intro W;simp only[ml];(try simp only[pe]);(with_reducible exact zB9 (zB8) (zCN) W)) ?_;clear H;intro b w H;try simp only[nr]at H)|((with_reducible refine gBS ?_);refine zAL wtd_ _ _ _ rfl H (rowC [zAs 0 32,ofS [127]]).toArray 40 (by intro W;simp only[ml];(try simp only[pe]);(with_reducible exact zB9 (zAs 0 32) (ofS [127]) W)) ?_;clear H;intro b w H;try simp only[nr]at H)|((with_reducible refine gBS ?_);refine zAL wtd_ _ _ _ rfl H (rowC [zAs 9 5,ofS [32]]).toArray 40 (by intro W;simp only[ml];(try simp only[pe]);(with_reducible exact zB9 (zAs 9 5) (ofS [32]) W)) ?_;clear H;intro b w H;try simp only[nr]at H)|((with_reducible refine gBS ?_);refine zAL wtd_ _ _ _ rfl H (rowC [zBP,ofS [95]]).toArray 40 (by intro W;simp only[ml];(try simp only[pe]);(with_reducible exact zB9 (zBP) (ofS [95]) W)) ?_;clear H;intro b w H;try simp only[nr]at H)|((with_reducible refine gBS ?_);refine zAL wtd_ _ _ _ rfl H (rowC [zB8,zAs 97 6,zAs 65 6]).toArray 40 (by intro W;simp only[ml];(try simp only[pe]);(with_reducible exact zNT (zB8) (zAs 97 6) (zAs 65 6) W)) ?_;clear H;intro b w H;try simp only[nr]at H)|((with_reducible refine gBS ?_);refine zAL wtd_ _ _ _ rfl H (rowC [zEN,notS zBP]).toArray 40 (by intro W;simp only[ml];(try simp only[pe]);(with_reducible exact zB9 (zEN) (notS zBP) W)) ?_;clear H;intro b w H;try simp only[nr]at H)|((with_reducible refine gBS ?_);refine zAL wtd_ _ _ _ rfl H (#[.int .u8 9,.int .u8 32]) 5 (by intro W;simp only[ml];(try simp only[pe]);(try unfold setV);simp[go_sem]<;>rfl) ?_;clear H;intro b w H;try simp only[nr]at H)|((with_reducible first|refine ch (zLL _ [9,32] (by simp) _ (H.rdn (cs:=[.int .u8 9,.int .u8 32]) atd_ (by simp) (by simp[maxLen]))) H ?_|refine ch (zHq _) H ?_|refine ch (zKm _) H ?_|refine ch (zPP _ _ (H.rdsn (L:=[zB8,zCN]) atd_ (by simp) (by simp[maxLen]))) H ?_|refine ch (zCa _ [zAs 0 32,ofS [127]] (ok2 (zBo _ _) (zB3 _)) _ (H.rdsn (L:=[zAs 0 32,ofS [127]]) atd_ (by simp) (by simp[maxLen]))) H ?_|refine ch (zCa _ [zAs 9 5,ofS [32]] (ok2 (zBo _ _) (zB3 _)) _ (H.rdsn (L:=[zAs 9 5,ofS [32]]) atd_ (by simp) (by simp[maxLen]))) H ?_|refine ch (zCa _ [zBP,ofS [95]] (ok2 zDQ (zB3 _)) _ (H.rdsn (L:=[zBP,ofS [95]]) atd_ (by simp) (by simp[maxLen]))) H ?_|refine ch (zCa _ [zB8,zAs 97 6,zAs 65 6] (ok3 zDP (zBo _ _) (zBo _ _)) _ (H.rdsn (L:=[zB8,zAs 97 6,zAs 65 6]) atd_ (by simp) (by simp[maxLen]))) H ?_|refine ch (zEB zBP zDQ _) H ?_|refine ch (zLV _ [zEN,notS zBP] (ok2 zF6 (zDg _)) _ (H.rdsn (L:=[zEN,notS zBP]) atd_ (by simp) (by simp[maxLen]))) H ?_|refine ch (zPO _) H ?_|refine ch (zQJ _) H ?_|refine ch (zJb _) H ?_|refine ch (zJX _) H ?_|refine ch (zOV _) H ?_|refine ch (zQv _) H ?_|refine ch (zLQ _) H ?_|refine ch (zOG _) H ?_|refine ch (zPU _) H ?_|refine ch (zRp _) H ?_|refine ch (zSV _) H ?_|refine ch (zRc _) H ?_);clear H;intro w H))
 any_goals
  (refine xctS Tryz.results155 H ?_)
  (first|exact⟨congrArg _ (zFz (by simp[zDy,namesL,List.find?_cons, *])),H.below⟩|exact⟨congrArg _ (zCJ (by simp[zDy,namesL,List.find?_cons,zCN, *])),H.below⟩)
 ·skip
  refine zAr 5 [fun v _=>v=setV zEN,fun v _=>v=setV zBP,fun v _=>v=setV (notS zBP),fun v w=>RdS w w.heap.size v [zEN,notS zBP],fun v _=>v=setV (zKO [zEN,notS zBP])] (fun _=>false) (by kernel_rfl) (by kernel_rfl) (by kernel_rfl) (by repeat (first|exact trivial|refine⟨zAF _,?_⟩|refine⟨zII _,?_⟩)) (fun _ _ h=>by cases h) ?ob ?en
  case ob =>
   refine⟨?_,?_,?_,?_,?_,trivial⟩<;>intro A W h
   ·exact zAm rfl rfl (enters_of Tryz.func160 (by kernel_rfl) rfl) (zBz ⟨rfl,rfl⟩) (zJb W)
   ·exact zDC (s:=zBP) rfl rfl (h.f 4) ((H.call h.below).blk atd_).2 (by decide)
   ·exact zAm rfl rfl (enters_of Tryz.func132 (by kernel_rfl) rfl) (zCL (h.d 1 44)) (zEB zBP zDQ W)
   ·exact zJM rfl rfl (h.d 0 43) (h.d 2 45) (by decide)
   ·exact zAm rfl rfl (enters_of Tryz.func163 (by kernel_rfl) rfl) (zCL rfl) (zLV _ [zEN,notS zBP] (ok2 zF6 (zDg _)) W (h.d 3 46))
  case en =>
   intro vals W hbw hv _;have x3:=hv 3 (by omega);simp only[zAh]at x3
   simp only[fa,Nat.reduceAdd];rw[e_ hv 0,e_ hv 1,e_ hv 2,e_ hv 4];clear hv
   try simp only[pl]
   replace H:=H.call hbw;clear hbw
   go_wp2_with (first|((with_reducible refine gT ?_);(refine aS H ?_;clear H;intro w H;try simp only[nr]at H)))
   (refine xctS Tryz.results155 H ?_)
   (first|exact⟨congrArg _ (zFz (by simp[zDy,namesL,List.find?_cons, *])),H.below⟩|exact⟨congrArg _ (zCJ (by simp[zDy,namesL,List.find?_cons,zCN, *])),H.below⟩)
 ·skip
  refine zAr 4 [fun v _=>v=setV zBP,fun v _=>v=setV (ofS [95]),fun v w=>RdS w w.heap.size v [zBP,ofS [95]],fun v _=>v=setV zI6] (fun _=>false) (by kernel_rfl) (by kernel_rfl) (by kernel_rfl) (by repeat (first|exact trivial|refine⟨zAF _,?_⟩|refine⟨zII _,?_⟩)) (fun _ _ h=>by cases h) ?ob ?en
  case ob =>
   refine⟨?_,?_,?_,?_,trivial⟩<;>intro A W h
   ·exact zDC (s:=zBP) rfl rfl (h.f 4) ((H.call h.below).blk atd_).2 (by decide)
   ·exact zAm rfl rfl (enters_of Tryz.func130 (by kernel_rfl) rfl) (zCL rfl) (zRc W)
   ·exact zJM rfl rfl (h.d 0 59) (h.d 1 60) (by decide)
   ·exact zAm rfl rfl (enters_of Tryz.func149 (by kernel_rfl) rfl) (zCL rfl) ((zCa _ [zBP,ofS [95]] (ok2 zDQ (zB3 _)) W (h.d 2 61)))
  case en =>
   intro vals W hbw hv _;have x2:=hv 2 (by omega);simp only[zAh]at x2
   simp only[fa,Nat.reduceAdd];rw[e_ hv 0,e_ hv 1,e_ hv 3];clear hv
   try simp only[pl]
   replace H:=H.call hbw;clear hbw
   go_wp2_with (first|((with_reducible refine gT ?_);(refine aS H ?_;clear H;intro w H;try simp only[nr]at H)))
   (refine xctS Tryz.results155 H ?_)
   (first|exact⟨congrArg _ (zFz (by simp[zDy,namesL,List.find?_cons, *])),H.below⟩|exact⟨congrArg _ (zCJ (by simp[zDy,namesL,List.find?_cons,zCN, *])),H.below⟩)
theorem zOu (s:Nat→Nat) (hs:zAW s) (w0:World):Calls Tryz.prog 131 #[setV s] w0 (Rt (setV (zOM s)) w0):=by
 have H:=Hold.start w0
 go_enter Tryz.func131,Tryz.ntmps131
 go_wp2_with (first|((first|((with_reducible refine kgA 1 ?_);refine kA 1 H ?_)|((with_reducible refine kgX 1 ?_);(first|refine kS 1 H ?_|refine kB 1 H ?_)));clear H;intro b1 w H;try simp only[nr]at H)|((first|((with_reducible refine kgA 2 ?_);refine kA 2 H ?_)|((with_reducible refine kgX 2 ?_);(first|refine kS 2 H ?_|refine kB 2 H ?_)));clear H;intro b2 w H;try simp only[nr]at H)|((first|((with_reducible refine kgA 3 ?_);refine kA 3 H ?_)|((with_reducible refine kgX 3 ?_);(first|refine kS 3 H ?_|refine kB 3 H ?_)));clear H;intro b3 w H;try simp only[nr]at H)|(first|((with_reducible refine gT ?_);(refine aS H ?_;clear H;intro w H;try simp only[nr]at H))|((with_reducible refine gL ?_);refine aL H ?_)))
 go_loopw [4] (fun i wr=>∃ (k:Nat),k≤26∧i=.int .u8 (97+(k:Int))∧Hold w0 wr [.blk b1 (setC s) 40,.blk b2 (setC zAE) 40,.blk b3 (setC (zCu s k)) 40]) (fun i _=>26+97 - (intOf i).toNat)
 case atStart=>exact⟨0,by omega,rfl,H⟩
 case round =>
  clear H;obtain⟨k,hk,rfl,H⟩:=hrel
  by_cases hlt:k<26
  ·have hd:decide (97+(k:Int)≤122)=true:=by simp;omega
   have hc:=fun w=>zD9 s hs (97+k) (by omega) w
   have hc2:=fun w=>zD9 s hs (65+k) (by omega) w
   have h32:IntKind.u8.wrap (97+(k:Int) - 32)=65+(k:Int):=by rw[IntKind.wrap_u8];omega
   have hw1:=fun w=>zD7 (zCu s k) (zEd hs k) (97+k) (by omega) w
   have hw2:=fun w=>zD7 (addS (zCu s k) (97+k)) (zEj (zEd hs k) _) (65+k) (by omega) w
   simp only[Int.natCast_add,Int.cast_ofNat_Int]at hc hc2 hw1 hw2;have ha1:IntKind.u8.wrap (97+(k:Int)+1)=97+((k+1:Nat):Int):=by rw[IntKind.wrap_u8];omega
   cases ha:hasB s (97+k) with
   | true =>
    have E:=Lib.hid (show zCu s (k+1)=addS (addS (zCu s k) (97+k)) (65+k) by simp[zCu,ha])
    rw[ha]at hc;clear ha
    go_wp2_with (first|(first|((with_reducible refine gT ?_);(refine aS H ?_;clear H;intro w H;try simp only[nr]at H))|((with_reducible refine gL ?_);refine aL H ?_))|((with_reducible first|refine ch (hc _) H ?_|refine ch (hw1 _) H ?_|refine ch (hw2 _) H ?_);clear H;intro w H))
    go_roundw
    case rel=>exact⟨k+1,by omega,rfl,by rw[E.out];exact H⟩
    case measure=>simp[intOf];omega
   | false =>
    cases hb:hasB s (65+k) with
    | true =>
     have E:=Lib.hid (show zCu s (k+1)=addS (addS (zCu s k) (97+k)) (65+k) by simp[zCu,hb])
     rw[ha]at hc;rw[hb]at hc2;clear ha hb
     go_wp2_with (first|(first|((with_reducible refine gT ?_);(refine aS H ?_;clear H;intro w H;try simp only[nr]at H))|((with_reducible refine gL ?_);refine aL H ?_))|((with_reducible first|refine ch (hc _) H ?_|refine ch (hc2 _) H ?_|refine ch (hw1 _) H ?_|refine ch (hw2 _) H ?_);clear H;intro w H))
     go_roundw
     case rel=>exact⟨k+1,by omega,rfl,by rw[E.out];exact H⟩
     case measure=>simp[intOf];omega
    | false =>
     have E:=Lib.hid (show zCu s (k+1)=zCu s k by simp[zCu,ha,hb])
     rw[ha]at hc;rw[hb]at hc2;clear ha hb
     go_wp2_with (first|((with_reducible refine gL ?_);refine aL H ?_)|((with_reducible first|refine ch (hc _) H ?_|refine ch (hc2 _) H ?_);clear H;intro w H))
     go_roundw
     case rel=>exact⟨k+1,by omega,rfl,by rw[E.out];exact H⟩
     case measure=>simp[intOf];omega
  ·obtain rfl:k=26:=by omega
   go_wp2_with (first|(first|((with_reducible refine gT ?_);(refine aS H ?_;clear H;intro w H;try simp only[nr]at H))|((with_reducible refine gL ?_);refine aL H ?_)))
   (refine xcS Tryz.results131 H ?_)
   exact⟨rfl,H.below⟩
theorem or3 (f n:Bool):(f=true)∨(f=false∧n=true)∨(f=false∧n=false):=by cases f<;>cases n<;>simp
theorem zH0 (f:zBB) (d:WordD) (w0:World):Calls Tryz.prog 106 #[zC0 f,zCs d] w0 (Rt (zC0 (zHE f d)) w0):=by
 have H:=Hold.start w0
 rcases or3 f.1 d.on.1 with h1|⟨h1,k1⟩|⟨h1,k1⟩<;>rcases or3 f.2.1 d.on.2.1 with h2|⟨h2,k2⟩|⟨h2,k2⟩<;>rcases or3 f.2.2 d.on.2.2 with h3|⟨h3,k3⟩|⟨h3,k3⟩<;>(
  go_enter Tryz.func106,Tryz.ntmps106
  go_wp2_with (first|(first|((with_reducible refine gT ?_);(refine aT H ?_;clear H;intro w H;try simp only[nr]at H))|((with_reducible refine gL ?_);(first|refine aGb H ?_|refine aG H ?_))|((with_reducible refine gX ?_);(refine bB H ?_;clear H;intro b w H;try simp only[nr]at H))|((with_reducible refine gA ?_);(refine bA H ?_;clear H;intro b w H;try simp only[nr]at H))|((with_reducible refine gZ ?_);refine fb3 ?_)))
  (refine xc Tryz.results106 H ?_)
  exact⟨congrArg (fun x=>Ending.returned (zC0 x)) (by simp[zHE, *]),H.below⟩)
theorem zG8 (d:WordD) (w0:World):Calls Tryz.prog 105 #[zCs d] w0 (Rt (.bool (zBF d)) w0):=by
 have H:=Hold.start w0
 by_cases h6:d.kind=6
 ·have d6:((d.kind:Int) == 6)=true:=by rw[beq_iff_eq];omega
  have E:=Lib.hid (show zBF d=true by simp[zBF,h6]);clear h6
  go_enter Tryz.func105,Tryz.ntmps105
  go_wp2_with (first|(first|((with_reducible refine gL ?_);refine aG H ?_)|((with_reducible refine gX ?_);(refine bB H ?_;clear H;intro b w H;try simp only[nr]at H))))
  go_ret;exact⟨retb E.out.symm,H.below⟩
 ·have d6:((d.kind:Int) == 6)=false:=by rw[beq_eq_false_iff_ne];omega
  have E:=Lib.hid (show zBF d=((d.kind:Int) == 7) by
   simp only[zBF,show (d.kind == 6)=false from by simpa using h6,Bool.false_or]
   rw[Bool.eq_iff_iff,beq_iff_eq,beq_iff_eq];omega);clear h6
  go_enter Tryz.func105,Tryz.ntmps105
  go_wp2_with (first|(first|((with_reducible refine gL ?_);refine aG H ?_)|((with_reducible refine gX ?_);(refine bB H ?_;clear H;intro b w H;try simp only[nr]at H))))
  go_ret;exact⟨retb E.out.symm,H.below⟩
theorem zOY (s:Nat→Nat) (w0:World):Calls Tryz.prog 133 #[setV s] w0 (Rt (zAc (setT s).d nilS) w0):=by
 have H:=Hold.start w0
 cases hq:eqS s zAE with
 | true =>
  have E:=Lib.hid (show (setT s).d={kind:=2} by simp[setT,hq,zB6,Tree.d])
  go_enter Tryz.func133,Tryz.ntmps133
  go_wp2_with (first|(first|((with_reducible refine gT ?_);(refine aT H ?_;clear H;intro w H;try simp only[nr]at H))|((with_reducible refine gL ?_);refine aL H ?_)|((with_reducible refine gX ?_);(refine bS H ?_;clear H;intro b w H;try simp only[nr]at H))|((with_reducible refine gA ?_);(refine bA H ?_;clear H;intro b w H;try simp only[nr]at H))|((with_reducible refine gZ ?_);refine nb1 ?_)|((with_reducible refine gES ?_);refine qS ?_)|((with_reducible refine gZ ?_);refine aZ ?_)))
  (refine xc Tryz.results133 H ?_)
  exact⟨by rw[E.out],H.below⟩
 | false =>
  have E:=Lib.hid (show (setT s).d={kind:=3,set:=s} by simp[setT,hq,Tree.d])
  go_enter Tryz.func133,Tryz.ntmps133
  go_wp2_with (first|(first|((with_reducible refine gT ?_);(refine aT H ?_;clear H;intro w H;try simp only[nr]at H))|((with_reducible refine gL ?_);refine aL H ?_)|((with_reducible refine gX ?_);(refine bS H ?_;clear H;intro b w H;try simp only[nr]at H))|((with_reducible refine gA ?_);(refine bA H ?_;clear H;intro b w H;try simp only[nr]at H))|((with_reducible refine gZ ?_);refine nbS ?_)|((with_reducible refine gES ?_);refine qS ?_)|((with_reducible refine gZ ?_);refine aZ ?_)))
  (refine xc Tryz.results133 H ?_)
  exact⟨by rw[E.out],H.below⟩
theorem zH3 (f:zBB) (p q:Int) (w0:World):Calls Tryz.prog 136 #[zC0 f,.int .i64 p,.int .i64 q] w0 (Rt (zAc (spotT f p q).d nilS) w0):=by
 have H:=Hold.start w0;obtain⟨f1,f2,f3⟩:=f
 cases f2 with
 | true =>
  go_enter Tryz.func136,Tryz.ntmps136
  go_wp2_with (first|(first|((with_reducible refine gT ?_);(refine aT H ?_;clear H;intro w H;try simp only[nr]at H))|((with_reducible refine gL ?_);refine aG H ?_)|((with_reducible refine gX ?_);(refine bB H ?_;clear H;intro b w H;try simp only[nr]at H))|((with_reducible refine gA ?_);(refine bA H ?_;clear H;intro b w H;try simp only[nr]at H))|((with_reducible refine gZ ?_);refine nb1 ?_)))
  (refine xc Tryz.results136 H ?_)
  exact⟨rfl,H.below⟩
 | false =>
  go_enter Tryz.func136,Tryz.ntmps136
  go_wp2_with (first|(first|((with_reducible refine gT ?_);(refine aT H ?_;clear H;intro w H;try simp only[nr]at H))|((with_reducible refine gL ?_);refine aG H ?_)|((with_reducible refine gX ?_);(refine bB H ?_;clear H;intro b w H;try simp only[nr]at H))|((with_reducible refine gA ?_);(refine bA H ?_;clear H;intro b w H;try simp only[nr]at H))|((with_reducible refine gZ ?_);refine nb1 ?_)))
  (refine xc Tryz.results136 H ?_)
  exact⟨rfl,H.below⟩
theorem zRU (w0:World):Calls Tryz.prog 134 #[.int .u8 0,.int .u8 255] w0 (Rt (setV (zAs 0 256)) w0):=zJC 0 255 (by omega) (by omega) w0
theorem zSO (v:Value) (w0:World) (h:Rd w0 w0.heap.size v [.int .u8 10]):Calls Tryz.prog 135 #[v] w0 (Rt (setV (ofS [10])) w0):=zLL v [10] (by simp) w0 h
theorem zK3 {s:Nat→Nat} (hs:zAW s):zAW (zOM s):=zEd hs 26
theorem zPc (f:zBB) (d:WordD) (hs:zAW d.set) (w0:World):Calls Tryz.prog 109 #[zCs d,zC0 f] w0 (Rt (zAc (zFK d f).d nilS) w0):=by
 have H:=Hold.start w0;have E:zFK d f=zFK d f:=rfl
 conv at E=>rhs;unfold zFK
 by_cases h1:d.kind=1
 ·have d1:((d.kind:Int) == 1)=true:=by rw[beq_iff_eq];omega
  rw[if_pos h1]at E;clear h1;have hof:=fun s w=>zOY s w
  cases hf:f.1 with
  | true =>
   rw[hf]at E;simp only[if_true]at E;have hfo:=fun w=>zOu d.set hs w
   have hno:=fun w=>zEB (zOM d.set) (zK3 hs) w
   cases hg:d.neg with
   | true =>
    rw[hg]at E;simp only[if_true]at E;have E2:=Lib.hid E;clear E
    go_enter Tryz.func109,Tryz.ntmps109
    go_wp2_with (first|(first|((with_reducible refine gT ?_);((first|refine aS H ?_|refine aT H ?_);clear H;intro w H;try simp only[nr]at H))|((with_reducible refine gL ?_);(first|refine aV H ?_|refine aL H ?_|refine aGb H ?_|refine aG H ?_))|((with_reducible refine gX ?_);(refine bB H ?_;clear H;intro b w H;try simp only[nr]at H))|((with_reducible refine gA ?_);(refine bA H ?_;clear H;intro b w H;try simp only[nr]at H)))|((with_reducible first|refine ch (hfo _) H ?_|refine ch (hno _) H ?_|refine ch (hof _ _) H ?_);clear H;intro w H))
    (refine xc Tryz.results109 H ?_)
    exact⟨by rw[E2.out],H.below⟩
   | false =>
    rw[hg]at E;simp only[Bool.false_eq_true,if_false]at E;have E2:=Lib.hid E;clear E
    go_enter Tryz.func109,Tryz.ntmps109
    go_wp2_with (first|(first|((with_reducible refine gT ?_);((first|refine aS H ?_|refine aT H ?_);clear H;intro w H;try simp only[nr]at H))|((with_reducible refine gL ?_);(first|refine aV H ?_|refine aL H ?_|refine aGb H ?_|refine aG H ?_))|((with_reducible refine gX ?_);(refine bB H ?_;clear H;intro b w H;try simp only[nr]at H))|((with_reducible refine gA ?_);(refine bA H ?_;clear H;intro b w H;try simp only[nr]at H)))|((with_reducible first|refine ch (hfo _) H ?_|refine ch (hof _ _) H ?_);clear H;intro w H))
    (refine xc Tryz.results109 H ?_)
    exact⟨by rw[E2.out],H.below⟩
  | false =>
   rw[hf]at E;simp only[Bool.false_eq_true,if_false]at E;have hno:=fun w=>zEB d.set hs w
   cases hg:d.neg with
   | true =>
    rw[hg]at E;simp only[if_true]at E;have E2:=Lib.hid E;clear E
    go_enter Tryz.func109,Tryz.ntmps109
    go_wp2_with (first|(first|((with_reducible refine gT ?_);((first|refine aS H ?_|refine aT H ?_);clear H;intro w H;try simp only[nr]at H))|((with_reducible refine gL ?_);(first|refine aV H ?_|refine aL H ?_|refine aGb H ?_|refine aG H ?_))|((with_reducible refine gX ?_);(refine bB H ?_;clear H;intro b w H;try simp only[nr]at H))|((with_reducible refine gA ?_);(refine bA H ?_;clear H;intro b w H;try simp only[nr]at H)))|((with_reducible first|refine ch (hno _) H ?_|refine ch (hof _ _) H ?_);clear H;intro w H))
    (refine xc Tryz.results109 H ?_)
    exact⟨by rw[E2.out],H.below⟩
   | false =>
    rw[hg]at E;simp only[Bool.false_eq_true,if_false]at E;have E2:=Lib.hid E;clear E
    go_enter Tryz.func109,Tryz.ntmps109
    go_wp2_with (first|(first|((with_reducible refine gT ?_);((first|refine aS H ?_|refine aT H ?_);clear H;intro w H;try simp only[nr]at H))|((with_reducible refine gL ?_);(first|refine aV H ?_|refine aL H ?_|refine aGb H ?_|refine aG H ?_))|((with_reducible refine gX ?_);(refine bB H ?_;clear H;intro b w H;try simp only[nr]at H))|((with_reducible refine gA ?_);(refine bA H ?_;clear H;intro b w H;try simp only[nr]at H)))|((with_reducible refine ch (hof _ _) H ?_);clear H;intro w H))
    (refine xc Tryz.results109 H ?_)
    exact⟨by rw[E2.out],H.below⟩
 ·have d1:((d.kind:Int) == 1)=false:=by rw[beq_eq_false_iff_ne];omega
  rw[if_neg h1]at E;clear h1
  by_cases h2:d.kind=2
  ·have d2:((d.kind:Int) == 2)=true:=by rw[beq_iff_eq];omega
   rw[if_pos h2]at E;clear h2
   cases hf:f.2.2 with
   | true =>
    rw[hf]at E;simp only[if_true]at E;have E2:=Lib.hid E;clear E;have hof:=fun w=>zOY (zAs 0 256) w
    have hr:=fun w=>zRU w
    go_enter Tryz.func109,Tryz.ntmps109
    go_wp2_with (first|(first|((with_reducible refine gT ?_);(refine aT H ?_;clear H;intro w H;try simp only[nr]at H))|((with_reducible refine gL ?_);(first|refine aGb H ?_|refine aG H ?_))|((with_reducible refine gX ?_);(refine bB H ?_;clear H;intro b w H;try simp only[nr]at H))|((with_reducible refine gA ?_);(refine bA H ?_;clear H;intro b w H;try simp only[nr]at H)))|((with_reducible first|refine ch (hr _) H ?_|refine ch (hof _) H ?_);clear H;intro w H))
    (refine xc Tryz.results109 H ?_)
    exact⟨by rw[E2.out],H.below⟩
   | false =>
    rw[hf]at E;simp only[Bool.false_eq_true,if_false]at E;have E2:=Lib.hid E;clear E;have hof:=fun w=>zOY (notS (ofS [10])) w
    have hno:=fun w=>zEB (ofS [10]) (zB3 _) w
    go_enter Tryz.func109,Tryz.ntmps109
    go_wp2_with (first|(first|((with_reducible refine gT ?_);(refine aT H ?_;clear H;intro w H;try simp only[nr]at H))|((with_reducible refine gL ?_);(first|refine aGb H ?_|refine aG H ?_))|((with_reducible refine gX ?_);(refine bB H ?_;clear H;intro b w H;try simp only[nr]at H))|((with_reducible refine gA ?_);(refine bA H ?_;clear H;intro b w H;try simp only[nr]at H)))|((with_reducible refine gBS ?_);refine zAL wtd_ _ _ _ rfl H (#[.int .u8 10]) 5 (by intro W;simp only[ml];(try simp only[pe]);(try unfold setV);simp[go_sem]<;>rfl) ?_;clear H;intro b w H;try simp only[nr]at H)|((with_reducible first|refine ch (zSO _ _ (H.rdn (cs:=[.int .u8 10]) atd_ (by simp) (by simp[maxLen]))) H ?_|refine ch (hno _) H ?_|refine ch (hof _) H ?_);clear H;intro w H))
    (refine xc Tryz.results109 H ?_)
    exact⟨by rw[E2.out],H.below⟩
  ·have d2:((d.kind:Int) == 2)=false:=by rw[beq_eq_false_iff_ne];omega
   rw[if_neg h2]at E;clear h2
   by_cases h3:d.kind=3
   ·have d3:((d.kind:Int) == 3)=true:=by rw[beq_iff_eq];omega
    rw[if_pos h3]at E;clear h3;have E2:=Lib.hid E;clear E;have hsp:=fun w=>zH3 f 8 10 w
    go_enter Tryz.func109,Tryz.ntmps109
    go_wp2_with (first|(first|((with_reducible refine gT ?_);(refine aT H ?_;clear H;intro w H;try simp only[nr]at H))|((with_reducible refine gL ?_);(first|refine aG H ?_|refine aD H ?_))|((with_reducible refine gX ?_);(refine bB H ?_;clear H;intro b w H;try simp only[nr]at H))|((with_reducible refine gA ?_);(refine bA H ?_;clear H;intro b w H;try simp only[nr]at H)))|((with_reducible refine ch (hsp _) H ?_);clear H;intro w H))
    (refine xc Tryz.results109 H ?_)
    exact⟨by rw[E2.out],H.below⟩
   ·have d3:((d.kind:Int) == 3)=false:=by rw[beq_eq_false_iff_ne];omega
    rw[if_neg h3]at E;clear h3
    by_cases h4:d.kind=4
    ·have d4:((d.kind:Int) == 4)=true:=by rw[beq_iff_eq];omega
     rw[if_pos h4]at E;clear h4;have E2:=Lib.hid E;clear E;have hsp:=fun w=>zH3 f 9 11 w
     go_enter Tryz.func109,Tryz.ntmps109
     go_wp2_with (first|(first|((with_reducible refine gT ?_);(refine aT H ?_;clear H;intro w H;try simp only[nr]at H))|((with_reducible refine gL ?_);(first|refine aG H ?_|refine aD H ?_))|((with_reducible refine gX ?_);(refine bB H ?_;clear H;intro b w H;try simp only[nr]at H))|((with_reducible refine gA ?_);(refine bA H ?_;clear H;intro b w H;try simp only[nr]at H)))|((with_reducible refine ch (hsp _) H ?_);clear H;intro w H))
     (refine xc Tryz.results109 H ?_)
     exact⟨by rw[E2.out],H.below⟩
    ·have d4:((d.kind:Int) == 4)=false:=by rw[beq_eq_false_iff_ne];omega
     rw[if_neg h4]at E;clear h4;have E2:=Lib.hid E;clear E
     go_enter Tryz.func109,Tryz.ntmps109
     go_wp2_with (first|(first|((with_reducible refine gT ?_);(refine aT H ?_;clear H;intro w H;try simp only[nr]at H))|((with_reducible refine gL ?_);refine aG H ?_)|((with_reducible refine gX ?_);(refine bB H ?_;clear H;intro b w H;try simp only[nr]at H))|((with_reducible refine gA ?_);(refine bA H ?_;clear H;intro b w H;try simp only[nr]at H))|((with_reducible refine gZ ?_);refine nb1 ?_)))
     (refine xc Tryz.results109 H ?_)
     exact⟨by rw[E2.out];rfl,H.below⟩
def Knows (F:Nat→Prop) (p:Option Addr) (n c:Nat) (xs:List TV) (V:World):Prop:=RdN 10 V F (.slice p n c) (xs.map zAy)∧ListR V F xs
section
variable {F:Nat→Prop} {p:Option Addr} {n c:Nat} {xs:List TV} {V W w0:World}
theorem Knows.kept (h:Knows F p n c xs W) (hV:∀ b,F b→V.heap[b]?=W.heap[b]?):Knows F p n c xs V:=⟨h.1.kept hV,h.2.kept hV⟩
theorem Knows.forest (h:Knows F p (xs.map (·.1)).length c xs V):ForestR V F p c (xs.map (·.1)):=.mk _ _ _ xs h.1 h.2 rfl
theorem Hold.knows (hF:∀ b,F b→b<w0.heap.size) (h:Knows F p n c xs w0):Hold w0 w0 [.kn F (Knows F p n c xs)] :=
 (Hold.start w0).know F (Knows F p n c xs) hF (fun i r h=>by simp at h) (fun V hV=>h.kept hV)
theorem Knows.cells {b off:Nat} (h:Knows F (some ⟨b,off,none⟩) n c xs V) {j:Nat} {x:TV} (hj:xs[j]?=some x) {q:Nat} (hq:off+j * 10=q):∀ k,k<10→V.cell? ⟨b,q+k,none⟩=(zAy x)[k]?:=by
 obtain⟨p,c,e1,_,_,_,h3⟩:=h.1;obtain⟨b',off',e2,_,_,h4⟩:=h3 j (zAy x) (by rw[List.getElem?_map,hj];rfl)
 cases e1;cases e2;subst hq
 exact h4
theorem Knows.bound (h:Knows F p n c xs V):n=xs.length∧n≤c∧c≤9223372036854775807:=by
 obtain⟨p,c,e1,h1,h2,_,h3⟩:=h.1
 cases e1
 unfold maxLen at h2;rw[List.length_map]at h1 ⊢;exact⟨rfl,h1,h2⟩
theorem Knows.at (h:Knows F p n c xs V) (h0:0<xs.length):∃ b off,p=some ⟨b,off,none⟩:=by
 obtain⟨p,c,e1,h1,h2,_,h3⟩:=h.1
 cases e1
 obtain⟨b,off,e,_⟩:=h3 0 _ (by rw[List.getElem?_map,List.getElem?_eq_getElem h0];rfl)
 exact⟨b,off,e⟩
end
theorem zEp (k:Int) (p:Option Addr) (c n:Nat) (F:Nat→Prop) (ts:List Tree) (w0:World) (hF:∀ b,F b→b<w0.heap.size) (h:ForestR w0 F p c ts) (hn:n=ts.length) :
  Calls Tryz.prog 107 #[.int .i64 k,.slice p n c] w0 fun e w'=>zCP w0 F (rowT k ts) e w'∧Below w0.heap.size w0 w':=by
 obtain⟨xs,h1,h2,rfl⟩:=h.open;rw[List.length_map]at hn;rw[← hn]at h1;have hK:Knows F p n c xs w0:=⟨h1,h2⟩;clear h h1 h2;have H:=Hold.knows hF hK;have hc1:=hK.bound.2.1;have hc2:=hK.bound.2.2;have hp:=hK.at;rcases xs with _|⟨x,_|⟨y,xs⟩⟩
 ·obtain rfl:n=0:=hn;clear hp
  go_enter Tryz.func107,Tryz.ntmps107
  go_wp2_with (first|(first|((with_reducible refine gT ?_);(refine aT H ?_;clear H;intro w H;try simp only[nr]at H))|((with_reducible refine gA ?_);(refine bA H ?_;clear H;intro b w H;try simp only[nr]at H))|((with_reducible refine gZ ?_);refine nb1 ?_)))
  (refine xc Tryz.results107 H ?_)
  exact⟨⟨none,0,fun _=>False,rfl,ForestR.nil ..,fun _ h=>h.elim⟩,H.below⟩
 ·obtain rfl:n=1:=hn;obtain⟨b,off,rfl⟩:=hp (by simp)
  clear hp;have hcell:∀ V,Knows F (some ⟨b,off,none⟩) 1 c [x] V→∀ k,k<10→V.cell? ⟨b,off+k,none⟩=(zAy x)[k]?:=fun V h=>h.cells (j:=0) rfl rfl
  go_enter Tryz.func107,Tryz.ntmps107
  go_wp2_with (first|((with_reducible refine gL ?_);refine zAS wtd_ _ _ rfl rfl zAR (zAz x) (hcell _ (H.kn .zero)) ?_)|(first|((with_reducible refine gT ?_);(refine aT H ?_;clear H;intro w H;try simp only[nr]at H))|((with_reducible refine gA ?_);(refine bA H ?_;clear H;intro b w H;try simp only[nr]at H))))
  (refine xc Tryz.results107 H ?_)
  exact⟨⟨_,_,F,rfl,(H.kn (i:=0) .zero).2 x (List.mem_singleton.2 rfl),fun b h=>⟨H.knlt .zero b h,.inr h⟩⟩,H.below⟩
 ·clear hp;have h2:2≤n:=by rw[hn];simp
  have HN:=Lib.hid hn;clear hn;have d0:((n:Int) == 0)=false:=by rw[beq_eq_false_iff_ne];omega
  have d1:((n:Int) == 1)=false:=by rw[beq_eq_false_iff_ne];omega
  go_enter Tryz.func107,Tryz.ntmps107
  go_wp2_with (first|(first|((with_reducible refine gT ?_);(refine aT H ?_;clear H;intro w H;try simp only[nr]at H))|((with_reducible refine gA ?_);(refine bA H ?_;clear H;intro b w H;try simp only[nr]at H))|((with_reducible refine gZ ?_);refine nbK ?_)))
  (refine xc Tryz.results107 H ?_)
  have e:n=((x::y::xs).map (·.1)).length:=by rw[HN.out,List.length_map]
  refine⟨⟨p,c,F,by rw[e];rfl,?_,fun b h=>⟨H.knlt .zero b h,.inr h⟩⟩,H.below⟩
  have:=H.kn (i:=0) .zero;rw[e]at this;exact this.forest
theorem zJ8 {xs:List TV} {j:Nat} {x:TV} (h:xs[j]?=some x):zAK ((xs.map (·.1)).take (j+1))=zAK ((xs.map (·.1)).take j)+zAT x.1:=zHU (by rw[List.getElem?_map,h];rfl)
theorem zDM {xs:List TV} {j:Nat} {x:TV} (h:xs[j]?=some x):zAK ((xs.map (·.1)).take j)+zAT x.1≤zAK (xs.map (·.1)):=zE2 (by rw[List.getElem?_map,h];rfl)
theorem zJ9:∀ (m:Nat) (t:Tree) (p:Option Addr) (n c:Nat) (F:Nat→Prop) (w0:World),zAT t≤m→m≤1000000000000→(∀ b,F b→b<w0.heap.size)→ForestR w0 F p c t.kids→n=t.kids.length →
  Calls Tryz.prog 65 #[zAc t.d (.slice p n c)] w0 (Rt (.int .i64 (zAT t)) w0)
 | 0,t,_,_,_,_,_,hm,_,_,_,_=>by have:=zBL t;omega
 | m+1,.mk d ts,p,n,c,F,w0,hm,hm2,hF,h,hn=>by
  have IH:=zJ9 m;simp only[Tree.kids,Tree.d]at h hn ⊢;obtain⟨xs,h1,h2,rfl⟩:=h.open;rw[List.length_map]at hn;rw[← hn]at h1;have hK:Knows F p n c xs w0:=⟨h1,h2⟩;clear h h1 h2;have H:=Hold.knows hF hK;have hc1:=hK.bound.2.1;have hc2:=hK.bound.2.2;have hp:=hK.at;clear hK;have E:zAT (.mk d (xs.map (·.1)))=1+zAK (xs.map (·.1)):=by simp[zAT]
  rw[E]at hm;have E2:=Lib.hid E;clear E;have HN:=Lib.hid hn;clear hn
  go_enter Tryz.func65,Tryz.ntmps65
  go_wp2_with (first|((first|((with_reducible refine kgA 1 ?_);refine kA 1 H ?_)|((with_reducible refine kgX 1 ?_);(first|refine kS 1 H ?_|refine kB 1 H ?_)));clear H;intro b1 w H;try simp only[nr]at H)|fail)
  go_loopw [3,4] (fun k i wr=>∃ j:Nat,j≤n∧i=.int .i64 j∧k=.int .i64 ((1+zAK ((xs.map (·.1)).take j):Nat):Int)∧Hold w0 wr [.kn F (Knows F p n c xs),.blk b1 (zAU d (.slice p n c)) 87]) (fun _ i _=>n+1 - (intOf i).toNat)
  case atStart=>exact⟨0,by omega,rfl,by simp[zAK],H⟩
  case round =>
   clear H;obtain⟨j,hj,rfl,rfl,H⟩:=hrel
   by_cases hlt:j<n
   ·have dj:decide ((j:Int)<(n:Int))=true:=by simp;omega
    obtain⟨x,hx⟩:∃ x,xs[j]?=some x:=⟨_,List.getElem?_eq_getElem (by rw[← HN.out];exact hlt)⟩
    obtain⟨b,off,rfl⟩:=hp (by rw[← HN.out];omega)
    have hs1:=zDM hx;have HS:=Lib.hid (zJ8 hx);have hmem:=List.mem_of_getElem? hx;have hcell:∀ V,Knows F (some ⟨b,off,none⟩) n c xs V→∀ k,k<10→V.cell? ⟨b,off+j * 10+k,none⟩=(zAy x)[k]?:=fun V h=>h.cells hx rfl
    have ih:=fun w (hw:∀ b,F b→b<w.heap.size) (hk:Knows F (some ⟨b,off,none⟩) n c xs w)=>IH x.1 x.2.1 _ x.2.2 F w (by omega) (by omega) hw (hk.2 x hmem) rfl
    clear IH hx hmem hp
    generalize zAK ((xs.map (·.1)).take j)=S at *
    go_wp2_with (first|((with_reducible refine gL ?_);refine zAS wtd_ _ _ rfl rfl zAR (zAz x) (hcell _ (H.kn .zero)) ?_)|((with_reducible refine gL ?_);refine aG H ?_)|((with_reducible refine ch (ih _ (H.knlt .zero) (H.kn .zero)) H ?_);clear H;intro w H))
    go_roundw
    case rel=>exact⟨j+1,by omega,by go_num,by rw[HS.out];go_num,H⟩
    case measure=>simp[intOf];omega
   ·have dj:decide ((j:Int)<(n:Int))=false:=by simp;omega
    obtain rfl:j=n:=by omega
    go_wp2_with (first|((with_reducible refine gL ?_);refine aG H ?_))
    go_ret;exact⟨reti (by rw[E2.out,List.take_of_length_le (by rw[List.length_map,← HN.out];exact Nat.le_refl _)];omega),H.below⟩
theorem zNt {xs:List TV} {j:Nat} {x:TV} (h:xs[j]?=some x):zB1 ((xs.map (·.1)).take (j+1))=max (zB1 ((xs.map (·.1)).take j)) (zF5 x.1):=zKM (by rw[List.getElem?_map,h];rfl)
theorem zLd:∀ (m:Nat) (t:Tree) (p:Option Addr) (n c:Nat) (F:Nat→Prop) (w0:World),zAT t≤m→m≤1000000000000→(∀ b,F b→b<w0.heap.size)→ForestR w0 F p c t.kids→n=t.kids.length →
  Calls Tryz.prog 66 #[zAc t.d (.slice p n c)] w0 (Rt (.int .i64 (zF5 t)) w0)
 | 0,t,_,_,_,_,_,hm,_,_,_,_=>by have:=zBL t;omega
 | m+1,.mk d ts,p,n,c,F,w0,hm,hm2,hF,h,hn=>by
  have IH:=zLd m;simp only[Tree.kids,Tree.d]at h hn ⊢;obtain⟨xs,h1,h2,rfl⟩:=h.open;rw[List.length_map]at hn;rw[← hn]at h1;have hK:Knows F p n c xs w0:=⟨h1,h2⟩;clear h h1 h2;have H:=Hold.knows hF hK;have hc1:=hK.bound.2.1;have hc2:=hK.bound.2.2;have hp:=hK.at;clear hK;have E:zF5 (.mk d (xs.map (·.1)))=zB1 (xs.map (·.1))+1:=by simp[zF5]
  have hd:=zGC (xs.map (·.1));simp only[zAT]at hm;have E2:=Lib.hid E;clear E;have HN:=Lib.hid hn;clear hn
  go_enter Tryz.func66,Tryz.ntmps66
  go_wp2_with (first|((first|((with_reducible refine kgA 1 ?_);refine kA 1 H ?_)|((with_reducible refine kgX 1 ?_);(first|refine kS 1 H ?_|refine kB 1 H ?_)));clear H;intro b1 w H;try simp only[nr]at H)|fail)
  go_loopw [3,4] (fun k i wr=>∃ j:Nat,j≤n∧i=.int .i64 j∧k=.int .i64 ((zB1 ((xs.map (·.1)).take j):Nat):Int)∧zB1 ((xs.map (·.1)).take j)≤m∧Hold w0 wr [.kn F (Knows F p n c xs),.blk b1 (zAU d (.slice p n c)) 87]) (fun _ i _=>n+1 - (intOf i).toNat)
  case atStart=>exact⟨0,by omega,rfl,by simp[zB1],by simp[zB1],H⟩
  case round =>
   clear H;obtain⟨j,hj,rfl,rfl,hS,H⟩:=hrel
   by_cases hlt:j<n
   ·have dj:decide ((j:Int)<(n:Int))=true:=by simp;omega
    obtain⟨x,hx⟩:∃ x,xs[j]?=some x:=⟨_,List.getElem?_eq_getElem (by rw[← HN.out];exact hlt)⟩
    obtain⟨b,off,rfl⟩:=hp (by rw[← HN.out];omega)
    have hs1:=zDM hx;have hs2:=zJk x.1;have HS:=Lib.hid (zNt hx);have hmem:=List.mem_of_getElem? hx;have hcell:∀ V,Knows F (some ⟨b,off,none⟩) n c xs V→∀ k,k<10→V.cell? ⟨b,off+j * 10+k,none⟩=(zAy x)[k]?:=fun V h=>h.cells hx rfl
    have ih:=fun w (hw:∀ b,F b→b<w.heap.size) (hk:Knows F (some ⟨b,off,none⟩) n c xs w)=>IH x.1 x.2.1 _ x.2.2 F w (by omega) (by omega) hw (hk.2 x hmem) rfl
    clear IH hx hmem hp
    generalize zB1 ((xs.map (·.1)).take j)=S at *
    go_wp2_with (first|((with_reducible refine gL ?_);refine zAS wtd_ _ _ rfl rfl zAR (zAz x) (hcell _ (H.kn .zero)) ?_)|((with_reducible refine gL ?_);refine aG H ?_)|((with_reducible refine ch (ih _ (H.knlt .zero) (H.kn .zero)) H ?_);clear H;intro w H))
    go_roundw
    case rel=>exact⟨j+1,by omega,by go_num,by rw[HS.out];go_num,by rw[HS.out];omega,H⟩
    case measure=>simp[intOf];omega
   ·have dj:decide ((j:Int)<(n:Int))=false:=by simp;omega
    obtain rfl:j=n:=by omega
    go_wp2_with (first|((with_reducible refine gL ?_);refine aG H ?_))
    go_ret;exact⟨reti (by rw[E2.out,List.take_of_length_le (by rw[List.length_map,← HN.out];exact Nat.le_refl _)];omega),H.below⟩
end
end Go.Proofs.YtdoflhjhaciepaaGreat
