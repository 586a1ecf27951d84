/-
  Laws of walks, and walks.
-/
import Derived.Test.YtalggmbdpmdcbaaGreatPt7
import Derived.Test.YtalggmbdpmdcbaaGreatPt9
import Derived.Test.YtalggmbdpmdcbaaGreatPt5
import Derived.Test.YtalggmbdpmdcbaaGreatPt8
set_option linter.unusedVariables false
set_option linter.unusedSimpArgs false
set_option maxRecDepth 100000
set_option maxHeartbeats 16000000
namespace Go.Proofs.YtalggmbdpmdcbaaGreat
section
open Go.RowKit Go.Shelf
attribute [local go_sem] Oper.semAt_some
theorem zRQ (t:Array Value) (h:t.size=114):∃ x0 x1 x2 x3 x4 x5 x6 x7 x8 x9 x10 x11 x12 x13 x14 x15 x16 x17 x18 x19 x20 x21 x22 x23 x24 x25 x26 x27 x28 x29 x30 x31 x32 x33 x34 x35 x36 x37 x38 x39 x40 x41 x42 x43 x44 x45 x46 x47 x48 x49 x50 x51 x52 x53 x54 x55 x56 x57 x58 x59 x60 x61 x62 x63 x64 x65 x66 x67 x68 x69 x70 x71 x72 x73 x74 x75 x76 x77 x78 x79 x80 x81 x82 x83 x84 x85 x86 x87 x88 x89 x90 x91 x92 x93 x94 x95 x96 x97 x98 x99 x100 x101 x102 x103 x104 x105 x106 x107 x108 x109 x110 x111 x112 x113:Value,t=List.toArray (x0::x1::x2::x3::x4::x5::x6::x7::x8::x9::x10::x11::x12::x13::x14::x15::x16::x17::x18::x19::x20::x21::x22::x23::x24::x25::x26::x27::x28::x29::x30::x31::x32::x33::x34::x35::x36::x37::x38::x39::x40::x41::x42::x43::x44::x45::x46::x47::x48::x49::x50::x51::x52::x53::x54::x55::x56::x57::x58::x59::x60::x61::x62::x63::x64::x65::x66::x67::x68::x69::x70::x71::x72::x73::x74::x75::x76::x77::x78::x79::x80::x81::x82::x83::x84::x85::x86::x87::x88::x89::x90::x91::x92::x93::x94::x95::x96::x97::x98::x99::x100::x101::x102::x103::x104::x105::x106::x107::x108::x109::x110::x111::x112::x113::[]):=by
 rw[zKX t 114 h];exact⟨_,_,_,_,_,_,_,_,_,_,_,_,_,_,_,_,_,_,_,_,_,_,_,_,_,_,_,_,_,_,_,_,_,_,_,_,_,_,_,_,_,_,_,_,_,_,_,_,_,_,_,_,_,_,_,_,_,_,_,_,_,_,_,_,_,_,_,_,_,_,_,_,_,_,_,_,_,_,_,_,_,_,_,_,_,_,_,_,_,_,_,_,_,_,_,_,_,_,_,_,_,_,_,_,_,_,_,_,_,_,_,_,_,_,rfl⟩
theorem zQ2 {o:Oper} {a:Act} {w:World} {x y:Operand} {U:TypeId} {s u:Nat->Nat} (hop:o.op=.binOp .eql 25 x y U) (hx:a.eval x=setV s) (hy:a.eval y=setV u):(execOp a.eval o).run Tryz.prog w=.ok (.value (.bool (eqS s u))) w:=by
 have he:=zFR s u w;simp only[execOp,hop,hx,hy];unfold setV;simp[go_sem,he]
theorem zPE (d:NodeD) (s:Value) (x:Nat->Nat):(((((zAO d s).setIfInBounds 1 (.int .u64 (x 0))).setIfInBounds (1+1) (.int .u64 (x 1))).setIfInBounds (1+1+1) (.int .u64 (x 2))).setIfInBounds (1+1+1+1) (.int .u64 (x 3)))=zAO {d with set:=x} s:=rfl
theorem zPg (d:NodeD) (s:Value) (x:Int):(zAO d s).setIfInBounds 7 (.int .i64 x)=zAO {d with hi:=x} s:=rfl
theorem zHH (d:NodeD) (n:Nat) (h:d.kind<1\/d.kind > 13):zAf d n=false:=by
 unfold zAf;rw[if_neg (by omega),if_neg (by omega),if_neg (by omega),if_neg (by omega)]
 rcases h with h|h
 ·rw[show decide (1<=d.kind)=false by simp;omega];rfl
 ·rw[show decide (d.kind<=13)=false by simp;omega];simp
theorem zKV (d ds:Array Value) {a b c:Value} (hs:ds.size=10) (hd:d.size=10) (h:∀ i,ds[i]?=d[i]?\/∃ v,(i,v) ∈ ([(6,a),(7,b),(8,c)]:List (Nat × Value))/\ds[i]?=some v) (h6:ds[6]?=some a) (h7:ds[7]?=some b) (h8:ds[8]?=some c):ds=((d.setIfInBounds 6 a).setIfInBounds 7 b).setIfInBounds 8 c:=by
 apply Array.ext_getElem?;intro i;simp only[Array.getElem?_setIfInBounds,Array.size_setIfInBounds,hd]
 by_cases e8:8=i
 ·subst e8;simp[h8]
 rw[if_neg e8]
 by_cases e7:7=i
 ·subst e7;simp[h7]
 rw[if_neg e7]
 by_cases e6:6=i
 ·subst e6;simp[h6]
 rw[if_neg e6];rcases h i with e|⟨v,e,_⟩
 ·exact e
 ·simp at e;omega
theorem zOz (d:NodeD) (s:Value) (x:Int):(zAO d s).setIfInBounds 9 (.int .i64 x)=zAO {d with group:=x} s:=rfl
def zDp (d:NodeD):NodeD:=if d.kind=3 then {kind:=d.kind,set:=d.set} else if d.kind=6 then {kind:=d.kind,lo:=min (max d.lo 0) 100,hi:=if d.hi = -1 then min d.hi 100 else if min d.hi 100<min (max d.lo 0) 100 then min (max d.lo 0) 100 else min d.hi 100,lazy:=d.lazy} else if d.kind=7 then {kind:=d.kind,group:=min (max d.group 1) 20} else {kind:=d.kind}
def zEd (d:NodeD) (n:Nat):Int:=if d.kind=4\/d.kind=5 then (if (n:Int)<2 then 2 else n) else if d.kind=6\/d.kind=7 then 1 else 0
theorem zNe (d:NodeD) (n:Nat) (h:1<=d.kind/\d.kind<=13):((((((eqS d.set (zDp d).set&&d.lo == (zDp d).lo)&&d.hi == (zDp d).hi)&&d.lazy == (zDp d).lazy)&&d.group == (zDp d).group)&&(n:Int) == zEd d n)&&((d.kind == 3) == !eqS d.set zAU))=zA7 d n:=by
 obtain⟨z,hz⟩:∃ z,d.lazy=z:=⟨_,rfl⟩;obtain⟨e,he⟩:∃ e,eqS d.set zAU=e:=⟨_,rfl⟩;unfold zDp zEd
 by_cases h3:d.kind=3
 ·rw[if_pos h3,if_neg (by omega),if_neg (by omega)]
  cases e<;>cases z<;>(rw[Bool.eq_iff_iff];simp[zA7,zAf,zDI,he,hz,zC4,h3]<;>omega)
 rw[if_neg h3]
 by_cases h4:d.kind=4
 ·rw[if_neg (by omega),if_neg (by omega),if_pos (by omega)]
  obtain⟨K,hK⟩:∃ K:Int,(if (n:Int)<2 then 2 else (n:Int))=K:=⟨_,rfl⟩
  rw[hK];have hK2:K=2/\(n:Int)<2\/K=n/\2<=(n:Int):=by rw[← hK];split<;>omega
  cases e<;>cases z<;>(rw[Bool.eq_iff_iff];simp[zA7,zAf,zDI,he,hz,zC4,h4]<;>omega)
 by_cases h5:d.kind=5
 ·rw[if_neg (by omega),if_neg (by omega),if_pos (by omega)]
  obtain⟨K,hK⟩:∃ K:Int,(if (n:Int)<2 then 2 else (n:Int))=K:=⟨_,rfl⟩
  rw[hK];have hK2:K=2/\(n:Int)<2\/K=n/\2<=(n:Int):=by rw[← hK];split<;>omega
  cases e<;>cases z<;>(rw[Bool.eq_iff_iff];simp[zA7,zAf,zDI,he,hz,zC4,h5]<;>omega)
 by_cases h6:d.kind=6
 ·rw[if_pos h6,if_neg (show ¬ (d.kind=4\/d.kind=5) by omega),if_pos (show d.kind=6\/d.kind=7 by omega)]
  obtain⟨A0,hA⟩:∃ A0:Int,min (max d.lo 0) 100=A0:=⟨_,rfl⟩;obtain⟨B0,hB⟩:∃ B0:Int,min d.hi 100=B0:=⟨_,rfl⟩;rw[hA,hB]
  by_cases hh:d.hi = -1
  ·rw[if_pos hh]
   cases e<;>cases z<;>(rw[Bool.eq_iff_iff];simp[zA7,zAf,zDI,he,hz,zC4,h6]<;>omega)
  ·rw[if_neg hh];obtain⟨M,hM⟩:∃ M:Int,(if B0<A0 then A0 else B0)=M:=⟨_,rfl⟩
   rw[hM];have hM2:M=A0/\B0<A0\/M=B0/\A0<=B0:=by rw[← hM];split<;>omega
   cases e<;>cases z<;>(rw[Bool.eq_iff_iff];simp[zA7,zAf,zDI,he,hz,zC4,h6]<;>omega)
 rw[if_neg h6]
 by_cases h7:d.kind=7
 ·rw[if_pos h7,if_neg (by omega),if_pos (by omega)]
  obtain⟨G0,hG⟩:∃ G0:Int,min (max d.group 1) 20=G0:=⟨_,rfl⟩;rw[hG]
  cases e<;>cases z<;>(rw[Bool.eq_iff_iff];simp[zA7,zAf,zDI,he,hz,zC4,h7]<;>omega)
 rw[if_neg h7,if_neg (by omega),if_neg (by omega)]
 cases e<;>cases z<;>(rw[Bool.eq_iff_iff];simp[zA7,zAf,zDI,he,hz,zC4,h3,h4,h5,h6,h7]<;>omega)
theorem zQn (d:NodeD) (p:Option Addr) (n c:Nat) (hn:n<=1000000000) (hc:n<=c) (w0:World) :
  Calls Tryz.prog 87 #[zAQ d (.slice p n c)] w0 (Rt (.bool (zA7 d n)) w0):=by
 have H:=Hold.start w0
 by_cases hlo:d.kind<1
 ·have dl:decide (d.kind<1)=true:=decide_eq_true hlo;have d3:(d.kind == 3)=false:=by rw[beq_eq_false_iff_ne];omega
  have d4:(d.kind == 4)=false:=by rw[beq_eq_false_iff_ne];omega
  have d5:(d.kind == 5)=false:=by rw[beq_eq_false_iff_ne];omega
  have d6:(d.kind == 6)=false:=by rw[beq_eq_false_iff_ne];omega
  have d7:(d.kind == 7)=false:=by rw[beq_eq_false_iff_ne];omega
  have HK:=Lib.hid hlo;clear hlo
  go_enter Tryz.func87,Tryz.ntmps87
  go_wp2_with (first|((with_reducible refine kg 1 ?_);(first|refine kA 1 H ?_|refine kS 1 H ?_|refine kB 1 H ?_);clear H;intro b1 w H;try simp only[nr]at H)|((with_reducible refine kg 3 ?_);(first|refine kA 3 H ?_|refine kS 3 H ?_|refine kB 3 H ?_);clear H;intro b3 w H;try simp only[nr]at H)|(first|((with_reducible refine gT ?_);(refine aT H ?_;clear H;intro w H;try simp only[nr]at H))|((with_reducible refine gL ?_);refine aG H ?_)|((with_reducible refine gZ ?_);refine nbK ?_)))
  go_ret;exact⟨retb (by rw[zA7,zHH d n (.inl HK.out)];rfl),H.below⟩
 have dl:decide (d.kind<1)=false:=decide_eq_false hlo
 by_cases hhi:d.kind > 13
 ·have dh:decide (d.kind > 13)=true:=decide_eq_true hhi;have dh2:decide (13<d.kind)=true:=decide_eq_true hhi;have d3:(d.kind == 3)=false:=by rw[beq_eq_false_iff_ne];omega
  have d4:(d.kind == 4)=false:=by rw[beq_eq_false_iff_ne];omega
  have d5:(d.kind == 5)=false:=by rw[beq_eq_false_iff_ne];omega
  have d6:(d.kind == 6)=false:=by rw[beq_eq_false_iff_ne];omega
  have d7:(d.kind == 7)=false:=by rw[beq_eq_false_iff_ne];omega
  have HK:=Lib.hid hhi;clear hlo hhi
  go_enter Tryz.func87,Tryz.ntmps87
  go_wp2_with (first|((with_reducible refine kg 1 ?_);(first|refine kA 1 H ?_|refine kS 1 H ?_|refine kB 1 H ?_);clear H;intro b1 w H;try simp only[nr]at H)|((with_reducible refine kg 3 ?_);(first|refine kA 3 H ?_|refine kS 3 H ?_|refine kB 3 H ?_);clear H;intro b3 w H;try simp only[nr]at H)|(first|((with_reducible refine gT ?_);(refine aT H ?_;clear H;intro w H;try simp only[nr]at H))|((with_reducible refine gL ?_);refine aG H ?_)|((with_reducible refine gZ ?_);refine nbK ?_)))
  go_ret;exact⟨retb (by rw[zA7,zHH d n (.inr HK.out)];rfl),H.below⟩
 have dh:decide (d.kind > 13)=false:=decide_eq_false hhi;have dh2:decide (13<d.kind)=false:=decide_eq_false hhi;have HR:=Lib.hid (And.intro hlo hhi);clear hlo hhi
 go_enter Tryz.func87,Tryz.ntmps87
 go_upto_block 0 with (first|((with_reducible refine kg 1 ?_);(first|refine kA 1 H ?_|refine kS 1 H ?_|refine kB 1 H ?_);clear H;intro b1 w H;try simp only[nr]at H)|((with_reducible refine kg 3 ?_);(first|refine kA 3 H ?_|refine kS 3 H ?_|refine kB 3 H ?_);clear H;intro b3 w H;try simp only[nr]at H)|(first|((with_reducible refine gT ?_);(refine aT H ?_;clear H;intro w H;try simp only[nr]at H))|((with_reducible refine gL ?_);refine aG H ?_)|((with_reducible refine gZ ?_);refine nbK ?_)))
 simp only[pl];refine wp_cut (fun a' w'=>(∃ t:Array Value,a'=({tmps:=t,defers:=[]}:Act)/\t.size=114/\t[1]?=some (.pointer (some ⟨b1,0,none⟩))/\t[3]?=some (.pointer (some ⟨b3,0,none⟩))/\t[4]?=some (.int .i64 (zEd d n)))/\Hold w0 w' [.blk b1 (zAO d (.slice p n c)) 28,.blk b3 (zAO (zDp d) (.slice p n c)) 28]) ?rest ?first
 case first =>
  intro J K' hJ hM
  by_cases h3:d.kind=3
  ·have d3:(d.kind == 3)=true:=by rw[h3];rfl
   have HK:=Lib.hid h3;clear h3
   go_wp2_with (first|((with_reducible refine kg 1 ?_);(first|refine kA 1 H ?_|refine kS 1 H ?_|refine kB 1 H ?_);clear H;intro b1 w H;try simp only[nr]at H)|((with_reducible refine kg 3 ?_);(first|refine kA 3 H ?_|refine kS 3 H ?_|refine kB 3 H ?_);clear H;intro b3 w H;try simp only[nr]at H)|(first|((with_reducible refine gT ?_);(refine aN H ?_;clear H;intro w H;(try simp only[nr]at H);try simp only[zDg,nrl]at H))|((with_reducible refine gL ?_);refine aVn H ?_)))
   rw[zPE]at H;have EB:=Lib.hid (show zDp d={kind:=d.kind,set:=d.set} by unfold zDp;rw[if_pos HK.out])
   have EK:=Lib.hid (show zEd d n=0 by have hk:=HK.out;unfold zEd;rw[if_neg (by omega),if_neg (by omega)])
   rw[← EB.out]at H
   (refine Met.intro ?_;go_step;exact⟨⟨_,rfl,rfl,rfl,rfl,by rw[EK.out];(first|rfl|(rw[if_pos (by omega)];rfl)|(rw[if_neg (by omega)];rfl))⟩,H⟩)
  have d3:(d.kind == 3)=false:=by rw[beq_eq_false_iff_ne];exact h3
  by_cases h45:d.kind=4\/d.kind=5
  ·obtain⟨q4,hq4⟩:∃ q,(d.kind == 4)=q:=⟨_,rfl⟩;have d5:q4=false->(d.kind == 5)=true:=fun h=>by rcases h45 with h4|h5;(rw[h4,h]at hq4;exact absurd hq4 (by decide));(rw[h5];rfl)
   have HK:=Lib.hid h45;clear h3 h45
   cases q4
   all_goals
    (try have d5:=d5 rfl)
    go_wp2_with (first|((with_reducible refine kg 1 ?_);(first|refine kA 1 H ?_|refine kS 1 H ?_|refine kB 1 H ?_);clear H;intro b1 w H;try simp only[nr]at H)|((with_reducible refine kg 3 ?_);(first|refine kA 3 H ?_|refine kS 3 H ?_|refine kB 3 H ?_);clear H;intro b3 w H;try simp only[nr]at H)|((with_reducible refine gL ?_);refine aG H ?_))
    all_goals
     have EB:=Lib.hid (show zDp d={kind:=d.kind} by have hk:=HK.out;unfold zDp;rw[if_neg (by omega),if_neg (by omega),if_neg (by omega)])
     have EK:=Lib.hid (show zEd d n=if (n:Int)<2 then 2 else (n:Int) by have hk:=HK.out;unfold zEd;rw[if_pos hk])
     rw[← EB.out]at H
     (refine Met.intro ?_;go_step;exact⟨⟨_,rfl,rfl,rfl,rfl,by rw[EK.out];(first|rfl|(rw[if_pos (by omega)];rfl)|(rw[if_neg (by omega)];rfl))⟩,H⟩)
  have d4:(d.kind == 4)=false:=by rw[beq_eq_false_iff_ne];omega
  have d5:(d.kind == 5)=false:=by rw[beq_eq_false_iff_ne];omega
  by_cases h6:d.kind=6
  ·have d6:(d.kind == 6)=true:=by rw[h6];rfl
   have HK:=Lib.hid h6;clear h3 h45 h6
   go_upto_region 12 with (first|((with_reducible refine kg 1 ?_);(first|refine kA 1 H ?_|refine kS 1 H ?_|refine kB 1 H ?_);clear H;intro b1 w H;try simp only[nr]at H)|((with_reducible refine kg 3 ?_);(first|refine kA 3 H ?_|refine kS 3 H ?_|refine kB 3 H ?_);clear H;intro b3 w H;try simp only[nr]at H)|fail)
   obtain⟨A0,hA0⟩:∃ A0:Int,min (max d.lo 0) 100=A0:=⟨_,rfl⟩;obtain⟨B0,hB0⟩:∃ B0:Int,min d.hi 100=B0:=⟨_,rfl⟩;have HAB:=Lib.hid (And.intro hA0 hB0);clear hA0 hB0;have hS:∀ W,RelK b3 [(6,.int .i64 A0),(7,.int .i64 B0),(8,.bool d.lazy)] w W->∃ ds:Array Value,ds.size=10/\(∀ i,ds[i]?=(zAO {kind:=d.kind} (.slice p n c))[i]?\/∃ v,(i,v) ∈ ([(6,.int .i64 A0),(7,.int .i64 B0),(8,.bool d.lazy)]:List (Nat × Value))/\ds[i]?=some v)/\Hold w0 W [.blk b1 (zAO d (.slice p n c)) 28,.blk b3 ds 28]:=fun W hr=>by
    obtain⟨ds,h1,h2,h3⟩:=H.relK (i:=1) i_1 hr;exact⟨ds,h1,h2,h3⟩
   refine zCF (RelK b3 [(6,.int .i64 A0),(7,.int .i64 B0),(8,.bool d.lazy)]) RelK.refl RelK.trans RelK.drew 16 [fun u _=>u=pt b1 6,fun u _=>u=.int .i64 d.lo,fun u _=>u=.int .i64 (max d.lo 0),fun u _=>u=.int .i64 A0,fun u _=>u=pt b1 7,fun u _=>u=.int .i64 d.hi,fun u _=>u=.int .i64 B0,fun u _=>u=pt b1 8,fun u _=>u=.bool d.lazy,fun u _=>u=.int .i64 1,fun u _=>u=pt b3 6,zN0 b3 6 (.int .i64 A0),fun u _=>u=pt b3 7,zN0 b3 7 (.int .i64 B0),fun u _=>u=pt b3 8,zN0 b3 8 (.bool d.lazy)]
    (by repeat (first|exact trivial|refine⟨zAe _,?_⟩|refine⟨zJL (fun v' hv'=>by simpa using hv'),?_⟩)) (by kernel_rfl) (by kernel_rfl) (by kernel_rfl) ?ob ?en
   case ob =>
    refine⟨?_,?_,?_,?_,?_,?_,?_,?_,?_,?_,?_,?_,?_,?_,?_,?_,trivial⟩<;>intro A W h
    ·(have e:A.eval (.tmp 1)=.pointer (some ⟨b1,0,none⟩):=h.f 1;refine zB8 rfl (zAF RelK.refl rfl ?_);simp only[execOp,e];simp[go_sem])
    ·(obtain⟨ds,_,_,H2⟩:=hS W h.rel;exact zB8 rfl (zAF RelK.refl rfl (zAG rfl (h.d 0 35) zAI (H2.cell (i:=0) .zero 6))))
    ·exact zB8 rfl (zAF RelK.refl rfl (zFK rfl (h.d 1 36) rfl))
    ·(rw[← HAB.out.1];exact zB8 rfl (zAF RelK.refl rfl (zFQ rfl (h.d 2 37) rfl)))
    ·(have e:A.eval (.tmp 1)=.pointer (some ⟨b1,0,none⟩):=h.f 1;refine zB8 rfl (zAF RelK.refl rfl ?_);simp only[execOp,e];simp[go_sem])
    ·(obtain⟨ds,_,_,H2⟩:=hS W h.rel;exact zB8 rfl (zAF RelK.refl rfl (zAG rfl (h.d 4 39) zAI (H2.cell (i:=0) .zero 7))))
    ·(rw[← HAB.out.2];exact zB8 rfl (zAF RelK.refl rfl (zFQ rfl (h.d 5 40) rfl)))
    ·(have e:A.eval (.tmp 1)=.pointer (some ⟨b1,0,none⟩):=h.f 1;refine zB8 rfl (zAF RelK.refl rfl ?_);simp only[execOp,e];simp[go_sem])
    ·(obtain⟨ds,_,_,H2⟩:=hS W h.rel;exact zB8 rfl (zAF RelK.refl rfl (zAG rfl (h.d 7 42) zBM (H2.cell (i:=0) .zero 8))))
    ·exact zB8 rfl (zNN RelK.refl rfl rfl rfl)
    ·(have e:A.eval (.tmp 3)=.pointer (some ⟨b3,0,none⟩):=h.f 3;refine zB8 rfl (zAF RelK.refl rfl ?_);simp only[execOp,e];simp[go_sem])
    ·(obtain⟨ds,hz,_,H2⟩:=hS W h.rel;exact zKw rfl rfl rfl (h.d 10 44) (h.d 3 38) (.head _) ⟨ds,_,(H2.blk (i:=1) i_1).2,by omega⟩ (zAH zAI) rfl)
    ·(have e:A.eval (.tmp 3)=.pointer (some ⟨b3,0,none⟩):=h.f 3;refine zB8 rfl (zAF RelK.refl rfl ?_);simp only[execOp,e];simp[go_sem])
    ·(obtain⟨ds,hz,_,H2⟩:=hS W h.rel;exact zKw rfl rfl rfl (h.d 12 45) (h.d 6 41) (.tail _ (.head _)) ⟨ds,_,(H2.blk (i:=1) i_1).2,by omega⟩ (zAH zAI) rfl)
    ·(have e:A.eval (.tmp 3)=.pointer (some ⟨b3,0,none⟩):=h.f 3;refine zB8 rfl (zAF RelK.refl rfl ?_);simp only[execOp,e];simp[go_sem])
    ·(obtain⟨ds,hz,_,H2⟩:=hS W h.rel;exact zKw rfl rfl rfl (h.d 14 46) (h.d 8 43) (.tail _ (.tail _ (.head _))) ⟨ds,_,(H2.blk (i:=1) i_1).2,by omega⟩ (zAH zBM) rfl)
   case en =>
    intro vals W1 hrel hv hlk;have v0:vals 0=.pointer (some ⟨b1,6,none⟩):=hv 0 (by omega)
    have v1:vals 1=.int .i64 d.lo:=hv 1 (by omega)
    have v2:vals 2=.int .i64 (max d.lo 0):=hv 2 (by omega)
    have v3:vals 3=.int .i64 A0:=hv 3 (by omega)
    have v4:vals 4=.pointer (some ⟨b1,7,none⟩):=hv 4 (by omega)
    have v5:vals 5=.int .i64 d.hi:=hv 5 (by omega)
    have v6:vals 6=.int .i64 B0:=hv 6 (by omega)
    have v7:vals 7=.pointer (some ⟨b1,8,none⟩):=hv 7 (by omega)
    have v8:vals 8=.bool d.lazy:=hv 8 (by omega)
    have v9:vals 9=.int .i64 1:=hv 9 (by omega)
    have v10:vals 10=.pointer (some ⟨b3,6,none⟩):=hv 10 (by omega)
    have v12:vals 12=.pointer (some ⟨b3,7,none⟩):=hv 12 (by omega)
    have v14:vals 14=.pointer (some ⟨b3,8,none⟩):=hv 14 (by omega)
    obtain⟨ds,hz,hd,H2⟩:=hS W1 hrel;have hblk:=(H2.blk (i:=1) i_1).2;have hds:ds=zAO {kind:=d.kind,lo:=A0,hi:=B0,lazy:=d.lazy} (.slice p n c):=by
     obtain⟨_,cs6,T6,x6,y6⟩:=hv 11 (by omega)
     obtain⟨_,cs7,T7,x7,y7⟩:=hv 13 (by omega)
     obtain⟨_,cs8,T8,x8,y8⟩:=hv 15 (by omega)
     rw[hblk]at x6 x7 x8
     cases x6;cases x7;cases x8
     exact zKV _ ds hz rfl hd y6 y7 y8
    rw[hds]at H2;simp only[fa,Nat.reduceAdd];rw[v0,v1,v2,v3,v4,v5,v6,v7,v8,v9,v10,v12,v14];clear hv v0 v1 v2 v3 v4 v5 v6 v7 v8 v9 v10 v12 v14 hlk hrel H hS hblk hds hd hz;have H:=H2;clear H2;simp only[pl]
    by_cases hh:d.hi = -1
    ·have dh:(d.hi == -1)=true:=by rw[beq_iff_eq];exact hh
     have HH:=Lib.hid hh;clear hh
     go_wp2_with (first|((with_reducible refine kg 1 ?_);(first|refine kA 1 H ?_|refine kS 1 H ?_|refine kB 1 H ?_);clear H;intro b1 w H;try simp only[nr]at H)|((with_reducible refine kg 3 ?_);(first|refine kA 3 H ?_|refine kS 3 H ?_|refine kB 3 H ?_);clear H;intro b3 w H;try simp only[nr]at H)|((with_reducible refine gL ?_);refine aG H ?_))
     have EB:=Lib.hid (show zDp d={kind:=d.kind,lo:=A0,hi:=B0,lazy:=d.lazy} by have hk:=HK.out;have hA:=HAB.out.1;have hB:=HAB.out.2;unfold zDp;rw[if_neg (by omega),if_pos hk,hA,hB,if_pos HH.out])
     have EK:=Lib.hid (show zEd d n=1 by have hk:=HK.out;unfold zEd;rw[if_neg (by omega),if_pos (by omega)])
     go_wp2_with fail
     rw[← EB.out]at H
     (refine Met.intro ?_;go_step;exact⟨⟨_,rfl,rfl,rfl,rfl,by rw[EK.out];(first|rfl|(rw[if_pos (by omega)];rfl)|(rw[if_neg (by omega)];rfl))⟩,H⟩)
    have dh:(d.hi == -1)=false:=by rw[beq_eq_false_iff_ne];exact hh
    have HH:=Lib.hid hh;clear hh
    go_wp2_with (first|((with_reducible refine kg 1 ?_);(first|refine kA 1 H ?_|refine kS 1 H ?_|refine kB 1 H ?_);clear H;intro b1 w H;try simp only[nr]at H)|((with_reducible refine kg 3 ?_);(first|refine kA 3 H ?_|refine kS 3 H ?_|refine kB 3 H ?_);clear H;intro b3 w H;try simp only[nr]at H)|(first|((with_reducible refine gT ?_);(refine aO H ?_;clear H;intro w H;try simp only[nr]at H))|((with_reducible refine gL ?_);refine aG H ?_)))
    all_goals
     rw[zPg]at H;have EB:=(show zDp d={kind:=d.kind,lo:=A0,hi:=if B0<A0 then A0 else B0,lazy:=d.lazy} by have hk:=HK.out;have hA:=HAB.out.1;have hB:=HAB.out.2;unfold zDp;rw[if_neg (by omega),if_pos hk,hA,hB,if_neg HH.out])
     have EK:=Lib.hid (show zEd d n=1 by have hk:=HK.out;unfold zEd;rw[if_neg (by omega),if_pos (by omega)])
     (refine Met.intro ?_;go_step;exact⟨⟨_,rfl,rfl,rfl,rfl,by rw[EK.out];rfl⟩,(by rw[EB];exact H)⟩)
  have d6:(d.kind == 6)=false:=by rw[beq_eq_false_iff_ne];exact h6
  by_cases h7:d.kind=7
  ·have d7:(d.kind == 7)=true:=by rw[h7];rfl
   have HK:=Lib.hid h7;clear h3 h45 h6 h7
   go_upto_region 16 with (first|((with_reducible refine kg 1 ?_);(first|refine kA 1 H ?_|refine kS 1 H ?_|refine kB 1 H ?_);clear H;intro b1 w H;try simp only[nr]at H)|((with_reducible refine kg 3 ?_);(first|refine kA 3 H ?_|refine kS 3 H ?_|refine kB 3 H ?_);clear H;intro b3 w H;try simp only[nr]at H)|fail)
   refine wr_ 5 [fun v _=>v=pt b1 9,fun v _=>v=.int .i64 (d).group,fun v _=>v=.int .i64 (max d.group 1),fun v _=>v=.int .i64 (min (max d.group 1) 20),fun v _=>v=Value.int IntKind.i64 1] ?ob ?en
   case ob =>
    refine⟨?_,?_,?_,?_,?_,trivial⟩<;>intro A W h
    ·(have e1:A.eval (.tmp 1)=.pointer (some ⟨b1,0,none⟩):=h.f 1;refine zAA rfl ?_;simp only[execOp,e1];(simp[go_sem]<;>first|done|omega|(rw[IntKind.wrap_i64];omega)|(rw[IntKind.wrap_u8];omega)|(rw[IntKind.wrap_u64];omega)))
    ·exact zAA rfl (zAG rfl (h.d 0 58) (by first|(with_reducible exact zAI)|(with_reducible exact one_u8)|(with_reducible exact zBM)|(with_reducible exact one_str)|(with_reducible exact zAh)|(with_reducible exact one_u64)|(with_reducible exact zAz)) ((H.call h.below).cell (i:=0) .zero 9)) (by decide)
    ·exact zAA rfl (zFK rfl (h.d 1 59) rfl) (by decide)
    ·exact zAA rfl (zFQ rfl (h.d 2 60) rfl) (by decide)
    ·exact zB2 rfl rfl (rfl)
   case en =>
    intro vals W hbw hv _;simp only[fa,Nat.reduceAdd];rw[e_ hv 0,e_ hv 1,e_ hv 2,e_ hv 3,e_ hv 4];clear hv
    try simp only[pl]
    replace H:=H.call hbw
    go_wp2_with (first|((with_reducible refine kg 1 ?_);(first|refine kA 1 H ?_|refine kS 1 H ?_|refine kB 1 H ?_);clear H;intro b1 w H;try simp only[nr]at H)|((with_reducible refine kg 3 ?_);(first|refine kA 3 H ?_|refine kS 3 H ?_|refine kB 3 H ?_);clear H;intro b3 w H;try simp only[nr]at H)|((with_reducible refine gT ?_);(refine aO H ?_;clear H;intro w H;try simp only[nr]at H)))
    rw[zOz]at H;have EB:=Lib.hid (show zDp d={kind:=d.kind,group:=min (max d.group 1) 20} by have hk:=HK.out;unfold zDp;rw[if_neg (by omega),if_neg (by omega),if_pos hk])
    have EK:=Lib.hid (show zEd d n=1 by have hk:=HK.out;unfold zEd;rw[if_neg (by omega),if_pos (by omega)])
    rw[← EB.out]at H
    (refine Met.intro ?_;go_step;exact⟨⟨_,rfl,rfl,rfl,rfl,by rw[EK.out];(first|rfl|(rw[if_pos (by omega)];rfl)|(rw[if_neg (by omega)];rfl))⟩,H⟩)
  have d7:(d.kind == 7)=false:=by rw[beq_eq_false_iff_ne];exact h7
  have HK:=Lib.hid (And.intro h3 (And.intro h45 (And.intro h6 h7)));clear h3 h45 h6 h7
  go_wp2_with (first|((with_reducible refine kg 1 ?_);(first|refine kA 1 H ?_|refine kS 1 H ?_|refine kB 1 H ?_);clear H;intro b1 w H;try simp only[nr]at H)|((with_reducible refine kg 3 ?_);(first|refine kA 3 H ?_|refine kS 3 H ?_|refine kB 3 H ?_);clear H;intro b3 w H;try simp only[nr]at H)|((with_reducible refine gL ?_);refine aG H ?_))
  have EB:=Lib.hid (show zDp d={kind:=d.kind} by unfold zDp;rw[if_neg HK.out.1,if_neg HK.out.2.2.1,if_neg HK.out.2.2.2])
  have EK:=Lib.hid (show zEd d n=0 by have h1:=HK.out.2.2.1;have h2:=HK.out.2.2.2;unfold zEd;rw[if_neg HK.out.2.1,if_neg (by omega)])
  rw[← EB.out]at H
  (refine Met.intro ?_;go_step;exact⟨⟨_,rfl,rfl,rfl,rfl,by rw[EK.out];(first|rfl|(rw[if_pos (by omega)];rfl)|(rw[if_neg (by omega)];rfl))⟩,H⟩)
 case rest =>
  (rintro _ wc ⟨⟨t,rfl,ht,e1,e3,e4⟩,hcut⟩;have hl:=zRQ t ht;clear ht;obtain⟨u0,hl⟩:=hl;obtain⟨u1,hl⟩:=hl;obtain⟨u2,hl⟩:=hl;obtain⟨u3,hl⟩:=hl;obtain⟨u4,hl⟩:=hl;obtain⟨u5,hl⟩:=hl;obtain⟨u6,hl⟩:=hl;obtain⟨u7,hl⟩:=hl;obtain⟨u8,hl⟩:=hl;obtain⟨u9,hl⟩:=hl;obtain⟨u10,hl⟩:=hl;obtain⟨u11,hl⟩:=hl;obtain⟨u12,hl⟩:=hl;obtain⟨u13,hl⟩:=hl;obtain⟨u14,hl⟩:=hl;obtain⟨u15,hl⟩:=hl;obtain⟨u16,hl⟩:=hl;obtain⟨u17,hl⟩:=hl;obtain⟨u18,hl⟩:=hl;obtain⟨u19,hl⟩:=hl;obtain⟨u20,hl⟩:=hl;obtain⟨u21,hl⟩:=hl;obtain⟨u22,hl⟩:=hl;obtain⟨u23,hl⟩:=hl;obtain⟨u24,hl⟩:=hl;obtain⟨u25,hl⟩:=hl;obtain⟨u26,hl⟩:=hl;obtain⟨u27,hl⟩:=hl;obtain⟨u28,hl⟩:=hl;obtain⟨u29,hl⟩:=hl;obtain⟨u30,hl⟩:=hl;obtain⟨u31,hl⟩:=hl;obtain⟨u32,hl⟩:=hl;obtain⟨u33,hl⟩:=hl;obtain⟨u34,hl⟩:=hl;obtain⟨u35,hl⟩:=hl;obtain⟨u36,hl⟩:=hl;obtain⟨u37,hl⟩:=hl;obtain⟨u38,hl⟩:=hl;obtain⟨u39,hl⟩:=hl;obtain⟨u40,hl⟩:=hl;obtain⟨u41,hl⟩:=hl;obtain⟨u42,hl⟩:=hl;obtain⟨u43,hl⟩:=hl;obtain⟨u44,hl⟩:=hl;obtain⟨u45,hl⟩:=hl;obtain⟨u46,hl⟩:=hl;obtain⟨u47,hl⟩:=hl;obtain⟨u48,hl⟩:=hl;obtain⟨u49,hl⟩:=hl;obtain⟨u50,hl⟩:=hl;obtain⟨u51,hl⟩:=hl;obtain⟨u52,hl⟩:=hl;obtain⟨u53,hl⟩:=hl;obtain⟨u54,hl⟩:=hl;obtain⟨u55,hl⟩:=hl;obtain⟨u56,hl⟩:=hl;obtain⟨u57,hl⟩:=hl;obtain⟨u58,hl⟩:=hl;obtain⟨u59,hl⟩:=hl;obtain⟨u60,hl⟩:=hl;obtain⟨u61,hl⟩:=hl;obtain⟨u62,hl⟩:=hl;obtain⟨u63,hl⟩:=hl;obtain⟨u64,hl⟩:=hl;obtain⟨u65,hl⟩:=hl;obtain⟨u66,hl⟩:=hl;obtain⟨u67,hl⟩:=hl;obtain⟨u68,hl⟩:=hl;obtain⟨u69,hl⟩:=hl;obtain⟨u70,hl⟩:=hl;obtain⟨u71,hl⟩:=hl;obtain⟨u72,hl⟩:=hl;obtain⟨u73,hl⟩:=hl;obtain⟨u74,hl⟩:=hl;obtain⟨u75,hl⟩:=hl;obtain⟨u76,hl⟩:=hl;obtain⟨u77,hl⟩:=hl;obtain⟨u78,hl⟩:=hl;obtain⟨u79,hl⟩:=hl;obtain⟨u80,hl⟩:=hl;obtain⟨u81,hl⟩:=hl;obtain⟨u82,hl⟩:=hl;obtain⟨u83,hl⟩:=hl;obtain⟨u84,hl⟩:=hl;obtain⟨u85,hl⟩:=hl;obtain⟨u86,hl⟩:=hl;obtain⟨u87,hl⟩:=hl;obtain⟨u88,hl⟩:=hl;obtain⟨u89,hl⟩:=hl;obtain⟨u90,hl⟩:=hl;obtain⟨u91,hl⟩:=hl;obtain⟨u92,hl⟩:=hl;obtain⟨u93,hl⟩:=hl;obtain⟨u94,hl⟩:=hl;obtain⟨u95,hl⟩:=hl;obtain⟨u96,hl⟩:=hl;obtain⟨u97,hl⟩:=hl;obtain⟨u98,hl⟩:=hl;obtain⟨u99,hl⟩:=hl;obtain⟨u100,hl⟩:=hl;obtain⟨u101,hl⟩:=hl;obtain⟨u102,hl⟩:=hl;obtain⟨u103,hl⟩:=hl;obtain⟨u104,hl⟩:=hl;obtain⟨u105,hl⟩:=hl;obtain⟨u106,hl⟩:=hl;obtain⟨u107,hl⟩:=hl;obtain⟨u108,hl⟩:=hl;obtain⟨u109,hl⟩:=hl;obtain⟨u110,hl⟩:=hl;obtain⟨u111,hl⟩:=hl;obtain⟨u112,hl⟩:=hl;obtain⟨u113,hl⟩:=hl;subst hl;(replace e1:some u1=some (.pointer (some ⟨b1,0,none⟩)):=e1);(cases e1);(replace e3:some u3=some (.pointer (some ⟨b3,0,none⟩)):=e3);(cases e3);(replace e4:some u4=some (.int .i64 (zEd d n)):=e4);(cases e4))
  clear H;have H:=hcut;clear hcut;obtain⟨bd,hbd⟩:∃ bd:NodeD,zDp d=bd:=⟨_,rfl⟩;rw[hbd]at H;obtain⟨K,hK⟩:∃ K:Int,zEd d n=K:=⟨_,rfl⟩;rw[hK];have HB:=Lib.hid (And.intro hbd hK);clear hbd hK
  go_upto_region 17 with fail
  refine ws_ 34 [fun v _=>v=Value.pointer (some ⟨b1,1,none⟩),fun v _=>v=setV (d.set),fun v _=>v=Value.pointer (some ⟨b3,1,none⟩),fun v _=>v=setV (bd.set),fun v _=>v=Value.bool (eqS (d.set) (bd.set)),fun v _=>v=Value.bool (eqS (d.set) (bd.set)),fun v _=>v=iT (true) (eqS (d.set) (bd.set)) true (.pointer (some ⟨b1,6,none⟩)),fun v _=>v=iT (true) (eqS (d.set) (bd.set)) true (.int .i64 (d.lo)),fun v _=>v=iT (true) (eqS (d.set) (bd.set)) true (.pointer (some ⟨b3,6,none⟩)),fun v _=>v=iT (true) (eqS (d.set) (bd.set)) true (.int .i64 (bd.lo)),fun v _=>v=iT (true) (eqS (d.set) (bd.set)) true (.bool ((d.lo) == (bd.lo))),fun v _=>v=Value.bool ((eqS (d.set) (bd.set))&&((d.lo) == (bd.lo))),fun v _=>v=Value.bool ((eqS (d.set) (bd.set))&&((d.lo) == (bd.lo))),fun v _=>v=iT (true) ((eqS (d.set) (bd.set))&&((d.lo) == (bd.lo))) true (.pointer (some ⟨b1,7,none⟩)),fun v _=>v=iT (true) ((eqS (d.set) (bd.set))&&((d.lo) == (bd.lo))) true (.int .i64 (d.hi)),fun v _=>v=iT (true) ((eqS (d.set) (bd.set))&&((d.lo) == (bd.lo))) true (.pointer (some ⟨b3,7,none⟩)),fun v _=>v=iT (true) ((eqS (d.set) (bd.set))&&((d.lo) == (bd.lo))) true (.int .i64 (bd.hi)),fun v _=>v=iT (true) ((eqS (d.set) (bd.set))&&((d.lo) == (bd.lo))) true (.bool ((d.hi) == (bd.hi))),fun v _=>v=Value.bool (((eqS (d.set) (bd.set))&&((d.lo) == (bd.lo)))&&((d.hi) == (bd.hi))),fun v _=>v=Value.bool (((eqS (d.set) (bd.set))&&((d.lo) == (bd.lo)))&&((d.hi) == (bd.hi))),fun v _=>v=iT (true) (((eqS (d.set) (bd.set))&&((d.lo) == (bd.lo)))&&((d.hi) == (bd.hi))) true (.pointer (some ⟨b1,8,none⟩)),fun v _=>v=iT (true) (((eqS (d.set) (bd.set))&&((d.lo) == (bd.lo)))&&((d.hi) == (bd.hi))) true (.bool (d.lazy)),fun v _=>v=iT (true) (((eqS (d.set) (bd.set))&&((d.lo) == (bd.lo)))&&((d.hi) == (bd.hi))) true (.pointer (some ⟨b3,8,none⟩)),fun v _=>v=iT (true) (((eqS (d.set) (bd.set))&&((d.lo) == (bd.lo)))&&((d.hi) == (bd.hi))) true (.bool (bd.lazy)),fun v _=>v=iT (true) (((eqS (d.set) (bd.set))&&((d.lo) == (bd.lo)))&&((d.hi) == (bd.hi))) true (.bool ((d.lazy) == (bd.lazy))),fun v _=>v=Value.bool ((((eqS (d.set) (bd.set))&&((d.lo) == (bd.lo)))&&((d.hi) == (bd.hi)))&&((d.lazy) == (bd.lazy))),fun v _=>v=Value.bool ((((eqS (d.set) (bd.set))&&((d.lo) == (bd.lo)))&&((d.hi) == (bd.hi)))&&((d.lazy) == (bd.lazy))),fun v _=>v=iT (true) ((((eqS (d.set) (bd.set))&&((d.lo) == (bd.lo)))&&((d.hi) == (bd.hi)))&&((d.lazy) == (bd.lazy))) true (.pointer (some ⟨b1,9,none⟩)),fun v _=>v=iT (true) ((((eqS (d.set) (bd.set))&&((d.lo) == (bd.lo)))&&((d.hi) == (bd.hi)))&&((d.lazy) == (bd.lazy))) true (.int .i64 (d.group)),fun v _=>v=iT (true) ((((eqS (d.set) (bd.set))&&((d.lo) == (bd.lo)))&&((d.hi) == (bd.hi)))&&((d.lazy) == (bd.lazy))) true (.pointer (some ⟨b3,9,none⟩)),fun v _=>v=iT (true) ((((eqS (d.set) (bd.set))&&((d.lo) == (bd.lo)))&&((d.hi) == (bd.hi)))&&((d.lazy) == (bd.lazy))) true (.int .i64 (bd.group)),fun v _=>v=iT (true) ((((eqS (d.set) (bd.set))&&((d.lo) == (bd.lo)))&&((d.hi) == (bd.hi)))&&((d.lazy) == (bd.lazy))) true (.bool ((d.group) == (bd.group))),fun v _=>v=Value.bool (((((eqS (d.set) (bd.set))&&((d.lo) == (bd.lo)))&&((d.hi) == (bd.hi)))&&((d.lazy) == (bd.lazy)))&&((d.group) == (bd.group))),fun v _=>v=Value.bool (((((eqS (d.set) (bd.set))&&((d.lo) == (bd.lo)))&&((d.hi) == (bd.hi)))&&((d.lazy) == (bd.lazy)))&&((d.group) == (bd.group)))] ?ob ?en
  case ob =>
   refine⟨?_,?_,?_,?_,?_,?_,?_,?_,?_,?_,?_,?_,?_,?_,?_,?_,?_,?_,?_,?_,?_,?_,?_,?_,?_,?_,?_,?_,?_,?_,?_,?_,?_,?_,trivial⟩<;>intro A W h
   ·exact zAA rfl ((by have e:A.eval (.tmp 1)=Value.pointer (some ⟨b1,0,none⟩):=h.f 1;simp only[execOp,e];simp[go_sem]))
   ·exact zAA rfl (zAV rfl (h.d 0 63) zBp rfl (fun j hj=>by have h1:=(H.call h.below).cell (i:=0) .zero (1+j);rcases j with _|_|_|_|j<;>first|exact h1|omega))
   ·exact zAA rfl ((by have e:A.eval (.tmp 3)=Value.pointer (some ⟨b3,0,none⟩):=h.f 3;simp only[execOp,e];simp[go_sem]))
   ·exact zAA rfl (zAV rfl (h.d 2 65) zBp rfl (fun j hj=>by have h1:=(H.call h.below).cell (i:=1) i_1 (1+j);rcases j with _|_|_|_|j<;>first|exact h1|omega))
   ·exact zAA rfl ((zQ2 rfl (h.d 1 64) (h.d 3 66)))
   ·exact zAA rfl (zAl (.inl rfl) (h.d 4 67))
   ·refine sy_ (h.d 5 68) fun hC=>?_;exact(by have e:A.eval (.tmp 1)=Value.pointer (some ⟨b1,0,none⟩):=h.f 1;simp only[execOp,e];simp[go_sem])
   ·refine sy_ (h.d 5 68) fun hC=>?_;exact zAG rfl (zAS (h.d 6 69) hC) zAI ((H.call h.below).cell (i:=0) .zero 6)
   ·refine sy_ (h.d 5 68) fun hC=>?_;exact(by have e:A.eval (.tmp 3)=Value.pointer (some ⟨b3,0,none⟩):=h.f 3;simp only[execOp,e];simp[go_sem])
   ·refine sy_ (h.d 5 68) fun hC=>?_;exact zAG rfl (zAS (h.d 8 71) hC) zAI ((H.call h.below).cell (i:=1) i_1 6)
   ·refine sy_ (h.d 5 68) fun hC=>?_;exact(by have e70:A.eval (.tmp 70)=Value.int .i64 (d.lo):=zAS (h.d 7 70) hC;have e72:A.eval (.tmp 72)=Value.int .i64 (bd.lo):=zAS (h.d 9 72) hC;simp only[execOp,e70,e72];simp[go_sem])
   ·exact zAA rfl (zBJ rfl (h.d 5 68) (fun hb2=>zAS (h.d 10 73) (by (first|(rw[hb2];rfl)|simp[hb2]))))
   ·exact zAA rfl (zAl (.inl rfl) (h.d 11 74))
   ·refine sy_ (h.d 12 75) fun hC=>?_;exact(by have e:A.eval (.tmp 1)=Value.pointer (some ⟨b1,0,none⟩):=h.f 1;simp only[execOp,e];simp[go_sem])
   ·refine sy_ (h.d 12 75) fun hC=>?_;exact zAG rfl (zAS (h.d 13 76) hC) zAI ((H.call h.below).cell (i:=0) .zero 7)
   ·refine sy_ (h.d 12 75) fun hC=>?_;exact(by have e:A.eval (.tmp 3)=Value.pointer (some ⟨b3,0,none⟩):=h.f 3;simp only[execOp,e];simp[go_sem])
   ·refine sy_ (h.d 12 75) fun hC=>?_;exact zAG rfl (zAS (h.d 15 78) hC) zAI ((H.call h.below).cell (i:=1) i_1 7)
   ·refine sy_ (h.d 12 75) fun hC=>?_;exact(by have e77:A.eval (.tmp 77)=Value.int .i64 (d.hi):=zAS (h.d 14 77) hC;have e79:A.eval (.tmp 79)=Value.int .i64 (bd.hi):=zAS (h.d 16 79) hC;simp only[execOp,e77,e79];simp[go_sem])
   ·exact zAA rfl (zBJ rfl (h.d 12 75) (fun hb2=>zAS (h.d 17 80) (by (first|(rw[hb2];rfl)|simp[hb2]))))
   ·exact zAA rfl (zAl (.inl rfl) (h.d 18 81))
   ·refine sy_ (h.d 19 82) fun hC=>?_;exact(by have e:A.eval (.tmp 1)=Value.pointer (some ⟨b1,0,none⟩):=h.f 1;simp only[execOp,e];simp[go_sem])
   ·refine sy_ (h.d 19 82) fun hC=>?_;exact zAG rfl (zAS (h.d 20 83) hC) zBM ((H.call h.below).cell (i:=0) .zero 8)
   ·refine sy_ (h.d 19 82) fun hC=>?_;exact(by have e:A.eval (.tmp 3)=Value.pointer (some ⟨b3,0,none⟩):=h.f 3;simp only[execOp,e];simp[go_sem])
   ·refine sy_ (h.d 19 82) fun hC=>?_;exact zAG rfl (zAS (h.d 22 85) hC) zBM ((H.call h.below).cell (i:=1) i_1 8)
   ·refine sy_ (h.d 19 82) fun hC=>?_;exact(by have e84:A.eval (.tmp 84)=Value.bool (d.lazy):=zAS (h.d 21 84) hC;have e86:A.eval (.tmp 86)=Value.bool (bd.lazy):=zAS (h.d 23 86) hC;simp only[execOp,e84,e86];generalize (d.lazy)=bp;generalize (bd.lazy)=bq;cases bp<;>cases bq<;>simp[go_sem])
   ·exact zAA rfl (zBJ rfl (h.d 19 82) (fun hb2=>zAS (h.d 24 87) (by (first|(rw[hb2];rfl)|simp[hb2]))))
   ·exact zAA rfl (zAl (.inl rfl) (h.d 25 88))
   ·refine sy_ (h.d 26 89) fun hC=>?_;exact(by have e:A.eval (.tmp 1)=Value.pointer (some ⟨b1,0,none⟩):=h.f 1;simp only[execOp,e];simp[go_sem])
   ·refine sy_ (h.d 26 89) fun hC=>?_;exact zAG rfl (zAS (h.d 27 90) hC) zAI ((H.call h.below).cell (i:=0) .zero 9)
   ·refine sy_ (h.d 26 89) fun hC=>?_;exact(by have e:A.eval (.tmp 3)=Value.pointer (some ⟨b3,0,none⟩):=h.f 3;simp only[execOp,e];simp[go_sem])
   ·refine sy_ (h.d 26 89) fun hC=>?_;exact zAG rfl (zAS (h.d 29 92) hC) zAI ((H.call h.below).cell (i:=1) i_1 9)
   ·refine sy_ (h.d 26 89) fun hC=>?_;exact(by have e91:A.eval (.tmp 91)=Value.int .i64 (d.group):=zAS (h.d 28 91) hC;have e93:A.eval (.tmp 93)=Value.int .i64 (bd.group):=zAS (h.d 30 93) hC;simp only[execOp,e91,e93];simp[go_sem])
   ·exact zAA rfl (zBJ rfl (h.d 26 89) (fun hb2=>zAS (h.d 31 94) (by (first|(rw[hb2];rfl)|simp[hb2]))))
   ·exact zAA rfl (zAl (.inr rfl) (h.d 32 95))
  case en =>
   intro vals W hbw hv _;have v33:vals 33=_:=hv 33 (by omega)
   simp only[fa,Nat.reduceAdd];rw[v33];clear hv v33
   try simp only[pl]
   replace H:=H.call hbw;clear hbw;obtain⟨q5,hq5⟩:∃ q:Bool,(((((eqS (d.set) (bd.set))&&((d.lo) == (bd.lo)))&&((d.hi) == (bd.hi)))&&((d.lazy) == (bd.lazy)))&&((d.group) == (bd.group)))=q:=⟨_,rfl⟩;rw[hq5];have HQ:=Lib.hid hq5;clear hq5
   go_upto_region 18 with fail
   refine wr_ 19 [fun v _=>v=Value.bool (q5),fun v _=>v=Value.bool (q5),fun v _=>v=iT (true) (q5) true (.pointer (some ⟨b1,5,none⟩)),fun v _=>v=iT (true) (q5) true ((.slice p n c)),fun v _=>v=iT (true) (q5) true (.int .i64 ((n:Int))),fun v _=>v=iT (true) (q5) true (.int .i64 (K)),fun v _=>v=iT (true) (q5) true (.bool (((n:Int)) == (K))),fun v _=>v=Value.bool ((q5)&&(((n:Int)) == (K))),fun v _=>v=Value.bool ((q5)&&(((n:Int)) == (K))),fun v _=>v=iT (true) ((q5)&&(((n:Int)) == (K))) true (.pointer (some ⟨b1,0,none⟩)),fun v _=>v=iT (true) ((q5)&&(((n:Int)) == (K))) true (.int .i64 (d.kind)),fun v _=>v=iT (true) ((q5)&&(((n:Int)) == (K))) true (.bool ((d.kind) == (3))),fun v _=>v=iT (true) ((q5)&&(((n:Int)) == (K))) true (.pointer (some ⟨b1,1,none⟩)),fun v _=>v=iT (true) ((q5)&&(((n:Int)) == (K))) true (setV (d.set)),fun v _=>v=iT (true) ((q5)&&(((n:Int)) == (K))) true (setV (zAU)),fun v _=>v=iT (true) ((q5)&&(((n:Int)) == (K))) true (.bool (!(eqS (d.set) (zAU)))),fun v _=>v=iT (true) ((q5)&&(((n:Int)) == (K))) true (.bool (((d.kind) == (3)) == (!(eqS (d.set) (zAU))))),fun v _=>v=Value.bool (((q5)&&(((n:Int)) == (K)))&&(((d.kind) == (3)) == (!(eqS (d.set) (zAU))))),fun v _=>v=Value.bool (((q5)&&(((n:Int)) == (K)))&&(((d.kind) == (3)) == (!(eqS (d.set) (zAU)))))] ?ob ?en
   case ob =>
    refine⟨?_,?_,?_,?_,?_,?_,?_,?_,?_,?_,?_,?_,?_,?_,?_,?_,?_,?_,?_,trivial⟩<;>intro A W h
    ·exact zAA rfl (zAl (.inl rfl) (h.f 5))
    ·exact zAA rfl (zAl (.inl rfl) (h.d 0 96))
    ·refine sy_ (h.d 1 97) fun hC=>?_;exact(by have e:A.eval (.tmp 1)=Value.pointer (some ⟨b1,0,none⟩):=h.f 1;simp only[execOp,e];simp[go_sem])
    ·refine sy_ (h.d 1 97) fun hC=>?_;exact zAG rfl (zAS (h.d 2 98) hC) (by decide +kernel) ((H.call h.below).cell (i:=0) .zero 5)
    ·refine sy_ (h.d 1 97) fun hC=>?_;exact(zPS Tryz.underlying26 rfl (zAS (h.d 3 99) hC))
    ·refine sy_ (h.d 1 97) fun hC=>?_;exact zAl (.inl rfl) (h.f 4)
    ·refine sy_ (h.d 1 97) fun hC=>?_;exact(by have e100:A.eval (.tmp 100)=Value.int .i64 ((n:Int)):=zAS (h.d 4 100) hC;have e101:A.eval (.tmp 101)=Value.int .i64 (K):=zAS (h.d 5 101) hC;simp only[execOp,e100,e101];simp[go_sem])
    ·exact zAA rfl (zBJ rfl (h.d 1 97) (fun hb2=>zAS (h.d 6 102) (by (first|(rw[hb2];rfl)|simp[hb2]))))
    ·exact zAA rfl (zAl (.inl rfl) (h.d 7 103))
    ·refine sy_ (h.d 8 104) fun hC=>?_;exact(by have e:A.eval (.tmp 1)=Value.pointer (some ⟨b1,0,none⟩):=h.f 1;simp only[execOp,e];simp[go_sem])
    ·refine sy_ (h.d 8 104) fun hC=>?_;exact zAG rfl (zAS (h.d 9 105) hC) zAh ((H.call h.below).cell (i:=0) .zero 0)
    ·refine sy_ (h.d 8 104) fun hC=>?_;exact(by have e106:A.eval (.tmp 106)=Value.int .i64 (d.kind):=zAS (h.d 10 106) hC;simp only[execOp,e106];simp[go_sem])
    ·refine sy_ (h.d 8 104) fun hC=>?_;exact(by have e:A.eval (.tmp 1)=Value.pointer (some ⟨b1,0,none⟩):=h.f 1;simp only[execOp,e];simp[go_sem])
    ·refine sy_ (h.d 8 104) fun hC=>?_;exact zAV rfl (zAS (h.d 12 108) hC) zBp rfl (fun j hj=>by have h1:=(H.call h.below).cell (i:=0) .zero (1+j);rcases j with _|_|_|_|j<;>first|exact h1|omega)
    ·refine sy_ (h.d 8 104) fun hC=>?_;exact zLZ rfl
    ·refine sy_ (h.d 8 104) fun hC=>?_;exact(zNK rfl (zAS (h.d 13 109) hC) (zAS (h.d 14 110) hC))
    ·refine sy_ (h.d 8 104) fun hC=>?_;exact(by have e107:A.eval (.tmp 107)=Value.bool ((d.kind) == (3)):=zAS (h.d 11 107) hC;have e111:A.eval (.tmp 111)=Value.bool (!(eqS (d.set) (zAU))):=zAS (h.d 15 111) hC;simp only[execOp,e107,e111];generalize ((d.kind) == (3))=bp;generalize (!(eqS (d.set) (zAU)))=bq;cases bp<;>cases bq<;>simp[go_sem])
    ·exact zAA rfl (zBJ rfl (h.d 8 104) (fun hb2=>zAS (h.d 16 112) (by (first|(rw[hb2];rfl)|simp[hb2]))))
    ·exact zAA rfl (zAl (.inr rfl) (h.d 17 113))
   case en =>
    intro vals W hbw hv _;have v18:vals 18=_:=hv 18 (by omega)
    simp only[fa,Nat.reduceAdd];rw[v18];clear hv v18
    try simp only[pl]
    replace H:=H.call hbw
    go_wp2_with fail
    go_ret;refine⟨?_,H.below⟩;refine retb ?_
    rw[← HQ.out,← HB.out.1,← HB.out.2];exact zNe d n HR.out
end
section
open Go.RowKit
def zDT (d:NodeD) (l:List Tree):Option Tree:=if 1+zAD l<=4000 then some (.mk d l) else none
def rowQ (k o:Int) (l:List Tree):Option Tree:=match l with
 | []=>some (zBj o)
 | [t]=>some t
 | _=>zDT {kind:=k} l
def catQ (l:List Tree):Option Tree:=if l.any (fun t=>t.d.kind == 2) then some (zBj 2) else rowQ 4 1 (zBV l 4 1)
def zEw (n:NodeD) (m:Int) (k:Tree):Option Tree:=zDT {kind:=6,hi:=m,lazy:=n.lazy} [k]
def zFB (n:NodeD) (k:Tree):Nat->Option (List Tree)
 | 0=>some []
 | m+1=>match zFB n k m with
  | none=>none
  | some r=>match catQ (k::r) with
   | none=>none
   | some c=>match zEw n 1 c with|none=>none|some a=>some [a]
def zBe (n:NodeD) (k:Tree):Option Tree :=
 if n.hi=0\/k.d.kind=1\/k.d.kind=2/\n.lo=0 then some (zBj 1)
 else if k.d.kind=2 then some (zBj 2)
 else if 4000<(zAC k:Int) * max n.lo n.hi then none
 else if n.hi<0 then
  match zEw n (-1) k with
  | none=>none
  | some a=>catQ (List.replicate n.lo.toNat k++[a])
 else match zFB n k (n.hi - n.lo).toNat with
  | none=>none
  | some r=>catQ (List.replicate n.lo.toNat k++r)
def zF1 (d:NodeD) (t:Tree) (l:List Tree):Option Tree :=
 if d.kind=7 then (match l with|[]=>none|k::_=>if k.d.kind=2 then some (zBj 2) else zDT d l)
 else if d.kind=4 then catQ l
 else if d.kind=5 then rowQ 5 2 (zBV l 5 2)
 else if d.kind=6 then (match l with|[]=>none|k::_=>zBe d k)
 else some t
theorem zIh {d:NodeD} {l:List Tree} (h:zDT d l=none):4000<zAC (.mk d l):=by
 unfold zDT at h;split at h
 ·cases h
 ·simp only[zAC];omega
theorem zIn {d:NodeD} {l:List Tree} {t:Tree} (h:zDT d l=some t):t=.mk d l:=by
 unfold zDT at h;split at h
 ·cases h;rfl
 ·cases h
theorem zMu {k o:Int} {l:List Tree} {t:Tree} (h:rowQ k o l=some t):rowN k l (zBj o)=t:=by
 unfold rowQ at h;unfold rowN;split at h
 ·cases h;rfl
 ·cases h;rfl
 ·rename_i h1 h2;have:=zIn h;subst this;split
  ·exact absurd rfl h1
  ·exact absurd rfl (h2 _)
  ·rfl
theorem zMp {k o:Int} {l:List Tree} (h:rowQ k o l=none):4000<zAC (rowN k l (zBj o)):=by
 unfold rowQ at h;unfold rowN;split at h
 ·cases h
 ·cases h
 ·rename_i h1 h2;have:=zIh h;split
  ·exact absurd rfl h1
  ·exact absurd rfl (h2 _)
  ·exact this
theorem zF7 {l:List Tree} {t:Tree} (h:catQ l=some t):catT l=t:=by
 unfold catQ at h;unfold catT;split at h
 ·rename_i h1;rw[if_pos h1];cases h;rfl
 ·rename_i h1;rw[if_neg h1];exact zMu h
theorem zI2 {l:List Tree} (h:catQ l=none):4000<zAC (catT l):=by
 unfold catQ at h;unfold catT;split at h
 ·cases h
 ·rename_i h1;rw[if_neg h1];exact zMp h
theorem zHE {n:NodeD} {m:Int} {k a:Tree} (h:zEw n m k=some a):a=zB9 n k m:=zIn h
theorem zJj {n:NodeD} {m:Int} {k:Tree} (h:zEw n m k=none):4000<zAC (zB9 n k m):=zIh h
theorem zNt (k:Int) (l:List Tree) (d:Tree):zAD l<=zAC (rowN k l d):=by
 unfold rowN;split
 ·simp[zAD]
 ·rw[zA6];exact Nat.le_refl _
 ·simp only[zAC];omega
theorem zGm {a b:List Tree} (hn:(a++b).any (fun t=>t.d.kind == 2)=false) (hb:∀ t ∈ b,t.d.kind≠4/\t.d.kind≠1):zAD b<=zAC (catT (a++b)):=by
 unfold catT;rw[hn];simp only[Bool.false_eq_true,if_false];refine Nat.le_trans ?_ (zNt 4 _ _);have hf:zBV b 4 1=b:=by
  unfold zBV
  induction b with
  | nil=>rfl
  | cons t r ih =>
   have h1:=hb t (List.mem_cons_self ..);rw[List.flatMap_cons,ih ?_ (fun t ht=>hb t (List.mem_cons_of_mem _ ht))]
   ·unfold zFh;rw[if_neg h1.1,if_neg h1.2];rfl
   ·simp only[List.any_append,List.any_cons,Bool.or_eq_false_iff]at hn ⊢;exact⟨hn.1,hn.2.2⟩
 have he:zBV (a++b) 4 1=zBV a 4 1++b:=by
  conv=>rhs;rw[← hf]
  unfold zBV;rw[List.flatMap_append]
 rw[he,zAc];omega
theorem zGt (n:NodeD) (k:Tree):∀ m,∀ t ∈ zCV n k m,t.d.kind=6
 | 0,t,h=>by simp[zCV]at h
 | m+1,t,h=>by
  simp only[zCV,List.mem_singleton]at h;subst h;rfl
theorem zLc {n:NodeD} {k:Tree} (hk:k.d.kind≠2) (m:Nat) (a:List Tree) (ha:∀ t ∈ a,t=k):(a++zCV n k m).any (fun t=>t.d.kind == 2)=false:=by
 rw[List.any_eq_false];intro t ht;rcases List.mem_append.1 ht with h|h
 ·rw[ha t h];simpa using hk
 ·rw[zGt n k m t h];decide
theorem zOL {n:NodeD} {k:Tree} (hk:k.d.kind≠2) (m:Nat):zAC (catT (k::zCV n k m))+1=zAD (zCV n k (m+1))/\zAD (zCV n k m)<=zAC (catT (k::zCV n k m)):=by
 refine⟨by simp only[zCV];rw[zA6,zD4];omega,?_⟩
 exact zGm (a:=[k]) (zLc hk m [k] (by simp)) (fun t ht=>by rw[zGt n k m t ht];decide)
theorem zGj {n:NodeD} {k:Tree}:∀ {m:Nat} {r:List Tree},zFB n k m=some r->r=zCV n k m
 | 0,r,h=>by cases h;rfl
 | m+1,r,h=>by
  simp only[zFB]at h;split at h
  ·cases h
  ·rename_i r0 hr;split at h
   ·cases h
   ·rename_i c hc;split at h
    ·cases h
    ·rename_i a ha
     cases h
     rw[zGj hr]at hc;simp only[zCV];rw[zHE ha,zF7 hc]
theorem zLf {n:NodeD} {k:Tree} (hk:k.d.kind≠2):∀ {m:Nat},zFB n k m=none->4000<zAD (zCV n k m)
 | 0,h=>by cases h
 | m+1,h=>by
  have hg:=zOL (n:=n) hk m;simp only[zFB]at h;split at h
  ·rename_i hr;have:=zLf (n:=n) hk hr;omega
  ·rename_i r0 hr;rw[zGj hr]at h;split at h
   ·rename_i hc;have:=zI2 hc;omega
   ·rename_i c hc;split at h
    ·rename_i ha;have:=zJj ha;rw[← zF7 hc,zD4]at this;omega
    ·cases h
theorem zL0 {n:NodeD} {k s:Tree} (hs:zAC k<=2000) (h:zBe n k=some s):zCQ n k=some s:=by
 unfold zBe at h;unfold zCQ;split at h
 ·rename_i h1;rw[if_pos h1];cases h;rfl
 rename_i h1;rw[if_neg h1];split at h
 ·rename_i h2;rw[if_pos h2];cases h;rfl
 rename_i h2;rw[if_neg h2];split at h
 ·cases h
 rename_i h3;have h4:¬ (4000<(zAC k:Int) * max (max n.lo n.hi) 1):=by
  by_cases hm:max n.lo n.hi<=1
  ·rw[Int.max_eq_right hm];omega
  ·rw[Int.max_eq_left (by omega)];exact h3
 rw[if_neg h4];split at h
 ·rename_i h5;rw[if_pos h5];split at h
  ·cases h
  ·rename_i a ha;rw[zHE ha]at h;rw[zF7 h]
 ·rename_i h5;rw[if_neg h5];split at h
  ·cases h
  ·rename_i r hr;rw[zGj hr]at h;rw[zF7 h]
theorem zCi {t:Tree} (h:2000<zAC t):capT (some t)=none:=by
 unfold capT;simp only;rw[if_neg (by omega)]
theorem zLp {n:NodeD} {k:Tree} (h:zBe n k=none):capT (zCQ n k)=none:=by
 unfold zBe at h;unfold zCQ;split at h
 ·cases h
 rename_i h1;rw[if_neg h1];split at h
 ·cases h
 rename_i h2;rw[if_neg h2];split
 ·rfl
 rename_i h4;split at h
 ·rename_i h3;exact absurd (Int.lt_of_lt_of_le h3 (Int.mul_le_mul_of_nonneg_left (Int.le_max_left ..) (by omega))) h4
 split at h
 ·rename_i h5;rw[if_pos h5];split at h
  ·rename_i ha;have hsz:=zJj ha;refine zCi ?_
   have:=zGm (a:=List.replicate n.lo.toNat k) (b:=[zB9 n k (-1)]) (by
    rw[List.any_eq_false];intro t ht;rcases List.mem_append.1 ht with h|h
    ·rw[List.eq_of_mem_replicate h];simpa using h2
    ·rw[List.mem_singleton]at h;subst h;exact(by decide:¬ ((6:Int) == 2)=true)) (fun t ht=>by rw[List.mem_singleton]at ht;subst ht;exact(by decide:(6:Int)≠4/\(6:Int)≠1))
   rw[zA6]at this;omega
  ·rename_i a ha;rw[zHE ha]at h;have:=zI2 h;exact zCi (by omega)
 ·rename_i h5;rw[if_neg h5];split at h
  ·rename_i hr;have hsz:=zLf h2 hr;refine zCi ?_
   have:=zGm (a:=List.replicate n.lo.toNat k) (b:=zCV n k (n.hi - n.lo).toNat) (zLc h2 _ _ fun t ht=>List.eq_of_mem_replicate ht) (fun t ht=>by rw[zGt n k _ t ht];decide)
   omega
  ·rename_i r hr;rw[zGj hr]at h;have:=zI2 h;exact zCi (by omega)
theorem zPf {d:NodeD} {t:Tree} {l:List Tree} (hl:∀ x ∈ l,zAC x<=2000):capT (zF1 d t l)=capT (ruleT d t l):=by
 unfold zF1 ruleT;split
 ·cases l with
  | nil=>rfl
  | cons k r =>
   simp only;split
   ·rfl
   ·cases h:zDT d (k::r) with
    | none=>rw[zCi (t:=.mk d (k::r)) (by have:=zIh h;omega)];rfl
    | some s=>rw[zIn h]
 split
 ·cases h:catQ l with
  | none=>rw[zCi (by have:=zI2 h;omega)];rfl
  | some s=>rw[zF7 h]
 split
 ·cases h:rowQ 5 2 (zBV l 5 2) with
  | none=>rw[zCi (by have:=zMp h;omega)];rfl
  | some s=>rw[zMu h]
 split
 ·cases l with
  | nil=>rfl
  | cons k r =>
   simp only
   cases h:zBe d k with
   | none=>rw[zLp h];rfl
   | some s=>rw[zL0 (hl k (List.mem_cons_self ..)) h]
 ·rfl
theorem zE4:∀ {ts l:List Tree},zAs ts=some l->∀ x ∈ l,zAC x<=2000
 | [],l,h,x,hx=>by simp[zAs]at h;subst h;cases hx
 | u::r,l,h,x,hx=>by
  simp only[zAs]at h;split at h
  ·cases h
  ·rename_i y hy;split at h
   ·cases h
   ·rename_i l' hl
    cases h
    rcases List.mem_cons.1 hx with rfl|hx
    ·exact zD0 hy
    ·exact zE4 hl x hx
def zJ2 (md:Region.Mode) (ops:Array Oper):List Nat->Array Bool->Bool
 | [],listed=>(Region.ready md ops listed).isEmpty
 | i::r,listed=>decide (Region.ready md ops listed=[i])&&zJ2 md ops r (listed.setIfInBounds i true)
theorem zEv {P:Program} {md:Region.Mode} {ops:Array Oper} {Q:Exit->Act->World->Prop}:∀ (is:List Nat) (os:List Oper) (listed:Array Bool) (a:Act) (w:World),os.length=is.length->(∀ (j i:Nat),is[j]?=some i->ops[i]?=os[j]?) ->
  zJ2 md ops is listed=true->wpList P ops Q os a w->wpAny P md ops Q is.length listed a w
 | [],os,_,_,_,hl,_,hB,h=>by
  have:os=[]:=List.length_eq_zero_iff.1 hl;subst this;exact⟨by simpa [zJ2] using hB,h⟩
 | i::r,[],_,_,_,hl,_,_,_=>by simp at hl
 | i::r,o::os,listed,a,w,hl,hg,hB,h=>by
  have h0:ops[i]?=some o:=by simpa using hg 0 i rfl
  simp only[zJ2,Bool.and_eq_true,decide_eq_true_eq]at hB;refine⟨fun h1=>(by rw[hB.1]at h1;cases h1),fun k hk=>?_⟩
  rw[hB.1]at hk;have hik:k=i:=by simpa using hk
  subst hik;have hw:wpOp P ops Q k (wpList P ops Q os) a w:=by unfold wpOp;simp only[h0];exact h
  exact wpOp_mono (fun a' w' h'=>zEv r os _ a' w' (by simpa using hl) (fun j i hj=>by simpa using hg (j+1) i (by simpa using hj)) hB.2 h') hw
def zDr (n e g:Nat):Array Bool:=((List.range n).map (fun i=>i != e)++List.replicate g false).toArray
def zRm (ops:Array Oper) (n e:Nat):Bool :=
 (List.range n).all fun i=>i == e || (List.range (n+1)).any fun j=>decide (i<j)&&(j != e)&&(match ops[j]? with|some o=>o.after.toList.any (fun ed=>Region.binds .any ed&&ed.on == i)|none=>false)
def zQy (ops:Array Oper) (n e:Nat):Bool :=
 decide (n<=ops.size)&&zCP (ops.toList.take n) &&
 ((ops.toList.take n).zipIdx.all fun (o,i)=>o.after.all fun e=>!Region.binds .any e || decide (e.on<i)) &&
 zRm ops n e&&(ops.toList.zipIdx.all fun (o,t)=>decide (t<=n) || o.after.toList.any (fun ed=>Region.binds .any ed&&decide (n<=ed.on)&&decide (ed.on<t))) &&
 Region.seqB .any ops (ops.size - n) n (zAt n (ops.size - n)) &&
 zJ2 .any ops (e::List.range' (n+1) (ops.size - n - 1)) ((zDr n e (ops.size - n)).setIfInBounds n true)&&decide (e<n)
def zLz (l:List Oper) (n e:Nat):List Oper:=(l.drop n).take 1++((l.drop e).take 1++l.drop (n+1))
def zEZ (e:Nat):List Oper->Nat->(Nat->Value)->Act->Act
 | [],_,_,a=>a
 | o::r,k,vals,a=>zEZ e r (k+1) vals (if k=e then a else a.put o.dst (vals k))
theorem zLB (e:Nat):∀ (l:List Oper) (k:Nat) (listed:Array Bool) (vals:Nat->Value) (a:Act),(∀ i,i<l.length->k+i≠e->listed.getD (k+i) false=true)->(k<=e->listed.getD e false=false)->fill l k listed vals a=zEZ e l k vals a
 | [],_,_,_,_,_,_=>rfl
 | o::r,k,listed,vals,a,h,h2=>by
  simp only[fill,zEZ];have ih:=zLB e r (k+1) listed vals (if k=e then a else a.put o.dst (vals k)) (fun i hi he=>by have:=h (i+1) (by simp;omega) (by omega);rwa [show k+(i+1)=k+1+i from by omega]at this) (fun hk=>h2 (by omega))
  rw[← ih]
  congr 1
  by_cases hke:k=e
  ·subst hke;rw[h2 (Nat.le_refl _),if_pos rfl];rfl
  ·have:=h 0 (by simp) (by simpa using hke)
   rw[Nat.add_zero]at this;rw[this,if_neg hke];rfl
theorem zMj {ops:Array Oper} {n e:Nat} {listed:Array Bool} (hc:zRm ops n e=true) (hn:n<=ops.size) (inv:HeadInv .any ops n listed) (o:Oper) (ho:ops[n]?=some o)
  (ha:∀ e ∈ o.after,Region.binds .any e=true->listed.getD e.on false=true):∀ k,k<n->k≠e->listed.getD k false=true:=by
 have key:∀ d k,n - k=d->k<n->k≠e->listed.getD k false=true:=by
  intro d
  induction d using Nat.strongRecOn with
  | _ d ih =>
   intro k hd hk hke;have h1:=List.all_eq_true.1 hc k (List.mem_range.2 hk);simp only[Bool.or_eq_true,beq_iff_eq]at h1;rcases h1 with h1|h1
   ·exact absurd h1 hke
   ·obtain⟨j,hj,h2⟩:=List.any_eq_true.1 h1;simp only[Bool.and_eq_true,decide_eq_true_eq,bne_iff_ne,ne_eq]at h2;obtain⟨⟨hkj,hje⟩,h3⟩:=h2;have hjn:=List.mem_range.1 hj
    cases hoj:ops[j]? with
    | none=>rw[hoj]at h3;cases h3
    | some oj =>
     rw[hoj]at h3;obtain⟨ed,hed,hb⟩:=List.any_eq_true.1 h3;simp only[Bool.and_eq_true,beq_iff_eq]at hb
     by_cases hjn':j=n
     ·subst hjn';rw[ho]at hoj;cases hoj
      have:=ha ed (Array.mem_toList_iff.1 hed) hb.1
      rwa [hb.2]at this
     ·have hlj:=ih (n - j) (by omega) j rfl (by omega) hje
      have:=inv.closed j oj hoj hlj ed (Array.mem_toList_iff.1 hed) hb.1
      rwa [hb.2]at this
 exact fun k hk hke=>key _ k rfl hk hke
theorem zMZ {ops:Array Oper} {n e:Nat} {listed:Array Bool} (hn:n<=ops.size) (he:e<n) (inv:HeadInv .any ops n listed) (h:∀ i,i<n->i≠e->listed.getD i false=true) (h2:listed.getD e true=false):listed=zDr n e (ops.size - n):=by
 have hs:=inv.size;apply Array.ext
 ·simp[zDr,hs];omega
 ·intro i h1 h3
  by_cases hi:i<n
  ·by_cases hie:i=e
   ·subst hie;rw[Array.getD_eq_getD_getElem?,Array.getElem?_eq_getElem h1]at h2;simp at h2;rw[h2];simp[zDr,hi,List.getElem_append]
   ·have:=h i hi hie;rw[Array.getD_eq_getD_getElem?,Array.getElem?_eq_getElem h1]at this;simp at this;rw[this];simp[zDr,hi,List.getElem_append,hie]
  ·have:=inv.tail i (by omega) (by omega)
   rw[Array.getD_eq_getD_getElem?,Array.getElem?_eq_getElem h1]at this;simp at this;rw[this];simp[zDr,List.getElem_append,hi]
theorem zHQ {P:Program} {id:Nat} {Q:Exit->Act->World->Prop} {a0:Act} {w0:World} {l:List Oper} (n e:Nat) (Ss:Nat->Value->World->Prop) (D:Nat->Bool)
  (hm:P.follows .mixedOrders=true) (hB:zQy l.toArray n e=true) (hsz:(l.take n).all (fun o=>match o.dst with|some d=>decide (d<a0.tmps.size)|none=>true)=true)
  (hst:∀ i,i<n->∀ v w w',Ss i v w->Below w.heap.size w w'->Ss i v w')
  (hlt:∀ i,i<n->D i=true->∀ v w,Ss i v w->blk v<w.heap.size)
  (hstep:∀ i o,i<n->l[i]?=some o->∀ a w,RCtx (l.take n) Ss a0 w0 o a w->zBU P l.toArray o a w (fun v w'=>Ss i v w'/\(D i=true->w.heap.size<=blk v)))
  (hend:∀ vals w,Below w0.heap.size w0 w->(∀ i,i<n->Ss i (vals i) w)->(∀ i j,i<n->j<n->i≠j->D i=true->D j=true->blk (vals i)≠blk (vals j))->wpList P l.toArray Q (l.drop n) (zBO (l.take n) 0 vals a0) w)
  (hend2:∀ vals w,Below w0.heap.size w0 w->(∀ i,i<n->i≠e->Ss i (vals i) w)->(∀ i j,i<n->j<n->i≠e->j≠e->i≠j->D i=true->D j=true->blk (vals i)≠blk (vals j)) ->
   wpList P l.toArray Q (zLz l n e) (zEZ e (l.take n) 0 vals a0) w) :
  (Code.region id l.toArray true).wp P Q a0 w0:=by
 simp only[zQy,Bool.and_eq_true,decide_eq_true_eq]at hB;obtain⟨⟨⟨⟨⟨⟨⟨hn,hd⟩,haf⟩,hclo⟩,htw⟩,hseq⟩,hord⟩,hen⟩:=hB;have hn':n<=l.length:=by simpa using hn
 have hd':zCP (l.take n)=true:=hd;have htl:(l.take n).length=n:=by simp;omega
 have key:∀ (rem:List Nat) (f:Nat),rem.length=f->rem.Nodup->∀ (listed:Array Bool) (a:Act) (w:World),HeadInv .any l.toArray n listed ->
   (∀ i,i ∈ rem↔(i<n/\listed.getD i true=false))->(∃ vals,a=fill (l.take n) 0 listed vals a0/\(∀ i,i<n->listed.getD i false=true->Ss i (vals i) w)/\∀ i j,i<n->j<n->i≠j->listed.getD i false=true->listed.getD j false=true->D i=true->D j=true->blk (vals i)≠blk (vals j))->Below w0.heap.size w0 w ->
   wpAny P .any l.toArray Q (f+(l.toArray.size - n)) listed a w:=by
  intro rem f
  induction f generalizing rem with
  | zero =>
   intro hl _ listed a w inv hrem ⟨vals,ha,hv,hp⟩ hb;have hr:rem=[]:=List.length_eq_zero_iff.1 hl;subst hr;have hall:∀ i,i<n->listed.getD i false=true:=by
    intro i hi;have h1:¬ listed.getD i true=false:=fun h=>by have:=(hrem i).2 ⟨hi,h⟩;simp at this
    have h2:i<listed.size:=by rw[inv.size];omega
    rw[Array.getD_eq_getD_getElem?,Array.getElem?_eq_getElem h2]at h1 ⊢
    simpa using h1
   have hlist:=zCc hn inv hall;have hw:=hend vals w hb (fun i hi=>hv i hi (hall i hi)) (fun i j hi hj hij=>hp i j hi hj hij (hall i hi) (hall j hj))
   rw[← zC3 (l.take n) 0 listed vals a0 (fun i hi=>by rw[Nat.zero_add];exact hall i (by omega)),← ha]at hw
   rw[Nat.zero_add];have hdl:(l.drop n).length=l.toArray.size - n:=by simp
   rw[← hdl];refine wpAny_of_seq (l.drop n) n listed a w (fun j=>by simp) ?_ hw
   rw[hdl,hlist];exact hseq
  | succ f ih =>
   intro hl hnd listed a w inv hrem ⟨vals,ha,hv,hp⟩ hb;have hex:∃ i,i ∈ rem/\∀ j,j ∈ rem->i<=j:=by
    have:∀ (r:List Nat),r≠[]->∃ i,i ∈ r/\∀ j,j ∈ r->i<=j:=by
     intro r
     induction r with
     | nil=>intro h;exact(h rfl).elim
     | cons x r ihr =>
      intro _
      by_cases hr:r=[]
      ·subst hr;exact⟨x,by simp,by simp⟩
      ·obtain⟨i,hi,hmin⟩:=ihr hr
       by_cases hx:x<=i
       ·exact⟨x,by simp,fun j hj=>by rcases List.mem_cons.1 hj with rfl|hj;exact Nat.le_refl _;exact Nat.le_trans hx (hmin j hj)⟩
       ·exact⟨i,by simp[hi],fun j hj=>by rcases List.mem_cons.1 hj with rfl|hj;omega;exact hmin j hj⟩
    exact this rem (by intro h;subst h;simp at hl)
   have hready:Region.ready .any l.toArray listed≠[]:=by
    obtain⟨i,hi,hmin⟩:=hex;obtain⟨hin,hil⟩:=(hrem i).1 hi;have hlt:i<l.length:=by omega
    have hmem:i ∈ Region.ready .any l.toArray listed:=by
     refine mem_ready.2 ⟨hil,l[i],by simp[hlt],fun e he hbd=>?_⟩
     have h1:=List.all_eq_true.1 haf (l[i],i) (by
      rw[List.mem_zipIdx_iff_getElem?];simp[hin,hlt])
     have h2:=Array.all_eq_true'.1 h1 e he;simp[hbd]at h2;have hj:¬ e.on ∈ rem:=fun h=>by have:=hmin _ h;omega
     have h3:¬ listed.getD e.on true=false:=fun h=>hj ((hrem _).2 ⟨by omega,h⟩)
     have h4:e.on<listed.size:=by rw[inv.size];simp;omega
     rw[Array.getD_eq_getD_getElem?,Array.getElem?_eq_getElem h4]at h3 ⊢
     simpa using h3
    intro h;rw[h]at hmem;simp at hmem
   rw[show f+1+(l.toArray.size - n)=(f+(l.toArray.size - n))+1 from by omega]
   refine⟨fun h=>(hready h).elim,fun i hi=>?_⟩
   obtain⟨hil,o,ho,haft⟩:=mem_ready.1 hi
   by_cases hin:i<n
   case neg =>
    have hisz:i<l.toArray.size:=(Array.getElem?_eq_some_iff.1 ho).1;have hmost:=zMj hclo hn inv;have hin':i=n:=by
     rcases Nat.lt_or_ge n i with h|h
     ·exfalso
      have h1:=List.all_eq_true.1 htw (l[i]'(by simpa using hisz),i) (by
       rw[List.mem_zipIdx_iff_getElem?];simp at hisz;simp[hisz])
      simp only[Bool.or_eq_true,decide_eq_true_eq]at h1;rcases h1 with h1|h1
      ·omega
      ·obtain⟨ed,hed,hb⟩:=List.any_eq_true.1 h1;simp only[Bool.and_eq_true,decide_eq_true_eq]at hb;have ho2:o=l[i]'(by simpa using hisz):=by
        have:=(Array.getElem?_eq_some_iff.1 ho).2;simpa using this.symm
       have h3:=haft ed (by rw[ho2];exact Array.mem_toList_iff.1 hed) hb.1.1
       have h4:=getD_both (inv.tail ed.on hb.1.2 (by omega))
       rw[h3]at h4;cases h4
     ·omega
    subst hin';have hall:∀ k,k<i->k≠e->listed.getD k false=true:=fun k hk hke=>hmost o ho haft k hk hke
    have hone:rem=[e]:=by
     have h1:∀ k ∈ rem,k=e:=by
      intro k hk;obtain⟨hk1,hk2⟩:=(hrem k).1 hk
      by_cases hke:k=e
      ·exact hke
      ·have:=hall k hk1 hke;rw[getD_both hk2]at this;cases this
     cases rem with
     | nil=>simp at hl
     | cons x r =>
      cases r with
      | nil=>rw[h1 x (by simp)]
      | cons y r =>
       have hx:=h1 x (by simp);have hy:=h1 y (by simp)
       rw[hx,hy]at hnd;simp at hnd
    subst hone;have hf:f=0:=by simp at hl;omega
    subst hf;have hel:listed.getD e true=false:=((hrem e).1 (by simp)).2
    have hlist:=zMZ hn hen inv hall hel;have hw:=hend2 vals w hb (fun k hk hke=>hv k hk (hall k hk hke)) (fun k m hk hm hke hme hkm=>hp k m hk hm hkm (hall k hk hke) (hall m hm hme))
    rw[← zLB e (l.take i) 0 listed vals a0 (fun k hk hke=>by rw[Nat.zero_add]at hke ⊢;exact hall k (by omega) hke) (fun _=>getD_both hel),← ha]at hw
    have hli:l[i]?=some o:=by simpa using ho
    have hl1:(l.drop i).take 1=[o]:=by
     rw[List.drop_eq_getElem_cons (by simpa using hisz)]
     have:l[i]'(by simpa using hisz)=o:=(List.getElem?_eq_some_iff.1 hli).2
     simp[this]
    have hlt':i<l.length:=by simpa using hisz
    have heL:e<l.length:=by omega
    have hl2:(l.drop e).take 1=[l[e]]:=by rw[List.drop_eq_getElem_cons heL,List.take_succ_cons,List.take_zero]
    unfold zLz at hw;rw[hl1,hl2]at hw;have hw2:wpOp P l.toArray Q i (wpList P l.toArray Q ([l[e]]++l.drop (i+1))) a w:=by unfold wpOp;simp only[ho];exact hw
    have hlen:(e::List.range' (i+1) (l.toArray.size - i - 1)).length=0+(l.toArray.size - i):=by simp;omega
    refine wpOp_mono (fun a' w' h'=>?_) hw2
    rw[← hlen];refine zEv (e::List.range' (i+1) (l.toArray.size - i - 1)) ([l[e]]++l.drop (i+1)) _ a' w' (by simp;omega) (fun j k hk=>?_) ?_ h'
    ·cases j with
     | zero=>simp at hk;subst hk;simp[heL]
     | succ j =>
      simp only[List.getElem?_cons_succ]at hk;obtain⟨hk1,hk2⟩:=List.getElem?_eq_some_iff.1 hk;simp at hk2;subst hk2;simp
    ·rw[hlist];exact hord
   have ho':l[i]?=some o:=by simpa using ho
   have hot:(l.take n)[i]?=some o:=by rw[List.getElem?_take_of_lt hin];exact ho'
   obtain⟨d,hod⟩:∃ d,o.dst=some d:=by
    have:∀ (r:List Oper) (j:Nat),zCP r=true->r[j]?=some o->∃ d,o.dst=some d:=by
     intro r
     induction r with
     | nil=>intro j _ h;simp at h
     | cons x r ihr =>
      intro j hdd h;simp only[zCP,Bool.and_eq_true]at hdd
      cases j with
      | zero=>simp at h;subst h;exact Option.isSome_iff_exists.1 hdd.1.1
      | succ j=>exact ihr j hdd.2 (by simpa using h)
    exact this _ i hd' hot
   have hbd:∀ (j:Nat) (oj:Oper) (dj:Tmp),(l.take n)[j]?=some oj->oj.dst=some dj->dj<a0.tmps.size:=by
    intro j oj dj hj hdj;have:=List.all_eq_true.1 hsz oj (List.mem_of_getElem? hj)
    simpa [hdj] using this
   have hctx:RCtx (l.take n) Ss a0 w0 o a w:=by
    refine⟨hb,fun t ht=>by rw[ha];exact zBh _ _ _ _ _ t ht,fun j dj hj hdj=>?_,by rw[ha,zDb]⟩
    obtain⟨e,he,hbe⟩:=List.any_eq_true.1 hj;simp only[Bool.and_eq_true,beq_iff_eq]at hbe;have hlj:=haft e (Array.mem_toList_iff.1 he) hbe.1;rw[hbe.2]at hlj;obtain⟨oj,hoj,hdj'⟩:=Option.bind_eq_some_iff.1 hdj;have hjn:j<n:=by have:=(List.getElem?_eq_some_iff.1 hoj).1;omega
    rw[ha,zEA _ 0 listed vals a0 j oj dj hd' hoj hdj' (hbd j oj dj hoj hdj') (by rw[Nat.zero_add];exact hlj),Nat.zero_add]
    exact hv j hjn hlj
   have hstep':=hstep i o hin ho' a w hctx;have hnext:∀ v w',Below w.heap.size w w'->(Ss i v w'/\(D i=true->w.heap.size<=blk v))->wpAny P .any l.toArray Q (f+(l.toArray.size - n)) (listed.setIfInBounds i true) (a.put o.dst v) w':=by
    intro v w' hbw ⟨hsv,hfr⟩;have hmemi:i ∈ rem:=(hrem i).2 ⟨hin,hil⟩;refine ih (rem.erase i) (by rw[List.length_erase_of_mem hmemi,hl];rfl) (hnd.erase i) _ _ w' (inv.set hi hin) (fun j=>?_) ⟨fun j=>if j=i then v else vals j,?_,fun j hj hlj=>?_,fun j k hj hk hjk hlj hlk hDj hDk=>?_⟩ (hb.trans (hbw.mono hb.size))
    ·rw[hnd.mem_erase_iff,hrem j]
     by_cases hji:j=i
     ·subst hji;have hjs:j<listed.size:=by rw[inv.size];simp;omega
      simp[hjs]
     ·rw[getD_set_ne true (fun e=>hji e.symm)]
      simp[hji]
    ·have:=zDK (l.take n) 0 i listed vals a0 o d v hd' hot hod (by rw[Nat.zero_add];exact hil)
     rw[Nat.zero_add]at this;rw[this,← ha,hod]
    ·by_cases hji:j=i
     ·subst hji;simpa using hsv
     ·show Ss j (if j=i then v else vals j) w'
      rw[if_neg hji];rw[getD_set_ne false (fun e=>hji e.symm)]at hlj
      exact hst j hj _ _ _ (hv j hj hlj) hbw
    ·show blk (if j=i then v else vals j)≠blk (if k=i then v else vals k)
     by_cases hji:j=i
     ·subst hji;rw[if_pos rfl,if_neg (fun e=>hjk e.symm)]
      rw[getD_set_ne false hjk]at hlk;have h1:=hlt k hk hDk _ _ (hv k hk hlk);have h2:=hfr hDj;omega
     ·rw[if_neg hji];rw[getD_set_ne false (fun e=>hji e.symm)]at hlj
      by_cases hki:k=i
      ·subst hki;rw[if_pos rfl];have h1:=hlt j hj hDj _ _ (hv j hj hlj);have h2:=hfr hDk;omega
      ·rw[if_neg hki];rw[getD_set_ne false (fun e=>hki e.symm)]at hlk
       exact hp j k hj hk hjk hlj hlk hDj hDk
   unfold wpOp;simp only[ho];unfold zBU at hstep';split
   ·rename_i hw;rw[if_pos hw]at hstep';refine .inl (zDN (Oper.wp_mono (fun a' w' ⟨v,e,hbw,hsv⟩=>?_) hstep'))
    subst e;exact hnext v w' hbw hsv
   ·rename_i hw;rw[if_neg hw]at hstep';exact hnext undef w (Below.refl _ w) hstep'
 refine wp_region_any hm ?_
 have h0:=key (List.range n) n (by simp) List.nodup_range (Array.replicate l.toArray.size false) a0 {w0 with drawn:=w0.drawn+1}
  ⟨by simp,fun j oj _ hl=>(by rw[getD_replicate_false]at hl;cases hl),fun t _ ht=>getD_in (by simpa using ht) (getD_replicate_false _ _)⟩
  (fun i=>by
   rw[List.mem_range];constructor
   ·intro h;exact⟨h,getD_in (by simp;omega) (getD_replicate_false _ _)⟩
   ·intro h;exact h.1)
  ⟨fun _=>undef,(zCS _ _ _ _ _ (fun i=>getD_replicate_false _ _)).symm,fun i _ h=>(by rw[getD_replicate_false]at h;cases h),fun i j _ _ _ h=>(by rw[getD_replicate_false]at h;cases h)⟩
  ((Below.refl _ w0).drew)
 rw[show n+(l.toArray.size - n)=l.toArray.size from by omega]at h0
 exact h0
theorem zDl {P:Program} {id:Nat} {Q:Exit->Act->World->Prop} {a0:Act} {w0:World} {l:List Oper} (n e:Nat) (L:List (Value->World->Prop)) (D:Nat->Bool)
  (hm:P.follows .mixedOrders=true) (hB:zQy l.toArray n e=true) (hsz:(l.take n).all (fun o=>match o.dst with|some d=>decide (d<a0.tmps.size)|none=>true)=true)
  (hst:zCm L) (hlt:∀ i,i<n->D i=true->∀ v w,zAn L i v w->blk v<w.heap.size)
  (hstep:Obl P l (l.take n) L D a0 w0 (l.take n) 0)
  (hend:∀ vals w,Below w0.heap.size w0 w->(∀ i,i<n->zAn L i (vals i) w)->(∀ i j,i<n->j<n->i≠j->D i=true->D j=true->blk (vals i)≠blk (vals j)) ->
   wpList P l.toArray Q (l.drop n) (zBO (l.take n) 0 vals a0) w)
  (hend2:∀ vals w,Below w0.heap.size w0 w->(∀ i,i<n->i≠e->zAn L i (vals i) w)->(∀ i j,i<n->j<n->i≠e->j≠e->i≠j->D i=true->D j=true->blk (vals i)≠blk (vals j)) ->
   wpList P l.toArray Q (zLz l n e) (zEZ e (l.take n) 0 vals a0) w) :
  (Code.region id l.toArray true).wp P Q a0 w0 :=
 zHQ n e (zAn L) D hm hB hsz (fun i _ v w w' h hb=>zCd L i hst v w w' h hb) hlt
  (fun i o hi ho a w hc=>by
   have:=Obl.get (l.take n) 0 hstep i o (by rw[List.getElem?_take_of_lt hi];exact ho) a w hc
   rwa [Nat.zero_add]at this) hend hend2
end
end Go.Proofs.YtalggmbdpmdcbaaGreat
