/-
  Laws of walks, and walks.
-/
import Derived.Test.YtalggmbdpmdcbaaGreatPt6
import Derived.Deep.CutBlock
import Derived.Test.YtalggmbdpmdcbaaGreatPt2
import Derived.Test.YtalggmbdpmdcbaaGreatPt3
import Derived.Laws.Slices
set_option linter.unusedVariables false
set_option linter.unusedSimpArgs false
set_option maxRecDepth 100000
set_option maxHeartbeats 16000000
namespace Go.Proofs.YtalggmbdpmdcbaaGreat
section
open Go.RowKit Go.Shelf
attribute [local go_sem] Oper.semAt_some
theorem zRW (t:Array Value) (h:t.size=154):∃ x0 x1 x2 x3 x4 x5 x6 x7 x8 x9 x10 x11 x12 x13 x14 x15 x16 x17 x18 x19 x20 x21 x22 x23 x24 x25 x26 x27 x28 x29 x30 x31 x32 x33 x34 x35 x36 x37 x38 x39 x40 x41 x42 x43 x44 x45 x46 x47 x48 x49 x50 x51 x52 x53 x54 x55 x56 x57 x58 x59 x60 x61 x62 x63 x64 x65 x66 x67 x68 x69 x70 x71 x72 x73 x74 x75 x76 x77 x78 x79 x80 x81 x82 x83 x84 x85 x86 x87 x88 x89 x90 x91 x92 x93 x94 x95 x96 x97 x98 x99 x100 x101 x102 x103 x104 x105 x106 x107 x108 x109 x110 x111 x112 x113 x114 x115 x116 x117 x118 x119 x120 x121 x122 x123 x124 x125 x126 x127 x128 x129 x130 x131 x132 x133 x134 x135 x136 x137 x138 x139 x140 x141 x142 x143 x144 x145 x146 x147 x148 x149 x150 x151 x152 x153:Value,t=List.toArray (x0::x1::x2::x3::x4::x5::x6::x7::x8::x9::x10::x11::x12::x13::x14::x15::x16::x17::x18::x19::x20::x21::x22::x23::x24::x25::x26::x27::x28::x29::x30::x31::x32::x33::x34::x35::x36::x37::x38::x39::x40::x41::x42::x43::x44::x45::x46::x47::x48::x49::x50::x51::x52::x53::x54::x55::x56::x57::x58::x59::x60::x61::x62::x63::x64::x65::x66::x67::x68::x69::x70::x71::x72::x73::x74::x75::x76::x77::x78::x79::x80::x81::x82::x83::x84::x85::x86::x87::x88::x89::x90::x91::x92::x93::x94::x95::x96::x97::x98::x99::x100::x101::x102::x103::x104::x105::x106::x107::x108::x109::x110::x111::x112::x113::x114::x115::x116::x117::x118::x119::x120::x121::x122::x123::x124::x125::x126::x127::x128::x129::x130::x131::x132::x133::x134::x135::x136::x137::x138::x139::x140::x141::x142::x143::x144::x145::x146::x147::x148::x149::x150::x151::x152::x153::[]):=by
 rw[zKX t 154 h];exact⟨_,_,_,_,_,_,_,_,_,_,_,_,_,_,_,_,_,_,_,_,_,_,_,_,_,_,_,_,_,_,_,_,_,_,_,_,_,_,_,_,_,_,_,_,_,_,_,_,_,_,_,_,_,_,_,_,_,_,_,_,_,_,_,_,_,_,_,_,_,_,_,_,_,_,_,_,_,_,_,_,_,_,_,_,_,_,_,_,_,_,_,_,_,_,_,_,_,_,_,_,_,_,_,_,_,_,_,_,_,_,_,_,_,_,_,_,_,_,_,_,_,_,_,_,_,_,_,_,_,_,_,_,_,_,_,_,_,_,_,_,_,_,_,_,_,_,_,_,_,_,_,_,_,_,rfl⟩
theorem zLt (d:NodeD) (n:Nat):((!(zAf d n)) || (((d.kind) != (6))&&((((d.lo) != (0)) || ((d.hi) != (0))) || (d.lazy))))=!(zA7 d n):=by
 unfold zA7 zDI
 cases zAf d n<;>simp
theorem zMP {xs:List TV} {j:Nat} {x:TV} (h:xs[j]?=some x):zAd ((xs.map (·.1)).take (j+1))=(zAd ((xs.map (·.1)).take j)&&zAi x.1):=zGP (by rw[List.getElem?_map,h];rfl)
theorem zPi {xs:List TV} {j:Nat} {x:TV} (h:xs[j]?=some x) (hf:zAi x.1=false):zAd (xs.map (·.1))=false:=zJ9 (i:=j) (by rw[List.getElem?_map,h];rfl) hf
theorem zJT:∀ (m:Nat) (t:Tree) (p:Option Addr) (n c:Nat) (F:Nat->Prop) (w0:World),zAC t<=m->m<=1000000000000->(∀ b,F b->b<w0.heap.size)->ForestR w0 F p c t.kids->n=t.kids.length ->
  Calls Tryz.prog 158 #[zAQ t.d (.slice p n c)] w0 (Rt (.bool (zAi t)) w0)
 | 0,t,_,_,_,_,_,hm,_,_,_,_=>by have:=zAy t;omega
 | m+1,.mk d ts,p,n,c,F,w0,hm,hm2,hF,h,hn=>by
  have IH:=zJT m;simp only[Tree.kids,Tree.d]at h hn ⊢;obtain⟨xs,h1,h2,rfl⟩:=h.open;have E:=Lib.hid (show zAi (.mk d (xs.map (·.1)))=(zA7 d n&&zAd (xs.map (·.1))) by rw[zAi,hn])
  rw[List.length_map]at hn;rw[← hn]at h1;have hK:Knows F p n c xs w0:=⟨h1,h2⟩;clear h h1 h2;have H:=Hold.knows hF hK;have hc1:=hK.bound.2.1;have hc2:=hK.bound.2.2;have hp:=hK.at;clear hK;simp only[zAC]at hm;have HN:=Lib.hid hn;clear hn
  go_enter Tryz.func158,Tryz.ntmps158
  go_upto_region 1 with (first|((with_reducible refine kg 1 ?_);(first|refine kA 1 H ?_|refine kS 1 H ?_|refine kB 1 H ?_);clear H;intro b1 w H;try simp only[nr]at H)|fail)
  go_wp2_with fail
  obtain⟨T,hT,fw,hf,h0⟩:=fam w;have e1:=fun x=>(H.call (hf x)).cell (i:=1) i_1 1
  have e2:=fun x=>(H.call (hf x)).cell (i:=1) i_1 2
  have e3:=fun x=>(H.call (hf x)).cell (i:=1) i_1 3
  have e4:=fun x=>(H.call (hf x)).cell (i:=1) i_1 4
  have e5:=fun x=>(H.call (hf x)).cell (i:=1) i_1 5
  have e9:=fun x=>(H.call (hf x)).cell (i:=1) i_1 9
  simp only[ng1,ng2,ng3,ng4,ng5,ng9]at e1 e2 e3 e4 e5 e9;have heq:∀ W,(Op.equalIn 10000 25 (.agg #[.int .u64 (d.set 0),.int .u64 (d.set 1),.int .u64 (d.set 2),.int .u64 (d.set 3)]) (.agg #[.int .u64 0,.int .u64 0,.int .u64 0,.int .u64 0])).run Tryz.prog W=.ok (eqS d.set zAU) W:=zFR d.set zAU;refine zCl fw (by kernel_rfl) (by kernel_rfl) h0 ?_
  repeat (go_big_quiet_step (fail))
  refine wpQuiet_nil ?_
  rintro _ ⟨x,rfl⟩;replace H:=H.call (hf x);obtain⟨wq,hwq⟩:∃ wq,fw x=wq:=⟨_,rfl⟩;rw[hwq]at H ⊢;clear hwq e1 e2 e3 e4 e5 e9 heq h0 hf;clear x fw hT T;have hk0:n=0\/n=1\/1<n:=by omega
  generalize hbs:eqS d.set zAU=bs
  generalize hbg:(d.group != 0)=bg
  have HBS:=Lib.hid hbs;have HBG:=Lib.hid hbg;clear hbs hbg
  go_upto_block 0 with (first|((with_reducible refine gL ?_);refine aG H ?_))
  simp only[pl];refine wp_cut (fun a' w'=>(∃ t:Array Value,a'=({tmps:=t,defers:=[]}:Act)/\t.size=154/\t[0]?=some (zAQ d (.slice p n c))/\t[1]?=some (.pointer (some ⟨b1,0,none⟩))/\t[2]?=some (.bool false)/\t[3]?=some (.bool (!bs))/\t[4]?=some (.bool bg)/\t[5]?=some (.int .i64 (n:Int))/\t[6]?=some (.bool (zAf d n)))/\Hold w0 w' [.kn F (Knows F p n c xs),.blk b1 (zAO d (.slice p n c)) 28]) ?rest ?first
  case first =>
   intro J K' hJ hM
   by_cases h3:d.kind=3
   ·have d3:(d.kind == 3)=true:=by rw[beq_iff_eq];exact h3
    have EO:=Lib.hid (show zAf d n=(!bs&&((n:Int) == 0)&&!bg) by rw[zAf,if_pos h3,HBS.out,HBG.out])
    clear h3
    go_upto_region 6 with (first|fail)
    refine ws_ 10 [fun v _=>v=Value.bool (!bs),fun v _=>v=Value.bool (!bs),fun v _=>v=iT (true) (!bs) true (.int .i64 ((n:Int))),fun v _=>v=iT (true) (!bs) true (.bool (((n:Int)) == (0))),fun v _=>v=Value.bool ((!bs)&&(((n:Int)) == (0))),fun v _=>v=Value.bool ((!bs)&&(((n:Int)) == (0))),fun v _=>v=iT (true) ((!bs)&&(((n:Int)) == (0))) true (.bool (bg)),fun v _=>v=iT (true) ((!bs)&&(((n:Int)) == (0))) true (.bool (!(bg))),fun v _=>v=Value.bool (((!bs)&&(((n:Int)) == (0)))&&(!(bg))),fun v _=>v=Value.bool (((!bs)&&(((n:Int)) == (0)))&&(!(bg)))] ?ob ?en
    case ob =>
     refine⟨?_,?_,?_,?_,?_,?_,?_,?_,?_,?_,trivial⟩<;>intro A W h
     ·exact zAA rfl (zAl (.inl rfl) (h.f 3))
     ·exact zAA rfl (zAl (.inl rfl) (h.d 0 42))
     ·refine sy_ (h.d 1 43) fun hC=>?_;exact zAl (.inl rfl) (h.f 5)
     ·refine sy_ (h.d 1 43) fun hC=>?_;exact(by have e44:A.eval (.tmp 44)=Value.int .i64 ((n:Int)):=zAS (h.d 2 44) hC;simp only[execOp,e44];simp[go_sem])
     ·exact zAA rfl (zBJ rfl (h.d 1 43) (fun hb2=>zAS (h.d 3 45) (by (first|(rw[hb2];rfl)|simp[hb2]))))
     ·exact zAA rfl (zAl (.inl rfl) (h.d 4 46))
     ·refine sy_ (h.d 5 47) fun hC=>?_;exact zAl (.inl rfl) (h.f 4)
     ·refine sy_ (h.d 5 47) fun hC=>?_;exact(by have e:A.eval (.tmp 48)=Value.bool (bg):=zAS (h.d 6 48) hC;simp only[execOp,e];simp[go_sem])
     ·exact zAA rfl (zBJ rfl (h.d 5 47) (fun hb2=>zAS (h.d 7 49) (by (first|(rw[hb2];rfl)|simp[hb2]))))
     ·exact zAA rfl (zAl (.inr rfl) (h.d 8 50))
    case en =>
     intro vals W hbw hv _;have v9:vals 9=_:=hv 9 (by omega)
     simp only[fa,Nat.reduceAdd];rw[v9];clear hv v9
     try simp only[pl]
     have H:=H.call hbw
     go_wp2_with fail
     (refine Met.intro ?_;go_step;exact⟨⟨_,rfl,rfl,rfl,rfl,rfl,rfl,rfl,rfl,by rw[EO.out];rfl⟩,H⟩)
   ·have d3:(d.kind == 3)=false:=by rw[beq_eq_false_iff_ne];exact h3
    by_cases h45:d.kind=4\/d.kind=5
    ·have EO:=Lib.hid (show zAf d n=(decide (1<(n:Int))&&!(!bs)&&!bg) by rw[zAf,if_neg h3,if_pos h45,HBS.out,HBG.out])
     clear h3
     by_cases h4:d.kind=4
     ·have d4:(d.kind == 4)=true:=by rw[beq_iff_eq];exact h4
      clear h45 h4
      go_upto_region 9 with (first|fail)
      refine ws_ 11 [fun v _=>v=Value.int .i64 ((n:Int)),fun v _=>v=Value.bool (decide ((1)<((n:Int)))),fun v _=>v=Value.bool (decide ((1)<((n:Int)))),fun v _=>v=iT (true) (decide ((1)<((n:Int)))) true (.bool (!bs)),fun v _=>v=iT (true) (decide ((1)<((n:Int)))) true (.bool (!(!bs))),fun v _=>v=Value.bool ((decide ((1)<((n:Int))))&&(!(!bs))),fun v _=>v=Value.bool ((decide ((1)<((n:Int))))&&(!(!bs))),fun v _=>v=iT (true) ((decide ((1)<((n:Int))))&&(!(!bs))) true (.bool (bg)),fun v _=>v=iT (true) ((decide ((1)<((n:Int))))&&(!(!bs))) true (.bool (!(bg))),fun v _=>v=Value.bool (((decide ((1)<((n:Int))))&&(!(!bs)))&&(!(bg))),fun v _=>v=Value.bool (((decide ((1)<((n:Int))))&&(!(!bs)))&&(!(bg)))] ?ob ?en
      case ob =>
       refine⟨?_,?_,?_,?_,?_,?_,?_,?_,?_,?_,?_,trivial⟩<;>intro A W h
       ·exact zAA rfl (zAl (.inl rfl) (h.f 5))
       ·exact zAA rfl ((by have e54:A.eval (.tmp 54)=Value.int .i64 ((n:Int)):=h.d 0 54;simp only[execOp,e54];simp[go_sem]))
       ·exact zAA rfl (zAl (.inl rfl) (h.d 1 55))
       ·refine sy_ (h.d 2 56) fun hC=>?_;exact zAl (.inl rfl) (h.f 3)
       ·refine sy_ (h.d 2 56) fun hC=>?_;exact(by have e:A.eval (.tmp 57)=Value.bool (!bs):=zAS (h.d 3 57) hC;simp only[execOp,e];simp[go_sem])
       ·exact zAA rfl (zBJ rfl (h.d 2 56) (fun hb2=>zAS (h.d 4 58) (by (first|(rw[hb2];rfl)|simp[hb2]))))
       ·exact zAA rfl (zAl (.inl rfl) (h.d 5 59))
       ·refine sy_ (h.d 6 60) fun hC=>?_;exact zAl (.inl rfl) (h.f 4)
       ·refine sy_ (h.d 6 60) fun hC=>?_;exact(by have e:A.eval (.tmp 61)=Value.bool (bg):=zAS (h.d 7 61) hC;simp only[execOp,e];simp[go_sem])
       ·exact zAA rfl (zBJ rfl (h.d 6 60) (fun hb2=>zAS (h.d 8 62) (by (first|(rw[hb2];rfl)|simp[hb2]))))
       ·exact zAA rfl (zAl (.inr rfl) (h.d 9 63))
      case en =>
       intro vals W hbw hv _;have v10:vals 10=_:=hv 10 (by omega)
       simp only[fa,Nat.reduceAdd];rw[v10];clear hv v10
       try simp only[pl]
       have H:=H.call hbw
       go_wp2_with fail
       (refine Met.intro ?_;go_step;exact⟨⟨_,rfl,rfl,rfl,rfl,rfl,rfl,rfl,rfl,by rw[EO.out];rfl⟩,H⟩)
     ·have d4:(d.kind == 4)=false:=by rw[beq_eq_false_iff_ne];exact h4
      have d5:(d.kind == 5)=true:=by rw[beq_iff_eq];omega
      clear h45 h4
      go_upto_region 9 with (first|fail)
      refine ws_ 11 [fun v _=>v=Value.int .i64 ((n:Int)),fun v _=>v=Value.bool (decide ((1)<((n:Int)))),fun v _=>v=Value.bool (decide ((1)<((n:Int)))),fun v _=>v=iT (true) (decide ((1)<((n:Int)))) true (.bool (!bs)),fun v _=>v=iT (true) (decide ((1)<((n:Int)))) true (.bool (!(!bs))),fun v _=>v=Value.bool ((decide ((1)<((n:Int))))&&(!(!bs))),fun v _=>v=Value.bool ((decide ((1)<((n:Int))))&&(!(!bs))),fun v _=>v=iT (true) ((decide ((1)<((n:Int))))&&(!(!bs))) true (.bool (bg)),fun v _=>v=iT (true) ((decide ((1)<((n:Int))))&&(!(!bs))) true (.bool (!(bg))),fun v _=>v=Value.bool (((decide ((1)<((n:Int))))&&(!(!bs)))&&(!(bg))),fun v _=>v=Value.bool (((decide ((1)<((n:Int))))&&(!(!bs)))&&(!(bg)))] ?ob ?en
      case ob =>
       refine⟨?_,?_,?_,?_,?_,?_,?_,?_,?_,?_,?_,trivial⟩<;>intro A W h
       ·exact zAA rfl (zAl (.inl rfl) (h.f 5))
       ·exact zAA rfl ((by have e54:A.eval (.tmp 54)=Value.int .i64 ((n:Int)):=h.d 0 54;simp only[execOp,e54];simp[go_sem]))
       ·exact zAA rfl (zAl (.inl rfl) (h.d 1 55))
       ·refine sy_ (h.d 2 56) fun hC=>?_;exact zAl (.inl rfl) (h.f 3)
       ·refine sy_ (h.d 2 56) fun hC=>?_;exact(by have e:A.eval (.tmp 57)=Value.bool (!bs):=zAS (h.d 3 57) hC;simp only[execOp,e];simp[go_sem])
       ·exact zAA rfl (zBJ rfl (h.d 2 56) (fun hb2=>zAS (h.d 4 58) (by (first|(rw[hb2];rfl)|simp[hb2]))))
       ·exact zAA rfl (zAl (.inl rfl) (h.d 5 59))
       ·refine sy_ (h.d 6 60) fun hC=>?_;exact zAl (.inl rfl) (h.f 4)
       ·refine sy_ (h.d 6 60) fun hC=>?_;exact(by have e:A.eval (.tmp 61)=Value.bool (bg):=zAS (h.d 7 61) hC;simp only[execOp,e];simp[go_sem])
       ·exact zAA rfl (zBJ rfl (h.d 6 60) (fun hb2=>zAS (h.d 8 62) (by (first|(rw[hb2];rfl)|simp[hb2]))))
       ·exact zAA rfl (zAl (.inr rfl) (h.d 9 63))
      case en =>
       intro vals W hbw hv _;have v10:vals 10=_:=hv 10 (by omega)
       simp only[fa,Nat.reduceAdd];rw[v10];clear hv v10
       try simp only[pl]
       have H:=H.call hbw
       go_wp2_with fail
       (refine Met.intro ?_;go_step;exact⟨⟨_,rfl,rfl,rfl,rfl,rfl,rfl,rfl,rfl,by rw[EO.out];rfl⟩,H⟩)
    ·have d4:(d.kind == 4)=false:=by rw[beq_eq_false_iff_ne];omega
     have d5:(d.kind == 5)=false:=by rw[beq_eq_false_iff_ne];omega
     by_cases h6:d.kind=6
     ·have d6:(d.kind == 6)=true:=by rw[beq_iff_eq];exact h6
      have EO:=Lib.hid (show zAf d n=(((n:Int) == 1)&&!(!bs)&&!bg&&decide (0<=d.lo)&&decide (d.lo<=100)&&(d.hi == -1 || decide (d.lo<=d.hi)&&decide (d.hi<=100))) by rw[zAf,if_neg h3,if_neg h45,if_pos h6,HBS.out,HBG.out])
      clear h3 h45 h6
      go_upto_region 11 with (first|fail)
      refine ws_ 38 [fun v _=>v=Value.int .i64 ((n:Int)),fun v _=>v=Value.bool (((n:Int)) == (1)),fun v _=>v=Value.bool (((n:Int)) == (1)),fun v _=>v=iT (true) (((n:Int)) == (1)) true (.bool (!bs)),fun v _=>v=iT (true) (((n:Int)) == (1)) true (.bool (!(!bs))),fun v _=>v=Value.bool ((((n:Int)) == (1))&&(!(!bs))),fun v _=>v=Value.bool ((((n:Int)) == (1))&&(!(!bs))),fun v _=>v=iT (true) ((((n:Int)) == (1))&&(!(!bs))) true (.bool (bg)),fun v _=>v=iT (true) ((((n:Int)) == (1))&&(!(!bs))) true (.bool (!(bg))),fun v _=>v=Value.bool (((((n:Int)) == (1))&&(!(!bs)))&&(!(bg))),fun v _=>v=Value.bool (((((n:Int)) == (1))&&(!(!bs)))&&(!(bg))),fun v _=>v=iT (true) (((((n:Int)) == (1))&&(!(!bs)))&&(!(bg))) true (.pointer (some ⟨b1,6,none⟩)),fun v _=>v=iT (true) (((((n:Int)) == (1))&&(!(!bs)))&&(!(bg))) true (.int .i64 (d.lo)),fun v _=>v=iT (true) (((((n:Int)) == (1))&&(!(!bs)))&&(!(bg))) true (.bool (decide ((0)<=(d.lo)))),fun v _=>v=Value.bool ((((((n:Int)) == (1))&&(!(!bs)))&&(!(bg)))&&(decide ((0)<=(d.lo)))),fun v _=>v=Value.bool ((((((n:Int)) == (1))&&(!(!bs)))&&(!(bg)))&&(decide ((0)<=(d.lo)))),fun v _=>v=iT (true) ((((((n:Int)) == (1))&&(!(!bs)))&&(!(bg)))&&(decide ((0)<=(d.lo)))) true (.pointer (some ⟨b1,6,none⟩)),fun v _=>v=iT (true) ((((((n:Int)) == (1))&&(!(!bs)))&&(!(bg)))&&(decide ((0)<=(d.lo)))) true (.int .i64 (d.lo)),fun v _=>v=iT (true) ((((((n:Int)) == (1))&&(!(!bs)))&&(!(bg)))&&(decide ((0)<=(d.lo)))) true (.bool (decide ((d.lo)<=(100)))),fun v _=>v=Value.bool (((((((n:Int)) == (1))&&(!(!bs)))&&(!(bg)))&&(decide ((0)<=(d.lo))))&&(decide ((d.lo)<=(100)))),fun v _=>v=Value.bool (((((((n:Int)) == (1))&&(!(!bs)))&&(!(bg)))&&(decide ((0)<=(d.lo))))&&(decide ((d.lo)<=(100)))),fun v _=>v=iT (true) (((((((n:Int)) == (1))&&(!(!bs)))&&(!(bg)))&&(decide ((0)<=(d.lo))))&&(decide ((d.lo)<=(100)))) true (.pointer (some ⟨b1,7,none⟩)),fun v _=>v=iT (true) (((((((n:Int)) == (1))&&(!(!bs)))&&(!(bg)))&&(decide ((0)<=(d.lo))))&&(decide ((d.lo)<=(100)))) true (.int .i64 (d.hi)),fun v _=>v=iT (true) (((((((n:Int)) == (1))&&(!(!bs)))&&(!(bg)))&&(decide ((0)<=(d.lo))))&&(decide ((d.lo)<=(100)))) true (.bool ((d.hi) == ((-1)))),fun v _=>v=iT (true) (((((((n:Int)) == (1))&&(!(!bs)))&&(!(bg)))&&(decide ((0)<=(d.lo))))&&(decide ((d.lo)<=(100)))) true (.bool ((d.hi) == ((-1)))),fun v _=>v=iT ((true)&&((((((((n:Int)) == (1))&&(!(!bs)))&&(!(bg)))&&(decide ((0)<=(d.lo))))&&(decide ((d.lo)<=(100)))) == true)) ((d.hi) == ((-1))) false (.pointer (some ⟨b1,7,none⟩)),fun v _=>v=iT ((true)&&((((((((n:Int)) == (1))&&(!(!bs)))&&(!(bg)))&&(decide ((0)<=(d.lo))))&&(decide ((d.lo)<=(100)))) == true)) ((d.hi) == ((-1))) false (.int .i64 (d.hi)),fun v _=>v=iT ((true)&&((((((((n:Int)) == (1))&&(!(!bs)))&&(!(bg)))&&(decide ((0)<=(d.lo))))&&(decide ((d.lo)<=(100)))) == true)) ((d.hi) == ((-1))) false (.pointer (some ⟨b1,6,none⟩)),fun v _=>v=iT ((true)&&((((((((n:Int)) == (1))&&(!(!bs)))&&(!(bg)))&&(decide ((0)<=(d.lo))))&&(decide ((d.lo)<=(100)))) == true)) ((d.hi) == ((-1))) false (.int .i64 (d.lo)),fun v _=>v=iT ((true)&&((((((((n:Int)) == (1))&&(!(!bs)))&&(!(bg)))&&(decide ((0)<=(d.lo))))&&(decide ((d.lo)<=(100)))) == true)) ((d.hi) == ((-1))) false (.bool (decide ((d.lo)<=(d.hi)))),fun v _=>v=iT ((true)&&((((((((n:Int)) == (1))&&(!(!bs)))&&(!(bg)))&&(decide ((0)<=(d.lo))))&&(decide ((d.lo)<=(100)))) == true)) ((d.hi) == ((-1))) false (.bool (decide ((d.lo)<=(d.hi)))),fun v _=>v=iT (((true)&&((((((((n:Int)) == (1))&&(!(!bs)))&&(!(bg)))&&(decide ((0)<=(d.lo))))&&(decide ((d.lo)<=(100)))) == true))&&(((d.hi) == ((-1))) == false)) (decide ((d.lo)<=(d.hi))) true (.pointer (some ⟨b1,7,none⟩)),fun v _=>v=iT (((true)&&((((((((n:Int)) == (1))&&(!(!bs)))&&(!(bg)))&&(decide ((0)<=(d.lo))))&&(decide ((d.lo)<=(100)))) == true))&&(((d.hi) == ((-1))) == false)) (decide ((d.lo)<=(d.hi))) true (.int .i64 (d.hi)),fun v _=>v=iT (((true)&&((((((((n:Int)) == (1))&&(!(!bs)))&&(!(bg)))&&(decide ((0)<=(d.lo))))&&(decide ((d.lo)<=(100)))) == true))&&(((d.hi) == ((-1))) == false)) (decide ((d.lo)<=(d.hi))) true (.bool (decide ((d.hi)<=(100)))),fun v _=>v=iT ((true)&&((((((((n:Int)) == (1))&&(!(!bs)))&&(!(bg)))&&(decide ((0)<=(d.lo))))&&(decide ((d.lo)<=(100)))) == true)) ((d.hi) == ((-1))) false (.bool ((decide ((d.lo)<=(d.hi)))&&(decide ((d.hi)<=(100))))),fun v _=>v=iT (true) (((((((n:Int)) == (1))&&(!(!bs)))&&(!(bg)))&&(decide ((0)<=(d.lo))))&&(decide ((d.lo)<=(100)))) true (.bool (((d.hi) == ((-1))) || ((decide ((d.lo)<=(d.hi)))&&(decide ((d.hi)<=(100)))))),fun v _=>v=Value.bool ((((((((n:Int)) == (1))&&(!(!bs)))&&(!(bg)))&&(decide ((0)<=(d.lo))))&&(decide ((d.lo)<=(100))))&&(((d.hi) == ((-1))) || ((decide ((d.lo)<=(d.hi)))&&(decide ((d.hi)<=(100)))))),fun v _=>v=Value.bool ((((((((n:Int)) == (1))&&(!(!bs)))&&(!(bg)))&&(decide ((0)<=(d.lo))))&&(decide ((d.lo)<=(100))))&&(((d.hi) == ((-1))) || ((decide ((d.lo)<=(d.hi)))&&(decide ((d.hi)<=(100))))))] ?ob ?en
      case ob =>
       refine⟨?_,?_,?_,?_,?_,?_,?_,?_,?_,?_,?_,?_,?_,?_,?_,?_,?_,?_,?_,?_,?_,?_,?_,?_,?_,?_,?_,?_,?_,?_,?_,?_,?_,?_,?_,?_,?_,?_,trivial⟩<;>intro A W h
       ·exact zAA rfl (zAl (.inl rfl) (h.f 5))
       ·exact zAA rfl ((by have e66:A.eval (.tmp 66)=Value.int .i64 ((n:Int)):=h.d 0 66;simp only[execOp,e66];simp[go_sem]))
       ·exact zAA rfl (zAl (.inl rfl) (h.d 1 67))
       ·refine sy_ (h.d 2 68) fun hC=>?_;exact zAl (.inl rfl) (h.f 3)
       ·refine sy_ (h.d 2 68) fun hC=>?_;exact(by have e:A.eval (.tmp 69)=Value.bool (!bs):=zAS (h.d 3 69) hC;simp only[execOp,e];simp[go_sem])
       ·exact zAA rfl (zBJ rfl (h.d 2 68) (fun hb2=>zAS (h.d 4 70) (by (first|(rw[hb2];rfl)|simp[hb2]))))
       ·exact zAA rfl (zAl (.inl rfl) (h.d 5 71))
       ·refine sy_ (h.d 6 72) fun hC=>?_;exact zAl (.inl rfl) (h.f 4)
       ·refine sy_ (h.d 6 72) fun hC=>?_;exact(by have e:A.eval (.tmp 73)=Value.bool (bg):=zAS (h.d 7 73) hC;simp only[execOp,e];simp[go_sem])
       ·exact zAA rfl (zBJ rfl (h.d 6 72) (fun hb2=>zAS (h.d 8 74) (by (first|(rw[hb2];rfl)|simp[hb2]))))
       ·exact zAA rfl (zAl (.inl rfl) (h.d 9 75))
       ·refine sy_ (h.d 10 76) fun hC=>?_;exact(by have e:A.eval (.tmp 1)=Value.pointer (some ⟨b1,0,none⟩):=h.f 1;simp only[execOp,e];simp[go_sem])
       ·refine sy_ (h.d 10 76) fun hC=>?_;exact zAG rfl (zAS (h.d 11 77) hC) zAI ((H.call h.below).cell (i:=1) i_1 6)
       ·refine sy_ (h.d 10 76) fun hC=>?_;exact(by have e78:A.eval (.tmp 78)=Value.int .i64 (d.lo):=zAS (h.d 12 78) hC;simp only[execOp,e78];simp[go_sem])
       ·exact zAA rfl (zBJ rfl (h.d 10 76) (fun hb2=>zAS (h.d 13 79) (by (first|(rw[hb2];rfl)|simp[hb2]))))
       ·exact zAA rfl (zAl (.inl rfl) (h.d 14 80))
       ·refine sy_ (h.d 15 81) fun hC=>?_;exact(by have e:A.eval (.tmp 1)=Value.pointer (some ⟨b1,0,none⟩):=h.f 1;simp only[execOp,e];simp[go_sem])
       ·refine sy_ (h.d 15 81) fun hC=>?_;exact zAG rfl (zAS (h.d 16 82) hC) zAI ((H.call h.below).cell (i:=1) i_1 6)
       ·refine sy_ (h.d 15 81) fun hC=>?_;exact(by have e83:A.eval (.tmp 83)=Value.int .i64 (d.lo):=zAS (h.d 17 83) hC;simp only[execOp,e83];simp[go_sem])
       ·exact zAA rfl (zBJ rfl (h.d 15 81) (fun hb2=>zAS (h.d 18 84) (by (first|(rw[hb2];rfl)|simp[hb2]))))
       ·exact zAA rfl (zAl (.inl rfl) (h.d 19 85))
       ·refine sy_ (h.d 20 86) fun hC=>?_;exact(by have e:A.eval (.tmp 1)=Value.pointer (some ⟨b1,0,none⟩):=h.f 1;simp only[execOp,e];simp[go_sem])
       ·refine sy_ (h.d 20 86) fun hC=>?_;exact zAG rfl (zAS (h.d 21 87) hC) zAI ((H.call h.below).cell (i:=1) i_1 7)
       ·refine sy_ (h.d 20 86) fun hC=>?_;exact(by have e88:A.eval (.tmp 88)=Value.int .i64 (d.hi):=zAS (h.d 22 88) hC;simp only[execOp,e88];simp[go_sem])
       ·refine sy_ (h.d 20 86) fun hC=>?_;exact zAl (.inl rfl) (zAS (h.d 23 89) hC)
       ·refine sy_ (h.d 24 90) fun hC=>?_;exact(by have e:A.eval (.tmp 1)=Value.pointer (some ⟨b1,0,none⟩):=h.f 1;simp only[execOp,e];simp[go_sem])
       ·refine sy_ (h.d 24 90) fun hC=>?_;exact zAG rfl (zAS (h.d 25 91) hC) zAI ((H.call h.below).cell (i:=1) i_1 7)
       ·refine sy_ (h.d 24 90) fun hC=>?_;exact(by have e:A.eval (.tmp 1)=Value.pointer (some ⟨b1,0,none⟩):=h.f 1;simp only[execOp,e];simp[go_sem])
       ·refine sy_ (h.d 24 90) fun hC=>?_;exact zAG rfl (zAS (h.d 27 93) hC) zAI ((H.call h.below).cell (i:=1) i_1 6)
       ·refine sy_ (h.d 24 90) fun hC=>?_;exact(by have e92:A.eval (.tmp 92)=Value.int .i64 (d.hi):=zAS (h.d 26 92) hC;have e94:A.eval (.tmp 94)=Value.int .i64 (d.lo):=zAS (h.d 28 94) hC;simp only[execOp,e92,e94];simp[go_sem])
       ·refine sy_ (h.d 24 90) fun hC=>?_;exact zAl (.inl rfl) (zAS (h.d 29 95) hC)
       ·refine sy_ (h.d 30 96) fun hC=>?_;exact(by have e:A.eval (.tmp 1)=Value.pointer (some ⟨b1,0,none⟩):=h.f 1;simp only[execOp,e];simp[go_sem])
       ·refine sy_ (h.d 30 96) fun hC=>?_;exact zAG rfl (zAS (h.d 31 97) hC) zAI ((H.call h.below).cell (i:=1) i_1 7)
       ·refine sy_ (h.d 30 96) fun hC=>?_;exact(by have e98:A.eval (.tmp 98)=Value.int .i64 (d.hi):=zAS (h.d 32 98) hC;simp only[execOp,e98];simp[go_sem])
       ·refine sy_ (h.d 24 90) fun hC=>?_;exact zBJ rfl (zAS (h.d 30 96) hC) (fun hb2=>zAS (h.d 33 99) (by (first|(rw[hC,hb2];rfl)|(rw[hb2];rfl)|simp[hb2,hC])))
       ·refine sy_ (h.d 20 86) fun hC=>?_;exact zHt rfl (zAS (h.d 24 90) hC) (fun hb2=>zAS (h.d 34 100) (by (first|(rw[hC,hb2];rfl)|(rw[hb2];rfl)|simp[hb2,hC])))
       ·exact zAA rfl (zBJ rfl (h.d 20 86) (fun hb2=>zAS (h.d 35 101) (by (first|(rw[hb2];rfl)|simp[hb2]))))
       ·exact zAA rfl (zAl (.inr rfl) (h.d 36 102))
      case en =>
       intro vals W hbw hv _;have v37:vals 37=_:=hv 37 (by omega)
       simp only[fa,Nat.reduceAdd];rw[v37];clear hv v37
       try simp only[pl]
       have H:=H.call hbw
       go_wp2_with fail
       (refine Met.intro ?_;go_step;exact⟨⟨_,rfl,rfl,rfl,rfl,rfl,rfl,rfl,rfl,by rw[EO.out];rfl⟩,H⟩)
     ·have d6:(d.kind == 6)=false:=by rw[beq_eq_false_iff_ne];exact h6
      by_cases h7:d.kind=7
      ·have d7:(d.kind == 7)=true:=by rw[beq_iff_eq];exact h7
       have EO:=Lib.hid (show zAf d n=(((n:Int) == 1)&&!(!bs)&&decide (0<d.group)&&decide (d.group<=20)) by rw[zAf,if_neg h3,if_neg h45,if_neg h6,if_pos h7,HBS.out])
       clear h3 h45 h6 h7
       go_upto_region 13 with (first|fail)
       refine ws_ 17 [fun v _=>v=Value.int .i64 ((n:Int)),fun v _=>v=Value.bool (((n:Int)) == (1)),fun v _=>v=Value.bool (((n:Int)) == (1)),fun v _=>v=iT (true) (((n:Int)) == (1)) true (.bool (!bs)),fun v _=>v=iT (true) (((n:Int)) == (1)) true (.bool (!(!bs))),fun v _=>v=Value.bool ((((n:Int)) == (1))&&(!(!bs))),fun v _=>v=Value.bool ((((n:Int)) == (1))&&(!(!bs))),fun v _=>v=iT (true) ((((n:Int)) == (1))&&(!(!bs))) true (.pointer (some ⟨b1,9,none⟩)),fun v _=>v=iT (true) ((((n:Int)) == (1))&&(!(!bs))) true (.int .i64 (d.group)),fun v _=>v=iT (true) ((((n:Int)) == (1))&&(!(!bs))) true (.bool (decide ((0)<(d.group)))),fun v _=>v=Value.bool (((((n:Int)) == (1))&&(!(!bs)))&&(decide ((0)<(d.group)))),fun v _=>v=Value.bool (((((n:Int)) == (1))&&(!(!bs)))&&(decide ((0)<(d.group)))),fun v _=>v=iT (true) (((((n:Int)) == (1))&&(!(!bs)))&&(decide ((0)<(d.group)))) true (.pointer (some ⟨b1,9,none⟩)),fun v _=>v=iT (true) (((((n:Int)) == (1))&&(!(!bs)))&&(decide ((0)<(d.group)))) true (.int .i64 (d.group)),fun v _=>v=iT (true) (((((n:Int)) == (1))&&(!(!bs)))&&(decide ((0)<(d.group)))) true (.bool (decide ((d.group)<=(20)))),fun v _=>v=Value.bool ((((((n:Int)) == (1))&&(!(!bs)))&&(decide ((0)<(d.group))))&&(decide ((d.group)<=(20)))),fun v _=>v=Value.bool ((((((n:Int)) == (1))&&(!(!bs)))&&(decide ((0)<(d.group))))&&(decide ((d.group)<=(20))))] ?ob ?en
       case ob =>
        refine⟨?_,?_,?_,?_,?_,?_,?_,?_,?_,?_,?_,?_,?_,?_,?_,?_,?_,trivial⟩<;>intro A W h
        ·exact zAA rfl (zAl (.inl rfl) (h.f 5))
        ·exact zAA rfl ((by have e105:A.eval (.tmp 105)=Value.int .i64 ((n:Int)):=h.d 0 105;simp only[execOp,e105];simp[go_sem]))
        ·exact zAA rfl (zAl (.inl rfl) (h.d 1 106))
        ·refine sy_ (h.d 2 107) fun hC=>?_;exact zAl (.inl rfl) (h.f 3)
        ·refine sy_ (h.d 2 107) fun hC=>?_;exact(by have e:A.eval (.tmp 108)=Value.bool (!bs):=zAS (h.d 3 108) hC;simp only[execOp,e];simp[go_sem])
        ·exact zAA rfl (zBJ rfl (h.d 2 107) (fun hb2=>zAS (h.d 4 109) (by (first|(rw[hb2];rfl)|simp[hb2]))))
        ·exact zAA rfl (zAl (.inl rfl) (h.d 5 110))
        ·refine sy_ (h.d 6 111) fun hC=>?_;exact(by have e:A.eval (.tmp 1)=Value.pointer (some ⟨b1,0,none⟩):=h.f 1;simp only[execOp,e];simp[go_sem])
        ·refine sy_ (h.d 6 111) fun hC=>?_;exact zAG rfl (zAS (h.d 7 112) hC) zAI ((H.call h.below).cell (i:=1) i_1 9)
        ·refine sy_ (h.d 6 111) fun hC=>?_;exact(by have e113:A.eval (.tmp 113)=Value.int .i64 (d.group):=zAS (h.d 8 113) hC;simp only[execOp,e113];simp[go_sem])
        ·exact zAA rfl (zBJ rfl (h.d 6 111) (fun hb2=>zAS (h.d 9 114) (by (first|(rw[hb2];rfl)|simp[hb2]))))
        ·exact zAA rfl (zAl (.inl rfl) (h.d 10 115))
        ·refine sy_ (h.d 11 116) fun hC=>?_;exact(by have e:A.eval (.tmp 1)=Value.pointer (some ⟨b1,0,none⟩):=h.f 1;simp only[execOp,e];simp[go_sem])
        ·refine sy_ (h.d 11 116) fun hC=>?_;exact zAG rfl (zAS (h.d 12 117) hC) zAI ((H.call h.below).cell (i:=1) i_1 9)
        ·refine sy_ (h.d 11 116) fun hC=>?_;exact(by have e118:A.eval (.tmp 118)=Value.int .i64 (d.group):=zAS (h.d 13 118) hC;simp only[execOp,e118];simp[go_sem])
        ·exact zAA rfl (zBJ rfl (h.d 11 116) (fun hb2=>zAS (h.d 14 119) (by (first|(rw[hb2];rfl)|simp[hb2]))))
        ·exact zAA rfl (zAl (.inr rfl) (h.d 15 120))
       case en =>
        intro vals W hbw hv _;have v16:vals 16=_:=hv 16 (by omega)
        simp only[fa,Nat.reduceAdd];rw[v16];clear hv v16
        try simp only[pl]
        have H:=H.call hbw
        go_wp2_with fail
        (refine Met.intro ?_;go_step;exact⟨⟨_,rfl,rfl,rfl,rfl,rfl,rfl,rfl,rfl,by rw[EO.out];rfl⟩,H⟩)
      ·have d7:(d.kind == 7)=false:=by rw[beq_eq_false_iff_ne];exact h7
       have EO:=Lib.hid (show zAf d n=(decide (1<=d.kind)&&decide (d.kind<=13)&&((n:Int) == 0)&&!(!bs)&&!bg) by rw[zAf,if_neg h3,if_neg h45,if_neg h6,if_neg h7,HBS.out,HBG.out])
       clear h3 h45 h6 h7
       go_upto_region 4 with (first|fail)
       refine ws_ 21 [fun v _=>v=Value.pointer (some ⟨b1,0,none⟩),fun v _=>v=Value.int .i64 (d.kind),fun v _=>v=Value.bool (decide ((1)<=(d.kind))),fun v _=>v=Value.bool (decide ((1)<=(d.kind))),fun v _=>v=iT (true) (decide ((1)<=(d.kind))) true (.pointer (some ⟨b1,0,none⟩)),fun v _=>v=iT (true) (decide ((1)<=(d.kind))) true (.int .i64 (d.kind)),fun v _=>v=iT (true) (decide ((1)<=(d.kind))) true (.bool (decide ((d.kind)<=(13)))),fun v _=>v=Value.bool ((decide ((1)<=(d.kind)))&&(decide ((d.kind)<=(13)))),fun v _=>v=Value.bool ((decide ((1)<=(d.kind)))&&(decide ((d.kind)<=(13)))),fun v _=>v=iT (true) ((decide ((1)<=(d.kind)))&&(decide ((d.kind)<=(13)))) true (.int .i64 ((n:Int))),fun v _=>v=iT (true) ((decide ((1)<=(d.kind)))&&(decide ((d.kind)<=(13)))) true (.bool (((n:Int)) == (0))),fun v _=>v=Value.bool (((decide ((1)<=(d.kind)))&&(decide ((d.kind)<=(13))))&&(((n:Int)) == (0))),fun v _=>v=Value.bool (((decide ((1)<=(d.kind)))&&(decide ((d.kind)<=(13))))&&(((n:Int)) == (0))),fun v _=>v=iT (true) (((decide ((1)<=(d.kind)))&&(decide ((d.kind)<=(13))))&&(((n:Int)) == (0))) true (.bool (!bs)),fun v _=>v=iT (true) (((decide ((1)<=(d.kind)))&&(decide ((d.kind)<=(13))))&&(((n:Int)) == (0))) true (.bool (!(!bs))),fun v _=>v=Value.bool ((((decide ((1)<=(d.kind)))&&(decide ((d.kind)<=(13))))&&(((n:Int)) == (0)))&&(!(!bs))),fun v _=>v=Value.bool ((((decide ((1)<=(d.kind)))&&(decide ((d.kind)<=(13))))&&(((n:Int)) == (0)))&&(!(!bs))),fun v _=>v=iT (true) ((((decide ((1)<=(d.kind)))&&(decide ((d.kind)<=(13))))&&(((n:Int)) == (0)))&&(!(!bs))) true (.bool (bg)),fun v _=>v=iT (true) ((((decide ((1)<=(d.kind)))&&(decide ((d.kind)<=(13))))&&(((n:Int)) == (0)))&&(!(!bs))) true (.bool (!(bg))),fun v _=>v=Value.bool (((((decide ((1)<=(d.kind)))&&(decide ((d.kind)<=(13))))&&(((n:Int)) == (0)))&&(!(!bs)))&&(!(bg))),fun v _=>v=Value.bool (((((decide ((1)<=(d.kind)))&&(decide ((d.kind)<=(13))))&&(((n:Int)) == (0)))&&(!(!bs)))&&(!(bg)))] ?ob ?en
       case ob =>
        refine⟨?_,?_,?_,?_,?_,?_,?_,?_,?_,?_,?_,?_,?_,?_,?_,?_,?_,?_,?_,?_,?_,trivial⟩<;>intro A W h
        ·exact zAA rfl ((by have e:A.eval (.tmp 1)=Value.pointer (some ⟨b1,0,none⟩):=h.f 1;simp only[execOp,e];simp[go_sem]))
        ·exact zAA rfl (zAG rfl (h.d 0 20) zAh ((H.call h.below).cell (i:=1) i_1 0))
        ·exact zAA rfl ((by have e21:A.eval (.tmp 21)=Value.int .i64 (d.kind):=h.d 1 21;simp only[execOp,e21];simp[go_sem]))
        ·exact zAA rfl (zAl (.inl rfl) (h.d 2 22))
        ·refine sy_ (h.d 3 23) fun hC=>?_;exact(by have e:A.eval (.tmp 1)=Value.pointer (some ⟨b1,0,none⟩):=h.f 1;simp only[execOp,e];simp[go_sem])
        ·refine sy_ (h.d 3 23) fun hC=>?_;exact zAG rfl (zAS (h.d 4 24) hC) zAh ((H.call h.below).cell (i:=1) i_1 0)
        ·refine sy_ (h.d 3 23) fun hC=>?_;exact(by have e25:A.eval (.tmp 25)=Value.int .i64 (d.kind):=zAS (h.d 5 25) hC;simp only[execOp,e25];simp[go_sem])
        ·exact zAA rfl (zBJ rfl (h.d 3 23) (fun hb2=>zAS (h.d 6 26) (by (first|(rw[hb2];rfl)|simp[hb2]))))
        ·exact zAA rfl (zAl (.inl rfl) (h.d 7 27))
        ·refine sy_ (h.d 8 28) fun hC=>?_;exact zAl (.inl rfl) (h.f 5)
        ·refine sy_ (h.d 8 28) fun hC=>?_;exact(by have e29:A.eval (.tmp 29)=Value.int .i64 ((n:Int)):=zAS (h.d 9 29) hC;simp only[execOp,e29];simp[go_sem])
        ·exact zAA rfl (zBJ rfl (h.d 8 28) (fun hb2=>zAS (h.d 10 30) (by (first|(rw[hb2];rfl)|simp[hb2]))))
        ·exact zAA rfl (zAl (.inl rfl) (h.d 11 31))
        ·refine sy_ (h.d 12 32) fun hC=>?_;exact zAl (.inl rfl) (h.f 3)
        ·refine sy_ (h.d 12 32) fun hC=>?_;exact(by have e:A.eval (.tmp 33)=Value.bool (!bs):=zAS (h.d 13 33) hC;simp only[execOp,e];simp[go_sem])
        ·exact zAA rfl (zBJ rfl (h.d 12 32) (fun hb2=>zAS (h.d 14 34) (by (first|(rw[hb2];rfl)|simp[hb2]))))
        ·exact zAA rfl (zAl (.inl rfl) (h.d 15 35))
        ·refine sy_ (h.d 16 36) fun hC=>?_;exact zAl (.inl rfl) (h.f 4)
        ·refine sy_ (h.d 16 36) fun hC=>?_;exact(by have e:A.eval (.tmp 37)=Value.bool (bg):=zAS (h.d 17 37) hC;simp only[execOp,e];simp[go_sem])
        ·exact zAA rfl (zBJ rfl (h.d 16 36) (fun hb2=>zAS (h.d 18 38) (by (first|(rw[hb2];rfl)|simp[hb2]))))
        ·exact zAA rfl (zAl (.inr rfl) (h.d 19 39))
       case en =>
        intro vals W hbw hv _;have v20:vals 20=_:=hv 20 (by omega)
        simp only[fa,Nat.reduceAdd];rw[v20];clear hv v20
        try simp only[pl]
        have H:=H.call hbw
        go_wp2_with fail
        (refine Met.intro ?_;go_step;exact⟨⟨_,rfl,rfl,rfl,rfl,rfl,rfl,rfl,rfl,by rw[EO.out];rfl⟩,H⟩)
  case rest =>
   (rintro _ wc ⟨⟨t,rfl,ht,e0,e1,e2,e3,e4,e5,e6⟩,hcut⟩;have hl:=zRW t ht;clear ht;obtain⟨u0,hl⟩:=hl;obtain⟨u1,hl⟩:=hl;obtain⟨u2,hl⟩:=hl;obtain⟨u3,hl⟩:=hl;obtain⟨u4,hl⟩:=hl;obtain⟨u5,hl⟩:=hl;obtain⟨u6,hl⟩:=hl;obtain⟨u7,hl⟩:=hl;obtain⟨u8,hl⟩:=hl;obtain⟨u9,hl⟩:=hl;obtain⟨u10,hl⟩:=hl;obtain⟨u11,hl⟩:=hl;obtain⟨u12,hl⟩:=hl;obtain⟨u13,hl⟩:=hl;obtain⟨u14,hl⟩:=hl;obtain⟨u15,hl⟩:=hl;obtain⟨u16,hl⟩:=hl;obtain⟨u17,hl⟩:=hl;obtain⟨u18,hl⟩:=hl;obtain⟨u19,hl⟩:=hl;obtain⟨u20,hl⟩:=hl;obtain⟨u21,hl⟩:=hl;obtain⟨u22,hl⟩:=hl;obtain⟨u23,hl⟩:=hl;obtain⟨u24,hl⟩:=hl;obtain⟨u25,hl⟩:=hl;obtain⟨u26,hl⟩:=hl;obtain⟨u27,hl⟩:=hl;obtain⟨u28,hl⟩:=hl;obtain⟨u29,hl⟩:=hl;obtain⟨u30,hl⟩:=hl;obtain⟨u31,hl⟩:=hl;obtain⟨u32,hl⟩:=hl;obtain⟨u33,hl⟩:=hl;obtain⟨u34,hl⟩:=hl;obtain⟨u35,hl⟩:=hl;obtain⟨u36,hl⟩:=hl;obtain⟨u37,hl⟩:=hl;obtain⟨u38,hl⟩:=hl;obtain⟨u39,hl⟩:=hl;obtain⟨u40,hl⟩:=hl;obtain⟨u41,hl⟩:=hl;obtain⟨u42,hl⟩:=hl;obtain⟨u43,hl⟩:=hl;obtain⟨u44,hl⟩:=hl;obtain⟨u45,hl⟩:=hl;obtain⟨u46,hl⟩:=hl;obtain⟨u47,hl⟩:=hl;obtain⟨u48,hl⟩:=hl;obtain⟨u49,hl⟩:=hl;obtain⟨u50,hl⟩:=hl;obtain⟨u51,hl⟩:=hl;obtain⟨u52,hl⟩:=hl;obtain⟨u53,hl⟩:=hl;obtain⟨u54,hl⟩:=hl;obtain⟨u55,hl⟩:=hl;obtain⟨u56,hl⟩:=hl;obtain⟨u57,hl⟩:=hl;obtain⟨u58,hl⟩:=hl;obtain⟨u59,hl⟩:=hl;obtain⟨u60,hl⟩:=hl;obtain⟨u61,hl⟩:=hl;obtain⟨u62,hl⟩:=hl;obtain⟨u63,hl⟩:=hl;obtain⟨u64,hl⟩:=hl;obtain⟨u65,hl⟩:=hl;obtain⟨u66,hl⟩:=hl;obtain⟨u67,hl⟩:=hl;obtain⟨u68,hl⟩:=hl;obtain⟨u69,hl⟩:=hl;obtain⟨u70,hl⟩:=hl;obtain⟨u71,hl⟩:=hl;obtain⟨u72,hl⟩:=hl;obtain⟨u73,hl⟩:=hl;obtain⟨u74,hl⟩:=hl;obtain⟨u75,hl⟩:=hl;obtain⟨u76,hl⟩:=hl;obtain⟨u77,hl⟩:=hl;obtain⟨u78,hl⟩:=hl;obtain⟨u79,hl⟩:=hl;obtain⟨u80,hl⟩:=hl;obtain⟨u81,hl⟩:=hl;obtain⟨u82,hl⟩:=hl;obtain⟨u83,hl⟩:=hl;obtain⟨u84,hl⟩:=hl;obtain⟨u85,hl⟩:=hl;obtain⟨u86,hl⟩:=hl;obtain⟨u87,hl⟩:=hl;obtain⟨u88,hl⟩:=hl;obtain⟨u89,hl⟩:=hl;obtain⟨u90,hl⟩:=hl;obtain⟨u91,hl⟩:=hl;obtain⟨u92,hl⟩:=hl;obtain⟨u93,hl⟩:=hl;obtain⟨u94,hl⟩:=hl;obtain⟨u95,hl⟩:=hl;obtain⟨u96,hl⟩:=hl;obtain⟨u97,hl⟩:=hl;obtain⟨u98,hl⟩:=hl;obtain⟨u99,hl⟩:=hl;obtain⟨u100,hl⟩:=hl;obtain⟨u101,hl⟩:=hl;obtain⟨u102,hl⟩:=hl;obtain⟨u103,hl⟩:=hl;obtain⟨u104,hl⟩:=hl;obtain⟨u105,hl⟩:=hl;obtain⟨u106,hl⟩:=hl;obtain⟨u107,hl⟩:=hl;obtain⟨u108,hl⟩:=hl;obtain⟨u109,hl⟩:=hl;obtain⟨u110,hl⟩:=hl;obtain⟨u111,hl⟩:=hl;obtain⟨u112,hl⟩:=hl;obtain⟨u113,hl⟩:=hl;obtain⟨u114,hl⟩:=hl;obtain⟨u115,hl⟩:=hl;obtain⟨u116,hl⟩:=hl;obtain⟨u117,hl⟩:=hl;obtain⟨u118,hl⟩:=hl;obtain⟨u119,hl⟩:=hl;obtain⟨u120,hl⟩:=hl;obtain⟨u121,hl⟩:=hl;obtain⟨u122,hl⟩:=hl;obtain⟨u123,hl⟩:=hl;obtain⟨u124,hl⟩:=hl;obtain⟨u125,hl⟩:=hl;obtain⟨u126,hl⟩:=hl;obtain⟨u127,hl⟩:=hl;obtain⟨u128,hl⟩:=hl;obtain⟨u129,hl⟩:=hl;obtain⟨u130,hl⟩:=hl;obtain⟨u131,hl⟩:=hl;obtain⟨u132,hl⟩:=hl;obtain⟨u133,hl⟩:=hl;obtain⟨u134,hl⟩:=hl;obtain⟨u135,hl⟩:=hl;obtain⟨u136,hl⟩:=hl;obtain⟨u137,hl⟩:=hl;obtain⟨u138,hl⟩:=hl;obtain⟨u139,hl⟩:=hl;obtain⟨u140,hl⟩:=hl;obtain⟨u141,hl⟩:=hl;obtain⟨u142,hl⟩:=hl;obtain⟨u143,hl⟩:=hl;obtain⟨u144,hl⟩:=hl;obtain⟨u145,hl⟩:=hl;obtain⟨u146,hl⟩:=hl;obtain⟨u147,hl⟩:=hl;obtain⟨u148,hl⟩:=hl;obtain⟨u149,hl⟩:=hl;obtain⟨u150,hl⟩:=hl;obtain⟨u151,hl⟩:=hl;obtain⟨u152,hl⟩:=hl;obtain⟨u153,hl⟩:=hl;subst hl;(replace e0:some u0=some (zAQ d (.slice p n c)):=e0);(cases e0);(replace e1:some u1=some (.pointer (some ⟨b1,0,none⟩)):=e1);(cases e1);(replace e2:some u2=some (.bool false):=e2);(cases e2);(replace e3:some u3=some (.bool (!bs)):=e3);(cases e3);(replace e4:some u4=some (.bool bg):=e4);(cases e4);(replace e5:some u5=some (.int .i64 (n:Int)):=e5);(cases e5);(replace e6:some u6=some (.bool (zAf d n)):=e6);(cases e6))
   have H:=hcut;clear hcut
   go_upto_region 14 with fail
   refine ws_ 21 [fun v _=>v=Value.bool (zAf d n),fun v _=>v=Value.bool (!(zAf d n)),fun v _=>v=Value.bool (!(zAf d n)),fun v _=>v=iT (true) (!(zAf d n)) false (.pointer (some ⟨b1,0,none⟩)),fun v _=>v=iT (true) (!(zAf d n)) false (.int .i64 (d.kind)),fun v _=>v=iT (true) (!(zAf d n)) false (.bool ((d.kind) != (6))),fun v _=>v=iT (true) (!(zAf d n)) false (.bool ((d.kind) != (6))),fun v _=>v=iT ((true)&&((!(zAf d n)) == false)) ((d.kind) != (6)) true (.pointer (some ⟨b1,6,none⟩)),fun v _=>v=iT ((true)&&((!(zAf d n)) == false)) ((d.kind) != (6)) true (.int .i64 (d.lo)),fun v _=>v=iT ((true)&&((!(zAf d n)) == false)) ((d.kind) != (6)) true (.bool ((d.lo) != (0))),fun v _=>v=iT ((true)&&((!(zAf d n)) == false)) ((d.kind) != (6)) true (.bool ((d.lo) != (0))),fun v _=>v=iT (((true)&&((!(zAf d n)) == false))&&(((d.kind) != (6)) == true)) ((d.lo) != (0)) false (.pointer (some ⟨b1,7,none⟩)),fun v _=>v=iT (((true)&&((!(zAf d n)) == false))&&(((d.kind) != (6)) == true)) ((d.lo) != (0)) false (.int .i64 (d.hi)),fun v _=>v=iT (((true)&&((!(zAf d n)) == false))&&(((d.kind) != (6)) == true)) ((d.lo) != (0)) false (.bool ((d.hi) != (0))),fun v _=>v=iT ((true)&&((!(zAf d n)) == false)) ((d.kind) != (6)) true (.bool (((d.lo) != (0)) || ((d.hi) != (0)))),fun v _=>v=iT ((true)&&((!(zAf d n)) == false)) ((d.kind) != (6)) true (.bool (((d.lo) != (0)) || ((d.hi) != (0)))),fun v _=>v=iT (((true)&&((!(zAf d n)) == false))&&(((d.kind) != (6)) == true)) (((d.lo) != (0)) || ((d.hi) != (0))) false (.pointer (some ⟨b1,8,none⟩)),fun v _=>v=iT (((true)&&((!(zAf d n)) == false))&&(((d.kind) != (6)) == true)) (((d.lo) != (0)) || ((d.hi) != (0))) false (.bool (d.lazy)),fun v _=>v=iT ((true)&&((!(zAf d n)) == false)) ((d.kind) != (6)) true (.bool ((((d.lo) != (0)) || ((d.hi) != (0))) || (d.lazy))),fun v _=>v=iT (true) (!(zAf d n)) false (.bool (((d.kind) != (6))&&((((d.lo) != (0)) || ((d.hi) != (0))) || (d.lazy)))),fun v _=>v=Value.bool ((!(zAf d n)) || (((d.kind) != (6))&&((((d.lo) != (0)) || ((d.hi) != (0))) || (d.lazy))))] ?ob ?en
   case ob =>
    refine⟨?_,?_,?_,?_,?_,?_,?_,?_,?_,?_,?_,?_,?_,?_,?_,?_,?_,?_,?_,?_,?_,trivial⟩<;>intro A W h
    ·exact zAA rfl (zAl (.inl rfl) (h.f 6))
    ·exact zAA rfl ((by have e:A.eval (.tmp 121)=Value.bool (zAf d n):=h.d 0 121;simp only[execOp,e];simp[go_sem]))
    ·exact zAA rfl (zAl (.inl rfl) (h.d 1 122))
    ·refine sy_ (h.d 2 123) fun hC=>?_;exact(by have e:A.eval (.tmp 1)=Value.pointer (some ⟨b1,0,none⟩):=h.f 1;simp only[execOp,e];simp[go_sem])
    ·refine sy_ (h.d 2 123) fun hC=>?_;exact zAG rfl (zAS (h.d 3 124) hC) zAh ((H.call h.below).cell (i:=1) i_1 0)
    ·refine sy_ (h.d 2 123) fun hC=>?_;exact(by have e125:A.eval (.tmp 125)=Value.int .i64 (d.kind):=zAS (h.d 4 125) hC;simp only[execOp,e125];simp[go_sem])
    ·refine sy_ (h.d 2 123) fun hC=>?_;exact zAl (.inl rfl) (zAS (h.d 5 126) hC)
    ·refine sy_ (h.d 6 127) fun hC=>?_;exact(by have e:A.eval (.tmp 1)=Value.pointer (some ⟨b1,0,none⟩):=h.f 1;simp only[execOp,e];simp[go_sem])
    ·refine sy_ (h.d 6 127) fun hC=>?_;exact zAG rfl (zAS (h.d 7 128) hC) zAI ((H.call h.below).cell (i:=1) i_1 6)
    ·refine sy_ (h.d 6 127) fun hC=>?_;exact(by have e129:A.eval (.tmp 129)=Value.int .i64 (d.lo):=zAS (h.d 8 129) hC;simp only[execOp,e129];simp[go_sem])
    ·refine sy_ (h.d 6 127) fun hC=>?_;exact zAl (.inl rfl) (zAS (h.d 9 130) hC)
    ·refine sy_ (h.d 10 131) fun hC=>?_;exact(by have e:A.eval (.tmp 1)=Value.pointer (some ⟨b1,0,none⟩):=h.f 1;simp only[execOp,e];simp[go_sem])
    ·refine sy_ (h.d 10 131) fun hC=>?_;exact zAG rfl (zAS (h.d 11 132) hC) zAI ((H.call h.below).cell (i:=1) i_1 7)
    ·refine sy_ (h.d 10 131) fun hC=>?_;exact(by have e133:A.eval (.tmp 133)=Value.int .i64 (d.hi):=zAS (h.d 12 133) hC;simp only[execOp,e133];simp[go_sem])
    ·refine sy_ (h.d 6 127) fun hC=>?_;exact zHt rfl (zAS (h.d 10 131) hC) (fun hb2=>zAS (h.d 13 134) (by (first|(rw[hC,hb2];rfl)|(rw[hb2];rfl)|simp[hb2,hC])))
    ·refine sy_ (h.d 6 127) fun hC=>?_;exact zAl (.inl rfl) (zAS (h.d 14 135) hC)
    ·refine sy_ (h.d 15 136) fun hC=>?_;exact(by have e:A.eval (.tmp 1)=Value.pointer (some ⟨b1,0,none⟩):=h.f 1;simp only[execOp,e];simp[go_sem])
    ·refine sy_ (h.d 15 136) fun hC=>?_;exact zAG rfl (zAS (h.d 16 137) hC) zBM ((H.call h.below).cell (i:=1) i_1 8)
    ·refine sy_ (h.d 6 127) fun hC=>?_;exact zHt rfl (zAS (h.d 15 136) hC) (fun hb2=>zAS (h.d 17 138) (by (first|(rw[hC,hb2];rfl)|(rw[hb2];rfl)|simp[hb2,hC])))
    ·refine sy_ (h.d 2 123) fun hC=>?_;exact zBJ rfl (zAS (h.d 6 127) hC) (fun hb2=>zAS (h.d 18 139) (by (first|(rw[hC,hb2];rfl)|(rw[hb2];rfl)|simp[hb2,hC])))
    ·exact zAA rfl (zHt rfl (h.d 2 123) (fun hb2=>zAS (h.d 19 140) (by (first|(rw[hb2];rfl)|simp[hb2]))))
   case en =>
    intro vals W hbw hv _;have v20:vals 20=_:=hv 20 (by omega)
    simp only[fa,Nat.reduceAdd];rw[v20];clear hv v20
    try simp only[pl]
    have H:=H.call hbw;rw[zLt]
    cases hok:zA7 d n with
    | false =>
     have E2:=Lib.hid (show zAi (.mk d (xs.map (·.1)))=false by rw[E.out,hok];rfl)
     clear hok
     go_wp2_with (first|fail)
     go_ret;exact⟨retb E2.out.symm,H.below⟩
    | true =>
     have E2:=Lib.hid (show zAi (.mk d (xs.map (·.1)))=zAd (xs.map (·.1)) by rw[E.out,hok];rfl)
     clear hok
     go_wp2_with (first|fail)
     go_loopw [7] (fun ix wr=>∃ j:Nat,j<=n/\ix=.int .i64 j/\Hid (zAd ((xs.map (·.1)).take j)=true)/\Hold w0 wr [.kn F (Knows F p n c xs),.blk b1 (zAO d (.slice p n c)) 28]) (fun ix _=>n+1 - (intOf ix).toNat)
     case atStart=>exact⟨0,by omega,rfl,Lib.hid rfl,H⟩
     case round =>
      clear H;obtain⟨j,hj,rfl,G,H⟩:=hrel
      by_cases hlt:j<n
      ·have dj:decide ((j:Int)<(n:Int))=true:=by simp;omega
       obtain⟨x,hx⟩:∃ x,xs[j]?=some x:=⟨_,List.getElem?_eq_getElem (by rw[← HN.out];exact hlt)⟩
       obtain⟨b,off,rfl⟩:=hp (by rw[← HN.out];omega)
       have hs1:=zCC hx;have hmem:=List.mem_of_getElem? hx;have hcell:∀ V,Knows F (some ⟨b,off,none⟩) n c xs V->∀ k,k<10->V.cell? ⟨b,off+j * 10+k,none⟩=(zAR x)[k]?:=fun V h=>h.cells hx rfl
       have ih:=fun w (hw:∀ b,F b->b<w.heap.size) (hk:Knows F (some ⟨b,off,none⟩) n c xs w)=>IH x.1 x.2.1 _ x.2.2 F w (by omega) (by omega) hw (hk.2 x hmem) rfl
       cases hkx:zAi x.1 with
       | false =>
        have E3:=Lib.hid (show zAi (.mk d (xs.map (·.1)))=false by rw[E2.out,zPi hx hkx])
        rw[hkx]at ih;clear IH hx hmem hp hkx hs1
        go_wp2_with (first|((with_reducible refine gL ?_);refine zAM wtd_ _ _ rfl rfl zAK (zAW x) (hcell _ (H.kn (i:=0) .zero)) ?_)|((with_reducible refine gL ?_);refine aG H ?_)|((with_reducible refine ch (ih _ (H.knlt (i:=0) .zero) (H.kn (i:=0) .zero)) H ?_);clear H;intro w H))
        go_ret;exact⟨retb E3.out.symm,H.below⟩
       | true =>
        have G2:=Lib.hid (show zAd ((xs.map (·.1)).take (j+1))=true by rw[zMP hx,G.out,hkx];rfl)
        rw[hkx]at ih;clear IH hx hmem hp hkx hs1
        go_wp2_with (first|((with_reducible refine gL ?_);refine zAM wtd_ _ _ rfl rfl zAK (zAW x) (hcell _ (H.kn (i:=0) .zero)) ?_)|((with_reducible refine gL ?_);refine aG H ?_)|((with_reducible refine ch (ih _ (H.knlt (i:=0) .zero) (H.kn (i:=0) .zero)) H ?_);clear H;intro w H))
        go_roundw
        case rel=>exact⟨j+1,by omega,by go_num,G2,H⟩
        case measure=>simp[intOf];omega
      ·have dj:decide ((j:Int)<(n:Int))=false:=by simp;omega
       have E3:=Lib.hid (show zAi (.mk d (xs.map (·.1)))=true by
        rw[E2.out];have:=G.out
        rwa [List.take_of_length_le (by rw[List.length_map,← HN.out];omega)]at this)
       go_wp2_with (first|fail)
       go_ret;exact⟨retb E3.out.symm,H.below⟩
end
section
open Go.RowKit
structure InstD where
 kind:Int
 set:Nat->Nat:=zAU
 next:Int:=0
 other:Int:=0
 slot:Int:=0
 spot:Int:=0
abbrev zOM:=List Int
abbrev Ent:=Nat × Nat × zOM
abbrev Way:=Nat × zOM
def zSD (b:Nat):Bool:=decide (48<=b)&&decide (b<=57) || decide (97<=b)&&decide (b<=122) || decide (65<=b)&&decide (b<=90) || b == 95
def zPo (s:Str) (i:Int):Bool:=if i<0\/(s.length:Int)<=i then false else zSD (byt s i.toNat)
def zRV (k:Int) (s:Str) (i:Int):Bool :=
 if i<0\/(s.length:Int)<i then false
 else if k=8 then i == 0
 else if k=9 then i == s.length
 else if k=10 then i == 0 || byt s (i - 1).toNat == 10
 else if k=11 then i == s.length || byt s i.toNat == 10
 else if k=12 then zPo s (i - 1) != zPo s i
 else if k=13 then zPo s (i - 1) == zPo s i
 else false
def inN (n:Nat) (x:Int):Bool:=decide (0<=x)&&decide (x<n)
def zEL (n:Nat) (x:InstD):Bool :=
 if x.kind=1 then !eqS x.set zAU&&inN n x.next&&(x.other == 0)&&(x.slot == 0)&&(x.spot == 0)
 else if x.kind=2 then eqS x.set zAU&&inN n x.next&&inN n x.other&&(x.slot == 0)&&(x.spot == 0)
 else if x.kind=3 then eqS x.set zAU&&inN n x.next&&(x.other == 0)&&inN 42 x.slot&&(x.spot == 0)
 else if x.kind=4 then eqS x.set zAU&&inN n x.next&&(x.other == 0)&&(x.slot == 0)&&(decide (8<=x.spot)&&decide (x.spot<=13))
 else if x.kind=5\/x.kind=6 then eqS x.set zAU&&(x.next == 0)&&(x.other == 0)&&(x.slot == 0)&&(x.spot == 0)
 else false
def zGL (p:List InstD):Bool:=decide (1<=p.length)&&decide (p.length<=4000)&&p.all (zEL p.length)
section
variable (p:List InstD) (s:Str)
def atI (k:Nat):InstD:=p.getD k {kind:=6}
def sucE (k i:Nat) (sl:zOM):List Ent :=
 let x:=atI p k
 if x.kind=1 then (if i<s.length/\hasB x.set (byt s i)=true then [(x.next.toNat,i+1,sl)] else [])
 else if x.kind=2 then [(x.next.toNat,i,sl),(x.other.toNat,i,sl)]
 else if x.kind=3 then [(x.next.toNat,i,sl.set x.slot.toNat i)]
 else if x.kind=4 then (if zRV x.spot s i=true then [(x.next.toNat,i,sl)] else [])
 else []
def upS (S:Nat->Nat->Bool) (k i:Nat):Nat->Nat->Bool:=fun a j=>if a=k/\j=i then true else S a j
inductive Dfs (f:Option zOM):List Ent->(Nat->Nat->Bool)->Option zOM->Prop
 | nil (S):Dfs f [] S f
 | seen (k i sl r S res) (h:S k i=true) (hr:Dfs f r S res):Dfs f ((k,i,sl)::r) S res
 | hit (k i sl r S) (h:S k i=false) (hk:(atI p k).kind=5):Dfs f ((k,i,sl)::r) S (some sl)
 | go (k i sl r S res) (h:S k i=false) (hk:(atI p k).kind≠5) (hr:Dfs f (sucE p s k i sl++r) (upS S k i) res):Dfs f ((k,i,sl)::r) S res
variable {p s}
def Above (i:Nat) (st:List Ent):Prop:=∀ e ∈ st,i<=e.2.1
theorem Above.append {i:Nat} {a b:List Ent} (h:Above i a) (k:Above i b):Above i (a++b):=fun x hx=>(List.mem_append.1 hx).elim (h x) (k x)
def at_ (i:Nat) (l:List Way):List Ent:=l.map fun e=>(e.1,i,e.2)
def InW (p:List InstD) (l:List Way):Prop:=∀ e ∈ l,e.1<p.length
theorem InW.append {a b:List Way} (h:InW p a) (k:InW p b):InW p (a++b):=fun x hx=>(List.mem_append.1 hx).elim (h x) (k x)
end
end
section
open Go.RowKit Go.Shelf
def zAL (x:InstD):Array Value:=#[.int .i64 x.kind,.int .u64 (x.set 0),.int .u64 (x.set 1),.int .u64 (x.set 2),.int .u64 (x.set 3),.int .i64 x.next,.int .i64 x.other,.int .i64 x.slot,.int .i64 x.spot]
abbrev zAm (x:InstD):Value:=.agg (zAL x)
theorem ig0 (x:InstD):(zAL x)[0]?=some (.int .i64 x.kind):=rfl
theorem ig5 (x:InstD):(zAL x)[5]?=some (.int .i64 x.next):=rfl
theorem ig6 (x:InstD):(zAL x)[6]?=some (.int .i64 x.other):=rfl
theorem ig7 (x:InstD):(zAL x)[7]?=some (.int .i64 x.slot):=rfl
theorem zAX (xs:List InstD):∀ r ∈ xs.map zAL,r.size=9:=by
 intro r hr;obtain⟨x,_,rfl⟩:=List.mem_map.1 hr;rfl
def InstsR (F:Nat->Prop) (p:Option Addr) (c:Nat) (xs:List InstD) (V:World):Prop:=RdN 9 V F (.slice p xs.length c) (xs.map zAL)
section
variable {F:Nat->Prop} {p:Option Addr} {n c:Nat} {xs:List InstD} {V W w0:World}
theorem InstsR.kept (h:InstsR F p c xs W) (hV:∀ b,F b->V.heap[b]?=W.heap[b]?):InstsR F p c xs V:=RdN.kept h hV
theorem InstsR.bound (h:InstsR F p c xs W):xs.length<=c/\c<=9223372036854775807:=by
 obtain⟨p',c',e,h1,h2,_⟩:=h;simp only[Value.slice.injEq]at e;obtain⟨rfl,_,rfl⟩:=e;rw[List.length_map]at h1;exact⟨h1,by simpa [maxLen] using h2⟩
theorem InstsR.at (h:InstsR F p c xs W) (hn:0<xs.length):∃ b off,p=some ⟨b,off,none⟩:=by
 obtain⟨p',c',e,_,_,_,h3⟩:=h;simp only[Value.slice.injEq]at e;obtain⟨rfl,_,rfl⟩:=e;obtain⟨b,off,e2,_⟩:=h3 0 (zAL xs[0]) (by rw[List.getElem?_map,List.getElem?_eq_getElem hn];rfl)
 exact⟨b,off,e2⟩
theorem InstsR.cells {b off:Nat} (h:InstsR F (some ⟨b,off,none⟩) c xs V) {j:Nat} {x:InstD} (hj:xs[j]?=some x) {q:Nat} (hq:off+j * 9=q):∀ k,k<9->V.cell? ⟨b,q+k,none⟩=(zAL x)[k]?:=by
 obtain⟨p,c,e1,_,_,_,h3⟩:=h;obtain⟨b',off',e2,_,_,h4⟩:=h3 j (zAL x) (by rw[List.getElem?_map,hj];rfl)
 simp only[Value.slice.injEq]at e1;obtain⟨rfl,_,rfl⟩:=e1
 cases e2;subst hq
 exact h4
theorem Hold.insts (hF:∀ b,F b->b<w0.heap.size) (h:InstsR F p c xs w0):Hold w0 w0 [.kn F (InstsR F p c xs)] :=
 (Hold.start w0).know F (InstsR F p c xs) hF (fun i r h=>by simp at h) (fun V hV=>h.kept hV)
end
theorem zAg:rowB Tryz.prog 47 9=true:=by kernel_rfl
theorem zKl:zCH Tryz.prog 47=zAL {kind:=0}:=by kernel_rfl
theorem zHp:(zCH Tryz.prog 47).size=9:=by kernel_rfl
theorem zNK {o:Oper} {a:Act} {w:World} {x y:Operand} {U:TypeId} {s u:Nat->Nat} (hop:o.op=.binOp .neq 25 x y U) (hx:a.eval x=setV s) (hy:a.eval y=setV u):(execOp a.eval o).run Tryz.prog w=.ok (.value (.bool (!(eqS s u)))) w:=by
 have he:=zFR s u w;simp only[execOp,hop,hx,hy];unfold setV;simp[go_sem,he]
theorem zLZ {o:Oper} {a:Act} {w:World} (hop:o.op=.build 25 #[]):(execOp a.eval o).run Tryz.prog w=.ok (.value (setV zAU)) w:=by
 have h:(Instr.build 25 #[]).run Tryz.prog w=.ok (setV zAU) w:=by kernel_rfl
 simp only[execOp,hop,List.map_toArray,List.map_nil,Sem.run_bind,h];rfl
theorem zPS {P:Program} {o:Oper} {a:Act} {w:World} {x:Operand} {t e:TypeId} (hu:P.underlying t=some (.slice e)) {p:Option Addr} {n c:Nat} (hop:o.op=Op.call {callee:=Callee.builtin Builtin.len,args:=#[x],argTypes:=#[t]}) (hx:a.eval x=.slice p n c) :
  (execOp a.eval o).run P w=.ok (.value (.int .i64 n)) w:=by
 simp only[execOp,hop,resolve,invoke,builtin,List.map_toArray,List.map_cons,List.map_nil,hx];simp[go_sem,Builtin.len_,run_underlying hu]
theorem zG9 (k:Int) (W:World):(Instr.build 47 #[(0,.int .i64 k)]).run Tryz.prog W=.ok (zAm {kind:=k}) W:=by simp[go_sem];rfl
theorem zQq (k n:Int) (s:Nat->Nat) (W:World):(Instr.build 47 #[(0,.int .i64 k),(1,setV s),(2,.int .i64 n)]).run Tryz.prog W=.ok (zAm {kind:=k,set:=s,next:=n}) W:=by unfold setV;simp[go_sem];rfl
theorem zOW (k n o:Int) (W:World):(Instr.build 47 #[(0,.int .i64 k),(2,.int .i64 n),(3,.int .i64 o)]).run Tryz.prog W=.ok (zAm {kind:=k,next:=n,other:=o}) W:=by simp[go_sem];rfl
theorem zGr (k l n:Int) (W:World):(Instr.build 47 #[(0,.int .i64 k),(4,.int .i64 l),(2,.int .i64 n)]).run Tryz.prog W=.ok (zAm {kind:=k,slot:=l,next:=n}) W:=by simp[go_sem];rfl
theorem zQF (k p n:Int) (W:World):(Instr.build 47 #[(0,.int .i64 k),(5,.int .i64 p),(2,.int .i64 n)]).run Tryz.prog W=.ok (zAm {kind:=k,spot:=p,next:=n}) W:=by simp[go_sem];rfl
theorem zM1 (k n:Int) (W:World):(Instr.build 47 #[(0,.int .i64 k),(2,.int .i64 n)]).run Tryz.prog W=.ok (zAm {kind:=k,next:=n}) W:=by simp[go_sem];rfl
theorem zQG (k l:Int) (W:World):(Instr.build 47 #[(0,.int .i64 k),(4,.int .i64 l)]).run Tryz.prog W=.ok (zAm {kind:=k,slot:=l}) W:=by simp[go_sem];rfl
section
variable {M:Nat->Prop} {ops:Array Oper} {dst:Option Tmp} {ty:TypeId} {pos:String} {aft:Array Edge} {grd:Option (Nat × Bool)} {rest:List Oper} {a:Act} {w w0:World} {l:List Res} {Q:Exit->Act->World->Prop}
theorem gTi {x y:Operand} (h:wpList Tryz.prog ops Q ((⟨dst,.store 47 x y,ty,pos,aft,grd⟩:Oper)::rest) a w):wpList Tryz.prog ops Q ((⟨dst,.store 47 x y,ty,pos,aft,grd⟩:Oper)::rest) a w:=h
theorem gLi {x:Operand} (h:wpList Tryz.prog ops Q ((⟨dst,.load 47 x,ty,pos,aft,grd⟩:Oper)::rest) a w):wpList Tryz.prog ops Q ((⟨dst,.load 47 x,ty,pos,aft,grd⟩:Oper)::rest) a w:=h
theorem gBi {x:Array (Nat × Operand)} (h:wpList Tryz.prog ops Q ((⟨dst,.build 47 x,ty,pos,aft,grd⟩:Oper)::rest) a w):wpList Tryz.prog ops Q ((⟨dst,.build 47 x,ty,pos,aft,grd⟩:Oper)::rest) a w:=h
theorem ib1 {x0:Operand} {k:Int} (h:wpList Tryz.prog ops Q rest (a.put dst (zAm {kind:=k})) w) (hg:Region.wanted (⟨dst,.build 47 #[(0,x0)],ty,pos,aft,grd⟩:Oper) (yielded ops a.tmps)=true:=by first|rfl|exact zAZ rfl (zAN rfl (by first|rfl|(simp only[pe];rfl)))) (h0:a.eval x0=.int .i64 k:=by first|(simp only[pe];done)|(simp only[pe];rfl)):wpList Tryz.prog ops Q ((⟨dst,.build 47 #[(0,x0)],ty,pos,aft,grd⟩:Oper)::rest) a w :=
 zAP hg (by
  simp only[execOp,List.map_toArray,List.map_cons,List.map_nil,h0,Sem.run_bind,zG9];rfl) h
theorem ib2 {x0 x1 x2:Operand} {k n:Int} {s:Nat->Nat} (h:wpList Tryz.prog ops Q rest (a.put dst (zAm {kind:=k,set:=s,next:=n})) w) (hg:Region.wanted (⟨dst,.build 47 #[(0,x0),(1,x1),(2,x2)],ty,pos,aft,grd⟩:Oper) (yielded ops a.tmps)=true:=by first|rfl|exact zAZ rfl (zAN rfl (by first|rfl|(simp only[pe];rfl)))) (h0:a.eval x0=.int .i64 k:=by first|(simp only[pe];done)|(simp only[pe];rfl)) (h1:a.eval x1=setV s:=by (try simp only[pe]);with_reducible rfl) (h2:a.eval x2=.int .i64 n:=by first|(simp only[pe];done)|(simp only[pe];rfl)):wpList Tryz.prog ops Q ((⟨dst,.build 47 #[(0,x0),(1,x1),(2,x2)],ty,pos,aft,grd⟩:Oper)::rest) a w :=
 zAP hg (by
  simp only[execOp,List.map_toArray,List.map_cons,List.map_nil,h0,h1,h2,Sem.run_bind,zQq];rfl) h
theorem ib3 {x0 x2 x3:Operand} {k n o:Int} (h:wpList Tryz.prog ops Q rest (a.put dst (zAm {kind:=k,next:=n,other:=o})) w) (hg:Region.wanted (⟨dst,.build 47 #[(0,x0),(2,x2),(3,x3)],ty,pos,aft,grd⟩:Oper) (yielded ops a.tmps)=true:=by first|rfl|exact zAZ rfl (zAN rfl (by first|rfl|(simp only[pe];rfl)))) (h0:a.eval x0=.int .i64 k:=by first|(simp only[pe];done)|(simp only[pe];rfl)) (h2:a.eval x2=.int .i64 n:=by first|(simp only[pe];done)|(simp only[pe];rfl)) (h3:a.eval x3=.int .i64 o:=by first|(simp only[pe];done)|(simp only[pe];rfl)):wpList Tryz.prog ops Q ((⟨dst,.build 47 #[(0,x0),(2,x2),(3,x3)],ty,pos,aft,grd⟩:Oper)::rest) a w :=
 zAP hg (by
  simp only[execOp,List.map_toArray,List.map_cons,List.map_nil,h0,h2,h3,Sem.run_bind,zOW];rfl) h
theorem ib4 {x0 x4 x2:Operand} {k l n:Int} (h:wpList Tryz.prog ops Q rest (a.put dst (zAm {kind:=k,slot:=l,next:=n})) w) (hg:Region.wanted (⟨dst,.build 47 #[(0,x0),(4,x4),(2,x2)],ty,pos,aft,grd⟩:Oper) (yielded ops a.tmps)=true:=by first|rfl|exact zAZ rfl (zAN rfl (by first|rfl|(simp only[pe];rfl)))) (h0:a.eval x0=.int .i64 k:=by first|(simp only[pe];done)|(simp only[pe];rfl)) (h4:a.eval x4=.int .i64 l:=by first|(simp only[pe];done)|(simp only[pe];rfl)) (h2:a.eval x2=.int .i64 n:=by first|(simp only[pe];done)|(simp only[pe];rfl)):wpList Tryz.prog ops Q ((⟨dst,.build 47 #[(0,x0),(4,x4),(2,x2)],ty,pos,aft,grd⟩:Oper)::rest) a w :=
 zAP hg (by
  simp only[execOp,List.map_toArray,List.map_cons,List.map_nil,h0,h4,h2,Sem.run_bind,zGr];rfl) h
theorem ib5 {x0 x5 x2:Operand} {k p n:Int} (h:wpList Tryz.prog ops Q rest (a.put dst (zAm {kind:=k,spot:=p,next:=n})) w) (hg:Region.wanted (⟨dst,.build 47 #[(0,x0),(5,x5),(2,x2)],ty,pos,aft,grd⟩:Oper) (yielded ops a.tmps)=true:=by first|rfl|exact zAZ rfl (zAN rfl (by first|rfl|(simp only[pe];rfl)))) (h0:a.eval x0=.int .i64 k:=by first|(simp only[pe];done)|(simp only[pe];rfl)) (h5:a.eval x5=.int .i64 p:=by first|(simp only[pe];done)|(simp only[pe];rfl)) (h2:a.eval x2=.int .i64 n:=by first|(simp only[pe];done)|(simp only[pe];rfl)):wpList Tryz.prog ops Q ((⟨dst,.build 47 #[(0,x0),(5,x5),(2,x2)],ty,pos,aft,grd⟩:Oper)::rest) a w :=
 zAP hg (by
  simp only[execOp,List.map_toArray,List.map_cons,List.map_nil,h0,h5,h2,Sem.run_bind,zQF];rfl) h
theorem ib6 {x0 x2:Operand} {k n:Int} (h:wpList Tryz.prog ops Q rest (a.put dst (zAm {kind:=k,next:=n})) w) (hg:Region.wanted (⟨dst,.build 47 #[(0,x0),(2,x2)],ty,pos,aft,grd⟩:Oper) (yielded ops a.tmps)=true:=by first|rfl|exact zAZ rfl (zAN rfl (by first|rfl|(simp only[pe];rfl)))) (h0:a.eval x0=.int .i64 k:=by first|(simp only[pe];done)|(simp only[pe];rfl)) (h2:a.eval x2=.int .i64 n:=by first|(simp only[pe];done)|(simp only[pe];rfl)):wpList Tryz.prog ops Q ((⟨dst,.build 47 #[(0,x0),(2,x2)],ty,pos,aft,grd⟩:Oper)::rest) a w :=
 zAP hg (by
  simp only[execOp,List.map_toArray,List.map_cons,List.map_nil,h0,h2,Sem.run_bind,zM1];rfl) h
theorem aTi (H:HoldG M w0 w l) {x y:Operand} {i b:Nat} {cs:Array Value} {U:TypeId} {d:InstD} (h:∀ w',HoldG M w0 w' (l.set i (.blk b (zAL d) U))->wpList Tryz.prog ops Q rest (a.put dst undef) w') (hg:Region.wanted (⟨dst,.store 47 x y,ty,pos,aft,grd⟩:Oper) (yielded ops a.tmps)=true:=by first|rfl|exact zAZ rfl (zAN rfl (by first|rfl|(simp only[pe];rfl)))) (hx:a.eval x=.pointer (some ⟨b,0,none⟩):=by exact rfl) (hy:a.eval y=zAm d:=by first|(simp only[pe];done)|(simp only[pe];rfl)) (hi:At l i (.blk b cs U):=by repeat (first|(with_reducible exact At.zero)|apply At.succ)) (hn:cs.size=9:=by first|(with_reducible exact zHp)|rfl):wpList Tryz.prog ops Q ((⟨dst,.store 47 x y,ty,pos,aft,grd⟩:Oper)::rest) a w :=
 zEY hg 47 x y rfl hx hy H hi (zAu zAg) rfl hn rfl h
theorem aLi (H:HoldG M w0 w l) {x:Operand} {i b:Nat} {cs:Array Value} {U:TypeId} (h:wpList Tryz.prog ops Q rest (a.put dst (.agg cs)) w) (hg:Region.wanted (⟨dst,.load 47 x,ty,pos,aft,grd⟩:Oper) (yielded ops a.tmps)=true:=by first|rfl|exact zAZ rfl (zAN rfl (by first|rfl|(simp only[pe];rfl)))) (hx:a.eval x=.pointer (some ⟨b,0,none⟩):=by exact rfl) (hi:At l i (.blk b cs U):=by repeat (first|(with_reducible exact At.zero)|apply At.succ)) (hn:cs.size=9:=by first|(with_reducible exact zHp)|rfl):wpList Tryz.prog ops Q ((⟨dst,.load 47 x,ty,pos,aft,grd⟩:Oper)::rest) a w :=
 zGi hg 47 x rfl hx H hi zAg hn h
theorem aGi (H:HoldG M w0 w l) {T:TypeId} {x:Operand} {i b:Nat} {d:InstD} {U:TypeId} {k:Nat} {v:Value} (h:wpList Tryz.prog ops Q rest (a.put dst v) w) (hg:Region.wanted (⟨dst,.load T x,ty,pos,aft,grd⟩:Oper) (yielded ops a.tmps)=true:=by first|rfl|exact zAZ rfl (zAN rfl (by first|rfl|(simp only[pe];rfl)))) (hx:a.eval x=.pointer (some ⟨b,k,none⟩):=by exact rfl) (hi:At l i (.blk b (zAL d) U):=by repeat (first|(with_reducible exact At.zero)|apply At.succ)) (hv:(zAL d)[k]?=some v:=by first|(with_reducible exact ig0 _)|(with_reducible exact ig5 _)|(with_reducible exact ig6 _)|(with_reducible exact ig7 _)|(with_reducible exact ig8 _)) (hT:oneB Tryz.prog T=true:=by first|(with_reducible exact zAI)|(with_reducible exact zA0)|(with_reducible exact zAh)):wpList Tryz.prog ops Q ((⟨dst,.load T x,ty,pos,aft,grd⟩:Oper)::rest) a w :=
 zFW hg T x rfl hx H hi hT hv h
end
end
section
open Go.RowKit
attribute [local go_sem] Oper.semAt_some
section
variable {o:Oper} {a:Act} {w:World} {x y:Operand} {U:TypeId}
theorem zPZ {m n k:Int} (hop:o.op=.binOp .sub 3 x y U) (hx:a.eval x=.int .i64 m) (hy:a.eval y=.int .i64 n) (h:m - n=k) (h1 : -9223372036854775808<=k) (h2:k<=9223372036854775807):(execOp a.eval o).run Tryz.prog w=.ok (.value (.int .i64 k)) w:=by
 have e:IntKind.i64.wrap (m - n)=k:=by rw[h,IntKind.wrap_i64];omega
 simp only[execOp,hop,hx,hy];simp[go_sem,e]
theorem zLj {T:TypeId} {p:Option Addr} {n c m sz:Nat} (hT:Tryz.prog.underlying T=some (.slice (Tryz.prog.elem T))) (hz:∀ w,(sizeOf (Tryz.prog.elem T)).run Tryz.prog w=.ok sz w) (hop:o.op=.slice T x none (some y) none) (hx:a.eval x=.slice p n c) (hy:a.eval y=.int .i64 (m:Int)) (hm:m<=c):(execOp a.eval o).run Tryz.prog w=.ok (.value (.slice p m c)) w:=by
 simp only[execOp,hop,hx,hy,Option.map_some,Option.map_none,Sem.run_bind];rw[run_sliceAt_slice (h:=hT),run_slice_h (ht:=hT) (h0:=by omega) (h2:=by omega),hz]
 simp[Result.andThen,sliced];intro _
 cases p<;>simp[Addr.add]
end
end
section
open Go.RowKit Go.Shelf
attribute [local go_sem] Oper.semAt_some
theorem zDB {fn:Func} {p q r s t:Tmp} (h:fn.results=#[.tmp p,.tmp q,.tmp r,.tmp s,.tmp t]) (tmps:Array Value) (P:Program) (w:World) :
  (results fn tmps).run P w=.ok (.tuple #[tmps.getD p undef,tmps.getD q undef,tmps.getD r undef,tmps.getD s undef,tmps.getD t undef]) w:=by
 simp[results,h]
def hasV (k:Int):Value:=.tuple #[.bool (k == 1),.bool (k == 1 || k == 2 || k == 3 || k == 4),.bool (k == 2),.bool (k == 3),.bool (k == 4)]
theorem zQD (k:Int) (w0:World):Calls Tryz.prog 64 #[.int .i64 k] w0 (Rt (hasV k) w0):=by
 have H:=Hold.start w0
 cases h1:k == 1 with
 | true =>
  have E:=Lib.hid (show hasV k=.tuple #[.bool true,.bool true,.bool false,.bool false,.bool false] by rw[beq_iff_eq]at h1;subst h1;rfl)
  go_enter Tryz.func64,Tryz.ntmps64
  go_wp2_with fail
  refine bodyPost_ret (zDB rfl _ _ _) rfl ?_
  exact⟨by rw[E.out];rfl,H.below⟩
 | false =>
  cases h2:k == 2 with
  | true =>
   have E:=Lib.hid (show hasV k=.tuple #[.bool false,.bool true,.bool true,.bool false,.bool false] by rw[beq_iff_eq]at h2;subst h2;rfl)
   go_enter Tryz.func64,Tryz.ntmps64
   go_wp2_with fail
   refine bodyPost_ret (zDB rfl _ _ _) rfl ?_
   exact⟨by rw[E.out];rfl,H.below⟩
  | false =>
   cases h3:k == 3 with
   | true =>
    have E:=Lib.hid (show hasV k=.tuple #[.bool false,.bool true,.bool false,.bool true,.bool false] by rw[beq_iff_eq]at h3;subst h3;rfl)
    go_enter Tryz.func64,Tryz.ntmps64
    go_wp2_with fail
    refine bodyPost_ret (zDB rfl _ _ _) rfl ?_
    exact⟨by rw[E.out];rfl,H.below⟩
   | false =>
    cases h4:k == 4 with
    | true =>
     have E:=Lib.hid (show hasV k=.tuple #[.bool false,.bool true,.bool false,.bool false,.bool true] by rw[beq_iff_eq]at h4;subst h4;rfl)
     go_enter Tryz.func64,Tryz.ntmps64
     go_wp2_with fail
     refine bodyPost_ret (zDB rfl _ _ _) rfl ?_
     exact⟨by rw[E.out];rfl,H.below⟩
    | false =>
     have E:=Lib.hid (show hasV k=.tuple #[.bool false,.bool false,.bool false,.bool false,.bool false] by unfold hasV;rw[h1,h2,h3,h4];rfl)
     go_enter Tryz.func64,Tryz.ntmps64
     go_wp2_with fail
     refine bodyPost_ret (zDB rfl _ _ _) rfl ?_
     exact⟨by rw[E.out];rfl,H.below⟩
def zHj (p:List InstD):Int:=p.foldl (fun m x=>max m x.slot) 1
def zOV (p:List InstD):Int:=wrap64 (wrap64 (wrap64 ((zHj p).tdiv 2) * 2)+2)
theorem zME {xs:List InstD} {j:Nat} {x:InstD} (h:xs[j]?=some x):zHj (xs.take (j+1))=max (zHj (xs.take j)) x.slot:=by
 rw[zBc h];simp[zHj]
theorem zNG {α:Type} {f:α->Bool} {xs:List α} {j:Nat} {x:α} (hx:xs[j]?=some x) (h:(xs.take j).all f=true) (hf:f x=true):(xs.take (j+1)).all f=true:=by
 rw[zBc hx,List.all_append,h];simp[hf]
end
section
open Go.RowKit
def zBE (n:Nat) (v:Int):Int:=min (max v 0) (n - 1)
def zDz (n:Nat) (x:InstD):InstD × Bool :=
 if x.kind=1 then ({kind:=x.kind,set:=x.set,next:=zBE n x.next},!eqS x.set zAU)
 else if x.kind=2 then ({kind:=x.kind,next:=zBE n x.next,other:=zBE n x.other},true)
 else if x.kind=3 then ({kind:=x.kind,slot:=min (max x.slot 0) 41,next:=zBE n x.next},true)
 else if x.kind=4 then ({kind:=x.kind,spot:=min (max x.spot 8) 13,next:=zBE n x.next},true)
 else if x.kind=5\/x.kind=6 then ({kind:=x.kind},true)
 else ({kind:=x.kind},false)
def eqI (x y:InstD):Bool:=(x.kind == y.kind)&&(eqS x.set y.set&&((x.next == y.next)&&((x.other == y.other)&&((x.slot == y.slot)&&(x.spot == y.spot)))))
theorem zL3 (n:Nat) (hn:0<n) (x:InstD):((zDz n x).2&&eqI x (zDz n x).1)=zEL n x:=by
 obtain⟨k,s,a,b,c,d⟩:=x;unfold zDz zEL inN zBE eqI;have hs:eqS s s=true:=zC4 s;simp only
 by_cases h1:k=1
 ·subst h1;simp only[if_true,hs]
  generalize eqS s zAU=q
  rw[Bool.eq_iff_iff];cases q<;>simp<;>omega
 by_cases h2:k=2
 ·subst h2;simp only[if_true];simp only[show ¬ (2:Int)=1 by decide,if_false]
  generalize eqS s zAU=q
  rw[Bool.eq_iff_iff];cases q<;>simp<;>omega
 by_cases h3:k=3
 ·subst h3;simp only[show ¬ (3:Int)=1 by decide,show ¬ (3:Int)=2 by decide,if_false,if_true]
  generalize eqS s zAU=q
  rw[Bool.eq_iff_iff];cases q<;>simp<;>omega
 by_cases h4:k=4
 ·subst h4;simp only[show ¬ (4:Int)=1 by decide,show ¬ (4:Int)=2 by decide,show ¬ (4:Int)=3 by decide,if_false,if_true]
  generalize eqS s zAU=q
  rw[Bool.eq_iff_iff];cases q<;>simp<;>omega
 by_cases h5:k=5\/k=6
 ·simp only[if_neg h1,if_neg h2,if_neg h3,if_neg h4,if_pos h5]
  generalize eqS s zAU=q
  rw[Bool.eq_iff_iff];cases q<;>simp
  intros;constructor<;>(intros;omega)
 ·simp only[if_neg h1,if_neg h2,if_neg h3,if_neg h4,if_neg h5];rfl
end
end Go.Proofs.YtalggmbdpmdcbaaGreat
