/-
  Laws of walks, and walks.
-/
import Derived.Test.YtdoflhjhaciepaaGreatVt2
import Derived.Deep.CutBlock
import Derived.Test.YtdoflhjhaciepaaGreatVt1
import Derived.Laws.Cover3
import Derived.Deep.Onto
set_option linter.unusedVariables false
set_option linter.unusedSimpArgs false
set_option maxRecDepth 100000
set_option maxHeartbeats 16000000
namespace Go.Proofs.YtdoflhjhaciepaaGreat
open Go.RowKit Go.Shelf
attribute [local go_sem] Oper.semAt_some
theorem lit154 (t:Array Value) (h:t.size=154):∃ x0 x1 x2 x3 x4 x5 x6 x7 x8 x9 x10 x11 x12 x13 x14 x15 x16 x17 x18 x19 x20 x21 x22 x23 x24 x25 x26 x27 x28 x29 x30 x31 x32 x33 x34 x35 x36 x37 x38 x39 x40 x41 x42 x43 x44 x45 x46 x47 x48 x49 x50 x51 x52 x53 x54 x55 x56 x57 x58 x59 x60 x61 x62 x63 x64 x65 x66 x67 x68 x69 x70 x71 x72 x73 x74 x75 x76 x77 x78 x79 x80 x81 x82 x83 x84 x85 x86 x87 x88 x89 x90 x91 x92 x93 x94 x95 x96 x97 x98 x99 x100 x101 x102 x103 x104 x105 x106 x107 x108 x109 x110 x111 x112 x113 x114 x115 x116 x117 x118 x119 x120 x121 x122 x123 x124 x125 x126 x127 x128 x129 x130 x131 x132 x133 x134 x135 x136 x137 x138 x139 x140 x141 x142 x143 x144 x145 x146 x147 x148 x149 x150 x151 x152 x153:Value,t=List.toArray (x0::x1::x2::x3::x4::x5::x6::x7::x8::x9::x10::x11::x12::x13::x14::x15::x16::x17::x18::x19::x20::x21::x22::x23::x24::x25::x26::x27::x28::x29::x30::x31::x32::x33::x34::x35::x36::x37::x38::x39::x40::x41::x42::x43::x44::x45::x46::x47::x48::x49::x50::x51::x52::x53::x54::x55::x56::x57::x58::x59::x60::x61::x62::x63::x64::x65::x66::x67::x68::x69::x70::x71::x72::x73::x74::x75::x76::x77::x78::x79::x80::x81::x82::x83::x84::x85::x86::x87::x88::x89::x90::x91::x92::x93::x94::x95::x96::x97::x98::x99::x100::x101::x102::x103::x104::x105::x106::x107::x108::x109::x110::x111::x112::x113::x114::x115::x116::x117::x118::x119::x120::x121::x122::x123::x124::x125::x126::x127::x128::x129::x130::x131::x132::x133::x134::x135::x136::x137::x138::x139::x140::x141::x142::x143::x144::x145::x146::x147::x148::x149::x150::x151::x152::x153::[]):=by
 rw[lit_get t 154 h];exact⟨_,_,_,_,_,_,_,_,_,_,_,_,_,_,_,_,_,_,_,_,_,_,_,_,_,_,_,_,_,_,_,_,_,_,_,_,_,_,_,_,_,_,_,_,_,_,_,_,_,_,_,_,_,_,_,_,_,_,_,_,_,_,_,_,_,_,_,_,_,_,_,_,_,_,_,_,_,_,_,_,_,_,_,_,_,_,_,_,_,_,_,_,_,_,_,_,_,_,_,_,_,_,_,_,_,_,_,_,_,_,_,_,_,_,_,_,_,_,_,_,_,_,_,_,_,_,_,_,_,_,_,_,_,_,_,_,_,_,_,_,_,_,_,_,_,_,_,_,_,_,_,_,_,_,rfl⟩
theorem nodeOk_not (d:NodeD) (n:Nat):((!(nodeOk1 d n)) || (((d.kind) != (6))&&((((d.lo) != (0)) || ((d.hi) != (0))) || (d.lazy))))=!(nodeOk d n):=by
 unfold nodeOk nodeOk2
 cases nodeOk1 d n<;>simp
theorem kinds_part {xs:List TV} {j:Nat} {x:TV} (h:xs[j]?=some x):kindsTs ((xs.map (·.1)).take (j+1))=(kindsTs ((xs.map (·.1)).take j)&&kindsT x.1):=kindsTs_take (by rw[List.getElem?_map,h];rfl)
theorem kinds_no {xs:List TV} {j:Nat} {x:TV} (h:xs[j]?=some x) (hf:kindsT x.1=false):kindsTs (xs.map (·.1))=false:=kindsTs_stop (i:=j) (by rw[List.getElem?_map,h];rfl) hf
theorem ref_kinds:∀ (m:Nat) (t:Tree) (p:Option Addr) (n c:Nat) (F:Nat→Prop) (w0:World),sizeT t≤m→m≤1000000000000→(∀ b,F b→b<w0.heap.size)→ForestR w0 F p c t.kids→n=t.kids.length →
  Calls Tryz.prog 137 #[nodeV t.d (.slice p n c)] w0 fun e w'=>e=.returned (.bool (kindsT t))∧Below w0.heap.size w0 w'
 | 0,t,_,_,_,_,_,hm,_,_,_,_=>by have:=sizeT_pos t;omega
 | m+1,.mk d ts,p,n,c,F,w0,hm,hm2,hF,h,hn=>by
  have IH:=ref_kinds m;simp only[Tree.kids,Tree.d]at h hn ⊢;obtain⟨xs,h1,h2,rfl⟩:=h.open;have E:=Lib.hid (show kindsT (.mk d (xs.map (·.1)))=(nodeOk d n&&kindsTs (xs.map (·.1))) by rw[kindsT,hn])
  rw[List.length_map]at hn;rw[← hn]at h1;have hK:Knows F p n c xs w0:=⟨h1,h2⟩;clear h h1 h2;have H:=Hold.knows hF hK;have hc1:=hK.bound.2.1;have hc2:=hK.bound.2.2;have hp:=hK.at;clear hK;simp only[sizeT]at hm;have HN:=Lib.hid hn;clear hn
  go_enter Tryz.func137,Tryz.ntmps137
  go_upto_region 1 with (first|((first|((with_reducible refine kgA 1 ?_);refine kA 1 H ?_)|((with_reducible refine kgX 1 ?_);(first|refine kS 1 H ?_|refine kB 1 H ?_)));clear H;intro b1 w H;try simp only[nr]at H)|fail)
  go_wp2_with fail
  obtain⟨T,hT,fw,hf,h0⟩:=fam w;have e1:=fun x=>(H.call (hf x)).cell (i:=1) i_1 1
  have e2:=fun x=>(H.call (hf x)).cell (i:=1) i_1 2
  have e3:=fun x=>(H.call (hf x)).cell (i:=1) i_1 3
  have e4:=fun x=>(H.call (hf x)).cell (i:=1) i_1 4
  have e5:=fun x=>(H.call (hf x)).cell (i:=1) i_1 5
  have e9:=fun x=>(H.call (hf x)).cell (i:=1) i_1 9
  simp only[ng1,ng2,ng3,ng4,ng5,ng9]at e1 e2 e3 e4 e5 e9;have heq:∀ W,(Op.equalIn 10000 40 (.agg #[.int .u64 (d.set 0),.int .u64 (d.set 1),.int .u64 (d.set 2),.int .u64 (d.set 3)]) (.agg #[.int .u64 0,.int .u64 0,.int .u64 0,.int .u64 0])).run Tryz.prog W=.ok (eqS d.set emptyS) W:=run_eqSet d.set emptyS;refine wp_region_fam fw (by kernel_rfl) (by kernel_rfl) h0 ?_
  repeat (go_big_quiet_step (fail))
  refine wpQuiet_nil ?_
  rintro _ ⟨x,rfl⟩;replace H:=H.call (hf x);obtain⟨wq,hwq⟩:∃ wq,fw x=wq:=⟨_,rfl⟩;rw[hwq]at H ⊢;clear hwq e1 e2 e3 e4 e5 e9 heq h0 hf;clear x fw hT T;have hk0:n=0∨n=1∨1<n:=by omega
  generalize hbs:eqS d.set emptyS=bs
  generalize hbg:(d.group != 0)=bg
  have HBS:=Lib.hid hbs;have HBG:=Lib.hid hbg;clear hbs hbg
  go_upto_block 0 with (first|((with_reducible refine gL ?_);refine aG H ?_))
  simp only[pl];refine wp_cut (fun a' w'=>(∃ t:Array Value,a'=({tmps:=t,defers:=[]}:Act)∧t.size=154∧t[0]?=some (nodeV d (.slice p n c))∧t[1]?=some (.pointer (some ⟨b1,0,none⟩))∧t[2]?=some (.bool false)∧t[3]?=some (.bool (!bs))∧t[4]?=some (.bool bg)∧t[5]?=some (.int .i64 (n:Int))∧t[6]?=some (.bool (nodeOk1 d n)))∧Hold w0 w' [.kn F (Knows F p n c xs),.blk b1 (nodeC d (.slice p n c)) 87]) ?rest ?first
  case first =>
   intro J K' hJ hM
   by_cases h3:d.kind=3
   ·have d3:(d.kind == 3)=true:=by rw[beq_iff_eq];exact h3
    have EO:=Lib.hid (show nodeOk1 d n=(!bs&&((n:Int) == 0)&&!bg) by rw[nodeOk1,if_pos h3,HBS.out,HBG.out])
    clear h3
    go_upto_region 6 with (first|fail)
    refine wp_region_seq 10 [fun v _=>v=Value.bool (!bs),fun v _=>v=Value.bool (!bs),fun v _=>v=(bif (true)&&((!bs) == true) then Value.int .i64 ((n:Int)) else undef),fun v _=>v=(bif (true)&&((!bs) == true) then Value.bool (((n:Int)) == (0)) else undef),fun v _=>v=Value.bool ((!bs)&&(((n:Int)) == (0))),fun v _=>v=Value.bool ((!bs)&&(((n:Int)) == (0))),fun v _=>v=(bif (true)&&(((!bs)&&(((n:Int)) == (0))) == true) then Value.bool (bg) else undef),fun v _=>v=(bif (true)&&(((!bs)&&(((n:Int)) == (0))) == true) then Value.bool (!(bg)) else undef),fun v _=>v=Value.bool (((!bs)&&(((n:Int)) == (0)))&&(!(bg))),fun v _=>v=Value.bool (((!bs)&&(((n:Int)) == (0)))&&(!(bg)))] (fun _=>false) (by kernel_rfl) (by kernel_rfl) (by repeat (first|exact trivial|refine⟨stable_eq _,?_⟩)) (fun _ _ h=>by cases h) ?ob ?en
    case ob =>
     refine⟨?_,?_,?_,?_,?_,?_,?_,?_,?_,?_,trivial⟩<;>intro A W h
     ·exact rs_pure rfl (run_cp (.inl rfl) (h.frame 3 rfl))
     ·exact rs_pure rfl (run_cp (.inl rfl) (h.dep 0 42 rfl rfl))
     ·refine sy_ (h.dep 1 43 rfl rfl) fun hC=>?_;exact run_cp (.inl rfl) (h.frame 5 rfl)
     ·refine sy_ (h.dep 1 43 rfl rfl) fun hC=>?_;exact(by have e44:A.eval (.tmp 44)=Value.int .i64 ((n:Int)):=bif_at (h.dep 2 44 rfl rfl) hC;simp only[execOp,e44];simp[go_sem])
     ·exact rs_pure rfl (run_and rfl (h.dep 1 43 rfl rfl) (fun hb2=>bif_at (h.dep 3 45 rfl rfl) (by (first|(rw[hb2];rfl)|simp[hb2]))))
     ·exact rs_pure rfl (run_cp (.inl rfl) (h.dep 4 46 rfl rfl))
     ·refine sy_ (h.dep 5 47 rfl rfl) fun hC=>?_;exact run_cp (.inl rfl) (h.frame 4 rfl)
     ·refine sy_ (h.dep 5 47 rfl rfl) fun hC=>?_;exact(by have e:A.eval (.tmp 48)=Value.bool (bg):=bif_at (h.dep 6 48 rfl rfl) hC;simp only[execOp,e];simp[go_sem])
     ·exact rs_pure rfl (run_and rfl (h.dep 5 47 rfl rfl) (fun hb2=>bif_at (h.dep 7 49 rfl rfl) (by (first|(rw[hb2];rfl)|simp[hb2]))))
     ·exact rs_pure rfl (run_cp (.inr rfl) (h.dep 8 50 rfl rfl))
    case en =>
     intro vals W hbw hv _;have v9:vals 9=_:=hv 9 (by omega)
     simp only[fa,Nat.reduceAdd];rw[v9];clear hv v9
     try simp only[pl]
     have H:=H.call hbw
     go_wp2_with fail
     (refine Met.intro ?_;go_step;exact⟨⟨_,rfl,rfl,rfl,rfl,rfl,rfl,rfl,rfl,by rw[EO.out];rfl⟩,H⟩)
   ·have d3:(d.kind == 3)=false:=by rw[beq_eq_false_iff_ne];exact h3
    by_cases h45:d.kind=4∨d.kind=5
    ·have EO:=Lib.hid (show nodeOk1 d n=(decide (1<(n:Int))&&!(!bs)&&!bg) by rw[nodeOk1,if_neg h3,if_pos h45,HBS.out,HBG.out])
     clear h3
     by_cases h4:d.kind=4
     ·have d4:(d.kind == 4)=true:=by rw[beq_iff_eq];exact h4
      clear h45 h4
      go_upto_region 9 with (first|fail)
      refine wp_region_seq 11 [fun v _=>v=Value.int .i64 ((n:Int)),fun v _=>v=Value.bool (decide ((1)<((n:Int)))),fun v _=>v=Value.bool (decide ((1)<((n:Int)))),fun v _=>v=(bif (true)&&((decide ((1)<((n:Int)))) == true) then Value.bool (!bs) else undef),fun v _=>v=(bif (true)&&((decide ((1)<((n:Int)))) == true) then Value.bool (!(!bs)) else undef),fun v _=>v=Value.bool ((decide ((1)<((n:Int))))&&(!(!bs))),fun v _=>v=Value.bool ((decide ((1)<((n:Int))))&&(!(!bs))),fun v _=>v=(bif (true)&&(((decide ((1)<((n:Int))))&&(!(!bs))) == true) then Value.bool (bg) else undef),fun v _=>v=(bif (true)&&(((decide ((1)<((n:Int))))&&(!(!bs))) == true) then Value.bool (!(bg)) else undef),fun v _=>v=Value.bool (((decide ((1)<((n:Int))))&&(!(!bs)))&&(!(bg))),fun v _=>v=Value.bool (((decide ((1)<((n:Int))))&&(!(!bs)))&&(!(bg)))] (fun _=>false) (by kernel_rfl) (by kernel_rfl) (by repeat (first|exact trivial|refine⟨stable_eq _,?_⟩)) (fun _ _ h=>by cases h) ?ob ?en
      case ob =>
       refine⟨?_,?_,?_,?_,?_,?_,?_,?_,?_,?_,?_,trivial⟩<;>intro A W h
       ·exact rs_pure rfl (run_cp (.inl rfl) (h.frame 5 rfl))
       ·exact rs_pure rfl ((by have e54:A.eval (.tmp 54)=Value.int .i64 ((n:Int)):=h.dep 0 54 rfl rfl;simp only[execOp,e54];simp[go_sem]))
       ·exact rs_pure rfl (run_cp (.inl rfl) (h.dep 1 55 rfl rfl))
       ·refine sy_ (h.dep 2 56 rfl rfl) fun hC=>?_;exact run_cp (.inl rfl) (h.frame 3 rfl)
       ·refine sy_ (h.dep 2 56 rfl rfl) fun hC=>?_;exact(by have e:A.eval (.tmp 57)=Value.bool (!bs):=bif_at (h.dep 3 57 rfl rfl) hC;simp only[execOp,e];simp[go_sem])
       ·exact rs_pure rfl (run_and rfl (h.dep 2 56 rfl rfl) (fun hb2=>bif_at (h.dep 4 58 rfl rfl) (by (first|(rw[hb2];rfl)|simp[hb2]))))
       ·exact rs_pure rfl (run_cp (.inl rfl) (h.dep 5 59 rfl rfl))
       ·refine sy_ (h.dep 6 60 rfl rfl) fun hC=>?_;exact run_cp (.inl rfl) (h.frame 4 rfl)
       ·refine sy_ (h.dep 6 60 rfl rfl) fun hC=>?_;exact(by have e:A.eval (.tmp 61)=Value.bool (bg):=bif_at (h.dep 7 61 rfl rfl) hC;simp only[execOp,e];simp[go_sem])
       ·exact rs_pure rfl (run_and rfl (h.dep 6 60 rfl rfl) (fun hb2=>bif_at (h.dep 8 62 rfl rfl) (by (first|(rw[hb2];rfl)|simp[hb2]))))
       ·exact rs_pure rfl (run_cp (.inr rfl) (h.dep 9 63 rfl rfl))
      case en =>
       intro vals W hbw hv _;have v10:vals 10=_:=hv 10 (by omega)
       simp only[fa,Nat.reduceAdd];rw[v10];clear hv v10
       try simp only[pl]
       have H:=H.call hbw
       go_wp2_with fail
       (refine Met.intro ?_;go_step;exact⟨⟨_,rfl,rfl,rfl,rfl,rfl,rfl,rfl,rfl,by rw[EO.out];rfl⟩,H⟩)
     ·have d4:(d.kind == 4)=false:=by rw[beq_eq_false_iff_ne];exact h4
      have d5:(d.kind == 5)=true:=by rw[beq_iff_eq];omega
      clear h45 h4
      go_upto_region 9 with (first|fail)
      refine wp_region_seq 11 [fun v _=>v=Value.int .i64 ((n:Int)),fun v _=>v=Value.bool (decide ((1)<((n:Int)))),fun v _=>v=Value.bool (decide ((1)<((n:Int)))),fun v _=>v=(bif (true)&&((decide ((1)<((n:Int)))) == true) then Value.bool (!bs) else undef),fun v _=>v=(bif (true)&&((decide ((1)<((n:Int)))) == true) then Value.bool (!(!bs)) else undef),fun v _=>v=Value.bool ((decide ((1)<((n:Int))))&&(!(!bs))),fun v _=>v=Value.bool ((decide ((1)<((n:Int))))&&(!(!bs))),fun v _=>v=(bif (true)&&(((decide ((1)<((n:Int))))&&(!(!bs))) == true) then Value.bool (bg) else undef),fun v _=>v=(bif (true)&&(((decide ((1)<((n:Int))))&&(!(!bs))) == true) then Value.bool (!(bg)) else undef),fun v _=>v=Value.bool (((decide ((1)<((n:Int))))&&(!(!bs)))&&(!(bg))),fun v _=>v=Value.bool (((decide ((1)<((n:Int))))&&(!(!bs)))&&(!(bg)))] (fun _=>false) (by kernel_rfl) (by kernel_rfl) (by repeat (first|exact trivial|refine⟨stable_eq _,?_⟩)) (fun _ _ h=>by cases h) ?ob ?en
      case ob =>
       refine⟨?_,?_,?_,?_,?_,?_,?_,?_,?_,?_,?_,trivial⟩<;>intro A W h
       ·exact rs_pure rfl (run_cp (.inl rfl) (h.frame 5 rfl))
       ·exact rs_pure rfl ((by have e54:A.eval (.tmp 54)=Value.int .i64 ((n:Int)):=h.dep 0 54 rfl rfl;simp only[execOp,e54];simp[go_sem]))
       ·exact rs_pure rfl (run_cp (.inl rfl) (h.dep 1 55 rfl rfl))
       ·refine sy_ (h.dep 2 56 rfl rfl) fun hC=>?_;exact run_cp (.inl rfl) (h.frame 3 rfl)
       ·refine sy_ (h.dep 2 56 rfl rfl) fun hC=>?_;exact(by have e:A.eval (.tmp 57)=Value.bool (!bs):=bif_at (h.dep 3 57 rfl rfl) hC;simp only[execOp,e];simp[go_sem])
       ·exact rs_pure rfl (run_and rfl (h.dep 2 56 rfl rfl) (fun hb2=>bif_at (h.dep 4 58 rfl rfl) (by (first|(rw[hb2];rfl)|simp[hb2]))))
       ·exact rs_pure rfl (run_cp (.inl rfl) (h.dep 5 59 rfl rfl))
       ·refine sy_ (h.dep 6 60 rfl rfl) fun hC=>?_;exact run_cp (.inl rfl) (h.frame 4 rfl)
       ·refine sy_ (h.dep 6 60 rfl rfl) fun hC=>?_;exact(by have e:A.eval (.tmp 61)=Value.bool (bg):=bif_at (h.dep 7 61 rfl rfl) hC;simp only[execOp,e];simp[go_sem])
       ·exact rs_pure rfl (run_and rfl (h.dep 6 60 rfl rfl) (fun hb2=>bif_at (h.dep 8 62 rfl rfl) (by (first|(rw[hb2];rfl)|simp[hb2]))))
       ·exact rs_pure rfl (run_cp (.inr rfl) (h.dep 9 63 rfl rfl))
      case en =>
       intro vals W hbw hv _;have v10:vals 10=_:=hv 10 (by omega)
       simp only[fa,Nat.reduceAdd];rw[v10];clear hv v10
       try simp only[pl]
       have H:=H.call hbw
       go_wp2_with fail
       (refine Met.intro ?_;go_step;exact⟨⟨_,rfl,rfl,rfl,rfl,rfl,rfl,rfl,rfl,by rw[EO.out];rfl⟩,H⟩)
    ·have d4:(d.kind == 4)=false:=by rw[beq_eq_false_iff_ne];omega
     have d5:(d.kind == 5)=false:=by rw[beq_eq_false_iff_ne];omega
     by_cases h6:d.kind=6
     ·have d6:(d.kind == 6)=true:=by rw[beq_iff_eq];exact h6
      have EO:=Lib.hid (show nodeOk1 d n=(((n:Int) == 1)&&!(!bs)&&!bg&&decide (0≤d.lo)&&decide (d.lo≤100)&&(d.hi == -1 || decide (d.lo≤d.hi)&&decide (d.hi≤100))) by rw[nodeOk1,if_neg h3,if_neg h45,if_pos h6,HBS.out,HBG.out])
      clear h3 h45 h6
      go_upto_region 11 with (first|fail)
      refine wp_region_seq 38 [fun v _=>v=Value.int .i64 ((n:Int)),fun v _=>v=Value.bool (((n:Int)) == (1)),fun v _=>v=Value.bool (((n:Int)) == (1)),fun v _=>v=(bif (true)&&((((n:Int)) == (1)) == true) then Value.bool (!bs) else undef),fun v _=>v=(bif (true)&&((((n:Int)) == (1)) == true) then Value.bool (!(!bs)) else undef),fun v _=>v=Value.bool ((((n:Int)) == (1))&&(!(!bs))),fun v _=>v=Value.bool ((((n:Int)) == (1))&&(!(!bs))),fun v _=>v=(bif (true)&&(((((n:Int)) == (1))&&(!(!bs))) == true) then Value.bool (bg) else undef),fun v _=>v=(bif (true)&&(((((n:Int)) == (1))&&(!(!bs))) == true) then Value.bool (!(bg)) else undef),fun v _=>v=Value.bool (((((n:Int)) == (1))&&(!(!bs)))&&(!(bg))),fun v _=>v=Value.bool (((((n:Int)) == (1))&&(!(!bs)))&&(!(bg))),fun v _=>v=(bif (true)&&((((((n:Int)) == (1))&&(!(!bs)))&&(!(bg))) == true) then Value.pointer (some ⟨b1,6,none⟩) else undef),fun v _=>v=(bif (true)&&((((((n:Int)) == (1))&&(!(!bs)))&&(!(bg))) == true) then Value.int .i64 (d.lo) else undef),fun v _=>v=(bif (true)&&((((((n:Int)) == (1))&&(!(!bs)))&&(!(bg))) == true) then Value.bool (decide ((0)≤(d.lo))) else undef),fun v _=>v=Value.bool ((((((n:Int)) == (1))&&(!(!bs)))&&(!(bg)))&&(decide ((0)≤(d.lo)))),fun v _=>v=Value.bool ((((((n:Int)) == (1))&&(!(!bs)))&&(!(bg)))&&(decide ((0)≤(d.lo)))),fun v _=>v=(bif (true)&&(((((((n:Int)) == (1))&&(!(!bs)))&&(!(bg)))&&(decide ((0)≤(d.lo)))) == true) then Value.pointer (some ⟨b1,6,none⟩) else undef),fun v _=>v=(bif (true)&&(((((((n:Int)) == (1))&&(!(!bs)))&&(!(bg)))&&(decide ((0)≤(d.lo)))) == true) then Value.int .i64 (d.lo) else undef),fun v _=>v=(bif (true)&&(((((((n:Int)) == (1))&&(!(!bs)))&&(!(bg)))&&(decide ((0)≤(d.lo)))) == true) then Value.bool (decide ((d.lo)≤(100))) else undef),fun v _=>v=Value.bool (((((((n:Int)) == (1))&&(!(!bs)))&&(!(bg)))&&(decide ((0)≤(d.lo))))&&(decide ((d.lo)≤(100)))),fun v _=>v=Value.bool (((((((n:Int)) == (1))&&(!(!bs)))&&(!(bg)))&&(decide ((0)≤(d.lo))))&&(decide ((d.lo)≤(100)))),fun v _=>v=(bif (true)&&((((((((n:Int)) == (1))&&(!(!bs)))&&(!(bg)))&&(decide ((0)≤(d.lo))))&&(decide ((d.lo)≤(100)))) == true) then Value.pointer (some ⟨b1,7,none⟩) else undef),fun v _=>v=(bif (true)&&((((((((n:Int)) == (1))&&(!(!bs)))&&(!(bg)))&&(decide ((0)≤(d.lo))))&&(decide ((d.lo)≤(100)))) == true) then Value.int .i64 (d.hi) else undef),fun v _=>v=(bif (true)&&((((((((n:Int)) == (1))&&(!(!bs)))&&(!(bg)))&&(decide ((0)≤(d.lo))))&&(decide ((d.lo)≤(100)))) == true) then Value.bool ((d.hi) == ((-1))) else undef),fun v _=>v=(bif (true)&&((((((((n:Int)) == (1))&&(!(!bs)))&&(!(bg)))&&(decide ((0)≤(d.lo))))&&(decide ((d.lo)≤(100)))) == true) then Value.bool ((d.hi) == ((-1))) else undef),fun v _=>v=(bif ((true)&&((((((((n:Int)) == (1))&&(!(!bs)))&&(!(bg)))&&(decide ((0)≤(d.lo))))&&(decide ((d.lo)≤(100)))) == true))&&(((d.hi) == ((-1))) == false) then Value.pointer (some ⟨b1,7,none⟩) else undef),fun v _=>v=(bif ((true)&&((((((((n:Int)) == (1))&&(!(!bs)))&&(!(bg)))&&(decide ((0)≤(d.lo))))&&(decide ((d.lo)≤(100)))) == true))&&(((d.hi) == ((-1))) == false) then Value.int .i64 (d.hi) else undef),fun v _=>v=(bif ((true)&&((((((((n:Int)) == (1))&&(!(!bs)))&&(!(bg)))&&(decide ((0)≤(d.lo))))&&(decide ((d.lo)≤(100)))) == true))&&(((d.hi) == ((-1))) == false) then Value.pointer (some ⟨b1,6,none⟩) else undef),fun v _=>v=(bif ((true)&&((((((((n:Int)) == (1))&&(!(!bs)))&&(!(bg)))&&(decide ((0)≤(d.lo))))&&(decide ((d.lo)≤(100)))) == true))&&(((d.hi) == ((-1))) == false) then Value.int .i64 (d.lo) else undef),fun v _=>v=(bif ((true)&&((((((((n:Int)) == (1))&&(!(!bs)))&&(!(bg)))&&(decide ((0)≤(d.lo))))&&(decide ((d.lo)≤(100)))) == true))&&(((d.hi) == ((-1))) == false) then Value.bool (decide ((d.lo)≤(d.hi))) else undef),fun v _=>v=(bif ((true)&&((((((((n:Int)) == (1))&&(!(!bs)))&&(!(bg)))&&(decide ((0)≤(d.lo))))&&(decide ((d.lo)≤(100)))) == true))&&(((d.hi) == ((-1))) == false) then Value.bool (decide ((d.lo)≤(d.hi))) else undef),fun v _=>v=(bif (((true)&&((((((((n:Int)) == (1))&&(!(!bs)))&&(!(bg)))&&(decide ((0)≤(d.lo))))&&(decide ((d.lo)≤(100)))) == true))&&(((d.hi) == ((-1))) == false))&&((decide ((d.lo)≤(d.hi))) == true) then Value.pointer (some ⟨b1,7,none⟩) else undef),fun v _=>v=(bif (((true)&&((((((((n:Int)) == (1))&&(!(!bs)))&&(!(bg)))&&(decide ((0)≤(d.lo))))&&(decide ((d.lo)≤(100)))) == true))&&(((d.hi) == ((-1))) == false))&&((decide ((d.lo)≤(d.hi))) == true) then Value.int .i64 (d.hi) else undef),fun v _=>v=(bif (((true)&&((((((((n:Int)) == (1))&&(!(!bs)))&&(!(bg)))&&(decide ((0)≤(d.lo))))&&(decide ((d.lo)≤(100)))) == true))&&(((d.hi) == ((-1))) == false))&&((decide ((d.lo)≤(d.hi))) == true) then Value.bool (decide ((d.hi)≤(100))) else undef),fun v _=>v=(bif ((true)&&((((((((n:Int)) == (1))&&(!(!bs)))&&(!(bg)))&&(decide ((0)≤(d.lo))))&&(decide ((d.lo)≤(100)))) == true))&&(((d.hi) == ((-1))) == false) then Value.bool ((decide ((d.lo)≤(d.hi)))&&(decide ((d.hi)≤(100)))) else undef),fun v _=>v=(bif (true)&&((((((((n:Int)) == (1))&&(!(!bs)))&&(!(bg)))&&(decide ((0)≤(d.lo))))&&(decide ((d.lo)≤(100)))) == true) then Value.bool (((d.hi) == ((-1))) || ((decide ((d.lo)≤(d.hi)))&&(decide ((d.hi)≤(100))))) else undef),fun v _=>v=Value.bool ((((((((n:Int)) == (1))&&(!(!bs)))&&(!(bg)))&&(decide ((0)≤(d.lo))))&&(decide ((d.lo)≤(100))))&&(((d.hi) == ((-1))) || ((decide ((d.lo)≤(d.hi)))&&(decide ((d.hi)≤(100)))))),fun v _=>v=Value.bool ((((((((n:Int)) == (1))&&(!(!bs)))&&(!(bg)))&&(decide ((0)≤(d.lo))))&&(decide ((d.lo)≤(100))))&&(((d.hi) == ((-1))) || ((decide ((d.lo)≤(d.hi)))&&(decide ((d.hi)≤(100))))))] (fun _=>false) (by kernel_rfl) (by kernel_rfl) (by repeat (first|exact trivial|refine⟨stable_eq _,?_⟩)) (fun _ _ h=>by cases h) ?ob ?en
      case ob =>
       refine⟨?_,?_,?_,?_,?_,?_,?_,?_,?_,?_,?_,?_,?_,?_,?_,?_,?_,?_,?_,?_,?_,?_,?_,?_,?_,?_,?_,?_,?_,?_,?_,?_,?_,?_,?_,?_,?_,?_,trivial⟩<;>intro A W h
       ·exact rs_pure rfl (run_cp (.inl rfl) (h.frame 5 rfl))
       ·exact rs_pure rfl ((by have e66:A.eval (.tmp 66)=Value.int .i64 ((n:Int)):=h.dep 0 66 rfl rfl;simp only[execOp,e66];simp[go_sem]))
       ·exact rs_pure rfl (run_cp (.inl rfl) (h.dep 1 67 rfl rfl))
       ·refine sy_ (h.dep 2 68 rfl rfl) fun hC=>?_;exact run_cp (.inl rfl) (h.frame 3 rfl)
       ·refine sy_ (h.dep 2 68 rfl rfl) fun hC=>?_;exact(by have e:A.eval (.tmp 69)=Value.bool (!bs):=bif_at (h.dep 3 69 rfl rfl) hC;simp only[execOp,e];simp[go_sem])
       ·exact rs_pure rfl (run_and rfl (h.dep 2 68 rfl rfl) (fun hb2=>bif_at (h.dep 4 70 rfl rfl) (by (first|(rw[hb2];rfl)|simp[hb2]))))
       ·exact rs_pure rfl (run_cp (.inl rfl) (h.dep 5 71 rfl rfl))
       ·refine sy_ (h.dep 6 72 rfl rfl) fun hC=>?_;exact run_cp (.inl rfl) (h.frame 4 rfl)
       ·refine sy_ (h.dep 6 72 rfl rfl) fun hC=>?_;exact(by have e:A.eval (.tmp 73)=Value.bool (bg):=bif_at (h.dep 7 73 rfl rfl) hC;simp only[execOp,e];simp[go_sem])
       ·exact rs_pure rfl (run_and rfl (h.dep 6 72 rfl rfl) (fun hb2=>bif_at (h.dep 8 74 rfl rfl) (by (first|(rw[hb2];rfl)|simp[hb2]))))
       ·exact rs_pure rfl (run_cp (.inl rfl) (h.dep 9 75 rfl rfl))
       ·refine sy_ (h.dep 10 76 rfl rfl) fun hC=>?_;exact(by have e:A.eval (.tmp 1)=Value.pointer (some ⟨b1,0,none⟩):=h.frame 1 rfl;simp only[execOp,e];simp[go_sem])
       ·refine sy_ (h.dep 10 76 rfl rfl) fun hC=>?_;exact run_load1K rfl (bif_at (h.dep 11 77 rfl rfl) hC) one_int ((H.call h.below).cell (i:=1) i_1 6)
       ·refine sy_ (h.dep 10 76 rfl rfl) fun hC=>?_;exact(by have e78:A.eval (.tmp 78)=Value.int .i64 (d.lo):=bif_at (h.dep 12 78 rfl rfl) hC;simp only[execOp,e78];simp[go_sem])
       ·exact rs_pure rfl (run_and rfl (h.dep 10 76 rfl rfl) (fun hb2=>bif_at (h.dep 13 79 rfl rfl) (by (first|(rw[hb2];rfl)|simp[hb2]))))
       ·exact rs_pure rfl (run_cp (.inl rfl) (h.dep 14 80 rfl rfl))
       ·refine sy_ (h.dep 15 81 rfl rfl) fun hC=>?_;exact(by have e:A.eval (.tmp 1)=Value.pointer (some ⟨b1,0,none⟩):=h.frame 1 rfl;simp only[execOp,e];simp[go_sem])
       ·refine sy_ (h.dep 15 81 rfl rfl) fun hC=>?_;exact run_load1K rfl (bif_at (h.dep 16 82 rfl rfl) hC) one_int ((H.call h.below).cell (i:=1) i_1 6)
       ·refine sy_ (h.dep 15 81 rfl rfl) fun hC=>?_;exact(by have e83:A.eval (.tmp 83)=Value.int .i64 (d.lo):=bif_at (h.dep 17 83 rfl rfl) hC;simp only[execOp,e83];simp[go_sem])
       ·exact rs_pure rfl (run_and rfl (h.dep 15 81 rfl rfl) (fun hb2=>bif_at (h.dep 18 84 rfl rfl) (by (first|(rw[hb2];rfl)|simp[hb2]))))
       ·exact rs_pure rfl (run_cp (.inl rfl) (h.dep 19 85 rfl rfl))
       ·refine sy_ (h.dep 20 86 rfl rfl) fun hC=>?_;exact(by have e:A.eval (.tmp 1)=Value.pointer (some ⟨b1,0,none⟩):=h.frame 1 rfl;simp only[execOp,e];simp[go_sem])
       ·refine sy_ (h.dep 20 86 rfl rfl) fun hC=>?_;exact run_load1K rfl (bif_at (h.dep 21 87 rfl rfl) hC) one_int ((H.call h.below).cell (i:=1) i_1 7)
       ·refine sy_ (h.dep 20 86 rfl rfl) fun hC=>?_;exact(by have e88:A.eval (.tmp 88)=Value.int .i64 (d.hi):=bif_at (h.dep 22 88 rfl rfl) hC;simp only[execOp,e88];simp[go_sem])
       ·refine sy_ (h.dep 20 86 rfl rfl) fun hC=>?_;exact run_cp (.inl rfl) (bif_at (h.dep 23 89 rfl rfl) hC)
       ·refine sy_ (h.dep 24 90 rfl rfl) fun hC=>?_;exact(by have e:A.eval (.tmp 1)=Value.pointer (some ⟨b1,0,none⟩):=h.frame 1 rfl;simp only[execOp,e];simp[go_sem])
       ·refine sy_ (h.dep 24 90 rfl rfl) fun hC=>?_;exact run_load1K rfl (bif_at (h.dep 25 91 rfl rfl) hC) one_int ((H.call h.below).cell (i:=1) i_1 7)
       ·refine sy_ (h.dep 24 90 rfl rfl) fun hC=>?_;exact(by have e:A.eval (.tmp 1)=Value.pointer (some ⟨b1,0,none⟩):=h.frame 1 rfl;simp only[execOp,e];simp[go_sem])
       ·refine sy_ (h.dep 24 90 rfl rfl) fun hC=>?_;exact run_load1K rfl (bif_at (h.dep 27 93 rfl rfl) hC) one_int ((H.call h.below).cell (i:=1) i_1 6)
       ·refine sy_ (h.dep 24 90 rfl rfl) fun hC=>?_;exact(by have e92:A.eval (.tmp 92)=Value.int .i64 (d.hi):=bif_at (h.dep 26 92 rfl rfl) hC;have e94:A.eval (.tmp 94)=Value.int .i64 (d.lo):=bif_at (h.dep 28 94 rfl rfl) hC;simp only[execOp,e92,e94];simp[go_sem])
       ·refine sy_ (h.dep 24 90 rfl rfl) fun hC=>?_;exact run_cp (.inl rfl) (bif_at (h.dep 29 95 rfl rfl) hC)
       ·refine sy_ (h.dep 30 96 rfl rfl) fun hC=>?_;exact(by have e:A.eval (.tmp 1)=Value.pointer (some ⟨b1,0,none⟩):=h.frame 1 rfl;simp only[execOp,e];simp[go_sem])
       ·refine sy_ (h.dep 30 96 rfl rfl) fun hC=>?_;exact run_load1K rfl (bif_at (h.dep 31 97 rfl rfl) hC) one_int ((H.call h.below).cell (i:=1) i_1 7)
       ·refine sy_ (h.dep 30 96 rfl rfl) fun hC=>?_;exact(by have e98:A.eval (.tmp 98)=Value.int .i64 (d.hi):=bif_at (h.dep 32 98 rfl rfl) hC;simp only[execOp,e98];simp[go_sem])
       ·refine sy_ (h.dep 24 90 rfl rfl) fun hC=>?_;exact run_and rfl (bif_at (h.dep 30 96 rfl rfl) hC) (fun hb2=>bif_at (h.dep 33 99 rfl rfl) (by (first|(rw[hC,hb2];rfl)|(rw[hb2];rfl)|simp[hb2,hC])))
       ·refine sy_ (h.dep 20 86 rfl rfl) fun hC=>?_;exact run_or rfl (bif_at (h.dep 24 90 rfl rfl) hC) (fun hb2=>bif_at (h.dep 34 100 rfl rfl) (by (first|(rw[hC,hb2];rfl)|(rw[hb2];rfl)|simp[hb2,hC])))
       ·exact rs_pure rfl (run_and rfl (h.dep 20 86 rfl rfl) (fun hb2=>bif_at (h.dep 35 101 rfl rfl) (by (first|(rw[hb2];rfl)|simp[hb2]))))
       ·exact rs_pure rfl (run_cp (.inr rfl) (h.dep 36 102 rfl rfl))
      case en =>
       intro vals W hbw hv _;have v37:vals 37=_:=hv 37 (by omega)
       simp only[fa,Nat.reduceAdd];rw[v37];clear hv v37
       try simp only[pl]
       have H:=H.call hbw
       go_wp2_with fail
       (refine Met.intro ?_;go_step;exact⟨⟨_,rfl,rfl,rfl,rfl,rfl,rfl,rfl,rfl,by rw[EO.out];rfl⟩,H⟩)
     ·have d6:(d.kind == 6)=false:=by rw[beq_eq_false_iff_ne];exact h6
      by_cases h7:d.kind=7
      ·have d7:(d.kind == 7)=true:=by rw[beq_iff_eq];exact h7
       have EO:=Lib.hid (show nodeOk1 d n=(((n:Int) == 1)&&!(!bs)&&decide (0<d.group)&&decide (d.group≤20)) by rw[nodeOk1,if_neg h3,if_neg h45,if_neg h6,if_pos h7,HBS.out])
       clear h3 h45 h6 h7
       go_upto_region 13 with (first|fail)
       refine wp_region_seq 17 [fun v _=>v=Value.int .i64 ((n:Int)),fun v _=>v=Value.bool (((n:Int)) == (1)),fun v _=>v=Value.bool (((n:Int)) == (1)),fun v _=>v=(bif (true)&&((((n:Int)) == (1)) == true) then Value.bool (!bs) else undef),fun v _=>v=(bif (true)&&((((n:Int)) == (1)) == true) then Value.bool (!(!bs)) else undef),fun v _=>v=Value.bool ((((n:Int)) == (1))&&(!(!bs))),fun v _=>v=Value.bool ((((n:Int)) == (1))&&(!(!bs))),fun v _=>v=(bif (true)&&(((((n:Int)) == (1))&&(!(!bs))) == true) then Value.pointer (some ⟨b1,9,none⟩) else undef),fun v _=>v=(bif (true)&&(((((n:Int)) == (1))&&(!(!bs))) == true) then Value.int .i64 (d.group) else undef),fun v _=>v=(bif (true)&&(((((n:Int)) == (1))&&(!(!bs))) == true) then Value.bool (decide ((0)<(d.group))) else undef),fun v _=>v=Value.bool (((((n:Int)) == (1))&&(!(!bs)))&&(decide ((0)<(d.group)))),fun v _=>v=Value.bool (((((n:Int)) == (1))&&(!(!bs)))&&(decide ((0)<(d.group)))),fun v _=>v=(bif (true)&&((((((n:Int)) == (1))&&(!(!bs)))&&(decide ((0)<(d.group)))) == true) then Value.pointer (some ⟨b1,9,none⟩) else undef),fun v _=>v=(bif (true)&&((((((n:Int)) == (1))&&(!(!bs)))&&(decide ((0)<(d.group)))) == true) then Value.int .i64 (d.group) else undef),fun v _=>v=(bif (true)&&((((((n:Int)) == (1))&&(!(!bs)))&&(decide ((0)<(d.group)))) == true) then Value.bool (decide ((d.group)≤(20))) else undef),fun v _=>v=Value.bool ((((((n:Int)) == (1))&&(!(!bs)))&&(decide ((0)<(d.group))))&&(decide ((d.group)≤(20)))),fun v _=>v=Value.bool ((((((n:Int)) == (1))&&(!(!bs)))&&(decide ((0)<(d.group))))&&(decide ((d.group)≤(20))))] (fun _=>false) (by kernel_rfl) (by kernel_rfl) (by repeat (first|exact trivial|refine⟨stable_eq _,?_⟩)) (fun _ _ h=>by cases h) ?ob ?en
       case ob =>
        refine⟨?_,?_,?_,?_,?_,?_,?_,?_,?_,?_,?_,?_,?_,?_,?_,?_,?_,trivial⟩<;>intro A W h
        ·exact rs_pure rfl (run_cp (.inl rfl) (h.frame 5 rfl))
        ·exact rs_pure rfl ((by have e105:A.eval (.tmp 105)=Value.int .i64 ((n:Int)):=h.dep 0 105 rfl rfl;simp only[execOp,e105];simp[go_sem]))
        ·exact rs_pure rfl (run_cp (.inl rfl) (h.dep 1 106 rfl rfl))
        ·refine sy_ (h.dep 2 107 rfl rfl) fun hC=>?_;exact run_cp (.inl rfl) (h.frame 3 rfl)
        ·refine sy_ (h.dep 2 107 rfl rfl) fun hC=>?_;exact(by have e:A.eval (.tmp 108)=Value.bool (!bs):=bif_at (h.dep 3 108 rfl rfl) hC;simp only[execOp,e];simp[go_sem])
        ·exact rs_pure rfl (run_and rfl (h.dep 2 107 rfl rfl) (fun hb2=>bif_at (h.dep 4 109 rfl rfl) (by (first|(rw[hb2];rfl)|simp[hb2]))))
        ·exact rs_pure rfl (run_cp (.inl rfl) (h.dep 5 110 rfl rfl))
        ·refine sy_ (h.dep 6 111 rfl rfl) fun hC=>?_;exact(by have e:A.eval (.tmp 1)=Value.pointer (some ⟨b1,0,none⟩):=h.frame 1 rfl;simp only[execOp,e];simp[go_sem])
        ·refine sy_ (h.dep 6 111 rfl rfl) fun hC=>?_;exact run_load1K rfl (bif_at (h.dep 7 112 rfl rfl) hC) one_int ((H.call h.below).cell (i:=1) i_1 9)
        ·refine sy_ (h.dep 6 111 rfl rfl) fun hC=>?_;exact(by have e113:A.eval (.tmp 113)=Value.int .i64 (d.group):=bif_at (h.dep 8 113 rfl rfl) hC;simp only[execOp,e113];simp[go_sem])
        ·exact rs_pure rfl (run_and rfl (h.dep 6 111 rfl rfl) (fun hb2=>bif_at (h.dep 9 114 rfl rfl) (by (first|(rw[hb2];rfl)|simp[hb2]))))
        ·exact rs_pure rfl (run_cp (.inl rfl) (h.dep 10 115 rfl rfl))
        ·refine sy_ (h.dep 11 116 rfl rfl) fun hC=>?_;exact(by have e:A.eval (.tmp 1)=Value.pointer (some ⟨b1,0,none⟩):=h.frame 1 rfl;simp only[execOp,e];simp[go_sem])
        ·refine sy_ (h.dep 11 116 rfl rfl) fun hC=>?_;exact run_load1K rfl (bif_at (h.dep 12 117 rfl rfl) hC) one_int ((H.call h.below).cell (i:=1) i_1 9)
        ·refine sy_ (h.dep 11 116 rfl rfl) fun hC=>?_;exact(by have e118:A.eval (.tmp 118)=Value.int .i64 (d.group):=bif_at (h.dep 13 118 rfl rfl) hC;simp only[execOp,e118];simp[go_sem])
        ·exact rs_pure rfl (run_and rfl (h.dep 11 116 rfl rfl) (fun hb2=>bif_at (h.dep 14 119 rfl rfl) (by (first|(rw[hb2];rfl)|simp[hb2]))))
        ·exact rs_pure rfl (run_cp (.inr rfl) (h.dep 15 120 rfl rfl))
       case en =>
        intro vals W hbw hv _;have v16:vals 16=_:=hv 16 (by omega)
        simp only[fa,Nat.reduceAdd];rw[v16];clear hv v16
        try simp only[pl]
        have H:=H.call hbw
        go_wp2_with fail
        (refine Met.intro ?_;go_step;exact⟨⟨_,rfl,rfl,rfl,rfl,rfl,rfl,rfl,rfl,by rw[EO.out];rfl⟩,H⟩)
      ·have d7:(d.kind == 7)=false:=by rw[beq_eq_false_iff_ne];exact h7
       have EO:=Lib.hid (show nodeOk1 d n=(decide (1≤d.kind)&&decide (d.kind≤13)&&((n:Int) == 0)&&!(!bs)&&!bg) by rw[nodeOk1,if_neg h3,if_neg h45,if_neg h6,if_neg h7,HBS.out,HBG.out])
       clear h3 h45 h6 h7
       go_upto_region 4 with (first|fail)
       refine wp_region_seq 21 [fun v _=>v=Value.pointer (some ⟨b1,0,none⟩),fun v _=>v=Value.int .i64 (d.kind),fun v _=>v=Value.bool (decide ((1)≤(d.kind))),fun v _=>v=Value.bool (decide ((1)≤(d.kind))),fun v _=>v=(bif (true)&&((decide ((1)≤(d.kind))) == true) then Value.pointer (some ⟨b1,0,none⟩) else undef),fun v _=>v=(bif (true)&&((decide ((1)≤(d.kind))) == true) then Value.int .i64 (d.kind) else undef),fun v _=>v=(bif (true)&&((decide ((1)≤(d.kind))) == true) then Value.bool (decide ((d.kind)≤(13))) else undef),fun v _=>v=Value.bool ((decide ((1)≤(d.kind)))&&(decide ((d.kind)≤(13)))),fun v _=>v=Value.bool ((decide ((1)≤(d.kind)))&&(decide ((d.kind)≤(13)))),fun v _=>v=(bif (true)&&(((decide ((1)≤(d.kind)))&&(decide ((d.kind)≤(13)))) == true) then Value.int .i64 ((n:Int)) else undef),fun v _=>v=(bif (true)&&(((decide ((1)≤(d.kind)))&&(decide ((d.kind)≤(13)))) == true) then Value.bool (((n:Int)) == (0)) else undef),fun v _=>v=Value.bool (((decide ((1)≤(d.kind)))&&(decide ((d.kind)≤(13))))&&(((n:Int)) == (0))),fun v _=>v=Value.bool (((decide ((1)≤(d.kind)))&&(decide ((d.kind)≤(13))))&&(((n:Int)) == (0))),fun v _=>v=(bif (true)&&((((decide ((1)≤(d.kind)))&&(decide ((d.kind)≤(13))))&&(((n:Int)) == (0))) == true) then Value.bool (!bs) else undef),fun v _=>v=(bif (true)&&((((decide ((1)≤(d.kind)))&&(decide ((d.kind)≤(13))))&&(((n:Int)) == (0))) == true) then Value.bool (!(!bs)) else undef),fun v _=>v=Value.bool ((((decide ((1)≤(d.kind)))&&(decide ((d.kind)≤(13))))&&(((n:Int)) == (0)))&&(!(!bs))),fun v _=>v=Value.bool ((((decide ((1)≤(d.kind)))&&(decide ((d.kind)≤(13))))&&(((n:Int)) == (0)))&&(!(!bs))),fun v _=>v=(bif (true)&&(((((decide ((1)≤(d.kind)))&&(decide ((d.kind)≤(13))))&&(((n:Int)) == (0)))&&(!(!bs))) == true) then Value.bool (bg) else undef),fun v _=>v=(bif (true)&&(((((decide ((1)≤(d.kind)))&&(decide ((d.kind)≤(13))))&&(((n:Int)) == (0)))&&(!(!bs))) == true) then Value.bool (!(bg)) else undef),fun v _=>v=Value.bool (((((decide ((1)≤(d.kind)))&&(decide ((d.kind)≤(13))))&&(((n:Int)) == (0)))&&(!(!bs)))&&(!(bg))),fun v _=>v=Value.bool (((((decide ((1)≤(d.kind)))&&(decide ((d.kind)≤(13))))&&(((n:Int)) == (0)))&&(!(!bs)))&&(!(bg)))] (fun _=>false) (by kernel_rfl) (by kernel_rfl) (by repeat (first|exact trivial|refine⟨stable_eq _,?_⟩)) (fun _ _ h=>by cases h) ?ob ?en
       case ob =>
        refine⟨?_,?_,?_,?_,?_,?_,?_,?_,?_,?_,?_,?_,?_,?_,?_,?_,?_,?_,?_,?_,?_,trivial⟩<;>intro A W h
        ·exact rs_pure rfl ((by have e:A.eval (.tmp 1)=Value.pointer (some ⟨b1,0,none⟩):=h.frame 1 rfl;simp only[execOp,e];simp[go_sem]))
        ·exact rs_pure rfl (run_load1K rfl (h.dep 0 20 rfl rfl) one_spot ((H.call h.below).cell (i:=1) i_1 0))
        ·exact rs_pure rfl ((by have e21:A.eval (.tmp 21)=Value.int .i64 (d.kind):=h.dep 1 21 rfl rfl;simp only[execOp,e21];simp[go_sem]))
        ·exact rs_pure rfl (run_cp (.inl rfl) (h.dep 2 22 rfl rfl))
        ·refine sy_ (h.dep 3 23 rfl rfl) fun hC=>?_;exact(by have e:A.eval (.tmp 1)=Value.pointer (some ⟨b1,0,none⟩):=h.frame 1 rfl;simp only[execOp,e];simp[go_sem])
        ·refine sy_ (h.dep 3 23 rfl rfl) fun hC=>?_;exact run_load1K rfl (bif_at (h.dep 4 24 rfl rfl) hC) one_spot ((H.call h.below).cell (i:=1) i_1 0)
        ·refine sy_ (h.dep 3 23 rfl rfl) fun hC=>?_;exact(by have e25:A.eval (.tmp 25)=Value.int .i64 (d.kind):=bif_at (h.dep 5 25 rfl rfl) hC;simp only[execOp,e25];simp[go_sem])
        ·exact rs_pure rfl (run_and rfl (h.dep 3 23 rfl rfl) (fun hb2=>bif_at (h.dep 6 26 rfl rfl) (by (first|(rw[hb2];rfl)|simp[hb2]))))
        ·exact rs_pure rfl (run_cp (.inl rfl) (h.dep 7 27 rfl rfl))
        ·refine sy_ (h.dep 8 28 rfl rfl) fun hC=>?_;exact run_cp (.inl rfl) (h.frame 5 rfl)
        ·refine sy_ (h.dep 8 28 rfl rfl) fun hC=>?_;exact(by have e29:A.eval (.tmp 29)=Value.int .i64 ((n:Int)):=bif_at (h.dep 9 29 rfl rfl) hC;simp only[execOp,e29];simp[go_sem])
        ·exact rs_pure rfl (run_and rfl (h.dep 8 28 rfl rfl) (fun hb2=>bif_at (h.dep 10 30 rfl rfl) (by (first|(rw[hb2];rfl)|simp[hb2]))))
        ·exact rs_pure rfl (run_cp (.inl rfl) (h.dep 11 31 rfl rfl))
        ·refine sy_ (h.dep 12 32 rfl rfl) fun hC=>?_;exact run_cp (.inl rfl) (h.frame 3 rfl)
        ·refine sy_ (h.dep 12 32 rfl rfl) fun hC=>?_;exact(by have e:A.eval (.tmp 33)=Value.bool (!bs):=bif_at (h.dep 13 33 rfl rfl) hC;simp only[execOp,e];simp[go_sem])
        ·exact rs_pure rfl (run_and rfl (h.dep 12 32 rfl rfl) (fun hb2=>bif_at (h.dep 14 34 rfl rfl) (by (first|(rw[hb2];rfl)|simp[hb2]))))
        ·exact rs_pure rfl (run_cp (.inl rfl) (h.dep 15 35 rfl rfl))
        ·refine sy_ (h.dep 16 36 rfl rfl) fun hC=>?_;exact run_cp (.inl rfl) (h.frame 4 rfl)
        ·refine sy_ (h.dep 16 36 rfl rfl) fun hC=>?_;exact(by have e:A.eval (.tmp 37)=Value.bool (bg):=bif_at (h.dep 17 37 rfl rfl) hC;simp only[execOp,e];simp[go_sem])
        ·exact rs_pure rfl (run_and rfl (h.dep 16 36 rfl rfl) (fun hb2=>bif_at (h.dep 18 38 rfl rfl) (by (first|(rw[hb2];rfl)|simp[hb2]))))
        ·exact rs_pure rfl (run_cp (.inr rfl) (h.dep 19 39 rfl rfl))
       case en =>
        intro vals W hbw hv _;have v20:vals 20=_:=hv 20 (by omega)
        simp only[fa,Nat.reduceAdd];rw[v20];clear hv v20
        try simp only[pl]
        have H:=H.call hbw
        go_wp2_with fail
        (refine Met.intro ?_;go_step;exact⟨⟨_,rfl,rfl,rfl,rfl,rfl,rfl,rfl,rfl,by rw[EO.out];rfl⟩,H⟩)
  case rest =>
   (rintro _ wc ⟨⟨t,rfl,ht,e0,e1,e2,e3,e4,e5,e6⟩,hcut⟩;have hl:=lit154 t ht;clear ht;obtain⟨u0,hl⟩:=hl;obtain⟨u1,hl⟩:=hl;obtain⟨u2,hl⟩:=hl;obtain⟨u3,hl⟩:=hl;obtain⟨u4,hl⟩:=hl;obtain⟨u5,hl⟩:=hl;obtain⟨u6,hl⟩:=hl;obtain⟨u7,hl⟩:=hl;obtain⟨u8,hl⟩:=hl;obtain⟨u9,hl⟩:=hl;obtain⟨u10,hl⟩:=hl;obtain⟨u11,hl⟩:=hl;obtain⟨u12,hl⟩:=hl;obtain⟨u13,hl⟩:=hl;obtain⟨u14,hl⟩:=hl;obtain⟨u15,hl⟩:=hl;obtain⟨u16,hl⟩:=hl;obtain⟨u17,hl⟩:=hl;obtain⟨u18,hl⟩:=hl;obtain⟨u19,hl⟩:=hl;obtain⟨u20,hl⟩:=hl;obtain⟨u21,hl⟩:=hl;obtain⟨u22,hl⟩:=hl;obtain⟨u23,hl⟩:=hl;obtain⟨u24,hl⟩:=hl;obtain⟨u25,hl⟩:=hl;obtain⟨u26,hl⟩:=hl;obtain⟨u27,hl⟩:=hl;obtain⟨u28,hl⟩:=hl;obtain⟨u29,hl⟩:=hl;obtain⟨u30,hl⟩:=hl;obtain⟨u31,hl⟩:=hl;obtain⟨u32,hl⟩:=hl;obtain⟨u33,hl⟩:=hl;obtain⟨u34,hl⟩:=hl;obtain⟨u35,hl⟩:=hl;obtain⟨u36,hl⟩:=hl;obtain⟨u37,hl⟩:=hl;obtain⟨u38,hl⟩:=hl;obtain⟨u39,hl⟩:=hl;obtain⟨u40,hl⟩:=hl;obtain⟨u41,hl⟩:=hl;obtain⟨u42,hl⟩:=hl;obtain⟨u43,hl⟩:=hl;obtain⟨u44,hl⟩:=hl;obtain⟨u45,hl⟩:=hl;obtain⟨u46,hl⟩:=hl;obtain⟨u47,hl⟩:=hl;obtain⟨u48,hl⟩:=hl;obtain⟨u49,hl⟩:=hl;obtain⟨u50,hl⟩:=hl;obtain⟨u51,hl⟩:=hl;obtain⟨u52,hl⟩:=hl;obtain⟨u53,hl⟩:=hl;obtain⟨u54,hl⟩:=hl;obtain⟨u55,hl⟩:=hl;obtain⟨u56,hl⟩:=hl;obtain⟨u57,hl⟩:=hl;obtain⟨u58,hl⟩:=hl;obtain⟨u59,hl⟩:=hl;obtain⟨u60,hl⟩:=hl;obtain⟨u61,hl⟩:=hl;obtain⟨u62,hl⟩:=hl;obtain⟨u63,hl⟩:=hl;obtain⟨u64,hl⟩:=hl;obtain⟨u65,hl⟩:=hl;obtain⟨u66,hl⟩:=hl;obtain⟨u67,hl⟩:=hl;obtain⟨u68,hl⟩:=hl;obtain⟨u69,hl⟩:=hl;obtain⟨u70,hl⟩:=hl;obtain⟨u71,hl⟩:=hl;obtain⟨u72,hl⟩:=hl;obtain⟨u73,hl⟩:=hl;obtain⟨u74,hl⟩:=hl;obtain⟨u75,hl⟩:=hl;obtain⟨u76,hl⟩:=hl;obtain⟨u77,hl⟩:=hl;obtain⟨u78,hl⟩:=hl;obtain⟨u79,hl⟩:=hl;obtain⟨u80,hl⟩:=hl;obtain⟨u81,hl⟩:=hl;obtain⟨u82,hl⟩:=hl;obtain⟨u83,hl⟩:=hl;obtain⟨u84,hl⟩:=hl;obtain⟨u85,hl⟩:=hl;obtain⟨u86,hl⟩:=hl;obtain⟨u87,hl⟩:=hl;obtain⟨u88,hl⟩:=hl;obtain⟨u89,hl⟩:=hl;obtain⟨u90,hl⟩:=hl;obtain⟨u91,hl⟩:=hl;obtain⟨u92,hl⟩:=hl;obtain⟨u93,hl⟩:=hl;obtain⟨u94,hl⟩:=hl;obtain⟨u95,hl⟩:=hl;obtain⟨u96,hl⟩:=hl;obtain⟨u97,hl⟩:=hl;obtain⟨u98,hl⟩:=hl;obtain⟨u99,hl⟩:=hl;obtain⟨u100,hl⟩:=hl;obtain⟨u101,hl⟩:=hl;obtain⟨u102,hl⟩:=hl;obtain⟨u103,hl⟩:=hl;obtain⟨u104,hl⟩:=hl;obtain⟨u105,hl⟩:=hl;obtain⟨u106,hl⟩:=hl;obtain⟨u107,hl⟩:=hl;obtain⟨u108,hl⟩:=hl;obtain⟨u109,hl⟩:=hl;obtain⟨u110,hl⟩:=hl;obtain⟨u111,hl⟩:=hl;obtain⟨u112,hl⟩:=hl;obtain⟨u113,hl⟩:=hl;obtain⟨u114,hl⟩:=hl;obtain⟨u115,hl⟩:=hl;obtain⟨u116,hl⟩:=hl;obtain⟨u117,hl⟩:=hl;obtain⟨u118,hl⟩:=hl;obtain⟨u119,hl⟩:=hl;obtain⟨u120,hl⟩:=hl;obtain⟨u121,hl⟩:=hl;obtain⟨u122,hl⟩:=hl;obtain⟨u123,hl⟩:=hl;obtain⟨u124,hl⟩:=hl;obtain⟨u125,hl⟩:=hl;obtain⟨u126,hl⟩:=hl;obtain⟨u127,hl⟩:=hl;obtain⟨u128,hl⟩:=hl;obtain⟨u129,hl⟩:=hl;obtain⟨u130,hl⟩:=hl;obtain⟨u131,hl⟩:=hl;obtain⟨u132,hl⟩:=hl;obtain⟨u133,hl⟩:=hl;obtain⟨u134,hl⟩:=hl;obtain⟨u135,hl⟩:=hl;obtain⟨u136,hl⟩:=hl;obtain⟨u137,hl⟩:=hl;obtain⟨u138,hl⟩:=hl;obtain⟨u139,hl⟩:=hl;obtain⟨u140,hl⟩:=hl;obtain⟨u141,hl⟩:=hl;obtain⟨u142,hl⟩:=hl;obtain⟨u143,hl⟩:=hl;obtain⟨u144,hl⟩:=hl;obtain⟨u145,hl⟩:=hl;obtain⟨u146,hl⟩:=hl;obtain⟨u147,hl⟩:=hl;obtain⟨u148,hl⟩:=hl;obtain⟨u149,hl⟩:=hl;obtain⟨u150,hl⟩:=hl;obtain⟨u151,hl⟩:=hl;obtain⟨u152,hl⟩:=hl;obtain⟨u153,hl⟩:=hl;subst hl;(replace e0:some u0=some (nodeV d (.slice p n c)):=e0);(cases e0);(replace e1:some u1=some (.pointer (some ⟨b1,0,none⟩)):=e1);(cases e1);(replace e2:some u2=some (.bool false):=e2);(cases e2);(replace e3:some u3=some (.bool (!bs)):=e3);(cases e3);(replace e4:some u4=some (.bool bg):=e4);(cases e4);(replace e5:some u5=some (.int .i64 (n:Int)):=e5);(cases e5);(replace e6:some u6=some (.bool (nodeOk1 d n)):=e6);(cases e6))
   have H:=hcut;clear hcut
   go_upto_region 14 with fail
   refine wp_region_seq 21 [fun v _=>v=Value.bool (nodeOk1 d n),fun v _=>v=Value.bool (!(nodeOk1 d n)),fun v _=>v=Value.bool (!(nodeOk1 d n)),fun v _=>v=(bif (true)&&((!(nodeOk1 d n)) == false) then Value.pointer (some ⟨b1,0,none⟩) else undef),fun v _=>v=(bif (true)&&((!(nodeOk1 d n)) == false) then Value.int .i64 (d.kind) else undef),fun v _=>v=(bif (true)&&((!(nodeOk1 d n)) == false) then Value.bool ((d.kind) != (6)) else undef),fun v _=>v=(bif (true)&&((!(nodeOk1 d n)) == false) then Value.bool ((d.kind) != (6)) else undef),fun v _=>v=(bif ((true)&&((!(nodeOk1 d n)) == false))&&(((d.kind) != (6)) == true) then Value.pointer (some ⟨b1,6,none⟩) else undef),fun v _=>v=(bif ((true)&&((!(nodeOk1 d n)) == false))&&(((d.kind) != (6)) == true) then Value.int .i64 (d.lo) else undef),fun v _=>v=(bif ((true)&&((!(nodeOk1 d n)) == false))&&(((d.kind) != (6)) == true) then Value.bool ((d.lo) != (0)) else undef),fun v _=>v=(bif ((true)&&((!(nodeOk1 d n)) == false))&&(((d.kind) != (6)) == true) then Value.bool ((d.lo) != (0)) else undef),fun v _=>v=(bif (((true)&&((!(nodeOk1 d n)) == false))&&(((d.kind) != (6)) == true))&&(((d.lo) != (0)) == false) then Value.pointer (some ⟨b1,7,none⟩) else undef),fun v _=>v=(bif (((true)&&((!(nodeOk1 d n)) == false))&&(((d.kind) != (6)) == true))&&(((d.lo) != (0)) == false) then Value.int .i64 (d.hi) else undef),fun v _=>v=(bif (((true)&&((!(nodeOk1 d n)) == false))&&(((d.kind) != (6)) == true))&&(((d.lo) != (0)) == false) then Value.bool ((d.hi) != (0)) else undef),fun v _=>v=(bif ((true)&&((!(nodeOk1 d n)) == false))&&(((d.kind) != (6)) == true) then Value.bool (((d.lo) != (0)) || ((d.hi) != (0))) else undef),fun v _=>v=(bif ((true)&&((!(nodeOk1 d n)) == false))&&(((d.kind) != (6)) == true) then Value.bool (((d.lo) != (0)) || ((d.hi) != (0))) else undef),fun v _=>v=(bif (((true)&&((!(nodeOk1 d n)) == false))&&(((d.kind) != (6)) == true))&&((((d.lo) != (0)) || ((d.hi) != (0))) == false) then Value.pointer (some ⟨b1,8,none⟩) else undef),fun v _=>v=(bif (((true)&&((!(nodeOk1 d n)) == false))&&(((d.kind) != (6)) == true))&&((((d.lo) != (0)) || ((d.hi) != (0))) == false) then Value.bool (d.lazy) else undef),fun v _=>v=(bif ((true)&&((!(nodeOk1 d n)) == false))&&(((d.kind) != (6)) == true) then Value.bool ((((d.lo) != (0)) || ((d.hi) != (0))) || (d.lazy)) else undef),fun v _=>v=(bif (true)&&((!(nodeOk1 d n)) == false) then Value.bool (((d.kind) != (6))&&((((d.lo) != (0)) || ((d.hi) != (0))) || (d.lazy))) else undef),fun v _=>v=Value.bool ((!(nodeOk1 d n)) || (((d.kind) != (6))&&((((d.lo) != (0)) || ((d.hi) != (0))) || (d.lazy))))] (fun _=>false) (by kernel_rfl) (by kernel_rfl) (by repeat (first|exact trivial|refine⟨stable_eq _,?_⟩)) (fun _ _ h=>by cases h) ?ob ?en
   case ob =>
    refine⟨?_,?_,?_,?_,?_,?_,?_,?_,?_,?_,?_,?_,?_,?_,?_,?_,?_,?_,?_,?_,?_,trivial⟩<;>intro A W h
    ·exact rs_pure rfl (run_cp (.inl rfl) (h.frame 6 rfl))
    ·exact rs_pure rfl ((by have e:A.eval (.tmp 121)=Value.bool (nodeOk1 d n):=h.dep 0 121 rfl rfl;simp only[execOp,e];simp[go_sem]))
    ·exact rs_pure rfl (run_cp (.inl rfl) (h.dep 1 122 rfl rfl))
    ·refine sy_ (h.dep 2 123 rfl rfl) fun hC=>?_;exact(by have e:A.eval (.tmp 1)=Value.pointer (some ⟨b1,0,none⟩):=h.frame 1 rfl;simp only[execOp,e];simp[go_sem])
    ·refine sy_ (h.dep 2 123 rfl rfl) fun hC=>?_;exact run_load1K rfl (bif_at (h.dep 3 124 rfl rfl) hC) one_spot ((H.call h.below).cell (i:=1) i_1 0)
    ·refine sy_ (h.dep 2 123 rfl rfl) fun hC=>?_;exact(by have e125:A.eval (.tmp 125)=Value.int .i64 (d.kind):=bif_at (h.dep 4 125 rfl rfl) hC;simp only[execOp,e125];simp[go_sem])
    ·refine sy_ (h.dep 2 123 rfl rfl) fun hC=>?_;exact run_cp (.inl rfl) (bif_at (h.dep 5 126 rfl rfl) hC)
    ·refine sy_ (h.dep 6 127 rfl rfl) fun hC=>?_;exact(by have e:A.eval (.tmp 1)=Value.pointer (some ⟨b1,0,none⟩):=h.frame 1 rfl;simp only[execOp,e];simp[go_sem])
    ·refine sy_ (h.dep 6 127 rfl rfl) fun hC=>?_;exact run_load1K rfl (bif_at (h.dep 7 128 rfl rfl) hC) one_int ((H.call h.below).cell (i:=1) i_1 6)
    ·refine sy_ (h.dep 6 127 rfl rfl) fun hC=>?_;exact(by have e129:A.eval (.tmp 129)=Value.int .i64 (d.lo):=bif_at (h.dep 8 129 rfl rfl) hC;simp only[execOp,e129];simp[go_sem])
    ·refine sy_ (h.dep 6 127 rfl rfl) fun hC=>?_;exact run_cp (.inl rfl) (bif_at (h.dep 9 130 rfl rfl) hC)
    ·refine sy_ (h.dep 10 131 rfl rfl) fun hC=>?_;exact(by have e:A.eval (.tmp 1)=Value.pointer (some ⟨b1,0,none⟩):=h.frame 1 rfl;simp only[execOp,e];simp[go_sem])
    ·refine sy_ (h.dep 10 131 rfl rfl) fun hC=>?_;exact run_load1K rfl (bif_at (h.dep 11 132 rfl rfl) hC) one_int ((H.call h.below).cell (i:=1) i_1 7)
    ·refine sy_ (h.dep 10 131 rfl rfl) fun hC=>?_;exact(by have e133:A.eval (.tmp 133)=Value.int .i64 (d.hi):=bif_at (h.dep 12 133 rfl rfl) hC;simp only[execOp,e133];simp[go_sem])
    ·refine sy_ (h.dep 6 127 rfl rfl) fun hC=>?_;exact run_or rfl (bif_at (h.dep 10 131 rfl rfl) hC) (fun hb2=>bif_at (h.dep 13 134 rfl rfl) (by (first|(rw[hC,hb2];rfl)|(rw[hb2];rfl)|simp[hb2,hC])))
    ·refine sy_ (h.dep 6 127 rfl rfl) fun hC=>?_;exact run_cp (.inl rfl) (bif_at (h.dep 14 135 rfl rfl) hC)
    ·refine sy_ (h.dep 15 136 rfl rfl) fun hC=>?_;exact(by have e:A.eval (.tmp 1)=Value.pointer (some ⟨b1,0,none⟩):=h.frame 1 rfl;simp only[execOp,e];simp[go_sem])
    ·refine sy_ (h.dep 15 136 rfl rfl) fun hC=>?_;exact run_load1K rfl (bif_at (h.dep 16 137 rfl rfl) hC) one_bool ((H.call h.below).cell (i:=1) i_1 8)
    ·refine sy_ (h.dep 6 127 rfl rfl) fun hC=>?_;exact run_or rfl (bif_at (h.dep 15 136 rfl rfl) hC) (fun hb2=>bif_at (h.dep 17 138 rfl rfl) (by (first|(rw[hC,hb2];rfl)|(rw[hb2];rfl)|simp[hb2,hC])))
    ·refine sy_ (h.dep 2 123 rfl rfl) fun hC=>?_;exact run_and rfl (bif_at (h.dep 6 127 rfl rfl) hC) (fun hb2=>bif_at (h.dep 18 139 rfl rfl) (by (first|(rw[hC,hb2];rfl)|(rw[hb2];rfl)|simp[hb2,hC])))
    ·exact rs_pure rfl (run_or rfl (h.dep 2 123 rfl rfl) (fun hb2=>bif_at (h.dep 19 140 rfl rfl) (by (first|(rw[hb2];rfl)|simp[hb2]))))
   case en =>
    intro vals W hbw hv _;have v20:vals 20=_:=hv 20 (by omega)
    simp only[fa,Nat.reduceAdd];rw[v20];clear hv v20
    try simp only[pl]
    have H:=H.call hbw;rw[nodeOk_not]
    cases hok:nodeOk d n with
    | false =>
     have E2:=Lib.hid (show kindsT (.mk d (xs.map (·.1)))=false by rw[E.out,hok];rfl)
     clear hok
     go_wp2_with (first|fail)
     go_ret;exact⟨retb E2.out.symm,H.below⟩
    | true =>
     have E2:=Lib.hid (show kindsT (.mk d (xs.map (·.1)))=kindsTs (xs.map (·.1)) by rw[E.out,hok];rfl)
     clear hok
     go_wp2_with (first|fail)
     go_loopw [7] (fun ix wr=>∃ j:Nat,j≤n∧ix=.int .i64 j∧Hid (kindsTs ((xs.map (·.1)).take j)=true)∧Hold w0 wr [.kn F (Knows F p n c xs),.blk b1 (nodeC d (.slice p n c)) 87]) (fun ix _=>n+1 - (intOf ix).toNat)
     case atStart=>exact⟨0,by omega,rfl,Lib.hid rfl,H⟩
     case round =>
      clear H;obtain⟨j,hj,rfl,G,H⟩:=hrel
      by_cases hlt:j<n
      ·have dj:decide ((j:Int)<(n:Int))=true:=by simp;omega
       obtain⟨x,hx⟩:∃ x,xs[j]?=some x:=⟨_,List.getElem?_eq_getElem (by rw[← HN.out];exact hlt)⟩
       obtain⟨b,off,rfl⟩:=hp (by rw[← HN.out];omega)
       have hs1:=size_part hx;have hmem:=List.mem_of_getElem? hx;have hcell:∀ V,Knows F (some ⟨b,off,none⟩) n c xs V→∀ k,k<10→V.cell? ⟨b,off+j * 10+k,none⟩=(nodeX x)[k]?:=fun V h=>h.cells hx rfl
       have ih:=fun w (hw:∀ b,F b→b<w.heap.size) (hk:Knows F (some ⟨b,off,none⟩) n c xs w)=>IH x.1 x.2.1 _ x.2.2 F w (by omega) (by omega) hw (hk.2 x hmem) rfl
       cases hkx:kindsT x.1 with
       | false =>
        have E3:=Lib.hid (show kindsT (.mk d (xs.map (·.1)))=false by rw[E2.out,kinds_no hx hkx])
        rw[hkx]at ih;clear IH hx hmem hp hkx hs1
        go_wp2_with (first|((with_reducible refine gL ?_);refine own_loadK wtd_ _ _ rfl rfl row_Node (nodeX_size x) (hcell _ (H.kn (i:=0) .zero)) ?_)|((with_reducible refine gL ?_);refine aG H ?_)|(go_at_call 137;(with_reducible refine ch (ih _ (H.knlt (i:=0) .zero) (H.kn (i:=0) .zero)) H ?_);clear H;intro w H))
        go_ret;exact⟨retb E3.out.symm,H.below⟩
       | true =>
        have G2:=Lib.hid (show kindsTs ((xs.map (·.1)).take (j+1))=true by rw[kinds_part hx,G.out,hkx];rfl)
        rw[hkx]at ih;clear IH hx hmem hp hkx hs1
        go_wp2_with (first|((with_reducible refine gL ?_);refine own_loadK wtd_ _ _ rfl rfl row_Node (nodeX_size x) (hcell _ (H.kn (i:=0) .zero)) ?_)|((with_reducible refine gL ?_);refine aG H ?_)|(go_at_call 137;(with_reducible refine ch (ih _ (H.knlt (i:=0) .zero) (H.kn (i:=0) .zero)) H ?_);clear H;intro w H))
        go_roundw
        case rel=>exact⟨j+1,by omega,by go_num,G2,H⟩
        case measure=>simp[intOf];omega
      ·have dj:decide ((j:Int)<(n:Int))=false:=by simp;omega
       have E3:=Lib.hid (show kindsT (.mk d (xs.map (·.1)))=true by
        rw[E2.out];have:=G.out
        rwa [List.take_of_length_le (by rw[List.length_map,← HN.out];omega)]at this)
       go_wp2_with (first|fail)
       go_ret;exact⟨retb E3.out.symm,H.below⟩
def TreeB (w:World) (G:Nat→Prop) (o:Option Tree) (e:Ending) (w':World):Prop:=match o with
 | some t=>∃ p c F,e=.returned (.tuple #[nodeV t.d (.slice p t.kids.length c),.bool true])∧ForestR w' F p c t.kids∧∀ b,F b→b<w'.heap.size∧(w.heap.size≤b∨G b)
 | none=>∃ d p n c,e=.returned (.tuple #[nodeV d (.slice p n c),.bool false])
theorem TreeB.leaf {w w':World} {G:Nat→Prop} {o:Option Tree} {k:Int} (h:o=some (leafT k)):TreeB w G o (.returned (.tuple #[nodeV {kind:=k} nilS,.bool true])) w':=by
 subst h;exact⟨none,0,fun _=>False,rfl,ForestR.nil ..,fun _ h=>h.elim⟩
theorem TreeB.no {w w':World} {G:Nat→Prop} {o:Option Tree} {d:NodeD} {p:Option Addr} {n c:Nat} (h:o=none):TreeB w G o (.returned (.tuple #[nodeV d (.slice p n c),.bool false])) w':=by
 subst h;exact⟨d,p,n,c,rfl⟩
theorem rep_start (d:NodeD) (k:Int):((((d.hi) == (0)) || ((k) == (1))) || (((k) == (2))&&((d.lo) == (0))))=decide (d.hi=0∨k=1∨k=2∧d.lo=0):=by
 rw[Bool.eq_iff_iff];simp[or_assoc]
theorem quiet_val {P:Program} {a:Act} {o:Oper} {C:World→Prop} {K:Act→Prop} {v:Value} (h:∀ w,C w→(execOp a.eval o).run P w=.ok (.value v) w) (hk:K (a.put o.dst v)):o.quiet P a C K :=
 ⟨v,fun w hw=>by unfold Oper.quietAt;rw[h w hw];exact⟨rfl,rfl⟩,hk⟩
theorem max2_int (a b:Int):Builtin.max2 (.int .i64 a) (.int .i64 b)=pure (.int .i64 (max a b)):=by
 show (pure (.int .i64 (if b > a then b else a)):Sem Value)=_
 rw[show (if b > a then b else a)=max a b by omega]
theorem run_max3 {P:Program} {ev:Operand→Value} {w:World} {o:Oper} {x y z:Operand} {ts:Array TypeId} {i j k:Int} (hop:o.op=Op.call {callee:=.builtin .max,args:=#[x,y,z],argTypes:=ts}) (hx:ev x=.int .i64 i) (hy:ev y=.int .i64 j) (hz:ev z=.int .i64 k) :
  (execOp ev o).run P w=.ok (.value (.int .i64 (max (max i j) k))) w:=by
 simp[execOp,hop,hx,hy,hz,go_sem,Builtin.max_,max2_int]
theorem size_rep (k:Tree):∀ n,sizeTs (List.replicate n k)=n * sizeT k
 | 0=>by simp[sizeTs]
 | n+1=>by rw[List.replicate_succ,sizeTs,size_rep k n,Nat.succ_mul,Nat.add_comm]
theorem flatR_rep (k:TV) (n:Nat):flatR ((List.replicate n k).map nodeX)++(nodeC k.1.d (.slice k.2.1 k.1.kids.length k.2.2)).toList=flatR ((List.replicate (n+1) k).map nodeX):=by
 rw[List.replicate_succ',List.map_append,flatR_append];simp[flatR]
theorem flatR_put (xs:List TV) (y:TV):flatR (xs.map nodeX)++(nodeC y.1.d (.slice y.2.1 y.1.kids.length y.2.2)).toList=flatR ((xs++[y]).map nodeX):=by
 rw[List.map_append,flatR_append];simp[flatR]
theorem map_rep (k:TV) (n:Nat):(List.replicate n k).map (·.1)=List.replicate n k.1:=by rw[List.map_replicate]
theorem wrap_mul (n:Nat) (m:Int) (h:n≤2000) (h1:0≤m) (h2:m≤100):wrap64 ((n:Int) * m)=n * m:=by
 have h3:(0:Int)≤(n:Int) * m:=Int.mul_nonneg (by omega) h1
 have h4:(n:Int) * m≤2000 * 100:=Int.mul_le_mul (by omega) h2 h1 (by decide)
 unfold wrap64;omega
theorem chk {M:Nat→Prop} {P:Program} {f:FuncId} {args:Array Value} {w w0:World} {l:List Res} {ts:List Tree} {G:Nat→Prop} {R:Ending→World→Prop} (c:Calls P f args w fun e w'=>ListOut w G ts e w'∧Below w.heap.size w w') (H:HoldG M w0 w l) (hG:Still l G)
  (k:∀ p n F (xs:List TV) w',Hid (xs.map (·.1)=ts)→(∀ b,F b→w0.heap.size≤b∨G b)→HoldG M w0 w' (l++[.kn F (Knows F p xs.length n xs)])→R (.returned (.slice p xs.length n)) w'):Calls P f args w R:=c.mono fun _ w' h=>by
 obtain⟨⟨p,n,F,rfl,hs,hF⟩,hb⟩:=h;obtain⟨xs,h1,h2,rfl⟩:=hs.open;have hl:(xs.map (·.1)).length=xs.length:=List.length_map ..;rw[hl];exact k p n F xs w' (Lib.hid rfl) (fun b h=>(hF b h).2.imp (fun h=>Nat.le_trans H.keep.size h) id) (H.learn hb hG hF (fun V hV=>⟨h1.kept hV,h2.kept hV⟩))
theorem ref_repeat11 (d:NodeD) (p0:Option Addr) (n0 c0:Nat) (k:Tree) (p:Option Addr) (c:Nat) (F:Nat→Prop) (w0:World) (hlo:0≤d.lo∧d.lo≤100) (hhi:d.hi = -1∨d.lo≤d.hi∧d.hi≤100) (hk:sizeT k≤2000) (hF:∀ b,F b→b<w0.heap.size) (h:ForestR w0 F p c k.kids) :
  Calls Tryz.prog 143 #[nodeV d (.slice p0 n0 c0),nodeV k.d (.slice p k.kids.length c)] w0 fun e w'=>TreeB w0 F (repeatT d k) e w'∧Below w0.heap.size w0 w':=by
 obtain⟨i0,hi0,hz0,hz1,hz2⟩:=info_parts info_Node;have H:=(Hold.start w0).know F (fun V=>ForestR V F p c k.kids) hF (fun i r h=>by simp at h) (fun V hV=>h.kept hV)
 clear h;simp only[List.nil_append]at H;have E:repeatT d k=repeatT d k:=rfl
 conv at E=>rhs;unfold repeatT
 have hem:=fun w=>ref_empty w
 have hno:=fun w=>ref_none w
 go_enter Tryz.func143,Tryz.ntmps143
 go_upto_region 1 with (first|((first|((with_reducible refine kgA 2 ?_);refine kA 2 H ?_)|((with_reducible refine kgX 2 ?_);(first|refine kS 2 H ?_|refine kB 2 H ?_)));clear H;intro b2 w H;try simp only[nr]at H)|((first|((with_reducible refine kgA 3 ?_);refine kA 3 H ?_)|((with_reducible refine kgX 3 ?_);(first|refine kS 3 H ?_|refine kB 3 H ?_)));clear H;intro b3 w H;try simp only[nr]at H)|((first|((with_reducible refine kgA 4 ?_);refine kA 4 H ?_)|((with_reducible refine kgX 4 ?_);(first|refine kS 4 H ?_|refine kB 4 H ?_)));clear H;intro b4 w H;try simp only[nr]at H)|fail)
 refine wp_region_seq 19 [fun v _=>v=Value.pointer (some ⟨b2,7,none⟩),fun v _=>v=Value.int .i64 (d.hi),fun v _=>v=Value.bool ((d.hi) == (0)),fun v _=>v=Value.bool ((d.hi) == (0)),fun v _=>v=(bif (true)&&(((d.hi) == (0)) == false) then Value.pointer (some ⟨b3,0,none⟩) else undef),fun v _=>v=(bif (true)&&(((d.hi) == (0)) == false) then Value.int .i64 (k.d.kind) else undef),fun v _=>v=(bif (true)&&(((d.hi) == (0)) == false) then Value.bool ((k.d.kind) == (1)) else undef),fun v _=>v=Value.bool (((d.hi) == (0)) || ((k.d.kind) == (1))),fun v _=>v=Value.bool (((d.hi) == (0)) || ((k.d.kind) == (1))),fun v _=>v=(bif (true)&&((((d.hi) == (0)) || ((k.d.kind) == (1))) == false) then Value.pointer (some ⟨b3,0,none⟩) else undef),fun v _=>v=(bif (true)&&((((d.hi) == (0)) || ((k.d.kind) == (1))) == false) then Value.int .i64 (k.d.kind) else undef),fun v _=>v=(bif (true)&&((((d.hi) == (0)) || ((k.d.kind) == (1))) == false) then Value.bool ((k.d.kind) == (2)) else undef),fun v _=>v=(bif (true)&&((((d.hi) == (0)) || ((k.d.kind) == (1))) == false) then Value.bool ((k.d.kind) == (2)) else undef),fun v _=>v=(bif ((true)&&((((d.hi) == (0)) || ((k.d.kind) == (1))) == false))&&(((k.d.kind) == (2)) == true) then Value.pointer (some ⟨b2,6,none⟩) else undef),fun v _=>v=(bif ((true)&&((((d.hi) == (0)) || ((k.d.kind) == (1))) == false))&&(((k.d.kind) == (2)) == true) then Value.int .i64 (d.lo) else undef),fun v _=>v=(bif ((true)&&((((d.hi) == (0)) || ((k.d.kind) == (1))) == false))&&(((k.d.kind) == (2)) == true) then Value.bool ((d.lo) == (0)) else undef),fun v _=>v=(bif (true)&&((((d.hi) == (0)) || ((k.d.kind) == (1))) == false) then Value.bool (((k.d.kind) == (2))&&((d.lo) == (0))) else undef),fun v _=>v=Value.bool ((((d.hi) == (0)) || ((k.d.kind) == (1))) || (((k.d.kind) == (2))&&((d.lo) == (0)))),fun v _=>v=Value.bool ((((d.hi) == (0)) || ((k.d.kind) == (1))) || (((k.d.kind) == (2))&&((d.lo) == (0))))] (fun _=>false) (by kernel_rfl) (by kernel_rfl) (by repeat (first|exact trivial|refine⟨stable_eq _,?_⟩)) (fun _ _ h=>by cases h) ?ob ?en
 case ob =>
  refine⟨?_,?_,?_,?_,?_,?_,?_,?_,?_,?_,?_,?_,?_,?_,?_,?_,?_,?_,?_,trivial⟩<;>intro A W h
  ·exact rs_pure rfl ((by have e:A.eval (.tmp 2)=Value.pointer (some ⟨b2,0,none⟩):=h.frame 2 rfl;simp only[execOp,e];simp[go_sem]))
  ·exact rs_pure rfl (run_load1K rfl (h.dep 0 9 rfl rfl) one_int ((H.call h.below).cell (i:=1) i_1 7))
  ·exact rs_pure rfl ((by have e10:A.eval (.tmp 10)=Value.int .i64 (d.hi):=h.dep 1 10 rfl rfl;simp only[execOp,e10];simp[go_sem]))
  ·exact rs_pure rfl (run_cp (.inl rfl) (h.dep 2 11 rfl rfl))
  ·refine sy_ (h.dep 3 12 rfl rfl) fun hC=>?_;exact(by have e:A.eval (.tmp 3)=Value.pointer (some ⟨b3,0,none⟩):=h.frame 3 rfl;simp only[execOp,e];simp[go_sem])
  ·refine sy_ (h.dep 3 12 rfl rfl) fun hC=>?_;exact run_load1K rfl (bif_at (h.dep 4 13 rfl rfl) hC) one_spot ((H.call h.below).cell (i:=2) i_2 0)
  ·refine sy_ (h.dep 3 12 rfl rfl) fun hC=>?_;exact(by have e14:A.eval (.tmp 14)=Value.int .i64 (k.d.kind):=bif_at (h.dep 5 14 rfl rfl) hC;simp only[execOp,e14];simp[go_sem])
  ·exact rs_pure rfl (run_or rfl (h.dep 3 12 rfl rfl) (fun hb2=>bif_at (h.dep 6 15 rfl rfl) (by (first|(rw[hb2];rfl)|simp[hb2]))))
  ·exact rs_pure rfl (run_cp (.inl rfl) (h.dep 7 16 rfl rfl))
  ·refine sy_ (h.dep 8 17 rfl rfl) fun hC=>?_;exact(by have e:A.eval (.tmp 3)=Value.pointer (some ⟨b3,0,none⟩):=h.frame 3 rfl;simp only[execOp,e];simp[go_sem])
  ·refine sy_ (h.dep 8 17 rfl rfl) fun hC=>?_;exact run_load1K rfl (bif_at (h.dep 9 18 rfl rfl) hC) one_spot ((H.call h.below).cell (i:=2) i_2 0)
  ·refine sy_ (h.dep 8 17 rfl rfl) fun hC=>?_;exact(by have e19:A.eval (.tmp 19)=Value.int .i64 (k.d.kind):=bif_at (h.dep 10 19 rfl rfl) hC;simp only[execOp,e19];simp[go_sem])
  ·refine sy_ (h.dep 8 17 rfl rfl) fun hC=>?_;exact run_cp (.inl rfl) (bif_at (h.dep 11 20 rfl rfl) hC)
  ·refine sy_ (h.dep 12 21 rfl rfl) fun hC=>?_;exact(by have e:A.eval (.tmp 2)=Value.pointer (some ⟨b2,0,none⟩):=h.frame 2 rfl;simp only[execOp,e];simp[go_sem])
  ·refine sy_ (h.dep 12 21 rfl rfl) fun hC=>?_;exact run_load1K rfl (bif_at (h.dep 13 22 rfl rfl) hC) one_int ((H.call h.below).cell (i:=1) i_1 6)
  ·refine sy_ (h.dep 12 21 rfl rfl) fun hC=>?_;exact(by have e23:A.eval (.tmp 23)=Value.int .i64 (d.lo):=bif_at (h.dep 14 23 rfl rfl) hC;simp only[execOp,e23];simp[go_sem])
  ·refine sy_ (h.dep 8 17 rfl rfl) fun hC=>?_;exact run_and rfl (bif_at (h.dep 12 21 rfl rfl) hC) (fun hb2=>bif_at (h.dep 15 24 rfl rfl) (by (first|(rw[hC,hb2];rfl)|(rw[hb2];rfl)|simp[hb2,hC])))
  ·exact rs_pure rfl (run_or rfl (h.dep 8 17 rfl rfl) (fun hb2=>bif_at (h.dep 16 25 rfl rfl) (by (first|(rw[hb2];rfl)|simp[hb2]))))
  ·exact rs_pure rfl (run_cp (.inr rfl) (h.dep 17 26 rfl rfl))
 case en =>
  intro vals W hbw hv _;have v18:vals 18=_:=hv 18 (by omega)
  simp only[fa,Nat.reduceAdd];rw[v18];clear hv v18
  try simp only[pl]
  have H:=H.call hbw;rw[rep_start]
  by_cases hA:d.hi=0∨k.d.kind=1∨k.d.kind=2∧d.lo=0
  ·rw[if_pos hA]at E;have E2:=Lib.hid E;clear E;rw[decide_eq_true hA];clear hA
   go_wp2_with (first|((with_reducible refine gT ?_);(refine aT H ?_;clear H;intro w H;try simp only[nr]at H))|(go_at_call 152;(with_reducible refine ch (hem _) H ?_);clear H;intro w H))
   (refine ret_ct Tryz.results143 rfl (by first|rfl|(simp only[pl];rfl)) H atd_ (by first|(with_reducible exact row_Node)|(with_reducible exact row_Set)|(with_reducible exact row_Flags)|(with_reducible exact row_Word)) (by rfl) rfl ?_)
   exact⟨TreeB.leaf E2.out,H.below⟩
  ·rw[if_neg hA]at E;rw[decide_eq_false hA];have hhi0:d.hi≠0:=fun e=>hA (.inl e)
   clear hA
   by_cases h2:k.d.kind=2
   ·have d2:(k.d.kind == 2)=true:=by rw[beq_iff_eq];exact h2
    rw[if_pos h2]at E;have E2:=Lib.hid E;clear E h2
    go_wp2_with (first|(first|((with_reducible refine gT ?_);(refine aT H ?_;clear H;intro w H;try simp only[nr]at H))|((with_reducible refine gL ?_);refine aG H ?_))|(go_at_call 139;(with_reducible refine ch (hno _) H ?_);clear H;intro w H))
    (refine ret_ct Tryz.results143 rfl (by first|rfl|(simp only[pl];rfl)) H atd_ (by first|(with_reducible exact row_Node)|(with_reducible exact row_Set)|(with_reducible exact row_Flags)|(with_reducible exact row_Word)) (by rfl) rfl ?_)
    exact⟨TreeB.leaf E2.out,H.below⟩
   ·have d2:(k.d.kind == 2)=false:=by rw[beq_eq_false_iff_ne];exact h2
    rw[if_neg h2]at E;clear h2
    go_upto_region 5 with (first|((with_reducible refine gL ?_);refine aG H ?_))
    go_wp2_with fail
    obtain⟨T,hT,fw,hf,h0⟩:=fam W;have e6:=fun x=>(H.call (hf x)).cell (i:=1) i_1 6
    have e7:=fun x=>(H.call (hf x)).cell (i:=1) i_1 7
    simp only[ng6,ng7]at e6 e7;have hC:=fun x=>fam_call hf h0 x (ref_Size _ k p _ c F (fw x) hk (by decide) ((H.call (hf x)).knlt .zero) ((H.call (hf x)).kn .zero) rfl)
    refine wp_region_fam fw (by kernel_rfl) (by kernel_rfl) h0 ?_
    go_big_quiet_want
    refine quiet_val (v:=nodeV k.d (.slice p k.kids.length c)) ?_ ?_
    ·rintro _ ⟨x,rfl⟩;exact run_loadK rfl rfl row_Node rfl (fun j _=>by rw[Nat.zero_add];exact(H.call (hf x)).cell (i:=2) i_2 j)
    simp only[pl]
    go_big_quiet_on
    repeat (go_big_quiet_step (with_reducible exact hC _))
    go_big_quiet_want
    refine quiet_val (fun _ _=>run_max3 rfl rfl rfl rfl) ?_
    simp only[pl]
    go_big_quiet_on
    repeat (go_big_quiet_step (fail))
    refine wpQuiet_nil ?_
    rintro _ ⟨x,rfl⟩;replace H:=H.call (hf x);obtain⟨wq,hwq⟩:∃ wq,fw x=wq:=⟨_,rfl⟩;rw[hwq]at H ⊢;clear hwq e6 e7 hC h0 hf;clear x fw hT T;rw[wrap_mul _ _ hk (by omega) (by omega)]
    have hmx:max (max d.lo d.hi) 1=max d.lo (max d.hi 1):=by omega
    rw[hmx]at E ⊢;clear hmx
    by_cases h4:(4000:Int)<(sizeT k:Int) * max d.lo (max d.hi 1)
    ·rw[if_pos h4]at E;rw[decide_eq_true h4];have E2:=Lib.hid E;clear E h4
     go_wp2_with (first|((with_reducible refine gT ?_);(refine aT H ?_;clear H;intro w H;try simp only[nr]at H))|(go_at_call 139;(with_reducible refine ch (hno _) H ?_);clear H;intro w H))
     (refine ret_ct Tryz.results143 rfl (by first|rfl|(simp only[pl];rfl)) H atd_ (by first|(with_reducible exact row_Node)|(with_reducible exact row_Set)|(with_reducible exact row_Flags)|(with_reducible exact row_Word)) (by rfl) rfl ?_)
     exact⟨TreeB.no E2.out,H.below⟩
    ·rw[if_neg h4]at E;rw[decide_eq_false h4];have E2:=Lib.hid E;clear E h4;obtain⟨lo,hl⟩:∃ lo:Nat,d.lo=lo:=⟨d.lo.toNat,by omega⟩
     have hlo2:lo≤100:=by omega
     have HLO:=Lib.hid hl;clear hl;replace H:=H.addNil 87 10;simp only[List.nil_append,List.cons_append]at H
     go_wp2_with fail
     go_loopw [6,7] (fun vs ix wr=>∃ (j:Nat) (vq:Option Addr) (vc:Nat),j≤lo∧vs=.slice vq j vc∧ix=.int .i64 j∧Hold w0 wr [.kn F (fun V=>ForestR V F p c k.kids),.blk b2 (nodeC d (.slice p0 n0 c0)) 87,.blk b3 (nodeC k.d (.slice p k.kids.length c)) 87,.blk b4 (nodeC {kind:=0} nilS) 87,.row (.slice vq j vc) 87 10 j (flatR ((List.replicate j ((k,p,c):TV)).map nodeX))]) (fun _ ix _=>lo+1 - (intOf ix).toNat)
     case atStart=>exact⟨0,none,0,by omega,rfl,rfl,H⟩
     case round =>
      clear H;obtain⟨j,vq,vc,hj,rfl,rfl,H⟩:=hrel
      by_cases hlt:j<lo
      ·have dj:decide ((j:Int)<d.lo)=true:=by have:=HLO.out;simp;omega
       go_wp2_with (first|(at_builtin;refine own_append rfl _ _ 85 rfl H (i:=4) (j:=5) evd_ rfl i_4 i_5 Tryz.underlying85 hi0 hz0 hz1 hz2 rfl (by decide) rfl rfl (by unfold maxLen;omega) (by omega) ?_;clear H;intro v2 w H;(try simp only[nr]at H);(obtain⟨q2,c2,rfl,_,_,_⟩:=H.rowShape (i:=4) i_4))|((with_reducible show @wpList _ _ _ ({dst:=_,op:=Op.buildSlice _ _ _,type:=_,pos:=_,after:=_,guard:=_}::_) _ _);refine own_build wtd_ _ _ _ rfl H (nodeC (k.d) (.slice p k.kids.length c)) 87 (by intro W;simp only[List.map_toArray,List.map_cons,List.map_nil];(try simp only[pe]);exact run_kid1 _ _ W) ?_;clear H;intro bk w H;try simp only[nr]at H)|((with_reducible refine gL ?_);(first|refine aG H ?_|refine aD H ?_)))
       rw[flatR_rep (k,p,c) j]at H;go_roundw
       case rel=>exact⟨j+1,q2,c2,by omega,rfl,by go_num,H.pick [0,1,2,3,4] _ (by decide) rfl⟩
       case measure=>simp[intOf];omega
      ·have hjn:j=lo:=by omega
       have dj:decide ((j:Int)<d.lo)=false:=by have:=HLO.out;simp;omega
       clear hj hlt;have HSZ:=Lib.hid (size_rep k j);have HSZ2:=Lib.hid (show j * sizeT k≤100 * 2000 from Nat.mul_le_mul (by omega) hk)
       have hj1:j≤100:=by omega
       have HJN:=Lib.hid hjn;clear hjn
       by_cases hn:d.hi<0
       ·have dn:decide (d.hi<0)=true:=by simp;exact hn
        have hag:=fun (w:World) (h1:∀ b,F b→b<w.heap.size) (h2:ForestR w F p c k.kids)=>show Calls Tryz.prog 153 #[.agg (nodeC d (.slice p0 n0 c0)),.agg (nodeC k.d (.slice p k.kids.length c)),.int .i64 (-1)] w fun e w'=>TreeOut w F (againT d k (-1)) e w'∧Below w.heap.size w w' from ref_again d p0 n0 c0 k p c (-1) F w h1 h2
        have E3:=Lib.hid (show repeatT d k=some (catT (List.replicate j k++[againT d k (-1)])) by rw[E2.out,if_pos hn,HLO.out,Int.toNat_natCast,HJN.out])
        clear E2 hn
        go_upto_region 13 with (first|((with_reducible refine gL ?_);refine aG H ?_))
        clear hhi0 d2 dj dn hhi hlo hem hno hlo2
        go_upto_region 15 with (first|(at_builtin;refine own_append rfl _ _ 85 rfl H (i:=4) (j:=6) evd_ rfl i_4 i_6 Tryz.underlying85 hi0 hz0 hz1 hz2 rfl (by decide) rfl rfl (by unfold maxLen;omega) (by omega) ?_;clear H;intro v2 w H;try simp only[nr]at H)|((with_reducible show @wpList _ _ _ ({dst:=_,op:=Op.buildSlice _ _ _,type:=_,pos:=_,after:=_,guard:=_}::_) _ _);refine own_build wtd_ _ _ _ rfl H (nodeC ((againT d k (-1)).d) (.slice q1 (againT d k (-1)).kids.length m1)) 87 (by intro W;simp only[List.map_toArray,List.map_cons,List.map_nil];(try simp only[pe]);exact run_kid1 _ _ W) ?_;clear H;intro bk w H;try simp only[nr]at H)|((with_reducible refine gL ?_);refine aD H ?_)|(go_at_call 153;refine cht (hag _ (H.knlt (i:=0) .zero) (H.kn (i:=0) .zero)) H (Still.at (i:=0) .zero) ?_;clear H;intro q1 m1 F1 w hF1 H))
        obtain⟨q2,c2,rfl,_,_,_⟩:=H.rowShape (i:=4) i_4;rw[flatR_put (List.replicate j ((k,p,c):TV)) (againT d k (-1),q1,m1)]at H
        obtain⟨G,hG,H2⟩:=H.rowForest (i:=4) (xs:=List.replicate j ((k,p,c):TV)++[(againT d k (-1),q1,m1)]) (K:=fun b=>F b∨F1 b) i_4 (by simp) ((Still.at (i:=0) .zero).or (Still.at (i:=5) i_5)) (fun y hy=>by
         rcases List.mem_append.1 hy with hy|hy
         ·obtain rfl:=List.eq_of_mem_replicate hy;exact(H.kn (i:=0) .zero).mono (fun _ h=>.inl h)
         ·obtain rfl:=List.mem_singleton.1 hy
          exact(H.kn (i:=5) i_5).mono (fun _ h=>.inr h))
        clear H;have H:=H2;clear H2;simp only[List.set_cons_succ,List.set_cons_zero]at H;have EM:(List.replicate j ((k,p,c):TV)++[((againT d k (-1),q1,m1):TV)]).map (·.1)=List.replicate j k++[againT d k (-1)]:=by rw[List.map_append,map_rep];rfl
        rw[EM]at H;have hsz:sizeTs (List.replicate j k++[againT d k (-1)])≤1000000000:=by
         have h1:=HSZ.out;have h2:=HSZ2.out;have h3:=size_again d k (-1);rw[sizeTs_append,h1];simp only[sizeTs];omega
        have hGl:∀ b,G b→w0.heap.size≤b∨F b:=fun b hb=>(hG b hb).elim .inl (fun h=>h.elim .inr (fun h=>hF1 b h))
        clear hG EM hag HSZ HSZ2;have hcat:=fun W (h1:∀ b,G b→b<W.heap.size) (h2:ForestR W G q2 c2 _)=>ref_cat q2 (j+1) c2 G (List.replicate j k++[againT d k (-1)]) W h1 h2 (by simp) hsz
        generalize catT (List.replicate j k++[againT d k (-1)])=ct at hcat E3
        clear hsz
        go_wp2_with (first|((with_reducible refine gT ?_);(refine aT H ?_;clear H;intro w H;try simp only[nr]at H))|(go_at_call 140;refine cht (hcat _ (H.knlt (i:=4) i_4) (H.kn (i:=4) i_4)) H (Still.at (i:=4) i_4) ?_;clear H;intro q3 m3 F3 w hF3 H;simp only[List.cons_append,List.nil_append]at H))
        (refine ret_ct Tryz.results143 rfl (by first|rfl|(simp only[pl];rfl)) H atd_ (by first|(with_reducible exact row_Node)|(with_reducible exact row_Set)|(with_reducible exact row_Flags)|(with_reducible exact row_Word)) (by rfl) rfl ?_)
        refine⟨?_,H.below⟩;rw[E3.out];exact⟨q3,m3,F3,rfl,H.kn (i:=7) i_7,fun b h=>⟨H.knlt (i:=7) i_7 b h,(hF3 b h).elim .inl (hGl b)⟩⟩
       ·have dn:decide (d.hi<0)=false:=by simp;omega
        obtain⟨m,hm⟩:∃ m:Nat,d.hi - d.lo=m:=⟨(d.hi - d.lo).toNat,by omega⟩
        have hm2:m≤100:=by omega
        have hw1:IntKind.i64.wrap (d.hi - d.lo)=d.hi - d.lo:=by rw[IntKind.wrap_i64];omega
        have E3:=Lib.hid (show repeatT d k=some (catT (List.replicate j k++restT d k m)) by rw[E2.out,if_neg hn,HLO.out,Int.toNat_natCast,HJN.out,← HLO.out,hm,Int.toNat_natCast])
        have hre:=fun (w:World) (h1:∀ b,F b→b<w.heap.size) (h2:ForestR w F p c k.kids)=>show Calls Tryz.prog 154 #[.agg (nodeC d (.slice p0 n0 c0)),.agg (nodeC k.d (.slice p k.kids.length c)),.int .i64 (d.hi - d.lo)] w fun e w'=>ListOut w F (restT d k m) e w'∧Below w.heap.size w w' from (by rw[hm];exact ref_rest m d p0 n0 c0 k p c F w hm2 hk h1 h2)
        have HSR:=Lib.hid (size_rest d k m);have HLR:=Lib.hid (len_rest d k m);have hmk:m * (sizeT k+2)≤100 * 2002:=Nat.mul_le_mul hm2 (by omega)
        have HMK:=Lib.hid hmk;clear hmk
        generalize restT d k m=rs at hre HSR HLR E3
        clear E2 hn hm hhi0 d2 hem hno hlo2
        go_upto_region 14 with (first|((with_reducible refine gL ?_);refine aG H ?_))
        clear dn dj
        go_upto_region 15 with (first|(at_builtin;(have HL1:=HLR.out);(have HX1:=congrArg List.length HX.out);(rw[List.length_map]at HX1);refine own_appendK rfl _ _ 85 rfl H (i:=4) evd_ evd_ i_4 (Knows.rd (H.kn (i:=5) i_5)) (nodesX_size _) Tryz.underlying85 hi0 hz0 hz1 hz2 rfl (by decide) (flatR_one' _) (by unfold maxLen;omega) (by omega) ?_;clear H HL1 HX1;intro v2 w H;try simp only[nr]at H)|((with_reducible refine gL ?_);(first|refine aG H ?_|refine aD H ?_))|(go_at_call 154;refine chk (hre _ (H.knlt (i:=0) .zero) (H.kn (i:=0) .zero)) H (Still.at (i:=0) .zero) ?_;clear H;intro q1 m1 F1 xs w HX hF1 H;simp only[List.cons_append,List.nil_append]at H))
        obtain⟨q2,c2,rfl,_,_,_⟩:=H.rowShape (i:=4) i_4;rw[← flatR_append,← List.map_append]at H
        obtain⟨G,hG,H2⟩:=H.rowForest (i:=4) (xs:=List.replicate j ((k,p,c):TV)++xs) (K:=fun b=>F b∨F1 b) i_4 (by simp) ((Still.at (i:=0) .zero).or (Still.at (i:=5) i_5)) (fun y hy=>by
         rcases List.mem_append.1 hy with hy|hy
         ·obtain rfl:=List.eq_of_mem_replicate hy;exact(H.kn (i:=0) .zero).mono (fun _ h=>.inl h)
         ·exact((H.kn (i:=5) i_5).2 y hy).mono (fun _ h=>.inr h))
        clear H;have H:=H2;clear H2;simp only[List.set_cons_succ,List.set_cons_zero]at H;have EM:(List.replicate j ((k,p,c):TV)++xs).map (·.1)=List.replicate j k++rs:=by rw[List.map_append,map_rep,HX.out]
        have hxl:j+xs.length=(List.replicate j k++rs).length:=by rw[← HX.out];simp
        rw[EM]at H;have hsz:sizeTs (List.replicate j k++rs)≤1000000000:=by
         have h1:=HSZ.out;have h2:=HSZ2.out;have h3:=HSR.out;have h4:=HMK.out;rw[sizeTs_append,h1];omega
        have hGl:∀ b,G b→w0.heap.size≤b∨F b:=fun b hb=>(hG b hb).elim .inl (fun h=>h.elim .inr (fun h=>hF1 b h))
        have hcat:=fun W (h1:∀ b,G b→b<W.heap.size) (h2:ForestR W G q2 c2 _)=>ref_cat q2 (j+xs.length) c2 G (List.replicate j k++rs) W h1 h2 hxl hsz
        clear hG EM hre HSZ HSZ2 hxl
        generalize catT (List.replicate j k++rs)=ct at hcat E3
        clear hsz
        go_wp2_with (first|((with_reducible refine gT ?_);(refine aT H ?_;clear H;intro w H;try simp only[nr]at H))|(go_at_call 140;refine cht (hcat _ (H.knlt (i:=4) i_4) (H.kn (i:=4) i_4)) H (Still.at (i:=4) i_4) ?_;clear H;intro q3 m3 F3 w hF3 H;simp only[List.cons_append,List.nil_append]at H))
        (refine ret_ct Tryz.results143 rfl (by first|rfl|(simp only[pl];rfl)) H atd_ (by first|(with_reducible exact row_Node)|(with_reducible exact row_Set)|(with_reducible exact row_Flags)|(with_reducible exact row_Word)) (by rfl) rfl ?_)
        refine⟨?_,H.below⟩;rw[E3.out];exact⟨q3,m3,F3,rfl,H.kn (i:=6) i_6,fun b h=>⟨H.knlt (i:=6) i_6 b h,(hF3 b h).elim .inl (hGl b)⟩⟩
theorem results_tmp5 {fn:Func} {p q r s t:Tmp} (h:fn.results=#[.tmp p,.tmp q,.tmp r,.tmp s,.tmp t]) (tmps:Array Value) (P:Program) (w:World) :
  (results fn tmps).run P w=.ok (.tuple #[tmps.getD p undef,tmps.getD q undef,tmps.getD r undef,tmps.getD s undef,tmps.getD t undef]) w:=by
 simp[results,h]
def hasV (k:Int):Value:=.tuple #[.bool (k == 1),.bool (k == 1 || k == 2 || k == 3 || k == 4),.bool (k == 2),.bool (k == 3),.bool (k == 4)]
theorem ref_has (k:Int) (w0:World):Calls Tryz.prog 70 #[.int .i64 k] w0 fun e w'=>e=.returned (hasV k)∧Below w0.heap.size w0 w':=by
 have H:=Hold.start w0
 cases h1:k == 1 with
 | true =>
  have E:=Lib.hid (show hasV k=.tuple #[.bool true,.bool true,.bool false,.bool false,.bool false] by rw[beq_iff_eq]at h1;subst h1;rfl)
  go_enter Tryz.func70,Tryz.ntmps70
  go_wp2_with fail
  refine bodyPost_ret (results_tmp5 rfl _ _ _) rfl ?_
  exact⟨by rw[E.out];rfl,H.below⟩
 | false =>
  cases h2:k == 2 with
  | true =>
   have E:=Lib.hid (show hasV k=.tuple #[.bool false,.bool true,.bool true,.bool false,.bool false] by rw[beq_iff_eq]at h2;subst h2;rfl)
   go_enter Tryz.func70,Tryz.ntmps70
   go_wp2_with fail
   refine bodyPost_ret (results_tmp5 rfl _ _ _) rfl ?_
   exact⟨by rw[E.out];rfl,H.below⟩
  | false =>
   cases h3:k == 3 with
   | true =>
    have E:=Lib.hid (show hasV k=.tuple #[.bool false,.bool true,.bool false,.bool true,.bool false] by rw[beq_iff_eq]at h3;subst h3;rfl)
    go_enter Tryz.func70,Tryz.ntmps70
    go_wp2_with fail
    refine bodyPost_ret (results_tmp5 rfl _ _ _) rfl ?_
    exact⟨by rw[E.out];rfl,H.below⟩
   | false =>
    cases h4:k == 4 with
    | true =>
     have E:=Lib.hid (show hasV k=.tuple #[.bool false,.bool true,.bool false,.bool false,.bool true] by rw[beq_iff_eq]at h4;subst h4;rfl)
     go_enter Tryz.func70,Tryz.ntmps70
     go_wp2_with fail
     refine bodyPost_ret (results_tmp5 rfl _ _ _) rfl ?_
     exact⟨by rw[E.out];rfl,H.below⟩
    | false =>
     have E:=Lib.hid (show hasV k=.tuple #[.bool false,.bool false,.bool false,.bool false,.bool false] by unfold hasV;rw[h1,h2,h3,h4];rfl)
     go_enter Tryz.func70,Tryz.ntmps70
     go_wp2_with fail
     refine bodyPost_ret (results_tmp5 rfl _ _ _) rfl ?_
     exact⟨by rw[E.out];rfl,H.below⟩
theorem rightI_tests (n:Nat) (x:InstD):rightI n x=!((((decide ((x.kind)<(1))) || (decide ((6)<(x.kind)))) || ((!(eqS (x.set) (emptyS))) != (x.kind == 1))) ||
  ((((((x.kind == 1 || x.kind == 2 || x.kind == 3 || x.kind == 4)&&((decide ((x.next)<(0))) || (decide (((n:Int))≤(x.next))))) || ((!(x.kind == 1 || x.kind == 2 || x.kind == 3 || x.kind == 4))&&((x.next) != (0)))) || ((x.kind == 2)&&((decide ((x.other)<(0))) || (decide (((n:Int))≤(x.other)))))) || ((!(x.kind == 2))&&((x.other) != (0)))) ||
  (((((x.kind == 3)&&((decide ((x.slot)<(0))) || (decide ((41)<(x.slot))))) || ((!(x.kind == 3))&&((x.slot) != (0)))) || ((x.kind == 4)&&((decide ((x.spot)<(8))) || (decide ((13)<(x.spot)))))) || ((!(x.kind == 4))&&((x.spot) != (0)))))):=by
 obtain⟨k,s,a,b,c,d⟩:=x;simp only;unfold rightI inN
 generalize eqS s emptyS=q
 simp only
 by_cases h1:k=1
 ·subst h1;rw[Bool.eq_iff_iff];cases q<;>simp<;>omega
 by_cases h2:k=2
 ·subst h2;rw[Bool.eq_iff_iff];cases q<;>simp<;>omega
 by_cases h3:k=3
 ·subst h3;rw[Bool.eq_iff_iff];cases q<;>simp<;>omega
 by_cases h4:k=4
 ·subst h4;rw[Bool.eq_iff_iff];cases q<;>simp<;>omega
 by_cases h5:k=5
 ·subst h5;rw[Bool.eq_iff_iff];cases q<;>simp<;>omega
 by_cases h6:k=6
 ·subst h6;rw[Bool.eq_iff_iff];cases q<;>simp<;>omega
 ·rw[Bool.eq_iff_iff];cases q<;>simp[h1,h2,h3,h4,h5,h6]<;>omega
def mostI (p:List InstD):Int:=p.foldl (fun m x=>max m x.slot) 1
def slotsI (p:List InstD):Int:=wrap64 (wrap64 (wrap64 ((mostI p).tdiv 2) * 2)+2)
theorem mostI_take {xs:List InstD} {j:Nat} {x:InstD} (h:xs[j]?=some x):mostI (xs.take (j+1))=max (mostI (xs.take j)) x.slot:=by
 rw[take_get h];simp[mostI]
theorem ref_Slots13 (p:Option Addr) (c:Nat) (xs:List InstD) (F:Nat→Prop) (w0:World) (hF:∀ b,F b→b<w0.heap.size) (h:InstsR F p c xs w0) :
  Calls Tryz.prog 39 #[.slice p xs.length c] w0 fun e w'=>e=.returned (.int .i64 (slotsI xs))∧Below w0.heap.size w0 w':=by
 have hc:=h.bound;have hp:=h.at;have H:=Hold.insts hF h;clear h;obtain⟨n,hn⟩:∃ n,xs.length=n:=⟨_,rfl⟩;rw[hn]at hc hp ⊢;have HN:=Lib.hid hn;clear hn
 go_enter Tryz.func39,Tryz.ntmps39
 go_wp2_with (first|fail)
 go_loopw [3,4] (fun vs ix wr=>∃ (j:Nat),j≤n∧vs=.int .i64 (mostI (xs.take j))∧ix=.int .i64 j∧Hold w0 wr [.kn F (InstsR F p c xs)]) (fun _ ix _=>n+1 - (intOf ix).toNat)
 case atStart=>exact⟨0,by omega,rfl,rfl,H⟩
 case round =>
  clear H;obtain⟨j,hj,rfl,rfl,H⟩:=hrel
  by_cases hlt:j<n
  ·have dj:decide ((j:Int)<(n:Int))=true:=by simp;omega
   obtain⟨x,hx⟩:∃ x,xs[j]?=some x:=⟨_,List.getElem?_eq_getElem (by rw[HN.out];exact hlt)⟩
   obtain⟨b,off,rfl⟩:=hp (by omega)
   have hcell:∀ V,InstsR F (some ⟨b,off,none⟩) c xs V→V.cell? ⟨b,off+j * 9+7,none⟩=some (.int .i64 x.slot):=fun V h=>(h.cells hx rfl 7 (by decide)).trans rfl
   have E:=Lib.hid (mostI_take hx);clear hx hp
   go_wp2_with (first|((with_reducible refine gL ?_);refine own_load1K wtd_ _ _ rfl rfl one_int (hcell _ (H.kn (i:=0) .zero)) ?_)|fail)
   go_roundw
   case rel=>exact⟨j+1,by omega,by rw[E.out,show (if mostI (List.take j xs)<x.slot then x.slot else mostI (List.take j xs))=max (mostI (List.take j xs)) x.slot by omega],by go_num,H⟩
   case measure=>simp[intOf];omega
  ·have hjn:j=n:=by omega
   subst hjn;have dj:decide ((j:Int)<(j:Int))=false:=by simp
   have E:=Lib.hid (show mostI (xs.take j)=mostI xs by rw[List.take_of_length_le (by rw[HN.out];omega)])
   clear hp
   go_wp2_with (first|fail)
   go_ret;exact⟨by unfold slotsI;rw[← E.out];rfl,H.below⟩
theorem right_no {xs:List InstD} {j:Nat} {x:InstD} (hx:xs[j]?=some x) (h:rightI xs.length x=false):rightP xs=false:=by
 have:xs.all (rightI xs.length)=false:=by
  rw[List.all_eq_false];exact⟨x,List.mem_of_getElem? hx,by rw[h];decide⟩
 unfold rightP;rw[this,Bool.and_false]
theorem all_takeI {α:Type} {f:α→Bool} {xs:List α} {j:Nat} {x:α} (hx:xs[j]?=some x) (h:(xs.take j).all f=true) (hf:f x=true):(xs.take (j+1)).all f=true:=by
 rw[take_get hx,List.all_append,h];simp[hf]
theorem ref_Right13 (p:Option Addr) (c:Nat) (xs:List InstD) (F:Nat→Prop) (w0:World) (hF:∀ b,F b→b<w0.heap.size) (h:InstsR F p c xs w0) :
  Calls Tryz.prog 38 #[.slice p xs.length c] w0 fun e w'=>e=.returned (.bool (rightP xs))∧Below w0.heap.size w0 w':=by
 have hc:=h.bound;have hp:=h.at;have H:=Hold.insts hF h;clear h;obtain⟨n,hn⟩:∃ n,xs.length=n:=⟨_,rfl⟩;rw[hn]at hc hp ⊢;have HN:=Lib.hid hn;clear hn
 by_cases h1:n<1
 ·have d1:decide ((n:Int)<1)=true:=by simp;omega
  have E:=Lib.hid (show rightP xs=false by unfold rightP;rw[decide_eq_false (by rw[HN.out];omega),Bool.false_and,Bool.false_and])
  go_enter Tryz.func38,Tryz.ntmps38
  go_wp2_with (first|fail)
  go_ret;exact⟨by rw[E.out];rfl,H.below⟩
 have d1:decide ((n:Int)<1)=false:=by simp;omega
 by_cases h2:4000<n
 ·have d2:decide ((4000:Int)<(n:Int))=true:=by simp;omega
  have E:=Lib.hid (show rightP xs=false by unfold rightP;rw[decide_eq_false (p:=xs.length≤4000) (by rw[HN.out];omega),Bool.and_false,Bool.false_and])
  go_enter Tryz.func38,Tryz.ntmps38
  go_wp2_with (first|fail)
  go_ret;exact⟨by rw[E.out];rfl,H.below⟩
 have d2:decide ((4000:Int)<(n:Int))=false:=by simp;omega
 go_enter Tryz.func38,Tryz.ntmps38
 go_wp2_with (first|fail)
 go_loopw [3] (fun ix wr=>∃ (j:Nat),j≤n∧ix=.int .i64 j∧Hid ((xs.take j).all (rightI n)=true)∧Hold w0 wr [.kn F (InstsR F p c xs)]) (fun ix _=>n+1 - (intOf ix).toNat)
 case atStart=>exact⟨0,by omega,rfl,Lib.hid rfl,H⟩
 case round =>
  clear H;obtain⟨j,hj,rfl,EA,H⟩:=hrel
  by_cases hlt:j<n
  ·have dj:decide ((j:Int)<(n:Int))=true:=by simp;omega
   obtain⟨x,hx⟩:∃ x,xs[j]?=some x:=⟨_,List.getElem?_eq_getElem (by rw[HN.out];exact hlt)⟩
   obtain⟨b,off,rfl⟩:=hp (by omega)
   have hcell:∀ V,InstsR F (some ⟨b,off,none⟩) c xs V→∀ k,k<9→V.cell? ⟨b,off+j * 9+k,none⟩=(instC x)[k]?:=fun V h=>h.cells hx rfl
   have hha:∀ w,Calls Tryz.prog 70 #[.int .i64 x.kind] w fun e w'=>e=.returned (.tuple #[.bool (x.kind == 1),.bool (x.kind == 1 || x.kind == 2 || x.kind == 3 || x.kind == 4),.bool (x.kind == 2),.bool (x.kind == 3),.bool (x.kind == 4)])∧Below w.heap.size w w':=ref_has x.kind
   have ht:=rightI_tests n x
   generalize (x.kind == 1 || x.kind == 2 || x.kind == 3 || x.kind == 4)=b2 at hha ht
   generalize (x.kind == 1)=b1 at hha ht
   generalize (x.kind == 2)=b3 at hha ht
   generalize (x.kind == 3)=b4x at hha ht
   generalize (x.kind == 4)=b5 at hha ht
   obtain⟨q8,h8⟩:∃ q,(((decide ((x.kind)<(1))) || (decide ((6)<(x.kind)))) || ((!(eqS (x.set) (emptyS))) != (b1)))=q:=⟨_,rfl⟩
   obtain⟨q10,h10⟩:∃ q,(((((b2)&&((decide ((x.next)<(0))) || (decide (((n:Int))≤(x.next))))) || ((!(b2))&&((x.next) != (0)))) || ((b3)&&((decide ((x.other)<(0))) || (decide (((n:Int))≤(x.other)))))) || ((!(b3))&&((x.other) != (0))))=q:=⟨_,rfl⟩
   obtain⟨q12,h12⟩:∃ q,(((((b4x)&&((decide ((x.slot)<(0))) || (decide ((41)<(x.slot))))) || ((!(b4x))&&((x.slot) != (0)))) || ((b5)&&((decide ((x.spot)<(8))) || (decide ((13)<(x.spot)))))) || ((!(b5))&&((x.spot) != (0))))=q:=⟨_,rfl⟩
   rw[h8,h10,h12]at ht;have EN:(q8 || (q10 || q12))=true→Hid (rightP xs=false):=fun h=>Lib.hid (right_no hx (by rw[HN.out,ht,h];rfl))
   have EY:(q8 || (q10 || q12))=false→Hid ((xs.take (j+1)).all (rightI n)=true):=fun h=>Lib.hid (all_takeI hx EA.out (by rw[ht,h];rfl))
   clear hx hp ht EA;have h8:=Lib.hid h8;have h10:=Lib.hid h10;have h12:=Lib.hid h12
   go_upto_region 8 with (first|((with_reducible refine gL ?_);refine own_loadK wtd_ _ _ rfl rfl row_Inst rfl (hcell _ (H.kn (i:=0) .zero)) ?_)|((first|((with_reducible refine kgA 4 ?_);refine kA 4 H ?_)|((with_reducible refine kgX 4 ?_);(first|refine kS 4 H ?_|refine kB 4 H ?_)));clear H;intro b4 w H;try simp only[nr]at H)|(first|((with_reducible refine gTi ?_);refine aTi H ?_;clear H;intro w H;try simp only[nr]at H)|((with_reducible refine gL ?_);refine aGi H ?_))|(go_at_call 70;(with_reducible refine ch (hha _) H ?_);clear H;intro w H))
   refine wp_region_seq 16 [fun v _=>v=Value.pointer (some ⟨b4,0,none⟩),fun v _=>v=Value.int .i64 (x.kind),fun v _=>v=Value.bool (decide ((x.kind)<(1))),fun v _=>v=Value.bool (decide ((x.kind)<(1))),fun v _=>v=(bif (true)&&((decide ((x.kind)<(1))) == false) then Value.pointer (some ⟨b4,0,none⟩) else undef),fun v _=>v=(bif (true)&&((decide ((x.kind)<(1))) == false) then Value.int .i64 (x.kind) else undef),fun v _=>v=(bif (true)&&((decide ((x.kind)<(1))) == false) then Value.bool (decide ((6)<(x.kind))) else undef),fun v _=>v=Value.bool ((decide ((x.kind)<(1))) || (decide ((6)<(x.kind)))),fun v _=>v=Value.bool ((decide ((x.kind)<(1))) || (decide ((6)<(x.kind)))),fun v _=>v=(bif (true)&&(((decide ((x.kind)<(1))) || (decide ((6)<(x.kind)))) == false) then Value.pointer (some ⟨b4,1,none⟩) else undef),fun v _=>v=(bif (true)&&(((decide ((x.kind)<(1))) || (decide ((6)<(x.kind)))) == false) then setV (x.set) else undef),fun v _=>v=(bif (true)&&(((decide ((x.kind)<(1))) || (decide ((6)<(x.kind)))) == false) then setV (emptyS) else undef),fun v _=>v=(bif (true)&&(((decide ((x.kind)<(1))) || (decide ((6)<(x.kind)))) == false) then Value.bool (!(eqS (x.set) (emptyS))) else undef),fun v _=>v=(bif (true)&&(((decide ((x.kind)<(1))) || (decide ((6)<(x.kind)))) == false) then Value.bool (b1) else undef),fun v _=>v=(bif (true)&&(((decide ((x.kind)<(1))) || (decide ((6)<(x.kind)))) == false) then Value.bool ((!(eqS (x.set) (emptyS))) != (b1)) else undef),fun v _=>v=Value.bool (((decide ((x.kind)<(1))) || (decide ((6)<(x.kind)))) || ((!(eqS (x.set) (emptyS))) != (b1)))] (fun _=>false) (by kernel_rfl) (by kernel_rfl) (by repeat (first|exact trivial|refine⟨stable_eq _,?_⟩)) (fun _ _ h=>by cases h) ?ob ?en
   case ob =>
    refine⟨?_,?_,?_,?_,?_,?_,?_,?_,?_,?_,?_,?_,?_,?_,?_,?_,trivial⟩<;>intro A W h
    ·exact rs_pure rfl ((by have e:A.eval (.tmp 4)=Value.pointer (some ⟨b4,0,none⟩):=h.frame 4 rfl;simp only[execOp,e];simp[go_sem]))
    ·exact rs_pure rfl (run_load1K rfl (h.dep 0 37 rfl rfl) (by decide +kernel) ((H.call h.below).cell (i:=1) i_1 0))
    ·exact rs_pure rfl ((by have e38:A.eval (.tmp 38)=Value.int .i64 (x.kind):=h.dep 1 38 rfl rfl;simp only[execOp,e38];simp[go_sem]))
    ·exact rs_pure rfl (run_cp (.inl rfl) (h.dep 2 39 rfl rfl))
    ·refine sy_ (h.dep 3 40 rfl rfl) fun hC=>?_;exact(by have e:A.eval (.tmp 4)=Value.pointer (some ⟨b4,0,none⟩):=h.frame 4 rfl;simp only[execOp,e];simp[go_sem])
    ·refine sy_ (h.dep 3 40 rfl rfl) fun hC=>?_;exact run_load1K rfl (bif_at (h.dep 4 41 rfl rfl) hC) (by decide +kernel) ((H.call h.below).cell (i:=1) i_1 0)
    ·refine sy_ (h.dep 3 40 rfl rfl) fun hC=>?_;exact(by have e42:A.eval (.tmp 42)=Value.int .i64 (x.kind):=bif_at (h.dep 5 42 rfl rfl) hC;simp only[execOp,e42];simp[go_sem])
    ·exact rs_pure rfl (run_or rfl (h.dep 3 40 rfl rfl) (fun hb2=>bif_at (h.dep 6 43 rfl rfl) (by (first|(rw[hb2];rfl)|simp[hb2]))))
    ·exact rs_pure rfl (run_cp (.inl rfl) (h.dep 7 44 rfl rfl))
    ·refine sy_ (h.dep 8 45 rfl rfl) fun hC=>?_;exact(by have e:A.eval (.tmp 4)=Value.pointer (some ⟨b4,0,none⟩):=h.frame 4 rfl;simp only[execOp,e];simp[go_sem])
    ·refine sy_ (h.dep 8 45 rfl rfl) fun hC=>?_;exact run_loadK rfl (bif_at (h.dep 9 46 rfl rfl) hC) row_Set rfl (fun j hj=>by have h1:=(H.call h.below).cell (i:=1) i_1 (1+j);rcases j with _|_|_|_|j<;>first|exact h1|omega)
    ·refine sy_ (h.dep 8 45 rfl rfl) fun hC=>?_;exact run_setE rfl
    ·refine sy_ (h.dep 8 45 rfl rfl) fun hC=>?_;exact(run_sne rfl (bif_at (h.dep 10 47 rfl rfl) hC) (bif_at (h.dep 11 48 rfl rfl) hC))
    ·refine sy_ (h.dep 8 45 rfl rfl) fun hC=>?_;exact run_cp (.inl rfl) (h.frame 5 rfl)
    ·refine sy_ (h.dep 8 45 rfl rfl) fun hC=>?_;exact(by have e49:A.eval (.tmp 49)=Value.bool (!(eqS (x.set) (emptyS))):=bif_at (h.dep 12 49 rfl rfl) hC;have e50:A.eval (.tmp 50)=Value.bool (b1):=bif_at (h.dep 13 50 rfl rfl) hC;simp only[execOp,e49,e50];generalize (!(eqS (x.set) (emptyS)))=bp;generalize (b1)=bq;cases bp<;>cases bq<;>simp[go_sem])
    ·exact rs_pure rfl (run_or rfl (h.dep 8 45 rfl rfl) (fun hb2=>bif_at (h.dep 14 51 rfl rfl) (by (first|(rw[hb2];rfl)|simp[hb2]))))
   case en =>
    intro vals W hbw hv _;have v15:vals 15=_:=hv 15 (by omega)
    simp only[fa,Nat.reduceAdd];rw[v15];clear hv v15
    try simp only[pl]
    have H:=H.call hbw;rw[h8.out]
    cases q8 with
    | true =>
     have E:=EN rfl
     go_wp2_with (first|fail)
     go_ret;exact⟨by rw[E.out];rfl,H.below⟩
    | false =>
     go_upto_region 10 with (first|fail)
     refine wp_region_seq 46 [fun v _=>v=Value.bool (b2),fun v _=>v=Value.bool (b2),fun v _=>v=(bif (true)&&((b2) == true) then Value.pointer (some ⟨b4,5,none⟩) else undef),fun v _=>v=(bif (true)&&((b2) == true) then Value.int .i64 (x.next) else undef),fun v _=>v=(bif (true)&&((b2) == true) then Value.bool (decide ((x.next)<(0))) else undef),fun v _=>v=(bif (true)&&((b2) == true) then Value.bool (decide ((x.next)<(0))) else undef),fun v _=>v=(bif ((true)&&((b2) == true))&&((decide ((x.next)<(0))) == false) then Value.pointer (some ⟨b4,5,none⟩) else undef),fun v _=>v=(bif ((true)&&((b2) == true))&&((decide ((x.next)<(0))) == false) then Value.int .i64 (x.next) else undef),fun v _=>v=(bif ((true)&&((b2) == true))&&((decide ((x.next)<(0))) == false) then .slice (some ⟨b,off,none⟩) n c else undef),fun v _=>v=(bif ((true)&&((b2) == true))&&((decide ((x.next)<(0))) == false) then Value.int .i64 ((n:Int)) else undef),fun v _=>v=(bif ((true)&&((b2) == true))&&((decide ((x.next)<(0))) == false) then Value.bool (decide (((n:Int))≤(x.next))) else undef),fun v _=>v=(bif (true)&&((b2) == true) then Value.bool ((decide ((x.next)<(0))) || (decide (((n:Int))≤(x.next)))) else undef),fun v _=>v=Value.bool ((b2)&&((decide ((x.next)<(0))) || (decide (((n:Int))≤(x.next))))),fun v _=>v=Value.bool ((b2)&&((decide ((x.next)<(0))) || (decide (((n:Int))≤(x.next))))),fun v _=>v=(bif (true)&&(((b2)&&((decide ((x.next)<(0))) || (decide (((n:Int))≤(x.next))))) == false) then Value.bool (b2) else undef),fun v _=>v=(bif (true)&&(((b2)&&((decide ((x.next)<(0))) || (decide (((n:Int))≤(x.next))))) == false) then Value.bool (!(b2)) else undef),fun v _=>v=(bif (true)&&(((b2)&&((decide ((x.next)<(0))) || (decide (((n:Int))≤(x.next))))) == false) then Value.bool (!(b2)) else undef),fun v _=>v=(bif ((true)&&(((b2)&&((decide ((x.next)<(0))) || (decide (((n:Int))≤(x.next))))) == false))&&((!(b2)) == true) then Value.pointer (some ⟨b4,5,none⟩) else undef),fun v _=>v=(bif ((true)&&(((b2)&&((decide ((x.next)<(0))) || (decide (((n:Int))≤(x.next))))) == false))&&((!(b2)) == true) then Value.int .i64 (x.next) else undef),fun v _=>v=(bif ((true)&&(((b2)&&((decide ((x.next)<(0))) || (decide (((n:Int))≤(x.next))))) == false))&&((!(b2)) == true) then Value.bool ((x.next) != (0)) else undef),fun v _=>v=(bif (true)&&(((b2)&&((decide ((x.next)<(0))) || (decide (((n:Int))≤(x.next))))) == false) then Value.bool ((!(b2))&&((x.next) != (0))) else undef),fun v _=>v=Value.bool (((b2)&&((decide ((x.next)<(0))) || (decide (((n:Int))≤(x.next))))) || ((!(b2))&&((x.next) != (0)))),fun v _=>v=Value.bool (((b2)&&((decide ((x.next)<(0))) || (decide (((n:Int))≤(x.next))))) || ((!(b2))&&((x.next) != (0)))),fun v _=>v=(bif (true)&&((((b2)&&((decide ((x.next)<(0))) || (decide (((n:Int))≤(x.next))))) || ((!(b2))&&((x.next) != (0)))) == false) then Value.bool (b3) else undef),fun v _=>v=(bif (true)&&((((b2)&&((decide ((x.next)<(0))) || (decide (((n:Int))≤(x.next))))) || ((!(b2))&&((x.next) != (0)))) == false) then Value.bool (b3) else undef),fun v _=>v=(bif ((true)&&((((b2)&&((decide ((x.next)<(0))) || (decide (((n:Int))≤(x.next))))) || ((!(b2))&&((x.next) != (0)))) == false))&&((b3) == true) then Value.pointer (some ⟨b4,6,none⟩) else undef),fun v _=>v=(bif ((true)&&((((b2)&&((decide ((x.next)<(0))) || (decide (((n:Int))≤(x.next))))) || ((!(b2))&&((x.next) != (0)))) == false))&&((b3) == true) then Value.int .i64 (x.other) else undef),fun v _=>v=(bif ((true)&&((((b2)&&((decide ((x.next)<(0))) || (decide (((n:Int))≤(x.next))))) || ((!(b2))&&((x.next) != (0)))) == false))&&((b3) == true) then Value.bool (decide ((x.other)<(0))) else undef),fun v _=>v=(bif ((true)&&((((b2)&&((decide ((x.next)<(0))) || (decide (((n:Int))≤(x.next))))) || ((!(b2))&&((x.next) != (0)))) == false))&&((b3) == true) then Value.bool (decide ((x.other)<(0))) else undef),fun v _=>v=(bif (((true)&&((((b2)&&((decide ((x.next)<(0))) || (decide (((n:Int))≤(x.next))))) || ((!(b2))&&((x.next) != (0)))) == false))&&((b3) == true))&&((decide ((x.other)<(0))) == false) then Value.pointer (some ⟨b4,6,none⟩) else undef),fun v _=>v=(bif (((true)&&((((b2)&&((decide ((x.next)<(0))) || (decide (((n:Int))≤(x.next))))) || ((!(b2))&&((x.next) != (0)))) == false))&&((b3) == true))&&((decide ((x.other)<(0))) == false) then Value.int .i64 (x.other) else undef),fun v _=>v=(bif (((true)&&((((b2)&&((decide ((x.next)<(0))) || (decide (((n:Int))≤(x.next))))) || ((!(b2))&&((x.next) != (0)))) == false))&&((b3) == true))&&((decide ((x.other)<(0))) == false) then .slice (some ⟨b,off,none⟩) n c else undef),fun v _=>v=(bif (((true)&&((((b2)&&((decide ((x.next)<(0))) || (decide (((n:Int))≤(x.next))))) || ((!(b2))&&((x.next) != (0)))) == false))&&((b3) == true))&&((decide ((x.other)<(0))) == false) then Value.int .i64 ((n:Int)) else undef),fun v _=>v=(bif (((true)&&((((b2)&&((decide ((x.next)<(0))) || (decide (((n:Int))≤(x.next))))) || ((!(b2))&&((x.next) != (0)))) == false))&&((b3) == true))&&((decide ((x.other)<(0))) == false) then Value.bool (decide (((n:Int))≤(x.other))) else undef),fun v _=>v=(bif ((true)&&((((b2)&&((decide ((x.next)<(0))) || (decide (((n:Int))≤(x.next))))) || ((!(b2))&&((x.next) != (0)))) == false))&&((b3) == true) then Value.bool ((decide ((x.other)<(0))) || (decide (((n:Int))≤(x.other)))) else undef),fun v _=>v=(bif (true)&&((((b2)&&((decide ((x.next)<(0))) || (decide (((n:Int))≤(x.next))))) || ((!(b2))&&((x.next) != (0)))) == false) then Value.bool ((b3)&&((decide ((x.other)<(0))) || (decide (((n:Int))≤(x.other))))) else undef),fun v _=>v=Value.bool ((((b2)&&((decide ((x.next)<(0))) || (decide (((n:Int))≤(x.next))))) || ((!(b2))&&((x.next) != (0)))) || ((b3)&&((decide ((x.other)<(0))) || (decide (((n:Int))≤(x.other)))))),fun v _=>v=Value.bool ((((b2)&&((decide ((x.next)<(0))) || (decide (((n:Int))≤(x.next))))) || ((!(b2))&&((x.next) != (0)))) || ((b3)&&((decide ((x.other)<(0))) || (decide (((n:Int))≤(x.other)))))),fun v _=>v=(bif (true)&&(((((b2)&&((decide ((x.next)<(0))) || (decide (((n:Int))≤(x.next))))) || ((!(b2))&&((x.next) != (0)))) || ((b3)&&((decide ((x.other)<(0))) || (decide (((n:Int))≤(x.other)))))) == false) then Value.bool (b3) else undef),fun v _=>v=(bif (true)&&(((((b2)&&((decide ((x.next)<(0))) || (decide (((n:Int))≤(x.next))))) || ((!(b2))&&((x.next) != (0)))) || ((b3)&&((decide ((x.other)<(0))) || (decide (((n:Int))≤(x.other)))))) == false) then Value.bool (!(b3)) else undef),fun v _=>v=(bif (true)&&(((((b2)&&((decide ((x.next)<(0))) || (decide (((n:Int))≤(x.next))))) || ((!(b2))&&((x.next) != (0)))) || ((b3)&&((decide ((x.other)<(0))) || (decide (((n:Int))≤(x.other)))))) == false) then Value.bool (!(b3)) else undef),fun v _=>v=(bif ((true)&&(((((b2)&&((decide ((x.next)<(0))) || (decide (((n:Int))≤(x.next))))) || ((!(b2))&&((x.next) != (0)))) || ((b3)&&((decide ((x.other)<(0))) || (decide (((n:Int))≤(x.other)))))) == false))&&((!(b3)) == true) then Value.pointer (some ⟨b4,6,none⟩) else undef),fun v _=>v=(bif ((true)&&(((((b2)&&((decide ((x.next)<(0))) || (decide (((n:Int))≤(x.next))))) || ((!(b2))&&((x.next) != (0)))) || ((b3)&&((decide ((x.other)<(0))) || (decide (((n:Int))≤(x.other)))))) == false))&&((!(b3)) == true) then Value.int .i64 (x.other) else undef),fun v _=>v=(bif ((true)&&(((((b2)&&((decide ((x.next)<(0))) || (decide (((n:Int))≤(x.next))))) || ((!(b2))&&((x.next) != (0)))) || ((b3)&&((decide ((x.other)<(0))) || (decide (((n:Int))≤(x.other)))))) == false))&&((!(b3)) == true) then Value.bool ((x.other) != (0)) else undef),fun v _=>v=(bif (true)&&(((((b2)&&((decide ((x.next)<(0))) || (decide (((n:Int))≤(x.next))))) || ((!(b2))&&((x.next) != (0)))) || ((b3)&&((decide ((x.other)<(0))) || (decide (((n:Int))≤(x.other)))))) == false) then Value.bool ((!(b3))&&((x.other) != (0))) else undef),fun v _=>v=Value.bool (((((b2)&&((decide ((x.next)<(0))) || (decide (((n:Int))≤(x.next))))) || ((!(b2))&&((x.next) != (0)))) || ((b3)&&((decide ((x.other)<(0))) || (decide (((n:Int))≤(x.other)))))) || ((!(b3))&&((x.other) != (0))))] (fun _=>false) (by kernel_rfl) (by kernel_rfl) (by repeat (first|exact trivial|refine⟨stable_eq _,?_⟩)) (fun _ _ h=>by cases h) ?ob ?en
     case ob =>
      refine⟨?_,?_,?_,?_,?_,?_,?_,?_,?_,?_,?_,?_,?_,?_,?_,?_,?_,?_,?_,?_,?_,?_,?_,?_,?_,?_,?_,?_,?_,?_,?_,?_,?_,?_,?_,?_,?_,?_,?_,?_,?_,?_,?_,?_,?_,?_,trivial⟩<;>intro A W h
      ·exact rs_pure rfl (run_cp (.inl rfl) (h.frame 6 rfl))
      ·exact rs_pure rfl (run_cp (.inl rfl) (h.dep 0 53 rfl rfl))
      ·refine sy_ (h.dep 1 54 rfl rfl) fun hC=>?_;exact(by have e:A.eval (.tmp 4)=Value.pointer (some ⟨b4,0,none⟩):=h.frame 4 rfl;simp only[execOp,e];simp[go_sem])
      ·refine sy_ (h.dep 1 54 rfl rfl) fun hC=>?_;exact run_load1K rfl (bif_at (h.dep 2 55 rfl rfl) hC) one_int ((H.call h.below).cell (i:=1) i_1 5)
      ·refine sy_ (h.dep 1 54 rfl rfl) fun hC=>?_;exact(by have e56:A.eval (.tmp 56)=Value.int .i64 (x.next):=bif_at (h.dep 3 56 rfl rfl) hC;simp only[execOp,e56];simp[go_sem])
      ·refine sy_ (h.dep 1 54 rfl rfl) fun hC=>?_;exact run_cp (.inl rfl) (bif_at (h.dep 4 57 rfl rfl) hC)
      ·refine sy_ (h.dep 5 58 rfl rfl) fun hC=>?_;exact(by have e:A.eval (.tmp 4)=Value.pointer (some ⟨b4,0,none⟩):=h.frame 4 rfl;simp only[execOp,e];simp[go_sem])
      ·refine sy_ (h.dep 5 58 rfl rfl) fun hC=>?_;exact run_load1K rfl (bif_at (h.dep 6 59 rfl rfl) hC) one_int ((H.call h.below).cell (i:=1) i_1 5)
      ·refine sy_ (h.dep 5 58 rfl rfl) fun hC=>?_;exact run_cp (.inl rfl) (h.frame 0 rfl)
      ·refine sy_ (h.dep 5 58 rfl rfl) fun hC=>?_;exact(run_lenS Tryz.underlying22 rfl (bif_at (h.dep 8 61 rfl rfl) hC))
      ·refine sy_ (h.dep 5 58 rfl rfl) fun hC=>?_;exact(by have e60:A.eval (.tmp 60)=Value.int .i64 (x.next):=bif_at (h.dep 7 60 rfl rfl) hC;have e62:A.eval (.tmp 62)=Value.int .i64 ((n:Int)):=bif_at (h.dep 9 62 rfl rfl) hC;simp only[execOp,e60,e62];simp[go_sem])
      ·refine sy_ (h.dep 1 54 rfl rfl) fun hC=>?_;exact run_or rfl (bif_at (h.dep 5 58 rfl rfl) hC) (fun hb2=>bif_at (h.dep 10 63 rfl rfl) (by (first|(rw[hC,hb2];rfl)|(rw[hb2];rfl)|simp[hb2,hC])))
      ·exact rs_pure rfl (run_and rfl (h.dep 1 54 rfl rfl) (fun hb2=>bif_at (h.dep 11 64 rfl rfl) (by (first|(rw[hb2];rfl)|simp[hb2]))))
      ·exact rs_pure rfl (run_cp (.inl rfl) (h.dep 12 65 rfl rfl))
      ·refine sy_ (h.dep 13 66 rfl rfl) fun hC=>?_;exact run_cp (.inl rfl) (h.frame 6 rfl)
      ·refine sy_ (h.dep 13 66 rfl rfl) fun hC=>?_;exact(by have e:A.eval (.tmp 67)=Value.bool (b2):=bif_at (h.dep 14 67 rfl rfl) hC;simp only[execOp,e];simp[go_sem])
      ·refine sy_ (h.dep 13 66 rfl rfl) fun hC=>?_;exact run_cp (.inl rfl) (bif_at (h.dep 15 68 rfl rfl) hC)
      ·refine sy_ (h.dep 16 69 rfl rfl) fun hC=>?_;exact(by have e:A.eval (.tmp 4)=Value.pointer (some ⟨b4,0,none⟩):=h.frame 4 rfl;simp only[execOp,e];simp[go_sem])
      ·refine sy_ (h.dep 16 69 rfl rfl) fun hC=>?_;exact run_load1K rfl (bif_at (h.dep 17 70 rfl rfl) hC) one_int ((H.call h.below).cell (i:=1) i_1 5)
      ·refine sy_ (h.dep 16 69 rfl rfl) fun hC=>?_;exact(by have e71:A.eval (.tmp 71)=Value.int .i64 (x.next):=bif_at (h.dep 18 71 rfl rfl) hC;simp only[execOp,e71];simp[go_sem])
      ·refine sy_ (h.dep 13 66 rfl rfl) fun hC=>?_;exact run_and rfl (bif_at (h.dep 16 69 rfl rfl) hC) (fun hb2=>bif_at (h.dep 19 72 rfl rfl) (by (first|(rw[hC,hb2];rfl)|(rw[hb2];rfl)|simp[hb2,hC])))
      ·exact rs_pure rfl (run_or rfl (h.dep 13 66 rfl rfl) (fun hb2=>bif_at (h.dep 20 73 rfl rfl) (by (first|(rw[hb2];rfl)|simp[hb2]))))
      ·exact rs_pure rfl (run_cp (.inl rfl) (h.dep 21 74 rfl rfl))
      ·refine sy_ (h.dep 22 75 rfl rfl) fun hC=>?_;exact run_cp (.inl rfl) (h.frame 7 rfl)
      ·refine sy_ (h.dep 22 75 rfl rfl) fun hC=>?_;exact run_cp (.inl rfl) (bif_at (h.dep 23 76 rfl rfl) hC)
      ·refine sy_ (h.dep 24 77 rfl rfl) fun hC=>?_;exact(by have e:A.eval (.tmp 4)=Value.pointer (some ⟨b4,0,none⟩):=h.frame 4 rfl;simp only[execOp,e];simp[go_sem])
      ·refine sy_ (h.dep 24 77 rfl rfl) fun hC=>?_;exact run_load1K rfl (bif_at (h.dep 25 78 rfl rfl) hC) one_int ((H.call h.below).cell (i:=1) i_1 6)
      ·refine sy_ (h.dep 24 77 rfl rfl) fun hC=>?_;exact(by have e79:A.eval (.tmp 79)=Value.int .i64 (x.other):=bif_at (h.dep 26 79 rfl rfl) hC;simp only[execOp,e79];simp[go_sem])
      ·refine sy_ (h.dep 24 77 rfl rfl) fun hC=>?_;exact run_cp (.inl rfl) (bif_at (h.dep 27 80 rfl rfl) hC)
      ·refine sy_ (h.dep 28 81 rfl rfl) fun hC=>?_;exact(by have e:A.eval (.tmp 4)=Value.pointer (some ⟨b4,0,none⟩):=h.frame 4 rfl;simp only[execOp,e];simp[go_sem])
      ·refine sy_ (h.dep 28 81 rfl rfl) fun hC=>?_;exact run_load1K rfl (bif_at (h.dep 29 82 rfl rfl) hC) one_int ((H.call h.below).cell (i:=1) i_1 6)
      ·refine sy_ (h.dep 28 81 rfl rfl) fun hC=>?_;exact run_cp (.inl rfl) (h.frame 0 rfl)
      ·refine sy_ (h.dep 28 81 rfl rfl) fun hC=>?_;exact(run_lenS Tryz.underlying22 rfl (bif_at (h.dep 31 84 rfl rfl) hC))
      ·refine sy_ (h.dep 28 81 rfl rfl) fun hC=>?_;exact(by have e83:A.eval (.tmp 83)=Value.int .i64 (x.other):=bif_at (h.dep 30 83 rfl rfl) hC;have e85:A.eval (.tmp 85)=Value.int .i64 ((n:Int)):=bif_at (h.dep 32 85 rfl rfl) hC;simp only[execOp,e83,e85];simp[go_sem])
      ·refine sy_ (h.dep 24 77 rfl rfl) fun hC=>?_;exact run_or rfl (bif_at (h.dep 28 81 rfl rfl) hC) (fun hb2=>bif_at (h.dep 33 86 rfl rfl) (by (first|(rw[hC,hb2];rfl)|(rw[hb2];rfl)|simp[hb2,hC])))
      ·refine sy_ (h.dep 22 75 rfl rfl) fun hC=>?_;exact run_and rfl (bif_at (h.dep 24 77 rfl rfl) hC) (fun hb2=>bif_at (h.dep 34 87 rfl rfl) (by (first|(rw[hC,hb2];rfl)|(rw[hb2];rfl)|simp[hb2,hC])))
      ·exact rs_pure rfl (run_or rfl (h.dep 22 75 rfl rfl) (fun hb2=>bif_at (h.dep 35 88 rfl rfl) (by (first|(rw[hb2];rfl)|simp[hb2]))))
      ·exact rs_pure rfl (run_cp (.inl rfl) (h.dep 36 89 rfl rfl))
      ·refine sy_ (h.dep 37 90 rfl rfl) fun hC=>?_;exact run_cp (.inl rfl) (h.frame 7 rfl)
      ·refine sy_ (h.dep 37 90 rfl rfl) fun hC=>?_;exact(by have e:A.eval (.tmp 91)=Value.bool (b3):=bif_at (h.dep 38 91 rfl rfl) hC;simp only[execOp,e];simp[go_sem])
      ·refine sy_ (h.dep 37 90 rfl rfl) fun hC=>?_;exact run_cp (.inl rfl) (bif_at (h.dep 39 92 rfl rfl) hC)
      ·refine sy_ (h.dep 40 93 rfl rfl) fun hC=>?_;exact(by have e:A.eval (.tmp 4)=Value.pointer (some ⟨b4,0,none⟩):=h.frame 4 rfl;simp only[execOp,e];simp[go_sem])
      ·refine sy_ (h.dep 40 93 rfl rfl) fun hC=>?_;exact run_load1K rfl (bif_at (h.dep 41 94 rfl rfl) hC) one_int ((H.call h.below).cell (i:=1) i_1 6)
      ·refine sy_ (h.dep 40 93 rfl rfl) fun hC=>?_;exact(by have e95:A.eval (.tmp 95)=Value.int .i64 (x.other):=bif_at (h.dep 42 95 rfl rfl) hC;simp only[execOp,e95];simp[go_sem])
      ·refine sy_ (h.dep 37 90 rfl rfl) fun hC=>?_;exact run_and rfl (bif_at (h.dep 40 93 rfl rfl) hC) (fun hb2=>bif_at (h.dep 43 96 rfl rfl) (by (first|(rw[hC,hb2];rfl)|(rw[hb2];rfl)|simp[hb2,hC])))
      ·exact rs_pure rfl (run_or rfl (h.dep 37 90 rfl rfl) (fun hb2=>bif_at (h.dep 44 97 rfl rfl) (by (first|(rw[hb2];rfl)|simp[hb2]))))
     case en =>
      intro vals W hbw hv _;have v45:vals 45=_:=hv 45 (by omega)
      simp only[fa,Nat.reduceAdd];rw[v45];clear hv v45
      try simp only[pl]
      have H:=H.call hbw;rw[h10.out]
      cases q10 with
      | true =>
       have E:=EN rfl
       go_wp2_with (first|fail)
       go_ret;exact⟨by rw[E.out];rfl,H.below⟩
      | false =>
       go_upto_region 12 with (first|fail)
       refine wp_region_seq 42 [fun v _=>v=Value.bool (b4x),fun v _=>v=Value.bool (b4x),fun v _=>v=(bif (true)&&((b4x) == true) then Value.pointer (some ⟨b4,7,none⟩) else undef),fun v _=>v=(bif (true)&&((b4x) == true) then Value.int .i64 (x.slot) else undef),fun v _=>v=(bif (true)&&((b4x) == true) then Value.bool (decide ((x.slot)<(0))) else undef),fun v _=>v=(bif (true)&&((b4x) == true) then Value.bool (decide ((x.slot)<(0))) else undef),fun v _=>v=(bif ((true)&&((b4x) == true))&&((decide ((x.slot)<(0))) == false) then Value.pointer (some ⟨b4,7,none⟩) else undef),fun v _=>v=(bif ((true)&&((b4x) == true))&&((decide ((x.slot)<(0))) == false) then Value.int .i64 (x.slot) else undef),fun v _=>v=(bif ((true)&&((b4x) == true))&&((decide ((x.slot)<(0))) == false) then Value.bool (decide ((41)<(x.slot))) else undef),fun v _=>v=(bif (true)&&((b4x) == true) then Value.bool ((decide ((x.slot)<(0))) || (decide ((41)<(x.slot)))) else undef),fun v _=>v=Value.bool ((b4x)&&((decide ((x.slot)<(0))) || (decide ((41)<(x.slot))))),fun v _=>v=Value.bool ((b4x)&&((decide ((x.slot)<(0))) || (decide ((41)<(x.slot))))),fun v _=>v=(bif (true)&&(((b4x)&&((decide ((x.slot)<(0))) || (decide ((41)<(x.slot))))) == false) then Value.bool (b4x) else undef),fun v _=>v=(bif (true)&&(((b4x)&&((decide ((x.slot)<(0))) || (decide ((41)<(x.slot))))) == false) then Value.bool (!(b4x)) else undef),fun v _=>v=(bif (true)&&(((b4x)&&((decide ((x.slot)<(0))) || (decide ((41)<(x.slot))))) == false) then Value.bool (!(b4x)) else undef),fun v _=>v=(bif ((true)&&(((b4x)&&((decide ((x.slot)<(0))) || (decide ((41)<(x.slot))))) == false))&&((!(b4x)) == true) then Value.pointer (some ⟨b4,7,none⟩) else undef),fun v _=>v=(bif ((true)&&(((b4x)&&((decide ((x.slot)<(0))) || (decide ((41)<(x.slot))))) == false))&&((!(b4x)) == true) then Value.int .i64 (x.slot) else undef),fun v _=>v=(bif ((true)&&(((b4x)&&((decide ((x.slot)<(0))) || (decide ((41)<(x.slot))))) == false))&&((!(b4x)) == true) then Value.bool ((x.slot) != (0)) else undef),fun v _=>v=(bif (true)&&(((b4x)&&((decide ((x.slot)<(0))) || (decide ((41)<(x.slot))))) == false) then Value.bool ((!(b4x))&&((x.slot) != (0))) else undef),fun v _=>v=Value.bool (((b4x)&&((decide ((x.slot)<(0))) || (decide ((41)<(x.slot))))) || ((!(b4x))&&((x.slot) != (0)))),fun v _=>v=Value.bool (((b4x)&&((decide ((x.slot)<(0))) || (decide ((41)<(x.slot))))) || ((!(b4x))&&((x.slot) != (0)))),fun v _=>v=(bif (true)&&((((b4x)&&((decide ((x.slot)<(0))) || (decide ((41)<(x.slot))))) || ((!(b4x))&&((x.slot) != (0)))) == false) then Value.bool (b5) else undef),fun v _=>v=(bif (true)&&((((b4x)&&((decide ((x.slot)<(0))) || (decide ((41)<(x.slot))))) || ((!(b4x))&&((x.slot) != (0)))) == false) then Value.bool (b5) else undef),fun v _=>v=(bif ((true)&&((((b4x)&&((decide ((x.slot)<(0))) || (decide ((41)<(x.slot))))) || ((!(b4x))&&((x.slot) != (0)))) == false))&&((b5) == true) then Value.pointer (some ⟨b4,8,none⟩) else undef),fun v _=>v=(bif ((true)&&((((b4x)&&((decide ((x.slot)<(0))) || (decide ((41)<(x.slot))))) || ((!(b4x))&&((x.slot) != (0)))) == false))&&((b5) == true) then Value.int .i64 (x.spot) else undef),fun v _=>v=(bif ((true)&&((((b4x)&&((decide ((x.slot)<(0))) || (decide ((41)<(x.slot))))) || ((!(b4x))&&((x.slot) != (0)))) == false))&&((b5) == true) then Value.bool (decide ((x.spot)<(8))) else undef),fun v _=>v=(bif ((true)&&((((b4x)&&((decide ((x.slot)<(0))) || (decide ((41)<(x.slot))))) || ((!(b4x))&&((x.slot) != (0)))) == false))&&((b5) == true) then Value.bool (decide ((x.spot)<(8))) else undef),fun v _=>v=(bif (((true)&&((((b4x)&&((decide ((x.slot)<(0))) || (decide ((41)<(x.slot))))) || ((!(b4x))&&((x.slot) != (0)))) == false))&&((b5) == true))&&((decide ((x.spot)<(8))) == false) then Value.pointer (some ⟨b4,8,none⟩) else undef),fun v _=>v=(bif (((true)&&((((b4x)&&((decide ((x.slot)<(0))) || (decide ((41)<(x.slot))))) || ((!(b4x))&&((x.slot) != (0)))) == false))&&((b5) == true))&&((decide ((x.spot)<(8))) == false) then Value.int .i64 (x.spot) else undef),fun v _=>v=(bif (((true)&&((((b4x)&&((decide ((x.slot)<(0))) || (decide ((41)<(x.slot))))) || ((!(b4x))&&((x.slot) != (0)))) == false))&&((b5) == true))&&((decide ((x.spot)<(8))) == false) then Value.bool (decide ((13)<(x.spot))) else undef),fun v _=>v=(bif ((true)&&((((b4x)&&((decide ((x.slot)<(0))) || (decide ((41)<(x.slot))))) || ((!(b4x))&&((x.slot) != (0)))) == false))&&((b5) == true) then Value.bool ((decide ((x.spot)<(8))) || (decide ((13)<(x.spot)))) else undef),fun v _=>v=(bif (true)&&((((b4x)&&((decide ((x.slot)<(0))) || (decide ((41)<(x.slot))))) || ((!(b4x))&&((x.slot) != (0)))) == false) then Value.bool ((b5)&&((decide ((x.spot)<(8))) || (decide ((13)<(x.spot))))) else undef),fun v _=>v=Value.bool ((((b4x)&&((decide ((x.slot)<(0))) || (decide ((41)<(x.slot))))) || ((!(b4x))&&((x.slot) != (0)))) || ((b5)&&((decide ((x.spot)<(8))) || (decide ((13)<(x.spot)))))),fun v _=>v=Value.bool ((((b4x)&&((decide ((x.slot)<(0))) || (decide ((41)<(x.slot))))) || ((!(b4x))&&((x.slot) != (0)))) || ((b5)&&((decide ((x.spot)<(8))) || (decide ((13)<(x.spot)))))),fun v _=>v=(bif (true)&&(((((b4x)&&((decide ((x.slot)<(0))) || (decide ((41)<(x.slot))))) || ((!(b4x))&&((x.slot) != (0)))) || ((b5)&&((decide ((x.spot)<(8))) || (decide ((13)<(x.spot)))))) == false) then Value.bool (b5) else undef),fun v _=>v=(bif (true)&&(((((b4x)&&((decide ((x.slot)<(0))) || (decide ((41)<(x.slot))))) || ((!(b4x))&&((x.slot) != (0)))) || ((b5)&&((decide ((x.spot)<(8))) || (decide ((13)<(x.spot)))))) == false) then Value.bool (!(b5)) else undef),fun v _=>v=(bif (true)&&(((((b4x)&&((decide ((x.slot)<(0))) || (decide ((41)<(x.slot))))) || ((!(b4x))&&((x.slot) != (0)))) || ((b5)&&((decide ((x.spot)<(8))) || (decide ((13)<(x.spot)))))) == false) then Value.bool (!(b5)) else undef),fun v _=>v=(bif ((true)&&(((((b4x)&&((decide ((x.slot)<(0))) || (decide ((41)<(x.slot))))) || ((!(b4x))&&((x.slot) != (0)))) || ((b5)&&((decide ((x.spot)<(8))) || (decide ((13)<(x.spot)))))) == false))&&((!(b5)) == true) then Value.pointer (some ⟨b4,8,none⟩) else undef),fun v _=>v=(bif ((true)&&(((((b4x)&&((decide ((x.slot)<(0))) || (decide ((41)<(x.slot))))) || ((!(b4x))&&((x.slot) != (0)))) || ((b5)&&((decide ((x.spot)<(8))) || (decide ((13)<(x.spot)))))) == false))&&((!(b5)) == true) then Value.int .i64 (x.spot) else undef),fun v _=>v=(bif ((true)&&(((((b4x)&&((decide ((x.slot)<(0))) || (decide ((41)<(x.slot))))) || ((!(b4x))&&((x.slot) != (0)))) || ((b5)&&((decide ((x.spot)<(8))) || (decide ((13)<(x.spot)))))) == false))&&((!(b5)) == true) then Value.bool ((x.spot) != (0)) else undef),fun v _=>v=(bif (true)&&(((((b4x)&&((decide ((x.slot)<(0))) || (decide ((41)<(x.slot))))) || ((!(b4x))&&((x.slot) != (0)))) || ((b5)&&((decide ((x.spot)<(8))) || (decide ((13)<(x.spot)))))) == false) then Value.bool ((!(b5))&&((x.spot) != (0))) else undef),fun v _=>v=Value.bool (((((b4x)&&((decide ((x.slot)<(0))) || (decide ((41)<(x.slot))))) || ((!(b4x))&&((x.slot) != (0)))) || ((b5)&&((decide ((x.spot)<(8))) || (decide ((13)<(x.spot)))))) || ((!(b5))&&((x.spot) != (0))))] (fun _=>false) (by kernel_rfl) (by kernel_rfl) (by repeat (first|exact trivial|refine⟨stable_eq _,?_⟩)) (fun _ _ h=>by cases h) ?ob ?en
       case ob =>
        refine⟨?_,?_,?_,?_,?_,?_,?_,?_,?_,?_,?_,?_,?_,?_,?_,?_,?_,?_,?_,?_,?_,?_,?_,?_,?_,?_,?_,?_,?_,?_,?_,?_,?_,?_,?_,?_,?_,?_,?_,?_,?_,?_,trivial⟩<;>intro A W h
        ·exact rs_pure rfl (run_cp (.inl rfl) (h.frame 8 rfl))
        ·exact rs_pure rfl (run_cp (.inl rfl) (h.dep 0 99 rfl rfl))
        ·refine sy_ (h.dep 1 100 rfl rfl) fun hC=>?_;exact(by have e:A.eval (.tmp 4)=Value.pointer (some ⟨b4,0,none⟩):=h.frame 4 rfl;simp only[execOp,e];simp[go_sem])
        ·refine sy_ (h.dep 1 100 rfl rfl) fun hC=>?_;exact run_load1K rfl (bif_at (h.dep 2 101 rfl rfl) hC) one_int ((H.call h.below).cell (i:=1) i_1 7)
        ·refine sy_ (h.dep 1 100 rfl rfl) fun hC=>?_;exact(by have e102:A.eval (.tmp 102)=Value.int .i64 (x.slot):=bif_at (h.dep 3 102 rfl rfl) hC;simp only[execOp,e102];simp[go_sem])
        ·refine sy_ (h.dep 1 100 rfl rfl) fun hC=>?_;exact run_cp (.inl rfl) (bif_at (h.dep 4 103 rfl rfl) hC)
        ·refine sy_ (h.dep 5 104 rfl rfl) fun hC=>?_;exact(by have e:A.eval (.tmp 4)=Value.pointer (some ⟨b4,0,none⟩):=h.frame 4 rfl;simp only[execOp,e];simp[go_sem])
        ·refine sy_ (h.dep 5 104 rfl rfl) fun hC=>?_;exact run_load1K rfl (bif_at (h.dep 6 105 rfl rfl) hC) one_int ((H.call h.below).cell (i:=1) i_1 7)
        ·refine sy_ (h.dep 5 104 rfl rfl) fun hC=>?_;exact(by have e106:A.eval (.tmp 106)=Value.int .i64 (x.slot):=bif_at (h.dep 7 106 rfl rfl) hC;simp only[execOp,e106];simp[go_sem])
        ·refine sy_ (h.dep 1 100 rfl rfl) fun hC=>?_;exact run_or rfl (bif_at (h.dep 5 104 rfl rfl) hC) (fun hb2=>bif_at (h.dep 8 107 rfl rfl) (by (first|(rw[hC,hb2];rfl)|(rw[hb2];rfl)|simp[hb2,hC])))
        ·exact rs_pure rfl (run_and rfl (h.dep 1 100 rfl rfl) (fun hb2=>bif_at (h.dep 9 108 rfl rfl) (by (first|(rw[hb2];rfl)|simp[hb2]))))
        ·exact rs_pure rfl (run_cp (.inl rfl) (h.dep 10 109 rfl rfl))
        ·refine sy_ (h.dep 11 110 rfl rfl) fun hC=>?_;exact run_cp (.inl rfl) (h.frame 8 rfl)
        ·refine sy_ (h.dep 11 110 rfl rfl) fun hC=>?_;exact(by have e:A.eval (.tmp 111)=Value.bool (b4x):=bif_at (h.dep 12 111 rfl rfl) hC;simp only[execOp,e];simp[go_sem])
        ·refine sy_ (h.dep 11 110 rfl rfl) fun hC=>?_;exact run_cp (.inl rfl) (bif_at (h.dep 13 112 rfl rfl) hC)
        ·refine sy_ (h.dep 14 113 rfl rfl) fun hC=>?_;exact(by have e:A.eval (.tmp 4)=Value.pointer (some ⟨b4,0,none⟩):=h.frame 4 rfl;simp only[execOp,e];simp[go_sem])
        ·refine sy_ (h.dep 14 113 rfl rfl) fun hC=>?_;exact run_load1K rfl (bif_at (h.dep 15 114 rfl rfl) hC) one_int ((H.call h.below).cell (i:=1) i_1 7)
        ·refine sy_ (h.dep 14 113 rfl rfl) fun hC=>?_;exact(by have e115:A.eval (.tmp 115)=Value.int .i64 (x.slot):=bif_at (h.dep 16 115 rfl rfl) hC;simp only[execOp,e115];simp[go_sem])
        ·refine sy_ (h.dep 11 110 rfl rfl) fun hC=>?_;exact run_and rfl (bif_at (h.dep 14 113 rfl rfl) hC) (fun hb2=>bif_at (h.dep 17 116 rfl rfl) (by (first|(rw[hC,hb2];rfl)|(rw[hb2];rfl)|simp[hb2,hC])))
        ·exact rs_pure rfl (run_or rfl (h.dep 11 110 rfl rfl) (fun hb2=>bif_at (h.dep 18 117 rfl rfl) (by (first|(rw[hb2];rfl)|simp[hb2]))))
        ·exact rs_pure rfl (run_cp (.inl rfl) (h.dep 19 118 rfl rfl))
        ·refine sy_ (h.dep 20 119 rfl rfl) fun hC=>?_;exact run_cp (.inl rfl) (h.frame 9 rfl)
        ·refine sy_ (h.dep 20 119 rfl rfl) fun hC=>?_;exact run_cp (.inl rfl) (bif_at (h.dep 21 120 rfl rfl) hC)
        ·refine sy_ (h.dep 22 121 rfl rfl) fun hC=>?_;exact(by have e:A.eval (.tmp 4)=Value.pointer (some ⟨b4,0,none⟩):=h.frame 4 rfl;simp only[execOp,e];simp[go_sem])
        ·refine sy_ (h.dep 22 121 rfl rfl) fun hC=>?_;exact run_load1K rfl (bif_at (h.dep 23 122 rfl rfl) hC) one_spot ((H.call h.below).cell (i:=1) i_1 8)
        ·refine sy_ (h.dep 22 121 rfl rfl) fun hC=>?_;exact(by have e123:A.eval (.tmp 123)=Value.int .i64 (x.spot):=bif_at (h.dep 24 123 rfl rfl) hC;simp only[execOp,e123];simp[go_sem])
        ·refine sy_ (h.dep 22 121 rfl rfl) fun hC=>?_;exact run_cp (.inl rfl) (bif_at (h.dep 25 124 rfl rfl) hC)
        ·refine sy_ (h.dep 26 125 rfl rfl) fun hC=>?_;exact(by have e:A.eval (.tmp 4)=Value.pointer (some ⟨b4,0,none⟩):=h.frame 4 rfl;simp only[execOp,e];simp[go_sem])
        ·refine sy_ (h.dep 26 125 rfl rfl) fun hC=>?_;exact run_load1K rfl (bif_at (h.dep 27 126 rfl rfl) hC) one_spot ((H.call h.below).cell (i:=1) i_1 8)
        ·refine sy_ (h.dep 26 125 rfl rfl) fun hC=>?_;exact(by have e127:A.eval (.tmp 127)=Value.int .i64 (x.spot):=bif_at (h.dep 28 127 rfl rfl) hC;simp only[execOp,e127];simp[go_sem])
        ·refine sy_ (h.dep 22 121 rfl rfl) fun hC=>?_;exact run_or rfl (bif_at (h.dep 26 125 rfl rfl) hC) (fun hb2=>bif_at (h.dep 29 128 rfl rfl) (by (first|(rw[hC,hb2];rfl)|(rw[hb2];rfl)|simp[hb2,hC])))
        ·refine sy_ (h.dep 20 119 rfl rfl) fun hC=>?_;exact run_and rfl (bif_at (h.dep 22 121 rfl rfl) hC) (fun hb2=>bif_at (h.dep 30 129 rfl rfl) (by (first|(rw[hC,hb2];rfl)|(rw[hb2];rfl)|simp[hb2,hC])))
        ·exact rs_pure rfl (run_or rfl (h.dep 20 119 rfl rfl) (fun hb2=>bif_at (h.dep 31 130 rfl rfl) (by (first|(rw[hb2];rfl)|simp[hb2]))))
        ·exact rs_pure rfl (run_cp (.inl rfl) (h.dep 32 131 rfl rfl))
        ·refine sy_ (h.dep 33 132 rfl rfl) fun hC=>?_;exact run_cp (.inl rfl) (h.frame 9 rfl)
        ·refine sy_ (h.dep 33 132 rfl rfl) fun hC=>?_;exact(by have e:A.eval (.tmp 133)=Value.bool (b5):=bif_at (h.dep 34 133 rfl rfl) hC;simp only[execOp,e];simp[go_sem])
        ·refine sy_ (h.dep 33 132 rfl rfl) fun hC=>?_;exact run_cp (.inl rfl) (bif_at (h.dep 35 134 rfl rfl) hC)
        ·refine sy_ (h.dep 36 135 rfl rfl) fun hC=>?_;exact(by have e:A.eval (.tmp 4)=Value.pointer (some ⟨b4,0,none⟩):=h.frame 4 rfl;simp only[execOp,e];simp[go_sem])
        ·refine sy_ (h.dep 36 135 rfl rfl) fun hC=>?_;exact run_load1K rfl (bif_at (h.dep 37 136 rfl rfl) hC) one_spot ((H.call h.below).cell (i:=1) i_1 8)
        ·refine sy_ (h.dep 36 135 rfl rfl) fun hC=>?_;exact(by have e137:A.eval (.tmp 137)=Value.int .i64 (x.spot):=bif_at (h.dep 38 137 rfl rfl) hC;simp only[execOp,e137];simp[go_sem])
        ·refine sy_ (h.dep 33 132 rfl rfl) fun hC=>?_;exact run_and rfl (bif_at (h.dep 36 135 rfl rfl) hC) (fun hb2=>bif_at (h.dep 39 138 rfl rfl) (by (first|(rw[hC,hb2];rfl)|(rw[hb2];rfl)|simp[hb2,hC])))
        ·exact rs_pure rfl (run_or rfl (h.dep 33 132 rfl rfl) (fun hb2=>bif_at (h.dep 40 139 rfl rfl) (by (first|(rw[hb2];rfl)|simp[hb2]))))
       case en =>
        intro vals W hbw hv _;have v41:vals 41=_:=hv 41 (by omega)
        simp only[fa,Nat.reduceAdd];rw[v41];clear hv v41
        try simp only[pl]
        have H:=H.call hbw;rw[h12.out]
        cases q12 with
        | true =>
         have E:=EN rfl
         go_wp2_with (first|fail)
         go_ret;exact⟨by rw[E.out];rfl,H.below⟩
        | false =>
         have E:=EY rfl
         go_wp2_with (first|fail)
         go_roundw
         case rel=>exact⟨j+1,by omega,by go_num,E,H.pick [0] _ (by decide) rfl⟩
         case measure=>simp[intOf];omega
  ·have hjn:j=n:=by omega
   have dj:decide ((j:Int)<(n:Int))=false:=by simp;omega
   have E:=Lib.hid (show rightP xs=true by
    have h:=EA.out;rw[List.take_of_length_le (by rw[HN.out];omega)]at h
    unfold rightP
    rw[HN.out,h,decide_eq_true (by omega),decide_eq_true (by omega)];rfl)
   clear hp EA hjn
   go_wp2_with (first|fail)
   go_ret;exact⟨by rw[E.out];rfl,H.below⟩
theorem flatR_single:∀ xs:List Value,flatR (xs.map fun v=>#[v])=xs
 | []=>rfl
 | x::r=>by
  have:=flatR_single r;simp only[flatR,List.map_cons,List.flatten_cons]at *;rw[this];rfl
theorem own_storeX {P:Program} {ops:Array Oper} {rest:List Oper} {o:Oper} {a:Act} {w w0:World} {Q:Exit→Act→World→Prop} {l:List Res} {M:Nat→Prop} (hg:Region.wanted o (yielded ops a.tmps)=true) (T:TypeId) (x y:Operand) (ho:o.op=.store T x y) {g i n cap:Nat} (hx:a.eval x=.pointer (some ⟨g,i,none⟩)) {v:Value} (hy:a.eval y=v) (H:HoldG M w0 w l) {j:Nat} {e:TypeId} {xs:List Value}
  (hi:At l j (.row (.slice (some ⟨g,0,none⟩) n cap) e 1 n xs)) (hl:xs.length=n) (hT:sizeB P T 1=true) (h1:v.oneCell'=true) (hin:i<n)
  (h:∀ w',HoldG M w0 w' (l.set j (.row (.slice (some ⟨g,0,none⟩) n cap) e 1 n (xs.set i v)))→wpList P ops Q rest (a.put o.dst undef) w'):wpList P ops Q (o::rest) a w:=by
 exact wpList_wanted hg fun _ hK=>by
  obtain⟨hlen,⟨hv',_⟩|⟨g',cap',cur,hv',hb,hg',hn,hc,hsz,ht⟩⟩:=H.all j _ hi.get
  ·cases hv'
  ·cases hv'
   have hs:(⟨g,i,none⟩:Addr).add 0=⟨g,i,none⟩:=by rw[Addr.add_mid];rfl
   have hcell:w.cell? ⟨g,i,none⟩=cur[i]?:=by simp[World.cell?,hg']
   have hfr:w.frozen? ⟨g,i,none⟩=false:=by simp[World.frozen?,hg']
   have hisz:i<cur.size:=by omega
   unfold Oper.wp execOp;simp only[ho,hx,hy,Instr.storeAt,Instr.sureAddr,Sem.run_bind,Sem.run_pure,Result.andThen_ok,run_storeVar_one1 (P:=P) (w:=w) hT h1 (by rw[hcell];simp[hisz]) hfr hs]
   have hh:=heap_setCell hg' (k:=i) v;refine hK _ _ (h _ (H.upd hi.get (grownBy_setCellK w g i v) ⟨by rw[List.length_set];exact hlen,.inr ⟨g,cap,_,rfl,hb,hh,hn,hc,?_,?_⟩⟩ (fun _ e=>.inl e)))
   ·simp[hsz]
   ·rw[← ht,Array.toList_setIfInBounds,List.take_set]
abbrev runL (rb:Nat) (pp:Option Addr) (cp:Nat) (ps:List InstD) (psl:Option Addr) (csl:Nat) (L:Str) (Fp Fs:Nat→Prop) (gs cs K gt ct m:Nat) (sn:List Bool) (sl:Slots):List Res :=
 [.blk rb #[.slice pp ps.length cp,.slice psl L.length csl,.slice (some ⟨gs,0,none⟩) K cs,.slice (some ⟨gt,0,none⟩) m ct] 110,.row (.slice (some ⟨gs,0,none⟩) K cs) 4 1 K (sn.map .bool),.row (.slice (some ⟨gt,0,none⟩) m ct) 3 1 m (sl.map (.int .i64)),.kn Fp (InstsR Fp pp cp ps),.kn Fs (BytesR Fs psl csl L)]
def WayB (rb:Nat) (pp:Option Addr) (cp:Nat) (ps:List InstD) (psl:Option Addr) (csl:Nat) (L:Str) (Fp Fs:Nat→Prop) (gs cs K gt ct m:Nat) (M:Nat→Prop) (w0:World) (k i:Nat) (sn:List Bool) (sl:Slots) (w:World) (e:Ending) (w':World):Prop :=
 ∃ (b:Bool) (sn':List Bool) (sl':Slots),e=.returned (.bool b)∧WayT ps L k i sl sn b sn' sl'∧Turned M w0 w (runL rb pp cp ps psl csl L Fp Fs gs cs K gt ct m sn sl) (runL rb pp cp ps psl csl L Fp Fs gs cs K gt ct m sn' sl') w'
theorem picksR {l:List Res}:∀ (n:Nat) (pre:List Res),pre.length=n→(List.range' n l.length).map (fun j=>(pre++l)[j]?)=l.map some:=by
 intro n pre hn;apply List.ext_getElem?;intro i;simp only[List.getElem?_map,List.getElem?_range']
 by_cases h:i<l.length
 ·simp[h,List.getElem?_append,hn]
 ·simp[h]
section
variable {rb:Nat} {pp:Option Addr} {cp:Nat} {ps:List InstD} {psl:Option Addr} {csl:Nat} {L:Str} {Fp Fs:Nat→Prop} {gs cs K gt ct m:Nat} {M:Nat→Prop} {w0 w:World} {k i:Nat} {sn:List Bool} {sl:Slots}
theorem chW {P:Program} {f:FuncId} {args:Array Value} {l3:List Res} {R:Ending→World→Prop} (H:HoldG M w0 w (.blk rb #[.slice pp ps.length cp,.slice psl L.length csl,.slice (some ⟨gs,0,none⟩) K cs,.slice (some ⟨gt,0,none⟩) m ct] 110::.row (.slice (some ⟨gs,0,none⟩) K cs) 4 1 K (sn.map .bool)::.row (.slice (some ⟨gt,0,none⟩) m ct) 3 1 m (sl.map (.int .i64))::.kn Fp (InstsR Fp pp cp ps)::.kn Fs (BytesR Fs psl csl L)::l3))
  (c:HoldG M w0 w (runL rb pp cp ps psl csl L Fp Fs gs cs K gt ct m sn sl)→Calls P f args w (WayB rb pp cp ps psl csl L Fp Fs gs cs K gt ct m M w0 k i sn sl w))
  (k2:∀ (b:Bool) (sn':List Bool) (sl':Slots) w',WayT ps L k i sl sn b sn' sl'→HoldG M w0 w' (.blk rb #[.slice pp ps.length cp,.slice psl L.length csl,.slice (some ⟨gs,0,none⟩) K cs,.slice (some ⟨gt,0,none⟩) m ct] 110::.row (.slice (some ⟨gs,0,none⟩) K cs) 4 1 K (sn'.map .bool)::.row (.slice (some ⟨gt,0,none⟩) m ct) 3 1 m (sl'.map (.int .i64))::.kn Fp (InstsR Fp pp cp ps)::.kn Fs (BytesR Fs psl csl L)::l3)→R (.returned (.bool b)) w'):Calls P f args w R:=by
 refine(c (H.pick [0,1,2,3,4] _ (by decide) rfl)).mono ?_
 rintro e w' ⟨b,sn',sl',rfl,hT,T⟩;refine k2 b sn' sl' w' hT (H.callIn T [0,1,2,3,4] (List.range' 5 l3.length) rfl (picksR 5 [_,_,_,_,_] rfl) List.nodup_range' (fun j hj h=>?_))
 rw[List.mem_range'_1]at h;simp at hj;omega
theorem way_fin {W:World} {l:List Res} {e:Ending} {b:Bool} {sn':List Bool} {sl':Slots} (H:HoldG M w0 W l) {q:Nat} (hi:At l q (.kn (restF w (runL rb pp cp ps psl csl L Fp Fs gs cs K gt ct m sn sl)) (restS w (runL rb pp cp ps psl csl L Fp Fs gs cs K gt ct m sn sl)))) (hq:4<q)
  (h:[0,1,2,3,4].map (fun j=>l[j]?)=(runL rb pp cp ps psl csl L Fp Fs gs cs K gt ct m sn' sl').map some) (he:e=.returned (.bool b)) (hT:WayT ps L k i sl sn b sn' sl'):WayB rb pp cp ps psl csl L Fp Fs gs cs K gt ct m M w0 k i sn sl w e W :=
 ⟨b,sn',sl',he,hT,Turned.of H hi [0,1,2,3,4] (by decide) (by simp;omega) h (fun F S hm b hb=>by
  simp at hm;rcases hm with ⟨rfl,rfl⟩|⟨rfl,rfl⟩
  ·exact .inl ⟨.kn F (InstsR F pp cp ps),by simp,hb⟩
  ·exact .inl ⟨.kn F (BytesR F psl csl L),by simp,hb⟩)⟩
end
theorem right_get {ps:List InstD} (h:rightP ps=true) {k:Nat} {x:InstD} (hx:ps[k]?=some x):rightI ps.length x=true:=by
 simp only[rightP,Bool.and_eq_true,List.all_eq_true]at h;exact h.2 x (List.mem_of_getElem? hx)
theorem right_next {n:Nat} {x:InstD} (h:rightI n x=true) (hk:x.kind=1∨x.kind=2∨x.kind=3∨x.kind=4):0≤x.next∧x.next<n:=by
 unfold rightI inN at h;rcases hk with h1|h1|h1|h1<;>simp[h1]at h<;>omega
theorem right_other {n:Nat} {x:InstD} (h:rightI n x=true) (hk:x.kind=2):0≤x.other∧x.other<n:=by
 unfold rightI inN at h;simp[hk]at h;omega
theorem right_slot {n:Nat} {x:InstD} (h:rightI n x=true) (hk:x.kind=3):0≤x.slot∧x.slot<42:=by
 unfold rightI inN at h;simp[hk]at h;omega
theorem most_ge:∀ (ps:List InstD) (a:Nat) (x:InstD),x ∈ ps→x.slot.toNat≤ps.foldl (fun m x=>max m x.slot.toNat) a
 | [],_,_,h=>by cases h
 | y::r,a,x,h=>by
  have mono:∀ (l:List InstD) (b:Nat),b≤l.foldl (fun m x=>max m x.slot.toNat) b:=by
   intro l
   induction l with
   | nil=>intro b;exact Nat.le_refl _
   | cons z l ih=>intro b;exact Nat.le_trans (Nat.le_max_left _ _) (ih _)
  rcases List.mem_cons.1 h with rfl|h
  ·exact Nat.le_trans (Nat.le_max_right _ _) (mono r _)
  ·exact most_ge r _ x h
theorem slot_lt {ps:List InstD} {k:Nat} {x:InstD} (hx:ps[k]?=some x):x.slot.toNat<slotsP ps:=by
 have:=most_ge ps 1 x (List.mem_of_getElem? hx);unfold slotsP mostP;omega
theorem ref_way (rb:Nat) (pp:Option Addr) (cp:Nat) (ps:List InstD) (psl:Option Addr) (csl:Nat) (L:Str) (Fp Fs:Nat→Prop) (gs cs K gt ct ms:Nat) (hR:rightP ps=true) (hset:∀ x ∈ ps,SetOk x.set) (hL:L.length≤1000) (hn4:ps.length≤4000) (hK:K=ps.length * (L.length+1)) (hms:ms=slotsP ps) :
  ∀ (m k i:Nat) (sn:List Bool) (sl:Slots) (M:Nat→Prop) (w0 w:World),unF sn<m→k<ps.length→i≤L.length→sn.length=K→sl.length=ms→HoldG M w0 w (runL rb pp cp ps psl csl L Fp Fs gs cs K gt ct ms sn sl) →
  Calls Tryz.prog 40 #[.pointer (some ⟨rb,0,none⟩),.int .i64 k,.int .i64 i] w (WayB rb pp cp ps psl csl L Fp Fs gs cs K gt ct ms M w0 k i sn sl w)
 | 0,_,_,_,_,_,_,_,h,_,_,_,_,_=>by omega
 | m+1,k,i,sn,sl,M,w0,w,hm,hk,hi,hsn,hsl,H0=>by
  have IH:=ref_way rb pp cp ps psl csl L Fp Fs gs cs K gt ct ms hR hset hL hn4 hK hms m;have H:=H0.framed;clear H0;obtain⟨rF,hrF⟩:∃ rF,restF w (runL rb pp cp ps psl csl L Fp Fs gs cs K gt ct ms sn sl)=rF:=⟨_,rfl⟩;obtain⟨rS,hrS⟩:∃ rS,restS w (runL rb pp cp ps psl csl L Fp Fs gs cs K gt ct ms sn sl)=rS:=⟨_,rfl⟩;rw[hrF,hrS]at H;simp only[runL,List.cons_append,List.nil_append]at H;obtain⟨x,hx⟩:∃ x,ps[k]?=some x:=⟨_,List.getElem?_eq_getElem hk⟩
  have hri:=right_get hR hx;obtain⟨kk,hkk⟩:∃ kk,k * (L.length+1)+i=kk:=⟨_,rfl⟩;have hkK:kk<K:=by rw[← hkk,hK];exact place_lt hk hi
  have hK1:ps.length * (L.length+1)≤4000 * (L.length+1):=Nat.mul_le_mul_right _ hn4;have hK2:K≤4010000:=by rw[hK];exact Nat.le_trans hK1 (by omega)
  obtain⟨bp,op,hpp⟩:=(H.kn (i:=3) i_3).at (by omega)
  subst hpp;have hcell:∀ V,InstsR Fp (some ⟨bp,op,none⟩) cp ps V→∀ q,q<9→V.cell? ⟨bp,op+k * 9+q,none⟩=(instC x)[q]?:=fun V h=>h.cells hx rfl
  obtain⟨km,hkm⟩:∃ km,k * (L.length+1)=km:=⟨_,rfl⟩;have hkl:km≤4010000:=by
   have:k * (L.length+1)≤4000 * (L.length+1):=Nat.mul_le_mul_right _ (by omega)
   omega
  have hmul:wrap64 ((k:Int) * ((L.length:Int)+1))=(km:Int):=by
   have e0:(k:Int) * ((L.length:Int)+1)=((k * (L.length+1):Nat):Int):=by push_cast;rfl
   rw[e0,hkm];unfold wrap64;omega
  have hki:(km:Int)+(i:Int)=(kk:Int):=by omega
  clear hK1;obtain⟨z,hz⟩:∃ z,sn[kk]?=some z:=⟨_,List.getElem?_eq_getElem (by omega)⟩
  have hbz:(sn.map Value.bool)[kk]?=some (.bool z):=by rw[List.getElem?_map,hz];rfl
  go_enter Tryz.func40,Tryz.ntmps40
  go_upto_region 2 with (first|((with_reducible refine gL ?_);refine aG H ?_))
  have hlenb:(sn.map Value.bool).length=K:=by rw[List.length_map];exact hsn
  cases z with
  | true =>
   have hT:=WayT.seen (p:=ps) (s:=L) (sl:=sl) hi (by rw[hkk];exact hz)
   clear hmul hki IH hx hri hcell hz
   go_wp2_with (first|((with_reducible refine gL ?_);refine own_load1K wtd_ _ _ rfl rfl one_bool (H.row1 (i:=1) i_1 hbz) ?_)|((with_reducible refine gL ?_);refine aG H ?_))
   go_ret;rw[← hrF,← hrS]at H;exact way_fin H (q:=5) i_5 (by decide) rfl rfl (hT)
  | false =>
   obtain⟨sn1,hs1⟩:∃ s,sn.set kk true=s:=⟨_,rfl⟩;have hmap:(sn.map Value.bool).set kk (.bool true)=sn1.map .bool:=by rw[← hs1,List.map_set]
   have hM:Marked L k i sn sn1:=by
    have:=Marked.of (s:=L) (k:=k) (sn:=sn) hi (by rw[hkk];exact hz)
    rwa [hkk,hs1]at this
   have hlen1:sn1.length=K:=hM.len.trans hsn;have hun1:unF sn1<m:=by have:=hM.un;omega
   go_upto_region 7 with (first|((with_reducible refine gL ?_);refine own_load1K wtd_ _ _ rfl rfl one_bool (H.row1 (i:=1) i_1 hbz) ?_)|((with_reducible refine gT ?_);refine own_storeX wtd_ _ _ _ rfl rfl (v:=.bool true) evd_ H (j:=1) i_1 hlenb (by with_reducible exact one_size one_bool) rfl hkK ?_;clear H;intro w H;(simp only[List.set_cons_succ,List.set_cons_zero]at H);(rw[hmap]at H))|((with_reducible refine gL ?_);refine own_loadK wtd_ _ _ rfl rfl row_Inst rfl (hcell _ (H.kn (i:=3) i_3)) ?_)|((first|((with_reducible refine kgA 8 ?_);refine kA 8 H ?_)|((with_reducible refine kgX 8 ?_);(first|refine kS 8 H ?_|refine kB 8 H ?_)));clear H;intro b8 w H;try simp only[nr]at H)|(first|((with_reducible refine gTi ?_);refine aTi H ?_;clear H;intro w H;try simp only[nr]at H)|((with_reducible refine gL ?_);refine aGi H ?_)|((with_reducible refine gL ?_);refine aG H ?_)))
   clear hmul hki hcell hz hbz hlenb hmap hs1;simp only[pl]
   by_cases k5:x.kind=5
   ·have d5:(x.kind == 5)=true:=by rw[beq_iff_eq];exact k5
    have hT:=WayT.match (p:=ps) (sl:=sl) hM (by rw[atI_get hx];exact k5)
    clear IH hri hx
    go_wp2_with (first|fail)
    go_ret;rw[← hrF,← hrS]at H;exact way_fin H (q:=5) i_5 (by decide) rfl rfl (hT)
   have d5:(x.kind == 5)=false:=by rw[beq_eq_false_iff_ne];exact k5
   have hk5:(atI ps k).kind≠5:=by rw[atI_get hx];exact k5
   by_cases k1:x.kind=1
   ·have d1:(x.kind == 1)=true:=by rw[beq_iff_eq];exact k1
    have hnx:=right_next hri (.inl k1);have hN:∀ i2 sn2 sl2 w,i2≤L.length→unF sn2<m→sn2.length=K→sl2.length=ms→HoldG M w0 w (runL rb (some ⟨bp,op,none⟩) cp ps psl csl L Fp Fs gs cs K gt ct ms sn2 sl2)→Calls Tryz.prog 40 #[.pointer (some ⟨rb,0,none⟩),.int .i64 x.next,.int .i64 (i2:Nat)] w (WayB rb (some ⟨bp,op,none⟩) cp ps psl csl L Fp Fs gs cs K gt ct ms M w0 x.next.toNat i2 sn2 sl2 w):=fun i2 sn2 sl2 w h1 h2 h3 h4 h=>by
     have e:((x.next.toNat:Nat):Int)=x.next:=Int.toNat_of_nonneg hnx.1;have:=IH x.next.toNat i2 sn2 sl2 M w0 w h2 (by omega) h1 h3 h4 h
     rwa [e]at this
    by_cases hiL:i<L.length
    ·obtain⟨bs,os,hbs⟩:=(H.kn (i:=4) i_4).at (by omega)
     subst hbs;have hha:=fun w=>ref_Has x.set (hset x (List.mem_of_getElem? hx)) (byt L i) (byt_lt L i) w
     cases hs:hasB x.set (byt L i) with
     | true =>
      rw[hs]at hha;have hsuc:=suc_set (p:=ps) (s:=L) (k:=k) (i:=i) (sl:=sl) hx k1 hiL hs;have hN1:∀ w,_→Calls Tryz.prog 40 #[.pointer (some ⟨rb,0,none⟩),.int .i64 x.next,.int .i64 ((i:Int)+1)] w _:=fun w h=>hN (i+1) sn1 sl w (by omega) hun1 hlen1 hsl h
      clear IH hri hx k5 k1 hN hs
      go_upto_region 10 with (first|fail)
      refine wp_region_spec 25 [fun v _=>v=.int .i64 (i:Nat),fun v _=>v=.pointer (some ⟨rb,0,none⟩),fun v _=>v=.pointer (some ⟨rb,0,none⟩),fun v _=>v=.pointer (some ⟨rb,1,none⟩),fun v _=>v=.slice (some ⟨bs,os,none⟩) L.length csl,fun v _=>v=.int .i64 ((L.length:Nat):Int),fun v _=>v=.bool true,fun v _=>v=.bool true,fun v _=>v=.pointer (some ⟨b8,1,none⟩),fun v _=>v=setV x.set,fun v _=>v=.pointer (some ⟨rb,0,none⟩),fun v _=>v=.pointer (some ⟨rb,0,none⟩),fun v _=>v=.pointer (some ⟨rb,1,none⟩),fun v _=>v=.slice (some ⟨bs,os,none⟩) L.length csl,fun v _=>v=.int .i64 (i:Nat),fun v _=>v=.pointer (some ⟨bs,os+i,none⟩),fun v _=>v=.int .u8 (byt L i),fun v _=>v=.bool true,fun v _=>v=.bool true,fun v _=>v=.bool true,fun v _=>v=.pointer (some ⟨rb,0,none⟩),fun v _=>v=.pointer (some ⟨b8,5,none⟩),fun v _=>v=.int .i64 x.next,fun v _=>v=.int .i64 (i:Nat),fun v _=>v=.int .i64 ((i:Int)+1)] (fun _=>false) (by kernel_rfl) (by kernel_rfl) (by kernel_rfl) (by repeat (first|exact trivial|refine⟨stable_eq _,?_⟩)) (fun _ _ h=>by cases h) ?ob ?en
      case ob =>
       refine⟨?_,?_,?_,?_,?_,?_,?_,?_,?_,?_,?_,?_,?_,?_,?_,?_,?_,?_,?_,?_,?_,?_,?_,?_,?_,trivial⟩<;>intro A W h
       ·exact rs_move rfl rfl (h.frame 2 rfl)
       ·exact rs_move rfl rfl (h.frame 0 rfl)
       ·(have e47:A.eval (.tmp 47)=.pointer (some ⟨rb,0,none⟩):=h.dep 1 47 rfl rfl;refine rs_pure rfl ?_;simp only[execOp,e47];(simp[go_sem]<;>first|done|omega|(rw[IntKind.wrap_i64];omega)|(rw[IntKind.wrap_u8];omega)|(rw[IntKind.wrap_u64];omega)))
       ·(have e48:A.eval (.tmp 48)=.pointer (some ⟨rb,0,none⟩):=h.dep 2 48 rfl rfl;refine rs_pure rfl ?_;simp only[execOp,e48];(simp[go_sem]<;>first|done|omega|(rw[IntKind.wrap_i64];omega)|(rw[IntKind.wrap_u8];omega)|(rw[IntKind.wrap_u64];omega)))
       ·exact rs_pure rfl (run_load1K rfl (h.dep 3 49 rfl rfl) one_bytes ((H.call h.below).cell (i:=0) .zero 1)) (by decide)
       ·exact rs_len Tryz.underlying23 rfl rfl (h.dep 4 50 rfl rfl)
       ·(have e46:A.eval (.tmp 46)=.int .i64 (i:Nat):=h.dep 0 46 rfl rfl;have e51:A.eval (.tmp 51)=.int .i64 ((L.length:Nat):Int):=h.dep 5 51 rfl rfl;refine rs_pure rfl ?_;simp only[execOp,e46,e51];(simp[go_sem]<;>first|done|omega|(rw[IntKind.wrap_i64];omega)|(rw[IntKind.wrap_u8];omega)|(rw[IntKind.wrap_u64];omega)))
       ·exact rs_move rfl rfl (h.dep 6 52 rfl rfl)
       ·(have e8:A.eval (.tmp 8)=.pointer (some ⟨b8,0,none⟩):=h.frame 8 rfl;refine rs_pure (wanted_g rfl (yielded_of (d:=53) rfl (h.dep 7 53 rfl rfl))) ?_;simp only[execOp,e8];(simp[go_sem]<;>first|done|omega|(rw[IntKind.wrap_i64];omega)|(rw[IntKind.wrap_u8];omega)|(rw[IntKind.wrap_u64];omega)))
       ·exact rs_pure (wanted_g rfl (yielded_of (d:=53) rfl (h.dep 7 53 rfl rfl))) (run_loadK rfl (h.dep 8 54 rfl rfl) row_Set rfl (fun j hj=>by have h1:=(H.call h.below).cell (i:=6) i_6 (1+j);rcases j with _|_|_|_|j<;>first|exact h1|omega)) (by decide)
       ·exact rs_move (wanted_g rfl (yielded_of (d:=53) rfl (h.dep 7 53 rfl rfl))) rfl (h.frame 0 rfl)
       ·(have e56:A.eval (.tmp 56)=.pointer (some ⟨rb,0,none⟩):=h.dep 10 56 rfl rfl;refine rs_pure (wanted_g rfl (yielded_of (d:=53) rfl (h.dep 7 53 rfl rfl))) ?_;simp only[execOp,e56];(simp[go_sem]<;>first|done|omega|(rw[IntKind.wrap_i64];omega)|(rw[IntKind.wrap_u8];omega)|(rw[IntKind.wrap_u64];omega)))
       ·(have e57:A.eval (.tmp 57)=.pointer (some ⟨rb,0,none⟩):=h.dep 11 57 rfl rfl;refine rs_pure (wanted_g rfl (yielded_of (d:=53) rfl (h.dep 7 53 rfl rfl))) ?_;simp only[execOp,e57];(simp[go_sem]<;>first|done|omega|(rw[IntKind.wrap_i64];omega)|(rw[IntKind.wrap_u8];omega)|(rw[IntKind.wrap_u64];omega)))
       ·exact rs_pure (wanted_g rfl (yielded_of (d:=53) rfl (h.dep 7 53 rfl rfl))) (run_load1K rfl (h.dep 12 58 rfl rfl) one_bytes ((H.call h.below).cell (i:=0) .zero 1)) (by decide)
       ·exact rs_move (wanted_g rfl (yielded_of (d:=53) rfl (h.dep 7 53 rfl rfl))) rfl (h.frame 2 rfl)
       ·exact rs_idx (sz:=1) Tryz.underlying23 (fun w=>by kernel_rfl) (wanted_g rfl (yielded_of (d:=53) rfl (h.dep 7 53 rfl rfl))) rfl (h.dep 13 59 rfl rfl) (h.dep 14 60 rfl rfl) (by omega) (by omega)
       ·exact rs_pure (wanted_g rfl (yielded_of (d:=53) rfl (h.dep 7 53 rfl rfl))) (run_load1K rfl (h.dep 15 61 rfl rfl) one_u8 (((H.call h.below).kn (i:=4) i_4).cell hiL)) (by decide)
       ·exact rs_calln (wanted_g rfl (yielded_of (d:=53) rfl (h.dep 7 53 rfl rfl))) rfl (enters_of Tryz.func78 (by kernel_rfl) rfl) (args2 ⟨(h.dep 9 55 rfl rfl),(h.dep 16 62 rfl rfl)⟩) (hha W)
       ·exact rs_pick rfl rfl (h.dep 7 53 rfl rfl) (h.dep 17 63 rfl rfl)
       ·exact rs_move rfl rfl (h.dep 18 64 rfl rfl)
       ·exact rs_move (wanted_g rfl (yielded_of (d:=65) rfl (h.dep 19 65 rfl rfl))) rfl (h.frame 0 rfl)
       ·(have e8:A.eval (.tmp 8)=.pointer (some ⟨b8,0,none⟩):=h.frame 8 rfl;refine rs_pure (wanted_g rfl (yielded_of (d:=65) rfl (h.dep 19 65 rfl rfl))) ?_;simp only[execOp,e8];(simp[go_sem]<;>first|done|omega|(rw[IntKind.wrap_i64];omega)|(rw[IntKind.wrap_u8];omega)|(rw[IntKind.wrap_u64];omega)))
       ·exact rs_pure (wanted_g rfl (yielded_of (d:=65) rfl (h.dep 19 65 rfl rfl))) (run_load1K rfl (h.dep 21 67 rfl rfl) one_int (((H.call h.below).cell (i:=6) i_6 5).trans rfl)) (by decide)
       ·exact rs_move (wanted_g rfl (yielded_of (d:=65) rfl (h.dep 19 65 rfl rfl))) rfl (h.frame 2 rfl)
       ·(have e69:A.eval (.tmp 69)=.int .i64 (i:Nat):=h.dep 23 69 rfl rfl;refine rs_pure (wanted_g rfl (yielded_of (d:=65) rfl (h.dep 19 65 rfl rfl))) ?_;simp only[execOp,e69];(simp[go_sem]<;>first|done|omega|(rw[IntKind.wrap_i64];omega)|(rw[IntKind.wrap_u8];omega)|(rw[IntKind.wrap_u64];omega)))
      case en =>
       intro vals W hbw hv _;simp only[fa,Nat.reduceAdd];rw[e_ hv 0,e_ hv 1,e_ hv 2,e_ hv 3,e_ hv 4,e_ hv 5,e_ hv 6,e_ hv 7,e_ hv 8,e_ hv 9,e_ hv 10,e_ hv 11,e_ hv 12,e_ hv 13,e_ hv 14,e_ hv 15,e_ hv 16,e_ hv 17,e_ hv 18,e_ hv 19,e_ hv 20,e_ hv 21,e_ hv 22,e_ hv 23,e_ hv 24];clear hv
       try simp only[pl]
       have H:=H.call hbw
       go_wp2_with (first|fail|(go_at_call 40;(with_reducible refine chW H (fun h=>hN1 _ h) ?_);clear H;intro b sn2 sl2 w hT1 H))
       go_ret;rw[← hrF,← hrS]at H;exact way_fin H (q:=5) i_5 (by decide) rfl rfl (WayT.one hM hk5 hsuc hT1)
     | false =>
      rw[hs]at hha;have hT:=WayT.none (p:=ps) (sl:=sl) hM hk5 (suc_setN hx k1 (fun h=>by rw[hs]at h;exact absurd h.2 (by decide)))
      clear IH hri hx k5 k1 hN hs
      go_upto_region 10 with (first|fail)
      refine wp_region_spec 28 [fun v _=>v=.int .i64 (i:Nat),fun v _=>v=.pointer (some ⟨rb,0,none⟩),fun v _=>v=.pointer (some ⟨rb,0,none⟩),fun v _=>v=.pointer (some ⟨rb,1,none⟩),fun v _=>v=.slice (some ⟨bs,os,none⟩) L.length csl,fun v _=>v=.int .i64 ((L.length:Nat):Int),fun v _=>v=.bool true,fun v _=>v=.bool true,fun v _=>v=.pointer (some ⟨b8,1,none⟩),fun v _=>v=setV x.set,fun v _=>v=.pointer (some ⟨rb,0,none⟩),fun v _=>v=.pointer (some ⟨rb,0,none⟩),fun v _=>v=.pointer (some ⟨rb,1,none⟩),fun v _=>v=.slice (some ⟨bs,os,none⟩) L.length csl,fun v _=>v=.int .i64 (i:Nat),fun v _=>v=.pointer (some ⟨bs,os+i,none⟩),fun v _=>v=.int .u8 (byt L i),fun v _=>v=.bool false,fun v _=>v=.bool false,fun v _=>v=.bool false,fun v _=>v=undef,fun v _=>v=undef,fun v _=>v=undef,fun v _=>v=undef,fun v _=>v=undef,fun v _=>v=undef,fun v _=>v=Value.bool false,fun v _=>v=Value.bool false] (fun _=>false) (by kernel_rfl) (by kernel_rfl) (by kernel_rfl) (by repeat (first|exact trivial|refine⟨stable_eq _,?_⟩)) (fun _ _ h=>by cases h) ?ob ?en
      case ob =>
       refine⟨?_,?_,?_,?_,?_,?_,?_,?_,?_,?_,?_,?_,?_,?_,?_,?_,?_,?_,?_,?_,?_,?_,?_,?_,?_,?_,?_,?_,trivial⟩<;>intro A W h
       ·exact rs_move rfl rfl (h.frame 2 rfl)
       ·exact rs_move rfl rfl (h.frame 0 rfl)
       ·(have e47:A.eval (.tmp 47)=.pointer (some ⟨rb,0,none⟩):=h.dep 1 47 rfl rfl;refine rs_pure rfl ?_;simp only[execOp,e47];(simp[go_sem]<;>first|done|omega|(rw[IntKind.wrap_i64];omega)|(rw[IntKind.wrap_u8];omega)|(rw[IntKind.wrap_u64];omega)))
       ·(have e48:A.eval (.tmp 48)=.pointer (some ⟨rb,0,none⟩):=h.dep 2 48 rfl rfl;refine rs_pure rfl ?_;simp only[execOp,e48];(simp[go_sem]<;>first|done|omega|(rw[IntKind.wrap_i64];omega)|(rw[IntKind.wrap_u8];omega)|(rw[IntKind.wrap_u64];omega)))
       ·exact rs_pure rfl (run_load1K rfl (h.dep 3 49 rfl rfl) one_bytes ((H.call h.below).cell (i:=0) .zero 1)) (by decide)
       ·exact rs_len Tryz.underlying23 rfl rfl (h.dep 4 50 rfl rfl)
       ·(have e46:A.eval (.tmp 46)=.int .i64 (i:Nat):=h.dep 0 46 rfl rfl;have e51:A.eval (.tmp 51)=.int .i64 ((L.length:Nat):Int):=h.dep 5 51 rfl rfl;refine rs_pure rfl ?_;simp only[execOp,e46,e51];(simp[go_sem]<;>first|done|omega|(rw[IntKind.wrap_i64];omega)|(rw[IntKind.wrap_u8];omega)|(rw[IntKind.wrap_u64];omega)))
       ·exact rs_move rfl rfl (h.dep 6 52 rfl rfl)
       ·(have e8:A.eval (.tmp 8)=.pointer (some ⟨b8,0,none⟩):=h.frame 8 rfl;refine rs_pure (wanted_g rfl (yielded_of (d:=53) rfl (h.dep 7 53 rfl rfl))) ?_;simp only[execOp,e8];(simp[go_sem]<;>first|done|omega|(rw[IntKind.wrap_i64];omega)|(rw[IntKind.wrap_u8];omega)|(rw[IntKind.wrap_u64];omega)))
       ·exact rs_pure (wanted_g rfl (yielded_of (d:=53) rfl (h.dep 7 53 rfl rfl))) (run_loadK rfl (h.dep 8 54 rfl rfl) row_Set rfl (fun j hj=>by have h1:=(H.call h.below).cell (i:=6) i_6 (1+j);rcases j with _|_|_|_|j<;>first|exact h1|omega)) (by decide)
       ·exact rs_move (wanted_g rfl (yielded_of (d:=53) rfl (h.dep 7 53 rfl rfl))) rfl (h.frame 0 rfl)
       ·(have e56:A.eval (.tmp 56)=.pointer (some ⟨rb,0,none⟩):=h.dep 10 56 rfl rfl;refine rs_pure (wanted_g rfl (yielded_of (d:=53) rfl (h.dep 7 53 rfl rfl))) ?_;simp only[execOp,e56];(simp[go_sem]<;>first|done|omega|(rw[IntKind.wrap_i64];omega)|(rw[IntKind.wrap_u8];omega)|(rw[IntKind.wrap_u64];omega)))
       ·(have e57:A.eval (.tmp 57)=.pointer (some ⟨rb,0,none⟩):=h.dep 11 57 rfl rfl;refine rs_pure (wanted_g rfl (yielded_of (d:=53) rfl (h.dep 7 53 rfl rfl))) ?_;simp only[execOp,e57];(simp[go_sem]<;>first|done|omega|(rw[IntKind.wrap_i64];omega)|(rw[IntKind.wrap_u8];omega)|(rw[IntKind.wrap_u64];omega)))
       ·exact rs_pure (wanted_g rfl (yielded_of (d:=53) rfl (h.dep 7 53 rfl rfl))) (run_load1K rfl (h.dep 12 58 rfl rfl) one_bytes ((H.call h.below).cell (i:=0) .zero 1)) (by decide)
       ·exact rs_move (wanted_g rfl (yielded_of (d:=53) rfl (h.dep 7 53 rfl rfl))) rfl (h.frame 2 rfl)
       ·exact rs_idx (sz:=1) Tryz.underlying23 (fun w=>by kernel_rfl) (wanted_g rfl (yielded_of (d:=53) rfl (h.dep 7 53 rfl rfl))) rfl (h.dep 13 59 rfl rfl) (h.dep 14 60 rfl rfl) (by omega) (by omega)
       ·exact rs_pure (wanted_g rfl (yielded_of (d:=53) rfl (h.dep 7 53 rfl rfl))) (run_load1K rfl (h.dep 15 61 rfl rfl) one_u8 (((H.call h.below).kn (i:=4) i_4).cell hiL)) (by decide)
       ·exact rs_calln (wanted_g rfl (yielded_of (d:=53) rfl (h.dep 7 53 rfl rfl))) rfl (enters_of Tryz.func78 (by kernel_rfl) rfl) (args2 ⟨(h.dep 9 55 rfl rfl),(h.dep 16 62 rfl rfl)⟩) (hha W)
       ·exact rs_pick rfl rfl (h.dep 7 53 rfl rfl) (h.dep 17 63 rfl rfl)
       ·exact rs_move rfl rfl (h.dep 18 64 rfl rfl)
       ·exact rsk (h.dep 19 65 rfl rfl)
       ·exact rsk (h.dep 19 65 rfl rfl)
       ·exact rsk (h.dep 19 65 rfl rfl)
       ·exact rsk (h.dep 19 65 rfl rfl)
       ·exact rsk (h.dep 19 65 rfl rfl)
       ·exact rsk (h.dep 19 65 rfl rfl)
       ·exact rs_pick rfl rfl (h.dep 19 65 rfl rfl) (rfl)
       ·exact rs_assign rfl rfl (h.dep 26 72 rfl rfl)
      case en =>
       intro vals W hbw hv _;simp only[fa,Nat.reduceAdd];rw[e_ hv 0,e_ hv 1,e_ hv 2,e_ hv 3,e_ hv 4,e_ hv 5,e_ hv 6,e_ hv 7,e_ hv 8,e_ hv 9,e_ hv 10,e_ hv 11,e_ hv 12,e_ hv 13,e_ hv 14,e_ hv 15,e_ hv 16,e_ hv 17,e_ hv 18,e_ hv 19,e_ hv 20,e_ hv 21,e_ hv 22,e_ hv 23,e_ hv 24,e_ hv 25,e_ hv 26,e_ hv 27];clear hv
       try simp only[pl]
       have H:=H.call hbw
       go_wp2_with fail
       go_ret;rw[← hrF,← hrS]at H;exact way_fin H (q:=5) i_5 (by decide) rfl rfl (hT)
    ·have hT:=WayT.none (p:=ps) (sl:=sl) hM hk5 (suc_setN hx k1 (fun h=>hiL h.1))
     have hiE:i=L.length:=by omega
     have hiE:=Lib.hid hiE;clear IH hri hx k5 k1 hN
     go_upto_region 10 with (first|fail)
     refine wp_region_spec 28 [fun v _=>v=.int .i64 (i:Nat),fun v _=>v=.pointer (some ⟨rb,0,none⟩),fun v _=>v=.pointer (some ⟨rb,0,none⟩),fun v _=>v=.pointer (some ⟨rb,1,none⟩),fun v _=>v=.slice psl L.length csl,fun v _=>v=.int .i64 ((L.length:Nat):Int),fun v _=>v=.bool false,fun v _=>v=.bool false,fun v _=>v=undef,fun v _=>v=undef,fun v _=>v=undef,fun v _=>v=undef,fun v _=>v=undef,fun v _=>v=undef,fun v _=>v=undef,fun v _=>v=undef,fun v _=>v=undef,fun v _=>v=undef,fun v _=>v=Value.bool false,fun v _=>v=Value.bool false,fun v _=>v=undef,fun v _=>v=undef,fun v _=>v=undef,fun v _=>v=undef,fun v _=>v=undef,fun v _=>v=undef,fun v _=>v=Value.bool false,fun v _=>v=Value.bool false] (fun _=>false) (by kernel_rfl) (by kernel_rfl) (by kernel_rfl) (by repeat (first|exact trivial|refine⟨stable_eq _,?_⟩)) (fun _ _ h=>by cases h) ?ob ?en
     case ob =>
      refine⟨?_,?_,?_,?_,?_,?_,?_,?_,?_,?_,?_,?_,?_,?_,?_,?_,?_,?_,?_,?_,?_,?_,?_,?_,?_,?_,?_,?_,trivial⟩<;>intro A W h
      ·exact rs_move rfl rfl (h.frame 2 rfl)
      ·exact rs_move rfl rfl (h.frame 0 rfl)
      ·(have e47:A.eval (.tmp 47)=.pointer (some ⟨rb,0,none⟩):=h.dep 1 47 rfl rfl;refine rs_pure rfl ?_;simp only[execOp,e47];(simp[go_sem]<;>first|done|omega|(rw[IntKind.wrap_i64];omega)|(rw[IntKind.wrap_u8];omega)|(rw[IntKind.wrap_u64];omega)))
      ·(have e48:A.eval (.tmp 48)=.pointer (some ⟨rb,0,none⟩):=h.dep 2 48 rfl rfl;refine rs_pure rfl ?_;simp only[execOp,e48];(simp[go_sem]<;>first|done|omega|(rw[IntKind.wrap_i64];omega)|(rw[IntKind.wrap_u8];omega)|(rw[IntKind.wrap_u64];omega)))
      ·exact rs_pure rfl (run_load1K rfl (h.dep 3 49 rfl rfl) one_bytes ((H.call h.below).cell (i:=0) .zero 1)) (by decide)
      ·exact rs_len Tryz.underlying23 rfl rfl (h.dep 4 50 rfl rfl)
      ·(have e46:A.eval (.tmp 46)=.int .i64 (i:Nat):=h.dep 0 46 rfl rfl;have e51:A.eval (.tmp 51)=.int .i64 ((L.length:Nat):Int):=h.dep 5 51 rfl rfl;refine rs_pure rfl ?_;simp only[execOp,e46,e51];(simp[go_sem]<;>first|done|omega|(rw[IntKind.wrap_i64];omega)|(rw[IntKind.wrap_u8];omega)|(rw[IntKind.wrap_u64];omega)))
      ·exact rs_move rfl rfl (h.dep 6 52 rfl rfl)
      ·exact rsk (h.dep 7 53 rfl rfl)
      ·exact rsk (h.dep 7 53 rfl rfl)
      ·exact rsk (h.dep 7 53 rfl rfl)
      ·exact rsk (h.dep 7 53 rfl rfl)
      ·exact rsk (h.dep 7 53 rfl rfl)
      ·exact rsk (h.dep 7 53 rfl rfl)
      ·exact rsk (h.dep 7 53 rfl rfl)
      ·exact rsk (h.dep 7 53 rfl rfl)
      ·exact rsk (h.dep 7 53 rfl rfl)
      ·exact rsk (h.dep 7 53 rfl rfl)
      ·exact rs_pick rfl rfl (h.dep 7 53 rfl rfl) (rfl)
      ·exact rs_move rfl rfl (h.dep 18 64 rfl rfl)
      ·exact rsk (h.dep 19 65 rfl rfl)
      ·exact rsk (h.dep 19 65 rfl rfl)
      ·exact rsk (h.dep 19 65 rfl rfl)
      ·exact rsk (h.dep 19 65 rfl rfl)
      ·exact rsk (h.dep 19 65 rfl rfl)
      ·exact rsk (h.dep 19 65 rfl rfl)
      ·exact rs_pick rfl rfl (h.dep 19 65 rfl rfl) (rfl)
      ·exact rs_assign rfl rfl (h.dep 26 72 rfl rfl)
     case en =>
      intro vals W hbw hv _;simp only[fa,Nat.reduceAdd];rw[e_ hv 0,e_ hv 1,e_ hv 2,e_ hv 3,e_ hv 4,e_ hv 5,e_ hv 6,e_ hv 7,e_ hv 8,e_ hv 9,e_ hv 10,e_ hv 11,e_ hv 12,e_ hv 13,e_ hv 14,e_ hv 15,e_ hv 16,e_ hv 17,e_ hv 18,e_ hv 19,e_ hv 20,e_ hv 21,e_ hv 22,e_ hv 23,e_ hv 24,e_ hv 25,e_ hv 26,e_ hv 27];clear hv
      try simp only[pl]
      have H:=H.call hbw
      go_wp2_with fail
      go_ret;rw[← hrF,← hrS]at H;exact way_fin H (q:=5) i_5 (by decide) rfl rfl (hT)
   have d1:(x.kind == 1)=false:=by rw[beq_eq_false_iff_ne];exact k1
   by_cases k2:x.kind=2
   ·have d2:(x.kind == 2)=true:=by rw[beq_iff_eq];exact k2
    have hnx:=right_next hri (.inr (.inl k2));have hno:=right_other hri k2;have hN:∀ i2 sn2 sl2 w,i2≤L.length→unF sn2<m→sn2.length=K→sl2.length=ms→HoldG M w0 w (runL rb (some ⟨bp,op,none⟩) cp ps psl csl L Fp Fs gs cs K gt ct ms sn2 sl2)→Calls Tryz.prog 40 #[.pointer (some ⟨rb,0,none⟩),.int .i64 x.next,.int .i64 (i2:Nat)] w (WayB rb (some ⟨bp,op,none⟩) cp ps psl csl L Fp Fs gs cs K gt ct ms M w0 x.next.toNat i2 sn2 sl2 w):=fun i2 sn2 sl2 w h1 h2 h3 h4 h=>by
     have e:((x.next.toNat:Nat):Int)=x.next:=Int.toNat_of_nonneg hnx.1;have:=IH x.next.toNat i2 sn2 sl2 M w0 w h2 (by omega) h1 h3 h4 h
     rwa [e]at this
    have hO:∀ i2 sn2 sl2 w,i2≤L.length→unF sn2<m→sn2.length=K→sl2.length=ms→HoldG M w0 w (runL rb (some ⟨bp,op,none⟩) cp ps psl csl L Fp Fs gs cs K gt ct ms sn2 sl2)→Calls Tryz.prog 40 #[.pointer (some ⟨rb,0,none⟩),.int .i64 x.other,.int .i64 (i2:Nat)] w (WayB rb (some ⟨bp,op,none⟩) cp ps psl csl L Fp Fs gs cs K gt ct ms M w0 x.other.toNat i2 sn2 sl2 w):=fun i2 sn2 sl2 w h1 h2 h3 h4 h=>by
     have e:((x.other.toNat:Nat):Int)=x.other:=Int.toNat_of_nonneg hno.1;have:=IH x.other.toNat i2 sn2 sl2 M w0 w h2 (by omega) h1 h3 h4 h
     rwa [e]at this
    have hsuc:=suc_split (p:=ps) (s:=L) (k:=k) (i:=i) (sl:=sl) hx k2;have hN1:=fun w h=>hN i sn1 sl w hi hun1 hlen1 hsl h
    clear IH hri hx k5 k1 k2 hN
    go_wp2_with (first|((with_reducible refine gL ?_);refine aGi H ?_)|(go_at_call 40;(with_reducible refine chW H (fun h=>hN1 _ h) ?_);clear H;intro b sn2 sl2 w hT1 H;rcases b with _|_;(obtain⟨e2,_⟩:=hT1.miss rfl;cases e2;(have hO2:=fun w h=>hO i sn2 sl w hi (by have:=hT1.un;omega) (hT1.len.trans hlen1) hsl h)))|(go_at_call 40;(with_reducible refine chW H (fun h=>hO2 _ h) ?_);clear H;intro b2 sn3 sl3 w hT2 H))
    ·go_ret;rw[← hrF,← hrS]at H;exact way_fin H (q:=5) i_5 (by decide) rfl rfl (WayT.second hM hk5 hsuc hT1 hT2)
    ·go_ret;rw[← hrF,← hrS]at H;exact way_fin H (q:=5) i_5 (by decide) rfl rfl (WayT.first hM hk5 hsuc hT1)
   have d2:(x.kind == 2)=false:=by rw[beq_eq_false_iff_ne];exact k2
   by_cases k4:x.kind=4
   ·have d4:(x.kind == 4)=true:=by rw[beq_iff_eq];exact k4
    have hnx:=right_next hri (.inr (.inr (.inr k4)));have hN:∀ i2 sn2 sl2 w,i2≤L.length→unF sn2<m→sn2.length=K→sl2.length=ms→HoldG M w0 w (runL rb (some ⟨bp,op,none⟩) cp ps psl csl L Fp Fs gs cs K gt ct ms sn2 sl2)→Calls Tryz.prog 40 #[.pointer (some ⟨rb,0,none⟩),.int .i64 x.next,.int .i64 (i2:Nat)] w (WayB rb (some ⟨bp,op,none⟩) cp ps psl csl L Fp Fs gs cs K gt ct ms M w0 x.next.toNat i2 sn2 sl2 w):=fun i2 sn2 sl2 w h1 h2 h3 h4 h=>by
     have e:((x.next.toNat:Nat):Int)=x.next:=Int.toNat_of_nonneg hnx.1;have:=IH x.next.toNat i2 sn2 sl2 M w0 w h2 (by omega) h1 h3 h4 h
     rwa [e]at this
    have hsp:=fun w h1 h2=>ref_Spot12 psl csl L Fs w h1 h2 x.spot i
    cases hs:isSpot x.spot L i with
    | true =>
     rw[hs]at hsp;have hsuc:=suc_spot (p:=ps) (s:=L) (k:=k) (i:=i) (sl:=sl) hx k4 hs;have hN1:=fun w h=>hN i sn1 sl w hi hun1 hlen1 hsl h
     clear IH hri hx k5 k1 k2 k4 hN hs
     go_upto_region 14 with (first|fail)
     refine wp_region_spec 13 [fun v _=>v=.pointer (some ⟨b8,8,none⟩),fun v _=>v=.int .i64 x.spot,fun v _=>v=.pointer (some ⟨rb,0,none⟩),fun v _=>v=.pointer (some ⟨rb,0,none⟩),fun v _=>v=.pointer (some ⟨rb,1,none⟩),fun v _=>v=.slice psl L.length csl,fun v _=>v=.int .i64 (i:Nat),fun v _=>v=.bool true,fun v _=>v=.bool true,fun v _=>v=.pointer (some ⟨rb,0,none⟩),fun v _=>v=.pointer (some ⟨b8,5,none⟩),fun v _=>v=.int .i64 x.next,fun v _=>v=.int .i64 (i:Nat)] (fun _=>false) (by kernel_rfl) (by kernel_rfl) (by kernel_rfl) (by repeat (first|exact trivial|refine⟨stable_eq _,?_⟩)) (fun _ _ h=>by cases h) ?ob ?en
     case ob =>
      refine⟨?_,?_,?_,?_,?_,?_,?_,?_,?_,?_,?_,?_,?_,trivial⟩<;>intro A W h
      ·(have e8:A.eval (.tmp 8)=.pointer (some ⟨b8,0,none⟩):=h.frame 8 rfl;refine rs_pure rfl ?_;simp only[execOp,e8];(simp[go_sem]<;>first|done|omega|(rw[IntKind.wrap_i64];omega)|(rw[IntKind.wrap_u8];omega)|(rw[IntKind.wrap_u64];omega)))
      ·exact rs_pure rfl (run_load1K rfl (h.dep 0 89 rfl rfl) one_spot (((H.call h.below).cell (i:=6) i_6 8).trans rfl)) (by decide)
      ·exact rs_move rfl rfl (h.frame 0 rfl)
      ·(have e91:A.eval (.tmp 91)=.pointer (some ⟨rb,0,none⟩):=h.dep 2 91 rfl rfl;refine rs_pure rfl ?_;simp only[execOp,e91];(simp[go_sem]<;>first|done|omega|(rw[IntKind.wrap_i64];omega)|(rw[IntKind.wrap_u8];omega)|(rw[IntKind.wrap_u64];omega)))
      ·(have e92:A.eval (.tmp 92)=.pointer (some ⟨rb,0,none⟩):=h.dep 3 92 rfl rfl;refine rs_pure rfl ?_;simp only[execOp,e92];(simp[go_sem]<;>first|done|omega|(rw[IntKind.wrap_i64];omega)|(rw[IntKind.wrap_u8];omega)|(rw[IntKind.wrap_u64];omega)))
      ·exact rs_pure rfl (run_load1K rfl (h.dep 4 93 rfl rfl) one_bytes ((H.call h.below).cell (i:=0) .zero 1)) (by decide)
      ·exact rs_move rfl rfl (h.frame 2 rfl)
      ·exact rs_calln rfl rfl (enters_of Tryz.func79 (by kernel_rfl) rfl) (args3 ⟨(h.dep 1 90 rfl rfl),(h.dep 5 94 rfl rfl),(h.dep 6 95 rfl rfl)⟩) (hsp W ((H.call h.below).knlt (i:=4) i_4) ((H.call h.below).kn (i:=4) i_4))
      ·exact rs_move rfl rfl (h.dep 7 96 rfl rfl)
      ·exact rs_move (wanted_g rfl (yielded_of (d:=97) rfl (h.dep 8 97 rfl rfl))) rfl (h.frame 0 rfl)
      ·(have e8:A.eval (.tmp 8)=.pointer (some ⟨b8,0,none⟩):=h.frame 8 rfl;refine rs_pure (wanted_g rfl (yielded_of (d:=97) rfl (h.dep 8 97 rfl rfl))) ?_;simp only[execOp,e8];(simp[go_sem]<;>first|done|omega|(rw[IntKind.wrap_i64];omega)|(rw[IntKind.wrap_u8];omega)|(rw[IntKind.wrap_u64];omega)))
      ·exact rs_pure (wanted_g rfl (yielded_of (d:=97) rfl (h.dep 8 97 rfl rfl))) (run_load1K rfl (h.dep 10 99 rfl rfl) one_int (((H.call h.below).cell (i:=6) i_6 5).trans rfl)) (by decide)
      ·exact rs_move (wanted_g rfl (yielded_of (d:=97) rfl (h.dep 8 97 rfl rfl))) rfl (h.frame 2 rfl)
     case en =>
      intro vals W hbw hv _;simp only[fa,Nat.reduceAdd];rw[e_ hv 0,e_ hv 1,e_ hv 2,e_ hv 3,e_ hv 4,e_ hv 5,e_ hv 6,e_ hv 7,e_ hv 8,e_ hv 9,e_ hv 10,e_ hv 11,e_ hv 12];clear hv
      try simp only[pl]
      have H:=H.call hbw
      go_wp2_with (first|fail|(go_at_call 40;(with_reducible refine chW H (fun h=>hN1 _ h) ?_);clear H;intro b sn2 sl2 w hT1 H))
      go_ret;rw[← hrF,← hrS]at H;exact way_fin H (q:=5) i_5 (by decide) rfl rfl (WayT.one hM hk5 hsuc hT1)
    | false =>
     rw[hs]at hsp;have hT:=WayT.none (p:=ps) (sl:=sl) hM hk5 (suc_spotN hx k4 hs);clear IH hri hx k5 k1 k2 k4 hN hs
     go_upto_region 14 with (first|fail)
     refine wp_region_spec 16 [fun v _=>v=.pointer (some ⟨b8,8,none⟩),fun v _=>v=.int .i64 x.spot,fun v _=>v=.pointer (some ⟨rb,0,none⟩),fun v _=>v=.pointer (some ⟨rb,0,none⟩),fun v _=>v=.pointer (some ⟨rb,1,none⟩),fun v _=>v=.slice psl L.length csl,fun v _=>v=.int .i64 (i:Nat),fun v _=>v=.bool false,fun v _=>v=.bool false,fun v _=>v=undef,fun v _=>v=undef,fun v _=>v=undef,fun v _=>v=undef,fun v _=>v=undef,fun v _=>v=Value.bool false,fun v _=>v=Value.bool false] (fun _=>false) (by kernel_rfl) (by kernel_rfl) (by kernel_rfl) (by repeat (first|exact trivial|refine⟨stable_eq _,?_⟩)) (fun _ _ h=>by cases h) ?ob ?en
     case ob =>
      refine⟨?_,?_,?_,?_,?_,?_,?_,?_,?_,?_,?_,?_,?_,?_,?_,?_,trivial⟩<;>intro A W h
      ·(have e8:A.eval (.tmp 8)=.pointer (some ⟨b8,0,none⟩):=h.frame 8 rfl;refine rs_pure rfl ?_;simp only[execOp,e8];(simp[go_sem]<;>first|done|omega|(rw[IntKind.wrap_i64];omega)|(rw[IntKind.wrap_u8];omega)|(rw[IntKind.wrap_u64];omega)))
      ·exact rs_pure rfl (run_load1K rfl (h.dep 0 89 rfl rfl) one_spot (((H.call h.below).cell (i:=6) i_6 8).trans rfl)) (by decide)
      ·exact rs_move rfl rfl (h.frame 0 rfl)
      ·(have e91:A.eval (.tmp 91)=.pointer (some ⟨rb,0,none⟩):=h.dep 2 91 rfl rfl;refine rs_pure rfl ?_;simp only[execOp,e91];(simp[go_sem]<;>first|done|omega|(rw[IntKind.wrap_i64];omega)|(rw[IntKind.wrap_u8];omega)|(rw[IntKind.wrap_u64];omega)))
      ·(have e92:A.eval (.tmp 92)=.pointer (some ⟨rb,0,none⟩):=h.dep 3 92 rfl rfl;refine rs_pure rfl ?_;simp only[execOp,e92];(simp[go_sem]<;>first|done|omega|(rw[IntKind.wrap_i64];omega)|(rw[IntKind.wrap_u8];omega)|(rw[IntKind.wrap_u64];omega)))
      ·exact rs_pure rfl (run_load1K rfl (h.dep 4 93 rfl rfl) one_bytes ((H.call h.below).cell (i:=0) .zero 1)) (by decide)
      ·exact rs_move rfl rfl (h.frame 2 rfl)
      ·exact rs_calln rfl rfl (enters_of Tryz.func79 (by kernel_rfl) rfl) (args3 ⟨(h.dep 1 90 rfl rfl),(h.dep 5 94 rfl rfl),(h.dep 6 95 rfl rfl)⟩) (hsp W ((H.call h.below).knlt (i:=4) i_4) ((H.call h.below).kn (i:=4) i_4))
      ·exact rs_move rfl rfl (h.dep 7 96 rfl rfl)
      ·exact rsk (h.dep 8 97 rfl rfl)
      ·exact rsk (h.dep 8 97 rfl rfl)
      ·exact rsk (h.dep 8 97 rfl rfl)
      ·exact rsk (h.dep 8 97 rfl rfl)
      ·exact rsk (h.dep 8 97 rfl rfl)
      ·exact rs_pick rfl rfl (h.dep 8 97 rfl rfl) (rfl)
      ·exact rs_assign rfl rfl (h.dep 14 103 rfl rfl)
     case en =>
      intro vals W hbw hv _;simp only[fa,Nat.reduceAdd];rw[e_ hv 0,e_ hv 1,e_ hv 2,e_ hv 3,e_ hv 4,e_ hv 5,e_ hv 6,e_ hv 7,e_ hv 8,e_ hv 9,e_ hv 10,e_ hv 11,e_ hv 12,e_ hv 13,e_ hv 14,e_ hv 15];clear hv
      try simp only[pl]
      have H:=H.call hbw
      go_wp2_with fail
      go_ret;rw[← hrF,← hrS]at H;exact way_fin H (q:=5) i_5 (by decide) rfl rfl (hT)
   have d4:(x.kind == 4)=false:=by rw[beq_eq_false_iff_ne];exact k4
   by_cases k3:x.kind=3
   ·have d3:(x.kind == 3)=true:=by rw[beq_iff_eq];exact k3
    have hnx:=right_next hri (.inr (.inr (.inl k3)));have hsr:=right_slot hri k3;have hN:∀ i2 sn2 sl2 w,i2≤L.length→unF sn2<m→sn2.length=K→sl2.length=ms→HoldG M w0 w (runL rb (some ⟨bp,op,none⟩) cp ps psl csl L Fp Fs gs cs K gt ct ms sn2 sl2)→Calls Tryz.prog 40 #[.pointer (some ⟨rb,0,none⟩),.int .i64 x.next,.int .i64 (i2:Nat)] w (WayB rb (some ⟨bp,op,none⟩) cp ps psl csl L Fp Fs gs cs K gt ct ms M w0 x.next.toNat i2 sn2 sl2 w):=fun i2 sn2 sl2 w h1 h2 h3 h4 h=>by
     have e:((x.next.toNat:Nat):Int)=x.next:=Int.toNat_of_nonneg hnx.1;have:=IH x.next.toNat i2 sn2 sl2 M w0 w h2 (by omega) h1 h3 h4 h
     rwa [e]at this
    obtain⟨sj,hsj⟩:∃ sj:Nat,x.slot=sj:=⟨x.slot.toNat,by omega⟩
    have hsjt:x.slot.toNat=sj:=by omega
    have hsjm:sj<ms:=by rw[hms,← hsjt];exact slot_lt hx
    have hsj:=Lib.hid hsj;have hsuc:=suc_save (p:=ps) (s:=L) (k:=k) (i:=i) (sl:=sl) hx k3;rw[hsjt]at hsuc;obtain⟨vw,hvw⟩:∃ v,sl[sj]?=some v:=⟨_,List.getElem?_eq_getElem (by omega)⟩
    have hvm:(sl.map (Value.int .i64))[sj]?=some (.int .i64 vw):=by rw[List.getElem?_map,hvw];rfl
    have hlens:(sl.map (Value.int .i64)).length=ms:=by rw[List.length_map];exact hsl
    have hmap2:(sl.map (Value.int .i64)).set sj (.int .i64 i)=(sl.set sj i).map (.int .i64):=by rw[List.map_set]
    have hlens2:((sl.set sj (i:Int)).map (Value.int .i64)).length=ms:=by rw[List.length_map,List.length_set];exact hsl
    have hback:((sl.set sj (i:Int)).map (Value.int .i64)).set sj (.int .i64 vw)=sl.map (.int .i64):=by
     rw[← hmap2,List.set_set];apply List.ext_getElem?;intro q;rw[List.getElem?_set];split
     ·rename_i e;subst e;rw[hvm];simp;omega
     ·rfl
    have hN1:=fun w h=>hN i sn1 (sl.set sj (i:Int)) w hi hun1 hlen1 (by rw[List.length_set];exact hsl) h
    clear IH hri hx k5 k1 k2 k4 k3 hN hsr hsjt
    go_upto_region 16 with (first|fail)
    refine wp_region_spec 9 [fun v _=>v=.pointer (some ⟨rb,0,none⟩),fun v _=>v=.pointer (some ⟨rb,0,none⟩),fun v _=>v=.pointer (some ⟨rb,3,none⟩),fun v _=>v=.slice (some ⟨gt,0,none⟩) ms ct,fun v _=>v=.pointer (some ⟨b8,7,none⟩),fun v _=>v=.int .i64 (sj:Nat),fun v _=>v=.pointer (some ⟨gt,sj,none⟩),fun v _=>v=.int .i64 vw,fun v _=>v=.int .i64 vw] (fun _=>false) (by kernel_rfl) (by kernel_rfl) (by kernel_rfl) (by repeat (first|exact trivial|refine⟨stable_eq _,?_⟩)) (fun _ _ h=>by cases h) ?ob ?en
    case ob =>
     refine⟨?_,?_,?_,?_,?_,?_,?_,?_,?_,trivial⟩<;>intro A W h
     ·exact rs_move rfl rfl (h.frame 0 rfl)
     ·(have e106:A.eval (.tmp 106)=.pointer (some ⟨rb,0,none⟩):=h.dep 0 106 rfl rfl;refine rs_pure rfl ?_;simp only[execOp,e106];(simp[go_sem]<;>first|done|omega|(rw[IntKind.wrap_i64];omega)|(rw[IntKind.wrap_u8];omega)|(rw[IntKind.wrap_u64];omega)))
     ·(have e107:A.eval (.tmp 107)=.pointer (some ⟨rb,0,none⟩):=h.dep 1 107 rfl rfl;refine rs_pure rfl ?_;simp only[execOp,e107];(simp[go_sem]<;>first|done|omega|(rw[IntKind.wrap_i64];omega)|(rw[IntKind.wrap_u8];omega)|(rw[IntKind.wrap_u64];omega)))
     ·exact rs_pure rfl (run_load1K rfl (h.dep 2 108 rfl rfl) one_ints ((H.call h.below).cell (i:=0) .zero 3)) (by decide)
     ·(have e8:A.eval (.tmp 8)=.pointer (some ⟨b8,0,none⟩):=h.frame 8 rfl;refine rs_pure rfl ?_;simp only[execOp,e8];(simp[go_sem]<;>first|done|omega|(rw[IntKind.wrap_i64];omega)|(rw[IntKind.wrap_u8];omega)|(rw[IntKind.wrap_u64];omega)))
     ·exact rs_pure rfl (run_load1K rfl (h.dep 4 110 rfl rfl) one_int (((H.call h.below).cell (i:=6) i_6 7).trans ((ig7 x).trans (by rw[hsj.out])))) (by decide)
     ·exact rs_idx (sz:=1) Tryz.underlying27 (fun w=>by kernel_rfl) rfl rfl (h.dep 3 109 rfl rfl) (h.dep 5 111 rfl rfl) (by omega) (by omega)
     ·exact rs_pure rfl (run_load1K rfl (h.dep 6 112 rfl rfl) one_int ((H.call h.below).row1 (i:=2) i_2 hvm)) (by decide)
     ·exact rs_assign rfl rfl (h.dep 7 113 rfl rfl)
    case en =>
     intro vals W hbw hv _;simp only[fa,Nat.reduceAdd];rw[e_ hv 0,e_ hv 1,e_ hv 2,e_ hv 3,e_ hv 4,e_ hv 5,e_ hv 6,e_ hv 7,e_ hv 8];clear hv
     try simp only[pl]
     have H:=H.call hbw
     go_upto_region 17 with fail
     refine wp_region_spec 8 [fun v _=>v=.pointer (some ⟨rb,0,none⟩),fun v _=>v=.pointer (some ⟨rb,0,none⟩),fun v _=>v=.pointer (some ⟨rb,3,none⟩),fun v _=>v=.slice (some ⟨gt,0,none⟩) ms ct,fun v _=>v=.pointer (some ⟨b8,7,none⟩),fun v _=>v=.int .i64 (sj:Nat),fun v _=>v=.int .i64 (i:Nat),fun v _=>v=.pointer (some ⟨gt,sj,none⟩)] (fun _=>false) (by kernel_rfl) (by kernel_rfl) (by kernel_rfl) (by repeat (first|exact trivial|refine⟨stable_eq _,?_⟩)) (fun _ _ h=>by cases h) ?ob ?en
     case ob =>
      refine⟨?_,?_,?_,?_,?_,?_,?_,?_,trivial⟩<;>intro A W h
      ·exact rs_move rfl rfl (h.frame 0 rfl)
      ·(have e114:A.eval (.tmp 114)=.pointer (some ⟨rb,0,none⟩):=h.dep 0 114 rfl rfl;refine rs_pure rfl ?_;simp only[execOp,e114];(simp[go_sem]<;>first|done|omega|(rw[IntKind.wrap_i64];omega)|(rw[IntKind.wrap_u8];omega)|(rw[IntKind.wrap_u64];omega)))
      ·(have e115:A.eval (.tmp 115)=.pointer (some ⟨rb,0,none⟩):=h.dep 1 115 rfl rfl;refine rs_pure rfl ?_;simp only[execOp,e115];(simp[go_sem]<;>first|done|omega|(rw[IntKind.wrap_i64];omega)|(rw[IntKind.wrap_u8];omega)|(rw[IntKind.wrap_u64];omega)))
      ·exact rs_pure rfl (run_load1K rfl (h.dep 2 116 rfl rfl) one_ints ((H.call h.below).cell (i:=0) .zero 3)) (by decide)
      ·(have e8:A.eval (.tmp 8)=.pointer (some ⟨b8,0,none⟩):=h.frame 8 rfl;refine rs_pure rfl ?_;simp only[execOp,e8];(simp[go_sem]<;>first|done|omega|(rw[IntKind.wrap_i64];omega)|(rw[IntKind.wrap_u8];omega)|(rw[IntKind.wrap_u64];omega)))
      ·exact rs_pure rfl (run_load1K rfl (h.dep 4 118 rfl rfl) one_int (((H.call h.below).cell (i:=6) i_6 7).trans ((ig7 x).trans (by rw[hsj.out])))) (by decide)
      ·exact rs_move rfl rfl (h.frame 2 rfl)
      ·exact rs_idx (sz:=1) Tryz.underlying27 (fun w=>by kernel_rfl) rfl rfl (h.dep 3 117 rfl rfl) (h.dep 5 119 rfl rfl) (by omega) (by omega)
     case en =>
      intro vals W hbw hv _;simp only[fa,Nat.reduceAdd];rw[e_ hv 0,e_ hv 1,e_ hv 2,e_ hv 3,e_ hv 4,e_ hv 5,e_ hv 6,e_ hv 7];clear hv
      try simp only[pl]
      have H:=H.call hbw
      go_upto_region 18 with (first|((with_reducible refine gT ?_);refine own_storeX wtd_ _ _ _ rfl rfl (v:=.int .i64 i) evd_ H (j:=2) i_2 hlens (by with_reducible exact one_size one_int) rfl hsjm ?_;clear H;intro w H;(simp only[List.set_cons_succ,List.set_cons_zero]at H);(rw[hmap2]at H))|fail)
      go_upto_region 20 with (first|((with_reducible refine gL ?_);refine aGi H ?_)|(go_at_call 40;(with_reducible refine chW H (fun h=>hN1 _ h) ?_);clear H;intro b sn2 sl2 w hT1 H;rcases b with _|_;(obtain⟨e2,_⟩:=hT1.miss rfl;cases e2)))
      ·skip
       refine wp_region_spec 8 [fun v _=>v=.pointer (some ⟨rb,0,none⟩),fun v _=>v=.pointer (some ⟨rb,0,none⟩),fun v _=>v=.pointer (some ⟨rb,3,none⟩),fun v _=>v=.slice (some ⟨gt,0,none⟩) ms ct,fun v _=>v=.pointer (some ⟨b8,7,none⟩),fun v _=>v=.int .i64 (sj:Nat),fun v _=>v=.int .i64 vw,fun v _=>v=.pointer (some ⟨gt,sj,none⟩)] (fun _=>false) (by kernel_rfl) (by kernel_rfl) (by kernel_rfl) (by repeat (first|exact trivial|refine⟨stable_eq _,?_⟩)) (fun _ _ h=>by cases h) ?ob ?en
       case ob =>
        refine⟨?_,?_,?_,?_,?_,?_,?_,?_,trivial⟩<;>intro A W h
        ·exact rs_move rfl rfl (h.frame 0 rfl)
        ·(have e127:A.eval (.tmp 127)=.pointer (some ⟨rb,0,none⟩):=h.dep 0 127 rfl rfl;refine rs_pure rfl ?_;simp only[execOp,e127];(simp[go_sem]<;>first|done|omega|(rw[IntKind.wrap_i64];omega)|(rw[IntKind.wrap_u8];omega)|(rw[IntKind.wrap_u64];omega)))
        ·(have e128:A.eval (.tmp 128)=.pointer (some ⟨rb,0,none⟩):=h.dep 1 128 rfl rfl;refine rs_pure rfl ?_;simp only[execOp,e128];(simp[go_sem]<;>first|done|omega|(rw[IntKind.wrap_i64];omega)|(rw[IntKind.wrap_u8];omega)|(rw[IntKind.wrap_u64];omega)))
        ·exact rs_pure rfl (run_load1K rfl (h.dep 2 129 rfl rfl) one_ints ((H.call h.below).cell (i:=0) .zero 3)) (by decide)
        ·(have e8:A.eval (.tmp 8)=.pointer (some ⟨b8,0,none⟩):=h.frame 8 rfl;refine rs_pure rfl ?_;simp only[execOp,e8];(simp[go_sem]<;>first|done|omega|(rw[IntKind.wrap_i64];omega)|(rw[IntKind.wrap_u8];omega)|(rw[IntKind.wrap_u64];omega)))
        ·exact rs_pure rfl (run_load1K rfl (h.dep 4 131 rfl rfl) one_int (((H.call h.below).cell (i:=6) i_6 7).trans ((ig7 x).trans (by rw[hsj.out])))) (by decide)
        ·exact rs_move rfl rfl (h.frame 9 rfl)
        ·exact rs_idx (sz:=1) Tryz.underlying27 (fun w=>by kernel_rfl) rfl rfl (h.dep 3 130 rfl rfl) (h.dep 5 132 rfl rfl) (by omega) (by omega)
       case en =>
        intro vals W hbw hv _;simp only[fa,Nat.reduceAdd];rw[e_ hv 0,e_ hv 1,e_ hv 2,e_ hv 3,e_ hv 4,e_ hv 5,e_ hv 6,e_ hv 7];clear hv
        try simp only[pl]
        have H:=H.call hbw
        go_wp2_with (first|((with_reducible refine gT ?_);refine own_storeX wtd_ _ _ _ rfl rfl (v:=.int .i64 vw) evd_ H (j:=2) i_2 hlens2 (by with_reducible exact one_size one_int) rfl hsjm ?_;clear H;intro w H;(simp only[List.set_cons_succ,List.set_cons_zero]at H);(rw[hback]at H))|fail)
        go_ret;rw[← hrF,← hrS]at H;exact way_fin H (q:=5) i_5 (by decide) rfl rfl (WayT.unsaved hM hk5 hsuc hT1)
      ·go_ret;rw[← hrF,← hrS]at H;exact way_fin H (q:=5) i_5 (by decide) rfl rfl (WayT.saved hM hk5 hsuc hT1)
   have d3:(x.kind == 3)=false:=by rw[beq_eq_false_iff_ne];exact k3
   have hT:=WayT.none (p:=ps) (sl:=sl) hM hk5 (suc_none hx k1 k2 k3 k4);clear IH hri hx
   go_wp2_with (first|fail)
   go_ret;rw[← hrF,← hrS]at H;exact way_fin H (q:=5) i_5 (by decide) rfl rfl (hT)
theorem made_one (z:Value) (n:Nat):(madeCells #[z] (n * 1)).toList=List.replicate n z:=by
 apply List.ext_getElem
 ·simp[madeCells]
 ·intro i h1 h2;simp[madeCells,Nat.mod_one]
theorem own_make {P:Program} {ops:Array Oper} {rest:List Oper} {o:Oper} {a:Act} {w w0:World} {Q:Exit→Act→World→Prop} {l:List Res} {M:Nat→Prop} (hg:o.guard=none) (x c:Operand) (t:TypeId) (hop:o.op=Op.makeSlice t x c) (H:HoldG M w0 w l) {e:TypeId} {i:TypeInfo} {z:Value} {bytes:Nat}
  (h1:P.underlying t=some (.slice e)) (h2:P.info? e=some i) (h3:i.zero=some z) (h4:i.size=1) (h5:i.bytes=bytes) (hz:z.cells=#[z]) {n:Nat} (hl:a.eval x=.int .i64 n) (hc:a.eval c=.int .i64 n) (b2:bytes * n≤281474976710656) (b3:n≤maxLen)
  (h:∀ g w',HoldG M w0 w' (l++[.row (.slice (some ⟨g,0,none⟩) n n) e 1 n (List.replicate n z)])→wpList P ops Q rest (a.put o.dst (.slice (some ⟨g,0,none⟩) n n)) w'):wpList P ops Q (o::rest) a w:=by
 refine wpList_make_full w hg x c t hop w0.heap.size e i z 1 h1 h2 h3 h4 .i64 .i64 n n n hl hc rfl rfl (by rw[h5];exact b2) b3 H.keep.size (fun w' r1 r2=>h w.heap.size w' ?_)
 rw[hz,made_one]at r1;exact H.add r2 r1 (fun b e=>by cases e;exact Nat.le_refl _)
def IntsR (F:Nat→Prop) (p:Option Addr) (c:Nat) (xs:List Int) (V:World):Prop:=RdN 1 V F (.slice p xs.length c) (xs.map fun v=>#[.int .i64 v])
theorem IntsR.kept {F:Nat→Prop} {p:Option Addr} {c:Nat} {xs:List Int} {V W:World} (h:IntsR F p c xs W) (hV:∀ b,F b→V.heap[b]?=W.heap[b]?):IntsR F p c xs V:=RdN.kept h hV
theorem HoldG.rowInts {M:Nat→Prop} {w0 w:World} {l:List Res} (H:HoldG M w0 w l) {i cap:Nat} {q:Option Addr} {xs:List Int} (hi:At l i (.row (.slice q xs.length cap) 3 1 xs.length (xs.map (.int .i64)))) :
  ∃ F:Nat→Prop,(∀ b,F b→(w0.heap.size≤b∨M b)∧b<w.heap.size)∧IntsR F q cap xs w:=by
 have ho:=H.all i _ hi.get;have e:xs.map (Value.int .i64)=flatR (xs.map fun v=>#[.int .i64 v]):=by
  rw[show (xs.map fun v=>#[Value.int .i64 v])=(xs.map (Value.int .i64)).map (fun v=>#[v]) by rw[List.map_map];rfl,flatR_single]
 refine⟨fun b=>(Value.slice q xs.length cap).ownBlock=some b,fun b hb=>(ho.lt b hb),?_⟩
 unfold Res.Holds at ho;rw[e]at ho;exact RdN.of_own ho (fun r hr=>by obtain⟨v,_,rfl⟩:=List.mem_map.1 hr;rfl) (by rw[List.length_map]) (fun _ _=>rfl)
def RunOut (w:World) (r:Option Slots) (e:Ending) (w':World):Prop:=match r with
 | some sl=>∃ q c F,e=.returned (.tuple #[.slice q sl.length c,.bool true])∧IntsR F q c sl w'∧∀ b,F b→b<w'.heap.size∧w.heap.size≤b
 | none=>e=.returned (.tuple #[.slice none 0 0,.bool false])
theorem mostP_I:∀ (ps:List InstD) (a:Nat),ps.foldl (fun m x=>max m x.slot) (a:Int)=((ps.foldl (fun m x=>max m x.slot.toNat) a:Nat):Int)
 | [],_=>rfl
 | x::r,a=>by
  simp only[List.foldl_cons];rw[show max (a:Int) x.slot=((max a x.slot.toNat:Nat):Int) by omega]
  exact mostP_I r _
theorem most_le {ps:List InstD} (h:∀ x ∈ ps,x.slot<42):mostP ps≤41:=by
 have:∀ (l:List InstD) (a:Nat),a≤41→(∀ x ∈ l,x.slot<42)→l.foldl (fun m x=>max m x.slot.toNat) a≤41:=by
  intro l
  induction l with
  | nil=>intro a ha _;exact ha
  | cons y r ih=>intro a ha hl;exact ih _ (show max a y.slot.toNat≤41 by have:=hl y (List.mem_cons_self ..);omega) (fun x hx=>hl x (List.mem_cons_of_mem _ hx))
 exact this ps 1 (by omega) h
theorem right_slot' {n:Nat} {x:InstD} (h:rightI n x=true):x.slot<42:=by
 unfold rightI inN at h;split at h
 ·simp at h;omega
 split at h
 ·simp at h;omega
 split at h
 ·simp at h;omega
 split at h
 ·simp at h;omega
 split at h
 ·simp at h;omega
 ·cases h
theorem slots_right {ps:List InstD} (h:rightP ps=true):slotsI ps=slotsP ps∧2≤slotsP ps∧slotsP ps≤42:=by
 have hl:mostP ps≤41:=most_le fun x hx=>by
  simp only[rightP,Bool.and_eq_true,List.all_eq_true]at h;exact right_slot' (h.2 x hx)
 have hm:mostI ps=(mostP ps:Int):=mostP_I ps 1;have h1:1≤mostP ps:=by
  have mono:∀ (l:List InstD) (b:Nat),b≤l.foldl (fun m x=>max m x.slot.toNat) b:=by
   intro l
   induction l with
   | nil=>intro b;exact Nat.le_refl _
   | cons z l ih=>intro b;exact Nat.le_trans (Nat.le_max_left _ _) (ih _)
  exact mono ps 1
 unfold slotsI slotsP;rw[hm];refine⟨?_,by omega,by omega⟩
 have e:((mostP ps:Int)).tdiv 2=((mostP ps / 2:Nat):Int):=by
  rw[Int.tdiv_eq_ediv_of_nonneg (by omega)];omega
 rw[e];unfold wrap64;omega
theorem info_bool:(Tryz.prog.info? 4).map (fun i=>(i.zero,i.size,i.bytes))=some (some (.bool false),1,1):=by kernel_rfl
theorem run_run0 (p q g:Option Addr) (n c m d k e:Nat) (W:World):(Instr.build 110 #[(0,.slice p n c),(1,.slice q m d),(2,.slice g k e)]).run Tryz.prog W=.ok (.agg #[.slice p n c,.slice q m d,.slice g k e,.slice none 0 0]) W:=by simp[go_sem]
theorem bRun {ops:Array Oper} {dst:Option Tmp} {ty:TypeId} {pos:String} {aft:Array Edge} {grd:Option (Nat × Bool)} {rest:List Oper} {a:Act} {w:World} {Q:Exit→Act→World→Prop} {x y z:Operand} {p q g:Option Addr} {n c m d k e:Nat} (h:wpList Tryz.prog ops Q rest (a.put dst (.agg #[.slice p n c,.slice q m d,.slice g k e,.slice none 0 0])) w) (hg:Region.wanted (⟨dst,.build 110 #[(0,x),(1,y),(2,z)],ty,pos,aft,grd⟩:Oper) (yielded ops a.tmps)=true:=by first|rfl|exact wanted_g rfl (yielded_of rfl (by first|rfl|(simp only[pe];rfl)))) (h0:a.eval x=.slice p n c:=by first|(simp only[pe];done)|(simp only[pe];rfl)) (h1:a.eval y=.slice q m d:=by first|(simp only[pe];done)|(simp only[pe];rfl)) (h2:a.eval z=.slice g k e:=by first|(simp only[pe];done)|(simp only[pe];rfl)):wpList Tryz.prog ops Q ((⟨dst,.build 110 #[(0,x),(1,y),(2,z)],ty,pos,aft,grd⟩:Oper)::rest) a w :=
 own_pure hg (by simp only[execOp,List.map_toArray,List.map_cons,List.map_nil,h0,h1,h2,Sem.run_bind,run_run0];rfl) h
theorem sof_none (L K:Nat):Sof L (List.replicate K false)=fun _ _=>false:=by
 funext a j
 unfold Sof;rw[List.getD_eq_getElem?_getD,List.getElem?_replicate];split<;>simp
theorem ref_Run14 (pp:Option Addr) (cp:Nat) (ps:List InstD) (psl:Option Addr) (csl:Nat) (L:Str) (at_:Int) (Fp Fs:Nat→Prop) (w0:World) (hset:∀ x ∈ ps,SetOk x.set) (hL:L.length≤1000) (hFp:∀ b,Fp b→b<w0.heap.size) (hFs:∀ b,Fs b→b<w0.heap.size) (hp:InstsR Fp pp cp ps w0) (hs:BytesR Fs psl csl L w0) :
  Calls Tryz.prog 25 #[.slice pp ps.length cp,.slice psl L.length csl,.int .i64 at_] w0 fun e w'=>RunOut w0 (runP ps L at_) e w'∧Below w0.heap.size w0 w':=by
 have hr:=fun w h1 h2=>ref_Right13 pp cp ps Fp w h1 h2
 have H:=(Hold.insts hFp hp).know Fs (BytesR Fs psl csl L) hFs (fun i r h=>by
  rcases i with _|i
  ·simp at h;subst h;intro b hb;cases hb
  ·simp at h) (fun V hV=>hs.kept hV)
 simp only[List.cons_append,List.nil_append]at H;have hbp:=hp.bound;clear hp hs
 by_cases hR:rightP ps=true
 case neg =>
  have hR':rightP ps=false:=by simpa using hR
  have E:=Lib.hid (show runP ps L at_=none by unfold runP;rw[if_pos (.inr (.inr hR'))])
  rw[hR']at hr;clear hR hR'
  go_enter Tryz.func25,Tryz.ntmps25
  go_wp2_with (first|fail|(go_at_call 38;(with_reducible refine ch (hr _ (H.knlt (i:=0) .zero) (H.kn (i:=0) .zero)) H ?_);clear H;intro w H))
  go_ret2
  exact⟨by rw[E.out];rfl,H.below⟩
 rw[hR]at hr
 by_cases h1:at_<0
 ·have d1:decide (at_<0)=true:=decide_eq_true h1;have E:=Lib.hid (show runP ps L at_=none by unfold runP;rw[if_pos (.inl h1)])
  clear h1 hR
  go_enter Tryz.func25,Tryz.ntmps25
  go_wp2_with (first|fail|(go_at_call 38;(with_reducible refine ch (hr _ (H.knlt (i:=0) .zero) (H.kn (i:=0) .zero)) H ?_);clear H;intro w H))
  go_ret2
  exact⟨by rw[E.out];rfl,H.below⟩
 have d1:decide (at_<0)=false:=decide_eq_false h1
 by_cases h2:(L.length:Int)<at_
 ·have d2:decide ((L.length:Int)<at_)=true:=decide_eq_true h2;have E:=Lib.hid (show runP ps L at_=none by unfold runP;rw[if_pos (.inr (.inl h2))])
  clear h1 h2 hR
  go_enter Tryz.func25,Tryz.ntmps25
  go_wp2_with (first|fail|(go_at_call 38;(with_reducible refine ch (hr _ (H.knlt (i:=0) .zero) (H.kn (i:=0) .zero)) H ?_);clear H;intro w H))
  go_ret2
  exact⟨by rw[E.out];rfl,H.below⟩
 obtain⟨a,rfl⟩:∃ a:Nat,at_=a:=⟨at_.toNat,by omega⟩
 have ha:a≤L.length:=by omega
 have d2:decide (L.length<a)=false:=decide_eq_false (by omega)
 have d3:decide ((L.length:Int)<(a:Int))=false:=decide_eq_false (by omega)
 clear h1 h2;obtain⟨hsi,hs2,hs42⟩:=slots_right hR;have hDF:=runP_dfs (p:=ps) (s:=L) (a:=(a:Int)) (by omega) (by omega) hR
 rw[Int.toNat_natCast]at hDF;have hn4:1≤ps.length∧ps.length≤4000:=by
  simp only[rightP,Bool.and_eq_true,decide_eq_true_eq]at hR;exact hR.1
 have hsl:=fun w h1 h2=>ref_Slots13 pp cp ps Fp w h1 h2
 rw[hsi]at hsl;obtain⟨ms,hms⟩:∃ ms,slotsP ps=ms:=⟨_,rfl⟩;rw[hms]at hsl hs2 hs42 hDF;obtain⟨K,hK⟩:∃ K,ps.length * (L.length+1)=K:=⟨_,rfl⟩;have hKle:K≤4004000:=by
  have:ps.length * (L.length+1)≤4000 * (L.length+1):=Nat.mul_le_mul_right _ hn4.2;omega
 have hmul:wrap64 ((ps.length:Int) * ((L.length:Int)+1))=(K:Int):=by
  have e0:(ps.length:Int) * ((L.length:Int)+1)=((ps.length * (L.length+1):Nat):Int):=by push_cast;rfl
  rw[e0,hK];unfold wrap64;omega
 obtain⟨ib,hib,hb0,hb1,hb2⟩:=info_parts info_bool;obtain⟨ii,hii,hi0,hi1,hi2⟩:=info_parts info_int
 go_enter Tryz.func25,Tryz.ntmps25
 go_upto_region 4 with (first|((with_reducible show @wpList _ _ _ ({dst:=_,op:=Op.makeSlice _ _ _,type:=_,pos:=_,after:=_,guard:=_}::_) _ _);refine own_make rfl _ _ 108 rfl H Tryz.underlying108 hib hb0 hb1 hb2 rfl (n:=K) (by rw[← hmul];rfl) (by rw[← hmul];rfl) (by omega) (by unfold maxLen;omega) ?_;clear H;intro gs w H;simp only[List.cons_append,List.nil_append]at H)|((with_reducible refine gZ ?_);refine bRun ?_)|((first|((with_reducible refine kgA 34 ?_);refine kA 34 H ?_)|((with_reducible refine kgX 34 ?_);(first|refine kS 34 H ?_|refine kB 34 H ?_)));clear H;intro b34 w H;try simp only[nr]at H)|fail|(go_at_call 38;(with_reducible refine ch (hr _ (H.knlt (i:=0) .zero) (H.kn (i:=0) .zero)) H ?_);clear H;intro w H))
 have H2:=(H.addNil 3 1).pick [3,2,4,0,1] [.blk b34 #[.slice pp ps.length cp,.slice psl L.length csl,.slice (some ⟨gs,0,none⟩) K K,(.slice none 0 0)] 110,.row (.slice (some ⟨gs,0,none⟩) K K) 4 1 K ((List.replicate K false).map .bool),.row (.slice none 0 0) 3 1 0 (List.replicate 0 (.int .i64 (-1))),.kn Fp (InstsR Fp pp cp ps),.kn Fs (BytesR Fs psl csl L)] (by decide) (by simp only[List.map_replicate];rfl)
 clear H;have H:=H2;clear H2 hr hmul
 go_wp2_with (first|fail)
 go_loopw [9] (fun ix wr=>∃ (j:Nat) (vq:Option Addr) (vc:Nat),j≤ms∧ix=.int .i64 j∧Hold w0 wr [.blk b34 #[.slice pp ps.length cp,.slice psl L.length csl,.slice (some ⟨gs,0,none⟩) K K,(.slice vq j vc)] 110,.row (.slice (some ⟨gs,0,none⟩) K K) 4 1 K ((List.replicate K false).map .bool),.row (.slice vq j vc) 3 1 j (List.replicate j (.int .i64 (-1))),.kn Fp (InstsR Fp pp cp ps),.kn Fs (BytesR Fs psl csl L)]) (fun ix _=>ms+1 - (intOf ix).toNat)
 case atStart=>exact⟨0,none,0,by omega,rfl,H⟩
 case round =>
  clear H;obtain⟨j,vq,vc,hj,rfl,H⟩:=hrel
  by_cases hlt:j<ms
  ·have dj:decide (j<ms)=true:=decide_eq_true hlt;have dj2:decide ((j:Int)<(ms:Int))=true:=decide_eq_true (by omega)
   go_wp2_with (first|(at_builtin;refine own_append rfl _ _ 27 rfl H (i:=2) (j:=5) evd_ rfl i_2 i_5 Tryz.underlying27 hii hi0 hi1 hi2 rfl (by decide) rfl rfl (by unfold maxLen;omega) (by omega) ?_;clear H;intro v2 w H;(try simp only[nr]at H);(obtain⟨q2,c2,rfl,_,_,_⟩:=H.rowShape (i:=2) i_2))|((with_reducible show @wpList _ _ _ ({dst:=_,op:=Op.buildSlice _ _ _,type:=_,pos:=_,after:=_,guard:=_}::_) _ _);refine own_build wtd_ _ _ _ rfl H (#[.int .i64 (-1)]) 3 (by intro W;simp only[List.map_toArray,List.map_cons,List.map_nil];(try simp only[pe]);(try unfold setV);simp[go_sem]<;>rfl) ?_;clear H;intro b w H;try simp only[nr]at H)|(first|((with_reducible refine gT ?_);(refine aO H ?_;clear H;intro w H;try simp only[nr]at H))|((with_reducible refine gL ?_);refine aG H ?_))|(go_at_call 39;(with_reducible refine ch (hsl _ (H.knlt (i:=3) i_3) (H.kn (i:=3) i_3)) H ?_);clear H;intro w H))
   have hrep:List.replicate j (Value.int .i64 (-1))++[Value.int .i64 (-1)]=List.replicate (j+1) (.int .i64 (-1)):=by rw[List.replicate_succ']
   go_roundw
   case rel=>exact⟨j+1,q2,c2,by omega,by go_num,by rw[← hrep];exact H.pick [0,1,2,3,4] _ (by decide) rfl⟩
   case measure=>simp[intOf];omega
  ·have hjm:j=ms:=by omega
   subst hjm;have dj:decide (j<j)=false:=by simp
   have dj2:decide ((j:Int)<(j:Int))=false:=by simp
   obtain⟨q2,c2,e2,_,_,hq2⟩:=H.rowShape (i:=2) i_2;obtain⟨gt,rfl⟩:=hq2 (by omega)
   simp only[Value.slice.injEq]at e2;obtain⟨rfl,_,rfl⟩:=e2;have hway:=fun m k i sn sl M w0 w=>ref_way b34 pp cp ps psl csl L Fp Fs gs K K gt vc j hR hset hL hn4.2 hK.symm hms.symm m k i sn sl M w0 w
   have hrep:(List.replicate j (-1:Int)).map (Value.int .i64)=List.replicate j (.int .i64 (-1)):=by rw[List.map_replicate]
   rw[← hrep]at H;clear hrep hlt
   go_wp2_with (first|fail|(go_at_call 39;(with_reducible refine ch (hsl _ (H.knlt (i:=3) i_3) (H.kn (i:=3) i_3)) H ?_);clear H;intro w H))
   clear hsl
   go_loopw [10] (fun ix wr=>∃ (i:Nat) (sn:List Bool),i≤L.length+1∧ix=.int .i64 i∧Hid (sn.length=K)∧Hid (∀ res,Dfs ps L none (startsP (List.replicate j (-1)) none i (L.length+1 - i)) (Sof L.length sn) res→Dfs ps L none (startsP (List.replicate j (-1)) none a (L.length+1 - a)) (fun _ _=>false) res)∧Hold w0 wr (runL b34 pp cp ps psl csl L Fp Fs gs K K gt vc j sn (List.replicate j (-1)))) (fun ix _=>L.length+2 - (intOf ix).toNat)
   case atStart=>exact⟨a,List.replicate K false,by omega,rfl,Lib.hid (by simp),Lib.hid (fun res h=>by rwa [sof_none]at h),H⟩
   case round =>
    clear H;obtain⟨i,sn,hi,rfl,HSN,HD,H⟩:=hrel;simp only[runL]at H
    by_cases hil:i≤L.length
    ·have di:decide (i≤L.length)=true:=decide_eq_true hil;have di2:decide ((i:Int)≤(L.length:Int))=true:=decide_eq_true (by omega)
     have hw1:∀ w,_→Calls Tryz.prog 40 #[.pointer (some ⟨b34,0,none⟩),.int .i64 0,.int .i64 i] w _:=fun w h=>hway (unF sn+1) 0 i sn (List.replicate j (-1)) (fun _=>False) w0 w (by omega) (by omega) hil HSN.out (by simp) h
     have hst:startsP (List.replicate j (-1)) none i (L.length+1 - i)=(0,i,List.replicate j (-1))::startsP (List.replicate j (-1)) none (i+1) (L.length+1 - (i+1)):=by
      rw[show L.length+1 - i=(L.length+1 - (i+1))+1 by omega]
      simp[startsP,List.range'_succ]
     have HST:=Lib.hid hst;clear hst hway
     go_wp2_with (first|((with_reducible refine gL ?_);refine aG H ?_)|(go_at_call 40;(with_reducible refine chW H (fun h=>hw1 _ h) ?_);clear H;intro b sn2 sl2 w hT1 H;rcases b with _|_;(obtain⟨e2,_⟩:=hT1.miss rfl;cases e2)))
     ·have hm:=(hT1.miss rfl).2;go_roundw
      case rel=>exact⟨i+1,sn2,by omega,by go_num,Lib.hid (hT1.len.trans HSN.out),Lib.hid (fun res h=>HD.out res (by rw[HST.out];exact hm none _ res h)),H⟩
      case measure=>simp[intOf];omega
     ·have hd:=HD.out _ (by rw[HST.out];exact hT1.hit rfl none _)
      have E:=Lib.hid (hDF.one hd);have hsl2:sl2.length=j:=by rw[hT1.slen];simp
      have HSL:=Lib.hid hsl2;clear hsl2 hd
      go_ret2
      refine⟨?_,H.below⟩;rw[E.out];rw[← HSL.out]at H;obtain⟨F9,hF9,hI⟩:=H.rowInts (i:=2) i_2;exact⟨some ⟨gt,0,none⟩,vc,F9,by rw[HSL.out];rfl,hI,fun b h=>⟨(hF9 b h).2,(hF9 b h).1.elim id False.elim⟩⟩
    ·have di:decide (i≤L.length)=false:=decide_eq_false hil;have di2:decide ((i:Int)≤(L.length:Int))=false:=decide_eq_false (by omega)
     have hd:=HD.out none (by rw[show L.length+1 - i=0 by omega];exact .nil _)
     have E:=Lib.hid (hDF.one hd);clear hd hway
     go_wp2_with (first|fail)
     go_ret2
     exact⟨by rw[E.out];rfl,H.below⟩
theorem HoldG.blkRowN {M:Nat→Prop} {w0 W:World} {l:List Res} (H:HoldG M w0 W l) {i b sz n:Nat} {cs:Array Value} {T:TypeId} (hi:At l i (.blk b cs T)) (hM:¬ M b) (hs:cs.size=n * sz) (hn:n≤maxLen):HoldG M w0 W (l.set i (.row (.slice (some ⟨b,0,none⟩) n n) T sz n cs.toList)):=by
 have hb:=H.blk hi;refine H.upd hi.get ⟨rfl,rfl,rfl,Nat.le_refl _,fun _ _ _=>rfl⟩ ⟨by simp[hs],.inr ⟨b,n,cs,rfl,hb.1.resolve_right hM,hb.2,Nat.le_refl _,hn,by simp[hs],?_⟩⟩ (fun _ e=>.inl e)
 rw[List.take_of_length_le (by simp[hs])]
theorem flatI (xs:List Int):flatR (xs.map fun v=>#[Value.int .i64 v])=xs.map (.int .i64):=by
 rw[show (xs.map fun v=>#[Value.int .i64 v])=(xs.map (Value.int .i64)).map (fun v=>#[v]) by rw[List.map_map];rfl,flatR_single]
theorem IntsR.bound {F:Nat→Prop} {p:Option Addr} {c:Nat} {xs:List Int} {W:World} (h:IntsR F p c xs W):xs.length≤c∧c≤9223372036854775807:=by
 obtain⟨p',c',e,h1,h2,_⟩:=h;simp only[Value.slice.injEq]at e;obtain⟨rfl,_,rfl⟩:=e;rw[List.length_map]at h1;exact⟨h1,by simpa [maxLen] using h2⟩
theorem IntsR.at {F:Nat→Prop} {p:Option Addr} {c:Nat} {xs:List Int} {W:World} (h:IntsR F p c xs W) (hn:0<xs.length):∃ b off,p=some ⟨b,off,none⟩:=by
 obtain⟨p',c',e,_,_,_,h3⟩:=h;simp only[Value.slice.injEq]at e;obtain⟨rfl,_,rfl⟩:=e;obtain⟨b,off,e2,_⟩:=h3 0 #[.int .i64 xs[0]] (by rw[List.getElem?_map,List.getElem?_eq_getElem hn];rfl)
 exact⟨b,off,e2⟩
theorem IntsR.nil (F:Nat→Prop) (V:World):IntsR F none 0 [] V:=RdN.nil ..
theorem IntsR.none0 {F:Nat→Prop} {p:Option Addr} {c:Nat} {xs:List Int} {W:World} (h:IntsR F p c xs W) (hp:p=none):xs=[]∧c=0:=by
 obtain⟨p',c',e,h1,h2,h0,_⟩:=h;simp only[Value.slice.injEq]at e;obtain⟨rfl,_,rfl⟩:=e;rw[List.length_map]at h1;have:=h0 hp;subst this;exact⟨List.length_eq_zero_iff.1 (by omega),rfl⟩
theorem run_eqN {o:Oper} {a:Act} {w:World} {x y:Operand} {U:TypeId} {p:Option Addr} {n c:Nat} (hop:o.op=.binOp .eql 27 x y U) (hx:a.eval x=.slice p n c) (hy:a.eval y=.slice none 0 0):(execOp a.eval o).run Tryz.prog w=.ok (.value (.bool p.isNone)) w:=by
 simp only[execOp,hop,hx,hy];simp[go_sem,binOp,run_equal_slice_nil w 27 _ p n c Tryz.underlying27]
theorem run_neN {o:Oper} {a:Act} {w:World} {x y:Operand} {U:TypeId} {p:Option Addr} {n c:Nat} (hop:o.op=.binOp .neq 27 x y U) (hx:a.eval x=.slice p n c) (hy:a.eval y=.slice none 0 0):(execOp a.eval o).run Tryz.prog w=.ok (.value (.bool (!p.isNone))) w:=by
 simp only[execOp,hop,hx,hy];simp[go_sem,binOp,run_equal_slice_nil w 27 _ p n c Tryz.underlying27]
section
variable {ops:Array Oper} {dst:Option Tmp} {ty:TypeId} {pos:String} {aft:Array Edge} {grd:Option (Nat × Bool)} {rest:List Oper} {a:Act} {w:World} {Q:Exit→Act→World→Prop}
theorem gEN {U:TypeId} {x y:Operand} (h:wpList Tryz.prog ops Q ((⟨dst,.binOp .eql 27 x y U,ty,pos,aft,grd⟩:Oper)::rest) a w):wpList Tryz.prog ops Q ((⟨dst,.binOp .eql 27 x y U,ty,pos,aft,grd⟩:Oper)::rest) a w:=h
theorem eN {U:TypeId} {x y:Operand} {p:Option Addr} {n c:Nat} (h:wpList Tryz.prog ops Q rest (a.put dst (.bool p.isNone)) w) (hg:Region.wanted (⟨dst,.binOp .eql 27 x y U,ty,pos,aft,grd⟩:Oper) (yielded ops a.tmps)=true:=by first|rfl|exact wanted_g rfl (yielded_of rfl (by first|rfl|(simp only[pe];rfl)))) (hx:a.eval x=.slice p n c:=by first|(simp only[pe];done)|(simp only[pe];rfl)) (hy:a.eval y=.slice none 0 0:=by rfl):wpList Tryz.prog ops Q ((⟨dst,.binOp .eql 27 x y U,ty,pos,aft,grd⟩:Oper)::rest) a w :=
 own_pure hg (run_eqN rfl hx hy) h
theorem gNN {U:TypeId} {x y:Operand} (h:wpList Tryz.prog ops Q ((⟨dst,.binOp .neq 27 x y U,ty,pos,aft,grd⟩:Oper)::rest) a w):wpList Tryz.prog ops Q ((⟨dst,.binOp .neq 27 x y U,ty,pos,aft,grd⟩:Oper)::rest) a w:=h
theorem nN {U:TypeId} {x y:Operand} {p:Option Addr} {n c:Nat} (h:wpList Tryz.prog ops Q rest (a.put dst (.bool (!p.isNone))) w) (hg:Region.wanted (⟨dst,.binOp .neq 27 x y U,ty,pos,aft,grd⟩:Oper) (yielded ops a.tmps)=true:=by first|rfl|exact wanted_g rfl (yielded_of rfl (by first|rfl|(simp only[pe];rfl)))) (hx:a.eval x=.slice p n c:=by first|(simp only[pe];done)|(simp only[pe];rfl)) (hy:a.eval y=.slice none 0 0:=by rfl):wpList Tryz.prog ops Q ((⟨dst,.binOp .neq 27 x y U,ty,pos,aft,grd⟩:Oper)::rest) a w :=
 own_pure hg (run_neN rfl hx hy) h
end
theorem run_ints0 (W:World):(Instr.buildSlice 27 0 #[]).run Tryz.prog W=.ok (.slice (some ⟨W.heap.size,0,none⟩) 0 0) (W.alloc (.cells #[] 3)):=by kernel_rfl
def OwnI (w:World) (xs:List Int) (e:Ending) (w':World):Prop:=∃ q c,e=.returned (.slice q xs.length c)∧w'.ownsRow w.heap.size 3 1 (.slice q xs.length c) xs.length (xs.map (.int .i64))∧Below w.heap.size w w'
theorem sl_Clone (q:Option Addr) (c:Nat) (xs:List Int) (F:Nat→Prop) (w0:World) (hn:xs.length≤1000000) (hF:∀ b,F b→b<w0.heap.size) (h:IntsR F q c xs w0) :
  Calls Tryz.prog 24 #[.slice q xs.length c] w0 fun e w'=>OwnI w0 xs e w':=by
 have H:=(Hold.start w0).know F (IntsR F q c xs) hF (fun i r h=>by simp at h) (fun V hV=>h.kept hV)
 simp only[List.nil_append]at H;have hnil:=h.none0;clear h;obtain⟨ii,hii,hi0,hi1,hi2⟩:=info_parts info_int
 cases q with
 | none =>
  obtain⟨hx,hc⟩:=hnil rfl;subst hx hc
  go_enter Tryz.func24,Tryz.ntmps24
  go_wp2_with (first|((with_reducible refine gEN ?_);refine eN ?_)|fail)
  go_ret;exact⟨none,0,rfl,World.ownsRow_nil _ _ _ _,H.below⟩
 | some ad =>
  obtain⟨n,hnn⟩:∃ n,xs.length=n:=⟨_,rfl⟩;have HN:=Lib.hid hnn;rw[hnn]at hn ⊢;clear hnn;have hrd:∀ V,IntsR F (some ad) c xs V→RdN 1 V F (.slice (some ad) n c) (xs.map fun v=>#[.int .i64 v]):=fun V h=>by have:=HN.out;subst this;exact h
  go_enter Tryz.func24,Tryz.ntmps24
  go_wp2_with (first|((with_reducible refine gEN ?_);refine eN ?_)|((with_reducible show @wpList _ _ _ ({dst:=_,op:=Op.buildSlice _ _ _,type:=_,pos:=_,after:=_,guard:=_}::_) _ _);refine own_build wtd_ _ _ _ rfl H #[] 3 (by intro W;simp only[List.map_toArray,List.map_nil];exact run_ints0 W) ?_;clear H;intro bk w H;(have H2:=H.blkRowN (i:=1) (sz:=1) (n:=0) i_1 id rfl (by decide));clear H;(have H:=H2);clear H2;simp only[List.cons_append,List.nil_append,List.set_cons_succ,List.set_cons_zero]at H)|(at_builtin;refine own_appendK rfl _ _ 27 rfl H (i:=1) evd_ evd_ i_1 (hrd _ (H.kn (i:=0) .zero)) (fun r hr=>by obtain⟨v,_,rfl⟩:=List.mem_map.1 hr;rfl) Tryz.underlying27 hii hi0 hi1 hi2 rfl (by decide) (fun u hu=>by rw[flatI]at hu;obtain⟨v,_,rfl⟩:=List.mem_map.1 hu;rfl) (by unfold maxLen;omega) (by omega) ?_;clear H;intro v2 w H;try simp only[nr]at H)|fail)
  go_ret;rw[flatI]at H;simp only[List.nil_append,Nat.zero_add]at H;obtain⟨q2,c2,rfl,_,_,_⟩:=H.rowShape (i:=1) i_1;rw[← HN.out]at H;refine⟨q2,c2,?_,H.all 1 _ rfl,H.below⟩;rw[HN.out];rfl
theorem HoldG.gainRowX {M:Nat→Prop} {w0 w w':World} {l:List Res} (H:HoldG M w0 w l) (hb:Below w.heap.size w w') {e:TypeId} {sz n:Nat} {v:Value} {xs:List Value} (ho:w'.ownsRow w.heap.size e sz v n xs):HoldG M w0 w' (l++[.row v e sz n xs]):=by
 have H':=H.call hb;refine⟨H'.keep,?_,?_⟩
 ·intro j s hs;rw[List.getElem?_append]at hs;split at hs
  ·exact H'.all j s hs
  ·rcases List.getElem?_eq_some_iff.1 hs with ⟨h3,h4⟩
   simp at h3;simp[h3]at h4;subst h4;exact ho.mono H.keep.size
 ·intro j k s t hjk hs ht;rw[List.getElem?_append]at hs ht;split at hs
  ·split at ht
   ·exact H'.apart j k s t hjk hs ht
   ·rcases List.getElem?_eq_some_iff.1 ht with ⟨h3,h4⟩
    simp at h3;simp[h3]at h4;subst h4;intro z hz1 hz2;have h1:=((H.all j s hs).lt z hz1).2;have h2:=(World.ownsRow.lt ho z hz2).1;omega
  ·rcases List.getElem?_eq_some_iff.1 hs with ⟨h3,h4⟩
   simp at h3;simp[h3]at h4;subst h4;split at ht
   ·intro z hz1 hz2;have h1:=(H.all k t ht).ltf z hz2;have h2:=(World.ownsRow.lt ho z hz1).1;omega
   ·rcases List.getElem?_eq_some_iff.1 ht with ⟨h5,h6⟩
    simp at h5;omega
theorem chI {M:Nat→Prop} {P:Program} {f:FuncId} {args:Array Value} {w w0:World} {l:List Res} {xs:List Int} {R:Ending→World→Prop} (c:Calls P f args w fun e w'=>OwnI w xs e w') (H:HoldG M w0 w l)
  (k:∀ q c w',HoldG M w0 w' (l++[.row (.slice q xs.length c) 3 1 xs.length (xs.map (.int .i64))])→R (.returned (.slice q xs.length c)) w'):Calls P f args w R:=c.mono fun _ w' ⟨q,c,e,ho,hb⟩=>by
 subst e;exact k q c w' (H.gainRowX hb ho)
def KnowI (w:World) (xs:List Int) (e:Ending) (w':World):Prop:=∃ q c F,e=.returned (.slice q xs.length c)∧IntsR F q c xs w'∧∀ b,F b→b<w'.heap.size∧w.heap.size≤b
theorem vm_noted (at_ slot:Nat) (q:Option Addr) (c:Nat) (xs:List Int) (F:Nat→Prop) (w0:World) (hn:xs.length≤1000000) (hs:slot<xs.length) (hF:∀ b,F b→b<w0.heap.size) (h:IntsR F q c xs w0) :
  Calls Tryz.prog 76 #[.int .i64 at_,.int .i64 slot,.slice q xs.length c] w0 fun e w'=>KnowI w0 (xs.set slot at_) e w'∧Below w0.heap.size w0 w':=by
 have H:=(Hold.start w0).know F (IntsR F q c xs) hF (fun i r h=>by simp at h) (fun V hV=>h.kept hV)
 simp only[List.nil_append]at H;clear h;have hcl:=fun w h1 h2=>sl_Clone q c xs F w hn h1 h2
 obtain⟨n,hnn⟩:∃ n,xs.length=n:=⟨_,rfl⟩;have HN:=Lib.hid hnn;have hlen:(xs.map (Value.int .i64)).length=n:=by rw[List.length_map];exact hnn
 rw[hnn]at hn hs hcl ⊢;have hset:(xs.set slot (at_:Int)).length=n:=by rw[List.length_set];exact hnn
 clear hnn;have HS:=Lib.hid hset;clear hset
 go_enter Tryz.func76,Tryz.ntmps76
 go_upto_region 2 with (first|fail|(go_at_call 24;refine chI (hcl _ (H.knlt (i:=0) .zero) (H.kn (i:=0) .zero)) H ?_;clear H hcl;intro q1 c1 w H;simp only[List.cons_append,List.nil_append]at H))
 rw[HN.out]at H ⊢;obtain⟨q2,c2,e2,_,_,hq2⟩:=H.rowShape (i:=1) i_1;obtain⟨g,rfl⟩:=hq2 (by omega)
 simp only[Value.slice.injEq]at e2;obtain⟨rfl,_,rfl⟩:=e2
 go_wp2_with (first|((with_reducible refine gT ?_);refine own_storeX wtd_ _ _ _ rfl rfl (v:=.int .i64 at_) evd_ H (j:=1) i_1 hlen (by with_reducible exact one_size one_int) rfl hs ?_;clear H;intro w H;simp only[List.set_cons_succ,List.set_cons_zero]at H)|fail)
 go_ret;refine⟨?_,H.below⟩;rw[show (xs.map (Value.int .i64)).set slot (.int .i64 at_)=(xs.set slot (at_:Int)).map (.int .i64) by rw[List.map_set],← HS.out]at H
 obtain⟨F9,hF9,hI⟩:=H.rowInts (i:=1) i_1;exact⟨some ⟨g,0,none⟩,c1,F9,by rw[HS.out];rfl,hI,fun b h=>⟨(hF9 b h).2,(hF9 b h).1.elim id False.elim⟩⟩
end Go.Proofs.YtdoflhjhaciepaaGreat
namespace Go.Proofs.YtdoflhjhaciepaaGreat
open Go.RowKit
structure RCtxU (C:List Nat) (hd l:List Oper) (e i:Nat) (Ss:Nat→Value→World→Prop) (S1:Value→World→Prop) (a0:Act) (w0:World) (o:Oper) (a:Act) (w:World):Prop where
 st:Below w0.heap.size w0 w∨∃ v,S1 v w
 frame:∀ t,hd.any (fun o=>o.dst == some t)=false→a.eval (.tmp t)=a0.eval (.tmp t)
 dep:∀ j d,(i=e∨j ∉ C)→o.after.toList.any (fun e=>Region.binds .any e&&e.on == j)=true→(hd[j]?).bind (·.dst)=some d→Ss j (a.eval (.tmp d)) w
 ahead:∀ oe,l[e]?=some oe→oe.after.toList.any (fun x=>Region.binds .any x&&x.on == i)=true→Below w0.heap.size w0 w
def FreshS (n0:Nat) (cs:Array Value) (T:TypeId) (v:Value) (W:World):Prop:=∃ b,v=.slice (some ⟨b,0,none⟩) 1 1∧n0≤b∧W.heap[b]?=some (.cells cs T (0,0))
theorem stable_freshS (n0:Nat) (cs:Array Value) (T:TypeId):Stable (FreshS n0 cs T):=fun v w w' ⟨b,e,h1,h2⟩ hb=>⟨b,e,h1,(hb.block b (Array.getElem?_eq_some_iff.1 h2).1).trans h2⟩
end Go.Proofs.YtdoflhjhaciepaaGreat
namespace Go.Proofs.YtdoflhjhaciepaaGreat
open Go.RowKit Go.Shelf
attribute [local go_sem] Oper.semAt_some
abbrev WV:=Nat × Slots × Option Addr × Nat
def wayC (x:WV):Array Value:=#[.int .i64 x.1,.slice x.2.2.1 x.2.1.length x.2.2.2]
theorem yg0 (x:WV):(wayC x)[0]?=some (.int .i64 x.1):=rfl
theorem yg1 (x:WV):(wayC x)[1]?=some (.slice x.2.2.1 x.2.1.length x.2.2.2):=rfl
def plW (x:WV):Way:=(x.1,x.2.1)
def WaysK (F:Nat→Prop) (xs:List WV) (W:World):Prop:=∀ x ∈ xs,IntsR F x.2.2.1 x.2.2.2 x.2.1 W
theorem wayC_size (x:WV):(wayC x).size=2:=rfl
theorem waysX_size (xs:List WV):∀ r ∈ xs.map wayC,r.size=2:=by
 intro r hr;obtain⟨x,_,rfl⟩:=List.mem_map.1 hr;rfl
theorem one_ways:oneB Tryz.prog 50=true:=by kernel_rfl
theorem row_Way:rowB Tryz.prog 58 2=true:=by kernel_rfl
theorem zWay:zeroC Tryz.prog 58=#[.int .i64 0,.slice none 0 0]:=by kernel_rfl
section
variable {M:Nat→Prop} {w0 w:World}
theorem vm_begun (mb:Nat) (q:Option Addr) (n c:Nat) (mk v2 v3 nv:Value) (xs:List Value) (H0:HoldG M w0 w [.blk mb #[.slice q n c,mk,v2,v3,nv] 54,.row (.slice q n c) 58 2 n xs]) :
  Calls Tryz.prog 36 #[.pointer (some ⟨mb,0,none⟩)] w fun e w'=>e=.returned (.tuple #[])∧Turned M w0 w [.blk mb #[.slice q n c,mk,v2,v3,nv] 54,.row (.slice q n c) 58 2 n xs] [.blk mb #[.slice q 0 c,mk,v2,v3,nv] 54,.row (.slice q 0 c) 58 2 0 []] w':=by
 have H:=H0.framed;clear H0;obtain⟨rF,hrF⟩:∃ rF,restF w [.blk mb #[.slice q n c,mk,v2,v3,nv] 54,.row (.slice q n c) 58 2 n xs]=rF:=⟨_,rfl⟩;obtain⟨rS,hrS⟩:∃ rS,restS w [.blk mb #[.slice q n c,mk,v2,v3,nv] 54,.row (.slice q n c) 58 2 n xs]=rS:=⟨_,rfl⟩;rw[hrF,hrS]at H;simp only[List.cons_append,List.nil_append]at H;obtain⟨q2,c2,e2,h1,h2,hq2⟩:=H.rowShape (i:=1) i_1;simp only[Value.slice.injEq]at e2;obtain⟨rfl,_,rfl⟩:=e2
 go_enter Tryz.func36,Tryz.ntmps36
 go_wp2_with (first|((with_reducible refine gL ?_);refine own_load1 wtd_ _ _ rfl rfl H (i:=0) .zero one_ways rfl ?_)|((with_reducible refine gT ?_);refine own_store1 wtd_ _ _ _ rfl rfl evd_ H (i:=0) .zero rfl (by show 0<5;omega) (one_size one_ways) ?_;clear H;intro w H)|fail)
 go_end0
 refine⟨rfl,?_⟩
 rw[← hrF,← hrS]at H;have H:HoldG M w0 _ [.blk mb #[.slice q 0 c,mk,v2,v3,nv] 54,.row (.slice q n c) 58 2 n xs,.kn (restF _ [.blk mb #[.slice q n c,mk,v2,v3,nv] 54,.row (.slice q n c) 58 2 n xs]) (restS _ [.blk mb #[.slice q n c,mk,v2,v3,nv] 54,.row (.slice q n c) 58 2 n xs])]:=H;obtain⟨hlen,⟨hv,hn0⟩|⟨g,cap,cur,hv,hb,hg,hn,hc,hsz,ht⟩⟩:=H.all 1 _ rfl
 ·simp only[Value.slice.injEq]at hv;obtain⟨rfl,rfl,rfl⟩:=hv;have hx:xs=[]:=List.length_eq_zero_iff.1 (by simpa using hlen)
  subst hx;exact Turned.of H (i:=2) i_2 [0,1] (by decide) (by decide) rfl (fun F S h=>by simp at h)
 ·simp only[Value.slice.injEq]at hv;obtain⟨rfl,_,rfl⟩:=hv;have H2:=H.cutRow (i:=1) (m:=0) i_1 (Nat.zero_le _);rw[Nat.zero_mul,List.take_zero]at H2;simp only[List.set_cons_succ,List.set_cons_zero]at H2;exact Turned.of H2 (i:=2) i_2 [0,1] (by decide) (by decide) rfl (fun F S h=>by simp at h)
end
end Go.Proofs.YtdoflhjhaciepaaGreat
namespace Go.Proofs.YtdoflhjhaciepaaGreat
open Go.RowKit
structure QCtx (l:List Oper) (Ss:Nat→Value→World→Prop) (R:World→World→Prop) (a0:Act) (w0:World) (i:Nat) (a:Act) (w:World):Prop where
 rel:R w0 w
 frame:∀ t,l.any (fun o=>o.dst == some t)=false→a.eval (.tmp t)=a0.eval (.tmp t)
 dep:∀ j d,decide (j<i)=true→(l[j]?).bind (·.dst)=some d→Ss j (a.eval (.tmp d)) w
def QStep (P:Program) (ops:Array Oper) (R:World→World→Prop) (o:Oper) (a:Act) (w:World) (s:Value→World→Prop):Prop :=
 if Region.wanted o (yielded ops a.tmps) then o.wp P a w (fun a' w'=>∃ v,a'=a.put o.dst v∧R w w'∧s v w') (fun _ _ _=>False) else s undef w
theorem wp_region_seqRD {P:Program} {id:Nat} {Q:Exit→Act→World→Prop} {a0:Act} {w0:World} {l:List Oper} (R:World→World→Prop) (hrefl:∀ w,R w w) (htrans:∀ u v w,R u v→R v w→R u w) (n:Nat) (Ss:Nat→Value→World→Prop)
  (hst:∀ i,i<n→∀ v w w',Ss i v w→R w w'→Ss i v w')
  (hB:seqB l n=true) (hsz:(l.take n).all (fun o=>match o.dst with|some d=>decide (d<a0.tmps.size)|none=>true)=true)
  (hstep:∀ i o,i<n→l[i]?=some o→∀ a w,QCtx (l.take n) Ss R a0 w0 i a w→QStep P l.toArray R o a w (Ss i))
  (hend:∀ vals w,R w0 w→(∀ i,i<n→Ss i (vals i) w)→wpList P l.toArray Q (l.drop n) (fillAll (l.take n) 0 vals a0) w) :
  (Code.region id l.toArray false).wp P Q a0 w0:=by
 simp only[seqB,Bool.and_eq_true,decide_eq_true_eq]at hB;obtain⟨⟨hn,hd'⟩,_⟩:=hB;have hdst:∀ (i:Nat) (o:Oper),(l.take n)[i]?=some o→∃ d,o.dst=some d:=by
  intro i o h;have:∀ (r:List Oper) (j:Nat),dstsB r=true→r[j]?=some o→∃ d,o.dst=some d:=by
   intro r
   induction r with
   | nil=>intro j _ h;simp at h
   | cons x r ihr =>
    intro j hdd h;simp only[dstsB,Bool.and_eq_true]at hdd
    cases j with
    | zero=>simp at h;subst h;exact Option.isSome_iff_exists.1 hdd.1.1
    | succ j=>exact ihr j hdd.2 (by simpa using h)
  exact this _ i hd' h
 have hbd:∀ (j:Nat) (oj:Oper) (dj:Tmp),(l.take n)[j]?=some oj→oj.dst=some dj→dj<a0.tmps.size:=by
  intro j oj dj hj hdj;have:=List.all_eq_true.1 hsz oj (List.mem_of_getElem? hj)
  simpa [hdj] using this
 have key:∀ (f i:Nat),i+f=n→∀ (vals:Nat→Value) (a:Act) (w:World),a=fill (l.take n) 0 (headListed i (n - i)) vals a0→(∀ j,j<i→Ss j (vals j) w)→R w0 w→wpList P l.toArray Q (l.drop i) a w:=by
  intro f
  induction f with
  | zero =>
   intro i hi vals a w ha hv hb;have hi':i=n:=by omega
   subst hi';rw[ha,fill_all (l.take i) 0 _ vals a0 (fun j hj=>by rw[Nat.zero_add,headListed_get _ _ _ _ (by simp at hj;omega)];simp at hj ⊢;omega)]
   exact hend vals w hb hv
  | succ f ih =>
   intro i hi vals a w ha hv hb;have hin:i<n:=by omega
   have hil:i<l.length:=by omega
   have hot:(l.take n)[i]?=some l[i]:=by rw[List.getElem?_take_of_lt hin];simp[hil]
   obtain⟨d,hod⟩:=hdst i _ hot;rw[List.drop_eq_getElem_cons hil];have hctx:QCtx (l.take n) Ss R a0 w0 i a w:=by
    refine⟨hb,fun t ht=>by rw[ha];exact fill_frame _ _ _ _ _ t ht,fun j dj hj hdj=>?_⟩
    have h2:j<i:=by simpa using hj
    obtain⟨oj,hoj,hdj'⟩:=Option.bind_eq_some_iff.1 hdj;rw[ha,fill_at _ 0 _ vals a0 j oj dj hd' hoj hdj' (hbd j oj dj hoj hdj') (by rw[Nat.zero_add,headListed_get _ _ _ _ (by omega)];simpa using h2),Nat.zero_add]
    exact hv j h2
   have hstep':=hstep i l[i] hin (by simp[hil]) a w hctx
   have hnext:∀ v w',R w w'→Ss i v w'→wpList P l.toArray Q (l.drop (i+1)) (a.put l[i].dst v) w':=by
    intro v w' hbw hsv;refine ih (i+1) (by omega) (fun j=>if j=i then v else vals j) _ w' ?_ (fun j hj=>?_) (htrans _ _ _ hb hbw)
    ·have h1:=fill_set (l.take n) 0 i (headListed i (n - i)) vals a0 l[i] d v hd' hot hod (by rw[Nat.zero_add,headListed_get _ _ _ _ (by omega)];simp)
     rw[Nat.zero_add]at h1;rw[ha,hod,← h1];refine fill_congr _ _ _ _ _ _ _ (fun j hj=>⟨?_,rfl⟩)
     simp at hj;rw[Nat.zero_add,headListed_get _ _ _ _ (by omega)]
     by_cases hji:j=i
     ·subst hji;have:j<(headListed j (n - j)).size:=by simp[headListed];omega
      simp[Array.getD_eq_getD_getElem?,this]
     ·rw[getD_set_ne false (fun e=>hji e.symm),headListed_get _ _ _ _ (by omega)]
      simp;omega
    ·by_cases hji:j=i
     ·subst hji;simpa using hsv
     ·show Ss j (if j=i then v else vals j) w'
      rw[if_neg hji];exact hst j (by omega) _ _ _ (hv j (by omega)) hbw
   unfold QStep at hstep'
   show wpList P l.toArray Q (l[i]::l.drop (i+1)) a w
   unfold wpList;split
   ·rename_i hw;rw[if_pos hw]at hstep';refine .inl (wpQ_mono (Oper.wp_mono (fun a' w' ⟨v,e,hbw,hsv⟩=>?_) hstep'))
    subst e;exact hnext v w' hbw hsv
   ·rename_i hw;rw[if_neg hw]at hstep';exact hnext undef w (hrefl w) hstep'
 refine wp_region_lit ?_
 have:=key n 0 (by omega) (fun _=>undef) a0 w0 (fill_none _ _ _ _ _ (fun j=>by
  rcases Nat.lt_or_ge j n with h|h
  ·rw[headListed_get _ _ _ _ (by omega)];simp
  ·rw[headListed_out _ _ _ _ (by omega)])).symm (fun j h=>by omega) (hrefl _)
 simpa using this
def StableR (R:World→World→Prop) (s:Value→World→Prop):Prop:=∀ v w w',s v w→R w w'→s v w'
theorem stableR_eq {R:World→World→Prop} (x:Value):StableR R (fun v _=>v=x):=fun _ _ _ h _=>h
def AllStableR (R:World→World→Prop):List (Value→World→Prop)→Prop
 | []=>True
 | s::r=>StableR R s∧AllStableR R r
theorem lookS_stableR {R:World→World→Prop}:∀ (L:List (Value→World→Prop)) (i:Nat),AllStableR R L→StableR R (lookS L i)
 | [],_,_=>fun _ _ _ h _=>h
 | _::_,0,h=>h.1
 | _::r,i+1,h=>lookS_stableR r i h.2
def OblQ (P:Program) (l hd:List Oper) (R:World→World→Prop) (L:List (Value→World→Prop)) (a0:Act) (w0:World):List Oper→Nat→Prop
 | [],_=>True
 | o::r,i=>(∀ a w,QCtx hd (lookS L) R a0 w0 i a w→QStep P l.toArray R o a w (lookS L i))∧OblQ P l hd R L a0 w0 r (i+1)
theorem OblQ.get {P:Program} {l hd:List Oper} {R:World→World→Prop} {L:List (Value→World→Prop)} {a0:Act} {w0:World}:∀ (r:List Oper) (k:Nat),OblQ P l hd R L a0 w0 r k→∀ i o,r[i]?=some o →
  ∀ a w,QCtx hd (lookS L) R a0 w0 (k+i) a w→QStep P l.toArray R o a w (lookS L (k+i))
 | [],_,_,_,_,h=>by simp at h
 | o::r,k,h,0,o',h'=>by simp at h';subst h';exact h.1
 | o::r,k,h,i+1,o',h'=>by
  have:=OblQ.get r (k+1) h.2 i o' (by simpa using h')
  rwa [show k+1+i=k+(i+1) from by omega]at this
theorem wp_region_seqR {P:Program} {id:Nat} {Q:Exit→Act→World→Prop} {a0:Act} {w0:World} {l:List Oper} (R:World→World→Prop) (hrefl:∀ w,R w w) (htrans:∀ u v w,R u v→R v w→R u w) (n:Nat) (L:List (Value→World→Prop)) (hst:AllStableR R L)
  (hB:seqB l n=true) (hsz:(l.take n).all (fun o=>match o.dst with|some d=>decide (d<a0.tmps.size)|none=>true)=true)
  (hstep:OblQ P l (l.take n) R L a0 w0 (l.take n) 0)
  (hend:∀ vals w,R w0 w→(∀ i,i<n→lookS L i (vals i) w)→wpList P l.toArray Q (l.drop n) (fillAll (l.take n) 0 vals a0) w) :
  (Code.region id l.toArray false).wp P Q a0 w0 :=
 wp_region_seqRD R hrefl htrans n (lookS L) (fun i _ v w w' h hb=>lookS_stableR L i hst v w w' h hb) hB hsz (fun i o hi ho a w hc=>by
   have:=OblQ.get (l.take n) 0 hstep i o (by rw[List.getElem?_take_of_lt hi];exact ho) a w (by rwa [Nat.zero_add])
   rwa [Nat.zero_add]at this) hend
section
variable {P:Program} {ops:Array Oper} {o:Oper} {a:Act} {w:World} {R:World→World→Prop}
theorem rq_of {v:Value} (hrefl:∀ w,R w w) (h:RStep P ops o a w (fun v' w'=>v'=v∧w'=w)):QStep P ops R o a w (fun v' _=>v'=v):=by
 unfold RStep StepOk at h;unfold QStep;split
 ·rename_i hw;rw[if_pos hw]at h;exact Oper.wp_mono (fun a' w' ⟨u,e,_,h1,h2⟩=>⟨u,e,h2 ▸ hrefl w,h1⟩) h
 ·rename_i hw;rw[if_neg hw]at h;exact h.1
theorem rq_skip {v:Value} (hg:Region.wanted o (yielded ops a.tmps)=false) (hv:v=undef):QStep P ops R o a w (fun v' _=>v'=v):=by
 unfold QStep;rw[if_neg (by rw[hg];decide)];exact hv.symm
theorem rq_pure {v:Value} (hrefl:∀ w,R w w) (hg:Region.wanted o (yielded ops a.tmps)=true) (hr:(execOp a.eval o).run P w=.ok (.value v) w):QStep P ops R o a w (fun v' _=>v'=v) :=
 rq_of hrefl (rs_val hg hr (Below.refl _ w) ⟨rfl,rfl⟩)
theorem rq_move {x:Operand} {v:Value} (hrefl:∀ w,R w w) (hg:Region.wanted o (yielded ops a.tmps)=true) (hop:o.op=Op.move x) (hx:a.eval x=v):QStep P ops R o a w (fun v' _=>v'=v):=by
 refine rq_pure hrefl hg ?_
 simp only[execOp,hop,hx];rfl
theorem rq_pick {x y z:Operand} {b:Bool} {v:Value} (hrefl:∀ w,R w w) (hg:Region.wanted o (yielded ops a.tmps)=true) (hop:o.op=Op.pick x y z) (hx:a.eval x=.bool b) (hv:(if b then a.eval y else a.eval z)=v):QStep P ops R o a w (fun v' _=>v'=v):=by
 refine rq_pure hrefl hg ?_
 simp only[execOp,hop,hx];subst hv
 cases b<;>rfl
theorem rq_calln {f:FuncId} {xs:Array Operand} {ts:Array TypeId} {vs:Array Value} {v:Value} (hg:Region.wanted o (yielded ops a.tmps)=true)
  (hop:o.op=Op.call {callee:=Callee.value (Operand.func f),args:=xs,argTypes:=ts}) (hf:∀ args w,(callFunc f args).run P w=.ok (.enter f args) w) (hx:xs.map a.eval=vs)
  (hc:Calls P f vs w fun e w'=>e=.returned v∧R w w'):QStep P ops R o a w (fun v' _=>v'=v):=by
 unfold QStep;rw[if_pos hg];unfold Oper.wp;have hr:(execOp a.eval o).run P w=.ok (.enter f vs) w:=by
  simp only[execOp,hop];simp[resolve,hx];rw[show a.eval (Operand.func f)=.func (.func f) #[] #[] from rfl]
  simp[Deferred.ofValue,invoke,hf]
 rw[hr];exact hc.mono fun e w' ⟨he,hb⟩=>by subst he;exact⟨v,rfl,hb,rfl⟩
end
theorem QCtx.d {l:List Oper} {Ss:Nat→Value→World→Prop} {R:World→World→Prop} {a0:Act} {w0:World} {i:Nat} {a:Act} {w:World} (h:QCtx l Ss R a0 w0 i a w) (j d:Nat) (h1:decide (j<i)=true:=by exact rfl) (h2:(l[j]?).bind (·.dst)=some d:=by exact rfl):Ss j (a.eval (.tmp d)) w:=h.dep j d h1 h2
theorem QCtx.f {l:List Oper} {Ss:Nat→Value→World→Prop} {R:World→World→Prop} {a0:Act} {w0:World} {i:Nat} {a:Act} {w:World} (h:QCtx l Ss R a0 w0 i a w) (t:Nat) (h1:l.any (fun o=>o.dst == some t)=false:=by exact rfl):a.eval (.tmp t)=a0.eval (.tmp t):=h.frame t h1
structure RCtxR (l:List Oper) (Ss:Nat→Value→World→Prop) (R:World→World→Prop) (a0:Act) (w0:World) (o:Oper) (a:Act) (w:World):Prop where
 rel:R w0 w
 frame:∀ t,l.any (fun o=>o.dst == some t)=false→a.eval (.tmp t)=a0.eval (.tmp t)
 dep:∀ j d,o.after.toList.any (fun e=>Region.binds .any e&&e.on == j)=true→(l[j]?).bind (·.dst)=some d→Ss j (a.eval (.tmp d)) w
theorem RCtxR.d {l:List Oper} {Ss:Nat→Value→World→Prop} {R:World→World→Prop} {a0:Act} {w0:World} {o:Oper} {a:Act} {w:World} (h:RCtxR l Ss R a0 w0 o a w) (j d:Nat) (h1:o.after.toList.any (fun e=>Region.binds .any e&&e.on == j)=true:=by exact rfl) (h2:(l[j]?).bind (·.dst)=some d:=by exact rfl):Ss j (a.eval (.tmp d)) w:=h.dep j d h1 h2
theorem RCtxR.f {l:List Oper} {Ss:Nat→Value→World→Prop} {R:World→World→Prop} {a0:Act} {w0:World} {o:Oper} {a:Act} {w:World} (h:RCtxR l Ss R a0 w0 o a w) (t:Nat) (h1:l.any (fun o=>o.dst == some t)=false:=by exact rfl):a.eval (.tmp t)=a0.eval (.tmp t):=h.frame t h1
def dstsN:List Oper→Bool
 | []=>true
 | o::r=>(o.dst.isNone || r.all (fun o'=>o'.dst != o.dst))&&dstsN r
def specN (ops:Array Oper) (n:Nat):Bool :=
 decide (n≤ops.size)&&dstsN (ops.toList.take n) &&
 ((ops.toList.take n).zipIdx.all fun (o,i)=>o.after.all fun e=>!Region.binds .any e || decide (e.on<i)) &&
 (decide (n=ops.size) || (Region.sinkB .any ops n&&Region.chainB .any ops n)) &&
 Region.seqB .any ops (ops.size - n) n (headListed n (ops.size - n))
def ownT (o:Oper):Option Tmp:=match o.op with|.insert _ (.tmp d) _ _=>some d|.store _ (.tmp d) _=>some d|_=>none
def ghost (o:Oper) (a:Act):Value:=match ownT o with|some d=>a.eval (.tmp d)|none=>undef
def Linked (l:List Oper) (listed:Nat→Bool) (vals:Nat→Value):Prop :=
 ∀ i o d j oj,l[i]?=some o→o.dst=none→ownT o=some d→l[j]?=some oj→oj.dst=some d→o.after.toList.any (fun e=>Region.binds .any e&&e.on == j)=true→listed i=true→vals i=vals j
theorem fillN_set:∀ (l:List Oper) (k i:Nat) (listed:Array Bool) (vals:Nat→Value) (a:Act) (o:Oper) (d:Tmp) (v:Value),dstsN l=true→l[i]?=some o→o.dst=some d →
  listed.getD (k+i) true=false →
  fill l k (listed.setIfInBounds (k+i) true) (fun j=>if j=k+i then v else vals j) a=(fill l k listed vals a).put (some d) v
 | [],_,_,_,_,_,_,_,_,_,h,_,_=>by simp at h
 | o::r,k,0,listed,vals,a,o',d,v,hd,h,hod,hl=>by
  simp at h;subst h;simp only[dstsN,Bool.and_eq_true,Bool.or_eq_true]at hd;obtain⟨hall,hr⟩:=hd;have hne:∀ o' ∈ r,o'.dst≠some d:=by
   intro o' ho' e;rcases hall with h0|hall
   ·rw[hod]at h0;simp at h0
   ·have:=List.all_eq_true.1 hall o' ho';rw[e,hod]at this;simp at this
  have h1:(listed.setIfInBounds k true).getD k false=true:=by
   have hk:k<listed.size:=by
    rcases Nat.lt_or_ge k listed.size with h'|h'
    ·exact h'
    ·simp[Array.getElem?_eq_none h']at hl
   simp[hk]
  have h2:listed.getD k false=false:=getD_both (by simpa using hl)
  simp only[Nat.add_zero,fill,h1,h2,if_true,Bool.false_eq_true,if_false,hod];rw[fill_put r (k+1) _ _ a d v hne]
  congr 1
  refine fill_congr r (k+1) _ _ _ _ a (fun i hi=>⟨?_,by rw[if_neg (by omega)]⟩)
  exact getD_set_ne false (by omega)
 | o::r,k,i+1,listed,vals,a,o',d,v,hd,h,hod,hl=>by
  simp only[dstsN,Bool.and_eq_true]at hd;simp only[List.getElem?_cons_succ]at h;have ih:=fillN_set r (k+1) i listed vals (if listed.getD k false then a.put o.dst (vals k) else a) o' d v hd.2 h hod (by rwa [show k+1+i=k+(i+1) from by omega])
  simp only[fill];rw[show k+(i+1)=k+1+i from by omega,getD_set_ne false (by omega),if_neg (by omega:¬ k=k+1+i)]
  exact ih
theorem fillN_none:∀ (l:List Oper) (k i:Nat) (listed:Array Bool) (vals:Nat→Value) (a:Act) (o:Oper) (v:Value),l[i]?=some o→o.dst=none →
  listed.getD (k+i) true=false →
  fill l k (listed.setIfInBounds (k+i) true) (fun j=>if j=k+i then v else vals j) a=fill l k listed vals a
 | [],_,_,_,_,_,_,_,h,_,_=>by simp at h
 | o::r,k,0,listed,vals,a,o',v,h,hod,hl=>by
  simp at h;subst h;have h2:listed.getD k false=false:=getD_both (by simpa using hl)
  simp only[Nat.add_zero,fill,h2,hod,Bool.false_eq_true,if_false];have hp:∀ (b:Bool) (u:Value),(if b=true then a.put none u else a)=a:=by intro b u;cases b<;>rfl
  rw[hp];refine fill_congr r (k+1) _ _ _ _ a (fun i hi=>⟨?_,by rw[if_neg (by omega)]⟩)
  exact getD_set_ne false (by omega)
 | o::r,k,i+1,listed,vals,a,o',v,h,hod,hl=>by
  simp only[List.getElem?_cons_succ]at h;have ih:=fillN_none r (k+1) i listed vals (if listed.getD k false then a.put o.dst (vals k) else a) o' v h hod (by rwa [show k+1+i=k+(i+1) from by omega])
  simp only[fill];rw[show k+(i+1)=k+1+i from by omega,getD_set_ne false (by omega),if_neg (by omega:¬ k=k+1+i)]
  exact ih
theorem fillN_at:∀ (l:List Oper) (k:Nat) (listed:Array Bool) (vals:Nat→Value) (a:Act) (j:Nat) (o:Oper) (d:Tmp),dstsN l=true→l[j]?=some o→o.dst=some d→d<a.tmps.size →
  listed.getD (k+j) false=true→(fill l k listed vals a).eval (.tmp d)=vals (k+j)
 | [],_,_,_,_,_,_,_,_,h,_,_,_=>by simp at h
 | o::r,k,listed,vals,a,0,o',d,hd,h,hod,hsz,hl=>by
  simp at h;subst h;simp only[dstsN,Bool.and_eq_true,Bool.or_eq_true]at hd;obtain⟨hall,hr⟩:=hd;simp only[Nat.add_zero]at hl ⊢;simp only[fill,hl,if_true,hod]
  rw[fill_frame r (k+1) listed vals _ d (by
   rw[Bool.eq_false_iff];intro hc;obtain⟨o',ho',e⟩:=List.any_eq_true.1 hc;rcases hall with h0|hall
   ·rw[hod]at h0;simp at h0
   ·have:=List.all_eq_true.1 hall o' ho';rw[hod]at this
    simp at e this;exact this e),put_tmps_same a d _ hsz]
 | o::r,k,listed,vals,a,j+1,o',d,hd,h,hod,hsz,hl=>by
  simp only[dstsN,Bool.and_eq_true]at hd;simp only[fill];rw[show k+(j+1)=k+1+j from by omega]at hl ⊢
  exact fillN_at r (k+1) listed vals _ j o' d hd.2 (by simpa using h) hod (by split<;>simp[put_size,hsz]) hl
theorem wp_region_specMD {P:Program} {id:Nat} {Q:Exit→Act→World→Prop} {a0:Act} {w0:World} {l:List Oper} (R:World→World→Prop) (htrans:∀ u v w,R u v→R v w→R u w) (hrefl:∀ w,R w w) (hdrew:∀ w:World,R w {w with drawn:=w.drawn+1}) (n:Nat) (Ss:Nat→Value→World→Prop)
  (hm:P.follows .mixedOrders=true) (hB:specN l.toArray n=true) (hsz:(l.take n).all (fun o=>match o.dst with|some d=>decide (d<a0.tmps.size)|none=>true)=true)
  (hst:∀ i,i<n→∀ v w w',Ss i v w→R w w'→Ss i v w')
  (hstep:∀ i o,i<n→l[i]?=some o→∀ a w,RCtxR (l.take n) Ss R a0 w0 o a w→QStep P l.toArray R o a w (fun v w'=>Ss i v w'∧(o.dst=none→v=ghost o a)))
  (hend:∀ vals w,R w0 w→(∀ i,i<n→Ss i (vals i) w)→Linked (l.take n) (fun _=>true) vals→wpList P l.toArray Q (l.drop n) (fillAll (l.take n) 0 vals a0) w) :
  (Code.region id l.toArray true).wp P Q a0 w0:=by
 simp only[specN,Bool.and_eq_true,decide_eq_true_eq]at hB;obtain⟨⟨⟨⟨hn,hd⟩,haf⟩,hsink⟩,hseq⟩:=hB;have hn':n≤l.length:=by simpa using hn
 have hd':dstsN (l.take n)=true:=hd;have htl:(l.take n).length=n:=by simp;omega
 have key:∀ (rem:List Nat) (f:Nat),rem.length=f→rem.Nodup→∀ (listed:Array Bool) (a:Act) (w:World),HeadInv .any l.toArray n listed →
   (∀ i,i ∈ rem↔(i<n∧listed.getD i true=false))→(∃ vals,a=fill (l.take n) 0 listed vals a0∧(∀ i,i<n→listed.getD i false=true→Ss i (vals i) w)∧Linked (l.take n) (fun i=>listed.getD i false) vals)→R w0 w →
   wpAny P .any l.toArray Q (f+(l.toArray.size - n)) listed a w:=by
  intro rem f
  induction f generalizing rem with
  | zero =>
   intro hl _ listed a w inv hrem ⟨vals,ha,hv,hlk⟩ hb;have hr:rem=[]:=List.length_eq_zero_iff.1 hl;subst hr;have hall:∀ i,i<n→listed.getD i false=true:=by
    intro i hi;have h1:¬ listed.getD i true=false:=fun h=>by have:=(hrem i).2 ⟨hi,h⟩;simp at this
    have h2:i<listed.size:=by rw[inv.size];omega
    rw[Array.getD_eq_getD_getElem?,Array.getElem?_eq_getElem h2]at h1 ⊢
    simpa using h1
   have hlist:=listed_head hn inv hall;have hw:=hend vals w hb (fun i hi=>hv i hi (hall i hi)) (fun i oi d j oj h1 h2 h3 h4 h5 h6 _=>hlk i oi d j oj h1 h2 h3 h4 h5 h6 (hall i (by have:=(List.getElem?_eq_some_iff.1 h1).1;omega)))
   rw[← fill_all (l.take n) 0 listed vals a0 (fun i hi=>by rw[Nat.zero_add];exact hall i (by omega)),← ha]at hw
   rw[Nat.zero_add];have hdl:(l.drop n).length=l.toArray.size - n:=by simp
   rw[← hdl];refine wpAny_of_seq (l.drop n) n listed a w (fun j=>by simp) ?_ hw
   rw[hdl,hlist];exact hseq
  | succ f ih =>
   intro hl hnd listed a w inv hrem ⟨vals,ha,hv,hlk⟩ hb;have hex:∃ i,i ∈ rem∧∀ j,j ∈ rem→i≤j:=by
    have:∀ (r:List Nat),r≠[]→∃ i,i ∈ r∧∀ j,j ∈ r→i≤j:=by
     intro r
     induction r with
     | nil=>intro h;exact(h rfl).elim
     | cons x r ihr =>
      intro _
      by_cases hr:r=[]
      ·subst hr;exact⟨x,by simp,by simp⟩
      ·obtain⟨i,hi,hmin⟩:=ihr hr
       by_cases hx:x≤i
       ·exact⟨x,by simp,fun j hj=>by rcases List.mem_cons.1 hj with rfl|hj;exact Nat.le_refl _;exact Nat.le_trans hx (hmin j hj)⟩
       ·exact⟨i,by simp[hi],fun j hj=>by rcases List.mem_cons.1 hj with rfl|hj;omega;exact hmin j hj⟩
    exact this rem (by intro h;subst h;simp at hl)
   have hready:Region.ready .any l.toArray listed≠[]:=by
    obtain⟨i,hi,hmin⟩:=hex;obtain⟨hin,hil⟩:=(hrem i).1 hi;have hlt:i<l.length:=by omega
    have hmem:i ∈ Region.ready .any l.toArray listed:=by
     refine mem_ready.2 ⟨hil,l[i],by simp[hlt],fun e he hbd=>?_⟩
     have h1:=List.all_eq_true.1 haf (l[i],i) (by
      rw[List.mem_zipIdx_iff_getElem?];simp[hin,hlt])
     have h2:=Array.all_eq_true'.1 h1 e he;simp[hbd]at h2;have hj:¬ e.on ∈ rem:=fun h=>by have:=hmin _ h;omega
     have h3:¬ listed.getD e.on true=false:=fun h=>hj ((hrem _).2 ⟨by omega,h⟩)
     have h4:e.on<listed.size:=by rw[inv.size];simp;omega
     rw[Array.getD_eq_getD_getElem?,Array.getElem?_eq_getElem h4]at h3 ⊢
     simpa using h3
    intro h;rw[h]at hmem;simp at hmem
   rw[show f+1+(l.toArray.size - n)=(f+(l.toArray.size - n))+1 from by omega]
   refine⟨fun h=>(hready h).elim,fun i hi=>?_⟩
   obtain⟨hil,o,ho,haft⟩:=mem_ready.1 hi;have hin:i<n:=by
    rcases Nat.lt_or_ge i n with h|h
    ·exact h
    ·exfalso
     obtain⟨i',hi',_⟩:=hex;obtain⟨hin',hil'⟩:=(hrem i').1 hi';have hisz:i<l.toArray.size:=(Array.getElem?_eq_some_iff.1 ho).1;simp only[Bool.or_eq_true,decide_eq_true_eq,Bool.and_eq_true]at hsink;rcases hsink with h0|⟨hs,hc⟩
     ·omega
     ·exact tail_waits hs hc (by omega) inv (n - i') i' rfl hin' hil' i h hi
   have ho':l[i]?=some o:=by simpa using ho
   have hot:(l.take n)[i]?=some o:=by rw[List.getElem?_take_of_lt hin];exact ho'
   have hbd:∀ (j:Nat) (oj:Oper) (dj:Tmp),(l.take n)[j]?=some oj→oj.dst=some dj→dj<a0.tmps.size:=by
    intro j oj dj hj hdj;have:=List.all_eq_true.1 hsz oj (List.mem_of_getElem? hj)
    simpa [hdj] using this
   have hctx:RCtxR (l.take n) Ss R a0 w0 o a w:=by
    refine⟨hb,fun t ht=>by rw[ha];exact fill_frame _ _ _ _ _ t ht,fun j dj hj hdj=>?_⟩
    obtain⟨e,he,hbe⟩:=List.any_eq_true.1 hj;simp only[Bool.and_eq_true,beq_iff_eq]at hbe;have hlj:=haft e (Array.mem_toList_iff.1 he) hbe.1;rw[hbe.2]at hlj;obtain⟨oj,hoj,hdj'⟩:=Option.bind_eq_some_iff.1 hdj;have hjn:j<n:=by have:=(List.getElem?_eq_some_iff.1 hoj).1;omega
    rw[ha,fillN_at _ 0 listed vals a0 j oj dj hd' hoj hdj' (hbd j oj dj hoj hdj') (by rw[Nat.zero_add];exact hlj),Nat.zero_add]
    exact hv j hjn hlj
   have hstep':=hstep i o hin ho' a w hctx;have hclosed:∀ k ok,l[k]?=some ok→listed.getD k false=true→∀ j,ok.after.toList.any (fun e=>Region.binds .any e&&e.on == j)=true→listed.getD j false=true:=by
    intro k ok hk hlk' j hj;obtain⟨e,he,hbe⟩:=List.any_eq_true.1 hj;simp only[Bool.and_eq_true,beq_iff_eq]at hbe;have:=inv.closed k ok (by simpa using hk) hlk' e (Array.mem_toList_iff.1 he) hbe.1
    rwa [hbe.2]at this
   have hownd:∀ j,o.after.toList.any (fun e=>Region.binds .any e&&e.on == j)=true→listed.getD j false=true:=by
    intro j hj;obtain⟨e,he,hbe⟩:=List.any_eq_true.1 hj;simp only[Bool.and_eq_true,beq_iff_eq]at hbe;have:=haft e (Array.mem_toList_iff.1 he) hbe.1
    rwa [hbe.2]at this
   have hnl:∀ j,listed.getD j false=true→j≠i:=by
    intro j hj e;subst e;rw[getD_both hil]at hj;cases hj
   have hnext:∀ v w',R w w'→Ss i v w'→(o.dst=none→v=ghost o a)→wpAny P .any l.toArray Q (f+(l.toArray.size - n)) (listed.setIfInBounds i true) (a.put o.dst v) w':=by
    intro v w' hbw hsv hgh;have hmemi:i ∈ rem:=(hrem i).2 ⟨hin,hil⟩;refine ih (rem.erase i) (by rw[List.length_erase_of_mem hmemi,hl];rfl) (hnd.erase i) _ _ w' (inv.set hi hin) (fun j=>?_) ⟨fun j=>if j=i then v else vals j,?_,fun j hj hlj=>?_,?_⟩ (htrans _ _ _ hb hbw)
    ·rw[hnd.mem_erase_iff,hrem j]
     by_cases hji:j=i
     ·subst hji;have hjs:j<listed.size:=by rw[inv.size];simp;omega
      simp[hjs]
     ·rw[getD_set_ne true (fun e=>hji e.symm)]
      simp[hji]
    ·cases hod:o.dst with
     | some d =>
      have:=fillN_set (l.take n) 0 i listed vals a0 o d v hd' hot hod (by rw[Nat.zero_add];exact hil)
      rw[Nat.zero_add]at this;rw[this,← ha]
     | none =>
      have:=fillN_none (l.take n) 0 i listed vals a0 o v hot hod (by rw[Nat.zero_add];exact hil)
      rw[Nat.zero_add]at this;rw[this,← ha];rfl
    ·by_cases hji:j=i
     ·subst hji;simpa using hsv
     ·show Ss j (if j=i then v else vals j) w'
      rw[if_neg hji];rw[getD_set_ne false (fun e=>hji e.symm)]at hlj
      exact hst j hj _ _ _ (hv j hj hlj) hbw
    ·intro k ok d j oj h1 h2 h3 h4 h5 h6 h7
     show (if k=i then v else vals k)=(if j=i then v else vals j)
     by_cases hki:k=i
     ·subst hki;rw[hot]at h1;cases h1
      have hjl:=hownd j h6;rw[if_pos rfl,if_neg (hnl j hjl),hgh h2];unfold ghost;rw[h3]
      show a.eval (.tmp d)=vals j
      rw[ha,fillN_at _ 0 listed vals a0 j oj d hd' h4 h5 (hbd j oj d h4 h5) (by rw[Nat.zero_add];exact hjl),Nat.zero_add]
     ·replace h7:(listed.setIfInBounds i true).getD k false=true:=h7;rw[getD_set_ne false (fun e=>hki e.symm)]at h7
      have hkn:k<n:=by have:=(List.getElem?_eq_some_iff.1 h1).1;omega
      have hjl:=hclosed k ok (by rw[← h1,List.getElem?_take_of_lt hkn]) h7 j h6
      rw[if_neg hki,if_neg (hnl j hjl)];exact hlk k ok d j oj h1 h2 h3 h4 h5 h6 h7
   unfold wpOp;simp only[ho];unfold QStep at hstep';split
   ·rename_i hw;rw[if_pos hw]at hstep';refine .inl (wpQ_mono (Oper.wp_mono (fun a' w' ⟨v,e,hbw,hsv,hgh⟩=>?_) hstep'))
    subst e;exact hnext v w' hbw hsv hgh
   ·rename_i hw;rw[if_neg hw]at hstep';exact hnext undef w (hrefl w) hstep'.1 hstep'.2
 refine wp_region_any hm ?_
 have h0:=key (List.range n) n (by simp) List.nodup_range (Array.replicate l.toArray.size false) a0 {w0 with drawn:=w0.drawn+1}
  ⟨by simp,fun j oj _ hl=>(by rw[getD_replicate_false]at hl;cases hl),fun t _ ht=>getD_in (by simpa using ht) (getD_replicate_false _ _)⟩
  (fun i=>by
   rw[List.mem_range];constructor
   ·intro h;exact⟨h,getD_in (by simp;omega) (getD_replicate_false _ _)⟩
   ·intro h;exact h.1)
  ⟨fun _=>undef,(fill_none _ _ _ _ _ (fun i=>getD_replicate_false _ _)).symm,fun i _ h=>(by rw[getD_replicate_false]at h;cases h),fun _ _ _ _ _ _ _ _ _ _ _ _=>rfl⟩
  (hdrew w0)
 rw[show n+(l.toArray.size - n)=l.toArray.size from by omega]at h0
 exact h0
def OblM (P:Program) (l hd:List Oper) (R:World→World→Prop) (L:List (Value→World→Prop)) (a0:Act) (w0:World):List Oper→Nat→Prop
 | [],_=>True
 | o::r,i=>(∀ a w,RCtxR hd (lookS L) R a0 w0 o a w→QStep P l.toArray R o a w (fun v w'=>lookS L i v w'∧(o.dst=none→v=ghost o a)))∧OblM P l hd R L a0 w0 r (i+1)
theorem OblM.get {P:Program} {l hd:List Oper} {R:World→World→Prop} {L:List (Value→World→Prop)} {a0:Act} {w0:World}:∀ (r:List Oper) (k:Nat),OblM P l hd R L a0 w0 r k→∀ i o,r[i]?=some o →
  ∀ a w,RCtxR hd (lookS L) R a0 w0 o a w→QStep P l.toArray R o a w (fun v w'=>lookS L (k+i) v w'∧(o.dst=none→v=ghost o a))
 | [],_,_,_,_,h=>by simp at h
 | o::r,k,h,0,o',h'=>by simp at h';subst h';exact h.1
 | o::r,k,h,i+1,o',h'=>by
  have:=OblM.get r (k+1) h.2 i o' (by simpa using h')
  rwa [show k+1+i=k+(i+1) from by omega]at this
theorem wp_region_specM {P:Program} {id:Nat} {Q:Exit→Act→World→Prop} {a0:Act} {w0:World} {l:List Oper} (R:World→World→Prop) (hrefl:∀ w,R w w) (htrans:∀ u v w,R u v→R v w→R u w) (hdrew:∀ w:World,R w {w with drawn:=w.drawn+1}) (n:Nat) (L:List (Value→World→Prop)) (hst:AllStableR R L)
  (hm:P.follows .mixedOrders=true) (hB:specN l.toArray n=true) (hsz:(l.take n).all (fun o=>match o.dst with|some d=>decide (d<a0.tmps.size)|none=>true)=true)
  (hstep:OblM P l (l.take n) R L a0 w0 (l.take n) 0)
  (hend:∀ vals w,R w0 w→(∀ i,i<n→lookS L i (vals i) w)→Linked (l.take n) (fun _=>true) vals→wpList P l.toArray Q (l.drop n) (fillAll (l.take n) 0 vals a0) w) :
  (Code.region id l.toArray true).wp P Q a0 w0 :=
 wp_region_specMD R htrans hrefl hdrew n (lookS L) hm hB hsz (fun i _ v w w' h hb=>lookS_stableR L i hst v w w' h hb) (fun i o hi ho a w hc=>by
   have:=OblM.get (l.take n) 0 hstep i o (by rw[List.getElem?_take_of_lt hi];exact ho) a w hc
   rwa [Nat.zero_add]at this) hend
end Go.Proofs.YtdoflhjhaciepaaGreat
