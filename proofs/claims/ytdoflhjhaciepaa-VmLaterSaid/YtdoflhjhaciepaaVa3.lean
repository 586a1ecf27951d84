/-
  Laws of walks, and walks.
-/
import Derived.Test.YtdoflhjhaciepaaVa2
import Derived.Deep.CutBlock
import Derived.Test.YtdoflhjhaciepaaVa1
import Derived.Laws.Cover3
import Derived.Deep.Onto
import Derived.Laws.Bits64b
import Derived.Laws.CopyOwn
import Derived.OrdersIn
set_option linter.unusedVariables false
set_option linter.unusedSimpArgs false
set_option maxRecDepth 100000
set_option maxHeartbeats 16000000
namespace Go.Proofs.Ytdoflhjhaciepaa
open Go.RowKit Go.Shelf
attribute [local go_sem] Oper.semAt_some
theorem lit154 (t:Array Value) (h:t.size=154):∃ x0 x1 x2 x3 x4 x5 x6 x7 x8 x9 x10 x11 x12 x13 x14 x15 x16 x17 x18 x19 x20 x21 x22 x23 x24 x25 x26 x27 x28 x29 x30 x31 x32 x33 x34 x35 x36 x37 x38 x39 x40 x41 x42 x43 x44 x45 x46 x47 x48 x49 x50 x51 x52 x53 x54 x55 x56 x57 x58 x59 x60 x61 x62 x63 x64 x65 x66 x67 x68 x69 x70 x71 x72 x73 x74 x75 x76 x77 x78 x79 x80 x81 x82 x83 x84 x85 x86 x87 x88 x89 x90 x91 x92 x93 x94 x95 x96 x97 x98 x99 x100 x101 x102 x103 x104 x105 x106 x107 x108 x109 x110 x111 x112 x113 x114 x115 x116 x117 x118 x119 x120 x121 x122 x123 x124 x125 x126 x127 x128 x129 x130 x131 x132 x133 x134 x135 x136 x137 x138 x139 x140 x141 x142 x143 x144 x145 x146 x147 x148 x149 x150 x151 x152 x153:Value,t=List.toArray (x0::x1::x2::x3::x4::x5::x6::x7::x8::x9::x10::x11::x12::x13::x14::x15::x16::x17::x18::x19::x20::x21::x22::x23::x24::x25::x26::x27::x28::x29::x30::x31::x32::x33::x34::x35::x36::x37::x38::x39::x40::x41::x42::x43::x44::x45::x46::x47::x48::x49::x50::x51::x52::x53::x54::x55::x56::x57::x58::x59::x60::x61::x62::x63::x64::x65::x66::x67::x68::x69::x70::x71::x72::x73::x74::x75::x76::x77::x78::x79::x80::x81::x82::x83::x84::x85::x86::x87::x88::x89::x90::x91::x92::x93::x94::x95::x96::x97::x98::x99::x100::x101::x102::x103::x104::x105::x106::x107::x108::x109::x110::x111::x112::x113::x114::x115::x116::x117::x118::x119::x120::x121::x122::x123::x124::x125::x126::x127::x128::x129::x130::x131::x132::x133::x134::x135::x136::x137::x138::x139::x140::x141::x142::x143::x144::x145::x146::x147::x148::x149::x150::x151::x152::x153::[]):=by
 rw[lit_get t 154 h]
 exact⟨_,_,_,_,_,_,_,_,_,_,_,_,_,_,_,_,_,_,_,_,_,_,_,_,_,_,_,_,_,_,_,_,_,_,_,_,_,_,_,_,_,_,_,_,_,_,_,_,_,_,_,_,_,_,_,_,_,_,_,_,_,_,_,_,_,_,_,_,_,_,_,_,_,_,_,_,_,_,_,_,_,_,_,_,_,_,_,_,_,_,_,_,_,_,_,_,_,_,_,_,_,_,_,_,_,_,_,_,_,_,_,_,_,_,_,_,_,_,_,_,_,_,_,_,_,_,_,_,_,_,_,_,_,_,_,_,_,_,_,_,_,_,_,_,_,_,_,_,_,_,_,_,_,_,rfl⟩
theorem nodeOk_not (d:NodeD) (n:Nat):((!(nodeOk1 d n)) || (((d.kind) != (6))&&((((d.lo) != (0)) || ((d.hi) != (0))) || (d.lazy))))=!(nodeOk d n):=by
 unfold nodeOk nodeOk2
 cases nodeOk1 d n<;>simp
theorem kinds_part {xs:List TV} {j:Nat} {x:TV} (h:xs[j]?=some x):kindsTs ((xs.map (·.1)).take (j+1))=(kindsTs ((xs.map (·.1)).take j)&&kindsT x.1):=kindsTs_take (by rw[List.getElem?_map,h];rfl)
theorem kinds_no {xs:List TV} {j:Nat} {x:TV} (h:xs[j]?=some x) (hf:kindsT x.1=false):kindsTs (xs.map (·.1))=false:=kindsTs_stop (i:=j) (by rw[List.getElem?_map,h];rfl) hf
theorem ref_kinds:∀ (m:Nat) (t:Tree) (p:Option Addr) (n c:Nat) (F:Nat→Prop) (w0:World),sizeT t≤m→m≤1000000000000→(∀ b,F b→b<w0.heap.size)→ForestR w0 F p c t.kids→n=t.kids.length →
  Calls Try.prog 63 #[nodeV t.d (.slice p n c)] w0 fun e w'=>e=.returned (.bool (kindsT t))∧Below w0.heap.size w0 w'
 | 0,t,_,_,_,_,_,hm,_,_,_,_=>by have:=sizeT_pos t;omega
 | m+1,.mk d ts,p,n,c,F,w0,hm,hm2,hF,h,hn=>by
  have IH:=ref_kinds m
  simp only[Tree.kids,Tree.d]at h hn ⊢
  obtain⟨xs,h1,h2,rfl⟩:=h.open
  have E:=Lib.hid (show kindsT (.mk d (xs.map (·.1)))=(nodeOk d n&&kindsTs (xs.map (·.1))) by rw[kindsT,hn])
  rw[List.length_map]at hn
  rw[← hn]at h1
  have hK:Knows F p n c xs w0:=⟨h1,h2⟩
  clear h h1 h2
  have H:=Hold.knows hF hK
  have hc1:=hK.bound.2.1
  have hc2:=hK.bound.2.2
  have hp:=hK.at
  clear hK
  simp only[sizeT]at hm
  have HN:=Lib.hid hn;clear hn
  go_enter Try.func63,Try.ntmps63
  go_upto_region 1 with (first|((first|((with_reducible refine kgA 1 ?_);refine kA 1 H ?_)|((with_reducible refine kgX 1 ?_);(first|refine kS 1 H ?_|refine kB 1 H ?_)));clear H;intro b1 w H;try simp only[nrm,nrl,Value.cells]at H)|fail)
  go_wp2_with fail
  obtain⟨T,hT,fw,hf,h0⟩:=fam w
  have e1:=fun x=>(H.call (hf x)).cell (i:=1) i_1 1
  have e2:=fun x=>(H.call (hf x)).cell (i:=1) i_1 2
  have e3:=fun x=>(H.call (hf x)).cell (i:=1) i_1 3
  have e4:=fun x=>(H.call (hf x)).cell (i:=1) i_1 4
  have e5:=fun x=>(H.call (hf x)).cell (i:=1) i_1 5
  have e9:=fun x=>(H.call (hf x)).cell (i:=1) i_1 9
  simp only[ng1,ng2,ng3,ng4,ng5,ng9]at e1 e2 e3 e4 e5 e9
  have heq:∀ W,(Op.equalIn 10000 28 (.agg #[.int .u64 (d.set 0),.int .u64 (d.set 1),.int .u64 (d.set 2),.int .u64 (d.set 3)]) (.agg #[.int .u64 0,.int .u64 0,.int .u64 0,.int .u64 0])).run Try.prog W=.ok (eqS d.set emptyS) W:=run_eqSet d.set emptyS
  refine wp_region_fam fw (by kernel_rfl) (by kernel_rfl) h0 ?_
  repeat (go_big_quiet_step (fail))
  refine wpQuiet_nil ?_
  rintro _ ⟨x,rfl⟩
  replace H:=H.call (hf x)
  obtain⟨wq,hwq⟩:∃ wq,fw x=wq:=⟨_,rfl⟩
  rw[hwq]at H ⊢
  clear hwq e1 e2 e3 e4 e5 e9 heq h0 hf
  clear x fw hT T
  have hk0:n=0∨n=1∨1<n:=by omega
  generalize hbs:eqS d.set emptyS=bs
  generalize hbg:(d.group != 0)=bg
  have HBS:=Lib.hid hbs;have HBG:=Lib.hid hbg;clear hbs hbg
  go_upto_block 0 with (first|((with_reducible refine gL ?_);refine aG H ?_))
  simp only[pl]
  refine wp_cut (fun a' w'=>(∃ t:Array Value,a'=({tmps:=t,defers:=[]}:Act)∧t.size=154∧t[0]?=some (nodeV d (.slice p n c))∧t[1]?=some (.pointer (some ⟨b1,0,none⟩))∧t[2]?=some (.bool false)∧t[3]?=some (.bool (!bs))∧t[4]?=some (.bool bg)∧t[5]?=some (.int .i64 (n:Int))∧t[6]?=some (.bool (nodeOk1 d n)))∧Hold w0 w' [.kn F (Knows F p n c xs),.blk b1 (nodeC d (.slice p n c)) 31]) ?rest ?first
  case first =>
   intro J K' hJ hM
   by_cases h3:d.kind=3
   ·have d3:(d.kind == 3)=true:=by rw[beq_iff_eq];exact h3
    have EO:=Lib.hid (show nodeOk1 d n=(!bs&&((n:Int) == 0)&&!bg) by rw[nodeOk1,if_pos h3,HBS.out,HBG.out])
    clear h3
    go_upto_region 6 with (first|fail)
    refine wp_region_seq 10 [fun v _=>v=Value.bool (!bs),fun v _=>v=Value.bool (!bs),fun v _=>v=(bif (true)&&((!bs) == true) then Value.int .i64 ((n:Int)) else undef),fun v _=>v=(bif (true)&&((!bs) == true) then Value.bool (((n:Int)) == (0)) else undef),fun v _=>v=Value.bool ((!bs)&&(((n:Int)) == (0))),fun v _=>v=Value.bool ((!bs)&&(((n:Int)) == (0))),fun v _=>v=(bif (true)&&(((!bs)&&(((n:Int)) == (0))) == true) then Value.bool (bg) else undef),fun v _=>v=(bif (true)&&(((!bs)&&(((n:Int)) == (0))) == true) then Value.bool (!(bg)) else undef),fun v _=>v=Value.bool (((!bs)&&(((n:Int)) == (0)))&&(!(bg))),fun v _=>v=Value.bool (((!bs)&&(((n:Int)) == (0)))&&(!(bg)))] (fun _=>false) (by kernel_rfl) (by kernel_rfl) (by repeat (first|exact trivial|refine⟨stable_eq _,?_⟩)) (fun _ _ h=>by cases h) ?ob ?en
    case ob =>
     refine⟨?_,?_,?_,?_,?_,?_,?_,?_,?_,?_,trivial⟩<;>intro A W h
     ·exact rs_pure rfl (run_cp (.inl rfl) (h.frame 3 rfl)) (by decide)
     ·exact rs_pure rfl (run_cp (.inl rfl) (h.dep 0 42 rfl rfl)) (by decide)
     ·refine sy_if (j:=1) (d:=43) (want:=true) rfl rfl (h.dep 1 43 rfl rfl) (fun hc hb=>?_) (by decide);have hC:=Bool.and_eq_true_iff.2 ⟨hc,beq_iff_eq.2 hb⟩;exact run_cp (.inl rfl) (h.frame 5 rfl)
     ·refine sy_if (j:=1) (d:=43) (want:=true) rfl rfl (h.dep 1 43 rfl rfl) (fun hc hb=>?_) (by decide);have hC:=Bool.and_eq_true_iff.2 ⟨hc,beq_iff_eq.2 hb⟩;exact(by have e44:A.eval (.tmp 44)=Value.int .i64 ((n:Int)):=bif_at (h.dep 2 44 rfl rfl) hC;simp only[execOp,e44];simp[go_sem])
     ·exact rs_pure rfl (run_and rfl (h.dep 1 43 rfl rfl) (fun hb2=>bif_at (h.dep 3 45 rfl rfl) (by (first|(rw[hb2];rfl)|simp[hb2])))) (by decide)
     ·exact rs_pure rfl (run_cp (.inl rfl) (h.dep 4 46 rfl rfl)) (by decide)
     ·refine sy_if (j:=5) (d:=47) (want:=true) rfl rfl (h.dep 5 47 rfl rfl) (fun hc hb=>?_) (by decide);have hC:=Bool.and_eq_true_iff.2 ⟨hc,beq_iff_eq.2 hb⟩;exact run_cp (.inl rfl) (h.frame 4 rfl)
     ·refine sy_if (j:=5) (d:=47) (want:=true) rfl rfl (h.dep 5 47 rfl rfl) (fun hc hb=>?_) (by decide);have hC:=Bool.and_eq_true_iff.2 ⟨hc,beq_iff_eq.2 hb⟩;exact(by have e:A.eval (.tmp 48)=Value.bool (bg):=bif_at (h.dep 6 48 rfl rfl) hC;simp only[execOp,e];simp[go_sem])
     ·exact rs_pure rfl (run_and rfl (h.dep 5 47 rfl rfl) (fun hb2=>bif_at (h.dep 7 49 rfl rfl) (by (first|(rw[hb2];rfl)|simp[hb2])))) (by decide)
     ·exact rs_pure rfl (run_cp (.inr rfl) (h.dep 8 50 rfl rfl)) (by decide)
    case en =>
     intro vals W hbw hv _
     have v9:vals 9=_:=hv 9 (by omega)
     simp only[List.take_succ_cons,List.take_zero,List.drop_succ_cons,List.drop_zero,List.drop_nil,List.take_nil,fillAll,Nat.zero_add,Nat.reduceAdd]
     rw[v9]
     clear hv v9
     try simp only[pl]
     have H:=H.call hbw
     go_wp2_with fail
     (refine Met.intro ?_;go_step;exact⟨⟨_,rfl,rfl,rfl,rfl,rfl,rfl,rfl,rfl,by rw[EO.out];rfl⟩,H⟩)
   ·have d3:(d.kind == 3)=false:=by rw[beq_eq_false_iff_ne];exact h3
    by_cases h45:d.kind=4∨d.kind=5
    ·have EO:=Lib.hid (show nodeOk1 d n=(decide (1<(n:Int))&&!(!bs)&&!bg) by rw[nodeOk1,if_neg h3,if_pos h45,HBS.out,HBG.out])
     clear h3
     by_cases h4:d.kind=4
     ·have d4:(d.kind == 4)=true:=by rw[beq_iff_eq];exact h4
      clear h45 h4
      go_upto_region 9 with (first|fail)
      refine wp_region_seq 11 [fun v _=>v=Value.int .i64 ((n:Int)),fun v _=>v=Value.bool (decide ((1)<((n:Int)))),fun v _=>v=Value.bool (decide ((1)<((n:Int)))),fun v _=>v=(bif (true)&&((decide ((1)<((n:Int)))) == true) then Value.bool (!bs) else undef),fun v _=>v=(bif (true)&&((decide ((1)<((n:Int)))) == true) then Value.bool (!(!bs)) else undef),fun v _=>v=Value.bool ((decide ((1)<((n:Int))))&&(!(!bs))),fun v _=>v=Value.bool ((decide ((1)<((n:Int))))&&(!(!bs))),fun v _=>v=(bif (true)&&(((decide ((1)<((n:Int))))&&(!(!bs))) == true) then Value.bool (bg) else undef),fun v _=>v=(bif (true)&&(((decide ((1)<((n:Int))))&&(!(!bs))) == true) then Value.bool (!(bg)) else undef),fun v _=>v=Value.bool (((decide ((1)<((n:Int))))&&(!(!bs)))&&(!(bg))),fun v _=>v=Value.bool (((decide ((1)<((n:Int))))&&(!(!bs)))&&(!(bg)))] (fun _=>false) (by kernel_rfl) (by kernel_rfl) (by repeat (first|exact trivial|refine⟨stable_eq _,?_⟩)) (fun _ _ h=>by cases h) ?ob ?en
      case ob =>
       refine⟨?_,?_,?_,?_,?_,?_,?_,?_,?_,?_,?_,trivial⟩<;>intro A W h
       ·exact rs_pure rfl (run_cp (.inl rfl) (h.frame 5 rfl)) (by decide)
       ·exact rs_pure rfl ((by have e54:A.eval (.tmp 54)=Value.int .i64 ((n:Int)):=h.dep 0 54 rfl rfl;simp only[execOp,e54];simp[go_sem])) (by decide)
       ·exact rs_pure rfl (run_cp (.inl rfl) (h.dep 1 55 rfl rfl)) (by decide)
       ·refine sy_if (j:=2) (d:=56) (want:=true) rfl rfl (h.dep 2 56 rfl rfl) (fun hc hb=>?_) (by decide);have hC:=Bool.and_eq_true_iff.2 ⟨hc,beq_iff_eq.2 hb⟩;exact run_cp (.inl rfl) (h.frame 3 rfl)
       ·refine sy_if (j:=2) (d:=56) (want:=true) rfl rfl (h.dep 2 56 rfl rfl) (fun hc hb=>?_) (by decide);have hC:=Bool.and_eq_true_iff.2 ⟨hc,beq_iff_eq.2 hb⟩;exact(by have e:A.eval (.tmp 57)=Value.bool (!bs):=bif_at (h.dep 3 57 rfl rfl) hC;simp only[execOp,e];simp[go_sem])
       ·exact rs_pure rfl (run_and rfl (h.dep 2 56 rfl rfl) (fun hb2=>bif_at (h.dep 4 58 rfl rfl) (by (first|(rw[hb2];rfl)|simp[hb2])))) (by decide)
       ·exact rs_pure rfl (run_cp (.inl rfl) (h.dep 5 59 rfl rfl)) (by decide)
       ·refine sy_if (j:=6) (d:=60) (want:=true) rfl rfl (h.dep 6 60 rfl rfl) (fun hc hb=>?_) (by decide);have hC:=Bool.and_eq_true_iff.2 ⟨hc,beq_iff_eq.2 hb⟩;exact run_cp (.inl rfl) (h.frame 4 rfl)
       ·refine sy_if (j:=6) (d:=60) (want:=true) rfl rfl (h.dep 6 60 rfl rfl) (fun hc hb=>?_) (by decide);have hC:=Bool.and_eq_true_iff.2 ⟨hc,beq_iff_eq.2 hb⟩;exact(by have e:A.eval (.tmp 61)=Value.bool (bg):=bif_at (h.dep 7 61 rfl rfl) hC;simp only[execOp,e];simp[go_sem])
       ·exact rs_pure rfl (run_and rfl (h.dep 6 60 rfl rfl) (fun hb2=>bif_at (h.dep 8 62 rfl rfl) (by (first|(rw[hb2];rfl)|simp[hb2])))) (by decide)
       ·exact rs_pure rfl (run_cp (.inr rfl) (h.dep 9 63 rfl rfl)) (by decide)
      case en =>
       intro vals W hbw hv _
       have v10:vals 10=_:=hv 10 (by omega)
       simp only[List.take_succ_cons,List.take_zero,List.drop_succ_cons,List.drop_zero,List.drop_nil,List.take_nil,fillAll,Nat.zero_add,Nat.reduceAdd]
       rw[v10]
       clear hv v10
       try simp only[pl]
       have H:=H.call hbw
       go_wp2_with fail
       (refine Met.intro ?_;go_step;exact⟨⟨_,rfl,rfl,rfl,rfl,rfl,rfl,rfl,rfl,by rw[EO.out];rfl⟩,H⟩)
     ·have d4:(d.kind == 4)=false:=by rw[beq_eq_false_iff_ne];exact h4
      have d5:(d.kind == 5)=true:=by rw[beq_iff_eq];omega
      clear h45 h4
      go_upto_region 9 with (first|fail)
      refine wp_region_seq 11 [fun v _=>v=Value.int .i64 ((n:Int)),fun v _=>v=Value.bool (decide ((1)<((n:Int)))),fun v _=>v=Value.bool (decide ((1)<((n:Int)))),fun v _=>v=(bif (true)&&((decide ((1)<((n:Int)))) == true) then Value.bool (!bs) else undef),fun v _=>v=(bif (true)&&((decide ((1)<((n:Int)))) == true) then Value.bool (!(!bs)) else undef),fun v _=>v=Value.bool ((decide ((1)<((n:Int))))&&(!(!bs))),fun v _=>v=Value.bool ((decide ((1)<((n:Int))))&&(!(!bs))),fun v _=>v=(bif (true)&&(((decide ((1)<((n:Int))))&&(!(!bs))) == true) then Value.bool (bg) else undef),fun v _=>v=(bif (true)&&(((decide ((1)<((n:Int))))&&(!(!bs))) == true) then Value.bool (!(bg)) else undef),fun v _=>v=Value.bool (((decide ((1)<((n:Int))))&&(!(!bs)))&&(!(bg))),fun v _=>v=Value.bool (((decide ((1)<((n:Int))))&&(!(!bs)))&&(!(bg)))] (fun _=>false) (by kernel_rfl) (by kernel_rfl) (by repeat (first|exact trivial|refine⟨stable_eq _,?_⟩)) (fun _ _ h=>by cases h) ?ob ?en
      case ob =>
       refine⟨?_,?_,?_,?_,?_,?_,?_,?_,?_,?_,?_,trivial⟩<;>intro A W h
       ·exact rs_pure rfl (run_cp (.inl rfl) (h.frame 5 rfl)) (by decide)
       ·exact rs_pure rfl ((by have e54:A.eval (.tmp 54)=Value.int .i64 ((n:Int)):=h.dep 0 54 rfl rfl;simp only[execOp,e54];simp[go_sem])) (by decide)
       ·exact rs_pure rfl (run_cp (.inl rfl) (h.dep 1 55 rfl rfl)) (by decide)
       ·refine sy_if (j:=2) (d:=56) (want:=true) rfl rfl (h.dep 2 56 rfl rfl) (fun hc hb=>?_) (by decide);have hC:=Bool.and_eq_true_iff.2 ⟨hc,beq_iff_eq.2 hb⟩;exact run_cp (.inl rfl) (h.frame 3 rfl)
       ·refine sy_if (j:=2) (d:=56) (want:=true) rfl rfl (h.dep 2 56 rfl rfl) (fun hc hb=>?_) (by decide);have hC:=Bool.and_eq_true_iff.2 ⟨hc,beq_iff_eq.2 hb⟩;exact(by have e:A.eval (.tmp 57)=Value.bool (!bs):=bif_at (h.dep 3 57 rfl rfl) hC;simp only[execOp,e];simp[go_sem])
       ·exact rs_pure rfl (run_and rfl (h.dep 2 56 rfl rfl) (fun hb2=>bif_at (h.dep 4 58 rfl rfl) (by (first|(rw[hb2];rfl)|simp[hb2])))) (by decide)
       ·exact rs_pure rfl (run_cp (.inl rfl) (h.dep 5 59 rfl rfl)) (by decide)
       ·refine sy_if (j:=6) (d:=60) (want:=true) rfl rfl (h.dep 6 60 rfl rfl) (fun hc hb=>?_) (by decide);have hC:=Bool.and_eq_true_iff.2 ⟨hc,beq_iff_eq.2 hb⟩;exact run_cp (.inl rfl) (h.frame 4 rfl)
       ·refine sy_if (j:=6) (d:=60) (want:=true) rfl rfl (h.dep 6 60 rfl rfl) (fun hc hb=>?_) (by decide);have hC:=Bool.and_eq_true_iff.2 ⟨hc,beq_iff_eq.2 hb⟩;exact(by have e:A.eval (.tmp 61)=Value.bool (bg):=bif_at (h.dep 7 61 rfl rfl) hC;simp only[execOp,e];simp[go_sem])
       ·exact rs_pure rfl (run_and rfl (h.dep 6 60 rfl rfl) (fun hb2=>bif_at (h.dep 8 62 rfl rfl) (by (first|(rw[hb2];rfl)|simp[hb2])))) (by decide)
       ·exact rs_pure rfl (run_cp (.inr rfl) (h.dep 9 63 rfl rfl)) (by decide)
      case en =>
       intro vals W hbw hv _
       have v10:vals 10=_:=hv 10 (by omega)
       simp only[List.take_succ_cons,List.take_zero,List.drop_succ_cons,List.drop_zero,List.drop_nil,List.take_nil,fillAll,Nat.zero_add,Nat.reduceAdd]
       rw[v10]
       clear hv v10
       try simp only[pl]
       have H:=H.call hbw
       go_wp2_with fail
       (refine Met.intro ?_;go_step;exact⟨⟨_,rfl,rfl,rfl,rfl,rfl,rfl,rfl,rfl,by rw[EO.out];rfl⟩,H⟩)
    ·have d4:(d.kind == 4)=false:=by rw[beq_eq_false_iff_ne];omega
     have d5:(d.kind == 5)=false:=by rw[beq_eq_false_iff_ne];omega
     by_cases h6:d.kind=6
     ·have d6:(d.kind == 6)=true:=by rw[beq_iff_eq];exact h6
      have EO:=Lib.hid (show nodeOk1 d n=(((n:Int) == 1)&&!(!bs)&&!bg&&decide (0≤d.lo)&&decide (d.lo≤100)&&(d.hi == -1 || decide (d.lo≤d.hi)&&decide (d.hi≤100))) by rw[nodeOk1,if_neg h3,if_neg h45,if_pos h6,HBS.out,HBG.out])
      clear h3 h45 h6
      go_upto_region 11 with (first|fail)
      refine wp_region_seq 38 [fun v _=>v=Value.int .i64 ((n:Int)),fun v _=>v=Value.bool (((n:Int)) == (1)),fun v _=>v=Value.bool (((n:Int)) == (1)),fun v _=>v=(bif (true)&&((((n:Int)) == (1)) == true) then Value.bool (!bs) else undef),fun v _=>v=(bif (true)&&((((n:Int)) == (1)) == true) then Value.bool (!(!bs)) else undef),fun v _=>v=Value.bool ((((n:Int)) == (1))&&(!(!bs))),fun v _=>v=Value.bool ((((n:Int)) == (1))&&(!(!bs))),fun v _=>v=(bif (true)&&(((((n:Int)) == (1))&&(!(!bs))) == true) then Value.bool (bg) else undef),fun v _=>v=(bif (true)&&(((((n:Int)) == (1))&&(!(!bs))) == true) then Value.bool (!(bg)) else undef),fun v _=>v=Value.bool (((((n:Int)) == (1))&&(!(!bs)))&&(!(bg))),fun v _=>v=Value.bool (((((n:Int)) == (1))&&(!(!bs)))&&(!(bg))),fun v _=>v=(bif (true)&&((((((n:Int)) == (1))&&(!(!bs)))&&(!(bg))) == true) then Value.pointer (some ⟨b1,6,none⟩) else undef),fun v _=>v=(bif (true)&&((((((n:Int)) == (1))&&(!(!bs)))&&(!(bg))) == true) then Value.int .i64 (d.lo) else undef),fun v _=>v=(bif (true)&&((((((n:Int)) == (1))&&(!(!bs)))&&(!(bg))) == true) then Value.bool (decide ((0)≤(d.lo))) else undef),fun v _=>v=Value.bool ((((((n:Int)) == (1))&&(!(!bs)))&&(!(bg)))&&(decide ((0)≤(d.lo)))),fun v _=>v=Value.bool ((((((n:Int)) == (1))&&(!(!bs)))&&(!(bg)))&&(decide ((0)≤(d.lo)))),fun v _=>v=(bif (true)&&(((((((n:Int)) == (1))&&(!(!bs)))&&(!(bg)))&&(decide ((0)≤(d.lo)))) == true) then Value.pointer (some ⟨b1,6,none⟩) else undef),fun v _=>v=(bif (true)&&(((((((n:Int)) == (1))&&(!(!bs)))&&(!(bg)))&&(decide ((0)≤(d.lo)))) == true) then Value.int .i64 (d.lo) else undef),fun v _=>v=(bif (true)&&(((((((n:Int)) == (1))&&(!(!bs)))&&(!(bg)))&&(decide ((0)≤(d.lo)))) == true) then Value.bool (decide ((d.lo)≤(100))) else undef),fun v _=>v=Value.bool (((((((n:Int)) == (1))&&(!(!bs)))&&(!(bg)))&&(decide ((0)≤(d.lo))))&&(decide ((d.lo)≤(100)))),fun v _=>v=Value.bool (((((((n:Int)) == (1))&&(!(!bs)))&&(!(bg)))&&(decide ((0)≤(d.lo))))&&(decide ((d.lo)≤(100)))),fun v _=>v=(bif (true)&&((((((((n:Int)) == (1))&&(!(!bs)))&&(!(bg)))&&(decide ((0)≤(d.lo))))&&(decide ((d.lo)≤(100)))) == true) then Value.pointer (some ⟨b1,7,none⟩) else undef),fun v _=>v=(bif (true)&&((((((((n:Int)) == (1))&&(!(!bs)))&&(!(bg)))&&(decide ((0)≤(d.lo))))&&(decide ((d.lo)≤(100)))) == true) then Value.int .i64 (d.hi) else undef),fun v _=>v=(bif (true)&&((((((((n:Int)) == (1))&&(!(!bs)))&&(!(bg)))&&(decide ((0)≤(d.lo))))&&(decide ((d.lo)≤(100)))) == true) then Value.bool ((d.hi) == ((-1))) else undef),fun v _=>v=(bif (true)&&((((((((n:Int)) == (1))&&(!(!bs)))&&(!(bg)))&&(decide ((0)≤(d.lo))))&&(decide ((d.lo)≤(100)))) == true) then Value.bool ((d.hi) == ((-1))) else undef),fun v _=>v=(bif ((true)&&((((((((n:Int)) == (1))&&(!(!bs)))&&(!(bg)))&&(decide ((0)≤(d.lo))))&&(decide ((d.lo)≤(100)))) == true))&&(((d.hi) == ((-1))) == false) then Value.pointer (some ⟨b1,7,none⟩) else undef),fun v _=>v=(bif ((true)&&((((((((n:Int)) == (1))&&(!(!bs)))&&(!(bg)))&&(decide ((0)≤(d.lo))))&&(decide ((d.lo)≤(100)))) == true))&&(((d.hi) == ((-1))) == false) then Value.int .i64 (d.hi) else undef),fun v _=>v=(bif ((true)&&((((((((n:Int)) == (1))&&(!(!bs)))&&(!(bg)))&&(decide ((0)≤(d.lo))))&&(decide ((d.lo)≤(100)))) == true))&&(((d.hi) == ((-1))) == false) then Value.pointer (some ⟨b1,6,none⟩) else undef),fun v _=>v=(bif ((true)&&((((((((n:Int)) == (1))&&(!(!bs)))&&(!(bg)))&&(decide ((0)≤(d.lo))))&&(decide ((d.lo)≤(100)))) == true))&&(((d.hi) == ((-1))) == false) then Value.int .i64 (d.lo) else undef),fun v _=>v=(bif ((true)&&((((((((n:Int)) == (1))&&(!(!bs)))&&(!(bg)))&&(decide ((0)≤(d.lo))))&&(decide ((d.lo)≤(100)))) == true))&&(((d.hi) == ((-1))) == false) then Value.bool (decide ((d.lo)≤(d.hi))) else undef),fun v _=>v=(bif ((true)&&((((((((n:Int)) == (1))&&(!(!bs)))&&(!(bg)))&&(decide ((0)≤(d.lo))))&&(decide ((d.lo)≤(100)))) == true))&&(((d.hi) == ((-1))) == false) then Value.bool (decide ((d.lo)≤(d.hi))) else undef),fun v _=>v=(bif (((true)&&((((((((n:Int)) == (1))&&(!(!bs)))&&(!(bg)))&&(decide ((0)≤(d.lo))))&&(decide ((d.lo)≤(100)))) == true))&&(((d.hi) == ((-1))) == false))&&((decide ((d.lo)≤(d.hi))) == true) then Value.pointer (some ⟨b1,7,none⟩) else undef),fun v _=>v=(bif (((true)&&((((((((n:Int)) == (1))&&(!(!bs)))&&(!(bg)))&&(decide ((0)≤(d.lo))))&&(decide ((d.lo)≤(100)))) == true))&&(((d.hi) == ((-1))) == false))&&((decide ((d.lo)≤(d.hi))) == true) then Value.int .i64 (d.hi) else undef),fun v _=>v=(bif (((true)&&((((((((n:Int)) == (1))&&(!(!bs)))&&(!(bg)))&&(decide ((0)≤(d.lo))))&&(decide ((d.lo)≤(100)))) == true))&&(((d.hi) == ((-1))) == false))&&((decide ((d.lo)≤(d.hi))) == true) then Value.bool (decide ((d.hi)≤(100))) else undef),fun v _=>v=(bif ((true)&&((((((((n:Int)) == (1))&&(!(!bs)))&&(!(bg)))&&(decide ((0)≤(d.lo))))&&(decide ((d.lo)≤(100)))) == true))&&(((d.hi) == ((-1))) == false) then Value.bool ((decide ((d.lo)≤(d.hi)))&&(decide ((d.hi)≤(100)))) else undef),fun v _=>v=(bif (true)&&((((((((n:Int)) == (1))&&(!(!bs)))&&(!(bg)))&&(decide ((0)≤(d.lo))))&&(decide ((d.lo)≤(100)))) == true) then Value.bool (((d.hi) == ((-1))) || ((decide ((d.lo)≤(d.hi)))&&(decide ((d.hi)≤(100))))) else undef),fun v _=>v=Value.bool ((((((((n:Int)) == (1))&&(!(!bs)))&&(!(bg)))&&(decide ((0)≤(d.lo))))&&(decide ((d.lo)≤(100))))&&(((d.hi) == ((-1))) || ((decide ((d.lo)≤(d.hi)))&&(decide ((d.hi)≤(100)))))),fun v _=>v=Value.bool ((((((((n:Int)) == (1))&&(!(!bs)))&&(!(bg)))&&(decide ((0)≤(d.lo))))&&(decide ((d.lo)≤(100))))&&(((d.hi) == ((-1))) || ((decide ((d.lo)≤(d.hi)))&&(decide ((d.hi)≤(100))))))] (fun _=>false) (by kernel_rfl) (by kernel_rfl) (by repeat (first|exact trivial|refine⟨stable_eq _,?_⟩)) (fun _ _ h=>by cases h) ?ob ?en
      case ob =>
       refine⟨?_,?_,?_,?_,?_,?_,?_,?_,?_,?_,?_,?_,?_,?_,?_,?_,?_,?_,?_,?_,?_,?_,?_,?_,?_,?_,?_,?_,?_,?_,?_,?_,?_,?_,?_,?_,?_,?_,trivial⟩<;>intro A W h
       ·exact rs_pure rfl (run_cp (.inl rfl) (h.frame 5 rfl)) (by decide)
       ·exact rs_pure rfl ((by have e66:A.eval (.tmp 66)=Value.int .i64 ((n:Int)):=h.dep 0 66 rfl rfl;simp only[execOp,e66];simp[go_sem])) (by decide)
       ·exact rs_pure rfl (run_cp (.inl rfl) (h.dep 1 67 rfl rfl)) (by decide)
       ·refine sy_if (j:=2) (d:=68) (want:=true) rfl rfl (h.dep 2 68 rfl rfl) (fun hc hb=>?_) (by decide);have hC:=Bool.and_eq_true_iff.2 ⟨hc,beq_iff_eq.2 hb⟩;exact run_cp (.inl rfl) (h.frame 3 rfl)
       ·refine sy_if (j:=2) (d:=68) (want:=true) rfl rfl (h.dep 2 68 rfl rfl) (fun hc hb=>?_) (by decide);have hC:=Bool.and_eq_true_iff.2 ⟨hc,beq_iff_eq.2 hb⟩;exact(by have e:A.eval (.tmp 69)=Value.bool (!bs):=bif_at (h.dep 3 69 rfl rfl) hC;simp only[execOp,e];simp[go_sem])
       ·exact rs_pure rfl (run_and rfl (h.dep 2 68 rfl rfl) (fun hb2=>bif_at (h.dep 4 70 rfl rfl) (by (first|(rw[hb2];rfl)|simp[hb2])))) (by decide)
       ·exact rs_pure rfl (run_cp (.inl rfl) (h.dep 5 71 rfl rfl)) (by decide)
       ·refine sy_if (j:=6) (d:=72) (want:=true) rfl rfl (h.dep 6 72 rfl rfl) (fun hc hb=>?_) (by decide);have hC:=Bool.and_eq_true_iff.2 ⟨hc,beq_iff_eq.2 hb⟩;exact run_cp (.inl rfl) (h.frame 4 rfl)
       ·refine sy_if (j:=6) (d:=72) (want:=true) rfl rfl (h.dep 6 72 rfl rfl) (fun hc hb=>?_) (by decide);have hC:=Bool.and_eq_true_iff.2 ⟨hc,beq_iff_eq.2 hb⟩;exact(by have e:A.eval (.tmp 73)=Value.bool (bg):=bif_at (h.dep 7 73 rfl rfl) hC;simp only[execOp,e];simp[go_sem])
       ·exact rs_pure rfl (run_and rfl (h.dep 6 72 rfl rfl) (fun hb2=>bif_at (h.dep 8 74 rfl rfl) (by (first|(rw[hb2];rfl)|simp[hb2])))) (by decide)
       ·exact rs_pure rfl (run_cp (.inl rfl) (h.dep 9 75 rfl rfl)) (by decide)
       ·refine sy_if (j:=10) (d:=76) (want:=true) rfl rfl (h.dep 10 76 rfl rfl) (fun hc hb=>?_) (by decide);have hC:=Bool.and_eq_true_iff.2 ⟨hc,beq_iff_eq.2 hb⟩;exact(by have e:A.eval (.tmp 1)=Value.pointer (some ⟨b1,0,none⟩):=h.frame 1 rfl;simp only[execOp,e];simp[go_sem])
       ·refine sy_if (j:=10) (d:=76) (want:=true) rfl rfl (h.dep 10 76 rfl rfl) (fun hc hb=>?_) (by decide);have hC:=Bool.and_eq_true_iff.2 ⟨hc,beq_iff_eq.2 hb⟩;exact run_load1K rfl (bif_at (h.dep 11 77 rfl rfl) hC) one_int ((H.call h.below).cell (i:=1) i_1 6)
       ·refine sy_if (j:=10) (d:=76) (want:=true) rfl rfl (h.dep 10 76 rfl rfl) (fun hc hb=>?_) (by decide);have hC:=Bool.and_eq_true_iff.2 ⟨hc,beq_iff_eq.2 hb⟩;exact(by have e78:A.eval (.tmp 78)=Value.int .i64 (d.lo):=bif_at (h.dep 12 78 rfl rfl) hC;simp only[execOp,e78];simp[go_sem])
       ·exact rs_pure rfl (run_and rfl (h.dep 10 76 rfl rfl) (fun hb2=>bif_at (h.dep 13 79 rfl rfl) (by (first|(rw[hb2];rfl)|simp[hb2])))) (by decide)
       ·exact rs_pure rfl (run_cp (.inl rfl) (h.dep 14 80 rfl rfl)) (by decide)
       ·refine sy_if (j:=15) (d:=81) (want:=true) rfl rfl (h.dep 15 81 rfl rfl) (fun hc hb=>?_) (by decide);have hC:=Bool.and_eq_true_iff.2 ⟨hc,beq_iff_eq.2 hb⟩;exact(by have e:A.eval (.tmp 1)=Value.pointer (some ⟨b1,0,none⟩):=h.frame 1 rfl;simp only[execOp,e];simp[go_sem])
       ·refine sy_if (j:=15) (d:=81) (want:=true) rfl rfl (h.dep 15 81 rfl rfl) (fun hc hb=>?_) (by decide);have hC:=Bool.and_eq_true_iff.2 ⟨hc,beq_iff_eq.2 hb⟩;exact run_load1K rfl (bif_at (h.dep 16 82 rfl rfl) hC) one_int ((H.call h.below).cell (i:=1) i_1 6)
       ·refine sy_if (j:=15) (d:=81) (want:=true) rfl rfl (h.dep 15 81 rfl rfl) (fun hc hb=>?_) (by decide);have hC:=Bool.and_eq_true_iff.2 ⟨hc,beq_iff_eq.2 hb⟩;exact(by have e83:A.eval (.tmp 83)=Value.int .i64 (d.lo):=bif_at (h.dep 17 83 rfl rfl) hC;simp only[execOp,e83];simp[go_sem])
       ·exact rs_pure rfl (run_and rfl (h.dep 15 81 rfl rfl) (fun hb2=>bif_at (h.dep 18 84 rfl rfl) (by (first|(rw[hb2];rfl)|simp[hb2])))) (by decide)
       ·exact rs_pure rfl (run_cp (.inl rfl) (h.dep 19 85 rfl rfl)) (by decide)
       ·refine sy_if (j:=20) (d:=86) (want:=true) rfl rfl (h.dep 20 86 rfl rfl) (fun hc hb=>?_) (by decide);have hC:=Bool.and_eq_true_iff.2 ⟨hc,beq_iff_eq.2 hb⟩;exact(by have e:A.eval (.tmp 1)=Value.pointer (some ⟨b1,0,none⟩):=h.frame 1 rfl;simp only[execOp,e];simp[go_sem])
       ·refine sy_if (j:=20) (d:=86) (want:=true) rfl rfl (h.dep 20 86 rfl rfl) (fun hc hb=>?_) (by decide);have hC:=Bool.and_eq_true_iff.2 ⟨hc,beq_iff_eq.2 hb⟩;exact run_load1K rfl (bif_at (h.dep 21 87 rfl rfl) hC) one_int ((H.call h.below).cell (i:=1) i_1 7)
       ·refine sy_if (j:=20) (d:=86) (want:=true) rfl rfl (h.dep 20 86 rfl rfl) (fun hc hb=>?_) (by decide);have hC:=Bool.and_eq_true_iff.2 ⟨hc,beq_iff_eq.2 hb⟩;exact(by have e88:A.eval (.tmp 88)=Value.int .i64 (d.hi):=bif_at (h.dep 22 88 rfl rfl) hC;simp only[execOp,e88];simp[go_sem])
       ·refine sy_if (j:=20) (d:=86) (want:=true) rfl rfl (h.dep 20 86 rfl rfl) (fun hc hb=>?_) (by decide);have hC:=Bool.and_eq_true_iff.2 ⟨hc,beq_iff_eq.2 hb⟩;exact run_cp (.inl rfl) (bif_at (h.dep 23 89 rfl rfl) hC)
       ·refine sy_if (j:=24) (d:=90) (want:=false) rfl rfl (h.dep 24 90 rfl rfl) (fun hc hb=>?_) (by decide);have hC:=Bool.and_eq_true_iff.2 ⟨hc,beq_iff_eq.2 hb⟩;exact(by have e:A.eval (.tmp 1)=Value.pointer (some ⟨b1,0,none⟩):=h.frame 1 rfl;simp only[execOp,e];simp[go_sem])
       ·refine sy_if (j:=24) (d:=90) (want:=false) rfl rfl (h.dep 24 90 rfl rfl) (fun hc hb=>?_) (by decide);have hC:=Bool.and_eq_true_iff.2 ⟨hc,beq_iff_eq.2 hb⟩;exact run_load1K rfl (bif_at (h.dep 25 91 rfl rfl) hC) one_int ((H.call h.below).cell (i:=1) i_1 7)
       ·refine sy_if (j:=24) (d:=90) (want:=false) rfl rfl (h.dep 24 90 rfl rfl) (fun hc hb=>?_) (by decide);have hC:=Bool.and_eq_true_iff.2 ⟨hc,beq_iff_eq.2 hb⟩;exact(by have e:A.eval (.tmp 1)=Value.pointer (some ⟨b1,0,none⟩):=h.frame 1 rfl;simp only[execOp,e];simp[go_sem])
       ·refine sy_if (j:=24) (d:=90) (want:=false) rfl rfl (h.dep 24 90 rfl rfl) (fun hc hb=>?_) (by decide);have hC:=Bool.and_eq_true_iff.2 ⟨hc,beq_iff_eq.2 hb⟩;exact run_load1K rfl (bif_at (h.dep 27 93 rfl rfl) hC) one_int ((H.call h.below).cell (i:=1) i_1 6)
       ·refine sy_if (j:=24) (d:=90) (want:=false) rfl rfl (h.dep 24 90 rfl rfl) (fun hc hb=>?_) (by decide);have hC:=Bool.and_eq_true_iff.2 ⟨hc,beq_iff_eq.2 hb⟩;exact(by have e92:A.eval (.tmp 92)=Value.int .i64 (d.hi):=bif_at (h.dep 26 92 rfl rfl) hC;have e94:A.eval (.tmp 94)=Value.int .i64 (d.lo):=bif_at (h.dep 28 94 rfl rfl) hC;simp only[execOp,e92,e94];simp[go_sem])
       ·refine sy_if (j:=24) (d:=90) (want:=false) rfl rfl (h.dep 24 90 rfl rfl) (fun hc hb=>?_) (by decide);have hC:=Bool.and_eq_true_iff.2 ⟨hc,beq_iff_eq.2 hb⟩;exact run_cp (.inl rfl) (bif_at (h.dep 29 95 rfl rfl) hC)
       ·refine sy_if (j:=30) (d:=96) (want:=true) rfl rfl (h.dep 30 96 rfl rfl) (fun hc hb=>?_) (by decide);have hC:=Bool.and_eq_true_iff.2 ⟨hc,beq_iff_eq.2 hb⟩;exact(by have e:A.eval (.tmp 1)=Value.pointer (some ⟨b1,0,none⟩):=h.frame 1 rfl;simp only[execOp,e];simp[go_sem])
       ·refine sy_if (j:=30) (d:=96) (want:=true) rfl rfl (h.dep 30 96 rfl rfl) (fun hc hb=>?_) (by decide);have hC:=Bool.and_eq_true_iff.2 ⟨hc,beq_iff_eq.2 hb⟩;exact run_load1K rfl (bif_at (h.dep 31 97 rfl rfl) hC) one_int ((H.call h.below).cell (i:=1) i_1 7)
       ·refine sy_if (j:=30) (d:=96) (want:=true) rfl rfl (h.dep 30 96 rfl rfl) (fun hc hb=>?_) (by decide);have hC:=Bool.and_eq_true_iff.2 ⟨hc,beq_iff_eq.2 hb⟩;exact(by have e98:A.eval (.tmp 98)=Value.int .i64 (d.hi):=bif_at (h.dep 32 98 rfl rfl) hC;simp only[execOp,e98];simp[go_sem])
       ·refine sy_if (j:=24) (d:=90) (want:=false) rfl rfl (h.dep 24 90 rfl rfl) (fun hc hb=>?_) (by decide);have hC:=Bool.and_eq_true_iff.2 ⟨hc,beq_iff_eq.2 hb⟩;exact run_and rfl (bif_at (h.dep 30 96 rfl rfl) hC) (fun hb2=>bif_at (h.dep 33 99 rfl rfl) (by (first|(rw[hC,hb2];rfl)|(rw[hb2];rfl)|simp[hb2,hC])))
       ·refine sy_if (j:=20) (d:=86) (want:=true) rfl rfl (h.dep 20 86 rfl rfl) (fun hc hb=>?_) (by decide);have hC:=Bool.and_eq_true_iff.2 ⟨hc,beq_iff_eq.2 hb⟩;exact run_or rfl (bif_at (h.dep 24 90 rfl rfl) hC) (fun hb2=>bif_at (h.dep 34 100 rfl rfl) (by (first|(rw[hC,hb2];rfl)|(rw[hb2];rfl)|simp[hb2,hC])))
       ·exact rs_pure rfl (run_and rfl (h.dep 20 86 rfl rfl) (fun hb2=>bif_at (h.dep 35 101 rfl rfl) (by (first|(rw[hb2];rfl)|simp[hb2])))) (by decide)
       ·exact rs_pure rfl (run_cp (.inr rfl) (h.dep 36 102 rfl rfl)) (by decide)
      case en =>
       intro vals W hbw hv _
       have v37:vals 37=_:=hv 37 (by omega)
       simp only[List.take_succ_cons,List.take_zero,List.drop_succ_cons,List.drop_zero,List.drop_nil,List.take_nil,fillAll,Nat.zero_add,Nat.reduceAdd]
       rw[v37]
       clear hv v37
       try simp only[pl]
       have H:=H.call hbw
       go_wp2_with fail
       (refine Met.intro ?_;go_step;exact⟨⟨_,rfl,rfl,rfl,rfl,rfl,rfl,rfl,rfl,by rw[EO.out];rfl⟩,H⟩)
     ·have d6:(d.kind == 6)=false:=by rw[beq_eq_false_iff_ne];exact h6
      by_cases h7:d.kind=7
      ·have d7:(d.kind == 7)=true:=by rw[beq_iff_eq];exact h7
       have EO:=Lib.hid (show nodeOk1 d n=(((n:Int) == 1)&&!(!bs)&&decide (0<d.group)&&decide (d.group≤20)) by rw[nodeOk1,if_neg h3,if_neg h45,if_neg h6,if_pos h7,HBS.out])
       clear h3 h45 h6 h7
       go_upto_region 13 with (first|fail)
       refine wp_region_seq 17 [fun v _=>v=Value.int .i64 ((n:Int)),fun v _=>v=Value.bool (((n:Int)) == (1)),fun v _=>v=Value.bool (((n:Int)) == (1)),fun v _=>v=(bif (true)&&((((n:Int)) == (1)) == true) then Value.bool (!bs) else undef),fun v _=>v=(bif (true)&&((((n:Int)) == (1)) == true) then Value.bool (!(!bs)) else undef),fun v _=>v=Value.bool ((((n:Int)) == (1))&&(!(!bs))),fun v _=>v=Value.bool ((((n:Int)) == (1))&&(!(!bs))),fun v _=>v=(bif (true)&&(((((n:Int)) == (1))&&(!(!bs))) == true) then Value.pointer (some ⟨b1,9,none⟩) else undef),fun v _=>v=(bif (true)&&(((((n:Int)) == (1))&&(!(!bs))) == true) then Value.int .i64 (d.group) else undef),fun v _=>v=(bif (true)&&(((((n:Int)) == (1))&&(!(!bs))) == true) then Value.bool (decide ((0)<(d.group))) else undef),fun v _=>v=Value.bool (((((n:Int)) == (1))&&(!(!bs)))&&(decide ((0)<(d.group)))),fun v _=>v=Value.bool (((((n:Int)) == (1))&&(!(!bs)))&&(decide ((0)<(d.group)))),fun v _=>v=(bif (true)&&((((((n:Int)) == (1))&&(!(!bs)))&&(decide ((0)<(d.group)))) == true) then Value.pointer (some ⟨b1,9,none⟩) else undef),fun v _=>v=(bif (true)&&((((((n:Int)) == (1))&&(!(!bs)))&&(decide ((0)<(d.group)))) == true) then Value.int .i64 (d.group) else undef),fun v _=>v=(bif (true)&&((((((n:Int)) == (1))&&(!(!bs)))&&(decide ((0)<(d.group)))) == true) then Value.bool (decide ((d.group)≤(20))) else undef),fun v _=>v=Value.bool ((((((n:Int)) == (1))&&(!(!bs)))&&(decide ((0)<(d.group))))&&(decide ((d.group)≤(20)))),fun v _=>v=Value.bool ((((((n:Int)) == (1))&&(!(!bs)))&&(decide ((0)<(d.group))))&&(decide ((d.group)≤(20))))] (fun _=>false) (by kernel_rfl) (by kernel_rfl) (by repeat (first|exact trivial|refine⟨stable_eq _,?_⟩)) (fun _ _ h=>by cases h) ?ob ?en
       case ob =>
        refine⟨?_,?_,?_,?_,?_,?_,?_,?_,?_,?_,?_,?_,?_,?_,?_,?_,?_,trivial⟩<;>intro A W h
        ·exact rs_pure rfl (run_cp (.inl rfl) (h.frame 5 rfl)) (by decide)
        ·exact rs_pure rfl ((by have e105:A.eval (.tmp 105)=Value.int .i64 ((n:Int)):=h.dep 0 105 rfl rfl;simp only[execOp,e105];simp[go_sem])) (by decide)
        ·exact rs_pure rfl (run_cp (.inl rfl) (h.dep 1 106 rfl rfl)) (by decide)
        ·refine sy_if (j:=2) (d:=107) (want:=true) rfl rfl (h.dep 2 107 rfl rfl) (fun hc hb=>?_) (by decide);have hC:=Bool.and_eq_true_iff.2 ⟨hc,beq_iff_eq.2 hb⟩;exact run_cp (.inl rfl) (h.frame 3 rfl)
        ·refine sy_if (j:=2) (d:=107) (want:=true) rfl rfl (h.dep 2 107 rfl rfl) (fun hc hb=>?_) (by decide);have hC:=Bool.and_eq_true_iff.2 ⟨hc,beq_iff_eq.2 hb⟩;exact(by have e:A.eval (.tmp 108)=Value.bool (!bs):=bif_at (h.dep 3 108 rfl rfl) hC;simp only[execOp,e];simp[go_sem])
        ·exact rs_pure rfl (run_and rfl (h.dep 2 107 rfl rfl) (fun hb2=>bif_at (h.dep 4 109 rfl rfl) (by (first|(rw[hb2];rfl)|simp[hb2])))) (by decide)
        ·exact rs_pure rfl (run_cp (.inl rfl) (h.dep 5 110 rfl rfl)) (by decide)
        ·refine sy_if (j:=6) (d:=111) (want:=true) rfl rfl (h.dep 6 111 rfl rfl) (fun hc hb=>?_) (by decide);have hC:=Bool.and_eq_true_iff.2 ⟨hc,beq_iff_eq.2 hb⟩;exact(by have e:A.eval (.tmp 1)=Value.pointer (some ⟨b1,0,none⟩):=h.frame 1 rfl;simp only[execOp,e];simp[go_sem])
        ·refine sy_if (j:=6) (d:=111) (want:=true) rfl rfl (h.dep 6 111 rfl rfl) (fun hc hb=>?_) (by decide);have hC:=Bool.and_eq_true_iff.2 ⟨hc,beq_iff_eq.2 hb⟩;exact run_load1K rfl (bif_at (h.dep 7 112 rfl rfl) hC) one_int ((H.call h.below).cell (i:=1) i_1 9)
        ·refine sy_if (j:=6) (d:=111) (want:=true) rfl rfl (h.dep 6 111 rfl rfl) (fun hc hb=>?_) (by decide);have hC:=Bool.and_eq_true_iff.2 ⟨hc,beq_iff_eq.2 hb⟩;exact(by have e113:A.eval (.tmp 113)=Value.int .i64 (d.group):=bif_at (h.dep 8 113 rfl rfl) hC;simp only[execOp,e113];simp[go_sem])
        ·exact rs_pure rfl (run_and rfl (h.dep 6 111 rfl rfl) (fun hb2=>bif_at (h.dep 9 114 rfl rfl) (by (first|(rw[hb2];rfl)|simp[hb2])))) (by decide)
        ·exact rs_pure rfl (run_cp (.inl rfl) (h.dep 10 115 rfl rfl)) (by decide)
        ·refine sy_if (j:=11) (d:=116) (want:=true) rfl rfl (h.dep 11 116 rfl rfl) (fun hc hb=>?_) (by decide);have hC:=Bool.and_eq_true_iff.2 ⟨hc,beq_iff_eq.2 hb⟩;exact(by have e:A.eval (.tmp 1)=Value.pointer (some ⟨b1,0,none⟩):=h.frame 1 rfl;simp only[execOp,e];simp[go_sem])
        ·refine sy_if (j:=11) (d:=116) (want:=true) rfl rfl (h.dep 11 116 rfl rfl) (fun hc hb=>?_) (by decide);have hC:=Bool.and_eq_true_iff.2 ⟨hc,beq_iff_eq.2 hb⟩;exact run_load1K rfl (bif_at (h.dep 12 117 rfl rfl) hC) one_int ((H.call h.below).cell (i:=1) i_1 9)
        ·refine sy_if (j:=11) (d:=116) (want:=true) rfl rfl (h.dep 11 116 rfl rfl) (fun hc hb=>?_) (by decide);have hC:=Bool.and_eq_true_iff.2 ⟨hc,beq_iff_eq.2 hb⟩;exact(by have e118:A.eval (.tmp 118)=Value.int .i64 (d.group):=bif_at (h.dep 13 118 rfl rfl) hC;simp only[execOp,e118];simp[go_sem])
        ·exact rs_pure rfl (run_and rfl (h.dep 11 116 rfl rfl) (fun hb2=>bif_at (h.dep 14 119 rfl rfl) (by (first|(rw[hb2];rfl)|simp[hb2])))) (by decide)
        ·exact rs_pure rfl (run_cp (.inr rfl) (h.dep 15 120 rfl rfl)) (by decide)
       case en =>
        intro vals W hbw hv _
        have v16:vals 16=_:=hv 16 (by omega)
        simp only[List.take_succ_cons,List.take_zero,List.drop_succ_cons,List.drop_zero,List.drop_nil,List.take_nil,fillAll,Nat.zero_add,Nat.reduceAdd]
        rw[v16]
        clear hv v16
        try simp only[pl]
        have H:=H.call hbw
        go_wp2_with fail
        (refine Met.intro ?_;go_step;exact⟨⟨_,rfl,rfl,rfl,rfl,rfl,rfl,rfl,rfl,by rw[EO.out];rfl⟩,H⟩)
      ·have d7:(d.kind == 7)=false:=by rw[beq_eq_false_iff_ne];exact h7
       have EO:=Lib.hid (show nodeOk1 d n=(decide (1≤d.kind)&&decide (d.kind≤13)&&((n:Int) == 0)&&!(!bs)&&!bg) by rw[nodeOk1,if_neg h3,if_neg h45,if_neg h6,if_neg h7,HBS.out,HBG.out])
       clear h3 h45 h6 h7
       go_upto_region 4 with (first|fail)
       refine wp_region_seq 21 [fun v _=>v=Value.pointer (some ⟨b1,0,none⟩),fun v _=>v=Value.int .i64 (d.kind),fun v _=>v=Value.bool (decide ((1)≤(d.kind))),fun v _=>v=Value.bool (decide ((1)≤(d.kind))),fun v _=>v=(bif (true)&&((decide ((1)≤(d.kind))) == true) then Value.pointer (some ⟨b1,0,none⟩) else undef),fun v _=>v=(bif (true)&&((decide ((1)≤(d.kind))) == true) then Value.int .i64 (d.kind) else undef),fun v _=>v=(bif (true)&&((decide ((1)≤(d.kind))) == true) then Value.bool (decide ((d.kind)≤(13))) else undef),fun v _=>v=Value.bool ((decide ((1)≤(d.kind)))&&(decide ((d.kind)≤(13)))),fun v _=>v=Value.bool ((decide ((1)≤(d.kind)))&&(decide ((d.kind)≤(13)))),fun v _=>v=(bif (true)&&(((decide ((1)≤(d.kind)))&&(decide ((d.kind)≤(13)))) == true) then Value.int .i64 ((n:Int)) else undef),fun v _=>v=(bif (true)&&(((decide ((1)≤(d.kind)))&&(decide ((d.kind)≤(13)))) == true) then Value.bool (((n:Int)) == (0)) else undef),fun v _=>v=Value.bool (((decide ((1)≤(d.kind)))&&(decide ((d.kind)≤(13))))&&(((n:Int)) == (0))),fun v _=>v=Value.bool (((decide ((1)≤(d.kind)))&&(decide ((d.kind)≤(13))))&&(((n:Int)) == (0))),fun v _=>v=(bif (true)&&((((decide ((1)≤(d.kind)))&&(decide ((d.kind)≤(13))))&&(((n:Int)) == (0))) == true) then Value.bool (!bs) else undef),fun v _=>v=(bif (true)&&((((decide ((1)≤(d.kind)))&&(decide ((d.kind)≤(13))))&&(((n:Int)) == (0))) == true) then Value.bool (!(!bs)) else undef),fun v _=>v=Value.bool ((((decide ((1)≤(d.kind)))&&(decide ((d.kind)≤(13))))&&(((n:Int)) == (0)))&&(!(!bs))),fun v _=>v=Value.bool ((((decide ((1)≤(d.kind)))&&(decide ((d.kind)≤(13))))&&(((n:Int)) == (0)))&&(!(!bs))),fun v _=>v=(bif (true)&&(((((decide ((1)≤(d.kind)))&&(decide ((d.kind)≤(13))))&&(((n:Int)) == (0)))&&(!(!bs))) == true) then Value.bool (bg) else undef),fun v _=>v=(bif (true)&&(((((decide ((1)≤(d.kind)))&&(decide ((d.kind)≤(13))))&&(((n:Int)) == (0)))&&(!(!bs))) == true) then Value.bool (!(bg)) else undef),fun v _=>v=Value.bool (((((decide ((1)≤(d.kind)))&&(decide ((d.kind)≤(13))))&&(((n:Int)) == (0)))&&(!(!bs)))&&(!(bg))),fun v _=>v=Value.bool (((((decide ((1)≤(d.kind)))&&(decide ((d.kind)≤(13))))&&(((n:Int)) == (0)))&&(!(!bs)))&&(!(bg)))] (fun _=>false) (by kernel_rfl) (by kernel_rfl) (by repeat (first|exact trivial|refine⟨stable_eq _,?_⟩)) (fun _ _ h=>by cases h) ?ob ?en
       case ob =>
        refine⟨?_,?_,?_,?_,?_,?_,?_,?_,?_,?_,?_,?_,?_,?_,?_,?_,?_,?_,?_,?_,?_,trivial⟩<;>intro A W h
        ·exact rs_pure rfl ((by have e:A.eval (.tmp 1)=Value.pointer (some ⟨b1,0,none⟩):=h.frame 1 rfl;simp only[execOp,e];simp[go_sem])) (by decide)
        ·exact rs_pure rfl (run_load1K rfl (h.dep 0 20 rfl rfl) one_spot ((H.call h.below).cell (i:=1) i_1 0)) (by decide)
        ·exact rs_pure rfl ((by have e21:A.eval (.tmp 21)=Value.int .i64 (d.kind):=h.dep 1 21 rfl rfl;simp only[execOp,e21];simp[go_sem])) (by decide)
        ·exact rs_pure rfl (run_cp (.inl rfl) (h.dep 2 22 rfl rfl)) (by decide)
        ·refine sy_if (j:=3) (d:=23) (want:=true) rfl rfl (h.dep 3 23 rfl rfl) (fun hc hb=>?_) (by decide);have hC:=Bool.and_eq_true_iff.2 ⟨hc,beq_iff_eq.2 hb⟩;exact(by have e:A.eval (.tmp 1)=Value.pointer (some ⟨b1,0,none⟩):=h.frame 1 rfl;simp only[execOp,e];simp[go_sem])
        ·refine sy_if (j:=3) (d:=23) (want:=true) rfl rfl (h.dep 3 23 rfl rfl) (fun hc hb=>?_) (by decide);have hC:=Bool.and_eq_true_iff.2 ⟨hc,beq_iff_eq.2 hb⟩;exact run_load1K rfl (bif_at (h.dep 4 24 rfl rfl) hC) one_spot ((H.call h.below).cell (i:=1) i_1 0)
        ·refine sy_if (j:=3) (d:=23) (want:=true) rfl rfl (h.dep 3 23 rfl rfl) (fun hc hb=>?_) (by decide);have hC:=Bool.and_eq_true_iff.2 ⟨hc,beq_iff_eq.2 hb⟩;exact(by have e25:A.eval (.tmp 25)=Value.int .i64 (d.kind):=bif_at (h.dep 5 25 rfl rfl) hC;simp only[execOp,e25];simp[go_sem])
        ·exact rs_pure rfl (run_and rfl (h.dep 3 23 rfl rfl) (fun hb2=>bif_at (h.dep 6 26 rfl rfl) (by (first|(rw[hb2];rfl)|simp[hb2])))) (by decide)
        ·exact rs_pure rfl (run_cp (.inl rfl) (h.dep 7 27 rfl rfl)) (by decide)
        ·refine sy_if (j:=8) (d:=28) (want:=true) rfl rfl (h.dep 8 28 rfl rfl) (fun hc hb=>?_) (by decide);have hC:=Bool.and_eq_true_iff.2 ⟨hc,beq_iff_eq.2 hb⟩;exact run_cp (.inl rfl) (h.frame 5 rfl)
        ·refine sy_if (j:=8) (d:=28) (want:=true) rfl rfl (h.dep 8 28 rfl rfl) (fun hc hb=>?_) (by decide);have hC:=Bool.and_eq_true_iff.2 ⟨hc,beq_iff_eq.2 hb⟩;exact(by have e29:A.eval (.tmp 29)=Value.int .i64 ((n:Int)):=bif_at (h.dep 9 29 rfl rfl) hC;simp only[execOp,e29];simp[go_sem])
        ·exact rs_pure rfl (run_and rfl (h.dep 8 28 rfl rfl) (fun hb2=>bif_at (h.dep 10 30 rfl rfl) (by (first|(rw[hb2];rfl)|simp[hb2])))) (by decide)
        ·exact rs_pure rfl (run_cp (.inl rfl) (h.dep 11 31 rfl rfl)) (by decide)
        ·refine sy_if (j:=12) (d:=32) (want:=true) rfl rfl (h.dep 12 32 rfl rfl) (fun hc hb=>?_) (by decide);have hC:=Bool.and_eq_true_iff.2 ⟨hc,beq_iff_eq.2 hb⟩;exact run_cp (.inl rfl) (h.frame 3 rfl)
        ·refine sy_if (j:=12) (d:=32) (want:=true) rfl rfl (h.dep 12 32 rfl rfl) (fun hc hb=>?_) (by decide);have hC:=Bool.and_eq_true_iff.2 ⟨hc,beq_iff_eq.2 hb⟩;exact(by have e:A.eval (.tmp 33)=Value.bool (!bs):=bif_at (h.dep 13 33 rfl rfl) hC;simp only[execOp,e];simp[go_sem])
        ·exact rs_pure rfl (run_and rfl (h.dep 12 32 rfl rfl) (fun hb2=>bif_at (h.dep 14 34 rfl rfl) (by (first|(rw[hb2];rfl)|simp[hb2])))) (by decide)
        ·exact rs_pure rfl (run_cp (.inl rfl) (h.dep 15 35 rfl rfl)) (by decide)
        ·refine sy_if (j:=16) (d:=36) (want:=true) rfl rfl (h.dep 16 36 rfl rfl) (fun hc hb=>?_) (by decide);have hC:=Bool.and_eq_true_iff.2 ⟨hc,beq_iff_eq.2 hb⟩;exact run_cp (.inl rfl) (h.frame 4 rfl)
        ·refine sy_if (j:=16) (d:=36) (want:=true) rfl rfl (h.dep 16 36 rfl rfl) (fun hc hb=>?_) (by decide);have hC:=Bool.and_eq_true_iff.2 ⟨hc,beq_iff_eq.2 hb⟩;exact(by have e:A.eval (.tmp 37)=Value.bool (bg):=bif_at (h.dep 17 37 rfl rfl) hC;simp only[execOp,e];simp[go_sem])
        ·exact rs_pure rfl (run_and rfl (h.dep 16 36 rfl rfl) (fun hb2=>bif_at (h.dep 18 38 rfl rfl) (by (first|(rw[hb2];rfl)|simp[hb2])))) (by decide)
        ·exact rs_pure rfl (run_cp (.inr rfl) (h.dep 19 39 rfl rfl)) (by decide)
       case en =>
        intro vals W hbw hv _
        have v20:vals 20=_:=hv 20 (by omega)
        simp only[List.take_succ_cons,List.take_zero,List.drop_succ_cons,List.drop_zero,List.drop_nil,List.take_nil,fillAll,Nat.zero_add,Nat.reduceAdd]
        rw[v20]
        clear hv v20
        try simp only[pl]
        have H:=H.call hbw
        go_wp2_with fail
        (refine Met.intro ?_;go_step;exact⟨⟨_,rfl,rfl,rfl,rfl,rfl,rfl,rfl,rfl,by rw[EO.out];rfl⟩,H⟩)
  case rest =>
   (rintro _ wc ⟨⟨t,rfl,ht,e0,e1,e2,e3,e4,e5,e6⟩,hcut⟩;have hl:=lit154 t ht;clear ht;obtain⟨u0,hl⟩:=hl;obtain⟨u1,hl⟩:=hl;obtain⟨u2,hl⟩:=hl;obtain⟨u3,hl⟩:=hl;obtain⟨u4,hl⟩:=hl;obtain⟨u5,hl⟩:=hl;obtain⟨u6,hl⟩:=hl;obtain⟨u7,hl⟩:=hl;obtain⟨u8,hl⟩:=hl;obtain⟨u9,hl⟩:=hl;obtain⟨u10,hl⟩:=hl;obtain⟨u11,hl⟩:=hl;obtain⟨u12,hl⟩:=hl;obtain⟨u13,hl⟩:=hl;obtain⟨u14,hl⟩:=hl;obtain⟨u15,hl⟩:=hl;obtain⟨u16,hl⟩:=hl;obtain⟨u17,hl⟩:=hl;obtain⟨u18,hl⟩:=hl;obtain⟨u19,hl⟩:=hl;obtain⟨u20,hl⟩:=hl;obtain⟨u21,hl⟩:=hl;obtain⟨u22,hl⟩:=hl;obtain⟨u23,hl⟩:=hl;obtain⟨u24,hl⟩:=hl;obtain⟨u25,hl⟩:=hl;obtain⟨u26,hl⟩:=hl;obtain⟨u27,hl⟩:=hl;obtain⟨u28,hl⟩:=hl;obtain⟨u29,hl⟩:=hl;obtain⟨u30,hl⟩:=hl;obtain⟨u31,hl⟩:=hl;obtain⟨u32,hl⟩:=hl;obtain⟨u33,hl⟩:=hl;obtain⟨u34,hl⟩:=hl;obtain⟨u35,hl⟩:=hl;obtain⟨u36,hl⟩:=hl;obtain⟨u37,hl⟩:=hl;obtain⟨u38,hl⟩:=hl;obtain⟨u39,hl⟩:=hl;obtain⟨u40,hl⟩:=hl;obtain⟨u41,hl⟩:=hl;obtain⟨u42,hl⟩:=hl;obtain⟨u43,hl⟩:=hl;obtain⟨u44,hl⟩:=hl;obtain⟨u45,hl⟩:=hl;obtain⟨u46,hl⟩:=hl;obtain⟨u47,hl⟩:=hl;obtain⟨u48,hl⟩:=hl;obtain⟨u49,hl⟩:=hl;obtain⟨u50,hl⟩:=hl;obtain⟨u51,hl⟩:=hl;obtain⟨u52,hl⟩:=hl;obtain⟨u53,hl⟩:=hl;obtain⟨u54,hl⟩:=hl;obtain⟨u55,hl⟩:=hl;obtain⟨u56,hl⟩:=hl;obtain⟨u57,hl⟩:=hl;obtain⟨u58,hl⟩:=hl;obtain⟨u59,hl⟩:=hl;obtain⟨u60,hl⟩:=hl;obtain⟨u61,hl⟩:=hl;obtain⟨u62,hl⟩:=hl;obtain⟨u63,hl⟩:=hl;obtain⟨u64,hl⟩:=hl;obtain⟨u65,hl⟩:=hl;obtain⟨u66,hl⟩:=hl;obtain⟨u67,hl⟩:=hl;obtain⟨u68,hl⟩:=hl;obtain⟨u69,hl⟩:=hl;obtain⟨u70,hl⟩:=hl;obtain⟨u71,hl⟩:=hl;obtain⟨u72,hl⟩:=hl;obtain⟨u73,hl⟩:=hl;obtain⟨u74,hl⟩:=hl;obtain⟨u75,hl⟩:=hl;obtain⟨u76,hl⟩:=hl;obtain⟨u77,hl⟩:=hl;obtain⟨u78,hl⟩:=hl;obtain⟨u79,hl⟩:=hl;obtain⟨u80,hl⟩:=hl;obtain⟨u81,hl⟩:=hl;obtain⟨u82,hl⟩:=hl;obtain⟨u83,hl⟩:=hl;obtain⟨u84,hl⟩:=hl;obtain⟨u85,hl⟩:=hl;obtain⟨u86,hl⟩:=hl;obtain⟨u87,hl⟩:=hl;obtain⟨u88,hl⟩:=hl;obtain⟨u89,hl⟩:=hl;obtain⟨u90,hl⟩:=hl;obtain⟨u91,hl⟩:=hl;obtain⟨u92,hl⟩:=hl;obtain⟨u93,hl⟩:=hl;obtain⟨u94,hl⟩:=hl;obtain⟨u95,hl⟩:=hl;obtain⟨u96,hl⟩:=hl;obtain⟨u97,hl⟩:=hl;obtain⟨u98,hl⟩:=hl;obtain⟨u99,hl⟩:=hl;obtain⟨u100,hl⟩:=hl;obtain⟨u101,hl⟩:=hl;obtain⟨u102,hl⟩:=hl;obtain⟨u103,hl⟩:=hl;obtain⟨u104,hl⟩:=hl;obtain⟨u105,hl⟩:=hl;obtain⟨u106,hl⟩:=hl;obtain⟨u107,hl⟩:=hl;obtain⟨u108,hl⟩:=hl;obtain⟨u109,hl⟩:=hl;obtain⟨u110,hl⟩:=hl;obtain⟨u111,hl⟩:=hl;obtain⟨u112,hl⟩:=hl;obtain⟨u113,hl⟩:=hl;obtain⟨u114,hl⟩:=hl;obtain⟨u115,hl⟩:=hl;obtain⟨u116,hl⟩:=hl;obtain⟨u117,hl⟩:=hl;obtain⟨u118,hl⟩:=hl;obtain⟨u119,hl⟩:=hl;obtain⟨u120,hl⟩:=hl;obtain⟨u121,hl⟩:=hl;obtain⟨u122,hl⟩:=hl;obtain⟨u123,hl⟩:=hl;obtain⟨u124,hl⟩:=hl;obtain⟨u125,hl⟩:=hl;obtain⟨u126,hl⟩:=hl;obtain⟨u127,hl⟩:=hl;obtain⟨u128,hl⟩:=hl;obtain⟨u129,hl⟩:=hl;obtain⟨u130,hl⟩:=hl;obtain⟨u131,hl⟩:=hl;obtain⟨u132,hl⟩:=hl;obtain⟨u133,hl⟩:=hl;obtain⟨u134,hl⟩:=hl;obtain⟨u135,hl⟩:=hl;obtain⟨u136,hl⟩:=hl;obtain⟨u137,hl⟩:=hl;obtain⟨u138,hl⟩:=hl;obtain⟨u139,hl⟩:=hl;obtain⟨u140,hl⟩:=hl;obtain⟨u141,hl⟩:=hl;obtain⟨u142,hl⟩:=hl;obtain⟨u143,hl⟩:=hl;obtain⟨u144,hl⟩:=hl;obtain⟨u145,hl⟩:=hl;obtain⟨u146,hl⟩:=hl;obtain⟨u147,hl⟩:=hl;obtain⟨u148,hl⟩:=hl;obtain⟨u149,hl⟩:=hl;obtain⟨u150,hl⟩:=hl;obtain⟨u151,hl⟩:=hl;obtain⟨u152,hl⟩:=hl;obtain⟨u153,hl⟩:=hl;subst hl;(replace e0:some u0=some (nodeV d (.slice p n c)):=e0);(cases e0);(replace e1:some u1=some (.pointer (some ⟨b1,0,none⟩)):=e1);(cases e1);(replace e2:some u2=some (.bool false):=e2);(cases e2);(replace e3:some u3=some (.bool (!bs)):=e3);(cases e3);(replace e4:some u4=some (.bool bg):=e4);(cases e4);(replace e5:some u5=some (.int .i64 (n:Int)):=e5);(cases e5);(replace e6:some u6=some (.bool (nodeOk1 d n)):=e6);(cases e6))
   have H:=hcut;clear hcut
   go_upto_region 14 with fail
   refine wp_region_seq 21 [fun v _=>v=Value.bool (nodeOk1 d n),fun v _=>v=Value.bool (!(nodeOk1 d n)),fun v _=>v=Value.bool (!(nodeOk1 d n)),fun v _=>v=(bif (true)&&((!(nodeOk1 d n)) == false) then Value.pointer (some ⟨b1,0,none⟩) else undef),fun v _=>v=(bif (true)&&((!(nodeOk1 d n)) == false) then Value.int .i64 (d.kind) else undef),fun v _=>v=(bif (true)&&((!(nodeOk1 d n)) == false) then Value.bool ((d.kind) != (6)) else undef),fun v _=>v=(bif (true)&&((!(nodeOk1 d n)) == false) then Value.bool ((d.kind) != (6)) else undef),fun v _=>v=(bif ((true)&&((!(nodeOk1 d n)) == false))&&(((d.kind) != (6)) == true) then Value.pointer (some ⟨b1,6,none⟩) else undef),fun v _=>v=(bif ((true)&&((!(nodeOk1 d n)) == false))&&(((d.kind) != (6)) == true) then Value.int .i64 (d.lo) else undef),fun v _=>v=(bif ((true)&&((!(nodeOk1 d n)) == false))&&(((d.kind) != (6)) == true) then Value.bool ((d.lo) != (0)) else undef),fun v _=>v=(bif ((true)&&((!(nodeOk1 d n)) == false))&&(((d.kind) != (6)) == true) then Value.bool ((d.lo) != (0)) else undef),fun v _=>v=(bif (((true)&&((!(nodeOk1 d n)) == false))&&(((d.kind) != (6)) == true))&&(((d.lo) != (0)) == false) then Value.pointer (some ⟨b1,7,none⟩) else undef),fun v _=>v=(bif (((true)&&((!(nodeOk1 d n)) == false))&&(((d.kind) != (6)) == true))&&(((d.lo) != (0)) == false) then Value.int .i64 (d.hi) else undef),fun v _=>v=(bif (((true)&&((!(nodeOk1 d n)) == false))&&(((d.kind) != (6)) == true))&&(((d.lo) != (0)) == false) then Value.bool ((d.hi) != (0)) else undef),fun v _=>v=(bif ((true)&&((!(nodeOk1 d n)) == false))&&(((d.kind) != (6)) == true) then Value.bool (((d.lo) != (0)) || ((d.hi) != (0))) else undef),fun v _=>v=(bif ((true)&&((!(nodeOk1 d n)) == false))&&(((d.kind) != (6)) == true) then Value.bool (((d.lo) != (0)) || ((d.hi) != (0))) else undef),fun v _=>v=(bif (((true)&&((!(nodeOk1 d n)) == false))&&(((d.kind) != (6)) == true))&&((((d.lo) != (0)) || ((d.hi) != (0))) == false) then Value.pointer (some ⟨b1,8,none⟩) else undef),fun v _=>v=(bif (((true)&&((!(nodeOk1 d n)) == false))&&(((d.kind) != (6)) == true))&&((((d.lo) != (0)) || ((d.hi) != (0))) == false) then Value.bool (d.lazy) else undef),fun v _=>v=(bif ((true)&&((!(nodeOk1 d n)) == false))&&(((d.kind) != (6)) == true) then Value.bool ((((d.lo) != (0)) || ((d.hi) != (0))) || (d.lazy)) else undef),fun v _=>v=(bif (true)&&((!(nodeOk1 d n)) == false) then Value.bool (((d.kind) != (6))&&((((d.lo) != (0)) || ((d.hi) != (0))) || (d.lazy))) else undef),fun v _=>v=Value.bool ((!(nodeOk1 d n)) || (((d.kind) != (6))&&((((d.lo) != (0)) || ((d.hi) != (0))) || (d.lazy))))] (fun _=>false) (by kernel_rfl) (by kernel_rfl) (by repeat (first|exact trivial|refine⟨stable_eq _,?_⟩)) (fun _ _ h=>by cases h) ?ob ?en
   case ob =>
    refine⟨?_,?_,?_,?_,?_,?_,?_,?_,?_,?_,?_,?_,?_,?_,?_,?_,?_,?_,?_,?_,?_,trivial⟩<;>intro A W h
    ·exact rs_pure rfl (run_cp (.inl rfl) (h.frame 6 rfl)) (by decide)
    ·exact rs_pure rfl ((by have e:A.eval (.tmp 121)=Value.bool (nodeOk1 d n):=h.dep 0 121 rfl rfl;simp only[execOp,e];simp[go_sem])) (by decide)
    ·exact rs_pure rfl (run_cp (.inl rfl) (h.dep 1 122 rfl rfl)) (by decide)
    ·refine sy_if (j:=2) (d:=123) (want:=false) rfl rfl (h.dep 2 123 rfl rfl) (fun hc hb=>?_) (by decide);have hC:=Bool.and_eq_true_iff.2 ⟨hc,beq_iff_eq.2 hb⟩;exact(by have e:A.eval (.tmp 1)=Value.pointer (some ⟨b1,0,none⟩):=h.frame 1 rfl;simp only[execOp,e];simp[go_sem])
    ·refine sy_if (j:=2) (d:=123) (want:=false) rfl rfl (h.dep 2 123 rfl rfl) (fun hc hb=>?_) (by decide);have hC:=Bool.and_eq_true_iff.2 ⟨hc,beq_iff_eq.2 hb⟩;exact run_load1K rfl (bif_at (h.dep 3 124 rfl rfl) hC) one_spot ((H.call h.below).cell (i:=1) i_1 0)
    ·refine sy_if (j:=2) (d:=123) (want:=false) rfl rfl (h.dep 2 123 rfl rfl) (fun hc hb=>?_) (by decide);have hC:=Bool.and_eq_true_iff.2 ⟨hc,beq_iff_eq.2 hb⟩;exact(by have e125:A.eval (.tmp 125)=Value.int .i64 (d.kind):=bif_at (h.dep 4 125 rfl rfl) hC;simp only[execOp,e125];simp[go_sem])
    ·refine sy_if (j:=2) (d:=123) (want:=false) rfl rfl (h.dep 2 123 rfl rfl) (fun hc hb=>?_) (by decide);have hC:=Bool.and_eq_true_iff.2 ⟨hc,beq_iff_eq.2 hb⟩;exact run_cp (.inl rfl) (bif_at (h.dep 5 126 rfl rfl) hC)
    ·refine sy_if (j:=6) (d:=127) (want:=true) rfl rfl (h.dep 6 127 rfl rfl) (fun hc hb=>?_) (by decide);have hC:=Bool.and_eq_true_iff.2 ⟨hc,beq_iff_eq.2 hb⟩;exact(by have e:A.eval (.tmp 1)=Value.pointer (some ⟨b1,0,none⟩):=h.frame 1 rfl;simp only[execOp,e];simp[go_sem])
    ·refine sy_if (j:=6) (d:=127) (want:=true) rfl rfl (h.dep 6 127 rfl rfl) (fun hc hb=>?_) (by decide);have hC:=Bool.and_eq_true_iff.2 ⟨hc,beq_iff_eq.2 hb⟩;exact run_load1K rfl (bif_at (h.dep 7 128 rfl rfl) hC) one_int ((H.call h.below).cell (i:=1) i_1 6)
    ·refine sy_if (j:=6) (d:=127) (want:=true) rfl rfl (h.dep 6 127 rfl rfl) (fun hc hb=>?_) (by decide);have hC:=Bool.and_eq_true_iff.2 ⟨hc,beq_iff_eq.2 hb⟩;exact(by have e129:A.eval (.tmp 129)=Value.int .i64 (d.lo):=bif_at (h.dep 8 129 rfl rfl) hC;simp only[execOp,e129];simp[go_sem])
    ·refine sy_if (j:=6) (d:=127) (want:=true) rfl rfl (h.dep 6 127 rfl rfl) (fun hc hb=>?_) (by decide);have hC:=Bool.and_eq_true_iff.2 ⟨hc,beq_iff_eq.2 hb⟩;exact run_cp (.inl rfl) (bif_at (h.dep 9 130 rfl rfl) hC)
    ·refine sy_if (j:=10) (d:=131) (want:=false) rfl rfl (h.dep 10 131 rfl rfl) (fun hc hb=>?_) (by decide);have hC:=Bool.and_eq_true_iff.2 ⟨hc,beq_iff_eq.2 hb⟩;exact(by have e:A.eval (.tmp 1)=Value.pointer (some ⟨b1,0,none⟩):=h.frame 1 rfl;simp only[execOp,e];simp[go_sem])
    ·refine sy_if (j:=10) (d:=131) (want:=false) rfl rfl (h.dep 10 131 rfl rfl) (fun hc hb=>?_) (by decide);have hC:=Bool.and_eq_true_iff.2 ⟨hc,beq_iff_eq.2 hb⟩;exact run_load1K rfl (bif_at (h.dep 11 132 rfl rfl) hC) one_int ((H.call h.below).cell (i:=1) i_1 7)
    ·refine sy_if (j:=10) (d:=131) (want:=false) rfl rfl (h.dep 10 131 rfl rfl) (fun hc hb=>?_) (by decide);have hC:=Bool.and_eq_true_iff.2 ⟨hc,beq_iff_eq.2 hb⟩;exact(by have e133:A.eval (.tmp 133)=Value.int .i64 (d.hi):=bif_at (h.dep 12 133 rfl rfl) hC;simp only[execOp,e133];simp[go_sem])
    ·refine sy_if (j:=6) (d:=127) (want:=true) rfl rfl (h.dep 6 127 rfl rfl) (fun hc hb=>?_) (by decide);have hC:=Bool.and_eq_true_iff.2 ⟨hc,beq_iff_eq.2 hb⟩;exact run_or rfl (bif_at (h.dep 10 131 rfl rfl) hC) (fun hb2=>bif_at (h.dep 13 134 rfl rfl) (by (first|(rw[hC,hb2];rfl)|(rw[hb2];rfl)|simp[hb2,hC])))
    ·refine sy_if (j:=6) (d:=127) (want:=true) rfl rfl (h.dep 6 127 rfl rfl) (fun hc hb=>?_) (by decide);have hC:=Bool.and_eq_true_iff.2 ⟨hc,beq_iff_eq.2 hb⟩;exact run_cp (.inl rfl) (bif_at (h.dep 14 135 rfl rfl) hC)
    ·refine sy_if (j:=15) (d:=136) (want:=false) rfl rfl (h.dep 15 136 rfl rfl) (fun hc hb=>?_) (by decide);have hC:=Bool.and_eq_true_iff.2 ⟨hc,beq_iff_eq.2 hb⟩;exact(by have e:A.eval (.tmp 1)=Value.pointer (some ⟨b1,0,none⟩):=h.frame 1 rfl;simp only[execOp,e];simp[go_sem])
    ·refine sy_if (j:=15) (d:=136) (want:=false) rfl rfl (h.dep 15 136 rfl rfl) (fun hc hb=>?_) (by decide);have hC:=Bool.and_eq_true_iff.2 ⟨hc,beq_iff_eq.2 hb⟩;exact run_load1K rfl (bif_at (h.dep 16 137 rfl rfl) hC) one_bool ((H.call h.below).cell (i:=1) i_1 8)
    ·refine sy_if (j:=6) (d:=127) (want:=true) rfl rfl (h.dep 6 127 rfl rfl) (fun hc hb=>?_) (by decide);have hC:=Bool.and_eq_true_iff.2 ⟨hc,beq_iff_eq.2 hb⟩;exact run_or rfl (bif_at (h.dep 15 136 rfl rfl) hC) (fun hb2=>bif_at (h.dep 17 138 rfl rfl) (by (first|(rw[hC,hb2];rfl)|(rw[hb2];rfl)|simp[hb2,hC])))
    ·refine sy_if (j:=2) (d:=123) (want:=false) rfl rfl (h.dep 2 123 rfl rfl) (fun hc hb=>?_) (by decide);have hC:=Bool.and_eq_true_iff.2 ⟨hc,beq_iff_eq.2 hb⟩;exact run_and rfl (bif_at (h.dep 6 127 rfl rfl) hC) (fun hb2=>bif_at (h.dep 18 139 rfl rfl) (by (first|(rw[hC,hb2];rfl)|(rw[hb2];rfl)|simp[hb2,hC])))
    ·exact rs_pure rfl (run_or rfl (h.dep 2 123 rfl rfl) (fun hb2=>bif_at (h.dep 19 140 rfl rfl) (by (first|(rw[hb2];rfl)|simp[hb2])))) (by decide)
   case en =>
    intro vals W hbw hv _
    have v20:vals 20=_:=hv 20 (by omega)
    simp only[List.take_succ_cons,List.take_zero,List.drop_succ_cons,List.drop_zero,List.drop_nil,List.take_nil,fillAll,Nat.zero_add,Nat.reduceAdd]
    rw[v20]
    clear hv v20
    try simp only[pl]
    have H:=H.call hbw
    rw[nodeOk_not]
    cases hok:nodeOk d n with
    | false =>
     have E2:=Lib.hid (show kindsT (.mk d (xs.map (·.1)))=false by rw[E.out,hok];rfl)
     clear hok
     go_wp2_with (first|fail)
     go_ret
     exact⟨retb E2.out.symm,H.below⟩
    | true =>
     have E2:=Lib.hid (show kindsT (.mk d (xs.map (·.1)))=kindsTs (xs.map (·.1)) by rw[E.out,hok];rfl)
     clear hok
     go_wp2_with (first|fail)
     go_loopw [7] (fun ix wr=>∃ j:Nat,j≤n∧ix=.int .i64 j∧Hid (kindsTs ((xs.map (·.1)).take j)=true)∧Hold w0 wr [.kn F (Knows F p n c xs),.blk b1 (nodeC d (.slice p n c)) 31]) (fun ix _=>n+1 - (intOf ix).toNat)
     case atStart=>exact⟨0,by omega,rfl,Lib.hid rfl,H⟩
     case round =>
      clear H
      obtain⟨j,hj,rfl,G,H⟩:=hrel
      by_cases hlt:j<n
      ·have dj:decide ((j:Int)<(n:Int))=true:=by simp;omega
       obtain⟨x,hx⟩:∃ x,xs[j]?=some x:=⟨_,List.getElem?_eq_getElem (by rw[← HN.out];exact hlt)⟩
       obtain⟨b,off,rfl⟩:=hp (by rw[← HN.out];omega)
       have hs1:=size_part hx
       have hmem:=List.mem_of_getElem? hx
       have hcell:∀ V,Knows F (some ⟨b,off,none⟩) n c xs V→∀ k,k<10→V.cell? ⟨b,off+j * 10+k,none⟩=(nodeX x)[k]?:=fun V h=>h.cells hx rfl
       have ih:=fun w (hw:∀ b,F b→b<w.heap.size) (hk:Knows F (some ⟨b,off,none⟩) n c xs w)=>IH x.1 x.2.1 _ x.2.2 F w (by omega) (by omega) hw (hk.2 x hmem) rfl
       cases hkx:kindsT x.1 with
       | false =>
        have E3:=Lib.hid (show kindsT (.mk d (xs.map (·.1)))=false by rw[E2.out,kinds_no hx hkx])
        rw[hkx]at ih
        clear IH hx hmem hp hkx hs1
        go_wp2_with (first|((with_reducible refine gL ?_);refine own_loadK wtd_ _ _ rfl rfl row_Node (nodeX_size x) (hcell _ (H.kn (i:=0) .zero)) ?_)|((with_reducible refine gL ?_);refine aG H ?_)|(go_at_call 63;(with_reducible refine ch (ih _ (H.knlt (i:=0) .zero) (H.kn (i:=0) .zero)) H ?_);clear H;intro w H))
        go_ret
        exact⟨retb E3.out.symm,H.below⟩
       | true =>
        have G2:=Lib.hid (show kindsTs ((xs.map (·.1)).take (j+1))=true by rw[kinds_part hx,G.out,hkx];rfl)
        rw[hkx]at ih
        clear IH hx hmem hp hkx hs1
        go_wp2_with (first|((with_reducible refine gL ?_);refine own_loadK wtd_ _ _ rfl rfl row_Node (nodeX_size x) (hcell _ (H.kn (i:=0) .zero)) ?_)|((with_reducible refine gL ?_);refine aG H ?_)|(go_at_call 63;(with_reducible refine ch (ih _ (H.knlt (i:=0) .zero) (H.kn (i:=0) .zero)) H ?_);clear H;intro w H))
        go_roundw
        case rel=>exact⟨j+1,by omega,by go_num,G2,H⟩
        case measure=>simp[intOf];omega
      ·have dj:decide ((j:Int)<(n:Int))=false:=by simp;omega
       have E3:=Lib.hid (show kindsT (.mk d (xs.map (·.1)))=true by
        rw[E2.out]
        have:=G.out
        rwa [List.take_of_length_le (by rw[List.length_map,← HN.out];omega)]at this)
       go_wp2_with (first|fail)
       go_ret
       exact⟨retb E3.out.symm,H.below⟩
def TreeB (w:World) (G:Nat→Prop) (o:Option Tree) (e:Ending) (w':World):Prop:=match o with
 | some t=>∃ p c F,e=.returned (.tuple #[nodeV t.d (.slice p t.kids.length c),.bool true])∧ForestR w' F p c t.kids∧∀ b,F b→b<w'.heap.size∧(w.heap.size≤b∨G b)
 | none=>∃ d p n c,e=.returned (.tuple #[nodeV d (.slice p n c),.bool false])
theorem TreeB.leaf {w w':World} {G:Nat→Prop} {o:Option Tree} {k:Int} (h:o=some (leafT k)):TreeB w G o (.returned (.tuple #[nodeV {kind:=k} nilS,.bool true])) w':=by
 subst h;exact⟨none,0,fun _=>False,rfl,ForestR.nil ..,fun _ h=>h.elim⟩
theorem TreeB.no {w w':World} {G:Nat→Prop} {o:Option Tree} {d:NodeD} {p:Option Addr} {n c:Nat} (h:o=none):TreeB w G o (.returned (.tuple #[nodeV d (.slice p n c),.bool false])) w':=by
 subst h;exact⟨d,p,n,c,rfl⟩
theorem rep_start (d:NodeD) (k:Int):((((d.hi) == (0)) || ((k) == (1))) || (((k) == (2))&&((d.lo) == (0))))=decide (d.hi=0∨k=1∨k=2∧d.lo=0):=by
 rw[Bool.eq_iff_iff];simp[or_assoc]
theorem quiet_val {P:Program} {a:Act} {o:Oper} {C:World→Prop} {K:Act→Prop} {v:Value} (h:∀ w,C w→(execOp a.eval o).run P w=.ok (.value v) w) (hk:K (a.put o.dst v)):o.quiet P a C K :=
 ⟨v,fun w hw=>by unfold Oper.quietAt;rw[h w hw];exact⟨rfl,rfl⟩,hk⟩
theorem max2_int (a b:Int):Builtin.max2 (.int .i64 a) (.int .i64 b)=pure (.int .i64 (max a b)):=by
 show (pure (.int .i64 (if b > a then b else a)):Sem Value)=_
 rw[show (if b > a then b else a)=max a b by omega]
theorem run_max3 {P:Program} {ev:Operand→Value} {w:World} {o:Oper} {x y z:Operand} {ts:Array TypeId} {i j k:Int} (hop:o.op=Op.call {callee:=.builtin .max,args:=#[x,y,z],argTypes:=ts}) (hx:ev x=.int .i64 i) (hy:ev y=.int .i64 j) (hz:ev z=.int .i64 k) :
  (execOp ev o).run P w=.ok (.value (.int .i64 (max (max i j) k))) w:=by
 simp[execOp,hop,hx,hy,hz,go_sem,Builtin.max_,max2_int]
theorem size_rep (k:Tree):∀ n,sizeTs (List.replicate n k)=n * sizeT k
 | 0=>by simp[sizeTs]
 | n+1=>by rw[List.replicate_succ,sizeTs,size_rep k n,Nat.succ_mul,Nat.add_comm]
theorem flatR_rep (k:TV) (n:Nat):flatR ((List.replicate n k).map nodeX)++(nodeC k.1.d (.slice k.2.1 k.1.kids.length k.2.2)).toList=flatR ((List.replicate (n+1) k).map nodeX):=by
 rw[List.replicate_succ',List.map_append,flatR_append];simp[flatR]
theorem flatR_put (xs:List TV) (y:TV):flatR (xs.map nodeX)++(nodeC y.1.d (.slice y.2.1 y.1.kids.length y.2.2)).toList=flatR ((xs++[y]).map nodeX):=by
 rw[List.map_append,flatR_append];simp[flatR]
theorem map_rep (k:TV) (n:Nat):(List.replicate n k).map (·.1)=List.replicate n k.1:=by rw[List.map_replicate]
theorem wrap_mul (n:Nat) (m:Int) (h:n≤2000) (h1:0≤m) (h2:m≤100):wrap64 ((n:Int) * m)=n * m:=by
 have h3:(0:Int)≤(n:Int) * m:=Int.mul_nonneg (by omega) h1
 have h4:(n:Int) * m≤2000 * 100:=Int.mul_le_mul (by omega) h2 h1 (by decide)
 unfold wrap64
 omega
theorem chk {M:Nat→Prop} {P:Program} {f:FuncId} {args:Array Value} {w w0:World} {l:List Res} {ts:List Tree} {G:Nat→Prop} {R:Ending→World→Prop} (c:Calls P f args w fun e w'=>ListOut w G ts e w'∧Below w.heap.size w w') (H:HoldG M w0 w l) (hG:Still l G)
  (k:∀ p n F (xs:List TV) w',Hid (xs.map (·.1)=ts)→(∀ b,F b→w0.heap.size≤b∨G b)→HoldG M w0 w' (l++[.kn F (Knows F p xs.length n xs)])→R (.returned (.slice p xs.length n)) w'):Calls P f args w R:=c.mono fun _ w' h=>by
 obtain⟨⟨p,n,F,rfl,hs,hF⟩,hb⟩:=h
 obtain⟨xs,h1,h2,rfl⟩:=hs.open
 have hl:(xs.map (·.1)).length=xs.length:=List.length_map ..
 rw[hl]
 exact k p n F xs w' (Lib.hid rfl) (fun b h=>(hF b h).2.imp (fun h=>Nat.le_trans H.keep.size h) id) (H.learn hb hG hF (fun V hV=>⟨h1.kept hV,h2.kept hV⟩))
theorem ref_repeat11 (d:NodeD) (p0:Option Addr) (n0 c0:Nat) (k:Tree) (p:Option Addr) (c:Nat) (F:Nat→Prop) (w0:World) (hlo:0≤d.lo∧d.lo≤100) (hhi:d.hi = -1∨d.lo≤d.hi∧d.hi≤100) (hk:sizeT k≤2000) (hF:∀ b,F b→b<w0.heap.size) (h:ForestR w0 F p c k.kids) :
  Calls Try.prog 69 #[nodeV d (.slice p0 n0 c0),nodeV k.d (.slice p k.kids.length c)] w0 fun e w'=>TreeB w0 F (repeatT d k) e w'∧Below w0.heap.size w0 w':=by
 obtain⟨i0,hi0,hz0,hz1,hz2⟩:=info_parts info_Node
 have H:=(Hold.start w0).know F (fun V=>ForestR V F p c k.kids) hF (fun i r h=>by simp at h) (fun V hV=>h.kept hV)
 clear h
 simp only[List.nil_append]at H
 have E:repeatT d k=repeatT d k:=rfl
 conv at E=>rhs;unfold repeatT
 have hem:=fun w=>ref_empty w
 have hno:=fun w=>ref_none w
 go_enter Try.func69,Try.ntmps69
 go_upto_region 1 with (first|((first|((with_reducible refine kgA 2 ?_);refine kA 2 H ?_)|((with_reducible refine kgX 2 ?_);(first|refine kS 2 H ?_|refine kB 2 H ?_)));clear H;intro b2 w H;try simp only[nrm,nrl,Value.cells]at H)|((first|((with_reducible refine kgA 3 ?_);refine kA 3 H ?_)|((with_reducible refine kgX 3 ?_);(first|refine kS 3 H ?_|refine kB 3 H ?_)));clear H;intro b3 w H;try simp only[nrm,nrl,Value.cells]at H)|((first|((with_reducible refine kgA 4 ?_);refine kA 4 H ?_)|((with_reducible refine kgX 4 ?_);(first|refine kS 4 H ?_|refine kB 4 H ?_)));clear H;intro b4 w H;try simp only[nrm,nrl,Value.cells]at H)|fail)
 refine wp_region_seq 19 [fun v _=>v=Value.pointer (some ⟨b2,7,none⟩),fun v _=>v=Value.int .i64 (d.hi),fun v _=>v=Value.bool ((d.hi) == (0)),fun v _=>v=Value.bool ((d.hi) == (0)),fun v _=>v=(bif (true)&&(((d.hi) == (0)) == false) then Value.pointer (some ⟨b3,0,none⟩) else undef),fun v _=>v=(bif (true)&&(((d.hi) == (0)) == false) then Value.int .i64 (k.d.kind) else undef),fun v _=>v=(bif (true)&&(((d.hi) == (0)) == false) then Value.bool ((k.d.kind) == (1)) else undef),fun v _=>v=Value.bool (((d.hi) == (0)) || ((k.d.kind) == (1))),fun v _=>v=Value.bool (((d.hi) == (0)) || ((k.d.kind) == (1))),fun v _=>v=(bif (true)&&((((d.hi) == (0)) || ((k.d.kind) == (1))) == false) then Value.pointer (some ⟨b3,0,none⟩) else undef),fun v _=>v=(bif (true)&&((((d.hi) == (0)) || ((k.d.kind) == (1))) == false) then Value.int .i64 (k.d.kind) else undef),fun v _=>v=(bif (true)&&((((d.hi) == (0)) || ((k.d.kind) == (1))) == false) then Value.bool ((k.d.kind) == (2)) else undef),fun v _=>v=(bif (true)&&((((d.hi) == (0)) || ((k.d.kind) == (1))) == false) then Value.bool ((k.d.kind) == (2)) else undef),fun v _=>v=(bif ((true)&&((((d.hi) == (0)) || ((k.d.kind) == (1))) == false))&&(((k.d.kind) == (2)) == true) then Value.pointer (some ⟨b2,6,none⟩) else undef),fun v _=>v=(bif ((true)&&((((d.hi) == (0)) || ((k.d.kind) == (1))) == false))&&(((k.d.kind) == (2)) == true) then Value.int .i64 (d.lo) else undef),fun v _=>v=(bif ((true)&&((((d.hi) == (0)) || ((k.d.kind) == (1))) == false))&&(((k.d.kind) == (2)) == true) then Value.bool ((d.lo) == (0)) else undef),fun v _=>v=(bif (true)&&((((d.hi) == (0)) || ((k.d.kind) == (1))) == false) then Value.bool (((k.d.kind) == (2))&&((d.lo) == (0))) else undef),fun v _=>v=Value.bool ((((d.hi) == (0)) || ((k.d.kind) == (1))) || (((k.d.kind) == (2))&&((d.lo) == (0)))),fun v _=>v=Value.bool ((((d.hi) == (0)) || ((k.d.kind) == (1))) || (((k.d.kind) == (2))&&((d.lo) == (0))))] (fun _=>false) (by kernel_rfl) (by kernel_rfl) (by repeat (first|exact trivial|refine⟨stable_eq _,?_⟩)) (fun _ _ h=>by cases h) ?ob ?en
 case ob =>
  refine⟨?_,?_,?_,?_,?_,?_,?_,?_,?_,?_,?_,?_,?_,?_,?_,?_,?_,?_,?_,trivial⟩<;>intro A W h
  ·exact rs_pure rfl ((by have e:A.eval (.tmp 2)=Value.pointer (some ⟨b2,0,none⟩):=h.frame 2 rfl;simp only[execOp,e];simp[go_sem])) (by decide)
  ·exact rs_pure rfl (run_load1K rfl (h.dep 0 9 rfl rfl) one_int ((H.call h.below).cell (i:=1) i_1 7)) (by decide)
  ·exact rs_pure rfl ((by have e10:A.eval (.tmp 10)=Value.int .i64 (d.hi):=h.dep 1 10 rfl rfl;simp only[execOp,e10];simp[go_sem])) (by decide)
  ·exact rs_pure rfl (run_cp (.inl rfl) (h.dep 2 11 rfl rfl)) (by decide)
  ·refine sy_if (j:=3) (d:=12) (want:=false) rfl rfl (h.dep 3 12 rfl rfl) (fun hc hb=>?_) (by decide);have hC:=Bool.and_eq_true_iff.2 ⟨hc,beq_iff_eq.2 hb⟩;exact(by have e:A.eval (.tmp 3)=Value.pointer (some ⟨b3,0,none⟩):=h.frame 3 rfl;simp only[execOp,e];simp[go_sem])
  ·refine sy_if (j:=3) (d:=12) (want:=false) rfl rfl (h.dep 3 12 rfl rfl) (fun hc hb=>?_) (by decide);have hC:=Bool.and_eq_true_iff.2 ⟨hc,beq_iff_eq.2 hb⟩;exact run_load1K rfl (bif_at (h.dep 4 13 rfl rfl) hC) one_spot ((H.call h.below).cell (i:=2) i_2 0)
  ·refine sy_if (j:=3) (d:=12) (want:=false) rfl rfl (h.dep 3 12 rfl rfl) (fun hc hb=>?_) (by decide);have hC:=Bool.and_eq_true_iff.2 ⟨hc,beq_iff_eq.2 hb⟩;exact(by have e14:A.eval (.tmp 14)=Value.int .i64 (k.d.kind):=bif_at (h.dep 5 14 rfl rfl) hC;simp only[execOp,e14];simp[go_sem])
  ·exact rs_pure rfl (run_or rfl (h.dep 3 12 rfl rfl) (fun hb2=>bif_at (h.dep 6 15 rfl rfl) (by (first|(rw[hb2];rfl)|simp[hb2])))) (by decide)
  ·exact rs_pure rfl (run_cp (.inl rfl) (h.dep 7 16 rfl rfl)) (by decide)
  ·refine sy_if (j:=8) (d:=17) (want:=false) rfl rfl (h.dep 8 17 rfl rfl) (fun hc hb=>?_) (by decide);have hC:=Bool.and_eq_true_iff.2 ⟨hc,beq_iff_eq.2 hb⟩;exact(by have e:A.eval (.tmp 3)=Value.pointer (some ⟨b3,0,none⟩):=h.frame 3 rfl;simp only[execOp,e];simp[go_sem])
  ·refine sy_if (j:=8) (d:=17) (want:=false) rfl rfl (h.dep 8 17 rfl rfl) (fun hc hb=>?_) (by decide);have hC:=Bool.and_eq_true_iff.2 ⟨hc,beq_iff_eq.2 hb⟩;exact run_load1K rfl (bif_at (h.dep 9 18 rfl rfl) hC) one_spot ((H.call h.below).cell (i:=2) i_2 0)
  ·refine sy_if (j:=8) (d:=17) (want:=false) rfl rfl (h.dep 8 17 rfl rfl) (fun hc hb=>?_) (by decide);have hC:=Bool.and_eq_true_iff.2 ⟨hc,beq_iff_eq.2 hb⟩;exact(by have e19:A.eval (.tmp 19)=Value.int .i64 (k.d.kind):=bif_at (h.dep 10 19 rfl rfl) hC;simp only[execOp,e19];simp[go_sem])
  ·refine sy_if (j:=8) (d:=17) (want:=false) rfl rfl (h.dep 8 17 rfl rfl) (fun hc hb=>?_) (by decide);have hC:=Bool.and_eq_true_iff.2 ⟨hc,beq_iff_eq.2 hb⟩;exact run_cp (.inl rfl) (bif_at (h.dep 11 20 rfl rfl) hC)
  ·refine sy_if (j:=12) (d:=21) (want:=true) rfl rfl (h.dep 12 21 rfl rfl) (fun hc hb=>?_) (by decide);have hC:=Bool.and_eq_true_iff.2 ⟨hc,beq_iff_eq.2 hb⟩;exact(by have e:A.eval (.tmp 2)=Value.pointer (some ⟨b2,0,none⟩):=h.frame 2 rfl;simp only[execOp,e];simp[go_sem])
  ·refine sy_if (j:=12) (d:=21) (want:=true) rfl rfl (h.dep 12 21 rfl rfl) (fun hc hb=>?_) (by decide);have hC:=Bool.and_eq_true_iff.2 ⟨hc,beq_iff_eq.2 hb⟩;exact run_load1K rfl (bif_at (h.dep 13 22 rfl rfl) hC) one_int ((H.call h.below).cell (i:=1) i_1 6)
  ·refine sy_if (j:=12) (d:=21) (want:=true) rfl rfl (h.dep 12 21 rfl rfl) (fun hc hb=>?_) (by decide);have hC:=Bool.and_eq_true_iff.2 ⟨hc,beq_iff_eq.2 hb⟩;exact(by have e23:A.eval (.tmp 23)=Value.int .i64 (d.lo):=bif_at (h.dep 14 23 rfl rfl) hC;simp only[execOp,e23];simp[go_sem])
  ·refine sy_if (j:=8) (d:=17) (want:=false) rfl rfl (h.dep 8 17 rfl rfl) (fun hc hb=>?_) (by decide);have hC:=Bool.and_eq_true_iff.2 ⟨hc,beq_iff_eq.2 hb⟩;exact run_and rfl (bif_at (h.dep 12 21 rfl rfl) hC) (fun hb2=>bif_at (h.dep 15 24 rfl rfl) (by (first|(rw[hC,hb2];rfl)|(rw[hb2];rfl)|simp[hb2,hC])))
  ·exact rs_pure rfl (run_or rfl (h.dep 8 17 rfl rfl) (fun hb2=>bif_at (h.dep 16 25 rfl rfl) (by (first|(rw[hb2];rfl)|simp[hb2])))) (by decide)
  ·exact rs_pure rfl (run_cp (.inr rfl) (h.dep 17 26 rfl rfl)) (by decide)
 case en =>
  intro vals W hbw hv _
  have v18:vals 18=_:=hv 18 (by omega)
  simp only[List.take_succ_cons,List.take_zero,List.drop_succ_cons,List.drop_zero,List.drop_nil,List.take_nil,fillAll,Nat.zero_add,Nat.reduceAdd]
  rw[v18]
  clear hv v18
  try simp only[pl]
  have H:=H.call hbw
  rw[rep_start]
  by_cases hA:d.hi=0∨k.d.kind=1∨k.d.kind=2∧d.lo=0
  ·rw[if_pos hA]at E
   have E2:=Lib.hid E;clear E
   rw[decide_eq_true hA]
   clear hA
   go_wp2_with (first|((with_reducible refine gT ?_);(refine aT H ?_;clear H;intro w H;try simp only[nrm,nrl,Value.cells]at H))|(go_at_call 85;(with_reducible refine ch (hem _) H ?_);clear H;intro w H))
   (refine ret_ct Try.results69 rfl (by first|rfl|(simp only[pl];rfl)) H atd_ (by first|(with_reducible exact row_Node)|(with_reducible exact row_Set)|(with_reducible exact row_Flags)|(with_reducible exact row_Word)) (by rfl) rfl ?_)
   exact⟨TreeB.leaf E2.out,H.below⟩
  ·rw[if_neg hA]at E
   rw[decide_eq_false hA]
   have hhi0:d.hi≠0:=fun e=>hA (.inl e)
   clear hA
   by_cases h2:k.d.kind=2
   ·have d2:(k.d.kind == 2)=true:=by rw[beq_iff_eq];exact h2
    rw[if_pos h2]at E
    have E2:=Lib.hid E;clear E h2
    go_wp2_with (first|(first|((with_reducible refine gT ?_);(refine aT H ?_;clear H;intro w H;try simp only[nrm,nrl,Value.cells]at H))|((with_reducible refine gL ?_);refine aG H ?_))|(go_at_call 65;(with_reducible refine ch (hno _) H ?_);clear H;intro w H))
    (refine ret_ct Try.results69 rfl (by first|rfl|(simp only[pl];rfl)) H atd_ (by first|(with_reducible exact row_Node)|(with_reducible exact row_Set)|(with_reducible exact row_Flags)|(with_reducible exact row_Word)) (by rfl) rfl ?_)
    exact⟨TreeB.leaf E2.out,H.below⟩
   ·have d2:(k.d.kind == 2)=false:=by rw[beq_eq_false_iff_ne];exact h2
    rw[if_neg h2]at E
    clear h2
    go_upto_region 5 with (first|((with_reducible refine gL ?_);refine aG H ?_))
    go_wp2_with fail
    obtain⟨T,hT,fw,hf,h0⟩:=fam W
    have e6:=fun x=>(H.call (hf x)).cell (i:=1) i_1 6
    have e7:=fun x=>(H.call (hf x)).cell (i:=1) i_1 7
    simp only[ng6,ng7]at e6 e7
    have hC:=fun x=>fam_call hf h0 x (ref_Size _ k p _ c F (fw x) hk (by decide) ((H.call (hf x)).knlt .zero) ((H.call (hf x)).kn .zero) rfl)
    refine wp_region_fam fw (by kernel_rfl) (by kernel_rfl) h0 ?_
    go_big_quiet_want
    refine quiet_val (v:=nodeV k.d (.slice p k.kids.length c)) ?_ ?_
    ·rintro _ ⟨x,rfl⟩
     exact run_loadK rfl rfl row_Node rfl (fun j _=>by rw[Nat.zero_add];exact(H.call (hf x)).cell (i:=2) i_2 j)
    simp only[pl]
    go_big_quiet_on
    repeat (go_big_quiet_step (with_reducible exact hC _))
    go_big_quiet_want
    refine quiet_val (fun _ _=>run_max3 rfl rfl rfl rfl) ?_
    simp only[pl]
    go_big_quiet_on
    repeat (go_big_quiet_step (fail))
    refine wpQuiet_nil ?_
    rintro _ ⟨x,rfl⟩
    replace H:=H.call (hf x)
    obtain⟨wq,hwq⟩:∃ wq,fw x=wq:=⟨_,rfl⟩
    rw[hwq]at H ⊢
    clear hwq e6 e7 hC h0 hf
    clear x fw hT T
    rw[wrap_mul _ _ hk (by omega) (by omega)]
    have hmx:max (max d.lo d.hi) 1=max d.lo (max d.hi 1):=by omega
    rw[hmx]at E ⊢
    clear hmx
    by_cases h4:(4000:Int)<(sizeT k:Int) * max d.lo (max d.hi 1)
    ·rw[if_pos h4]at E
     rw[decide_eq_true h4]
     have E2:=Lib.hid E;clear E h4
     go_wp2_with (first|((with_reducible refine gT ?_);(refine aT H ?_;clear H;intro w H;try simp only[nrm,nrl,Value.cells]at H))|(go_at_call 65;(with_reducible refine ch (hno _) H ?_);clear H;intro w H))
     (refine ret_ct Try.results69 rfl (by first|rfl|(simp only[pl];rfl)) H atd_ (by first|(with_reducible exact row_Node)|(with_reducible exact row_Set)|(with_reducible exact row_Flags)|(with_reducible exact row_Word)) (by rfl) rfl ?_)
     exact⟨TreeB.no E2.out,H.below⟩
    ·rw[if_neg h4]at E
     rw[decide_eq_false h4]
     have E2:=Lib.hid E;clear E h4
     obtain⟨lo,hl⟩:∃ lo:Nat,d.lo=lo:=⟨d.lo.toNat,by omega⟩
     have hlo2:lo≤100:=by omega
     have HLO:=Lib.hid hl;clear hl
     replace H:=H.addNil 31 10
     simp only[List.nil_append,List.cons_append]at H
     go_wp2_with fail
     go_loopw [6,7] (fun vs ix wr=>∃ (j:Nat) (vq:Option Addr) (vc:Nat),j≤lo∧vs=.slice vq j vc∧ix=.int .i64 j∧Hold w0 wr [.kn F (fun V=>ForestR V F p c k.kids),.blk b2 (nodeC d (.slice p0 n0 c0)) 31,.blk b3 (nodeC k.d (.slice p k.kids.length c)) 31,.blk b4 (nodeC {kind:=0} nilS) 31,.row (.slice vq j vc) 31 10 j (flatR ((List.replicate j ((k,p,c):TV)).map nodeX))]) (fun _ ix _=>lo+1 - (intOf ix).toNat)
     case atStart=>exact⟨0,none,0,by omega,rfl,rfl,H⟩
     case round =>
      clear H
      obtain⟨j,vq,vc,hj,rfl,rfl,H⟩:=hrel
      by_cases hlt:j<lo
      ·have dj:decide ((j:Int)<d.lo)=true:=by have:=HLO.out;simp;omega
       go_wp2_with (first|(at_builtin;refine own_append rfl _ _ 29 rfl H (i:=4) (j:=5) evd_ rfl i_4 i_5 Try.underlying29 hi0 hz0 hz1 hz2 rfl (by decide) rfl rfl (by unfold maxLen;omega) (by omega) ?_;clear H;intro v2 w H;(try simp only[nrm,nrl,Value.cells]at H);(obtain⟨q2,c2,rfl,_,_,_⟩:=H.rowShape (i:=4) i_4))|((with_reducible show @wpList _ _ _ ({dst:=_,op:=Op.buildSlice _ _ _,type:=_,pos:=_,after:=_,guard:=_}::_) _ _);refine own_build wtd_ _ _ _ rfl H (nodeC (k.d) (.slice p k.kids.length c)) 31 (by intro W;simp only[List.map_toArray,List.map_cons,List.map_nil];(try simp only[pe]);exact run_kid1 _ _ W) ?_;clear H;intro bk w H;try simp only[nrm,nrl,Value.cells]at H)|((with_reducible refine gL ?_);(first|refine aG H ?_|refine aD H ?_)))
       rw[flatR_rep (k,p,c) j]at H
       go_roundw
       case rel=>exact⟨j+1,q2,c2,by omega,rfl,by go_num,H.pick [0,1,2,3,4] _ (by decide) rfl⟩
       case measure=>simp[intOf];omega
      ·have hjn:j=lo:=by omega
       have dj:decide ((j:Int)<d.lo)=false:=by have:=HLO.out;simp;omega
       clear hj hlt
       have HSZ:=Lib.hid (size_rep k j)
       have HSZ2:=Lib.hid (show j * sizeT k≤100 * 2000 from Nat.mul_le_mul (by omega) hk)
       have hj1:j≤100:=by omega
       have HJN:=Lib.hid hjn;clear hjn
       by_cases hn:d.hi<0
       ·have dn:decide (d.hi<0)=true:=by simp;exact hn
        have hag:=fun (w:World) (h1:∀ b,F b→b<w.heap.size) (h2:ForestR w F p c k.kids)=>show Calls Try.prog 86 #[.agg (nodeC d (.slice p0 n0 c0)),.agg (nodeC k.d (.slice p k.kids.length c)),.int .i64 (-1)] w fun e w'=>TreeOut w F (againT d k (-1)) e w'∧Below w.heap.size w w' from ref_again d p0 n0 c0 k p c (-1) F w h1 h2
        have E3:=Lib.hid (show repeatT d k=some (catT (List.replicate j k++[againT d k (-1)])) by rw[E2.out,if_pos hn,HLO.out,Int.toNat_natCast,HJN.out])
        clear E2 hn
        go_upto_region 13 with (first|((with_reducible refine gL ?_);refine aG H ?_))
        clear hhi0 d2 dj dn hhi hlo hem hno hlo2
        go_upto_region 15 with (first|(at_builtin;refine own_append rfl _ _ 29 rfl H (i:=4) (j:=6) evd_ rfl i_4 i_6 Try.underlying29 hi0 hz0 hz1 hz2 rfl (by decide) rfl rfl (by unfold maxLen;omega) (by omega) ?_;clear H;intro v2 w H;try simp only[nrm,nrl,Value.cells]at H)|((with_reducible show @wpList _ _ _ ({dst:=_,op:=Op.buildSlice _ _ _,type:=_,pos:=_,after:=_,guard:=_}::_) _ _);refine own_build wtd_ _ _ _ rfl H (nodeC ((againT d k (-1)).d) (.slice q1 (againT d k (-1)).kids.length m1)) 31 (by intro W;simp only[List.map_toArray,List.map_cons,List.map_nil];(try simp only[pe]);exact run_kid1 _ _ W) ?_;clear H;intro bk w H;try simp only[nrm,nrl,Value.cells]at H)|((with_reducible refine gL ?_);refine aD H ?_)|(go_at_call 86;refine cht (hag _ (H.knlt (i:=0) .zero) (H.kn (i:=0) .zero)) H (Still.at (i:=0) .zero) ?_;clear H;intro q1 m1 F1 w hF1 H))
        obtain⟨q2,c2,rfl,_,_,_⟩:=H.rowShape (i:=4) i_4
        rw[flatR_put (List.replicate j ((k,p,c):TV)) (againT d k (-1),q1,m1)]at H
        obtain⟨G,hG,H2⟩:=H.rowForest (i:=4) (xs:=List.replicate j ((k,p,c):TV)++[(againT d k (-1),q1,m1)]) (K:=fun b=>F b∨F1 b) i_4 (by simp) ((Still.at (i:=0) .zero).or (Still.at (i:=5) i_5)) (fun y hy=>by
         rcases List.mem_append.1 hy with hy|hy
         ·obtain rfl:=List.eq_of_mem_replicate hy
          exact(H.kn (i:=0) .zero).mono (fun _ h=>.inl h)
         ·obtain rfl:=List.mem_singleton.1 hy
          exact(H.kn (i:=5) i_5).mono (fun _ h=>.inr h))
        clear H
        have H:=H2;clear H2
        simp only[List.set_cons_succ,List.set_cons_zero]at H
        have EM:(List.replicate j ((k,p,c):TV)++[((againT d k (-1),q1,m1):TV)]).map (·.1)=List.replicate j k++[againT d k (-1)]:=by rw[List.map_append,map_rep];rfl
        rw[EM]at H
        have hsz:sizeTs (List.replicate j k++[againT d k (-1)])≤1000000000:=by
         have h1:=HSZ.out;have h2:=HSZ2.out
         have h3:=size_again d k (-1)
         rw[sizeTs_append,h1]
         simp only[sizeTs]
         omega
        have hGl:∀ b,G b→w0.heap.size≤b∨F b:=fun b hb=>(hG b hb).elim .inl (fun h=>h.elim .inr (fun h=>hF1 b h))
        clear hG EM hag HSZ HSZ2
        have hcat:=fun W (h1:∀ b,G b→b<W.heap.size) (h2:ForestR W G q2 c2 _)=>ref_cat q2 (j+1) c2 G (List.replicate j k++[againT d k (-1)]) W h1 h2 (by simp) hsz
        generalize catT (List.replicate j k++[againT d k (-1)])=ct at hcat E3
        clear hsz
        go_wp2_with (first|((with_reducible refine gT ?_);(refine aT H ?_;clear H;intro w H;try simp only[nrm,nrl,Value.cells]at H))|(go_at_call 66;refine cht (hcat _ (H.knlt (i:=4) i_4) (H.kn (i:=4) i_4)) H (Still.at (i:=4) i_4) ?_;clear H;intro q3 m3 F3 w hF3 H;simp only[List.cons_append,List.nil_append]at H))
        (refine ret_ct Try.results69 rfl (by first|rfl|(simp only[pl];rfl)) H atd_ (by first|(with_reducible exact row_Node)|(with_reducible exact row_Set)|(with_reducible exact row_Flags)|(with_reducible exact row_Word)) (by rfl) rfl ?_)
        refine⟨?_,H.below⟩
        rw[E3.out]
        exact⟨q3,m3,F3,rfl,H.kn (i:=7) i_7,fun b h=>⟨H.knlt (i:=7) i_7 b h,(hF3 b h).elim .inl (hGl b)⟩⟩
       ·have dn:decide (d.hi<0)=false:=by simp;omega
        obtain⟨m,hm⟩:∃ m:Nat,d.hi - d.lo=m:=⟨(d.hi - d.lo).toNat,by omega⟩
        have hm2:m≤100:=by omega
        have hw1:IntKind.i64.wrap (d.hi - d.lo)=d.hi - d.lo:=by rw[IntKind.wrap_i64];omega
        have E3:=Lib.hid (show repeatT d k=some (catT (List.replicate j k++restT d k m)) by rw[E2.out,if_neg hn,HLO.out,Int.toNat_natCast,HJN.out,← HLO.out,hm,Int.toNat_natCast])
        have hre:=fun (w:World) (h1:∀ b,F b→b<w.heap.size) (h2:ForestR w F p c k.kids)=>show Calls Try.prog 87 #[.agg (nodeC d (.slice p0 n0 c0)),.agg (nodeC k.d (.slice p k.kids.length c)),.int .i64 (d.hi - d.lo)] w fun e w'=>ListOut w F (restT d k m) e w'∧Below w.heap.size w w' from (by rw[hm];exact ref_rest m d p0 n0 c0 k p c F w hm2 hk h1 h2)
        have HSR:=Lib.hid (size_rest d k m)
        have HLR:=Lib.hid (len_rest d k m)
        have hmk:m * (sizeT k+2)≤100 * 2002:=Nat.mul_le_mul hm2 (by omega)
        have HMK:=Lib.hid hmk;clear hmk
        generalize restT d k m=rs at hre HSR HLR E3
        clear E2 hn hm hhi0 d2 hem hno hlo2
        go_upto_region 14 with (first|((with_reducible refine gL ?_);refine aG H ?_))
        clear dn dj
        go_upto_region 15 with (first|(at_builtin;(have HL1:=HLR.out);(have HX1:=congrArg List.length HX.out);(rw[List.length_map]at HX1);refine own_appendK rfl _ _ 29 rfl H (i:=4) evd_ evd_ i_4 (Knows.rd (H.kn (i:=5) i_5)) (nodesX_size _) Try.underlying29 hi0 hz0 hz1 hz2 rfl (by decide) (flatR_one' _) (by unfold maxLen;omega) (by omega) ?_;clear H HL1 HX1;intro v2 w H;try simp only[nrm,nrl,Value.cells]at H)|((with_reducible refine gL ?_);(first|refine aG H ?_|refine aD H ?_))|(go_at_call 87;refine chk (hre _ (H.knlt (i:=0) .zero) (H.kn (i:=0) .zero)) H (Still.at (i:=0) .zero) ?_;clear H;intro q1 m1 F1 xs w HX hF1 H;simp only[List.cons_append,List.nil_append]at H))
        obtain⟨q2,c2,rfl,_,_,_⟩:=H.rowShape (i:=4) i_4
        rw[← flatR_append,← List.map_append]at H
        obtain⟨G,hG,H2⟩:=H.rowForest (i:=4) (xs:=List.replicate j ((k,p,c):TV)++xs) (K:=fun b=>F b∨F1 b) i_4 (by simp) ((Still.at (i:=0) .zero).or (Still.at (i:=5) i_5)) (fun y hy=>by
         rcases List.mem_append.1 hy with hy|hy
         ·obtain rfl:=List.eq_of_mem_replicate hy
          exact(H.kn (i:=0) .zero).mono (fun _ h=>.inl h)
         ·exact((H.kn (i:=5) i_5).2 y hy).mono (fun _ h=>.inr h))
        clear H
        have H:=H2;clear H2
        simp only[List.set_cons_succ,List.set_cons_zero]at H
        have EM:(List.replicate j ((k,p,c):TV)++xs).map (·.1)=List.replicate j k++rs:=by rw[List.map_append,map_rep,HX.out]
        have hxl:j+xs.length=(List.replicate j k++rs).length:=by rw[← HX.out];simp
        rw[EM]at H
        have hsz:sizeTs (List.replicate j k++rs)≤1000000000:=by
         have h1:=HSZ.out;have h2:=HSZ2.out;have h3:=HSR.out;have h4:=HMK.out
         rw[sizeTs_append,h1]
         omega
        have hGl:∀ b,G b→w0.heap.size≤b∨F b:=fun b hb=>(hG b hb).elim .inl (fun h=>h.elim .inr (fun h=>hF1 b h))
        have hcat:=fun W (h1:∀ b,G b→b<W.heap.size) (h2:ForestR W G q2 c2 _)=>ref_cat q2 (j+xs.length) c2 G (List.replicate j k++rs) W h1 h2 hxl hsz
        clear hG EM hre HSZ HSZ2 hxl
        generalize catT (List.replicate j k++rs)=ct at hcat E3
        clear hsz
        go_wp2_with (first|((with_reducible refine gT ?_);(refine aT H ?_;clear H;intro w H;try simp only[nrm,nrl,Value.cells]at H))|(go_at_call 66;refine cht (hcat _ (H.knlt (i:=4) i_4) (H.kn (i:=4) i_4)) H (Still.at (i:=4) i_4) ?_;clear H;intro q3 m3 F3 w hF3 H;simp only[List.cons_append,List.nil_append]at H))
        (refine ret_ct Try.results69 rfl (by first|rfl|(simp only[pl];rfl)) H atd_ (by first|(with_reducible exact row_Node)|(with_reducible exact row_Set)|(with_reducible exact row_Flags)|(with_reducible exact row_Word)) (by rfl) rfl ?_)
        refine⟨?_,H.below⟩
        rw[E3.out]
        exact⟨q3,m3,F3,rfl,H.kn (i:=6) i_6,fun b h=>⟨H.knlt (i:=6) i_6 b h,(hF3 b h).elim .inl (hGl b)⟩⟩
theorem results_tmp5 {fn:Func} {p q r s t:Tmp} (h:fn.results=#[.tmp p,.tmp q,.tmp r,.tmp s,.tmp t]) (tmps:Array Value) (P:Program) (w:World) :
  (results fn tmps).run P w=.ok (.tuple #[tmps.getD p undef,tmps.getD q undef,tmps.getD r undef,tmps.getD s undef,tmps.getD t undef]) w:=by
 simp[results,h]
def hasV (k:Int):Value:=.tuple #[.bool (k == 1),.bool (k == 1 || k == 2 || k == 3 || k == 4),.bool (k == 2),.bool (k == 3),.bool (k == 4)]
theorem ref_has (k:Int) (w0:World):Calls Try.prog 20 #[.int .i64 k] w0 fun e w'=>e=.returned (hasV k)∧Below w0.heap.size w0 w':=by
 have H:=Hold.start w0
 cases h1:k == 1 with
 | true =>
  have E:=Lib.hid (show hasV k=.tuple #[.bool true,.bool true,.bool false,.bool false,.bool false] by rw[beq_iff_eq]at h1;subst h1;rfl)
  go_enter Try.func20,Try.ntmps20
  go_wp2_with fail
  refine bodyPost_ret (results_tmp5 rfl _ _ _) rfl ?_
  exact⟨by rw[E.out];rfl,H.below⟩
 | false =>
  cases h2:k == 2 with
  | true =>
   have E:=Lib.hid (show hasV k=.tuple #[.bool false,.bool true,.bool true,.bool false,.bool false] by rw[beq_iff_eq]at h2;subst h2;rfl)
   go_enter Try.func20,Try.ntmps20
   go_wp2_with fail
   refine bodyPost_ret (results_tmp5 rfl _ _ _) rfl ?_
   exact⟨by rw[E.out];rfl,H.below⟩
  | false =>
   cases h3:k == 3 with
   | true =>
    have E:=Lib.hid (show hasV k=.tuple #[.bool false,.bool true,.bool false,.bool true,.bool false] by rw[beq_iff_eq]at h3;subst h3;rfl)
    go_enter Try.func20,Try.ntmps20
    go_wp2_with fail
    refine bodyPost_ret (results_tmp5 rfl _ _ _) rfl ?_
    exact⟨by rw[E.out];rfl,H.below⟩
   | false =>
    cases h4:k == 4 with
    | true =>
     have E:=Lib.hid (show hasV k=.tuple #[.bool false,.bool true,.bool false,.bool false,.bool true] by rw[beq_iff_eq]at h4;subst h4;rfl)
     go_enter Try.func20,Try.ntmps20
     go_wp2_with fail
     refine bodyPost_ret (results_tmp5 rfl _ _ _) rfl ?_
     exact⟨by rw[E.out];rfl,H.below⟩
    | false =>
     have E:=Lib.hid (show hasV k=.tuple #[.bool false,.bool false,.bool false,.bool false,.bool false] by unfold hasV;rw[h1,h2,h3,h4];rfl)
     go_enter Try.func20,Try.ntmps20
     go_wp2_with fail
     refine bodyPost_ret (results_tmp5 rfl _ _ _) rfl ?_
     exact⟨by rw[E.out];rfl,H.below⟩
def mostI (p:List InstD):Int:=p.foldl (fun m x=>max m x.slot) 1
def slotsI (p:List InstD):Int:=wrap64 (wrap64 (wrap64 ((mostI p).tdiv 2) * 2)+2)
theorem mostI_take {xs:List InstD} {j:Nat} {x:InstD} (h:xs[j]?=some x):mostI (xs.take (j+1))=max (mostI (xs.take j)) x.slot:=by
 rw[take_get h];simp[mostI]
theorem all_takeI {α:Type} {f:α→Bool} {xs:List α} {j:Nat} {x:α} (hx:xs[j]?=some x) (h:(xs.take j).all f=true) (hf:f x=true):(xs.take (j+1)).all f=true:=by
 rw[take_get hx,List.all_append,h];simp[hf]
theorem flatR_single:∀ xs:List Value,flatR (xs.map fun v=>#[v])=xs
 | []=>rfl
 | x::r=>by
  have:=flatR_single r
  simp only[flatR,List.map_cons,List.flatten_cons]at *
  rw[this];rfl
theorem own_storeX {P:Program} {ops:Array Oper} {rest:List Oper} {o:Oper} {a:Act} {w w0:World} {Q:Exit→Act→World→Prop} {l:List Res} {M:Nat→Prop} (hg:Region.wanted o (yielded ops a.tmps)=true) (T:TypeId) (x y:Operand) (ho:o.op=.store T x y) {g i n cap:Nat} (hx:a.eval x=.pointer (some ⟨g,i,none⟩)) {v:Value} (hy:a.eval y=v) (H:HoldG M w0 w l) {j:Nat} {e:TypeId} {xs:List Value}
  (hi:At l j (.row (.slice (some ⟨g,0,none⟩) n cap) e 1 n xs)) (hl:xs.length=n) (hT:sizeB P T 1=true) (h1:v.oneCell'=true) (hin:i<n)
  (h:∀ w',HoldG M w0 w' (l.set j (.row (.slice (some ⟨g,0,none⟩) n cap) e 1 n (xs.set i v)))→wpList P ops Q rest (a.put o.dst undef) w'):wpList P ops Q (o::rest) a w:=by
 exact wpList_wanted hg fun _ hK=>by
  obtain⟨hlen,⟨hv',_⟩|⟨g',cap',cur,hv',hb,hg',hn,hc,hsz,ht⟩⟩:=H.all j _ hi.get
  ·cases hv'
  ·cases hv'
   have hs:(⟨g,i,none⟩:Addr).add 0=⟨g,i,none⟩:=by rw[Addr.add_mid];rfl
   have hcell:w.cell? ⟨g,i,none⟩=cur[i]?:=by simp[World.cell?,hg']
   have hfr:w.frozen? ⟨g,i,none⟩=false:=by simp[World.frozen?,hg']
   have hisz:i<cur.size:=by omega
   unfold Oper.wp execOp
   simp only[ho,hx,hy,Instr.storeAt,Instr.sureAddr,Sem.run_bind,Sem.run_pure,Result.andThen_ok,run_storeVar_one1 (P:=P) (w:=w) hT h1 (by rw[hcell];simp[hisz]) hfr hs]
   have hh:=heap_setCell hg' (k:=i) v
   refine hK _ _ (h _ (H.upd hi.get (grownBy_setCellK w g i v) ⟨by rw[List.length_set];exact hlen,.inr ⟨g,cap,_,rfl,hb,hh,hn,hc,?_,?_⟩⟩ (fun _ e=>.inl e)))
   ·simp[hsz]
   ·rw[← ht,Array.toList_setIfInBounds,List.take_set]
section
variable {rb:Nat} {pp:Option Addr} {cp:Nat} {ps:List InstD} {psl:Option Addr} {csl:Nat} {L:Str} {Fp Fs:Nat→Prop} {gs cs K gt ct m:Nat} {M:Nat→Prop} {w0 w:World} {k i:Nat} {sn:List Bool} {sl:Slots}
end
theorem right_get {ps:List InstD} (h:rightP ps=true) {k:Nat} {x:InstD} (hx:ps[k]?=some x):rightI ps.length x=true:=by
 simp only[rightP,Bool.and_eq_true,List.all_eq_true]at h
 exact h.2 x (List.mem_of_getElem? hx)
theorem right_next {n:Nat} {x:InstD} (h:rightI n x=true) (hk:x.kind=1∨x.kind=2∨x.kind=3∨x.kind=4):0≤x.next∧x.next<n:=by
 unfold rightI inN at h
 rcases hk with h1|h1|h1|h1<;>simp[h1]at h<;>omega
theorem right_other {n:Nat} {x:InstD} (h:rightI n x=true) (hk:x.kind=2):0≤x.other∧x.other<n:=by
 unfold rightI inN at h
 simp[hk]at h;omega
theorem right_slot {n:Nat} {x:InstD} (h:rightI n x=true) (hk:x.kind=3):0≤x.slot∧x.slot<42:=by
 unfold rightI inN at h
 simp[hk]at h;omega
theorem most_ge:∀ (ps:List InstD) (a:Nat) (x:InstD),x ∈ ps→x.slot.toNat≤ps.foldl (fun m x=>max m x.slot.toNat) a
 | [],_,_,h=>by cases h
 | y::r,a,x,h=>by
  have mono:∀ (l:List InstD) (b:Nat),b≤l.foldl (fun m x=>max m x.slot.toNat) b:=by
   intro l
   induction l with
   | nil=>intro b;exact Nat.le_refl _
   | cons z l ih=>intro b;exact Nat.le_trans (Nat.le_max_left _ _) (ih _)
  rcases List.mem_cons.1 h with rfl|h
  ·exact Nat.le_trans (Nat.le_max_right _ _) (mono r _)
  ·exact most_ge r _ x h
theorem slot_lt {ps:List InstD} {k:Nat} {x:InstD} (hx:ps[k]?=some x):x.slot.toNat<slotsP ps:=by
 have:=most_ge ps 1 x (List.mem_of_getElem? hx)
 unfold slotsP mostP;omega
theorem made_one (z:Value) (n:Nat):(madeCells #[z] (n * 1)).toList=List.replicate n z:=by
 apply List.ext_getElem
 ·simp[madeCells]
 ·intro i h1 h2
  simp[madeCells,Nat.mod_one]
theorem own_make {P:Program} {ops:Array Oper} {rest:List Oper} {o:Oper} {a:Act} {w w0:World} {Q:Exit→Act→World→Prop} {l:List Res} {M:Nat→Prop} (hg:o.guard=none) (x c:Operand) (t:TypeId) (hop:o.op=Op.makeSlice t x c) (H:HoldG M w0 w l) {e:TypeId} {i:TypeInfo} {z:Value} {bytes:Nat}
  (h1:P.underlying t=some (.slice e)) (h2:P.info? e=some i) (h3:i.zero=some z) (h4:i.size=1) (h5:i.bytes=bytes) (hz:z.cells=#[z]) {n:Nat} (hl:a.eval x=.int .i64 n) (hc:a.eval c=.int .i64 n) (b2:bytes * n≤281474976710656) (b3:n≤maxLen)
  (h:∀ g w',HoldG M w0 w' (l++[.row (.slice (some ⟨g,0,none⟩) n n) e 1 n (List.replicate n z)])→wpList P ops Q rest (a.put o.dst (.slice (some ⟨g,0,none⟩) n n)) w'):wpList P ops Q (o::rest) a w:=by
 refine wpList_make_full w hg x c t hop w0.heap.size e i z 1 h1 h2 h3 h4 .i64 .i64 n n n hl hc rfl rfl (by rw[h5];exact b2) b3 H.keep.size (fun w' r1 r2=>h w.heap.size w' ?_)
 rw[hz,made_one]at r1
 exact H.add r2 r1 (fun b e=>by cases e;exact Nat.le_refl _)
def IntsR (F:Nat→Prop) (p:Option Addr) (c:Nat) (xs:List Int) (V:World):Prop:=RdN 1 V F (.slice p xs.length c) (xs.map fun v=>#[.int .i64 v])
theorem IntsR.kept {F:Nat→Prop} {p:Option Addr} {c:Nat} {xs:List Int} {V W:World} (h:IntsR F p c xs W) (hV:∀ b,F b→V.heap[b]?=W.heap[b]?):IntsR F p c xs V:=RdN.kept h hV
theorem HoldG.rowInts {M:Nat→Prop} {w0 w:World} {l:List Res} (H:HoldG M w0 w l) {i cap:Nat} {q:Option Addr} {xs:List Int} (hi:At l i (.row (.slice q xs.length cap) 3 1 xs.length (xs.map (.int .i64)))) :
  ∃ F:Nat→Prop,(∀ b,F b→(w0.heap.size≤b∨M b)∧b<w.heap.size)∧IntsR F q cap xs w:=by
 have ho:=H.all i _ hi.get
 have e:xs.map (Value.int .i64)=flatR (xs.map fun v=>#[.int .i64 v]):=by
  rw[show (xs.map fun v=>#[Value.int .i64 v])=(xs.map (Value.int .i64)).map (fun v=>#[v]) by rw[List.map_map];rfl,flatR_single]
 refine⟨fun b=>(Value.slice q xs.length cap).ownBlock=some b,fun b hb=>(ho.lt b hb),?_⟩
 unfold Res.Holds at ho
 rw[e]at ho
 exact RdN.of_own ho (fun r hr=>by obtain⟨v,_,rfl⟩:=List.mem_map.1 hr;rfl) (by rw[List.length_map]) (fun _ _=>rfl)
def RunOut (w:World) (r:Option Slots) (e:Ending) (w':World):Prop:=match r with
 | some sl=>∃ q c F,e=.returned (.tuple #[.slice q sl.length c,.bool true])∧IntsR F q c sl w'∧∀ b,F b→b<w'.heap.size∧w.heap.size≤b
 | none=>e=.returned (.tuple #[.slice none 0 0,.bool false])
theorem mostP_I:∀ (ps:List InstD) (a:Nat),ps.foldl (fun m x=>max m x.slot) (a:Int)=((ps.foldl (fun m x=>max m x.slot.toNat) a:Nat):Int)
 | [],_=>rfl
 | x::r,a=>by
  simp only[List.foldl_cons]
  rw[show max (a:Int) x.slot=((max a x.slot.toNat:Nat):Int) by omega]
  exact mostP_I r _
theorem most_le {ps:List InstD} (h:∀ x ∈ ps,x.slot<42):mostP ps≤41:=by
 have:∀ (l:List InstD) (a:Nat),a≤41→(∀ x ∈ l,x.slot<42)→l.foldl (fun m x=>max m x.slot.toNat) a≤41:=by
  intro l
  induction l with
  | nil=>intro a ha _;exact ha
  | cons y r ih=>intro a ha hl;exact ih _ (show max a y.slot.toNat≤41 by have:=hl y (List.mem_cons_self ..);omega) (fun x hx=>hl x (List.mem_cons_of_mem _ hx))
 exact this ps 1 (by omega) h
theorem right_slot' {n:Nat} {x:InstD} (h:rightI n x=true):x.slot<42:=by
 unfold rightI inN at h
 split at h
 ·simp at h;omega
 split at h
 ·simp at h;omega
 split at h
 ·simp at h;omega
 split at h
 ·simp at h;omega
 split at h
 ·simp at h;omega
 ·cases h
theorem slots_right {ps:List InstD} (h:rightP ps=true):slotsI ps=slotsP ps∧2≤slotsP ps∧slotsP ps≤42:=by
 have hl:mostP ps≤41:=most_le fun x hx=>by
  simp only[rightP,Bool.and_eq_true,List.all_eq_true]at h
  exact right_slot' (h.2 x hx)
 have hm:mostI ps=(mostP ps:Int):=mostP_I ps 1
 have h1:1≤mostP ps:=by
  have mono:∀ (l:List InstD) (b:Nat),b≤l.foldl (fun m x=>max m x.slot.toNat) b:=by
   intro l
   induction l with
   | nil=>intro b;exact Nat.le_refl _
   | cons z l ih=>intro b;exact Nat.le_trans (Nat.le_max_left _ _) (ih _)
  exact mono ps 1
 unfold slotsI slotsP
 rw[hm]
 refine⟨?_,by omega,by omega⟩
 have e:((mostP ps:Int)).tdiv 2=((mostP ps / 2:Nat):Int):=by
  rw[Int.tdiv_eq_ediv_of_nonneg (by omega)];omega
 rw[e];unfold wrap64;omega
theorem HoldG.blkRowN {M:Nat→Prop} {w0 W:World} {l:List Res} (H:HoldG M w0 W l) {i b sz n:Nat} {cs:Array Value} {T:TypeId} (hi:At l i (.blk b cs T)) (hM:¬ M b) (hs:cs.size=n * sz) (hn:n≤maxLen):HoldG M w0 W (l.set i (.row (.slice (some ⟨b,0,none⟩) n n) T sz n cs.toList)):=by
 have hb:=H.blk hi
 refine H.upd hi.get ⟨rfl,rfl,rfl,Nat.le_refl _,fun _ _ _=>rfl⟩ ⟨by simp[hs],.inr ⟨b,n,cs,rfl,hb.1.resolve_right hM,hb.2,Nat.le_refl _,hn,by simp[hs],?_⟩⟩ (fun _ e=>.inl e)
 rw[List.take_of_length_le (by simp[hs])]
theorem flatI (xs:List Int):flatR (xs.map fun v=>#[Value.int .i64 v])=xs.map (.int .i64):=by
 rw[show (xs.map fun v=>#[Value.int .i64 v])=(xs.map (Value.int .i64)).map (fun v=>#[v]) by rw[List.map_map];rfl,flatR_single]
theorem IntsR.bound {F:Nat→Prop} {p:Option Addr} {c:Nat} {xs:List Int} {W:World} (h:IntsR F p c xs W):xs.length≤c∧c≤9223372036854775807:=by
 obtain⟨p',c',e,h1,h2,_⟩:=h
 simp only[Value.slice.injEq]at e;obtain⟨rfl,_,rfl⟩:=e
 rw[List.length_map]at h1
 exact⟨h1,by simpa [maxLen] using h2⟩
theorem IntsR.at {F:Nat→Prop} {p:Option Addr} {c:Nat} {xs:List Int} {W:World} (h:IntsR F p c xs W) (hn:0<xs.length):∃ b off,p=some ⟨b,off,none⟩:=by
 obtain⟨p',c',e,_,_,_,h3⟩:=h
 simp only[Value.slice.injEq]at e;obtain⟨rfl,_,rfl⟩:=e
 obtain⟨b,off,e2,_⟩:=h3 0 #[.int .i64 xs[0]] (by rw[List.getElem?_map,List.getElem?_eq_getElem hn];rfl)
 exact⟨b,off,e2⟩
theorem IntsR.none0 {F:Nat→Prop} {p:Option Addr} {c:Nat} {xs:List Int} {W:World} (h:IntsR F p c xs W) (hp:p=none):xs=[]∧c=0:=by
 obtain⟨p',c',e,h1,h2,h0,_⟩:=h
 simp only[Value.slice.injEq]at e;obtain⟨rfl,_,rfl⟩:=e
 rw[List.length_map]at h1
 have:=h0 hp
 subst this
 exact⟨List.length_eq_zero_iff.1 (by omega),rfl⟩
theorem run_eqN {o:Oper} {a:Act} {w:World} {x y:Operand} {U:TypeId} {p:Option Addr} {n c:Nat} (hop:o.op=.binOp .eql 41 x y U) (hx:a.eval x=.slice p n c) (hy:a.eval y=.slice none 0 0):(execOp a.eval o).run Try.prog w=.ok (.value (.bool p.isNone)) w:=by
 simp only[execOp,hop,hx,hy]
 simp[go_sem,binOp,run_equal_slice_nil w 41 _ p n c Try.underlying41]
theorem run_neN {o:Oper} {a:Act} {w:World} {x y:Operand} {U:TypeId} {p:Option Addr} {n c:Nat} (hop:o.op=.binOp .neq 41 x y U) (hx:a.eval x=.slice p n c) (hy:a.eval y=.slice none 0 0):(execOp a.eval o).run Try.prog w=.ok (.value (.bool (!p.isNone))) w:=by
 simp only[execOp,hop,hx,hy]
 simp[go_sem,binOp,run_equal_slice_nil w 41 _ p n c Try.underlying41]
section
variable {ops:Array Oper} {dst:Option Tmp} {ty:TypeId} {pos:String} {aft:Array Edge} {grd:Option (Nat × Bool)} {rest:List Oper} {a:Act} {w:World} {Q:Exit→Act→World→Prop}
theorem gEN {U:TypeId} {x y:Operand} (h:wpList Try.prog ops Q ((⟨dst,.binOp .eql 41 x y U,ty,pos,aft,grd⟩:Oper)::rest) a w):wpList Try.prog ops Q ((⟨dst,.binOp .eql 41 x y U,ty,pos,aft,grd⟩:Oper)::rest) a w:=h
theorem eN {U:TypeId} {x y:Operand} {p:Option Addr} {n c:Nat} (h:wpList Try.prog ops Q rest (a.put dst (.bool p.isNone)) w) (hg:Region.wanted (⟨dst,.binOp .eql 41 x y U,ty,pos,aft,grd⟩:Oper) (yielded ops a.tmps)=true:=by first|rfl|exact wanted_g rfl (yielded_of rfl (by first|rfl|(simp only[pe];rfl)))) (hx:a.eval x=.slice p n c:=by first|(simp only[pe];done)|(simp only[pe];rfl)) (hy:a.eval y=.slice none 0 0:=by rfl):wpList Try.prog ops Q ((⟨dst,.binOp .eql 41 x y U,ty,pos,aft,grd⟩:Oper)::rest) a w :=
 own_pure hg (run_eqN rfl hx hy) h
theorem gNN {U:TypeId} {x y:Operand} (h:wpList Try.prog ops Q ((⟨dst,.binOp .neq 41 x y U,ty,pos,aft,grd⟩:Oper)::rest) a w):wpList Try.prog ops Q ((⟨dst,.binOp .neq 41 x y U,ty,pos,aft,grd⟩:Oper)::rest) a w:=h
theorem nN {U:TypeId} {x y:Operand} {p:Option Addr} {n c:Nat} (h:wpList Try.prog ops Q rest (a.put dst (.bool (!p.isNone))) w) (hg:Region.wanted (⟨dst,.binOp .neq 41 x y U,ty,pos,aft,grd⟩:Oper) (yielded ops a.tmps)=true:=by first|rfl|exact wanted_g rfl (yielded_of rfl (by first|rfl|(simp only[pe];rfl)))) (hx:a.eval x=.slice p n c:=by first|(simp only[pe];done)|(simp only[pe];rfl)) (hy:a.eval y=.slice none 0 0:=by rfl):wpList Try.prog ops Q ((⟨dst,.binOp .neq 41 x y U,ty,pos,aft,grd⟩:Oper)::rest) a w :=
 own_pure hg (run_neN rfl hx hy) h
end
theorem run_ints0 (W:World):(Instr.buildSlice 41 0 #[]).run Try.prog W=.ok (.slice (some ⟨W.heap.size,0,none⟩) 0 0) (W.alloc (.cells #[] 3)):=by kernel_rfl
def OwnI (w:World) (xs:List Int) (e:Ending) (w':World):Prop:=∃ q c,e=.returned (.slice q xs.length c)∧w'.ownsRow w.heap.size 3 1 (.slice q xs.length c) xs.length (xs.map (.int .i64))∧Below w.heap.size w w'
theorem sl_Clone (q:Option Addr) (c:Nat) (xs:List Int) (F:Nat→Prop) (w0:World) (hn:xs.length≤1000000) (hF:∀ b,F b→b<w0.heap.size) (h:IntsR F q c xs w0) :
  Calls Try.prog 28 #[.slice q xs.length c] w0 fun e w'=>OwnI w0 xs e w':=by
 have H:=(Hold.start w0).know F (IntsR F q c xs) hF (fun i r h=>by simp at h) (fun V hV=>h.kept hV)
 simp only[List.nil_append]at H
 have hnil:=h.none0
 clear h
 obtain⟨ii,hii,hi0,hi1,hi2⟩:=info_parts info_int
 cases q with
 | none =>
  obtain⟨hx,hc⟩:=hnil rfl
  subst hx hc
  go_enter Try.func28,Try.ntmps28
  go_wp2_with (first|((with_reducible refine gEN ?_);refine eN ?_)|fail)
  go_ret
  exact⟨none,0,rfl,World.ownsRow_nil _ _ _ _,H.below⟩
 | some ad =>
  obtain⟨n,hnn⟩:∃ n,xs.length=n:=⟨_,rfl⟩
  have HN:=Lib.hid hnn
  rw[hnn]at hn ⊢
  clear hnn
  have hrd:∀ V,IntsR F (some ad) c xs V→RdN 1 V F (.slice (some ad) n c) (xs.map fun v=>#[.int .i64 v]):=fun V h=>by have:=HN.out;subst this;exact h
  go_enter Try.func28,Try.ntmps28
  go_wp2_with (first|((with_reducible refine gEN ?_);refine eN ?_)|((with_reducible show @wpList _ _ _ ({dst:=_,op:=Op.buildSlice _ _ _,type:=_,pos:=_,after:=_,guard:=_}::_) _ _);refine own_build wtd_ _ _ _ rfl H #[] 3 (by intro W;simp only[List.map_toArray,List.map_nil];exact run_ints0 W) ?_;clear H;intro bk w H;(have H2:=H.blkRowN (i:=1) (sz:=1) (n:=0) i_1 id rfl (by decide));clear H;(have H:=H2);clear H2;simp only[List.cons_append,List.nil_append,List.set_cons_succ,List.set_cons_zero]at H)|(at_builtin;refine own_appendK rfl _ _ 41 rfl H (i:=1) evd_ evd_ i_1 (hrd _ (H.kn (i:=0) .zero)) (fun r hr=>by obtain⟨v,_,rfl⟩:=List.mem_map.1 hr;rfl) Try.underlying41 hii hi0 hi1 hi2 rfl (by decide) (fun u hu=>by rw[flatI]at hu;obtain⟨v,_,rfl⟩:=List.mem_map.1 hu;rfl) (by unfold maxLen;omega) (by omega) ?_;clear H;intro v2 w H;try simp only[nrm,nrl,Value.cells]at H)|fail)
  go_ret
  rw[flatI]at H
  simp only[List.nil_append,Nat.zero_add]at H
  obtain⟨q2,c2,rfl,_,_,_⟩:=H.rowShape (i:=1) i_1
  rw[← HN.out]at H
  refine⟨q2,c2,?_,H.all 1 _ rfl,H.below⟩
  rw[HN.out];rfl
theorem HoldG.gainRowX {M:Nat→Prop} {w0 w w':World} {l:List Res} (H:HoldG M w0 w l) (hb:Below w.heap.size w w') {e:TypeId} {sz n:Nat} {v:Value} {xs:List Value} (ho:w'.ownsRow w.heap.size e sz v n xs):HoldG M w0 w' (l++[.row v e sz n xs]):=by
 have H':=H.call hb
 refine⟨H'.keep,?_,?_⟩
 ·intro j s hs
  rw[List.getElem?_append]at hs
  split at hs
  ·exact H'.all j s hs
  ·rcases List.getElem?_eq_some_iff.1 hs with ⟨h3,h4⟩
   simp at h3
   simp[h3]at h4;subst h4;exact ho.mono H.keep.size
 ·intro j k s t hjk hs ht
  rw[List.getElem?_append]at hs ht
  split at hs
  ·split at ht
   ·exact H'.apart j k s t hjk hs ht
   ·rcases List.getElem?_eq_some_iff.1 ht with ⟨h3,h4⟩
    simp at h3
    simp[h3]at h4;subst h4
    intro z hz1 hz2
    have h1:=((H.all j s hs).lt z hz1).2
    have h2:=(World.ownsRow.lt ho z hz2).1
    omega
  ·rcases List.getElem?_eq_some_iff.1 hs with ⟨h3,h4⟩
   simp at h3
   simp[h3]at h4;subst h4
   split at ht
   ·intro z hz1 hz2
    have h1:=(H.all k t ht).ltf z hz2
    have h2:=(World.ownsRow.lt ho z hz1).1
    omega
   ·rcases List.getElem?_eq_some_iff.1 ht with ⟨h5,h6⟩
    simp at h5;omega
theorem chI {M:Nat→Prop} {P:Program} {f:FuncId} {args:Array Value} {w w0:World} {l:List Res} {xs:List Int} {R:Ending→World→Prop} (c:Calls P f args w fun e w'=>OwnI w xs e w') (H:HoldG M w0 w l)
  (k:∀ q c w',HoldG M w0 w' (l++[.row (.slice q xs.length c) 3 1 xs.length (xs.map (.int .i64))])→R (.returned (.slice q xs.length c)) w'):Calls P f args w R:=c.mono fun _ w' ⟨q,c,e,ho,hb⟩=>by
 subst e;exact k q c w' (H.gainRowX hb ho)
def KnowI (w:World) (xs:List Int) (e:Ending) (w':World):Prop:=∃ q c F,e=.returned (.slice q xs.length c)∧IntsR F q c xs w'∧∀ b,F b→b<w'.heap.size∧w.heap.size≤b
theorem vm_noted (at_ slot:Nat) (q:Option Addr) (c:Nat) (xs:List Int) (F:Nat→Prop) (w0:World) (hn:xs.length≤1000000) (hs:slot<xs.length) (hF:∀ b,F b→b<w0.heap.size) (h:IntsR F q c xs w0) :
  Calls Try.prog 77 #[.int .i64 at_,.int .i64 slot,.slice q xs.length c] w0 fun e w'=>KnowI w0 (xs.set slot at_) e w'∧Below w0.heap.size w0 w':=by
 have H:=(Hold.start w0).know F (IntsR F q c xs) hF (fun i r h=>by simp at h) (fun V hV=>h.kept hV)
 simp only[List.nil_append]at H
 clear h
 have hcl:=fun w h1 h2=>sl_Clone q c xs F w hn h1 h2
 obtain⟨n,hnn⟩:∃ n,xs.length=n:=⟨_,rfl⟩
 have HN:=Lib.hid hnn
 have hlen:(xs.map (Value.int .i64)).length=n:=by rw[List.length_map];exact hnn
 rw[hnn]at hn hs hcl ⊢
 have hset:(xs.set slot (at_:Int)).length=n:=by rw[List.length_set];exact hnn
 clear hnn
 have HS:=Lib.hid hset;clear hset
 go_enter Try.func77,Try.ntmps77
 go_upto_region 2 with (first|fail|(go_at_call 28;refine chI (hcl _ (H.knlt (i:=0) .zero) (H.kn (i:=0) .zero)) H ?_;clear H hcl;intro q1 c1 w H;simp only[List.cons_append,List.nil_append]at H))
 rw[HN.out]at H ⊢
 obtain⟨q2,c2,e2,_,_,hq2⟩:=H.rowShape (i:=1) i_1
 obtain⟨g,rfl⟩:=hq2 (by omega)
 simp only[Value.slice.injEq]at e2
 obtain⟨rfl,_,rfl⟩:=e2
 go_wp2_with (first|((with_reducible refine gT ?_);refine own_storeX wtd_ _ _ _ rfl rfl (v:=.int .i64 at_) evd_ H (j:=1) i_1 hlen (by with_reducible exact one_size one_int) rfl hs ?_;clear H;intro w H;simp only[List.set_cons_succ,List.set_cons_zero]at H)|fail)
 go_ret
 refine⟨?_,H.below⟩
 rw[show (xs.map (Value.int .i64)).set slot (.int .i64 at_)=(xs.set slot (at_:Int)).map (.int .i64) by rw[List.map_set],← HS.out]at H
 obtain⟨F9,hF9,hI⟩:=H.rowInts (i:=1) i_1
 exact⟨some ⟨g,0,none⟩,c1,F9,by rw[HS.out];rfl,hI,fun b h=>⟨(hF9 b h).2,(hF9 b h).1.elim id False.elim⟩⟩
end Go.Proofs.Ytdoflhjhaciepaa
namespace Go.Proofs.Ytdoflhjhaciepaa
open Go.RowKit
structure RCtxU (C:List Nat) (hd l:List Oper) (e i:Nat) (Ss:Nat→Value→World→Prop) (S1:Value→World→Prop) (a0:Act) (w0:World) (o:Oper) (a:Act) (w:World):Prop where
 st:Below w0.heap.size w0 w∨∃ v,S1 v w
 frame:∀ t,hd.any (fun o=>o.dst == some t)=false→a.eval (.tmp t)=a0.eval (.tmp t)
 dep:∀ j d,(i=e∨j ∉ C)→o.after.toList.any (fun e=>Region.binds .any e&&e.on == j)=true→(hd[j]?).bind (·.dst)=some d→Ss j (a.eval (.tmp d)) w
 ahead:∀ oe,l[e]?=some oe→oe.after.toList.any (fun x=>Region.binds .any x&&x.on == i)=true→Below w0.heap.size w0 w
def FreshS (n0:Nat) (cs:Array Value) (T:TypeId) (v:Value) (W:World):Prop:=∃ b,v=.slice (some ⟨b,0,none⟩) 1 1∧n0≤b∧W.heap[b]?=some (.cells cs T (0,0))
theorem stable_freshS (n0:Nat) (cs:Array Value) (T:TypeId):Stable (FreshS n0 cs T):=fun v w w' ⟨b,e,h1,h2⟩ hb=>⟨b,e,h1,(hb.block b (Array.getElem?_eq_some_iff.1 h2).1).trans h2⟩
end Go.Proofs.Ytdoflhjhaciepaa
namespace Go.Proofs.Ytdoflhjhaciepaa
open Go.RowKit Go.Shelf
attribute [local go_sem] Oper.semAt_some
abbrev WV:=Nat × Slots × Option Addr × Nat
def wayC (x:WV):Array Value:=#[.int .i64 x.1,.slice x.2.2.1 x.2.1.length x.2.2.2]
theorem yg0 (x:WV):(wayC x)[0]?=some (.int .i64 x.1):=rfl
theorem yg1 (x:WV):(wayC x)[1]?=some (.slice x.2.2.1 x.2.1.length x.2.2.2):=rfl
def plW (x:WV):Way:=(x.1,x.2.1)
def WaysK (F:Nat→Prop) (xs:List WV) (W:World):Prop:=∀ x ∈ xs,IntsR F x.2.2.1 x.2.2.2 x.2.1 W
theorem wayC_size (x:WV):(wayC x).size=2:=rfl
theorem waysX_size (xs:List WV):∀ r ∈ xs.map wayC,r.size=2:=by
 intro r hr
 obtain⟨x,_,rfl⟩:=List.mem_map.1 hr
 rfl
theorem one_ways:oneB Try.prog 70=true:=by kernel_rfl
theorem row_Way:rowB Try.prog 78 2=true:=by kernel_rfl
theorem zWay:zeroC Try.prog 78=#[.int .i64 0,.slice none 0 0]:=by kernel_rfl
section
variable {M:Nat→Prop} {w0 w:World}
theorem vm_begun (mb:Nat) (q:Option Addr) (n c:Nat) (mk v2 v3 nv:Value) (xs:List Value) (H0:HoldG M w0 w [.blk mb #[.slice q n c,mk,v2,v3,nv] 74,.row (.slice q n c) 78 2 n xs]) :
  Calls Try.prog 47 #[.pointer (some ⟨mb,0,none⟩)] w fun e w'=>e=.returned (.tuple #[])∧Turned M w0 w [.blk mb #[.slice q n c,mk,v2,v3,nv] 74,.row (.slice q n c) 78 2 n xs] [.blk mb #[.slice q 0 c,mk,v2,v3,nv] 74,.row (.slice q 0 c) 78 2 0 []] w':=by
 have H:=H0.framed
 clear H0
 obtain⟨rF,hrF⟩:∃ rF,restF w [.blk mb #[.slice q n c,mk,v2,v3,nv] 74,.row (.slice q n c) 78 2 n xs]=rF:=⟨_,rfl⟩
 obtain⟨rS,hrS⟩:∃ rS,restS w [.blk mb #[.slice q n c,mk,v2,v3,nv] 74,.row (.slice q n c) 78 2 n xs]=rS:=⟨_,rfl⟩
 rw[hrF,hrS]at H
 simp only[List.cons_append,List.nil_append]at H
 obtain⟨q2,c2,e2,h1,h2,hq2⟩:=H.rowShape (i:=1) i_1
 simp only[Value.slice.injEq]at e2
 obtain⟨rfl,_,rfl⟩:=e2
 go_enter Try.func47,Try.ntmps47
 go_wp2_with (first|((with_reducible refine gL ?_);refine own_load1 wtd_ _ _ rfl rfl H (i:=0) .zero one_ways rfl ?_)|((with_reducible refine gT ?_);refine own_store1 wtd_ _ _ _ rfl rfl evd_ H (i:=0) .zero rfl (by show 0<5;omega) (one_size one_ways) ?_;clear H;intro w H)|fail)
 go_end0
 refine⟨rfl,?_⟩
 rw[← hrF,← hrS]at H
 have H:HoldG M w0 _ [.blk mb #[.slice q 0 c,mk,v2,v3,nv] 74,.row (.slice q n c) 78 2 n xs,.kn (restF _ [.blk mb #[.slice q n c,mk,v2,v3,nv] 74,.row (.slice q n c) 78 2 n xs]) (restS _ [.blk mb #[.slice q n c,mk,v2,v3,nv] 74,.row (.slice q n c) 78 2 n xs])]:=H
 obtain⟨hlen,⟨hv,hn0⟩|⟨g,cap,cur,hv,hb,hg,hn,hc,hsz,ht⟩⟩:=H.all 1 _ rfl
 ·simp only[Value.slice.injEq]at hv
  obtain⟨rfl,rfl,rfl⟩:=hv
  have hx:xs=[]:=List.length_eq_zero_iff.1 (by simpa using hlen)
  subst hx
  exact Turned.of H (i:=2) i_2 [0,1] (by decide) (by decide) rfl (fun F S h=>by simp at h)
 ·simp only[Value.slice.injEq]at hv
  obtain⟨rfl,_,rfl⟩:=hv
  have H2:=H.cutRow (i:=1) (m:=0) i_1 (Nat.zero_le _)
  rw[Nat.zero_mul,List.take_zero]at H2
  simp only[List.set_cons_succ,List.set_cons_zero]at H2
  exact Turned.of H2 (i:=2) i_2 [0,1] (by decide) (by decide) rfl (fun F S h=>by simp at h)
end
end Go.Proofs.Ytdoflhjhaciepaa
namespace Go.Proofs.Ytdoflhjhaciepaa
open Go.RowKit
structure QCtx (l:List Oper) (Ss:Nat→Value→World→Prop) (R:World→World→Prop) (a0:Act) (w0:World) (i:Nat) (a:Act) (w:World):Prop where
 rel:R w0 w
 frame:∀ t,l.any (fun o=>o.dst == some t)=false→a.eval (.tmp t)=a0.eval (.tmp t)
 dep:∀ j d,decide (j<i)=true→(l[j]?).bind (·.dst)=some d→Ss j (a.eval (.tmp d)) w
def QStep (P:Program) (ops:Array Oper) (R:World→World→Prop) (o:Oper) (a:Act) (w:World) (s:Value→World→Prop):Prop :=
 if Region.wanted o (yielded ops a.tmps) then o.wp P a w (fun a' w'=>∃ v,a'=a.put o.dst v∧R w w'∧s v w') (fun _ _ _=>False) else s undef w
def StableR (R:World→World→Prop) (s:Value→World→Prop):Prop:=∀ v w w',s v w→R w w'→s v w'
theorem stableR_eq {R:World→World→Prop} (x:Value):StableR R (fun v _=>v=x):=fun _ _ _ h _=>h
def AllStableR (R:World→World→Prop):List (Value→World→Prop)→Prop
 | []=>True
 | s::r=>StableR R s∧AllStableR R r
theorem lookS_stableR {R:World→World→Prop}:∀ (L:List (Value→World→Prop)) (i:Nat),AllStableR R L→StableR R (lookS L i)
 | [],_,_=>fun _ _ _ h _=>h
 | _::_,0,h=>h.1
 | _::r,i+1,h=>lookS_stableR r i h.2
section
variable {P:Program} {ops:Array Oper} {o:Oper} {a:Act} {w:World} {R:World→World→Prop}
theorem rq_of {v:Value} (hrefl:∀ w,R w w) (h:RStep P ops o a w (fun v' w'=>v'=v∧w'=w)):QStep P ops R o a w (fun v' _=>v'=v):=by
 unfold RStep StepOk at h
 unfold QStep
 split
 ·rename_i hw
  rw[if_pos hw]at h
  exact Oper.wp_mono (fun a' w' ⟨u,e,_,h1,h2⟩=>⟨u,e,h2 ▸ hrefl w,h1⟩) h
 ·rename_i hw
  rw[if_neg hw]at h
  exact h.1
theorem rq_skip {v:Value} (hg:Region.wanted o (yielded ops a.tmps)=false) (hv:v=undef):QStep P ops R o a w (fun v' _=>v'=v):=by
 unfold QStep;rw[if_neg (by rw[hg];decide)];exact hv.symm
theorem rq_pure {v:Value} (hrefl:∀ w,R w w) (hg:Region.wanted o (yielded ops a.tmps)=true) (hr:(execOp a.eval o).run P w=.ok (.value v) w):QStep P ops R o a w (fun v' _=>v'=v) :=
 rq_of hrefl (rs_val hg hr (Below.refl _ w) ⟨rfl,rfl⟩)
theorem rq_move {x:Operand} {v:Value} (hrefl:∀ w,R w w) (hg:Region.wanted o (yielded ops a.tmps)=true) (hop:o.op=Op.move x) (hx:a.eval x=v):QStep P ops R o a w (fun v' _=>v'=v):=by
 refine rq_pure hrefl hg ?_
 simp only[execOp,hop,hx];rfl
theorem rq_pick {x y z:Operand} {b:Bool} {v:Value} (hrefl:∀ w,R w w) (hg:Region.wanted o (yielded ops a.tmps)=true) (hop:o.op=Op.pick x y z) (hx:a.eval x=.bool b) (hv:(if b then a.eval y else a.eval z)=v):QStep P ops R o a w (fun v' _=>v'=v):=by
 refine rq_pure hrefl hg ?_
 simp only[execOp,hop,hx]
 subst hv
 cases b<;>rfl
theorem rq_calln {f:FuncId} {xs:Array Operand} {ts:Array TypeId} {vs:Array Value} {v:Value} (hg:Region.wanted o (yielded ops a.tmps)=true)
  (hop:o.op=Op.call {callee:=Callee.value (Operand.func f),args:=xs,argTypes:=ts}) (hf:∀ args w,(callFunc f args).run P w=.ok (.enter f args) w) (hx:xs.map a.eval=vs)
  (hc:Calls P f vs w fun e w'=>e=.returned v∧R w w'):QStep P ops R o a w (fun v' _=>v'=v):=by
 unfold QStep;rw[if_pos hg]
 unfold Oper.wp
 have hr:(execOp a.eval o).run P w=.ok (.enter f vs) w:=by
  simp only[execOp,hop]
  simp[resolve,hx]
  rw[show a.eval (Operand.func f)=.func (.func f) #[] #[] from rfl]
  simp[Deferred.ofValue,invoke,hf]
 rw[hr]
 exact hc.mono fun e w' ⟨he,hb⟩=>by subst he;exact⟨v,rfl,hb,rfl⟩
end
structure RCtxR (l:List Oper) (Ss:Nat→Value→World→Prop) (R:World→World→Prop) (a0:Act) (w0:World) (o:Oper) (a:Act) (w:World):Prop where
 rel:R w0 w
 frame:∀ t,l.any (fun o=>o.dst == some t)=false→a.eval (.tmp t)=a0.eval (.tmp t)
 dep:∀ j d,o.after.toList.any (fun e=>Region.binds .any e&&e.on == j)=true→(l[j]?).bind (·.dst)=some d→Ss j (a.eval (.tmp d)) w
def dstsN:List Oper→Bool
 | []=>true
 | o::r=>(o.dst.isNone || r.all (fun o'=>o'.dst != o.dst))&&dstsN r
def specN (ops:Array Oper) (n:Nat):Bool :=
 decide (n≤ops.size)&&dstsN (ops.toList.take n) &&
 ((ops.toList.take n).zipIdx.all fun (o,i)=>o.after.all fun e=>!Region.binds .any e || decide (e.on<i)) &&
 (decide (n=ops.size) || (Region.sinkB .any ops n&&Region.chainB .any ops n)) &&
 Region.seqB .any ops (ops.size - n) n (headListed n (ops.size - n))
def ownT (o:Oper):Option Tmp:=match o.op with|.insert _ (.tmp d) _ _=>some d|.store _ (.tmp d) _=>some d|_=>none
def ghost (o:Oper) (a:Act):Value:=match ownT o with|some d=>a.eval (.tmp d)|none=>undef
def Linked (l:List Oper) (listed:Nat→Bool) (vals:Nat→Value):Prop :=
 ∀ i o d j oj,l[i]?=some o→o.dst=none→ownT o=some d→l[j]?=some oj→oj.dst=some d→o.after.toList.any (fun e=>Region.binds .any e&&e.on == j)=true→listed i=true→vals i=vals j
theorem fillN_set:∀ (l:List Oper) (k i:Nat) (listed:Array Bool) (vals:Nat→Value) (a:Act) (o:Oper) (d:Tmp) (v:Value),dstsN l=true→l[i]?=some o→o.dst=some d →
  listed.getD (k+i) true=false →
  fill l k (listed.setIfInBounds (k+i) true) (fun j=>if j=k+i then v else vals j) a=(fill l k listed vals a).put (some d) v
 | [],_,_,_,_,_,_,_,_,_,h,_,_=>by simp at h
 | o::r,k,0,listed,vals,a,o',d,v,hd,h,hod,hl=>by
  simp at h;subst h
  simp only[dstsN,Bool.and_eq_true,Bool.or_eq_true]at hd
  obtain⟨hall,hr⟩:=hd
  have hne:∀ o' ∈ r,o'.dst≠some d:=by
   intro o' ho' e
   rcases hall with h0|hall
   ·rw[hod]at h0;simp at h0
   ·have:=List.all_eq_true.1 hall o' ho'
    rw[e,hod]at this;simp at this
  have h1:(listed.setIfInBounds k true).getD k false=true:=by
   have hk:k<listed.size:=by
    rcases Nat.lt_or_ge k listed.size with h'|h'
    ·exact h'
    ·simp[Array.getElem?_eq_none h']at hl
   simp[hk]
  have h2:listed.getD k false=false:=getD_both (by simpa using hl)
  simp only[Nat.add_zero,fill,h1,h2,if_true,Bool.false_eq_true,if_false,hod]
  rw[fill_put r (k+1) _ _ a d v hne]
  congr 1
  refine fill_congr r (k+1) _ _ _ _ a (fun i hi=>⟨?_,by rw[if_neg (by omega)]⟩)
  exact getD_set_ne false (by omega)
 | o::r,k,i+1,listed,vals,a,o',d,v,hd,h,hod,hl=>by
  simp only[dstsN,Bool.and_eq_true]at hd
  simp only[List.getElem?_cons_succ]at h
  have ih:=fillN_set r (k+1) i listed vals (if listed.getD k false then a.put o.dst (vals k) else a) o' d v hd.2 h hod (by rwa [show k+1+i=k+(i+1) from by omega])
  simp only[fill]
  rw[show k+(i+1)=k+1+i from by omega,getD_set_ne false (by omega),if_neg (by omega:¬ k=k+1+i)]
  exact ih
theorem fillN_none:∀ (l:List Oper) (k i:Nat) (listed:Array Bool) (vals:Nat→Value) (a:Act) (o:Oper) (v:Value),l[i]?=some o→o.dst=none →
  listed.getD (k+i) true=false →
  fill l k (listed.setIfInBounds (k+i) true) (fun j=>if j=k+i then v else vals j) a=fill l k listed vals a
 | [],_,_,_,_,_,_,_,h,_,_=>by simp at h
 | o::r,k,0,listed,vals,a,o',v,h,hod,hl=>by
  simp at h;subst h
  have h2:listed.getD k false=false:=getD_both (by simpa using hl)
  simp only[Nat.add_zero,fill,h2,hod,Bool.false_eq_true,if_false]
  have hp:∀ (b:Bool) (u:Value),(if b=true then a.put none u else a)=a:=by intro b u;cases b<;>rfl
  rw[hp]
  refine fill_congr r (k+1) _ _ _ _ a (fun i hi=>⟨?_,by rw[if_neg (by omega)]⟩)
  exact getD_set_ne false (by omega)
 | o::r,k,i+1,listed,vals,a,o',v,h,hod,hl=>by
  simp only[List.getElem?_cons_succ]at h
  have ih:=fillN_none r (k+1) i listed vals (if listed.getD k false then a.put o.dst (vals k) else a) o' v h hod (by rwa [show k+1+i=k+(i+1) from by omega])
  simp only[fill]
  rw[show k+(i+1)=k+1+i from by omega,getD_set_ne false (by omega),if_neg (by omega:¬ k=k+1+i)]
  exact ih
theorem fillN_at:∀ (l:List Oper) (k:Nat) (listed:Array Bool) (vals:Nat→Value) (a:Act) (j:Nat) (o:Oper) (d:Tmp),dstsN l=true→l[j]?=some o→o.dst=some d→d<a.tmps.size →
  listed.getD (k+j) false=true→(fill l k listed vals a).eval (.tmp d)=vals (k+j)
 | [],_,_,_,_,_,_,_,_,h,_,_,_=>by simp at h
 | o::r,k,listed,vals,a,0,o',d,hd,h,hod,hsz,hl=>by
  simp at h;subst h
  simp only[dstsN,Bool.and_eq_true,Bool.or_eq_true]at hd
  obtain⟨hall,hr⟩:=hd
  simp only[Nat.add_zero]at hl ⊢
  simp only[fill,hl,if_true,hod]
  rw[fill_frame r (k+1) listed vals _ d (by
   rw[Bool.eq_false_iff]
   intro hc
   obtain⟨o',ho',e⟩:=List.any_eq_true.1 hc
   rcases hall with h0|hall
   ·rw[hod]at h0;simp at h0
   ·have:=List.all_eq_true.1 hall o' ho'
    rw[hod]at this
    simp at e this;exact this e),put_tmps_same a d _ hsz]
 | o::r,k,listed,vals,a,j+1,o',d,hd,h,hod,hsz,hl=>by
  simp only[dstsN,Bool.and_eq_true]at hd
  simp only[fill]
  rw[show k+(j+1)=k+1+j from by omega]at hl ⊢
  exact fillN_at r (k+1) listed vals _ j o' d hd.2 (by simpa using h) hod (by split<;>simp[put_size,hsz]) hl
theorem wp_region_specMD {P:Program} {id:Nat} {Q:Exit→Act→World→Prop} {a0:Act} {w0:World} {l:List Oper} (R:World→World→Prop) (htrans:∀ u v w,R u v→R v w→R u w) (hrefl:∀ w,R w w) (hdrew:∀ w:World,R w {w with drawn:=w.drawn+1}) (n:Nat) (Ss:Nat→Value→World→Prop)
  (hm:P.follows .mixedOrders=true) (hB:specN l.toArray n=true) (hsz:(l.take n).all (fun o=>match o.dst with|some d=>decide (d<a0.tmps.size)|none=>true)=true)
  (hst:∀ i,i<n→∀ v w w',Ss i v w→R w w'→Ss i v w')
  (hstep:∀ i o,i<n→l[i]?=some o→∀ a w,RCtxR (l.take n) Ss R a0 w0 o a w→QStep P l.toArray R o a w (fun v w'=>Ss i v w'∧(o.dst=none→v=ghost o a)))
  (hend:∀ vals w,R w0 w→(∀ i,i<n→Ss i (vals i) w)→Linked (l.take n) (fun _=>true) vals→wpList P l.toArray Q (l.drop n) (fillAll (l.take n) 0 vals a0) w) :
  (Code.region id l.toArray true).wp P Q a0 w0:=by
 simp only[specN,Bool.and_eq_true,decide_eq_true_eq]at hB
 obtain⟨⟨⟨⟨hn,hd⟩,haf⟩,hsink⟩,hseq⟩:=hB
 have hn':n≤l.length:=by simpa using hn
 have hd':dstsN (l.take n)=true:=hd
 have htl:(l.take n).length=n:=by simp;omega
 have key:∀ (rem:List Nat) (f:Nat),rem.length=f→rem.Nodup→∀ (listed:Array Bool) (a:Act) (w:World),HeadInv .any l.toArray n listed →
   (∀ i,i ∈ rem↔(i<n∧listed.getD i true=false))→(∃ vals,a=fill (l.take n) 0 listed vals a0∧(∀ i,i<n→listed.getD i false=true→Ss i (vals i) w)∧Linked (l.take n) (fun i=>listed.getD i false) vals)→R w0 w →
   wpAny P .any l.toArray Q (f+(l.toArray.size - n)) listed a w:=by
  intro rem f
  induction f generalizing rem with
  | zero =>
   intro hl _ listed a w inv hrem ⟨vals,ha,hv,hlk⟩ hb
   have hr:rem=[]:=List.length_eq_zero_iff.1 hl
   subst hr
   have hall:∀ i,i<n→listed.getD i false=true:=by
    intro i hi
    have h1:¬ listed.getD i true=false:=fun h=>by have:=(hrem i).2 ⟨hi,h⟩;simp at this
    have h2:i<listed.size:=by rw[inv.size];omega
    rw[Array.getD_eq_getD_getElem?,Array.getElem?_eq_getElem h2]at h1 ⊢
    simpa using h1
   have hlist:=listed_head hn inv hall
   have hw:=hend vals w hb (fun i hi=>hv i hi (hall i hi)) (fun i oi d j oj h1 h2 h3 h4 h5 h6 _=>hlk i oi d j oj h1 h2 h3 h4 h5 h6 (hall i (by have:=(List.getElem?_eq_some_iff.1 h1).1;omega)))
   rw[← fill_all (l.take n) 0 listed vals a0 (fun i hi=>by rw[Nat.zero_add];exact hall i (by omega)),← ha]at hw
   rw[Nat.zero_add]
   have hdl:(l.drop n).length=l.toArray.size - n:=by simp
   rw[← hdl]
   refine wpAny_of_seq (l.drop n) n listed a w (fun j=>by simp) ?_ hw
   rw[hdl,hlist];exact hseq
  | succ f ih =>
   intro hl hnd listed a w inv hrem ⟨vals,ha,hv,hlk⟩ hb
   have hex:∃ i,i ∈ rem∧∀ j,j ∈ rem→i≤j:=by
    have:∀ (r:List Nat),r≠[]→∃ i,i ∈ r∧∀ j,j ∈ r→i≤j:=by
     intro r
     induction r with
     | nil=>intro h;exact(h rfl).elim
     | cons x r ihr =>
      intro _
      by_cases hr:r=[]
      ·subst hr;exact⟨x,by simp,by simp⟩
      ·obtain⟨i,hi,hmin⟩:=ihr hr
       by_cases hx:x≤i
       ·exact⟨x,by simp,fun j hj=>by rcases List.mem_cons.1 hj with rfl|hj;exact Nat.le_refl _;exact Nat.le_trans hx (hmin j hj)⟩
       ·exact⟨i,by simp[hi],fun j hj=>by rcases List.mem_cons.1 hj with rfl|hj;omega;exact hmin j hj⟩
    exact this rem (by intro h;subst h;simp at hl)
   have hready:Region.ready .any l.toArray listed≠[]:=by
    obtain⟨i,hi,hmin⟩:=hex
    obtain⟨hin,hil⟩:=(hrem i).1 hi
    have hlt:i<l.length:=by omega
    have hmem:i ∈ Region.ready .any l.toArray listed:=by
     refine mem_ready.2 ⟨hil,l[i],by simp[hlt],fun e he hbd=>?_⟩
     have h1:=List.all_eq_true.1 haf (l[i],i) (by
      rw[List.mem_zipIdx_iff_getElem?];simp[hin,hlt])
     have h2:=Array.all_eq_true'.1 h1 e he
     simp[hbd]at h2
     have hj:¬ e.on ∈ rem:=fun h=>by have:=hmin _ h;omega
     have h3:¬ listed.getD e.on true=false:=fun h=>hj ((hrem _).2 ⟨by omega,h⟩)
     have h4:e.on<listed.size:=by rw[inv.size];simp;omega
     rw[Array.getD_eq_getD_getElem?,Array.getElem?_eq_getElem h4]at h3 ⊢
     simpa using h3
    intro h;rw[h]at hmem;simp at hmem
   rw[show f+1+(l.toArray.size - n)=(f+(l.toArray.size - n))+1 from by omega]
   refine⟨fun h=>(hready h).elim,fun i hi=>?_⟩
   obtain⟨hil,o,ho,haft⟩:=mem_ready.1 hi
   have hin:i<n:=by
    rcases Nat.lt_or_ge i n with h|h
    ·exact h
    ·exfalso
     obtain⟨i',hi',_⟩:=hex
     obtain⟨hin',hil'⟩:=(hrem i').1 hi'
     have hisz:i<l.toArray.size:=(Array.getElem?_eq_some_iff.1 ho).1
     simp only[Bool.or_eq_true,decide_eq_true_eq,Bool.and_eq_true]at hsink
     rcases hsink with h0|⟨hs,hc⟩
     ·omega
     ·exact tail_waits hs hc (by omega) inv (n - i') i' rfl hin' hil' i h hi
   have ho':l[i]?=some o:=by simpa using ho
   have hot:(l.take n)[i]?=some o:=by rw[List.getElem?_take_of_lt hin];exact ho'
   have hbd:∀ (j:Nat) (oj:Oper) (dj:Tmp),(l.take n)[j]?=some oj→oj.dst=some dj→dj<a0.tmps.size:=by
    intro j oj dj hj hdj
    have:=List.all_eq_true.1 hsz oj (List.mem_of_getElem? hj)
    simpa [hdj] using this
   have hctx:RCtxR (l.take n) Ss R a0 w0 o a w:=by
    refine⟨hb,fun t ht=>by rw[ha];exact fill_frame _ _ _ _ _ t ht,fun j dj hj hdj=>?_⟩
    obtain⟨e,he,hbe⟩:=List.any_eq_true.1 hj
    simp only[Bool.and_eq_true,beq_iff_eq]at hbe
    have hlj:=haft e (Array.mem_toList_iff.1 he) hbe.1
    rw[hbe.2]at hlj
    obtain⟨oj,hoj,hdj'⟩:=Option.bind_eq_some_iff.1 hdj
    have hjn:j<n:=by have:=(List.getElem?_eq_some_iff.1 hoj).1;omega
    rw[ha,fillN_at _ 0 listed vals a0 j oj dj hd' hoj hdj' (hbd j oj dj hoj hdj') (by rw[Nat.zero_add];exact hlj),Nat.zero_add]
    exact hv j hjn hlj
   have hstep':=hstep i o hin ho' a w hctx
   have hclosed:∀ k ok,l[k]?=some ok→listed.getD k false=true→∀ j,ok.after.toList.any (fun e=>Region.binds .any e&&e.on == j)=true→listed.getD j false=true:=by
    intro k ok hk hlk' j hj
    obtain⟨e,he,hbe⟩:=List.any_eq_true.1 hj
    simp only[Bool.and_eq_true,beq_iff_eq]at hbe
    have:=inv.closed k ok (by simpa using hk) hlk' e (Array.mem_toList_iff.1 he) hbe.1
    rwa [hbe.2]at this
   have hownd:∀ j,o.after.toList.any (fun e=>Region.binds .any e&&e.on == j)=true→listed.getD j false=true:=by
    intro j hj
    obtain⟨e,he,hbe⟩:=List.any_eq_true.1 hj
    simp only[Bool.and_eq_true,beq_iff_eq]at hbe
    have:=haft e (Array.mem_toList_iff.1 he) hbe.1
    rwa [hbe.2]at this
   have hnl:∀ j,listed.getD j false=true→j≠i:=by
    intro j hj e;subst e;rw[getD_both hil]at hj;cases hj
   have hnext:∀ v w',R w w'→Ss i v w'→(o.dst=none→v=ghost o a)→wpAny P .any l.toArray Q (f+(l.toArray.size - n)) (listed.setIfInBounds i true) (a.put o.dst v) w':=by
    intro v w' hbw hsv hgh
    have hmemi:i ∈ rem:=(hrem i).2 ⟨hin,hil⟩
    refine ih (rem.erase i) (by rw[List.length_erase_of_mem hmemi,hl];rfl) (hnd.erase i) _ _ w' (inv.set hi hin) (fun j=>?_) ⟨fun j=>if j=i then v else vals j,?_,fun j hj hlj=>?_,?_⟩ (htrans _ _ _ hb hbw)
    ·rw[hnd.mem_erase_iff,hrem j]
     by_cases hji:j=i
     ·subst hji
      have hjs:j<listed.size:=by rw[inv.size];simp;omega
      simp[hjs]
     ·rw[getD_set_ne true (fun e=>hji e.symm)]
      simp[hji]
    ·cases hod:o.dst with
     | some d =>
      have:=fillN_set (l.take n) 0 i listed vals a0 o d v hd' hot hod (by rw[Nat.zero_add];exact hil)
      rw[Nat.zero_add]at this
      rw[this,← ha]
     | none =>
      have:=fillN_none (l.take n) 0 i listed vals a0 o v hot hod (by rw[Nat.zero_add];exact hil)
      rw[Nat.zero_add]at this
      rw[this,← ha];rfl
    ·by_cases hji:j=i
     ·subst hji;simpa using hsv
     ·show Ss j (if j=i then v else vals j) w'
      rw[if_neg hji]
      rw[getD_set_ne false (fun e=>hji e.symm)]at hlj
      exact hst j hj _ _ _ (hv j hj hlj) hbw
    ·intro k ok d j oj h1 h2 h3 h4 h5 h6 h7
     show (if k=i then v else vals k)=(if j=i then v else vals j)
     by_cases hki:k=i
     ·subst hki
      rw[hot]at h1;cases h1
      have hjl:=hownd j h6
      rw[if_pos rfl,if_neg (hnl j hjl),hgh h2]
      unfold ghost;rw[h3]
      show a.eval (.tmp d)=vals j
      rw[ha,fillN_at _ 0 listed vals a0 j oj d hd' h4 h5 (hbd j oj d h4 h5) (by rw[Nat.zero_add];exact hjl),Nat.zero_add]
     ·replace h7:(listed.setIfInBounds i true).getD k false=true:=h7
      rw[getD_set_ne false (fun e=>hki e.symm)]at h7
      have hkn:k<n:=by have:=(List.getElem?_eq_some_iff.1 h1).1;omega
      have hjl:=hclosed k ok (by rw[← h1,List.getElem?_take_of_lt hkn]) h7 j h6
      rw[if_neg hki,if_neg (hnl j hjl)]
      exact hlk k ok d j oj h1 h2 h3 h4 h5 h6 h7
   unfold wpOp
   simp only[ho]
   unfold QStep at hstep'
   split
   ·rename_i hw
    rw[if_pos hw]at hstep'
    refine .inl (wpQ_mono (Oper.wp_mono (fun a' w' ⟨v,e,hbw,hsv,hgh⟩=>?_) hstep'))
    subst e
    exact hnext v w' hbw hsv hgh
   ·rename_i hw
    rw[if_neg hw]at hstep'
    exact hnext undef w (hrefl w) hstep'.1 hstep'.2
 refine wp_region_any hm ?_
 have h0:=key (List.range n) n (by simp) List.nodup_range (Array.replicate l.toArray.size false) a0 {w0 with drawn:=w0.drawn+1}
  ⟨by simp,fun j oj _ hl=>(by rw[getD_replicate_false]at hl;cases hl),fun t _ ht=>getD_in (by simpa using ht) (getD_replicate_false _ _)⟩
  (fun i=>by
   rw[List.mem_range]
   constructor
   ·intro h;exact⟨h,getD_in (by simp;omega) (getD_replicate_false _ _)⟩
   ·intro h;exact h.1)
  ⟨fun _=>undef,(fill_none _ _ _ _ _ (fun i=>getD_replicate_false _ _)).symm,fun i _ h=>(by rw[getD_replicate_false]at h;cases h),fun _ _ _ _ _ _ _ _ _ _ _ _=>rfl⟩
  (hdrew w0)
 rw[show n+(l.toArray.size - n)=l.toArray.size from by omega]at h0
 exact h0
def OblM (P:Program) (l hd:List Oper) (R:World→World→Prop) (L:List (Value→World→Prop)) (a0:Act) (w0:World):List Oper→Nat→Prop
 | [],_=>True
 | o::r,i=>(∀ a w,RCtxR hd (lookS L) R a0 w0 o a w→QStep P l.toArray R o a w (fun v w'=>lookS L i v w'∧(o.dst=none→v=ghost o a)))∧OblM P l hd R L a0 w0 r (i+1)
theorem OblM.get {P:Program} {l hd:List Oper} {R:World→World→Prop} {L:List (Value→World→Prop)} {a0:Act} {w0:World}:∀ (r:List Oper) (k:Nat),OblM P l hd R L a0 w0 r k→∀ i o,r[i]?=some o →
  ∀ a w,RCtxR hd (lookS L) R a0 w0 o a w→QStep P l.toArray R o a w (fun v w'=>lookS L (k+i) v w'∧(o.dst=none→v=ghost o a))
 | [],_,_,_,_,h=>by simp at h
 | o::r,k,h,0,o',h'=>by simp at h';subst h';exact h.1
 | o::r,k,h,i+1,o',h'=>by
  have:=OblM.get r (k+1) h.2 i o' (by simpa using h')
  rwa [show k+1+i=k+(i+1) from by omega]at this
theorem wp_region_specM {P:Program} {id:Nat} {Q:Exit→Act→World→Prop} {a0:Act} {w0:World} {l:List Oper} (R:World→World→Prop) (hrefl:∀ w,R w w) (htrans:∀ u v w,R u v→R v w→R u w) (hdrew:∀ w:World,R w {w with drawn:=w.drawn+1}) (n:Nat) (L:List (Value→World→Prop)) (hst:AllStableR R L)
  (hm:P.follows .mixedOrders=true) (hB:specN l.toArray n=true) (hsz:(l.take n).all (fun o=>match o.dst with|some d=>decide (d<a0.tmps.size)|none=>true)=true)
  (hstep:OblM P l (l.take n) R L a0 w0 (l.take n) 0)
  (hend:∀ vals w,R w0 w→(∀ i,i<n→lookS L i (vals i) w)→Linked (l.take n) (fun _=>true) vals→wpList P l.toArray Q (l.drop n) (fillAll (l.take n) 0 vals a0) w) :
  (Code.region id l.toArray true).wp P Q a0 w0 :=
 wp_region_specMD R htrans hrefl hdrew n (lookS L) hm hB hsz (fun i _ v w w' h hb=>lookS_stableR L i hst v w w' h hb) (fun i o hi ho a w hc=>by
   have:=OblM.get (l.take n) 0 hstep i o (by rw[List.getElem?_take_of_lt hi];exact ho) a w hc
   rwa [Nat.zero_add]at this) hend
def orderB (md:Region.Mode) (ops:Array Oper):List Nat→Array Bool→Bool
 | [],listed=>(Region.ready md ops listed).isEmpty
 | i::r,listed=>decide (Region.ready md ops listed=[i])&&orderB md ops r (listed.setIfInBounds i true)
theorem wpAny_of_order {P:Program} {md:Region.Mode} {ops:Array Oper} {Q:Exit→Act→World→Prop}:∀ (is:List Nat) (os:List Oper) (listed:Array Bool) (a:Act) (w:World),os.length=is.length→(∀ (j i:Nat),is[j]?=some i→ops[i]?=os[j]?) →
  orderB md ops is listed=true→wpList P ops Q os a w→wpAny P md ops Q is.length listed a w
 | [],os,_,_,_,hl,_,hB,h=>by
  have:os=[]:=List.length_eq_zero_iff.1 hl
  subst this
  exact⟨by simpa [orderB] using hB,h⟩
 | i::r,[],_,_,_,hl,_,_,_=>by simp at hl
 | i::r,o::os,listed,a,w,hl,hg,hB,h=>by
  have h0:ops[i]?=some o:=by simpa using hg 0 i rfl
  simp only[orderB,Bool.and_eq_true,decide_eq_true_eq]at hB
  refine⟨fun h1=>(by rw[hB.1]at h1;cases h1),fun k hk=>?_⟩
  rw[hB.1]at hk
  have hik:k=i:=by simpa using hk
  subst hik
  have hw:wpOp P ops Q k (wpList P ops Q os) a w:=by unfold wpOp;simp only[h0];exact h
  exact wpOp_mono (fun a' w' h'=>wpAny_of_order r os _ a' w' (by simpa using hl) (fun j i hj=>by simpa using hg (j+1) i (by simpa using hj)) hB.2 h') hw
def butListed (n e g:Nat):Array Bool:=((List.range n).map (fun i=>i != e)++List.replicate g false).toArray
def closB (ops:Array Oper) (n e:Nat):Bool :=
 (List.range n).all fun i=>i == e || (List.range (n+1)).any fun j=>decide (i<j)&&(j != e)&&(match ops[j]? with|some o=>o.after.toList.any (fun ed=>Region.binds .any ed&&ed.on == i)|none=>false)
def lateB (ops:Array Oper) (n e:Nat):Bool :=
 decide (n≤ops.size)&&dstsB (ops.toList.take n) &&
 ((ops.toList.take n).zipIdx.all fun (o,i)=>o.after.all fun e=>!Region.binds .any e || decide (e.on<i)) &&
 closB ops n e&&(ops.toList.zipIdx.all fun (o,t)=>decide (t≤n) || o.after.toList.any (fun ed=>Region.binds .any ed&&decide (n≤ed.on)&&decide (ed.on<t))) &&
 Region.seqB .any ops (ops.size - n) n (headListed n (ops.size - n)) &&
 orderB .any ops (e::List.range' (n+1) (ops.size - n - 1)) ((butListed n e (ops.size - n)).setIfInBounds n true)&&decide (e<n)
def lateL (l:List Oper) (n e:Nat):List Oper:=(l.drop n).take 1++((l.drop e).take 1++l.drop (n+1))
def fillBut (e:Nat):List Oper→Nat→(Nat→Value)→Act→Act
 | [],_,_,a=>a
 | o::r,k,vals,a=>fillBut e r (k+1) vals (if k=e then a else a.put o.dst (vals k))
theorem fill_but (e:Nat):∀ (l:List Oper) (k:Nat) (listed:Array Bool) (vals:Nat→Value) (a:Act),(∀ i,i<l.length→k+i≠e→listed.getD (k+i) false=true)→(k≤e→listed.getD e false=false)→fill l k listed vals a=fillBut e l k vals a
 | [],_,_,_,_,_,_=>rfl
 | o::r,k,listed,vals,a,h,h2=>by
  simp only[fill,fillBut]
  have ih:=fill_but e r (k+1) listed vals (if k=e then a else a.put o.dst (vals k)) (fun i hi he=>by have:=h (i+1) (by simp;omega) (by omega);rwa [show k+(i+1)=k+1+i from by omega]at this) (fun hk=>h2 (by omega))
  rw[← ih]
  congr 1
  by_cases hke:k=e
  ·subst hke
   rw[h2 (Nat.le_refl _),if_pos rfl];rfl
  ·have:=h 0 (by simp) (by simpa using hke)
   rw[Nat.add_zero]at this
   rw[this,if_neg hke];rfl
theorem late_most {ops:Array Oper} {n e:Nat} {listed:Array Bool} (hc:closB ops n e=true) (hn:n≤ops.size) (inv:HeadInv .any ops n listed) (o:Oper) (ho:ops[n]?=some o)
  (ha:∀ e ∈ o.after,Region.binds .any e=true→listed.getD e.on false=true):∀ k,k<n→k≠e→listed.getD k false=true:=by
 have key:∀ d k,n - k=d→k<n→k≠e→listed.getD k false=true:=by
  intro d
  induction d using Nat.strongRecOn with
  | _ d ih =>
   intro k hd hk hke
   have h1:=List.all_eq_true.1 hc k (List.mem_range.2 hk)
   simp only[Bool.or_eq_true,beq_iff_eq]at h1
   rcases h1 with h1|h1
   ·exact absurd h1 hke
   ·obtain⟨j,hj,h2⟩:=List.any_eq_true.1 h1
    simp only[Bool.and_eq_true,decide_eq_true_eq,bne_iff_ne,ne_eq]at h2
    obtain⟨⟨hkj,hje⟩,h3⟩:=h2
    have hjn:=List.mem_range.1 hj
    cases hoj:ops[j]? with
    | none=>rw[hoj]at h3;cases h3
    | some oj =>
     rw[hoj]at h3
     obtain⟨ed,hed,hb⟩:=List.any_eq_true.1 h3
     simp only[Bool.and_eq_true,beq_iff_eq]at hb
     by_cases hjn':j=n
     ·subst hjn'
      rw[ho]at hoj;cases hoj
      have:=ha ed (Array.mem_toList_iff.1 hed) hb.1
      rwa [hb.2]at this
     ·have hlj:=ih (n - j) (by omega) j rfl (by omega) hje
      have:=inv.closed j oj hoj hlj ed (Array.mem_toList_iff.1 hed) hb.1
      rwa [hb.2]at this
 exact fun k hk hke=>key _ k rfl hk hke
theorem listed_but {ops:Array Oper} {n e:Nat} {listed:Array Bool} (hn:n≤ops.size) (he:e<n) (inv:HeadInv .any ops n listed) (h:∀ i,i<n→i≠e→listed.getD i false=true) (h2:listed.getD e true=false):listed=butListed n e (ops.size - n):=by
 have hs:=inv.size
 apply Array.ext
 ·simp[butListed,hs];omega
 ·intro i h1 h3
  by_cases hi:i<n
  ·by_cases hie:i=e
   ·subst hie
    rw[Array.getD_eq_getD_getElem?,Array.getElem?_eq_getElem h1]at h2
    simp at h2
    rw[h2]
    simp[butListed,hi,List.getElem_append]
   ·have:=h i hi hie
    rw[Array.getD_eq_getD_getElem?,Array.getElem?_eq_getElem h1]at this
    simp at this
    rw[this]
    simp[butListed,hi,List.getElem_append,hie]
  ·have:=inv.tail i (by omega) (by omega)
   rw[Array.getD_eq_getD_getElem?,Array.getElem?_eq_getElem h1]at this
   simp at this
   rw[this]
   simp[butListed,List.getElem_append,hi]
theorem wp_region_lateD {P:Program} {id:Nat} {Q:Exit→Act→World→Prop} {a0:Act} {w0:World} {l:List Oper} (n e:Nat) (Ss:Nat→Value→World→Prop) (D:Nat→Bool)
  (hm:P.follows .mixedOrders=true) (hB:lateB l.toArray n e=true) (hsz:(l.take n).all (fun o=>match o.dst with|some d=>decide (d<a0.tmps.size)|none=>true)=true)
  (hst:∀ i,i<n→∀ v w w',Ss i v w→Below w.heap.size w w'→Ss i v w')
  (hlt:∀ i,i<n→D i=true→∀ v w,Ss i v w→blk v<w.heap.size)
  (hstep:∀ i o,i<n→l[i]?=some o→∀ a w,RCtx (l.take n) Ss a0 w0 o a w→RStep P l.toArray o a w (fun v w'=>Ss i v w'∧(D i=true→w.heap.size≤blk v)))
  (hend:∀ vals w,Below w0.heap.size w0 w→(∀ i,i<n→Ss i (vals i) w)→(∀ i j,i<n→j<n→i≠j→D i=true→D j=true→blk (vals i)≠blk (vals j))→wpList P l.toArray Q (l.drop n) (fillAll (l.take n) 0 vals a0) w)
  (hend2:∀ vals w,Below w0.heap.size w0 w→(∀ i,i<n→i≠e→Ss i (vals i) w)→(∀ i j,i<n→j<n→i≠e→j≠e→i≠j→D i=true→D j=true→blk (vals i)≠blk (vals j)) →
   wpList P l.toArray Q (lateL l n e) (fillBut e (l.take n) 0 vals a0) w) :
  (Code.region id l.toArray true).wp P Q a0 w0:=by
 simp only[lateB,Bool.and_eq_true,decide_eq_true_eq]at hB
 obtain⟨⟨⟨⟨⟨⟨⟨hn,hd⟩,haf⟩,hclo⟩,htw⟩,hseq⟩,hord⟩,hen⟩:=hB
 have hn':n≤l.length:=by simpa using hn
 have hd':dstsB (l.take n)=true:=hd
 have htl:(l.take n).length=n:=by simp;omega
 have key:∀ (rem:List Nat) (f:Nat),rem.length=f→rem.Nodup→∀ (listed:Array Bool) (a:Act) (w:World),HeadInv .any l.toArray n listed →
   (∀ i,i ∈ rem↔(i<n∧listed.getD i true=false))→(∃ vals,a=fill (l.take n) 0 listed vals a0∧(∀ i,i<n→listed.getD i false=true→Ss i (vals i) w)∧∀ i j,i<n→j<n→i≠j→listed.getD i false=true→listed.getD j false=true→D i=true→D j=true→blk (vals i)≠blk (vals j))→Below w0.heap.size w0 w →
   wpAny P .any l.toArray Q (f+(l.toArray.size - n)) listed a w:=by
  intro rem f
  induction f generalizing rem with
  | zero =>
   intro hl _ listed a w inv hrem ⟨vals,ha,hv,hp⟩ hb
   have hr:rem=[]:=List.length_eq_zero_iff.1 hl
   subst hr
   have hall:∀ i,i<n→listed.getD i false=true:=by
    intro i hi
    have h1:¬ listed.getD i true=false:=fun h=>by have:=(hrem i).2 ⟨hi,h⟩;simp at this
    have h2:i<listed.size:=by rw[inv.size];omega
    rw[Array.getD_eq_getD_getElem?,Array.getElem?_eq_getElem h2]at h1 ⊢
    simpa using h1
   have hlist:=listed_head hn inv hall
   have hw:=hend vals w hb (fun i hi=>hv i hi (hall i hi)) (fun i j hi hj hij=>hp i j hi hj hij (hall i hi) (hall j hj))
   rw[← fill_all (l.take n) 0 listed vals a0 (fun i hi=>by rw[Nat.zero_add];exact hall i (by omega)),← ha]at hw
   rw[Nat.zero_add]
   have hdl:(l.drop n).length=l.toArray.size - n:=by simp
   rw[← hdl]
   refine wpAny_of_seq (l.drop n) n listed a w (fun j=>by simp) ?_ hw
   rw[hdl,hlist];exact hseq
  | succ f ih =>
   intro hl hnd listed a w inv hrem ⟨vals,ha,hv,hp⟩ hb
   have hex:∃ i,i ∈ rem∧∀ j,j ∈ rem→i≤j:=by
    have:∀ (r:List Nat),r≠[]→∃ i,i ∈ r∧∀ j,j ∈ r→i≤j:=by
     intro r
     induction r with
     | nil=>intro h;exact(h rfl).elim
     | cons x r ihr =>
      intro _
      by_cases hr:r=[]
      ·subst hr;exact⟨x,by simp,by simp⟩
      ·obtain⟨i,hi,hmin⟩:=ihr hr
       by_cases hx:x≤i
       ·exact⟨x,by simp,fun j hj=>by rcases List.mem_cons.1 hj with rfl|hj;exact Nat.le_refl _;exact Nat.le_trans hx (hmin j hj)⟩
       ·exact⟨i,by simp[hi],fun j hj=>by rcases List.mem_cons.1 hj with rfl|hj;omega;exact hmin j hj⟩
    exact this rem (by intro h;subst h;simp at hl)
   have hready:Region.ready .any l.toArray listed≠[]:=by
    obtain⟨i,hi,hmin⟩:=hex
    obtain⟨hin,hil⟩:=(hrem i).1 hi
    have hlt:i<l.length:=by omega
    have hmem:i ∈ Region.ready .any l.toArray listed:=by
     refine mem_ready.2 ⟨hil,l[i],by simp[hlt],fun e he hbd=>?_⟩
     have h1:=List.all_eq_true.1 haf (l[i],i) (by
      rw[List.mem_zipIdx_iff_getElem?];simp[hin,hlt])
     have h2:=Array.all_eq_true'.1 h1 e he
     simp[hbd]at h2
     have hj:¬ e.on ∈ rem:=fun h=>by have:=hmin _ h;omega
     have h3:¬ listed.getD e.on true=false:=fun h=>hj ((hrem _).2 ⟨by omega,h⟩)
     have h4:e.on<listed.size:=by rw[inv.size];simp;omega
     rw[Array.getD_eq_getD_getElem?,Array.getElem?_eq_getElem h4]at h3 ⊢
     simpa using h3
    intro h;rw[h]at hmem;simp at hmem
   rw[show f+1+(l.toArray.size - n)=(f+(l.toArray.size - n))+1 from by omega]
   refine⟨fun h=>(hready h).elim,fun i hi=>?_⟩
   obtain⟨hil,o,ho,haft⟩:=mem_ready.1 hi
   by_cases hin:i<n
   case neg =>
    have hisz:i<l.toArray.size:=(Array.getElem?_eq_some_iff.1 ho).1
    have hmost:=late_most hclo hn inv
    have hin':i=n:=by
     rcases Nat.lt_or_ge n i with h|h
     ·exfalso
      have h1:=List.all_eq_true.1 htw (l[i]'(by simpa using hisz),i) (by
       rw[List.mem_zipIdx_iff_getElem?];simp at hisz;simp[hisz])
      simp only[Bool.or_eq_true,decide_eq_true_eq]at h1
      rcases h1 with h1|h1
      ·omega
      ·obtain⟨ed,hed,hb⟩:=List.any_eq_true.1 h1
       simp only[Bool.and_eq_true,decide_eq_true_eq]at hb
       have ho2:o=l[i]'(by simpa using hisz):=by
        have:=(Array.getElem?_eq_some_iff.1 ho).2;simpa using this.symm
       have h3:=haft ed (by rw[ho2];exact Array.mem_toList_iff.1 hed) hb.1.1
       have h4:=getD_both (inv.tail ed.on hb.1.2 (by omega))
       rw[h3]at h4;cases h4
     ·omega
    subst hin'
    have hall:∀ k,k<i→k≠e→listed.getD k false=true:=fun k hk hke=>hmost o ho haft k hk hke
    have hone:rem=[e]:=by
     have h1:∀ k ∈ rem,k=e:=by
      intro k hk
      obtain⟨hk1,hk2⟩:=(hrem k).1 hk
      by_cases hke:k=e
      ·exact hke
      ·have:=hall k hk1 hke
       rw[getD_both hk2]at this;cases this
     cases rem with
     | nil=>simp at hl
     | cons x r =>
      cases r with
      | nil=>rw[h1 x (by simp)]
      | cons y r =>
       have hx:=h1 x (by simp);have hy:=h1 y (by simp)
       rw[hx,hy]at hnd;simp at hnd
    subst hone
    have hf:f=0:=by simp at hl;omega
    subst hf
    have hel:listed.getD e true=false:=((hrem e).1 (by simp)).2
    have hlist:=listed_but hn hen inv hall hel
    have hw:=hend2 vals w hb (fun k hk hke=>hv k hk (hall k hk hke)) (fun k m hk hm hke hme hkm=>hp k m hk hm hkm (hall k hk hke) (hall m hm hme))
    rw[← fill_but e (l.take i) 0 listed vals a0 (fun k hk hke=>by rw[Nat.zero_add]at hke ⊢;exact hall k (by omega) hke) (fun _=>getD_both hel),← ha]at hw
    have hli:l[i]?=some o:=by simpa using ho
    have hl1:(l.drop i).take 1=[o]:=by
     rw[List.drop_eq_getElem_cons (by simpa using hisz)]
     have:l[i]'(by simpa using hisz)=o:=(List.getElem?_eq_some_iff.1 hli).2
     simp[this]
    have hlt':i<l.length:=by simpa using hisz
    have heL:e<l.length:=by omega
    have hl2:(l.drop e).take 1=[l[e]]:=by rw[List.drop_eq_getElem_cons heL,List.take_succ_cons,List.take_zero]
    unfold lateL at hw
    rw[hl1,hl2]at hw
    have hw2:wpOp P l.toArray Q i (wpList P l.toArray Q ([l[e]]++l.drop (i+1))) a w:=by unfold wpOp;simp only[ho];exact hw
    have hlen:(e::List.range' (i+1) (l.toArray.size - i - 1)).length=0+(l.toArray.size - i):=by simp;omega
    refine wpOp_mono (fun a' w' h'=>?_) hw2
    rw[← hlen]
    refine wpAny_of_order (e::List.range' (i+1) (l.toArray.size - i - 1)) ([l[e]]++l.drop (i+1)) _ a' w' (by simp;omega) (fun j k hk=>?_) ?_ h'
    ·cases j with
     | zero=>simp at hk;subst hk;simp[heL]
     | succ j =>
      simp only[List.getElem?_cons_succ]at hk
      obtain⟨hk1,hk2⟩:=List.getElem?_eq_some_iff.1 hk
      simp at hk2
      subst hk2
      simp
    ·rw[hlist];exact hord
   have ho':l[i]?=some o:=by simpa using ho
   have hot:(l.take n)[i]?=some o:=by rw[List.getElem?_take_of_lt hin];exact ho'
   obtain⟨d,hod⟩:∃ d,o.dst=some d:=by
    have:∀ (r:List Oper) (j:Nat),dstsB r=true→r[j]?=some o→∃ d,o.dst=some d:=by
     intro r
     induction r with
     | nil=>intro j _ h;simp at h
     | cons x r ihr =>
      intro j hdd h
      simp only[dstsB,Bool.and_eq_true]at hdd
      cases j with
      | zero=>simp at h;subst h;exact Option.isSome_iff_exists.1 hdd.1.1
      | succ j=>exact ihr j hdd.2 (by simpa using h)
    exact this _ i hd' hot
   have hbd:∀ (j:Nat) (oj:Oper) (dj:Tmp),(l.take n)[j]?=some oj→oj.dst=some dj→dj<a0.tmps.size:=by
    intro j oj dj hj hdj
    have:=List.all_eq_true.1 hsz oj (List.mem_of_getElem? hj)
    simpa [hdj] using this
   have hctx:RCtx (l.take n) Ss a0 w0 o a w:=by
    refine⟨hb,fun t ht=>by rw[ha];exact fill_frame _ _ _ _ _ t ht,fun j dj hj hdj=>?_,by rw[ha,fill_size]⟩
    obtain⟨e,he,hbe⟩:=List.any_eq_true.1 hj
    simp only[Bool.and_eq_true,beq_iff_eq]at hbe
    have hlj:=haft e (Array.mem_toList_iff.1 he) hbe.1
    rw[hbe.2]at hlj
    obtain⟨oj,hoj,hdj'⟩:=Option.bind_eq_some_iff.1 hdj
    have hjn:j<n:=by have:=(List.getElem?_eq_some_iff.1 hoj).1;omega
    rw[ha,fill_at _ 0 listed vals a0 j oj dj hd' hoj hdj' (hbd j oj dj hoj hdj') (by rw[Nat.zero_add];exact hlj),Nat.zero_add]
    exact hv j hjn hlj
   have hstep':=hstep i o hin ho' a w hctx
   have hnext:∀ v w',Below w.heap.size w w'→(Ss i v w'∧(D i=true→w.heap.size≤blk v))→wpAny P .any l.toArray Q (f+(l.toArray.size - n)) (listed.setIfInBounds i true) (a.put o.dst v) w':=by
    intro v w' hbw ⟨hsv,hfr⟩
    have hmemi:i ∈ rem:=(hrem i).2 ⟨hin,hil⟩
    refine ih (rem.erase i) (by rw[List.length_erase_of_mem hmemi,hl];rfl) (hnd.erase i) _ _ w' (inv.set hi hin) (fun j=>?_) ⟨fun j=>if j=i then v else vals j,?_,fun j hj hlj=>?_,fun j k hj hk hjk hlj hlk hDj hDk=>?_⟩ (hb.trans (hbw.mono hb.size))
    ·rw[hnd.mem_erase_iff,hrem j]
     by_cases hji:j=i
     ·subst hji
      have hjs:j<listed.size:=by rw[inv.size];simp;omega
      simp[hjs]
     ·rw[getD_set_ne true (fun e=>hji e.symm)]
      simp[hji]
    ·have:=fill_set (l.take n) 0 i listed vals a0 o d v hd' hot hod (by rw[Nat.zero_add];exact hil)
     rw[Nat.zero_add]at this
     rw[this,← ha,hod]
    ·by_cases hji:j=i
     ·subst hji;simpa using hsv
     ·show Ss j (if j=i then v else vals j) w'
      rw[if_neg hji]
      rw[getD_set_ne false (fun e=>hji e.symm)]at hlj
      exact hst j hj _ _ _ (hv j hj hlj) hbw
    ·show blk (if j=i then v else vals j)≠blk (if k=i then v else vals k)
     by_cases hji:j=i
     ·subst hji
      rw[if_pos rfl,if_neg (fun e=>hjk e.symm)]
      rw[getD_set_ne false hjk]at hlk
      have h1:=hlt k hk hDk _ _ (hv k hk hlk)
      have h2:=hfr hDj
      omega
     ·rw[if_neg hji]
      rw[getD_set_ne false (fun e=>hji e.symm)]at hlj
      by_cases hki:k=i
      ·subst hki
       rw[if_pos rfl]
       have h1:=hlt j hj hDj _ _ (hv j hj hlj)
       have h2:=hfr hDk
       omega
      ·rw[if_neg hki]
       rw[getD_set_ne false (fun e=>hki e.symm)]at hlk
       exact hp j k hj hk hjk hlj hlk hDj hDk
   unfold wpOp
   simp only[ho]
   unfold RStep at hstep'
   split
   ·rename_i hw
    rw[if_pos hw]at hstep'
    refine .inl (wpQ_mono (Oper.wp_mono (fun a' w' ⟨v,e,hbw,hsv⟩=>?_) hstep'))
    subst e
    exact hnext v w' hbw hsv
   ·rename_i hw
    rw[if_neg hw]at hstep'
    exact hnext undef w (Below.refl _ w) hstep'
 refine wp_region_any hm ?_
 have h0:=key (List.range n) n (by simp) List.nodup_range (Array.replicate l.toArray.size false) a0 {w0 with drawn:=w0.drawn+1}
  ⟨by simp,fun j oj _ hl=>(by rw[getD_replicate_false]at hl;cases hl),fun t _ ht=>getD_in (by simpa using ht) (getD_replicate_false _ _)⟩
  (fun i=>by
   rw[List.mem_range]
   constructor
   ·intro h;exact⟨h,getD_in (by simp;omega) (getD_replicate_false _ _)⟩
   ·intro h;exact h.1)
  ⟨fun _=>undef,(fill_none _ _ _ _ _ (fun i=>getD_replicate_false _ _)).symm,fun i _ h=>(by rw[getD_replicate_false]at h;cases h),fun i j _ _ _ h=>(by rw[getD_replicate_false]at h;cases h)⟩
  ((Below.refl _ w0).drew)
 rw[show n+(l.toArray.size - n)=l.toArray.size from by omega]at h0
 exact h0
theorem wp_region_late {P:Program} {id:Nat} {Q:Exit→Act→World→Prop} {a0:Act} {w0:World} {l:List Oper} (n e:Nat) (L:List (Value→World→Prop)) (D:Nat→Bool)
  (hm:P.follows .mixedOrders=true) (hB:lateB l.toArray n e=true) (hsz:(l.take n).all (fun o=>match o.dst with|some d=>decide (d<a0.tmps.size)|none=>true)=true)
  (hst:AllStable L) (hlt:∀ i,i<n→D i=true→∀ v w,lookS L i v w→blk v<w.heap.size)
  (hstep:Obl P l (l.take n) L D a0 w0 (l.take n) 0)
  (hend:∀ vals w,Below w0.heap.size w0 w→(∀ i,i<n→lookS L i (vals i) w)→(∀ i j,i<n→j<n→i≠j→D i=true→D j=true→blk (vals i)≠blk (vals j)) →
   wpList P l.toArray Q (l.drop n) (fillAll (l.take n) 0 vals a0) w)
  (hend2:∀ vals w,Below w0.heap.size w0 w→(∀ i,i<n→i≠e→lookS L i (vals i) w)→(∀ i j,i<n→j<n→i≠e→j≠e→i≠j→D i=true→D j=true→blk (vals i)≠blk (vals j)) →
   wpList P l.toArray Q (lateL l n e) (fillBut e (l.take n) 0 vals a0) w) :
  (Code.region id l.toArray true).wp P Q a0 w0 :=
 wp_region_lateD n e (lookS L) D hm hB hsz (fun i _ v w w' h hb=>lookS_stable L i hst v w w' h hb) hlt
  (fun i o hi ho a w hc=>by
   have:=Obl.get (l.take n) 0 hstep i o (by rw[List.getElem?_take_of_lt hi];exact ho) a w hc
   rwa [Nat.zero_add]at this) hend hend2
end Go.Proofs.Ytdoflhjhaciepaa
namespace Go.Proofs.Ytdoflhjhaciepaa
open Go.RowKit Go.Shelf
attribute [local go_sem] Oper.semAt_some
abbrev stepL (mb:Nat) (lv mk nv:Value) (pp:Option Addr) (cp:Nat) (ps:List InstD) (psl:Option Addr) (csl:Nat) (L:Str) (Fp Fs Fk:Nat→Prop) (zs ys:List WV):List Res :=
 [.blk mb #[lv,mk,.slice pp ps.length cp,.slice psl L.length csl,nv] 74,.row lv 78 2 zs.length (flatR (zs.map wayC)),.kn Fp (InstsR Fp pp cp ps),.kn Fs (BytesR Fs psl csl L),.kn Fk (WaysK Fk ys)]
def StepB (mb:Nat) (lv mk nv:Value) (pp:Option Addr) (cp:Nat) (ps:List InstD) (psl:Option Addr) (csl:Nat) (L:Str) (Fp Fs Fk:Nat→Prop) (ys:List WV) (i:Nat) (M:Nat→Prop) (w0 w:World) (e:Ending) (w':World):Prop :=
 ∃ (lv':Value) (zs:List WV) (fd:Option WV),stepP ps L i (ys.map plW)=(fd.map (·.2.1),zs.map plW)∧(∀ z ∈ zs,z.1<ps.length∧∃ y ∈ ys,z.2=y.2)∧(∀ y,fd=some y→y ∈ ys) ∧
  e=.returned (match fd with|some y=>.slice y.2.2.1 y.2.1.length y.2.2.2|none=>.slice none 0 0) ∧
  Turned M w0 w (stepL mb lv mk nv pp cp ps psl csl L Fp Fs Fk [] ys++[.row nv 78 2 ys.length (flatR (ys.map wayC))]) (stepL mb lv' mk (.slice none 0 0) pp cp ps psl csl L Fp Fs Fk zs ys) w'
theorem stepP_on {ps:List InstD} {L:Str} {i:Nat} {ys:List Way} {zs:List Way} {j:Nat} {k:Nat} {sl:Slots} (h:stepP ps L i (ys.take j)=(none,zs)) (hy:ys[j]?=some (k,sl)) (h5:(atI ps k).kind≠5) (b:Bool) (hb:(i<L.length∧hasB (atI ps k).set (byt L i)=true)↔b=true) :
  stepP ps L i (ys.take (j+1))=(none,if b then zs++[((atI ps k).next.toNat,sl)] else zs):=by
 rw[take_get hy,step_append,h]
 simp only[stepP,if_neg h5]
 cases b with
 | true=>rw[if_pos (hb.2 rfl)];rfl
 | false=>rw[if_neg (fun h=>by have:=hb.1 h;cases this)];simp
theorem stepP_hit {ps:List InstD} {L:Str} {i:Nat} {ys:List Way} {zs:List Way} {j:Nat} {k:Nat} {sl:Slots} (h:stepP ps L i (ys.take j)=(none,zs)) (hy:ys[j]?=some (k,sl)) (h5:(atI ps k).kind=5):stepP ps L i ys=(some sl,zs):=by
 have e:ys=ys.take j++((k,sl)::ys.drop (j+1)):=by
  conv=>lhs;rw[← List.take_append_drop j ys]
  congr 1
  obtain⟨hlt,e⟩:=List.getElem?_eq_some_iff.1 hy
  rw[← e];exact List.drop_eq_getElem_cons hlt
 rw[e,step_append,h]
 simp[stepP,h5]
theorem info_way:(Try.prog.info? 78).map (fun i=>(i.zero,i.size,i.bytes))=some (some (.agg #[.int .i64 0,.slice none 0 0]),2,32):=by kernel_rfl
theorem flatW_put (xs:List WV) (y:WV):flatR (xs.map wayC)++(wayC y).toList=flatR ((xs++[y]).map wayC):=by
 rw[List.map_append,flatR_append];simp[flatR]
theorem run_way2 (k:Int) (q:Option Addr) (n c:Nat) (W:World):(Instr.build 78 #[(0,.int .i64 k),(1,.slice q n c)]).run Try.prog W=.ok (.agg #[.int .i64 k,.slice q n c]) W:=by simp[go_sem]
theorem run_way1 (x:WV) (W:World):(Instr.buildSlice 70 1 #[(0,.agg (wayC x))]).run Try.prog W=.ok (.slice (some ⟨W.heap.size,0,none⟩) 1 1) (W.alloc (.cells (wayC x) 78)):=by kernel_rfl
theorem rs_way1 {ops:Array Oper} {o:Oper} {a:Act} {w:World} {x:Operand} {d:WV} {n0:Nat} {D:Prop} (hg:Region.wanted o (yielded ops a.tmps)=true) (hop:o.op=Op.buildSlice 70 1 #[(0,x)]) (hx:a.eval x=.agg (wayC d)) (hn:n0≤w.heap.size) (hD:¬ D) :
  RStep Try.prog ops o a w (fun v w'=>FreshS n0 (wayC d) 78 v w'∧(D→w.heap.size≤blk v)):=by
 refine rs_val hg (v:=.slice (some ⟨w.heap.size,0,none⟩) 1 1) (w':=w.alloc (.cells (wayC d) 78)) ?_ ((Below.refl _ w).alloc (Nat.le_refl _) _) ⟨⟨w.heap.size,rfl,hn,World.alloc_heap_new w _⟩,fun h=>(hD h).elim⟩
 simp only[execOp,hop,List.map_toArray,List.map_cons,List.map_nil,hx,Sem.run_bind,run_way1]
 rfl
theorem HoldG.gainS2 {M:Nat→Prop} {w0 w w':World} {l:List Res} (H:HoldG M w0 w l) (hb:Below w.heap.size w w') {cs:Array Value} {T:TypeId} {v:Value} (h:FreshS w.heap.size cs T v w'):∃ b,v=.slice (some ⟨b,0,none⟩) 1 1∧HoldG M w0 w' (l++[.blk b cs T]):=by
 obtain⟨b,e,h1,h2⟩:=h
 obtain⟨b',e',H2⟩:=H.gainB hb (v:=.pointer (some ⟨b,0,none⟩)) ⟨b,rfl,h1,h2⟩
 cases e'
 exact⟨b,e,H2⟩
theorem run_wayB {o:Oper} {a:Act} {w:World} {x y:Operand} {k:Int} {d:Slots × Option Addr × Nat} (hop:o.op=.build 78 #[(0,x),(1,y)]) (hx:a.eval x=.int .i64 k) (hy:a.eval y=.slice d.2.1 d.1.length d.2.2) (hk:0≤k):(execOp a.eval o).run Try.prog w=.ok (.value (.agg (wayC (k.toNat,d)))) w:=by
 have e:wayC (k.toNat,d)=#[.int .i64 k,.slice d.2.1 d.1.length d.2.2]:=by
  unfold wayC;simp only[Int.toNat_of_nonneg hk]
 rw[e]
 simp only[execOp,hop,List.map_toArray,List.map_cons,List.map_nil,hx,hy,Sem.run_bind,run_way2];rfl
section
variable {M:Nat→Prop} {ops:Array Oper} {dst:Option Tmp} {ty:TypeId} {pos:String} {aft:Array Edge} {grd:Option (Nat × Bool)} {rest:List Oper} {a:Act} {w w0:World} {l:List Res} {Q:Exit→Act→World→Prop}
theorem zWay_size:(zeroC Try.prog 78).size=2:=by kernel_rfl
theorem gTw {x y:Operand} (h:wpList Try.prog ops Q ((⟨dst,.store 78 x y,ty,pos,aft,grd⟩:Oper)::rest) a w):wpList Try.prog ops Q ((⟨dst,.store 78 x y,ty,pos,aft,grd⟩:Oper)::rest) a w:=h
theorem aTw (H:HoldG M w0 w l) {x y:Operand} {i b:Nat} {cs:Array Value} {U:TypeId} {d:WV} (h:∀ w',HoldG M w0 w' (l.set i (.blk b (wayC d) U))→wpList Try.prog ops Q rest (a.put dst undef) w') (hg:Region.wanted (⟨dst,.store 78 x y,ty,pos,aft,grd⟩:Oper) (yielded ops a.tmps)=true:=by first|rfl|exact wanted_g rfl (yielded_of rfl (by first|rfl|(simp only[pe];rfl)))) (hx:a.eval x=.pointer (some ⟨b,0,none⟩):=by exact rfl) (hy:a.eval y=.agg (wayC d):=by first|(simp only[pe];done)|(simp only[pe];rfl)) (hi:At l i (.blk b cs U):=by repeat (first|(with_reducible exact At.zero)|apply At.succ)) (hn:cs.size=2:=by first|(with_reducible exact zWay_size)|rfl):wpList Try.prog ops Q ((⟨dst,.store 78 x y,ty,pos,aft,grd⟩:Oper)::rest) a w :=
 own_store hg 78 x y rfl hx hy H hi (row_size row_Way) rfl hn rfl h
theorem aGw1 (H:HoldG M w0 w l) {T:TypeId} {x:Operand} {i b:Nat} {d:WV} {U:TypeId} (h:wpList Try.prog ops Q rest (a.put dst (.slice d.2.2.1 d.2.1.length d.2.2.2)) w) (hg:Region.wanted (⟨dst,.load T x,ty,pos,aft,grd⟩:Oper) (yielded ops a.tmps)=true:=by first|rfl|exact wanted_g rfl (yielded_of rfl (by first|rfl|(simp only[pe];rfl)))) (hx:a.eval x=.pointer (some ⟨b,1,none⟩):=by exact rfl) (hi:At l i (.blk b (wayC d) U):=by repeat (first|(with_reducible exact At.zero)|apply At.succ)) (hT:oneB Try.prog T=true:=by with_reducible exact one_ints):wpList Try.prog ops Q ((⟨dst,.load T x,ty,pos,aft,grd⟩:Oper)::rest) a w :=
 own_load1 hg T x rfl hx H hi hT (yg1 d) h
theorem bWay {x y:Operand} {k:Int} {q:Option Addr} {n c:Nat} (h:wpList Try.prog ops Q rest (a.put dst (.agg #[.int .i64 k,.slice q n c])) w) (hg:Region.wanted (⟨dst,.build 78 #[(0,x),(1,y)],ty,pos,aft,grd⟩:Oper) (yielded ops a.tmps)=true:=by first|rfl|exact wanted_g rfl (yielded_of rfl (by first|rfl|(simp only[pe];rfl)))) (h0:a.eval x=.int .i64 k:=by first|(simp only[pe];done)|(simp only[pe];rfl)) (h1:a.eval y=.slice q n c:=by first|(simp only[pe];done)|(simp only[pe];rfl)):wpList Try.prog ops Q ((⟨dst,.build 78 #[(0,x),(1,y)],ty,pos,aft,grd⟩:Oper)::rest) a w :=
 own_pure hg (by simp only[execOp,List.map_toArray,List.map_cons,List.map_nil,h0,h1,Sem.run_bind,run_way2];rfl) h
end
theorem step_fin {M:Nat→Prop} {w0 w W:World} {l:List Res} {mb:Nat} {lv mk nv lv':Value} {pp:Option Addr} {cp:Nat} {ps:List InstD} {psl:Option Addr} {csl:Nat} {L:Str} {Fp Fs Fk:Nat→Prop} {zs ys:List WV} (H:HoldG M w0 W l) {q:Nat}
  (hi:At l q (.kn (restF w (stepL mb lv mk nv pp cp ps psl csl L Fp Fs Fk [] ys++[.row nv 78 2 ys.length (flatR (ys.map wayC))])) (restS w (stepL mb lv mk nv pp cp ps psl csl L Fp Fs Fk [] ys++[.row nv 78 2 ys.length (flatR (ys.map wayC))])))) (hq:4<q)
  (h:[0,1,2,3,4].map (fun j=>l[j]?)=(stepL mb lv' mk (.slice none 0 0) pp cp ps psl csl L Fp Fs Fk zs ys).map some) :
  Turned M w0 w (stepL mb lv mk nv pp cp ps psl csl L Fp Fs Fk [] ys++[.row nv 78 2 ys.length (flatR (ys.map wayC))]) (stepL mb lv' mk (.slice none 0 0) pp cp ps psl csl L Fp Fs Fk zs ys) W :=
 Turned.of H hi [0,1,2,3,4] (by decide) (by simp;omega) h (fun F S hm b hb=>by
  simp at hm
  rcases hm with ⟨rfl,rfl⟩|⟨rfl,rfl⟩|⟨rfl,rfl⟩
  ·exact .inl ⟨.kn F (InstsR F pp cp ps),by simp,hb⟩
  ·exact .inl ⟨.kn F (BytesR F psl csl L),by simp,hb⟩
  ·exact .inl ⟨.kn F (WaysK F ys),by simp,hb⟩)
theorem vm_step (mb:Nat) (mk nv:Value) (lq:Option Addr) (lc:Nat) (pp:Option Addr) (cp:Nat) (ps:List InstD) (psl:Option Addr) (csl:Nat) (L:Str) (Fp Fs Fk:Nat→Prop) (ys:List WV) (i:Nat) (M:Nat→Prop) (w0 w:World) (hR:rightP ps=true) (hset:∀ x ∈ ps,SetOk x.set) (hin:∀ y ∈ ys,y.1<ps.length∧((atI ps y.1).kind=1∨(atI ps y.1).kind=5)) (hyn:ys.length≤1000000)
  (H0:HoldG M w0 w (stepL mb (.slice lq 0 lc) mk nv pp cp ps psl csl L Fp Fs Fk [] ys++[.row nv 78 2 ys.length (flatR (ys.map wayC))])) :
  Calls Try.prog 27 #[.pointer (some ⟨mb,0,none⟩),.int .i64 i] w (StepB mb (.slice lq 0 lc) mk nv pp cp ps psl csl L Fp Fs Fk ys i M w0 w):=by
 have H:=H0.framed
 clear H0
 obtain⟨rF,hrF⟩:∃ rF,restF w (stepL mb (.slice lq 0 lc) mk nv pp cp ps psl csl L Fp Fs Fk [] ys++[.row nv 78 2 ys.length (flatR (ys.map wayC))])=rF:=⟨_,rfl⟩
 obtain⟨rS,hrS⟩:∃ rS,restS w (stepL mb (.slice lq 0 lc) mk nv pp cp ps psl csl L Fp Fs Fk [] ys++[.row nv 78 2 ys.length (flatR (ys.map wayC))])=rS:=⟨_,rfl⟩
 rw[hrF,hrS]at H
 simp only[stepL,List.cons_append,List.nil_append]at H
 obtain⟨q0,c0,rfl,_,_,hq0⟩:=H.rowShape (i:=5) i_5
 obtain⟨n,hn⟩:∃ n,ys.length=n:=⟨_,rfl⟩
 have HYL:=Lib.hid (show (ys.map wayC).length=n by rw[List.length_map];exact hn)
 have HN:=Lib.hid hn
 rw[hn]at H hq0 hyn
 clear hn
 obtain⟨iw,hiw,hw0,hw1,hw2⟩:=info_parts info_way
 go_enter Try.func27,Try.ntmps27
 go_wp2_with (first|((with_reducible refine gL ?_);refine own_load1 wtd_ _ _ rfl rfl H (i:=0) .zero one_ways rfl ?_)|((with_reducible refine gT ?_);refine own_store1 wtd_ _ _ _ rfl rfl evd_ H (i:=0) .zero rfl (by show 4<5;omega) (one_size one_ways) ?_;clear H;intro w H;simp only[List.set_cons_succ,List.set_cons_zero]at H)|fail)
 go_loopw [18] (fun ix wr=>∃ (j:Nat) (vq:Option Addr) (vc:Nat) (zs:List WV),j≤n∧ix=.int .i64 j∧Hid (stepP ps L i ((ys.map plW).take j)=(none,zs.map plW))∧Hid (∀ z ∈ zs,z.1<ps.length∧∃ y ∈ ys,z.2=y.2)∧zs.length≤j∧HoldG M w0 wr [.blk mb #[.slice vq zs.length vc,mk,.slice pp ps.length cp,.slice psl L.length csl,.slice none 0 0] 74,.row (.slice vq zs.length vc) 78 2 zs.length (flatR (zs.map wayC)),.kn Fp (InstsR Fp pp cp ps),.kn Fs (BytesR Fs psl csl L),.kn Fk (WaysK Fk ys),.row (.slice q0 n c0) 78 2 n (flatR (ys.map wayC)),.kn rF rS]) (fun ix _=>n+1 - (intOf ix).toNat)
 case atStart=>exact⟨0,lq,lc,[],by omega,rfl,Lib.hid rfl,Lib.hid (fun _ h=>by cases h),by simp,H⟩
 case round =>
  clear H
  obtain⟨j,vq,vc,zs,hj,rfl,ES,EZ,hzl,H⟩:=hrel
  by_cases hlt:j<n
  ·have dj:decide (j<n)=true:=decide_eq_true hlt
   have dj2:decide ((j:Int)<(n:Int))=true:=decide_eq_true (by omega)
   obtain⟨y,hy⟩:∃ y,ys[j]?=some y:=⟨_,List.getElem?_eq_getElem (by rw[HN.out];exact hlt)⟩
   have HYX:=Lib.hid (show (ys.map wayC)[j]?=some (wayC y) by rw[List.getElem?_map,hy];rfl)
   have hyp:(ys.map plW)[j]?=some (y.1,y.2.1):=by rw[List.getElem?_map,hy];rfl
   have hmem:=List.mem_of_getElem? hy
   obtain⟨hk,hkind⟩:=hin y hmem
   obtain⟨g0,rfl⟩:=hq0 (by omega)
   obtain⟨x,hx⟩:∃ x,ps[y.1]?=some x:=⟨_,List.getElem?_eq_getElem hk⟩
   have hat:=atI_get hx
   have hri:=right_get hR hx
   have hsx:=hset x (List.mem_of_getElem? hx)
   obtain⟨bp,op,hpp⟩:=(H.kn (i:=2) i_2).at (by omega)
   subst hpp
   have hcell:∀ V,InstsR Fp (some ⟨bp,op,none⟩) cp ps V→∀ q,q<9→V.cell? ⟨bp,op+y.1 * 9+q,none⟩=(instC x)[q]?:=fun V h=>h.cells hx rfl
   go_upto_region 6 with (first|((with_reducible refine gL ?_);refine own_loadK wtd_ _ _ rfl rfl row_Way (wayC_size y) (H.rowCell (i:=5) i_5 (waysX_size _) HYL.out HYX.out rfl) ?_)|((with_reducible refine gTw ?_);refine aTw H ?_;clear H;intro w H;simp only[List.set_cons_succ,List.set_cons_zero]at H)|((first|((with_reducible refine kgA 7 ?_);refine kA 7 H ?_)|((with_reducible refine kgX 7 ?_);(first|refine kS 7 H ?_|refine kB 7 H ?_)));clear H;intro b7 w H;try simp only[nrm,nrl,Value.cells]at H)|fail)
   refine wp_region_spec 9 [fun v _=>v=.pointer (some ⟨mb,0,none⟩),fun v _=>v=.pointer (some ⟨mb,0,none⟩),fun v _=>v=.pointer (some ⟨mb,2,none⟩),fun v _=>v=.slice (some ⟨bp,op,none⟩) ps.length cp,fun v _=>v=.pointer (some ⟨b7,0,none⟩),fun v _=>v=.int .i64 (y.1:Nat),fun v _=>v=.pointer (some ⟨bp,op+y.1 * 9,none⟩),fun v _=>v=instV x,FreshB w.heap.size (instC {kind:=0}) 64] (fun _=>false) (by kernel_rfl) (by kernel_rfl) (by kernel_rfl) (by repeat (first|exact trivial|refine⟨stable_eq _,?_⟩|refine⟨stable_fresh _ _ _,?_⟩)) (fun _ _ h=>by cases h) ?ob ?en
   case ob =>
    refine⟨?_,?_,?_,?_,?_,?_,?_,?_,?_,trivial⟩<;>intro A W h
    ·exact rs_move rfl rfl (h.frame 0 rfl) (by decide)
    ·(have e22:A.eval (.tmp 22)=.pointer (some ⟨mb,0,none⟩):=h.dep 0 22 rfl rfl;refine rs_pure rfl ?_ (by decide);simp only[execOp,e22];(simp[go_sem]<;>first|done|omega|(rw[IntKind.wrap_i64];omega)|(rw[IntKind.wrap_u8];omega)|(rw[IntKind.wrap_u64];omega)))
    ·(have e23:A.eval (.tmp 23)=.pointer (some ⟨mb,0,none⟩):=h.dep 1 23 rfl rfl;refine rs_pure rfl ?_ (by decide);simp only[execOp,e23];(simp[go_sem]<;>first|done|omega|(rw[IntKind.wrap_i64];omega)|(rw[IntKind.wrap_u8];omega)|(rw[IntKind.wrap_u64];omega)))
    ·exact rs_pure rfl (run_load1K rfl (h.dep 2 24 rfl rfl) one_insts ((H.call h.below).cell (i:=0) .zero 2)) (by decide)
    ·(have e7:A.eval (.tmp 7)=.pointer (some ⟨b7,0,none⟩):=h.frame 7 rfl;refine rs_pure rfl ?_ (by decide);simp only[execOp,e7];(simp[go_sem]<;>first|done|omega|(rw[IntKind.wrap_i64];omega)|(rw[IntKind.wrap_u8];omega)|(rw[IntKind.wrap_u64];omega)))
    ·exact rs_pure rfl (run_load1K rfl (h.dep 4 26 rfl rfl) one_int (((H.call h.below).cell (i:=7) i_7 0).trans (yg0 y))) (by decide)
    ·exact rs_idx (sz:=9) Try.underlying35 (fun w=>by kernel_rfl) rfl rfl (h.dep 3 25 rfl rfl) (h.dep 5 27 rfl rfl) hk rfl (by decide)
    ·exact rs_pure rfl (run_loadK rfl (h.dep 6 28 rfl rfl) row_Inst rfl (hcell _ ((H.call h.below).kn (i:=2) i_2))) (by decide)
    ·exact rs_fresh rfl rfl (by kernel_rfl) zInst h.below.size (by decide)
   case en =>
    intro vals W hbw hv _
    have v0:vals 0=_:=hv 0 (by omega)
    have v1:vals 1=_:=hv 1 (by omega)
    have v2:vals 2=_:=hv 2 (by omega)
    have v3:vals 3=_:=hv 3 (by omega)
    have v4:vals 4=_:=hv 4 (by omega)
    have v5:vals 5=_:=hv 5 (by omega)
    have v6:vals 6=_:=hv 6 (by omega)
    have v7:vals 7=_:=hv 7 (by omega)
    have x8:=hv 8 (by omega);simp only[lookS]at x8
    simp only[List.take_succ_cons,List.take_zero,List.drop_succ_cons,List.drop_zero,List.drop_nil,List.take_nil,fillAll,Nat.zero_add,Nat.reduceAdd]
    rw[v0,v1,v2,v3,v4,v5,v6,v7]
    clear hv v0 v1 v2 v3 v4 v5 v6 v7
    try simp only[pl]
    try simp only[pl]
    obtain⟨b8,e8,H8⟩:=H.gainB hbw x8
    rw[e8]
    clear x8 e8 H hbw
    have H:=H8;clear H8
    simp only[List.cons_append,List.nil_append]at H
    go_upto_region 7 with (first|((with_reducible refine gTi ?_);refine aTi H ?_;clear H;intro w H;try simp only[nrm,nrl,Value.cells]at H))
    by_cases k5:x.kind=5
    ·have d5:(x.kind == 5)=true:=by rw[beq_iff_eq];exact k5
     have E:=Lib.hid (stepP_hit ES.out hyp (by rw[hat];exact k5))
     clear hcell hyp hri hsx k5 hkind hx hat
     go_wp2_with (first|((with_reducible refine gL ?_);refine aGw1 H ?_)|((with_reducible refine gL ?_);refine aGi H ?_))
     go_ret
     rw[← hrF,← hrS]at H
     exact⟨.slice vq zs.length vc,zs,some y,E.out,EZ.out,fun y' h=>(by cases h;exact hmem),rfl,step_fin H (q:=6) i_6 (by decide) rfl⟩
    ·have d5:(x.kind == 5)=false:=by rw[beq_eq_false_iff_ne];exact k5
     have h1:x.kind=1:=by rw[hat]at hkind;exact hkind.resolve_right k5
     have hnx:=right_next hri (.inl h1)
     have hon:=fun b hb=>stepP_on ES.out hyp (by rw[hat];exact k5) b hb
     rw[hat]at hon
     by_cases hiL:i<L.length
     ·obtain⟨bs,os,hbs⟩:=(H.kn (i:=3) i_3).at (by omega)
      subst hbs
      have hha:=fun w=>set_Has x.set hsx (byt L i) (byt_lt L i) w
      cases hs:hasB x.set (byt L i) with
      | true =>
       rw[hs]at hha
       have E:=Lib.hid (hon true ⟨fun _=>rfl,fun _=>⟨hiL,hs⟩⟩)
       clear hon hcell hyp hri hsx k5 hkind hx hat hs h1
       go_upto_region 9 with (first|((with_reducible refine gL ?_);refine aGi H ?_))
       refine wp_region_spec 20 [fun v _=>v=.int .i64 (i:Nat),fun v _=>v=.pointer (some ⟨mb,0,none⟩),fun v _=>v=.pointer (some ⟨mb,0,none⟩),fun v _=>v=.pointer (some ⟨mb,3,none⟩),fun v _=>v=.slice (some ⟨bs,os,none⟩) L.length csl,fun v _=>v=.int .i64 ((L.length:Nat):Int),fun v _=>v=.bool true,fun v _=>v=.bool true,fun v _=>v=.pointer (some ⟨b8,1,none⟩),fun v _=>v=setV x.set,fun v _=>v=.pointer (some ⟨mb,0,none⟩),fun v _=>v=.pointer (some ⟨mb,0,none⟩),fun v _=>v=.pointer (some ⟨mb,3,none⟩),fun v _=>v=.slice (some ⟨bs,os,none⟩) L.length csl,fun v _=>v=.int .i64 (i:Nat),fun v _=>v=.pointer (some ⟨bs,os+i,none⟩),fun v _=>v=.int .u8 (byt L i),fun v _=>v=.bool true,fun v _=>v=.bool true,fun v _=>v=.bool true] (fun _=>false) (by kernel_rfl) (by kernel_rfl) (by kernel_rfl) (by repeat (first|exact trivial|refine⟨stable_eq _,?_⟩)) (fun _ _ h=>by cases h) ?ob ?en
       case ob =>
        refine⟨?_,?_,?_,?_,?_,?_,?_,?_,?_,?_,?_,?_,?_,?_,?_,?_,?_,?_,?_,?_,trivial⟩<;>intro A W h
        ·exact rs_move rfl rfl (h.frame 1 rfl) (by decide)
        ·exact rs_move rfl rfl (h.frame 0 rfl) (by decide)
        ·(have e38:A.eval (.tmp 38)=.pointer (some ⟨mb,0,none⟩):=h.dep 1 38 rfl rfl;refine rs_pure rfl ?_ (by decide);simp only[execOp,e38];(simp[go_sem]<;>first|done|omega|(rw[IntKind.wrap_i64];omega)|(rw[IntKind.wrap_u8];omega)|(rw[IntKind.wrap_u64];omega)))
        ·(have e39:A.eval (.tmp 39)=.pointer (some ⟨mb,0,none⟩):=h.dep 2 39 rfl rfl;refine rs_pure rfl ?_ (by decide);simp only[execOp,e39];(simp[go_sem]<;>first|done|omega|(rw[IntKind.wrap_i64];omega)|(rw[IntKind.wrap_u8];omega)|(rw[IntKind.wrap_u64];omega)))
        ·exact rs_pure rfl (run_load1K rfl (h.dep 3 40 rfl rfl) one_bytes ((H.call h.below).cell (i:=0) .zero 3)) (by decide)
        ·exact rs_len Try.underlying24 rfl rfl (h.dep 4 41 rfl rfl) (by decide)
        ·(have e37:A.eval (.tmp 37)=.int .i64 (i:Nat):=h.dep 0 37 rfl rfl;have e42:A.eval (.tmp 42)=.int .i64 ((L.length:Nat):Int):=h.dep 5 42 rfl rfl;refine rs_pure rfl ?_ (by decide);simp only[execOp,e37,e42];(simp[go_sem]<;>first|done|omega|(rw[IntKind.wrap_i64];omega)|(rw[IntKind.wrap_u8];omega)|(rw[IntKind.wrap_u64];omega)))
        ·exact rs_move rfl rfl (h.dep 6 43 rfl rfl) (by decide)
        ·(have e8:A.eval (.tmp 8)=.pointer (some ⟨b8,0,none⟩):=h.frame 8 rfl;refine rs_pure (wanted_g rfl (yielded_of (d:=44) rfl (h.dep 7 44 rfl rfl))) ?_ (by decide);simp only[execOp,e8];(simp[go_sem]<;>first|done|omega|(rw[IntKind.wrap_i64];omega)|(rw[IntKind.wrap_u8];omega)|(rw[IntKind.wrap_u64];omega)))
        ·exact rs_pure (wanted_g rfl (yielded_of (d:=44) rfl (h.dep 7 44 rfl rfl))) (run_loadK rfl (h.dep 8 45 rfl rfl) row_Set rfl (fun j hj=>by have h1:=(H.call h.below).cell (i:=8) i_8 (1+j);rcases j with _|_|_|_|j<;>first|exact h1|omega)) (by decide)
        ·exact rs_move (wanted_g rfl (yielded_of (d:=44) rfl (h.dep 7 44 rfl rfl))) rfl (h.frame 0 rfl) (by decide)
        ·(have e47:A.eval (.tmp 47)=.pointer (some ⟨mb,0,none⟩):=h.dep 10 47 rfl rfl;refine rs_pure (wanted_g rfl (yielded_of (d:=44) rfl (h.dep 7 44 rfl rfl))) ?_ (by decide);simp only[execOp,e47];(simp[go_sem]<;>first|done|omega|(rw[IntKind.wrap_i64];omega)|(rw[IntKind.wrap_u8];omega)|(rw[IntKind.wrap_u64];omega)))
        ·(have e48:A.eval (.tmp 48)=.pointer (some ⟨mb,0,none⟩):=h.dep 11 48 rfl rfl;refine rs_pure (wanted_g rfl (yielded_of (d:=44) rfl (h.dep 7 44 rfl rfl))) ?_ (by decide);simp only[execOp,e48];(simp[go_sem]<;>first|done|omega|(rw[IntKind.wrap_i64];omega)|(rw[IntKind.wrap_u8];omega)|(rw[IntKind.wrap_u64];omega)))
        ·exact rs_pure (wanted_g rfl (yielded_of (d:=44) rfl (h.dep 7 44 rfl rfl))) (run_load1K rfl (h.dep 12 49 rfl rfl) one_bytes ((H.call h.below).cell (i:=0) .zero 3)) (by decide)
        ·exact rs_move (wanted_g rfl (yielded_of (d:=44) rfl (h.dep 7 44 rfl rfl))) rfl (h.frame 1 rfl) (by decide)
        ·exact rs_idx (sz:=1) Try.underlying24 (fun w=>by kernel_rfl) (wanted_g rfl (yielded_of (d:=44) rfl (h.dep 7 44 rfl rfl))) rfl (h.dep 13 50 rfl rfl) (h.dep 14 51 rfl rfl) (by omega) (by omega) (by decide)
        ·exact rs_pure (wanted_g rfl (yielded_of (d:=44) rfl (h.dep 7 44 rfl rfl))) (run_load1K rfl (h.dep 15 52 rfl rfl) one_u8 (((H.call h.below).kn (i:=3) i_3).cell hiL)) (by decide)
        ·exact rs_calln (wanted_g rfl (yielded_of (d:=44) rfl (h.dep 7 44 rfl rfl))) rfl (enters_of Try.func48 (by kernel_rfl) rfl) (args2 ⟨(h.dep 9 46 rfl rfl),(h.dep 16 53 rfl rfl)⟩) (hha W) (by decide)
        ·exact rs_pick rfl rfl (h.dep 7 44 rfl rfl) (h.dep 17 54 rfl rfl) (by decide)
        ·exact rs_assign rfl rfl (h.dep 18 55 rfl rfl) (by decide)
       case en =>
        intro vals W9 hbw hv _
        have v0:vals 0=_:=hv 0 (by omega)
        have v1:vals 1=_:=hv 1 (by omega)
        have v2:vals 2=_:=hv 2 (by omega)
        have v3:vals 3=_:=hv 3 (by omega)
        have v4:vals 4=_:=hv 4 (by omega)
        have v5:vals 5=_:=hv 5 (by omega)
        have v6:vals 6=_:=hv 6 (by omega)
        have v7:vals 7=_:=hv 7 (by omega)
        have v8:vals 8=_:=hv 8 (by omega)
        have v9:vals 9=_:=hv 9 (by omega)
        have v10:vals 10=_:=hv 10 (by omega)
        have v11:vals 11=_:=hv 11 (by omega)
        have v12:vals 12=_:=hv 12 (by omega)
        have v13:vals 13=_:=hv 13 (by omega)
        have v14:vals 14=_:=hv 14 (by omega)
        have v15:vals 15=_:=hv 15 (by omega)
        have v16:vals 16=_:=hv 16 (by omega)
        have v17:vals 17=_:=hv 17 (by omega)
        have v18:vals 18=_:=hv 18 (by omega)
        have v19:vals 19=_:=hv 19 (by omega)
        simp only[List.take_succ_cons,List.take_zero,List.drop_succ_cons,List.drop_zero,List.drop_nil,List.take_nil,fillAll,Nat.zero_add,Nat.reduceAdd]
        rw[v0,v1,v2,v3,v4,v5,v6,v7,v8,v9,v10,v11,v12,v13,v14,v15,v16,v17,v18,v19]
        clear hv v0 v1 v2 v3 v4 v5 v6 v7 v8 v9 v10 v11 v12 v13 v14 v15 v16 v17 v18 v19
        try simp only[pl]
        try simp only[pl]
        have H:=H.call hbw
        go_upto_region 10 with fail
        refine wp_region_late 12 0 [fun v _=>v=.pointer (some ⟨mb,0,none⟩),fun v _=>v=.pointer (some ⟨mb,0,none⟩),fun v _=>v=.pointer (some ⟨mb,0,none⟩),fun v _=>v=.pointer (some ⟨mb,0,none⟩),fun v _=>v=.pointer (some ⟨mb,0,none⟩),fun v _=>v=.slice vq zs.length vc,fun v _=>v=.pointer (some ⟨b8,5,none⟩),fun v _=>v=.int .i64 x.next,fun v _=>v=.pointer (some ⟨b7,1,none⟩),fun v _=>v=.slice y.2.2.1 y.2.1.length y.2.2.2,fun v _=>v=.agg (wayC (x.next.toNat,y.2)),FreshS W9.heap.size (wayC (x.next.toNat,y.2)) 78] (fun _=>false) (by kernel_rfl) (by kernel_rfl) (by kernel_rfl) (by repeat (first|exact trivial|refine⟨stable_eq _,?_⟩|refine⟨stable_freshS _ _ _,?_⟩)) (fun _ _ h=>by cases h) ?ob ?en ?en2
        case ob =>
         refine⟨?_,?_,?_,?_,?_,?_,?_,?_,?_,?_,?_,?_,trivial⟩<;>intro A W h
         ·exact rs_move rfl rfl (h.frame 0 rfl) (by decide)
         ·exact rs_move rfl rfl (h.frame 0 rfl) (by decide)
         ·(have e57:A.eval (.tmp 57)=.pointer (some ⟨mb,0,none⟩):=h.dep 1 57 rfl rfl;refine rs_pure rfl ?_ (by decide);simp only[execOp,e57];(simp[go_sem]<;>first|done|omega|(rw[IntKind.wrap_i64];omega)|(rw[IntKind.wrap_u8];omega)|(rw[IntKind.wrap_u64];omega)))
         ·(have e58:A.eval (.tmp 58)=.pointer (some ⟨mb,0,none⟩):=h.dep 2 58 rfl rfl;refine rs_pure rfl ?_ (by decide);simp only[execOp,e58];(simp[go_sem]<;>first|done|omega|(rw[IntKind.wrap_i64];omega)|(rw[IntKind.wrap_u8];omega)|(rw[IntKind.wrap_u64];omega)))
         ·(have e59:A.eval (.tmp 59)=.pointer (some ⟨mb,0,none⟩):=h.dep 3 59 rfl rfl;refine rs_pure rfl ?_ (by decide);simp only[execOp,e59];(simp[go_sem]<;>first|done|omega|(rw[IntKind.wrap_i64];omega)|(rw[IntKind.wrap_u8];omega)|(rw[IntKind.wrap_u64];omega)))
         ·exact rs_pure rfl (run_load1K rfl (h.dep 4 60 rfl rfl) one_ways ((H.call h.below).cell (i:=0) .zero 0)) (by decide)
         ·(have e8:A.eval (.tmp 8)=.pointer (some ⟨b8,0,none⟩):=h.frame 8 rfl;refine rs_pure rfl ?_ (by decide);simp only[execOp,e8];(simp[go_sem]<;>first|done|omega|(rw[IntKind.wrap_i64];omega)|(rw[IntKind.wrap_u8];omega)|(rw[IntKind.wrap_u64];omega)))
         ·exact rs_pure rfl (run_load1K rfl (h.dep 6 62 rfl rfl) one_int (((H.call h.below).cell (i:=8) i_8 5).trans (ig5 x))) (by decide)
         ·(have e7:A.eval (.tmp 7)=.pointer (some ⟨b7,0,none⟩):=h.frame 7 rfl;refine rs_pure rfl ?_ (by decide);simp only[execOp,e7];(simp[go_sem]<;>first|done|omega|(rw[IntKind.wrap_i64];omega)|(rw[IntKind.wrap_u8];omega)|(rw[IntKind.wrap_u64];omega)))
         ·exact rs_pure rfl (run_load1K rfl (h.dep 8 64 rfl rfl) one_ints (((H.call h.below).cell (i:=7) i_7 1).trans (yg1 y))) (by decide)
         ·exact rs_pure rfl (run_wayB rfl (h.dep 7 63 rfl rfl) (h.dep 9 65 rfl rfl) hnx.1) (by decide)
         ·exact rs_way1 rfl rfl (h.dep 10 66 rfl rfl) h.below.size (by decide)
        case en =>
         intro vals W hbw hv _
         have v0:vals 0=_:=hv 0 (by omega)
         have v1:vals 1=_:=hv 1 (by omega)
         have v2:vals 2=_:=hv 2 (by omega)
         have v3:vals 3=_:=hv 3 (by omega)
         have v4:vals 4=_:=hv 4 (by omega)
         have v5:vals 5=_:=hv 5 (by omega)
         have v6:vals 6=_:=hv 6 (by omega)
         have v7:vals 7=_:=hv 7 (by omega)
         have v8:vals 8=_:=hv 8 (by omega)
         have v9:vals 9=_:=hv 9 (by omega)
         have v10:vals 10=_:=hv 10 (by omega)
         have x11:=hv 11 (by omega);simp only[lookS]at x11
         simp only[List.take_succ_cons,List.take_zero,List.drop_succ_cons,List.drop_zero,List.drop_nil,List.take_nil,fillAll,Nat.zero_add,Nat.reduceAdd]
         rw[v0,v1,v2,v3,v4,v5,v6,v7,v8,v9,v10]
         clear hv v0 v1 v2 v3 v4 v5 v6 v7 v8 v9 v10
         try simp only[pl]
         try simp only[pl]
         obtain⟨bk,e11,H8⟩:=H.gainS2 hbw x11
         rw[e11]
         clear x11 e11 H hbw
         have H:=H8;clear H8
         simp only[List.cons_append,List.nil_append]at H
         go_wp2_with (first|(at_builtin;refine own_append rfl _ _ 70 rfl H (i:=1) (j:=9) evd_ rfl i_1 i_9 Try.underlying70 hiw hw0 hw1 hw2 rfl (by decide) rfl rfl (by unfold maxLen;omega) (by omega) ?_;clear H;intro v2 w H;(try simp only[nrm,nrl,Value.cells]at H);(obtain⟨q2,c2,rfl,_,_,_⟩:=H.rowShape (i:=1) i_1))|((with_reducible refine gT ?_);refine own_store1 wtd_ _ _ _ rfl rfl evd_ H (i:=0) .zero rfl (by show 0<5;omega) (one_size one_ways) ?_;clear H;intro w H;simp only[List.set_cons_succ,List.set_cons_zero]at H)|fail)
         rw[flatW_put,show zs.length+1=(zs++[((x.next.toNat,y.2):WV)]).length by simp]at H
         go_roundw
         case rel=>exact⟨j+1,q2,c2,zs++[((x.next.toNat,y.2):WV)],by omega,by go_num,Lib.hid (by rw[E.out,List.map_append];rfl),Lib.hid (fun z hz=>(List.mem_append.1 hz).elim (EZ.out z) (fun h=>by rw[List.mem_singleton]at h;subst h;exact⟨by show x.next.toNat<_;omega,y,hmem,rfl⟩)),by simp;omega,H.pick [0,1,2,3,4,5,6] _ (by decide) rfl⟩
         case measure=>simp[intOf];omega
        case en2 =>
         intro vals W hbw hv _
         have v1:vals 1=_:=hv 1 (by omega) (by omega)
         have v2:vals 2=_:=hv 2 (by omega) (by omega)
         have v3:vals 3=_:=hv 3 (by omega) (by omega)
         have v4:vals 4=_:=hv 4 (by omega) (by omega)
         have v5:vals 5=_:=hv 5 (by omega) (by omega)
         have v6:vals 6=_:=hv 6 (by omega) (by omega)
         have v7:vals 7=_:=hv 7 (by omega) (by omega)
         have v8:vals 8=_:=hv 8 (by omega) (by omega)
         have v9:vals 9=_:=hv 9 (by omega) (by omega)
         have v10:vals 10=_:=hv 10 (by omega) (by omega)
         have x11:=hv 11 (by omega) (by omega);simp only[lookS]at x11
         simp only[List.take_succ_cons,List.take_zero,List.drop_succ_cons,List.drop_zero,List.drop_nil,List.take_nil,fillBut,lateL,List.cons_append,List.nil_append,Nat.reduceEqDiff,if_true,if_false,reduceCtorEq,Nat.zero_add,Nat.reduceAdd]
         rw[v1,v2,v3,v4,v5,v6,v7,v8,v9,v10]
         clear hv v1 v2 v3 v4 v5 v6 v7 v8 v9 v10
         try simp only[pl]
         try simp only[pl]
         obtain⟨bk,e11,H8⟩:=H.gainS2 hbw x11
         rw[e11]
         clear x11 e11 H hbw
         have H:=H8;clear H8
         simp only[List.cons_append,List.nil_append]at H
         go_wp2_with (first|(at_builtin;refine own_append rfl _ _ 70 rfl H (i:=1) (j:=9) evd_ rfl i_1 i_9 Try.underlying70 hiw hw0 hw1 hw2 rfl (by decide) rfl rfl (by unfold maxLen;omega) (by omega) ?_;clear H;intro v2 w H;(try simp only[nrm,nrl,Value.cells]at H);(obtain⟨q2,c2,rfl,_,_,_⟩:=H.rowShape (i:=1) i_1))|((with_reducible refine gT ?_);refine own_store1 wtd_ _ _ _ rfl rfl evd_ H (i:=0) .zero rfl (by show 0<5;omega) (one_size one_ways) ?_;clear H;intro w H;simp only[List.set_cons_succ,List.set_cons_zero]at H)|fail)
         rw[flatW_put,show zs.length+1=(zs++[((x.next.toNat,y.2):WV)]).length by simp]at H
         go_roundw
         case rel=>exact⟨j+1,q2,c2,zs++[((x.next.toNat,y.2):WV)],by omega,by go_num,Lib.hid (by rw[E.out,List.map_append];rfl),Lib.hid (fun z hz=>(List.mem_append.1 hz).elim (EZ.out z) (fun h=>by rw[List.mem_singleton]at h;subst h;exact⟨by show x.next.toNat<_;omega,y,hmem,rfl⟩)),by simp;omega,H.pick [0,1,2,3,4,5,6] _ (by decide) rfl⟩
         case measure=>simp[intOf];omega
      | false =>
       rw[hs]at hha
       have E:=Lib.hid (hon false ⟨fun h=>(by rw[hs]at h;exact absurd h.2 (by decide)),fun h=>by cases h⟩)
       clear hon hcell hyp hri hsx k5 hkind hx hat hs h1
       go_upto_region 9 with (first|((with_reducible refine gL ?_);refine aGi H ?_))
       refine wp_region_spec 20 [fun v _=>v=.int .i64 (i:Nat),fun v _=>v=.pointer (some ⟨mb,0,none⟩),fun v _=>v=.pointer (some ⟨mb,0,none⟩),fun v _=>v=.pointer (some ⟨mb,3,none⟩),fun v _=>v=.slice (some ⟨bs,os,none⟩) L.length csl,fun v _=>v=.int .i64 ((L.length:Nat):Int),fun v _=>v=.bool true,fun v _=>v=.bool true,fun v _=>v=.pointer (some ⟨b8,1,none⟩),fun v _=>v=setV x.set,fun v _=>v=.pointer (some ⟨mb,0,none⟩),fun v _=>v=.pointer (some ⟨mb,0,none⟩),fun v _=>v=.pointer (some ⟨mb,3,none⟩),fun v _=>v=.slice (some ⟨bs,os,none⟩) L.length csl,fun v _=>v=.int .i64 (i:Nat),fun v _=>v=.pointer (some ⟨bs,os+i,none⟩),fun v _=>v=.int .u8 (byt L i),fun v _=>v=.bool false,fun v _=>v=.bool false,fun v _=>v=.bool false] (fun _=>false) (by kernel_rfl) (by kernel_rfl) (by kernel_rfl) (by repeat (first|exact trivial|refine⟨stable_eq _,?_⟩)) (fun _ _ h=>by cases h) ?ob ?en
       case ob =>
        refine⟨?_,?_,?_,?_,?_,?_,?_,?_,?_,?_,?_,?_,?_,?_,?_,?_,?_,?_,?_,?_,trivial⟩<;>intro A W h
        ·exact rs_move rfl rfl (h.frame 1 rfl) (by decide)
        ·exact rs_move rfl rfl (h.frame 0 rfl) (by decide)
        ·(have e38:A.eval (.tmp 38)=.pointer (some ⟨mb,0,none⟩):=h.dep 1 38 rfl rfl;refine rs_pure rfl ?_ (by decide);simp only[execOp,e38];(simp[go_sem]<;>first|done|omega|(rw[IntKind.wrap_i64];omega)|(rw[IntKind.wrap_u8];omega)|(rw[IntKind.wrap_u64];omega)))
        ·(have e39:A.eval (.tmp 39)=.pointer (some ⟨mb,0,none⟩):=h.dep 2 39 rfl rfl;refine rs_pure rfl ?_ (by decide);simp only[execOp,e39];(simp[go_sem]<;>first|done|omega|(rw[IntKind.wrap_i64];omega)|(rw[IntKind.wrap_u8];omega)|(rw[IntKind.wrap_u64];omega)))
        ·exact rs_pure rfl (run_load1K rfl (h.dep 3 40 rfl rfl) one_bytes ((H.call h.below).cell (i:=0) .zero 3)) (by decide)
        ·exact rs_len Try.underlying24 rfl rfl (h.dep 4 41 rfl rfl) (by decide)
        ·(have e37:A.eval (.tmp 37)=.int .i64 (i:Nat):=h.dep 0 37 rfl rfl;have e42:A.eval (.tmp 42)=.int .i64 ((L.length:Nat):Int):=h.dep 5 42 rfl rfl;refine rs_pure rfl ?_ (by decide);simp only[execOp,e37,e42];(simp[go_sem]<;>first|done|omega|(rw[IntKind.wrap_i64];omega)|(rw[IntKind.wrap_u8];omega)|(rw[IntKind.wrap_u64];omega)))
        ·exact rs_move rfl rfl (h.dep 6 43 rfl rfl) (by decide)
        ·(have e8:A.eval (.tmp 8)=.pointer (some ⟨b8,0,none⟩):=h.frame 8 rfl;refine rs_pure (wanted_g rfl (yielded_of (d:=44) rfl (h.dep 7 44 rfl rfl))) ?_ (by decide);simp only[execOp,e8];(simp[go_sem]<;>first|done|omega|(rw[IntKind.wrap_i64];omega)|(rw[IntKind.wrap_u8];omega)|(rw[IntKind.wrap_u64];omega)))
        ·exact rs_pure (wanted_g rfl (yielded_of (d:=44) rfl (h.dep 7 44 rfl rfl))) (run_loadK rfl (h.dep 8 45 rfl rfl) row_Set rfl (fun j hj=>by have h1:=(H.call h.below).cell (i:=8) i_8 (1+j);rcases j with _|_|_|_|j<;>first|exact h1|omega)) (by decide)
        ·exact rs_move (wanted_g rfl (yielded_of (d:=44) rfl (h.dep 7 44 rfl rfl))) rfl (h.frame 0 rfl) (by decide)
        ·(have e47:A.eval (.tmp 47)=.pointer (some ⟨mb,0,none⟩):=h.dep 10 47 rfl rfl;refine rs_pure (wanted_g rfl (yielded_of (d:=44) rfl (h.dep 7 44 rfl rfl))) ?_ (by decide);simp only[execOp,e47];(simp[go_sem]<;>first|done|omega|(rw[IntKind.wrap_i64];omega)|(rw[IntKind.wrap_u8];omega)|(rw[IntKind.wrap_u64];omega)))
        ·(have e48:A.eval (.tmp 48)=.pointer (some ⟨mb,0,none⟩):=h.dep 11 48 rfl rfl;refine rs_pure (wanted_g rfl (yielded_of (d:=44) rfl (h.dep 7 44 rfl rfl))) ?_ (by decide);simp only[execOp,e48];(simp[go_sem]<;>first|done|omega|(rw[IntKind.wrap_i64];omega)|(rw[IntKind.wrap_u8];omega)|(rw[IntKind.wrap_u64];omega)))
        ·exact rs_pure (wanted_g rfl (yielded_of (d:=44) rfl (h.dep 7 44 rfl rfl))) (run_load1K rfl (h.dep 12 49 rfl rfl) one_bytes ((H.call h.below).cell (i:=0) .zero 3)) (by decide)
        ·exact rs_move (wanted_g rfl (yielded_of (d:=44) rfl (h.dep 7 44 rfl rfl))) rfl (h.frame 1 rfl) (by decide)
        ·exact rs_idx (sz:=1) Try.underlying24 (fun w=>by kernel_rfl) (wanted_g rfl (yielded_of (d:=44) rfl (h.dep 7 44 rfl rfl))) rfl (h.dep 13 50 rfl rfl) (h.dep 14 51 rfl rfl) (by omega) (by omega) (by decide)
        ·exact rs_pure (wanted_g rfl (yielded_of (d:=44) rfl (h.dep 7 44 rfl rfl))) (run_load1K rfl (h.dep 15 52 rfl rfl) one_u8 (((H.call h.below).kn (i:=3) i_3).cell hiL)) (by decide)
        ·exact rs_calln (wanted_g rfl (yielded_of (d:=44) rfl (h.dep 7 44 rfl rfl))) rfl (enters_of Try.func48 (by kernel_rfl) rfl) (args2 ⟨(h.dep 9 46 rfl rfl),(h.dep 16 53 rfl rfl)⟩) (hha W) (by decide)
        ·exact rs_pick rfl rfl (h.dep 7 44 rfl rfl) (h.dep 17 54 rfl rfl) (by decide)
        ·exact rs_assign rfl rfl (h.dep 18 55 rfl rfl) (by decide)
       case en =>
        intro vals W hbw hv _
        have v0:vals 0=_:=hv 0 (by omega)
        have v1:vals 1=_:=hv 1 (by omega)
        have v2:vals 2=_:=hv 2 (by omega)
        have v3:vals 3=_:=hv 3 (by omega)
        have v4:vals 4=_:=hv 4 (by omega)
        have v5:vals 5=_:=hv 5 (by omega)
        have v6:vals 6=_:=hv 6 (by omega)
        have v7:vals 7=_:=hv 7 (by omega)
        have v8:vals 8=_:=hv 8 (by omega)
        have v9:vals 9=_:=hv 9 (by omega)
        have v10:vals 10=_:=hv 10 (by omega)
        have v11:vals 11=_:=hv 11 (by omega)
        have v12:vals 12=_:=hv 12 (by omega)
        have v13:vals 13=_:=hv 13 (by omega)
        have v14:vals 14=_:=hv 14 (by omega)
        have v15:vals 15=_:=hv 15 (by omega)
        have v16:vals 16=_:=hv 16 (by omega)
        have v17:vals 17=_:=hv 17 (by omega)
        have v18:vals 18=_:=hv 18 (by omega)
        have v19:vals 19=_:=hv 19 (by omega)
        simp only[List.take_succ_cons,List.take_zero,List.drop_succ_cons,List.drop_zero,List.drop_nil,List.take_nil,fillAll,Nat.zero_add,Nat.reduceAdd]
        rw[v0,v1,v2,v3,v4,v5,v6,v7,v8,v9,v10,v11,v12,v13,v14,v15,v16,v17,v18,v19]
        clear hv v0 v1 v2 v3 v4 v5 v6 v7 v8 v9 v10 v11 v12 v13 v14 v15 v16 v17 v18 v19
        try simp only[pl]
        try simp only[pl]
        have H:=H.call hbw
        go_wp2_with (first|fail)
        go_roundw
        case rel=>exact⟨j+1,vq,vc,zs,by omega,by go_num,Lib.hid E.out,EZ,by omega,H.pick [0,1,2,3,4,5,6] _ (by decide) rfl⟩
        case measure=>simp[intOf];omega
     ·have E:=Lib.hid (hon false ⟨fun h=>absurd h.1 hiL,fun h=>by cases h⟩)
      have hiE2:L.length≤i:=by omega
      have di:=decide_eq_false hiL
      clear hon hcell hyp hri hsx k5 hkind hx hat h1 hiL
      go_upto_region 9 with (first|((with_reducible refine gL ?_);refine aGi H ?_))
      refine wp_region_spec 20 [fun v _=>v=.int .i64 (i:Nat),fun v _=>v=.pointer (some ⟨mb,0,none⟩),fun v _=>v=.pointer (some ⟨mb,0,none⟩),fun v _=>v=.pointer (some ⟨mb,3,none⟩),fun v _=>v=.slice psl L.length csl,fun v _=>v=.int .i64 ((L.length:Nat):Int),fun v _=>v=.bool false,fun v _=>v=.bool false,fun v _=>v=undef,fun v _=>v=undef,fun v _=>v=undef,fun v _=>v=undef,fun v _=>v=undef,fun v _=>v=undef,fun v _=>v=undef,fun v _=>v=undef,fun v _=>v=undef,fun v _=>v=undef,fun v _=>v=Value.bool false,fun v _=>v=Value.bool false] (fun _=>false) (by kernel_rfl) (by kernel_rfl) (by kernel_rfl) (by repeat (first|exact trivial|refine⟨stable_eq _,?_⟩)) (fun _ _ h=>by cases h) ?ob ?en
      case ob =>
       refine⟨?_,?_,?_,?_,?_,?_,?_,?_,?_,?_,?_,?_,?_,?_,?_,?_,?_,?_,?_,?_,trivial⟩<;>intro A W h
       ·exact rs_move rfl rfl (h.frame 1 rfl) (by decide)
       ·exact rs_move rfl rfl (h.frame 0 rfl) (by decide)
       ·(have e38:A.eval (.tmp 38)=.pointer (some ⟨mb,0,none⟩):=h.dep 1 38 rfl rfl;refine rs_pure rfl ?_ (by decide);simp only[execOp,e38];(simp[go_sem]<;>first|done|omega|(rw[IntKind.wrap_i64];omega)|(rw[IntKind.wrap_u8];omega)|(rw[IntKind.wrap_u64];omega)))
       ·(have e39:A.eval (.tmp 39)=.pointer (some ⟨mb,0,none⟩):=h.dep 2 39 rfl rfl;refine rs_pure rfl ?_ (by decide);simp only[execOp,e39];(simp[go_sem]<;>first|done|omega|(rw[IntKind.wrap_i64];omega)|(rw[IntKind.wrap_u8];omega)|(rw[IntKind.wrap_u64];omega)))
       ·exact rs_pure rfl (run_load1K rfl (h.dep 3 40 rfl rfl) one_bytes ((H.call h.below).cell (i:=0) .zero 3)) (by decide)
       ·exact rs_len Try.underlying24 rfl rfl (h.dep 4 41 rfl rfl) (by decide)
       ·(have e37:A.eval (.tmp 37)=.int .i64 (i:Nat):=h.dep 0 37 rfl rfl;have e42:A.eval (.tmp 42)=.int .i64 ((L.length:Nat):Int):=h.dep 5 42 rfl rfl;refine rs_pure rfl ?_ (by decide);simp only[execOp,e37,e42];(simp[go_sem]<;>first|done|omega|(rw[IntKind.wrap_i64];omega)|(rw[IntKind.wrap_u8];omega)|(rw[IntKind.wrap_u64];omega)))
       ·exact rs_move rfl rfl (h.dep 6 43 rfl rfl) (by decide)
       ·exact rs_skip (not_wanted_g rfl (yielded_of (d:=44) rfl (h.dep 7 44 rfl rfl)) (by decide)) ⟨rfl,fun h=>by cases h⟩
       ·exact rs_skip (not_wanted_g rfl (yielded_of (d:=44) rfl (h.dep 7 44 rfl rfl)) (by decide)) ⟨rfl,fun h=>by cases h⟩
       ·exact rs_skip (not_wanted_g rfl (yielded_of (d:=44) rfl (h.dep 7 44 rfl rfl)) (by decide)) ⟨rfl,fun h=>by cases h⟩
       ·exact rs_skip (not_wanted_g rfl (yielded_of (d:=44) rfl (h.dep 7 44 rfl rfl)) (by decide)) ⟨rfl,fun h=>by cases h⟩
       ·exact rs_skip (not_wanted_g rfl (yielded_of (d:=44) rfl (h.dep 7 44 rfl rfl)) (by decide)) ⟨rfl,fun h=>by cases h⟩
       ·exact rs_skip (not_wanted_g rfl (yielded_of (d:=44) rfl (h.dep 7 44 rfl rfl)) (by decide)) ⟨rfl,fun h=>by cases h⟩
       ·exact rs_skip (not_wanted_g rfl (yielded_of (d:=44) rfl (h.dep 7 44 rfl rfl)) (by decide)) ⟨rfl,fun h=>by cases h⟩
       ·exact rs_skip (not_wanted_g rfl (yielded_of (d:=44) rfl (h.dep 7 44 rfl rfl)) (by decide)) ⟨rfl,fun h=>by cases h⟩
       ·exact rs_skip (not_wanted_g rfl (yielded_of (d:=44) rfl (h.dep 7 44 rfl rfl)) (by decide)) ⟨rfl,fun h=>by cases h⟩
       ·exact rs_skip (not_wanted_g rfl (yielded_of (d:=44) rfl (h.dep 7 44 rfl rfl)) (by decide)) ⟨rfl,fun h=>by cases h⟩
       ·exact rs_pick rfl rfl (h.dep 7 44 rfl rfl) (rfl) (by decide)
       ·exact rs_assign rfl rfl (h.dep 18 55 rfl rfl) (by decide)
      case en =>
       intro vals W hbw hv _
       have v0:vals 0=_:=hv 0 (by omega)
       have v1:vals 1=_:=hv 1 (by omega)
       have v2:vals 2=_:=hv 2 (by omega)
       have v3:vals 3=_:=hv 3 (by omega)
       have v4:vals 4=_:=hv 4 (by omega)
       have v5:vals 5=_:=hv 5 (by omega)
       have v6:vals 6=_:=hv 6 (by omega)
       have v7:vals 7=_:=hv 7 (by omega)
       have v8:vals 8=_:=hv 8 (by omega)
       have v9:vals 9=_:=hv 9 (by omega)
       have v10:vals 10=_:=hv 10 (by omega)
       have v11:vals 11=_:=hv 11 (by omega)
       have v12:vals 12=_:=hv 12 (by omega)
       have v13:vals 13=_:=hv 13 (by omega)
       have v14:vals 14=_:=hv 14 (by omega)
       have v15:vals 15=_:=hv 15 (by omega)
       have v16:vals 16=_:=hv 16 (by omega)
       have v17:vals 17=_:=hv 17 (by omega)
       have v18:vals 18=_:=hv 18 (by omega)
       have v19:vals 19=_:=hv 19 (by omega)
       simp only[List.take_succ_cons,List.take_zero,List.drop_succ_cons,List.drop_zero,List.drop_nil,List.take_nil,fillAll,Nat.zero_add,Nat.reduceAdd]
       rw[v0,v1,v2,v3,v4,v5,v6,v7,v8,v9,v10,v11,v12,v13,v14,v15,v16,v17,v18,v19]
       clear hv v0 v1 v2 v3 v4 v5 v6 v7 v8 v9 v10 v11 v12 v13 v14 v15 v16 v17 v18 v19
       try simp only[pl]
       try simp only[pl]
       have H:=H.call hbw
       go_wp2_with (first|fail)
       go_roundw
       case rel=>exact⟨j+1,vq,vc,zs,by omega,by go_num,Lib.hid E.out,EZ,by omega,H.pick [0,1,2,3,4,5,6] _ (by decide) rfl⟩
       case measure=>simp[intOf];omega
  ·have hjn:j=n:=by omega
   have dj:decide (j<n)=false:=decide_eq_false hlt
   have dj2:decide ((j:Int)<(n:Int))=false:=decide_eq_false (by omega)
   have E:=ES.out
   rw[List.take_of_length_le (by rw[List.length_map,HN.out];omega)]at E
   have E:=Lib.hid E
   clear hjn
   go_wp2_with (first|fail)
   go_ret
   rw[← hrF,← hrS]at H
   exact⟨.slice vq zs.length vc,zs,none,E.out,EZ.out,fun y' h=>(by cases h),rfl,step_fin H (q:=6) i_6 (by decide) rfl⟩
theorem maskN (a:Nat) (ha:a<1000):bits .and .u64 (a:Int) 4294967295=(a:Int):=by
 have h:=bits_and_u64_nat a 4294967295 (by omega) (by omega)
 have e:a &&& 4294967295=a % 4294967296:=Nat.and_two_pow_sub_one_eq_mod a 32
 rw[e,Nat.mod_eq_of_lt (by omega)]at h
 exact h
theorem mask1:bits .and .u64 (1:Int) 4294967295=1:=maskN 1 (by omega)
theorem mask0:bits .and .u64 (0:Int) 4294967295=0:=maskN 0 (by omega)
theorem divN (a:Nat) (ha:a<1000):(a:Int) / 4294967296=0:=by omega
theorem wrapN (a:Nat) (ha:a<1000):IntKind.u64.wrap (a:Int)=(a:Int):=by rw[IntKind.wrap_u64];omega
theorem wrap0:IntKind.u64.wrap 0=0:=rfl
theorem bits_Mul64 (n:Nat) (hn:n<1000) (w:World):Calls Try.prog 75 #[.int .u64 1,.int .u64 n] w fun e w'=>e=.returned (.tuple #[.int .u64 0,.int .u64 n])∧w'=w:=by
 go_enter Try.func75,Try.ntmps75
 go_wp2
 simp only[maskN n hn,mask1,mask0,divN n hn,wrapN n hn,wrap0,Int.one_mul,Int.zero_mul,Int.mul_zero,Int.add_zero,Int.zero_add,Int.reduceDiv,Int.reduceMul,Int.reduceAdd]
 go_ret2
 exact⟨rfl,rfl⟩
theorem bits_Mul (n:Nat) (hn:n<1000) (w:World):Calls Try.prog 45 #[.int .u64 1,.int .u64 n] w fun e w'=>e=.returned (.tuple #[.int .u64 0,.int .u64 n])∧w'=w:=by
 have c64:=bits_Mul64 n hn w
 go_enter Try.func45,Try.ntmps45
 go_wp2_with (go_at_call 75;refine c64.mono ?_;rintro e w' ⟨rfl,hw⟩;rw[hw])
 go_ret2
 exact⟨rfl,rfl⟩
theorem setRow_grown (W:World) (b:Nat) (cs:Array Value):W.grownBy (W.setRow b cs) (some b):=by
 refine⟨rfl,rfl,rfl,by simp[World.setRow],fun j hj hne=>setRow_other W b j cs (fun e=>hne (by rw[e]))⟩
theorem own_copyX {P:Program} {ops:Array Oper} {rest:List Oper} {o:Oper} {a:Act} {w w0:World} {Q:Exit→Act→World→Prop} {l:List Res} {M:Nat→Prop} (hgd:o.guard=none) (d s:Operand) (dT sT:TypeId)
  (ho:o.op=.call {callee:=.builtin .copy,args:=#[d,s],argTypes:=#[dT,sT]}) {e:TypeId} (hu:P.underlying dT=some (.slice e)) (hsz:(P.info? e).map (·.size)=some 1)
  {g off dLen dCap sLen sCap:Nat} {ad:Addr} (hd:a.eval d=.slice (some ⟨g,off,none⟩) dLen dCap) (hs:a.eval s=.slice (some ad) sLen sCap) (H:HoldG M w0 w l) {j n cap:Nat} {xs:List Value}
  (hi:At l j (.row (.slice (some ⟨g,0,none⟩) n cap) e 1 n xs)) (hl:xs.length=n) (cs:List Value) (hn:cs.length=Nat.min sLen dLen) (hsrc:∀ k v,cs[k]?=some v→w.cell? (ad.add k)=some v) (hfit:off+cs.length≤n) (h1:∀ v ∈ cs,v.oneCell'=true)
  (h:∀ w',HoldG M w0 w' (l.set j (.row (.slice (some ⟨g,0,none⟩) n cap) e 1 n (xs.take off++(cs++xs.drop (off+cs.length)))))→wpList P ops Q rest (a.put o.dst (goInt cs.length)) w'):wpList P ops Q (o::rest) a w:=by
 obtain⟨hlen,⟨hv',_⟩|⟨g',cap',cur,hv',hb,hg',hn',hc,hsz',ht⟩⟩:=H.all j _ hi.get
 ·cases hv'
 ·cases hv'
  refine wpList_copy_own hgd d s dT sT ho e hu hsz g off dLen dCap ad sLen sCap hd hs cur e hg' cs hn hsrc (by omega) h1 ?_
  refine h _ (H.upd hi.get (setRow_grown w g _) ⟨?_,.inr ⟨g,cap,_,rfl,hb,setRow_heap w g _ _ e _ hg',hn',hc,?_,?_⟩⟩ (fun _ e=>.inl e))
  ·simp;omega
  ·simp;omega
  ·simp only[Nat.mul_one]at ht ⊢
   rw[← ht]
   apply List.ext_getElem?
   intro k
   simp only[List.getElem?_append,List.getElem?_take,List.getElem?_drop,List.length_take,List.length_drop,Array.length_toList]
   split<;>split<;>(try split)<;>(try split)<;>(try split)<;>(try split)<;>first|rfl|omega|(congr 1;omega)|(symm;apply List.getElem?_eq_none;simp;omega)|skip
def rpt (v:Int) (j n:Nat):List Value:=List.replicate j (.int .i64 v)++List.replicate (n - j) (.int .i64 0)
theorem rpt_length {v:Int} {j n:Nat} (h:j≤n):(rpt v j n).length=n:=by simp[rpt];omega
theorem rpt_take {v:Int} {j n k:Nat} (h:k≤j):(rpt v j n).take k=List.replicate k (.int .i64 v):=by
 unfold rpt
 rw[List.take_append_of_le_length (by simpa using h),List.take_replicate,Nat.min_eq_left h]
theorem rpt_drop {v:Int} {j n k:Nat} (h:j≤k):(rpt v j n).drop k=List.replicate (n - k) (.int .i64 0):=by
 unfold rpt
 rw[List.drop_append,List.drop_of_length_le (by simpa using h),List.drop_replicate,List.nil_append]
 congr 1;simp;omega
theorem rpt_copy {v:Int} {j n:Nat} (h:j≤n) (m:Nat) (hm:j+m≤n):(rpt v j n).take j++(List.replicate m (.int .i64 v)++(rpt v j n).drop (j+m))=rpt v (j+m) n:=by
 rw[rpt_take (Nat.le_refl _),rpt_drop (by omega),← List.append_assoc,List.replicate_append_replicate]
 rfl
theorem IntsR.cell {F:Nat→Prop} {b off c:Nat} {xs:List Int} {W:World} (h:IntsR F (some ⟨b,off,none⟩) c xs W) {j:Nat} (hj:j<xs.length):W.cell? ⟨b,off+j,none⟩=some (.int .i64 xs[j]):=by
 obtain⟨p',c',e,_,_,_,h3⟩:=h
 obtain⟨b',off',e2,_,_,h4⟩:=h3 j #[.int .i64 xs[j]] (by rw[List.getElem?_map,List.getElem?_eq_getElem hj];rfl)
 simp only[Value.slice.injEq]at e
 obtain⟨rfl,_,rfl⟩:=e
 simp only[Option.some.injEq,Addr.mk.injEq]at e2
 obtain⟨rfl,rfl,_⟩:=e2
 have:=h4 0 (by omega)
 simpa using this
theorem rpt_cell {M:Nat→Prop} {w0 W:World} {l:List Res} (H:HoldG M w0 W l) {i gs n j:Nat} {v:Int} {e:TypeId} (hi:At l i (.row (.slice (some ⟨gs,0,none⟩) n n) e 1 n (rpt v j n))) (hj:j≤n) {k:Nat} (hk:k<j):W.cell? ⟨gs,k,none⟩=some (.int .i64 v):=by
 obtain⟨hlen,⟨hv',_⟩|⟨g',cap',cur,hv',hb,hg',hn',hc,hsz',ht⟩⟩:=H.all i _ hi.get
 ·cases hv'
 ·cases hv'
  have:cur.toList.take n=rpt v j n:=by simpa using ht
  have h2:(cur.toList.take n)[k]?=some (.int .i64 v):=by
   rw[this,rpt,List.getElem?_append_left (by simp;omega),List.getElem?_replicate,if_pos (by omega)]
  rw[List.getElem?_take,if_pos (by omega)]at h2
  have h3:W.cell? ⟨gs,k,none⟩=cur[k]?:=by simp[World.cell?,hg']
  rw[h3]
  simpa using h2
theorem run_from (g n j:Nat) (hj:j<n) (W:World):(Instr.slice 41 (.slice (some ⟨g,0,none⟩) n n) (some (.int .i64 (j:Int))) none none).run Try.prog W=.ok (.slice (some ⟨g,j,none⟩) (n - j) (n - j)) W:=by
 have he:Try.prog.elem 41=3:=by simp[Program.elem,Try.underlying41]
 have hz:∀ w,(sizeOf 3).run Try.prog w=.ok 1 w:=fun w=>by kernel_rfl
 rw[run_slice_l W 41 _ n n (by rw[he];exact Try.underlying41) .i64 j (by omega) (by omega),he,hz]
 simp[Result.andThen,sliced,Addr.add]
 rw[if_neg (by omega)]
 split
 ·rename_i h;subst h;rfl
 ·rfl
theorem run_to (g n j:Nat) (hj:j≤n) (W:World):(Instr.slice 41 (.slice (some ⟨g,0,none⟩) n n) none (some (.int .i64 (j:Int))) none).run Try.prog W=.ok (.slice (some ⟨g,0,none⟩) j n) W:=by
 have he:Try.prog.elem 41=3:=by simp[Program.elem,Try.underlying41]
 have hz:∀ w,(sizeOf 3).run Try.prog w=.ok 1 w:=fun w=>by kernel_rfl
 rw[run_slice_h W 41 _ n n (by rw[he];exact Try.underlying41) .i64 j (by omega) (by omega),he,hz]
 simp[Result.andThen,sliced,Addr.add]
theorem sl_Repeat (q:Option Addr) (c:Nat) (v:Int) (n:Nat) (F:Nat→Prop) (w0:World) (hn2:2≤n) (hn:n≤50) (hF:∀ b,F b→b<w0.heap.size) (h:IntsR F q c [v] w0) :
  Calls Try.prog 24 #[.slice q 1 c,.int .i64 n] w0 fun e w'=>OwnI w0 (List.replicate n v) e w':=by
 have H:=(Hold.start w0).know F (IntsR F q c [v]) hF (fun i r h=>by simp at h) (fun V hV=>h.kept hV)
 simp only[List.nil_append]at H
 obtain⟨bq,oq,hq⟩:=h.at (by simp)
 subst hq
 clear h
 obtain⟨ii,hii,hi0,hi1,hi2⟩:=info_parts info_int
 have hmul:=fun w=>bits_Mul n (by omega) w
 have d1:decide ((n:Int)<0)=false:=decide_eq_false (by omega)
 have d2:decide ((9223372036854775807:Int)<(n:Int))=false:=decide_eq_false (by omega)
 have w1:IntKind.u64.wrap (n:Int)=(n:Int):=wrapN n (by omega)
 have w2:wrap64 (n:Int)=(n:Int):=by unfold wrap64;omega
 have w3:IntKind.u64.wrap 1=1:=rfl
 go_enter Try.func24,Try.ntmps24
 go_upto_region 4 with (first|fail|(go_at_call 45;refine(hmul _).mono ?_;rintro e w' ⟨rfl,hw⟩;rw[hw]))
 go_upto_region 6 with (first|fail)
 go_upto_region 7 with (first|((with_reducible show @wpList _ _ _ ({dst:=_,op:=Op.makeSlice _ _ _,type:=_,pos:=_,after:=_,guard:=_}::_) _ _);refine own_make rfl _ _ 41 rfl H Try.underlying41 hii hi0 hi1 hi2 rfl (n:=n) (by first|rfl|(rw[← w2];rfl)) (by first|rfl|(rw[← w2];rfl)) (by omega) (by unfold maxLen;omega) ?_;clear H;intro gs w H;simp only[List.cons_append,List.nil_append]at H)|fail)
 rw[show List.replicate n (Value.int .i64 0)=rpt v 0 n by simp[rpt]]at H
 have hk:w.cell? ⟨bq,oq,none⟩=some (.int .i64 v):=IntsR.cell (j:=0) (H.kn (i:=0) .zero) (by simp)
 go_upto_region 8 with (first|((with_reducible show @wpList _ _ _ ({dst:=_,op:=Op.call {callee:=.builtin .copy,args:=_,argTypes:=_},type:=_,pos:=_,after:=_,guard:=_}::_) _ _);(go_loud (refine own_copyX rfl _ _ _ _ rfl Try.underlying41 (by kernel_rfl) evd_ evd_ H (j:=1) i_1 (rpt_length (Nat.zero_le _)) [.int .i64 v] (by show 1=min _ _;omega) (fun k u hu=>by rcases k with _|k;(· cases hu;exact hk);(· simp at hu)) (by simp;omega) (by intro u hu;simp at hu;subst hu;rfl) ?_));clear H;intro w H;try simp only[List.set_cons_succ,List.set_cons_zero]at H)|fail)
 have hcp:(rpt v 0 n).take 0++([Value.int .i64 v]++(rpt v 0 n).drop (0+[Value.int .i64 v].length))=rpt v 1 n:=by
  have:=rpt_copy (v:=v) (j:=0) (n:=n) (by omega) 1 (by omega)
  simpa using this
 rw[hcp]at H
 clear hcp hk hmul w1 w3 d1 d2
 go_loopw [8] (fun ix wr=>∃ (j:Nat),1≤j∧j≤n∧ix=.int .i64 j∧Hold w0 wr [.kn F (IntsR F (some ⟨bq,oq,none⟩) c [v]),.row (.slice (some ⟨gs,0,none⟩) n n) 3 1 n (rpt v j n)]) (fun v _=>n - (intOf v).toNat)
 case atStart=>exact⟨1,by omega,by omega,rfl,H⟩
 case round =>
  clear H
  obtain⟨j,hj1,hj,rfl,H⟩:=hrel
  by_cases hlt:j<n
  ·have dj:decide (j<n)=true:=decide_eq_true hlt
   have dj2:decide ((j:Int)<(n:Int))=true:=decide_eq_true (by omega)
   obtain⟨m,hm⟩:∃ m,Nat.min j (n - j)=m:=⟨_,rfl⟩
   have hm1:1≤m:=by rw[← hm];show 1≤min j (n - j);omega
   have hm2:m≤n - j:=by rw[← hm];show min j (n - j)≤_;omega
   have hm3:m≤j:=by rw[← hm];show min j (n - j)≤_;omega
   have hel:Try.prog.underlying 41=some (.slice (Try.prog.elem 41)):=by kernel_rfl
   have hrun1:=run_from gs n j hlt
   have hrun2:=run_to gs n j hj
   have hcp:=rpt_copy (v:=v) hj m (by omega)
   have HEL:=Lib.hid hel;clear hel
   have HM:=Lib.hid hm;clear hm
   have HP:=Lib.hid hcp;clear hcp
   go_upto_region 9 with (first|fail)
   refine wp_region_late 7 0 [fun v _=>v=.int .i64 (j:Nat),fun v _=>v=.slice (some ⟨gs,0,none⟩) n n,fun v _=>v=.int .i64 (j:Nat),fun v _=>v=.slice (some ⟨gs,j,none⟩) (n - j) (n - j),fun v _=>v=.slice (some ⟨gs,0,none⟩) n n,fun v _=>v=.int .i64 (j:Nat),fun v _=>v=.slice (some ⟨gs,0,none⟩) j n] (fun _=>false) (by kernel_rfl) (by kernel_rfl) (by kernel_rfl) (by repeat (first|exact trivial|refine⟨stable_eq _,?_⟩)) (fun _ _ h=>by cases h) ?ob ?en ?en2
   case ob =>
    refine⟨?_,?_,?_,?_,?_,?_,?_,trivial⟩<;>intro A W h
    ·exact rs_move rfl rfl (h.frame 8 rfl) (by decide)
    ·exact rs_move rfl rfl (h.frame 7 rfl) (by decide)
    ·exact rs_move rfl rfl (h.frame 8 rfl) (by decide)
    ·(have e39:A.eval (.tmp 39)=.slice (some ⟨gs,0,none⟩) n n:=h.dep 1 39 rfl rfl;have e40:A.eval (.tmp 40)=.int .i64 (j:Nat):=h.dep 2 40 rfl rfl;refine rs_pure rfl ?_ (by decide);simp only[execOp,e39,e40];(simp only[Option.map,e40,Sem.run_bind,run_sliceAt_slice (h:=HEL.out),hrun1,Result.andThen_ok,Sem.run_pure]))
    ·exact rs_move rfl rfl (h.frame 7 rfl) (by decide)
    ·exact rs_move rfl rfl (h.frame 8 rfl) (by decide)
    ·(have e42:A.eval (.tmp 42)=.slice (some ⟨gs,0,none⟩) n n:=h.dep 4 42 rfl rfl;have e43:A.eval (.tmp 43)=.int .i64 (j:Nat):=h.dep 5 43 rfl rfl;refine rs_pure rfl ?_ (by decide);simp only[execOp,e42,e43];(simp only[Option.map,e43,Sem.run_bind,run_sliceAt_slice (h:=HEL.out),hrun2,Result.andThen_ok,Sem.run_pure]))
   case en =>
    intro vals W hbw hv _
    have v0:vals 0=_:=hv 0 (by omega)
    have v1:vals 1=_:=hv 1 (by omega)
    have v2:vals 2=_:=hv 2 (by omega)
    have v3:vals 3=_:=hv 3 (by omega)
    have v4:vals 4=_:=hv 4 (by omega)
    have v5:vals 5=_:=hv 5 (by omega)
    have v6:vals 6=_:=hv 6 (by omega)
    simp only[List.take_succ_cons,List.take_zero,List.drop_succ_cons,List.drop_zero,List.drop_nil,List.take_nil,fillAll,Nat.zero_add,Nat.reduceAdd]
    rw[v0,v1,v2,v3,v4,v5,v6]
    clear hv v0 v1 v2 v3 v4 v5 v6
    try simp only[pl]
    try simp only[pl]
    have H:=H.call hbw
    refine own_copyX rfl _ _ _ _ rfl Try.underlying41 (by kernel_rfl) evd_ evd_ H (j:=1) i_1 (rpt_length hj) (List.replicate m (.int .i64 v)) (by rw[List.length_replicate];exact HM.out.symm) (fun k u hu=>by rw[List.getElem?_replicate]at hu;(split at hu<;>cases hu);rename_i hk;have:=rpt_cell H (i:=1) i_1 hj (k:=k) (by omega);rw[Addr.add_mid,Nat.zero_add];exact this) (by simp;omega) (by intro u hu;rw[List.mem_replicate]at hu;rw[hu.2];rfl) ?_
    clear H;intro w H;(try simp only[List.set_cons_succ,List.set_cons_zero]at H)
    simp only[List.length_replicate]at H
    rw[HP.out]at H
    go_wp2_with (first|fail)
    go_roundw
    case rel=>exact⟨j+m,by omega,by omega,by go_num,H⟩
    case measure=>simp[intOf];omega
   case en2 =>
    intro vals W hbw hv _
    have v1:vals 1=_:=hv 1 (by omega) (by omega)
    have v2:vals 2=_:=hv 2 (by omega) (by omega)
    have v3:vals 3=_:=hv 3 (by omega) (by omega)
    have v4:vals 4=_:=hv 4 (by omega) (by omega)
    have v5:vals 5=_:=hv 5 (by omega) (by omega)
    have v6:vals 6=_:=hv 6 (by omega) (by omega)
    simp only[List.take_succ_cons,List.take_zero,List.drop_succ_cons,List.drop_zero,List.drop_nil,List.take_nil,fillBut,lateL,List.cons_append,List.nil_append,Nat.reduceEqDiff,if_true,if_false,reduceCtorEq,Nat.zero_add,Nat.reduceAdd]
    rw[v1,v2,v3,v4,v5,v6]
    clear hv v1 v2 v3 v4 v5 v6
    try simp only[pl]
    try simp only[pl]
    have H:=H.call hbw
    refine own_copyX rfl _ _ _ _ rfl Try.underlying41 (by kernel_rfl) evd_ evd_ H (j:=1) i_1 (rpt_length hj) (List.replicate m (.int .i64 v)) (by rw[List.length_replicate];exact HM.out.symm) (fun k u hu=>by rw[List.getElem?_replicate]at hu;(split at hu<;>cases hu);rename_i hk;have:=rpt_cell H (i:=1) i_1 hj (k:=k) (by omega);rw[Addr.add_mid,Nat.zero_add];exact this) (by simp;omega) (by intro u hu;rw[List.mem_replicate]at hu;rw[hu.2];rfl) ?_
    clear H;intro w H;(try simp only[List.set_cons_succ,List.set_cons_zero]at H)
    simp only[List.length_replicate]at H
    rw[HP.out]at H
    go_wp2_with (first|fail)
    go_roundw
    case rel=>exact⟨j+m,by omega,by omega,by go_num,H⟩
    case measure=>simp[intOf];omega
  ·have hjn:j=n:=by omega
   subst hjn
   have dj:decide (j<j)=false:=by simp
   have dj2:decide ((j:Int)<(j:Int))=false:=by simp
   go_wp2_with (first|fail)
   go_ret
   rw[show rpt v j j=(List.replicate j v).map (.int .i64) by simp[rpt]]at H
   refine⟨some ⟨gs,0,none⟩,j,by simp,?_,H.below⟩
   have:=H.all 1 _ rfl
   rw[List.length_replicate]
   exact this
end Go.Proofs.Ytdoflhjhaciepaa
namespace Go.Proofs.Ytdoflhjhaciepaa
open Go.RowKit
structure RCtxS (l:List Oper) (Ss:Nat→Value→World→Prop) (R:World→World→Prop) (a0:Act) (w0:World) (o:Oper) (a:Act) (w:World):Prop where
 rel:R w0 w
 frame:∀ t,l.any (fun o=>o.dst == some t)=false→a.eval (.tmp t)=a0.eval (.tmp t)
 dep:∀ j d,o.after.toList.any (fun e=>Region.binds .any e&&e.on == j)=true→(l[j]?).bind (·.dst)=some d→Ss j (a.eval (.tmp d)) w
 defers:a.defers=a0.defers
theorem rowsIn_of_rows {m:Nat} {P:Program} {row:String} {args:Array Value} {w:World} {R:Value→World→Prop} (h:Rows P row args w R):RowsIn Fence.wide m P row args w R :=
 fun c cs _=>let ⟨v,w',r,s⟩:=h c cs;⟨v,w',r,stepsIn_wide.2 s⟩
def Stay (B:Nat) (I:World→Prop):Prop:=∀ W W' row,I W→W.grownBy W' row→(∀ r,row=some r→B≤r∧∃ o:Obj,W.heap[r]?=some o∧o.isCells=false)→I W'
theorem Stay.putObj {B:Nat} {I:World→Prop} (h:Stay B I) {W:World} {l:Nat} {o:Obj} (o':Obj) (hs:I W) (hB:B≤l) (hl:W.heap[l]?=some o) (ho:o.isCells=false):I (W.putObj l o') :=
 h W _ (some l) hs (grownBy_putObj' W l o') (fun r e=>by cases e;exact⟨hB,o,hl,ho⟩)
theorem Stay.alloc {B:Nat} {I:World→Prop} (h:Stay B I) {W:World} (o:Obj) (hs:I W):I (W.alloc o) :=
 h W _ none hs (World.grownBy_alloc W o none) (fun r e=>by cases e)
variable {F:Fence} {n:Nat} {P:Program}
def StayOk (B:Nat):Res→Prop
 | .mp _ _ _=>False
 | .kn F S=>∀ V,S V→∀ b,F b→b<B∨∃ o:Obj,V.heap[b]?=some o∧o.isCells=true
 | _=>True
theorem HoldG.stayK {M:Nat→Prop} {w0:World} {l:List Res} {B:Nat} (hl:∀ r ∈ l,StayOk B r) (hB:w0.heap.size≤B):Stay B (fun W=>HoldG M w0 W l):=by
 intro W W' row H hg hr
 refine⟨H.keep.trans ⟨hg.os,hg.tape,hg.output,hg.size,fun k h1 h2=>hg.block k (Nat.lt_of_lt_of_le h1 H.keep.size) (fun e=>by have:=(hr k e.symm).1;omega)⟩,fun i s hs=>?_,H.apart⟩
 have hA:=H.all i s hs
 have hc:=hl s (List.mem_of_getElem? hs)
 cases s with
 | blk b' cs T =>
  refine hA.keptF (fun b hb=>hg.block b ((Array.getElem?_eq_some_iff.1 (by cases hb;exact hA.2)).1) (fun e=>?_)) (fun b hb=>Nat.lt_of_lt_of_le ((Array.getElem?_eq_some_iff.1 (by cases hb;exact hA.2)).1) hg.size)
  obtain⟨_,o,ho,hcell⟩:=hr b e.symm
  cases hb
  rw[hA.2]at ho;cases ho;cases hcell
 | row v e sz n xs =>
  have hlt:∀ b,(Res.row v e sz n xs).foot b→b<W.heap.size:=fun b hb=>(hA.lt b hb).2
  refine hA.keptF (fun b hb=>hg.block b (hlt b hb) (fun e=>?_)) (fun b hb=>Nat.lt_of_lt_of_le (hlt b hb) hg.size)
  obtain⟨_,o,ho,hcell⟩:=hr b e.symm
  obtain⟨_,⟨hv,_⟩|⟨g,cap,cur,rfl,_,hg',_⟩⟩:=hA
  ·have h2:v.ownBlock=some b:=hb
   rw[hv]at h2;cases h2
  ·have:g=b:=by simpa [Res.foot,Value.ownBlock] using hb
   subst this
   rw[hg']at ho;cases ho;cases hcell
 | mp b' es c=>exact hc.elim
 | kn F S =>
  have hS:S W:=hA.2 W (fun _ _=>rfl)
  refine hA.keptF (fun b hb=>hg.block b (hA.1 b hb) (fun e=>?_)) (fun b hb=>Nat.lt_of_lt_of_le (hA.1 b hb) hg.size)
  obtain⟨hBb,o,ho,hcell⟩:=hr b e.symm
  rcases hc W hS b hb with h|⟨o',ho',hc'⟩
  ·omega
  ·rw[ho']at ho;cases ho;rw[hc']at hcell;cases hcell
theorem HoldG.knBoth {M:Nat→Prop} {w0 w:World} {l:List Res} (H:HoldG M w0 w l) {i j:Nat} {F G:Nat→Prop} {S T:World→Prop} (hi:At l i (.kn F S)) (hj:At l j (.kn G T)):HoldG M w0 w (l.set i (.kn (fun b=>F b∨G b) (fun V=>S V∧T V))):=by
 have hA:=H.all i _ hi.get
 have hB:=H.all j _ hj.get
 have hil:i<l.length:=(List.getElem?_eq_some_iff.1 hi.get).1
 refine⟨H.keep,fun k r hr=>?_,fun k m r s hkm hr hs=>?_⟩
 ·rw[List.getElem?_set]at hr
  split at hr
  ·rename_i e;subst e
   simp only[hil,if_true,Option.some.injEq]at hr;subst hr
   exact⟨fun b hb=>hb.elim (hA.1 b) (hB.1 b),fun W' hW=>⟨hA.2 W' (fun b hb=>hW b (.inl hb)),hB.2 W' (fun b hb=>hW b (.inr hb))⟩⟩
  ·exact H.all k r hr
 ·rw[List.getElem?_set]at hr hs
  split at hr
  ·rename_i e;subst e
   simp only[hil,if_true,Option.some.injEq]at hr;subst hr
   intro b hb;cases hb
  ·split at hs
   ·rename_i e;subst e
    simp only[hil,if_true,Option.some.injEq]at hs;subst hs
    intro b hb hf
    rcases hf with hf|hf
    ·exact H.apart k i r _ hkm hr hi.get b hb hf
    ·by_cases hkj:k=j
     ·subst hkj
      have:=hj.get
      rw[this]at hr;cases hr;cases hb
     ·exact H.apart k j r _ hkj hr hj.get b hb hf
   ·exact H.apart k m r s hkm hr hs
end Go.Proofs.Ytdoflhjhaciepaa
namespace Go.Proofs.Ytdoflhjhaciepaa
open Go.RowKit Go.Shelf
attribute [local go_sem] Oper.semAt_some
theorem IntsR.mono {F G:Nat→Prop} {p:Option Addr} {c:Nat} {xs:List Int} {V:World} (h:IntsR F p c xs V) (hG:∀ b,F b→G b):IntsR G p c xs V:=by
 obtain⟨p',c',e,h1,h2,h0,h3⟩:=h
 refine⟨p',c',e,h1,h2,h0,fun j r hr=>?_⟩
 obtain⟨b,off,e2,hb,h4⟩:=h3 j r hr
 exact⟨b,off,e2,hG b hb,h4⟩
theorem IntsR.narrow {F:Nat→Prop} {p:Option Addr} {c:Nat} {xs:List Int} {V:World} (h:IntsR F p c xs V) (hn:0<xs.length):∃ b off,p=some ⟨b,off,none⟩∧F b∧IntsR (·=b) p c xs V:=by
 obtain⟨p',c',e,h1,h2,h0,h3⟩:=h
 have e':=e
 simp only[Value.slice.injEq]at e';obtain⟨rfl,_,rfl⟩:=e'
 obtain⟨b,off,e2,hb,_⟩:=h3 0 #[.int .i64 xs[0]] (by rw[List.getElem?_map,List.getElem?_eq_getElem hn];rfl)
 refine⟨b,off,e2,hb,p,c,e,h1,h2,h0,fun j r hr=>?_⟩
 obtain⟨b',off',e3,hb',h4⟩:=h3 j r hr
 refine⟨b',off',e3,?_,h4⟩
 rw[e2]at e3
 simp only[Option.some.injEq,Addr.mk.injEq]at e3
 exact e3.1.symm
def FW (us:List WV) (b:Nat):Prop:=∃ x ∈ us,∃ o,x.2.2.1=some ⟨b,o,none⟩
def WK (us:List WV) (V:World):Prop:=∀ x ∈ us,IntsR (FW us) x.2.2.1 x.2.2.2 x.2.1 V∧0<x.2.1.length
theorem WK.kept {us:List WV} {V W:World} (h:WK us W) (hV:∀ b,FW us b→V.heap[b]?=W.heap[b]?):WK us V:=fun x hx=>⟨(h x hx).1.kept hV,(h x hx).2⟩
theorem WK.cells {us:List WV} {V:World} (h:WK us V) {b:Nat} (hb:FW us b):∃ o:Obj,V.heap[b]?=some o∧o.isCells=true:=by
 obtain⟨x,hx,o,e⟩:=hb
 obtain⟨h1,h2⟩:=h x hx
 rw[e]at h1
 have:=h1.cell (j:=0) h2
 simp only[World.cell?]at this
 split at this
 ·rename_i cs _ _ hc;exact⟨_,hc,rfl⟩
 ·cases this
theorem WK.sub {us vs:List WV} {V:World} (h:WK us V) (hs:∀ x ∈ vs,∃ y ∈ us,x.2=y.2):WK vs V:=by
 intro x hx
 obtain⟨y,hy,e⟩:=hs x hx
 obtain⟨h1,h2⟩:=h y hy
 rw[← e]at h1 h2
 obtain⟨b,off,e1,_,h3⟩:=h1.narrow h2
 exact⟨h3.mono (fun b' hb'=>⟨x,hx,off,by rw[hb',e1]⟩),h2⟩
theorem FW.sub {us vs:List WV} (hs:∀ x ∈ vs,∃ y ∈ us,x.2=y.2) {b:Nat} (h:FW vs b):FW us b:=by
 obtain⟨x,hx,o,e⟩:=h
 obtain⟨y,hy,e2⟩:=hs x hx
 exact⟨y,hy,o,by rw[← e2];exact e⟩
theorem stay_WK (B:Nat) (us:List WV):StayOk B (.kn (FW us) (WK us)):=fun V h b hb=>.inr (h.cells hb)
theorem WK.ints {us:List WV} {V:World} (h:WK us V) {x:WV} (hx:x ∈ us):IntsR (FW us) x.2.2.1 x.2.2.2 x.2.1 V:=(h x hx).1
theorem At.of_get {α:Type}:∀ {l:List α} {i:Nat} {r:α},l[i]?=some r→At l i r
 | [],i,r,h=>by simp at h
 | x::l,0,r,h=>by simp at h;subst h;exact .zero
 | x::l,i+1,r,h=>.succ (At.of_get (by simpa using h))
section
variable {M:Nat→Prop} {w0 w w':World} {l:List Res}
theorem HoldG.knTo (H:HoldG M w0 w l) {i:Nat} {F G:Nat→Prop} {S T:World→Prop} (hi:At l i (.kn F S)) (hG:∀ b,G b→F b) (hT:S w→T w) (hk:∀ V,T w→(∀ b,G b→V.heap[b]?=w.heap[b]?)→T V):HoldG M w0 w (l.set i (.kn G T)):=by
 have hA:=H.all i _ hi.get
 have hil:i<l.length:=(List.getElem?_eq_some_iff.1 hi.get).1
 have hT':=hT (hA.2 w (fun _ _=>rfl))
 refine⟨H.keep,fun k r hr=>?_,fun k m r s hkm hr hs=>?_⟩
 ·rw[List.getElem?_set]at hr
  split at hr
  ·simp only[Option.some.injEq]at hr;subst hr
   exact⟨fun b hb=>hA.1 b (hG b hb),fun W' hW=>hk W' hT' hW⟩
  ·exact H.all k r hr
 ·rw[List.getElem?_set]at hr hs
  split at hr
  ·simp only[Option.some.injEq]at hr;subst hr
   intro b hb;cases hb
  ·split at hs
   ·rename_i e;subst e
    simp only[Option.some.injEq]at hs;subst hs
    intro b hb hf
    exact H.apart k i r _ hkm hr hi.get b hb (hG b hf)
   ·exact H.apart k m r s hkm hr hs
end
end Go.Proofs.Ytdoflhjhaciepaa
namespace Go.Proofs.Ytdoflhjhaciepaa
open Go.RowKit Go.Shelf
structure ItInv (ps:List InstD) (L:Str) (i:Nat) (e0:Way) (m0:List Int) (ys0:List WV) (ms:Nat) (td ys us:List WV) (marks:List Int) (n:Nat):Prop where
 run:∃ outs,ys.map plW=ys0.map plW++outs∧waitsP ps L i (fuelP ps) [e0] m0=((waitsP ps L i n (td.reverse.map plW) marks).1,outs++(waitsP ps L i n (td.reverse.map plW) marks).2)
 fuel:3 * unm i marks+td.length<n
 top:n≤fuelP ps
 len:marks.length=ps.length
 todo:∀ x ∈ td,x.1<ps.length∧∃ u ∈ us,x.2=u.2
 got:∀ y ∈ ys,∃ u ∈ us,y.2=u.2
 size:∀ u ∈ us,u.2.1.length=ms
 room:ys.length+unm i marks≤ps.length
namespace ItInv
variable {ps:List InstD} {L:Str} {i:Nat} {e0:Way} {m0:List Int} {ys0:List WV} {ms:Nat} {td ys us:List WV} {marks:List Int} {n:Nat} {e:WV} {x:InstD}
theorem rev (td:List WV) (e:WV):(td++[e]).reverse.map plW=(e.1,e.2.1)::td.reverse.map plW:=by simp[plW]
theorem pos (I:ItInv ps L i e0 m0 ys0 ms (td++[e]) ys us marks n):∃ k,n=k+1:=⟨n - 1,by have:=I.fuel;omega⟩
theorem seen (I:ItInv ps L i e0 m0 ys0 ms (td++[e]) ys us marks n) (h:marks.getD e.1 0=(i:Int)+1):ItInv ps L i e0 m0 ys0 ms td ys us marks (n - 1):=by
 obtain⟨k,rfl⟩:=I.pos
 obtain⟨outs,h1,h2⟩:=I.run
 have hf:=I.fuel
 refine⟨⟨outs,h1,?_⟩,?_,?_,I.len,fun x hx=>I.todo x (List.mem_append_left _ hx),I.got,I.size,I.room⟩
 ·rw[h2,rev]
  simp only[waitsP,h,if_true,Nat.add_sub_cancel]
 ·simp at hf ⊢;omega
 ·have:=I.top;omega
theorem unm1 (I:ItInv ps L i e0 m0 ys0 ms (td++[e]) ys us marks n) (h:marks.getD e.1 0≠(i:Int)+1):unm i (marks.set e.1 ((i:Int)+1))+1=unm i marks :=
 unm_set (by rw[I.len];exact(I.todo e (by simp)).1) h
theorem next (I:ItInv ps L i e0 m0 ys0 ms (td++[e]) ys us marks n) (h:marks.getD e.1 0≠(i:Int)+1) {us' td':List WV} (hu:∀ u ∈ us,u ∈ us') (hs:∀ u ∈ us',u.2.1.length=ms) (ht:∀ x ∈ td',x.1<ps.length∧∃ u ∈ us',x.2=u.2) (hl:td'.length≤2)
  (hw:∀ k,waitsP ps L i (k+1) ((e.1,e.2.1)::td.reverse.map plW) marks=waitsP ps L i k (td'.reverse.map plW++td.reverse.map plW) (marks.set e.1 ((i:Int)+1))):ItInv ps L i e0 m0 ys0 ms (td++td') ys us' (marks.set e.1 ((i:Int)+1)) (n - 1):=by
 obtain⟨k,rfl⟩:=I.pos
 obtain⟨outs,h1,h2⟩:=I.run
 have hf:=I.fuel
 have hun:=I.unm1 h
 refine⟨⟨outs,h1,?_⟩,?_,?_,by rw[List.length_set];exact I.len,fun x hx=>?_,fun y hy=>?_,hs,?_⟩
 ·rw[h2,rev,hw]
  simp
 ·simp at hf ⊢;omega
 ·have:=I.top;omega
 ·rcases List.mem_append.1 hx with hx|hx
  ·obtain⟨h1,u,hu1,h2⟩:=I.todo x (List.mem_append_left _ hx)
   exact⟨h1,u,hu u hu1,h2⟩
  ·exact ht x hx
 ·obtain⟨u,hu1,h2⟩:=I.got y hy
  exact⟨u,hu u hu1,h2⟩
 ·have:=I.room;omega
theorem known (I:ItInv ps L i e0 m0 ys0 ms (td++[e]) ys us marks n):e.1<ps.length∧∃ u ∈ us,e.2=u.2:=I.todo e (by simp)
theorem split (I:ItInv ps L i e0 m0 ys0 ms (td++[e]) ys us marks n) (h:marks.getD e.1 0≠(i:Int)+1) (hx:ps[e.1]?=some x) (hk:x.kind=2) (hn:0≤x.next∧x.next<ps.length) (ho:0≤x.other∧x.other<ps.length) :
  ItInv ps L i e0 m0 ys0 ms (td++[(x.other.toNat,e.2),(x.next.toNat,e.2)]) ys us (marks.set e.1 ((i:Int)+1)) (n - 1):=by
 have hat:=atI_get hx
 refine I.next h (fun _ h=>h) I.size (fun y hy=>?_) (by simp) (fun k=>?_)
 ·simp only[List.mem_cons,List.not_mem_nil,or_false]at hy
  rcases hy with rfl|rfl
  ·exact⟨by show x.other.toNat<_;omega,I.known.2⟩
  ·exact⟨by show x.next.toNat<_;omega,I.known.2⟩
 ·simp only[waitsP,if_neg h,hat,hk,if_true]
  rfl
theorem save (I:ItInv ps L i e0 m0 ys0 ms (td++[e]) ys us marks n) (h:marks.getD e.1 0≠(i:Int)+1) (hx:ps[e.1]?=some x) (hk:x.kind=3) (hn:0≤x.next∧x.next<ps.length) (q:Option Addr) (c:Nat) :
  ItInv ps L i e0 m0 ys0 ms (td++[(x.next.toNat,e.2.1.set x.slot.toNat i,q,c)]) ys (us++[(x.next.toNat,e.2.1.set x.slot.toNat i,q,c)]) (marks.set e.1 ((i:Int)+1)) (n - 1):=by
 have hat:=atI_get hx
 obtain⟨u,hu,he⟩:=I.known.2
 refine I.next h (fun _ h=>List.mem_append_left _ h) (fun y hy=>?_) (fun y hy=>?_) (by simp) (fun k=>?_)
 ·rcases List.mem_append.1 hy with hy|hy
  ·exact I.size y hy
  ·rw[List.mem_singleton]at hy;subst hy
   show (e.2.1.set _ _).length=ms
   rw[List.length_set,he]
   exact I.size u hu
 ·rw[List.mem_singleton]at hy;subst hy
  exact⟨by show x.next.toNat<_;omega,_,List.mem_append_right _ (List.mem_singleton.2 rfl),rfl⟩
 ·simp only[waitsP,if_neg h,hat,hk,if_true]
  rfl
theorem spotT (I:ItInv ps L i e0 m0 ys0 ms (td++[e]) ys us marks n) (h:marks.getD e.1 0≠(i:Int)+1) (hx:ps[e.1]?=some x) (hk:x.kind=4) (hn:0≤x.next∧x.next<ps.length) (hs:isSpot x.spot L i=true) :
  ItInv ps L i e0 m0 ys0 ms (td++[(x.next.toNat,e.2)]) ys us (marks.set e.1 ((i:Int)+1)) (n - 1):=by
 have hat:=atI_get hx
 refine I.next h (fun _ h=>h) I.size (fun y hy=>?_) (by simp) (fun k=>?_)
 ·rw[List.mem_singleton]at hy;subst hy
  exact⟨by show x.next.toNat<_;omega,I.known.2⟩
 ·simp only[waitsP,if_neg h,hat,hk,hs,if_true]
  rfl
theorem spotF (I:ItInv ps L i e0 m0 ys0 ms (td++[e]) ys us marks n) (h:marks.getD e.1 0≠(i:Int)+1) (hx:ps[e.1]?=some x) (hk:x.kind=4) (hs:isSpot x.spot L i=false) :
  ItInv ps L i e0 m0 ys0 ms td ys us (marks.set e.1 ((i:Int)+1)) (n - 1):=by
 have hat:=atI_get hx
 have:=I.next (td':=[]) h (fun _ h=>h) I.size (fun y hy=>by simp at hy) (by simp) (fun k=>by
  simp only[waitsP,if_neg h,hat,hk,hs,if_true]
  rfl)
 simpa using this
theorem out (I:ItInv ps L i e0 m0 ys0 ms (td++[e]) ys us marks n) (h:marks.getD e.1 0≠(i:Int)+1) (hx:ps[e.1]?=some x) (hk:x.kind=1∨x.kind=5) :
  ItInv ps L i e0 m0 ys0 ms td (ys++[e]) us (marks.set e.1 ((i:Int)+1)) (n - 1):=by
 have hat:=atI_get hx
 obtain⟨k,rfl⟩:=I.pos
 obtain⟨outs,h1,h2⟩:=I.run
 have hf:=I.fuel
 have hun:=I.unm1 h
 refine⟨⟨outs++[plW e],by rw[List.map_append,h1];simp,?_⟩,?_,?_,by rw[List.length_set];exact I.len,fun x hx=>I.todo x (List.mem_append_left _ hx),fun y hy=>?_,I.size,?_⟩
 ·rw[h2,rev]
  have e2:¬ x.kind=2:=by omega
  have e3:¬ x.kind=3:=by omega
  have e4:¬ x.kind=4:=by omega
  simp only[waitsP,if_neg h,hat,if_neg e2,if_neg e3,if_neg e4,if_pos hk,Nat.add_sub_cancel,List.append_assoc,List.cons_append,List.nil_append]
  rfl
 ·simp at hf ⊢;omega
 ·have:=I.top;omega
 ·rcases List.mem_append.1 hy with hy|hy
  ·exact I.got y hy
  ·rw[List.mem_singleton]at hy;subst hy;exact I.known.2
 ·have:=I.room;simp;omega
theorem done (I:ItInv ps L i e0 m0 ys0 ms [] ys us marks n):marks=(waitsP ps L i (fuelP ps) [e0] m0).1∧ys.map plW=ys0.map plW++(waitsP ps L i (fuelP ps) [e0] m0).2:=by
 obtain⟨outs,h1,h2⟩:=I.run
 have e1:waitsP ps L i n (([]:List WV).reverse.map plW) marks=(marks,[]):=by cases n<;>rfl
 rw[e1,List.append_nil]at h2
 rw[h2]
 exact⟨rfl,h1⟩
end ItInv
end Go.Proofs.Ytdoflhjhaciepaa
namespace Go.Proofs.Ytdoflhjhaciepaa
open Go.RowKit
def noDefer (l:List Oper):Bool:=l.all (fun o=>match o.op with|.defer _=>false|_=>true)
theorem wpIn_inRound {k l:Nat} {P:Program} {o:Oper} {a:Act} {w:World} {K:Act→World→Prop} {Q:Exit→Act→World→Prop} (hd:∀ c,o.op≠.defer c) (h:o.wp P a w K Q):o.wpIn (Fence.wide.inRound l) k P a w K Q:=by
 unfold Oper.wp at h
 refine⟨fun _ _=>trivial,?_⟩
 rw[show o.semAt (Fence.wide.inRound l).round a.eval=execOp a.eval o from Oper.semAt_some l a.eval o hd]
 generalize (execOp a.eval o).run P w=r at *
 cases r with
 | ok x w' =>
  cases x<;>simp only[Oper.upon,Oper.uponIn]at h ⊢ <;>
   first
    | exact h
    | exact⟨fun h=>by simp[Fence.wide,Fence.inRound]at h,CallsIn.inRound l (callsIn_wide.2 h)⟩
    | exact⟨fun h=>by simp[Fence.wide,Fence.inRound]at h,rowsIn_of_rows (m:=k - 1) h⟩
    | exact h.elim
 | halt x w'=>cases x<;>simp only[Oper.upon,Oper.uponIn]at h ⊢<;>first|exact h|exact h.elim
theorem list_inRound {k l:Nat} {P:Program} {ops:Array Oper} {Q:Exit→Act→World→Prop} (hQ:¬ LetsOut Q):∀ (r:List Oper) (a:Act) (w:World),noDefer r=true→wpList P ops Q r a w→wpListIn (Fence.wide.inRound l) k P ops Q r a w
 | [],_,_,_,h=>h
 | o::r,a,w,hc,h=>by
  simp only[noDefer,List.all_cons,Bool.and_eq_true]at hc
  have ih:=list_inRound (k:=k) (l:=l) (P:=P) (ops:=ops) (Q:=Q) hQ r
  unfold wpList at h
  unfold wpListIn
  split at h
  ·rename_i hw
   rw[if_pos hw]
   exact wpIn_inRound (fun c e=>by rw[e]at hc;simp at hc) (Oper.wp_mono (fun a' w' h'=>ih a' w' (by simpa [noDefer] using hc.2) h') (h.resolve_right (fun h=>hQ h.2)))
  ·rename_i hw
   rw[if_neg hw]
   exact⟨fun _ _=>trivial,ih _ _ (by simpa [noDefer] using hc.2) h⟩
theorem wpAnyIn_round {k c:Nat} {P:Program} {l:List Oper} {Q:Exit→Act→World→Prop} (hQ:¬ LetsOut Q) (hc:noDefer l=true):∀ (fuel:Nat) (listed:Array Bool) (a:Act) (w:World),wpAny P .any l.toArray Q fuel listed a w→wpAnyIn (Fence.wide.inRound k) c P .any l.toArray Q fuel listed a w
 | 0,_,_,_,h=>h
 | fuel+1,listed,a,w,h=>by
  refine⟨h.1,fun i hi=>?_⟩
  have h2:=h.2 i hi
  have ih:=fun a w=>wpAnyIn_round (k:=k) (c:=c) (P:=P) hQ hc fuel (listed.setIfInBounds i true) a w
  unfold wpOp at h2
  unfold wpOpIn
  cases ho:l.toArray[i]? with
  | none =>
   simp only[ho]at h2 ⊢
   exact ih _ _ h2
  | some o =>
   simp only[ho]at h2 ⊢
   have hno:∀ c,o.op≠.defer c:=by
    intro c e
    have hm:o ∈ l:=by
     have:l[i]?=some o:=by simpa using ho
     exact List.mem_of_getElem? this
    have:=List.all_eq_true.1 hc o hm
    rw[e]at this;cases this
   split
   ·rename_i hw
    rw[if_pos hw]at h2
    exact wpIn_inRound hno (Oper.wp_mono (fun a' w' h'=>ih a' w' h') (h2.resolve_right (fun h=>hQ h.2)))
   ·rename_i hw
    rw[if_neg hw]at h2
    exact⟨fun _ _=>trivial,ih _ _ h2⟩
theorem wpAny_lateD {P:Program} {Q:Exit→Act→World→Prop} {a0:Act} {w0:World} {l:List Oper} (n e:Nat) (Ss:Nat→Value→World→Prop) (D:Nat→Bool)
  (hB:lateB l.toArray n e=true) (hsz:(l.take n).all (fun o=>match o.dst with|some d=>decide (d<a0.tmps.size)|none=>true)=true)
  (hst:∀ i,i<n→∀ v w w',Ss i v w→Below w.heap.size w w'→Ss i v w')
  (hlt:∀ i,i<n→D i=true→∀ v w,Ss i v w→blk v<w.heap.size)
  (hstep:∀ i o,i<n→l[i]?=some o→∀ a w,RCtx (l.take n) Ss a0 w0 o a w→RStep P l.toArray o a w (fun v w'=>Ss i v w'∧(D i=true→w.heap.size≤blk v)))
  (hend:∀ vals w,Below w0.heap.size w0 w→(∀ i,i<n→Ss i (vals i) w)→(∀ i j,i<n→j<n→i≠j→D i=true→D j=true→blk (vals i)≠blk (vals j))→wpList P l.toArray Q (l.drop n) (fillAll (l.take n) 0 vals a0) w)
  (hend2:∀ vals w,Below w0.heap.size w0 w→(∀ i,i<n→i≠e→Ss i (vals i) w)→(∀ i j,i<n→j<n→i≠e→j≠e→i≠j→D i=true→D j=true→blk (vals i)≠blk (vals j)) →
   wpList P l.toArray Q (lateL l n e) (fillBut e (l.take n) 0 vals a0) w) :
  wpAny P .any l.toArray Q l.toArray.size (Array.replicate l.toArray.size false) a0 {w0 with drawn:=w0.drawn+1}:=by
 simp only[lateB,Bool.and_eq_true,decide_eq_true_eq]at hB
 obtain⟨⟨⟨⟨⟨⟨⟨hn,hd⟩,haf⟩,hclo⟩,htw⟩,hseq⟩,hord⟩,hen⟩:=hB
 have hn':n≤l.length:=by simpa using hn
 have hd':dstsB (l.take n)=true:=hd
 have htl:(l.take n).length=n:=by simp;omega
 have key:∀ (rem:List Nat) (f:Nat),rem.length=f→rem.Nodup→∀ (listed:Array Bool) (a:Act) (w:World),HeadInv .any l.toArray n listed →
   (∀ i,i ∈ rem↔(i<n∧listed.getD i true=false))→(∃ vals,a=fill (l.take n) 0 listed vals a0∧(∀ i,i<n→listed.getD i false=true→Ss i (vals i) w)∧∀ i j,i<n→j<n→i≠j→listed.getD i false=true→listed.getD j false=true→D i=true→D j=true→blk (vals i)≠blk (vals j))→Below w0.heap.size w0 w →
   wpAny P .any l.toArray Q (f+(l.toArray.size - n)) listed a w:=by
  intro rem f
  induction f generalizing rem with
  | zero =>
   intro hl _ listed a w inv hrem ⟨vals,ha,hv,hp⟩ hb
   have hr:rem=[]:=List.length_eq_zero_iff.1 hl
   subst hr
   have hall:∀ i,i<n→listed.getD i false=true:=by
    intro i hi
    have h1:¬ listed.getD i true=false:=fun h=>by have:=(hrem i).2 ⟨hi,h⟩;simp at this
    have h2:i<listed.size:=by rw[inv.size];omega
    rw[Array.getD_eq_getD_getElem?,Array.getElem?_eq_getElem h2]at h1 ⊢
    simpa using h1
   have hlist:=listed_head hn inv hall
   have hw:=hend vals w hb (fun i hi=>hv i hi (hall i hi)) (fun i j hi hj hij=>hp i j hi hj hij (hall i hi) (hall j hj))
   rw[← fill_all (l.take n) 0 listed vals a0 (fun i hi=>by rw[Nat.zero_add];exact hall i (by omega)),← ha]at hw
   rw[Nat.zero_add]
   have hdl:(l.drop n).length=l.toArray.size - n:=by simp
   rw[← hdl]
   refine wpAny_of_seq (l.drop n) n listed a w (fun j=>by simp) ?_ hw
   rw[hdl,hlist];exact hseq
  | succ f ih =>
   intro hl hnd listed a w inv hrem ⟨vals,ha,hv,hp⟩ hb
   have hex:∃ i,i ∈ rem∧∀ j,j ∈ rem→i≤j:=by
    have:∀ (r:List Nat),r≠[]→∃ i,i ∈ r∧∀ j,j ∈ r→i≤j:=by
     intro r
     induction r with
     | nil=>intro h;exact(h rfl).elim
     | cons x r ihr =>
      intro _
      by_cases hr:r=[]
      ·subst hr;exact⟨x,by simp,by simp⟩
      ·obtain⟨i,hi,hmin⟩:=ihr hr
       by_cases hx:x≤i
       ·exact⟨x,by simp,fun j hj=>by rcases List.mem_cons.1 hj with rfl|hj;exact Nat.le_refl _;exact Nat.le_trans hx (hmin j hj)⟩
       ·exact⟨i,by simp[hi],fun j hj=>by rcases List.mem_cons.1 hj with rfl|hj;omega;exact hmin j hj⟩
    exact this rem (by intro h;subst h;simp at hl)
   have hready:Region.ready .any l.toArray listed≠[]:=by
    obtain⟨i,hi,hmin⟩:=hex
    obtain⟨hin,hil⟩:=(hrem i).1 hi
    have hlt:i<l.length:=by omega
    have hmem:i ∈ Region.ready .any l.toArray listed:=by
     refine mem_ready.2 ⟨hil,l[i],by simp[hlt],fun e he hbd=>?_⟩
     have h1:=List.all_eq_true.1 haf (l[i],i) (by
      rw[List.mem_zipIdx_iff_getElem?];simp[hin,hlt])
     have h2:=Array.all_eq_true'.1 h1 e he
     simp[hbd]at h2
     have hj:¬ e.on ∈ rem:=fun h=>by have:=hmin _ h;omega
     have h3:¬ listed.getD e.on true=false:=fun h=>hj ((hrem _).2 ⟨by omega,h⟩)
     have h4:e.on<listed.size:=by rw[inv.size];simp;omega
     rw[Array.getD_eq_getD_getElem?,Array.getElem?_eq_getElem h4]at h3 ⊢
     simpa using h3
    intro h;rw[h]at hmem;simp at hmem
   rw[show f+1+(l.toArray.size - n)=(f+(l.toArray.size - n))+1 from by omega]
   refine⟨fun h=>(hready h).elim,fun i hi=>?_⟩
   obtain⟨hil,o,ho,haft⟩:=mem_ready.1 hi
   by_cases hin:i<n
   case neg =>
    have hisz:i<l.toArray.size:=(Array.getElem?_eq_some_iff.1 ho).1
    have hmost:=late_most hclo hn inv
    have hin':i=n:=by
     rcases Nat.lt_or_ge n i with h|h
     ·exfalso
      have h1:=List.all_eq_true.1 htw (l[i]'(by simpa using hisz),i) (by
       rw[List.mem_zipIdx_iff_getElem?];simp at hisz;simp[hisz])
      simp only[Bool.or_eq_true,decide_eq_true_eq]at h1
      rcases h1 with h1|h1
      ·omega
      ·obtain⟨ed,hed,hb⟩:=List.any_eq_true.1 h1
       simp only[Bool.and_eq_true,decide_eq_true_eq]at hb
       have ho2:o=l[i]'(by simpa using hisz):=by
        have:=(Array.getElem?_eq_some_iff.1 ho).2;simpa using this.symm
       have h3:=haft ed (by rw[ho2];exact Array.mem_toList_iff.1 hed) hb.1.1
       have h4:=getD_both (inv.tail ed.on hb.1.2 (by omega))
       rw[h3]at h4;cases h4
     ·omega
    subst hin'
    have hall:∀ k,k<i→k≠e→listed.getD k false=true:=fun k hk hke=>hmost o ho haft k hk hke
    have hone:rem=[e]:=by
     have h1:∀ k ∈ rem,k=e:=by
      intro k hk
      obtain⟨hk1,hk2⟩:=(hrem k).1 hk
      by_cases hke:k=e
      ·exact hke
      ·have:=hall k hk1 hke
       rw[getD_both hk2]at this;cases this
     cases rem with
     | nil=>simp at hl
     | cons x r =>
      cases r with
      | nil=>rw[h1 x (by simp)]
      | cons y r =>
       have hx:=h1 x (by simp);have hy:=h1 y (by simp)
       rw[hx,hy]at hnd;simp at hnd
    subst hone
    have hf:f=0:=by simp at hl;omega
    subst hf
    have hel:listed.getD e true=false:=((hrem e).1 (by simp)).2
    have hlist:=listed_but hn hen inv hall hel
    have hw:=hend2 vals w hb (fun k hk hke=>hv k hk (hall k hk hke)) (fun k m hk hm hke hme hkm=>hp k m hk hm hkm (hall k hk hke) (hall m hm hme))
    rw[← fill_but e (l.take i) 0 listed vals a0 (fun k hk hke=>by rw[Nat.zero_add]at hke ⊢;exact hall k (by omega) hke) (fun _=>getD_both hel),← ha]at hw
    have hli:l[i]?=some o:=by simpa using ho
    have hl1:(l.drop i).take 1=[o]:=by
     rw[List.drop_eq_getElem_cons (by simpa using hisz)]
     have:l[i]'(by simpa using hisz)=o:=(List.getElem?_eq_some_iff.1 hli).2
     simp[this]
    have hlt':i<l.length:=by simpa using hisz
    have heL:e<l.length:=by omega
    have hl2:(l.drop e).take 1=[l[e]]:=by rw[List.drop_eq_getElem_cons heL,List.take_succ_cons,List.take_zero]
    unfold lateL at hw
    rw[hl1,hl2]at hw
    have hw2:wpOp P l.toArray Q i (wpList P l.toArray Q ([l[e]]++l.drop (i+1))) a w:=by unfold wpOp;simp only[ho];exact hw
    have hlen:(e::List.range' (i+1) (l.toArray.size - i - 1)).length=0+(l.toArray.size - i):=by simp;omega
    refine wpOp_mono (fun a' w' h'=>?_) hw2
    rw[← hlen]
    refine wpAny_of_order (e::List.range' (i+1) (l.toArray.size - i - 1)) ([l[e]]++l.drop (i+1)) _ a' w' (by simp;omega) (fun j k hk=>?_) ?_ h'
    ·cases j with
     | zero=>simp at hk;subst hk;simp[heL]
     | succ j =>
      simp only[List.getElem?_cons_succ]at hk
      obtain⟨hk1,hk2⟩:=List.getElem?_eq_some_iff.1 hk
      simp at hk2
      subst hk2
      simp
    ·rw[hlist];exact hord
   have ho':l[i]?=some o:=by simpa using ho
   have hot:(l.take n)[i]?=some o:=by rw[List.getElem?_take_of_lt hin];exact ho'
   obtain⟨d,hod⟩:∃ d,o.dst=some d:=by
    have:∀ (r:List Oper) (j:Nat),dstsB r=true→r[j]?=some o→∃ d,o.dst=some d:=by
     intro r
     induction r with
     | nil=>intro j _ h;simp at h
     | cons x r ihr =>
      intro j hdd h
      simp only[dstsB,Bool.and_eq_true]at hdd
      cases j with
      | zero=>simp at h;subst h;exact Option.isSome_iff_exists.1 hdd.1.1
      | succ j=>exact ihr j hdd.2 (by simpa using h)
    exact this _ i hd' hot
   have hbd:∀ (j:Nat) (oj:Oper) (dj:Tmp),(l.take n)[j]?=some oj→oj.dst=some dj→dj<a0.tmps.size:=by
    intro j oj dj hj hdj
    have:=List.all_eq_true.1 hsz oj (List.mem_of_getElem? hj)
    simpa [hdj] using this
   have hctx:RCtx (l.take n) Ss a0 w0 o a w:=by
    refine⟨hb,fun t ht=>by rw[ha];exact fill_frame _ _ _ _ _ t ht,fun j dj hj hdj=>?_,by rw[ha,fill_size]⟩
    obtain⟨e,he,hbe⟩:=List.any_eq_true.1 hj
    simp only[Bool.and_eq_true,beq_iff_eq]at hbe
    have hlj:=haft e (Array.mem_toList_iff.1 he) hbe.1
    rw[hbe.2]at hlj
    obtain⟨oj,hoj,hdj'⟩:=Option.bind_eq_some_iff.1 hdj
    have hjn:j<n:=by have:=(List.getElem?_eq_some_iff.1 hoj).1;omega
    rw[ha,fill_at _ 0 listed vals a0 j oj dj hd' hoj hdj' (hbd j oj dj hoj hdj') (by rw[Nat.zero_add];exact hlj),Nat.zero_add]
    exact hv j hjn hlj
   have hstep':=hstep i o hin ho' a w hctx
   have hnext:∀ v w',Below w.heap.size w w'→(Ss i v w'∧(D i=true→w.heap.size≤blk v))→wpAny P .any l.toArray Q (f+(l.toArray.size - n)) (listed.setIfInBounds i true) (a.put o.dst v) w':=by
    intro v w' hbw ⟨hsv,hfr⟩
    have hmemi:i ∈ rem:=(hrem i).2 ⟨hin,hil⟩
    refine ih (rem.erase i) (by rw[List.length_erase_of_mem hmemi,hl];rfl) (hnd.erase i) _ _ w' (inv.set hi hin) (fun j=>?_) ⟨fun j=>if j=i then v else vals j,?_,fun j hj hlj=>?_,fun j k hj hk hjk hlj hlk hDj hDk=>?_⟩ (hb.trans (hbw.mono hb.size))
    ·rw[hnd.mem_erase_iff,hrem j]
     by_cases hji:j=i
     ·subst hji
      have hjs:j<listed.size:=by rw[inv.size];simp;omega
      simp[hjs]
     ·rw[getD_set_ne true (fun e=>hji e.symm)]
      simp[hji]
    ·have:=fill_set (l.take n) 0 i listed vals a0 o d v hd' hot hod (by rw[Nat.zero_add];exact hil)
     rw[Nat.zero_add]at this
     rw[this,← ha,hod]
    ·by_cases hji:j=i
     ·subst hji;simpa using hsv
     ·show Ss j (if j=i then v else vals j) w'
      rw[if_neg hji]
      rw[getD_set_ne false (fun e=>hji e.symm)]at hlj
      exact hst j hj _ _ _ (hv j hj hlj) hbw
    ·show blk (if j=i then v else vals j)≠blk (if k=i then v else vals k)
     by_cases hji:j=i
     ·subst hji
      rw[if_pos rfl,if_neg (fun e=>hjk e.symm)]
      rw[getD_set_ne false hjk]at hlk
      have h1:=hlt k hk hDk _ _ (hv k hk hlk)
      have h2:=hfr hDj
      omega
     ·rw[if_neg hji]
      rw[getD_set_ne false (fun e=>hji e.symm)]at hlj
      by_cases hki:k=i
      ·subst hki
       rw[if_pos rfl]
       have h1:=hlt j hj hDj _ _ (hv j hj hlj)
       have h2:=hfr hDk
       omega
      ·rw[if_neg hki]
       rw[getD_set_ne false (fun e=>hki e.symm)]at hlk
       exact hp j k hj hk hjk hlj hlk hDj hDk
   unfold wpOp
   simp only[ho]
   unfold RStep at hstep'
   split
   ·rename_i hw
    rw[if_pos hw]at hstep'
    refine .inl (wpQ_mono (Oper.wp_mono (fun a' w' ⟨v,e,hbw,hsv⟩=>?_) hstep'))
    subst e
    exact hnext v w' hbw hsv
   ·rename_i hw
    rw[if_neg hw]at hstep'
    exact hnext undef w (Below.refl _ w) hstep'
 have h0:=key (List.range n) n (by simp) List.nodup_range (Array.replicate l.toArray.size false) a0 {w0 with drawn:=w0.drawn+1}
  ⟨by simp,fun j oj _ hl=>(by rw[getD_replicate_false]at hl;cases hl),fun t _ ht=>getD_in (by simpa using ht) (getD_replicate_false _ _)⟩
  (fun i=>by
   rw[List.mem_range]
   constructor
   ·intro h;exact⟨h,getD_in (by simp;omega) (getD_replicate_false _ _)⟩
   ·intro h;exact h.1)
  ⟨fun _=>undef,(fill_none _ _ _ _ _ (fun i=>getD_replicate_false _ _)).symm,fun i _ h=>(by rw[getD_replicate_false]at h;cases h),fun i j _ _ _ h=>(by rw[getD_replicate_false]at h;cases h)⟩
  ((Below.refl _ w0).drew)
 rw[show n+(l.toArray.size - n)=l.toArray.size from by omega]at h0
 exact h0
theorem wpIn_round_late {P:Program} {id k c:Nat} {Q:Exit→Act→World→Prop} {a0:Act} {w0:World} {l:List Oper} (n e:Nat) (L:List (Value→World→Prop)) (D:Nat→Bool)
  (hm:P.follows .mixedOrders=true) (hQ:¬ LetsOut Q) (hc:noDefer l=true) (hB:lateB l.toArray n e=true) (hsz:(l.take n).all (fun o=>match o.dst with|some d=>decide (d<a0.tmps.size)|none=>true)=true)
  (hst:AllStable L) (hlt:∀ i,i<n→D i=true→∀ v w,lookS L i v w→blk v<w.heap.size)
  (hstep:Obl P l (l.take n) L D a0 w0 (l.take n) 0)
  (hend:∀ vals w,Below w0.heap.size w0 w→(∀ i,i<n→lookS L i (vals i) w)→(∀ i j,i<n→j<n→i≠j→D i=true→D j=true→blk (vals i)≠blk (vals j)) →
   wpList P l.toArray Q (l.drop n) (fillAll (l.take n) 0 vals a0) w)
  (hend2:∀ vals w,Below w0.heap.size w0 w→(∀ i,i<n→i≠e→lookS L i (vals i) w)→(∀ i j,i<n→j<n→i≠e→j≠e→i≠j→D i=true→D j=true→blk (vals i)≠blk (vals j)) →
   wpList P l.toArray Q (lateL l n e) (fillBut e (l.take n) 0 vals a0) w) :
  (Code.region id l.toArray true).wpIn (Fence.wide.inRound k) c P Q a0 w0 :=
 wpIn_region_any hm (wpAnyIn_round hQ hc _ _ _ _ (wpAny_lateD n e (lookS L) D hB hsz (fun i _ v w w' h hb=>lookS_stable L i hst v w w' h hb) hlt
  (fun i o hi ho a w hc=>by
   have:=Obl.get (l.take n) 0 hstep i o (by rw[List.getElem?_take_of_lt hi];exact ho) a w hc
   rwa [Nat.zero_add]at this) hend hend2))
end Go.Proofs.Ytdoflhjhaciepaa
