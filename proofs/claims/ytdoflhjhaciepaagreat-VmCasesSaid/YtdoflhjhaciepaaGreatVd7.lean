/-
  Laws of walks, and walks.
-/
import Derived.Test.YtdoflhjhaciepaaGreatVd6
import Derived.Test.YtdoflhjhaciepaaGreatVd1
import Derived.Deep.CutBlock
import Derived.Test.YtdoflhjhaciepaaGreatVd3
set_option linter.unusedVariables false
set_option linter.unusedSimpArgs false
set_option maxRecDepth 100000
set_option maxHeartbeats 16000000
namespace Go.Proofs.YtdoflhjhaciepaaGreat
section
open Go.RowKit Go.Shelf
attribute [local go_sem] Oper.semAt_some
section
variable {P:Program} {ops:Array Oper} {o:Oper} {a:Act} {w:World}
theorem zGA {v:Value} (hg:Region.wanted o (yielded ops a.tmps)=true) (hr:(execOp a.eval o).run P w=.ok (.value v) w):zA7 P ops o a w (fun v' _=>v'=v):=zBr hg hr (Below.refl _ w) rfl
theorem zOC {x:Operand} {v:Value} (hg:Region.wanted o (yielded ops a.tmps)=true) (hop:o.op=Op.move x) (hx:a.eval x=v):zA7 P ops o a w (fun v' _=>v'=v):=zGA hg (by simp only[execOp,hop,hx];rfl)
def OneT (cs:Array Value) (T:TypeId):zGt:=fun N M v W=>∃ b,v=.slice (some ⟨b,0,none⟩) 1 1∧N≤b∧b<M∧W.heap[b]?=some (.cells cs T (0,0))
theorem zKV (cs:Array Value) (T:TypeId):zFU (OneT cs T):=fun _ _ _ _ _ ⟨b,e,h1,h2,h3⟩ hb=>⟨b,e,h1,h2,(hb.block b (Array.getElem?_eq_some_iff.1 h3).1).trans h3⟩
def zRe (G:Nat→Prop) (ts:List Tree):zGt:=fun N M v W=>∃ q c F,v=.slice q ts.length c∧ForestR W F q c ts∧∀ z,F z→z<M∧z<W.heap.size∧(N≤z∨G z)
theorem zI7 (G:Nat→Prop) (ts:List Tree):zFU (zRe G ts):=fun _ _ _ _ _ ⟨q,c,F,e,h1,h2⟩ hb=>⟨q,c,F,e,h1.kept (fun z hz=>hb.block z (h2 z hz).2.1),fun z hz=>⟨(h2 z hz).1,Nat.lt_of_lt_of_le (h2 z hz).2.1 hb.size,(h2 z hz).2.2⟩⟩
def zOq (n0:Nat) (G:Nat→Prop) (t:Tree):zGt:=fun _ _ v W=>∃ q c F,v=zAc t.d (.slice q t.kids.length c)∧ForestR W F q c t.kids∧∀ z,F z→z<W.heap.size∧(n0≤z∨G z)
theorem zGa (n0:Nat) (G:Nat→Prop) (t:Tree):zFU (zOq n0 G t):=fun _ _ _ _ _ ⟨q,c,F,e,h1,h2⟩ hb=>⟨q,c,F,e,h1.kept (fun z hz=>hb.block z (h2 z hz).1),fun z hz=>⟨Nat.lt_of_lt_of_le (h2 z hz).1 hb.size,(h2 z hz).2⟩⟩
def zQd (n0:Nat) (G:Nat→Prop) (ts:List Tree):zGt:=fun _ _ v W=>∃ q c F,v=.slice q ts.length c∧ForestR W F q c ts∧∀ z,F z→z<W.heap.size∧(n0≤z∨G z)
theorem zJ0 (n0:Nat) (G:Nat→Prop) (ts:List Tree):zFU (zQd n0 G ts):=fun _ _ _ _ _ ⟨q,c,F,e,h1,h2⟩ hb=>⟨q,c,F,e,h1.kept (fun z hz=>hb.block z (h2 z hz).1),fun z hz=>⟨Nat.lt_of_lt_of_le (h2 z hz).1 hb.size,(h2 z hz).2⟩⟩
end
theorem zR5 {ops:Array Oper} {o:Oper} {a:Act} {w:World} {x:Operand} {d:NodeD} {s:Value} (hg:Region.wanted o (yielded ops a.tmps)=true) (hop:o.op=Op.buildSlice 85 1 #[(0,x)]) (hx:a.eval x=zAc d s) :
  zA7 Tryz.prog ops o a w (fun v w'=>OneT (zAU d s) 87 w.heap.size w'.heap.size v w'):=by
 refine zBr hg (v:=.slice (some ⟨w.heap.size,0,none⟩) 1 1) (w':=w.alloc (.cells (zAU d s) 87)) ?_ ((Below.refl _ w).alloc (Nat.le_refl _) _) ⟨w.heap.size,rfl,Nat.le_refl _,by simp,World.alloc_heap_new w _⟩
 simp only[execOp,hop,List.map_toArray,List.map_cons,List.map_nil,hx,Sem.run_bind,zBf];rfl
theorem zQl {ops:Array Oper} {o:Oper} {a:Act} {w:World} {x:Operand} {n0:Nat} {G:Nat→Prop} {t:Tree} (hn:n0≤w.heap.size) (hg:Region.wanted o (yielded ops a.tmps)=true) (hop:o.op=Op.buildSlice 85 1 #[(0,x)]) (hx:∃ N M,zOq n0 G t N M (a.eval x) w) :
  zA7 Tryz.prog ops o a w (fun v w'=>zQd n0 G [t] w.heap.size w'.heap.size v w'):=by
 obtain⟨_,_,q,c,F,e,hf,hF⟩:=hx;have hnew:=World.alloc_heap_new w (.cells (zAU t.d (.slice q t.kids.length c)) 87);refine zBr hg (v:=.slice (some ⟨w.heap.size,0,none⟩) 1 1) (w':=w.alloc (.cells (zAU t.d (.slice q t.kids.length c)) 87)) ?_ ((Below.refl _ w).alloc (Nat.le_refl _) _) ⟨_,1,fun z=>z=w.heap.size∨F z,rfl,zOd hnew (hf.kept (fun z hz=>((Below.refl w.heap.size w).alloc (Nat.le_refl _) _).block z (hF z hz).1)) (fun _ _=>rfl),fun z hz=>?_⟩
 ·simp only[execOp,hop,List.map_toArray,List.map_cons,List.map_nil,e,Sem.run_bind,zBf];rfl
 ·rw[World.size_alloc];rcases hz with rfl|hz
  ·exact⟨Nat.lt_succ_self _,.inl hn⟩
  ·exact⟨Nat.lt_succ_of_lt (hF z hz).1,(hF z hz).2⟩
theorem Knows.rd {F:Nat→Prop} {p:Option Addr} {n c:Nat} {xs:List TV} {V:World} (h:Knows F p n c xs V):RdN 10 V F (.slice p n c) (xs.map zAy):=h.1
theorem zMD (r:Array Value) (rows:List (Array Value)):zAP (r::rows)=r.toList++zAP rows:=by simp[zAP]
theorem zLZ:∀ (m:Nat) (d:NodeD) (p0:Option Addr) (n0 c0:Nat) (k:Tree) (p:Option Addr) (c:Nat) (F:Nat→Prop) (w0:World),m≤100→zAT k≤2000→(∀ b,F b→b<w0.heap.size)→ForestR w0 F p c k.kids →
  Calls Tryz.prog 154 #[zAc d (.slice p0 n0 c0),zAc k.d (.slice p k.kids.length c),.int .i64 m] w0 fun e w'=>zFV w0 F (zDz d k m) e w'∧Below w0.heap.size w0 w'
 | 0,d,p0,n0,c0,k,p,c,F,w0,_,_,hF,h=>by
  have H:=Hold.start w0
  go_enter Tryz.func154,Tryz.ntmps154
  go_wp2_with (first|((with_reducible refine gX ?_);(refine bB H ?_;clear H;intro b w H;try simp only[nr]at H)))
  go_ret;exact⟨⟨none,0,fun _=>False,rfl,ForestR.nil ..,fun _ h=>h.elim⟩,H.below⟩
 | m+1,d,p0,n0,c0,k,p,c,F,w0,hm,hk,hF,h=>by
  have IH:=zLZ m;obtain⟨i0,hi0,hz0,hz1,hz2⟩:=info_parts zD0;have H:=(Hold.start w0).know F (fun V=>ForestR V F p c k.kids) hF (fun i r h=>by simp at h) (fun V hV=>h.kept hV)
  clear h;simp only[List.nil_append]at H;have hm0:((m:Int)+1 == 0)=false:=by rw[beq_eq_false_iff_ne];omega
  have hm1:IntKind.i64.wrap (m:Int)=(m:Int):=by rw[IntKind.wrap_i64];omega
  have hlr:=zKy d k m;have hsr:=zFm d k m;have hsr2:zAK (zDz d k m)≤1000000:=by
   have h1:m * (zAT k+2)≤100 * 2002:=Nat.mul_le_mul (by omega) (by omega)
   omega
  have hsc:=zFq (k::zDz d k m);clear hsr;simp only[zAK]at hsc
  generalize hrs:zDz d k m=rs at hlr hsr2 hsc
  have HRS:=Lib.hid hrs;have hih:∀ W,Hold w0 W [.kn F (fun V=>ForestR V F p c k.kids)]→Calls Tryz.prog 154 #[zAc d (.slice p0 n0 c0),zAc k.d (.slice p k.kids.length c),.int .i64 m] W fun e w'=>zFV W F rs e w'∧Below W.heap.size W w':=fun W h=>hrs ▸ IH d p0 n0 c0 k p c F W (by omega) hk (h.knlt .zero) (h.kn .zero)
  clear IH hrs
  go_enter Tryz.func154,Tryz.ntmps154
  go_upto_region 3 with (first|((first|((with_reducible refine kgA 3 ?_);refine kA 3 H ?_)|((with_reducible refine kgX 3 ?_);(first|refine kS 3 H ?_|refine kB 3 H ?_)));clear H;intro b3 w H;try simp only[nr]at H)|((first|((with_reducible refine kgA 4 ?_);refine kA 4 H ?_)|((with_reducible refine kgX 4 ?_);(first|refine kS 4 H ?_|refine kB 4 H ?_)));clear H;intro b4 w H;try simp only[nr]at H)|fail)
  go_wp2_with fail
  refine zEi 7 [fun _ _ v _=>v=zAc k.d (.slice p k.kids.length c),OneT (zAU k.d (.slice p k.kids.length c)) 87,fun _ _ v _=>v=zAc d (.slice p0 n0 c0),fun _ _ v _=>v=zAc k.d (.slice p k.kids.length c),fun _ _ v _=>v=.int .i64 ((m:Int)+1),fun _ _ v _=>v=.int .i64 (m:Int),zRe F rs]
   (by kernel_rfl) (by kernel_rfl) (by kernel_rfl) ⟨zCg _,zKV _ _,zCg _,zCg _,zCg _,zCg _,zI7 _ _,trivial⟩ ?ob ?en
  case ob =>
   refine⟨?_,?_,?_,?_,?_,?_,?_,trivial⟩<;>intro A W h
   ·exact zGA rfl (zAb rfl (h.f 4) zAR rfl (fun j _=>by rw[Nat.zero_add];exact(H.call h.below).cell (i:=2) i_2 j))
   ·obtain⟨_,_,e⟩:=h.d 0 10;exact zR5 rfl rfl e
   ·exact zGA rfl (zAb rfl (h.f 3) zAR rfl (fun j _=>by rw[Nat.zero_add];exact(H.call h.below).cell (i:=1) i_1 j))
   ·exact zGA rfl (zAb rfl (h.f 4) zAR rfl (fun j _=>by rw[Nat.zero_add];exact(H.call h.below).cell (i:=2) i_2 j))
   ·exact zOC rfl rfl (h.f 2)
   ·obtain⟨_,_,e⟩:=h.d 4 14;have e':A.eval (.tmp 14)=.int .i64 ((m:Int)+1):=e;exact zGA rfl (by simp only[execOp,e'];simp[go_sem,hm1])
   ·obtain⟨_,_,e1⟩:=h.d 2 12;obtain⟨_,_,e2⟩:=h.d 3 13;obtain⟨_,_,e3⟩:=h.d 5 15;refine zDO rfl rfl (enters_of Tryz.func154 (by kernel_rfl) rfl) (zJi ⟨e1,e2,e3⟩) ((hih W ((H.call h.below).pick [0] _ (by decide) rfl)).mono ?_)
    rintro e w' ⟨⟨q,c2,F2,rfl,hs,hF2⟩,hb⟩;exact⟨_,rfl,hb,q,c2,F2,rfl,hs,fun z hz=>⟨(hF2 z hz).1,(hF2 z hz).1,(hF2 z hz).2⟩⟩
  case en =>
   intro vals iv W hbw hv hiv;have v0:vals 0=zAc k.d (.slice p k.kids.length c):=(hv 0 (by omega)).1
   have v2:vals 2=zAc d (.slice p0 n0 c0):=(hv 2 (by omega)).1
   have v3:vals 3=zAc k.d (.slice p k.kids.length c):=(hv 3 (by omega)).1
   have v4:vals 4=.int .i64 ((m:Int)+1):=(hv 4 (by omega)).1
   have v5:vals 5=.int .i64 (m:Int):=(hv 5 (by omega)).1
   obtain⟨⟨b,e1,hb1,hb2,hh⟩,hb3,hb4⟩:=hv 1 (by omega)
   obtain⟨⟨q,c2,F2,e6,hs,hF2⟩,hq1,hq2⟩:=hv 6 (by omega)
   have hd:=hiv 1 6 (by omega) (by omega) (by omega)
   have hbF:¬ F2 b:=fun hf=>by
    rcases(hF2 b hf).2.2 with h|h
    ·have:=(hF2 b hf).1;omega
    ·have:=H.knlt (i:=0) .zero b h;omega
   obtain⟨xs,hx1,hx2,rfl⟩:=hs.open;have hxl:(xs.map (·.1)).length=xs.length:=List.length_map ..;rw[hxl]at e6 hlr;have hH:=H.gainRK (sz:=10) hbw (by omega:w.heap.size≤b) hh rfl (F:=F2) (G:=F) (S:=Knows F2 q xs.length c2 xs) (Still.at (i:=0) .zero) (fun z hz=>⟨(hF2 z hz).2.1,(hF2 z hz).2.2.imp (fun h=>Nat.le_trans hq1 h) id⟩) hbF (fun V hV=>⟨hx1.kept hV,hx2.kept hV⟩)
   simp only[List.cons_append,List.nil_append]at hH;simp only[fa,Nat.reduceAdd];rw[v0,e1,v2,v3,v4,v5,e6];have hN6:w0.heap.size≤(iv 6).1:=Nat.le_trans H.below.size hq1;clear hv v0 e1 v2 v3 v4 v5 e6 hiv hd hbF hs hx1 hx2 hb1 hb2 hb3 hb4 hh hq1 hq2 H;have H:=hH;clear hH;simp only[pl]
   go_upto_region 4 with (first|(at_builtin;refine zDK rfl _ _ 85 rfl H (i:=3) evd_ evd_ i_3 (Knows.rd (H.kn (i:=4) i_4)) (zCH _) Tryz.underlying85 hi0 hz0 hz1 hz2 rfl (by decide) (zGQ _) (by unfold maxLen;omega) (by omega) ?_;clear H;intro v2 w H;try simp only[nr]at H)|fail)
   obtain⟨q',cap',rfl,_,_,_⟩:=H.rowShape (i:=3) i_3;rw[show (zAU k.d (.slice p k.kids.length c)).toList++zAP (xs.map zAy)=zAP ((((k,p,c):TV)::xs).map zAy) from (zMD _ _).symm]at H
   obtain⟨G',hG',H2⟩:=H.rowForest (i:=3) (xs:=((k,p,c):TV)::xs) (K:=fun z=>F z∨F2 z) i_3 (by simp;omega) ((Still.at (i:=0) .zero).or (Still.at (i:=4) i_4)) (fun y hy=>by
    rcases List.mem_cons.1 hy with rfl|hy
    ·exact(H.kn (i:=0) .zero).mono (fun _ h=>.inl h)
    ·exact((H.kn (i:=4) i_4).2 y hy).mono (fun _ h=>.inr h))
   clear H;have H:=H2;clear H2;simp only[List.set_cons_succ,List.set_cons_zero,List.map_cons]at H;have hF2l:∀ z,F2 z→w0.heap.size≤z∨F z:=fun z hz=>(hF2 z hz).2.2.imp (fun h=>Nat.le_trans hN6 h) id
   have hGl:∀ z,G' z→w0.heap.size≤z∨F z:=fun z hz=>(hG' z hz).elim .inl (fun h=>h.elim .inr (hF2l z))
   clear hG' hF2 hF2l hN6 hih hlr;have ES:=Lib.hid (show zAK (k::xs.map (·.1))≤1000000000 by simp only[zAK];omega)
   have ER:=Lib.hid (show zDz d k (m+1)=[zB2 d (catT (k::xs.map (·.1))) 1] by rw[zDz,HRS.out])
   generalize hct:catT (k::xs.map (·.1))=ct at ER
   have HCT:=Lib.hid hct;clear hct hsc hsr2
   go_wp2_with fail
   refine zEi 5 [fun _ _ v _=>v=zAc d (.slice p0 n0 c0),fun _ _ v _=>v=.slice q' (1+xs.length) cap',zOq w.heap.size G' ct,zOq w.heap.size G' (zB2 d ct 1),zQd w.heap.size G' [zB2 d ct 1]]
    (by kernel_rfl) (by kernel_rfl) (by kernel_rfl) ⟨zCg _,zCg _,zGa _ _ _,zGa _ _ _,zJ0 _ _ _,trivial⟩ ?ob2 ?en2
   case ob2 =>
    refine⟨?_,?_,?_,?_,?_,trivial⟩<;>intro A W h
    ·exact zGA rfl (zAb rfl (h.f 3) zAR rfl (fun j _=>by rw[Nat.zero_add];exact(H.call h.below).cell (i:=1) i_1 j))
    ·exact zOC rfl rfl (h.f 7)
    ·obtain⟨_,_,e1⟩:=h.d 1 19;have HW:=H.call h.below;have hc:=zIo q' (1+xs.length) cap' G' (k::xs.map (·.1)) W (HW.knlt (i:=3) i_3) (HW.kn (i:=3) i_3) (by rw[List.length_cons,List.length_map];omega) ES.out
     rw[HCT.out]at hc;refine zDO rfl rfl (enters_of Tryz.func140 (by kernel_rfl) rfl) (zCL e1) (hc.mono ?_)
     rintro e w' ⟨⟨q3,c3,F3,rfl,hs3,hF3⟩,hb⟩;exact⟨_,rfl,hb,q3,c3,F3,rfl,hs3,fun z hz=>⟨(hF3 z hz).1,(hF3 z hz).2.imp (fun hh=>Nat.le_trans h.below.size hh) id⟩⟩
    ·obtain⟨_,_,e0⟩:=h.d 0 18;obtain⟨_,_,q3,c3,F3,e2,hs3,hF3⟩:=h.d 2 20;refine zDO rfl rfl (enters_of Tryz.func153 (by kernel_rfl) rfl) (zJi ⟨e0,e2,rfl⟩) ((zJG d p0 n0 c0 ct q3 c3 1 F3 W (fun z hz=>(hF3 z hz).1) hs3).mono ?_)
     rintro e w' ⟨⟨q4,c4,F4,rfl,hs4,hF4⟩,hb⟩;exact⟨_,rfl,hb,q4,c4,F4,rfl,hs4,fun z hz=>⟨(hF4 z hz).1,(hF4 z hz).2.elim (fun hh=>.inl (Nat.le_trans h.below.size hh)) (fun hh=>(hF3 z hh).2)⟩⟩
    ·exact zQl h.below.size rfl rfl (h.d 3 21)
   case en2 =>
    intro vals iv W2 hbw2 hv hiv;have v0:vals 0=zAc d (.slice p0 n0 c0):=(hv 0 (by omega)).1
    have v1:vals 1=.slice q' (1+xs.length) cap':=(hv 1 (by omega)).1
    obtain⟨⟨q3,c3,F3,v2,_,_⟩,_,_⟩:=hv 2 (by omega)
    obtain⟨⟨q4,c4,F4,v3,_,_⟩,_,_⟩:=hv 3 (by omega)
    obtain⟨⟨q5,c5,F5,v4,hs5,hF5⟩,_,_⟩:=hv 4 (by omega)
    simp only[fa,Nat.reduceAdd];rw[v0,v1,v2,v3,v4];have H5:=H.call hbw2;have hsz:=H.below.size;clear hv v0 v1 v2 v3 v4 hiv H;simp only[pl]
    go_wp2_with fail
    go_ret;refine⟨?_,H5.below⟩;rw[ER.out];exact⟨q5,c5,F5,rfl,hs5,fun z hz=>⟨(hF5 z hz).1,(hF5 z hz).2.elim (fun hh=>.inl (Nat.le_trans hsz hh)) (hGl z)⟩⟩
theorem zRu (t:Array Value) (h:t.size=154):∃ x0 x1 x2 x3 x4 x5 x6 x7 x8 x9 x10 x11 x12 x13 x14 x15 x16 x17 x18 x19 x20 x21 x22 x23 x24 x25 x26 x27 x28 x29 x30 x31 x32 x33 x34 x35 x36 x37 x38 x39 x40 x41 x42 x43 x44 x45 x46 x47 x48 x49 x50 x51 x52 x53 x54 x55 x56 x57 x58 x59 x60 x61 x62 x63 x64 x65 x66 x67 x68 x69 x70 x71 x72 x73 x74 x75 x76 x77 x78 x79 x80 x81 x82 x83 x84 x85 x86 x87 x88 x89 x90 x91 x92 x93 x94 x95 x96 x97 x98 x99 x100 x101 x102 x103 x104 x105 x106 x107 x108 x109 x110 x111 x112 x113 x114 x115 x116 x117 x118 x119 x120 x121 x122 x123 x124 x125 x126 x127 x128 x129 x130 x131 x132 x133 x134 x135 x136 x137 x138 x139 x140 x141 x142 x143 x144 x145 x146 x147 x148 x149 x150 x151 x152 x153:Value,t=List.toArray (x0::x1::x2::x3::x4::x5::x6::x7::x8::x9::x10::x11::x12::x13::x14::x15::x16::x17::x18::x19::x20::x21::x22::x23::x24::x25::x26::x27::x28::x29::x30::x31::x32::x33::x34::x35::x36::x37::x38::x39::x40::x41::x42::x43::x44::x45::x46::x47::x48::x49::x50::x51::x52::x53::x54::x55::x56::x57::x58::x59::x60::x61::x62::x63::x64::x65::x66::x67::x68::x69::x70::x71::x72::x73::x74::x75::x76::x77::x78::x79::x80::x81::x82::x83::x84::x85::x86::x87::x88::x89::x90::x91::x92::x93::x94::x95::x96::x97::x98::x99::x100::x101::x102::x103::x104::x105::x106::x107::x108::x109::x110::x111::x112::x113::x114::x115::x116::x117::x118::x119::x120::x121::x122::x123::x124::x125::x126::x127::x128::x129::x130::x131::x132::x133::x134::x135::x136::x137::x138::x139::x140::x141::x142::x143::x144::x145::x146::x147::x148::x149::x150::x151::x152::x153::[]):=by
 rw[zIs t 154 h];exact⟨_,_,_,_,_,_,_,_,_,_,_,_,_,_,_,_,_,_,_,_,_,_,_,_,_,_,_,_,_,_,_,_,_,_,_,_,_,_,_,_,_,_,_,_,_,_,_,_,_,_,_,_,_,_,_,_,_,_,_,_,_,_,_,_,_,_,_,_,_,_,_,_,_,_,_,_,_,_,_,_,_,_,_,_,_,_,_,_,_,_,_,_,_,_,_,_,_,_,_,_,_,_,_,_,_,_,_,_,_,_,_,_,_,_,_,_,_,_,_,_,_,_,_,_,_,_,_,_,_,_,_,_,_,_,_,_,_,_,_,_,_,_,_,_,_,_,_,_,_,_,_,_,_,_,rfl⟩
theorem zMb (d:NodeD) (n:Nat):((!(zAj d n)) || (((d.kind) != (6))&&((((d.lo) != (0)) || ((d.hi) != (0))) || (d.lazy))))=!(zC6 d n):=by
 unfold zC6 zId
 cases zAj d n<;>simp
theorem zL8 {xs:List TV} {j:Nat} {x:TV} (h:xs[j]?=some x):zAf ((xs.map (·.1)).take (j+1))=(zAf ((xs.map (·.1)).take j)&&zAn x.1):=zGk (by rw[List.getElem?_map,h];rfl)
theorem zPD {xs:List TV} {j:Nat} {x:TV} (h:xs[j]?=some x) (hf:zAn x.1=false):zAf (xs.map (·.1))=false:=zJ4 (i:=j) (by rw[List.getElem?_map,h];rfl) hf
theorem zJQ:∀ (m:Nat) (t:Tree) (p:Option Addr) (n c:Nat) (F:Nat→Prop) (w0:World),zAT t≤m→m≤1000000000000→(∀ b,F b→b<w0.heap.size)→ForestR w0 F p c t.kids→n=t.kids.length →
  Calls Tryz.prog 137 #[zAc t.d (.slice p n c)] w0 (Rt (.bool (zAn t)) w0)
 | 0,t,_,_,_,_,_,hm,_,_,_,_=>by have:=zBL t;omega
 | m+1,.mk d ts,p,n,c,F,w0,hm,hm2,hF,h,hn=>by
  have IH:=zJQ m;simp only[Tree.kids,Tree.d]at h hn ⊢;obtain⟨xs,h1,h2,rfl⟩:=h.open;have E:=Lib.hid (show zAn (.mk d (xs.map (·.1)))=(zC6 d n&&zAf (xs.map (·.1))) by rw[zAn,hn])
  rw[List.length_map]at hn;rw[← hn]at h1;have hK:Knows F p n c xs w0:=⟨h1,h2⟩;clear h h1 h2;have H:=Hold.knows hF hK;have hc1:=hK.bound.2.1;have hc2:=hK.bound.2.2;have hp:=hK.at;clear hK;simp only[zAT]at hm;have HN:=Lib.hid hn;clear hn
  go_enter Tryz.func137,Tryz.ntmps137
  go_upto_region 1 with (first|((first|((with_reducible refine kgA 1 ?_);refine kA 1 H ?_)|((with_reducible refine kgX 1 ?_);(first|refine kS 1 H ?_|refine kB 1 H ?_)));clear H;intro b1 w H;try simp only[nr]at H)|fail)
  go_wp2_with fail
  obtain⟨T,hT,fw,hf,h0⟩:=fam w;have e1:=fun x=>(H.call (hf x)).cell (i:=1) i_1 1
  have e2:=fun x=>(H.call (hf x)).cell (i:=1) i_1 2
  have e3:=fun x=>(H.call (hf x)).cell (i:=1) i_1 3
  have e4:=fun x=>(H.call (hf x)).cell (i:=1) i_1 4
  have e5:=fun x=>(H.call (hf x)).cell (i:=1) i_1 5
  have e9:=fun x=>(H.call (hf x)).cell (i:=1) i_1 9
  simp only[ng1,ng2,ng3,ng4,ng5,ng9]at e1 e2 e3 e4 e5 e9;have heq:∀ W,(Op.equalIn 10000 40 (.agg #[.int .u64 (d.set 0),.int .u64 (d.set 1),.int .u64 (d.set 2),.int .u64 (d.set 3)]) (.agg #[.int .u64 0,.int .u64 0,.int .u64 0,.int .u64 0])).run Tryz.prog W=.ok (eqS d.set zAE) W:=zF0 d.set zAE;refine zCW fw (by kernel_rfl) (by kernel_rfl) h0 ?_
  repeat (go_big_quiet_step (fail))
  refine wpQuiet_nil ?_
  rintro _ ⟨x,rfl⟩;replace H:=H.call (hf x);obtain⟨wq,hwq⟩:∃ wq,fw x=wq:=⟨_,rfl⟩;rw[hwq]at H ⊢;clear hwq e1 e2 e3 e4 e5 e9 heq h0 hf;clear x fw hT T;have hk0:n=0∨n=1∨1<n:=by omega
  generalize hbs:eqS d.set zAE=bs
  generalize hbg:(d.group != 0)=bg
  have HBS:=Lib.hid hbs;have HBG:=Lib.hid hbg;clear hbs hbg
  go_upto_block 0 with (first|((with_reducible refine gL ?_);refine aG H ?_))
  simp only[pl];refine wp_cut (fun a' w'=>(∃ t:Array Value,a'=({tmps:=t,defers:=[]}:Act)∧t.size=154∧t[0]?=some (zAc d (.slice p n c))∧t[1]?=some (.pointer (some ⟨b1,0,none⟩))∧t[2]?=some (.bool false)∧t[3]?=some (.bool (!bs))∧t[4]?=some (.bool bg)∧t[5]?=some (.int .i64 (n:Int))∧t[6]?=some (.bool (zAj d n)))∧Hold w0 w' [.kn F (Knows F p n c xs),.blk b1 (zAU d (.slice p n c)) 87]) ?rest ?first
  case first =>
   intro J K' hJ hM
   by_cases h3:d.kind=3
   ·have d3:(d.kind == 3)=true:=by rw[beq_iff_eq];exact h3
    have EO:=Lib.hid (show zAj d n=(!bs&&((n:Int) == 0)&&!bg) by rw[zAj,if_pos h3,HBS.out,HBG.out])
    clear h3
    go_upto_region 6 with (first|fail)
    refine ws_ 10 [fun v _=>v=Value.bool (!bs),fun v _=>v=Value.bool (!bs),fun v _=>v=iT (true) (!bs) true (.int .i64 ((n:Int))),fun v _=>v=iT (true) (!bs) true (.bool (((n:Int)) == (0))),fun v _=>v=Value.bool ((!bs)&&(((n:Int)) == (0))),fun v _=>v=Value.bool ((!bs)&&(((n:Int)) == (0))),fun v _=>v=iT (true) ((!bs)&&(((n:Int)) == (0))) true (.bool (bg)),fun v _=>v=iT (true) ((!bs)&&(((n:Int)) == (0))) true (.bool (!(bg))),fun v _=>v=Value.bool (((!bs)&&(((n:Int)) == (0)))&&(!(bg))),fun v _=>v=Value.bool (((!bs)&&(((n:Int)) == (0)))&&(!(bg)))] ?ob ?en
    case ob =>
     refine⟨?_,?_,?_,?_,?_,?_,?_,?_,?_,?_,trivial⟩<;>intro A W h
     ·exact zAA rfl (zAN (.inl rfl) (h.f 3))
     ·exact zAA rfl (zAN (.inl rfl) (h.d 0 42))
     ·refine sy_ (h.d 1 43) fun hC=>?_;exact zAN (.inl rfl) (h.f 5)
     ·refine sy_ (h.d 1 43) fun hC=>?_;exact(by have e44:A.eval (.tmp 44)=Value.int .i64 ((n:Int)):=zAD (h.d 2 44) hC;simp only[execOp,e44];simp[go_sem])
     ·exact zAA rfl (zA1 rfl (h.d 1 43) (fun hb2=>zAD (h.d 3 45) (by (first|(rw[hb2];rfl)|simp[hb2]))))
     ·exact zAA rfl (zAN (.inl rfl) (h.d 4 46))
     ·refine sy_ (h.d 5 47) fun hC=>?_;exact zAN (.inl rfl) (h.f 4)
     ·refine sy_ (h.d 5 47) fun hC=>?_;exact(by have e:A.eval (.tmp 48)=Value.bool (bg):=zAD (h.d 6 48) hC;simp only[execOp,e];simp[go_sem])
     ·exact zAA rfl (zA1 rfl (h.d 5 47) (fun hb2=>zAD (h.d 7 49) (by (first|(rw[hb2];rfl)|simp[hb2]))))
     ·exact zAA rfl (zAN (.inr rfl) (h.d 8 50))
    case en =>
     intro vals W hbw hv _;have v9:vals 9=_:=hv 9 (by omega)
     simp only[fa,Nat.reduceAdd];rw[v9];clear hv v9
     try simp only[pl]
     have H:=H.call hbw
     go_wp2_with fail
     (refine Met.intro ?_;go_step;exact⟨⟨_,rfl,rfl,rfl,rfl,rfl,rfl,rfl,rfl,by rw[EO.out];rfl⟩,H⟩)
   ·have d3:(d.kind == 3)=false:=by rw[beq_eq_false_iff_ne];exact h3
    by_cases h45:d.kind=4∨d.kind=5
    ·have EO:=Lib.hid (show zAj d n=(decide (1<(n:Int))&&!(!bs)&&!bg) by rw[zAj,if_neg h3,if_pos h45,HBS.out,HBG.out])
     clear h3
     by_cases h4:d.kind=4
     ·have d4:(d.kind == 4)=true:=by rw[beq_iff_eq];exact h4
      clear h45 h4
      go_upto_region 9 with (first|fail)
      refine ws_ 11 [fun v _=>v=Value.int .i64 ((n:Int)),fun v _=>v=Value.bool (decide ((1)<((n:Int)))),fun v _=>v=Value.bool (decide ((1)<((n:Int)))),fun v _=>v=iT (true) (decide ((1)<((n:Int)))) true (.bool (!bs)),fun v _=>v=iT (true) (decide ((1)<((n:Int)))) true (.bool (!(!bs))),fun v _=>v=Value.bool ((decide ((1)<((n:Int))))&&(!(!bs))),fun v _=>v=Value.bool ((decide ((1)<((n:Int))))&&(!(!bs))),fun v _=>v=iT (true) ((decide ((1)<((n:Int))))&&(!(!bs))) true (.bool (bg)),fun v _=>v=iT (true) ((decide ((1)<((n:Int))))&&(!(!bs))) true (.bool (!(bg))),fun v _=>v=Value.bool (((decide ((1)<((n:Int))))&&(!(!bs)))&&(!(bg))),fun v _=>v=Value.bool (((decide ((1)<((n:Int))))&&(!(!bs)))&&(!(bg)))] ?ob ?en
      case ob =>
       refine⟨?_,?_,?_,?_,?_,?_,?_,?_,?_,?_,?_,trivial⟩<;>intro A W h
       ·exact zAA rfl (zAN (.inl rfl) (h.f 5))
       ·exact zAA rfl ((by have e54:A.eval (.tmp 54)=Value.int .i64 ((n:Int)):=h.d 0 54;simp only[execOp,e54];simp[go_sem]))
       ·exact zAA rfl (zAN (.inl rfl) (h.d 1 55))
       ·refine sy_ (h.d 2 56) fun hC=>?_;exact zAN (.inl rfl) (h.f 3)
       ·refine sy_ (h.d 2 56) fun hC=>?_;exact(by have e:A.eval (.tmp 57)=Value.bool (!bs):=zAD (h.d 3 57) hC;simp only[execOp,e];simp[go_sem])
       ·exact zAA rfl (zA1 rfl (h.d 2 56) (fun hb2=>zAD (h.d 4 58) (by (first|(rw[hb2];rfl)|simp[hb2]))))
       ·exact zAA rfl (zAN (.inl rfl) (h.d 5 59))
       ·refine sy_ (h.d 6 60) fun hC=>?_;exact zAN (.inl rfl) (h.f 4)
       ·refine sy_ (h.d 6 60) fun hC=>?_;exact(by have e:A.eval (.tmp 61)=Value.bool (bg):=zAD (h.d 7 61) hC;simp only[execOp,e];simp[go_sem])
       ·exact zAA rfl (zA1 rfl (h.d 6 60) (fun hb2=>zAD (h.d 8 62) (by (first|(rw[hb2];rfl)|simp[hb2]))))
       ·exact zAA rfl (zAN (.inr rfl) (h.d 9 63))
      case en =>
       intro vals W hbw hv _;have v10:vals 10=_:=hv 10 (by omega)
       simp only[fa,Nat.reduceAdd];rw[v10];clear hv v10
       try simp only[pl]
       have H:=H.call hbw
       go_wp2_with fail
       (refine Met.intro ?_;go_step;exact⟨⟨_,rfl,rfl,rfl,rfl,rfl,rfl,rfl,rfl,by rw[EO.out];rfl⟩,H⟩)
     ·have d4:(d.kind == 4)=false:=by rw[beq_eq_false_iff_ne];exact h4
      have d5:(d.kind == 5)=true:=by rw[beq_iff_eq];omega
      clear h45 h4
      go_upto_region 9 with (first|fail)
      refine ws_ 11 [fun v _=>v=Value.int .i64 ((n:Int)),fun v _=>v=Value.bool (decide ((1)<((n:Int)))),fun v _=>v=Value.bool (decide ((1)<((n:Int)))),fun v _=>v=iT (true) (decide ((1)<((n:Int)))) true (.bool (!bs)),fun v _=>v=iT (true) (decide ((1)<((n:Int)))) true (.bool (!(!bs))),fun v _=>v=Value.bool ((decide ((1)<((n:Int))))&&(!(!bs))),fun v _=>v=Value.bool ((decide ((1)<((n:Int))))&&(!(!bs))),fun v _=>v=iT (true) ((decide ((1)<((n:Int))))&&(!(!bs))) true (.bool (bg)),fun v _=>v=iT (true) ((decide ((1)<((n:Int))))&&(!(!bs))) true (.bool (!(bg))),fun v _=>v=Value.bool (((decide ((1)<((n:Int))))&&(!(!bs)))&&(!(bg))),fun v _=>v=Value.bool (((decide ((1)<((n:Int))))&&(!(!bs)))&&(!(bg)))] ?ob ?en
      case ob =>
       refine⟨?_,?_,?_,?_,?_,?_,?_,?_,?_,?_,?_,trivial⟩<;>intro A W h
       ·exact zAA rfl (zAN (.inl rfl) (h.f 5))
       ·exact zAA rfl ((by have e54:A.eval (.tmp 54)=Value.int .i64 ((n:Int)):=h.d 0 54;simp only[execOp,e54];simp[go_sem]))
       ·exact zAA rfl (zAN (.inl rfl) (h.d 1 55))
       ·refine sy_ (h.d 2 56) fun hC=>?_;exact zAN (.inl rfl) (h.f 3)
       ·refine sy_ (h.d 2 56) fun hC=>?_;exact(by have e:A.eval (.tmp 57)=Value.bool (!bs):=zAD (h.d 3 57) hC;simp only[execOp,e];simp[go_sem])
       ·exact zAA rfl (zA1 rfl (h.d 2 56) (fun hb2=>zAD (h.d 4 58) (by (first|(rw[hb2];rfl)|simp[hb2]))))
       ·exact zAA rfl (zAN (.inl rfl) (h.d 5 59))
       ·refine sy_ (h.d 6 60) fun hC=>?_;exact zAN (.inl rfl) (h.f 4)
       ·refine sy_ (h.d 6 60) fun hC=>?_;exact(by have e:A.eval (.tmp 61)=Value.bool (bg):=zAD (h.d 7 61) hC;simp only[execOp,e];simp[go_sem])
       ·exact zAA rfl (zA1 rfl (h.d 6 60) (fun hb2=>zAD (h.d 8 62) (by (first|(rw[hb2];rfl)|simp[hb2]))))
       ·exact zAA rfl (zAN (.inr rfl) (h.d 9 63))
      case en =>
       intro vals W hbw hv _;have v10:vals 10=_:=hv 10 (by omega)
       simp only[fa,Nat.reduceAdd];rw[v10];clear hv v10
       try simp only[pl]
       have H:=H.call hbw
       go_wp2_with fail
       (refine Met.intro ?_;go_step;exact⟨⟨_,rfl,rfl,rfl,rfl,rfl,rfl,rfl,rfl,by rw[EO.out];rfl⟩,H⟩)
    ·have d4:(d.kind == 4)=false:=by rw[beq_eq_false_iff_ne];omega
     have d5:(d.kind == 5)=false:=by rw[beq_eq_false_iff_ne];omega
     by_cases h6:d.kind=6
     ·have d6:(d.kind == 6)=true:=by rw[beq_iff_eq];exact h6
      have EO:=Lib.hid (show zAj d n=(((n:Int) == 1)&&!(!bs)&&!bg&&decide (0≤d.lo)&&decide (d.lo≤100)&&(d.hi == -1 || decide (d.lo≤d.hi)&&decide (d.hi≤100))) by rw[zAj,if_neg h3,if_neg h45,if_pos h6,HBS.out,HBG.out])
      clear h3 h45 h6
      go_upto_region 11 with (first|fail)
      refine ws_ 38 [fun v _=>v=Value.int .i64 ((n:Int)),fun v _=>v=Value.bool (((n:Int)) == (1)),fun v _=>v=Value.bool (((n:Int)) == (1)),fun v _=>v=iT (true) (((n:Int)) == (1)) true (.bool (!bs)),fun v _=>v=iT (true) (((n:Int)) == (1)) true (.bool (!(!bs))),fun v _=>v=Value.bool ((((n:Int)) == (1))&&(!(!bs))),fun v _=>v=Value.bool ((((n:Int)) == (1))&&(!(!bs))),fun v _=>v=iT (true) ((((n:Int)) == (1))&&(!(!bs))) true (.bool (bg)),fun v _=>v=iT (true) ((((n:Int)) == (1))&&(!(!bs))) true (.bool (!(bg))),fun v _=>v=Value.bool (((((n:Int)) == (1))&&(!(!bs)))&&(!(bg))),fun v _=>v=Value.bool (((((n:Int)) == (1))&&(!(!bs)))&&(!(bg))),fun v _=>v=iT (true) (((((n:Int)) == (1))&&(!(!bs)))&&(!(bg))) true (.pointer (some ⟨b1,6,none⟩)),fun v _=>v=iT (true) (((((n:Int)) == (1))&&(!(!bs)))&&(!(bg))) true (.int .i64 (d.lo)),fun v _=>v=iT (true) (((((n:Int)) == (1))&&(!(!bs)))&&(!(bg))) true (.bool (decide ((0)≤(d.lo)))),fun v _=>v=Value.bool ((((((n:Int)) == (1))&&(!(!bs)))&&(!(bg)))&&(decide ((0)≤(d.lo)))),fun v _=>v=Value.bool ((((((n:Int)) == (1))&&(!(!bs)))&&(!(bg)))&&(decide ((0)≤(d.lo)))),fun v _=>v=iT (true) ((((((n:Int)) == (1))&&(!(!bs)))&&(!(bg)))&&(decide ((0)≤(d.lo)))) true (.pointer (some ⟨b1,6,none⟩)),fun v _=>v=iT (true) ((((((n:Int)) == (1))&&(!(!bs)))&&(!(bg)))&&(decide ((0)≤(d.lo)))) true (.int .i64 (d.lo)),fun v _=>v=iT (true) ((((((n:Int)) == (1))&&(!(!bs)))&&(!(bg)))&&(decide ((0)≤(d.lo)))) true (.bool (decide ((d.lo)≤(100)))),fun v _=>v=Value.bool (((((((n:Int)) == (1))&&(!(!bs)))&&(!(bg)))&&(decide ((0)≤(d.lo))))&&(decide ((d.lo)≤(100)))),fun v _=>v=Value.bool (((((((n:Int)) == (1))&&(!(!bs)))&&(!(bg)))&&(decide ((0)≤(d.lo))))&&(decide ((d.lo)≤(100)))),fun v _=>v=iT (true) (((((((n:Int)) == (1))&&(!(!bs)))&&(!(bg)))&&(decide ((0)≤(d.lo))))&&(decide ((d.lo)≤(100)))) true (.pointer (some ⟨b1,7,none⟩)),fun v _=>v=iT (true) (((((((n:Int)) == (1))&&(!(!bs)))&&(!(bg)))&&(decide ((0)≤(d.lo))))&&(decide ((d.lo)≤(100)))) true (.int .i64 (d.hi)),fun v _=>v=iT (true) (((((((n:Int)) == (1))&&(!(!bs)))&&(!(bg)))&&(decide ((0)≤(d.lo))))&&(decide ((d.lo)≤(100)))) true (.bool ((d.hi) == ((-1)))),fun v _=>v=iT (true) (((((((n:Int)) == (1))&&(!(!bs)))&&(!(bg)))&&(decide ((0)≤(d.lo))))&&(decide ((d.lo)≤(100)))) true (.bool ((d.hi) == ((-1)))),fun v _=>v=iT ((true)&&((((((((n:Int)) == (1))&&(!(!bs)))&&(!(bg)))&&(decide ((0)≤(d.lo))))&&(decide ((d.lo)≤(100)))) == true)) ((d.hi) == ((-1))) false (.pointer (some ⟨b1,7,none⟩)),fun v _=>v=iT ((true)&&((((((((n:Int)) == (1))&&(!(!bs)))&&(!(bg)))&&(decide ((0)≤(d.lo))))&&(decide ((d.lo)≤(100)))) == true)) ((d.hi) == ((-1))) false (.int .i64 (d.hi)),fun v _=>v=iT ((true)&&((((((((n:Int)) == (1))&&(!(!bs)))&&(!(bg)))&&(decide ((0)≤(d.lo))))&&(decide ((d.lo)≤(100)))) == true)) ((d.hi) == ((-1))) false (.pointer (some ⟨b1,6,none⟩)),fun v _=>v=iT ((true)&&((((((((n:Int)) == (1))&&(!(!bs)))&&(!(bg)))&&(decide ((0)≤(d.lo))))&&(decide ((d.lo)≤(100)))) == true)) ((d.hi) == ((-1))) false (.int .i64 (d.lo)),fun v _=>v=iT ((true)&&((((((((n:Int)) == (1))&&(!(!bs)))&&(!(bg)))&&(decide ((0)≤(d.lo))))&&(decide ((d.lo)≤(100)))) == true)) ((d.hi) == ((-1))) false (.bool (decide ((d.lo)≤(d.hi)))),fun v _=>v=iT ((true)&&((((((((n:Int)) == (1))&&(!(!bs)))&&(!(bg)))&&(decide ((0)≤(d.lo))))&&(decide ((d.lo)≤(100)))) == true)) ((d.hi) == ((-1))) false (.bool (decide ((d.lo)≤(d.hi)))),fun v _=>v=iT (((true)&&((((((((n:Int)) == (1))&&(!(!bs)))&&(!(bg)))&&(decide ((0)≤(d.lo))))&&(decide ((d.lo)≤(100)))) == true))&&(((d.hi) == ((-1))) == false)) (decide ((d.lo)≤(d.hi))) true (.pointer (some ⟨b1,7,none⟩)),fun v _=>v=iT (((true)&&((((((((n:Int)) == (1))&&(!(!bs)))&&(!(bg)))&&(decide ((0)≤(d.lo))))&&(decide ((d.lo)≤(100)))) == true))&&(((d.hi) == ((-1))) == false)) (decide ((d.lo)≤(d.hi))) true (.int .i64 (d.hi)),fun v _=>v=iT (((true)&&((((((((n:Int)) == (1))&&(!(!bs)))&&(!(bg)))&&(decide ((0)≤(d.lo))))&&(decide ((d.lo)≤(100)))) == true))&&(((d.hi) == ((-1))) == false)) (decide ((d.lo)≤(d.hi))) true (.bool (decide ((d.hi)≤(100)))),fun v _=>v=iT ((true)&&((((((((n:Int)) == (1))&&(!(!bs)))&&(!(bg)))&&(decide ((0)≤(d.lo))))&&(decide ((d.lo)≤(100)))) == true)) ((d.hi) == ((-1))) false (.bool ((decide ((d.lo)≤(d.hi)))&&(decide ((d.hi)≤(100))))),fun v _=>v=iT (true) (((((((n:Int)) == (1))&&(!(!bs)))&&(!(bg)))&&(decide ((0)≤(d.lo))))&&(decide ((d.lo)≤(100)))) true (.bool (((d.hi) == ((-1))) || ((decide ((d.lo)≤(d.hi)))&&(decide ((d.hi)≤(100)))))),fun v _=>v=Value.bool ((((((((n:Int)) == (1))&&(!(!bs)))&&(!(bg)))&&(decide ((0)≤(d.lo))))&&(decide ((d.lo)≤(100))))&&(((d.hi) == ((-1))) || ((decide ((d.lo)≤(d.hi)))&&(decide ((d.hi)≤(100)))))),fun v _=>v=Value.bool ((((((((n:Int)) == (1))&&(!(!bs)))&&(!(bg)))&&(decide ((0)≤(d.lo))))&&(decide ((d.lo)≤(100))))&&(((d.hi) == ((-1))) || ((decide ((d.lo)≤(d.hi)))&&(decide ((d.hi)≤(100))))))] ?ob ?en
      case ob =>
       refine⟨?_,?_,?_,?_,?_,?_,?_,?_,?_,?_,?_,?_,?_,?_,?_,?_,?_,?_,?_,?_,?_,?_,?_,?_,?_,?_,?_,?_,?_,?_,?_,?_,?_,?_,?_,?_,?_,?_,trivial⟩<;>intro A W h
       ·exact zAA rfl (zAN (.inl rfl) (h.f 5))
       ·exact zAA rfl ((by have e66:A.eval (.tmp 66)=Value.int .i64 ((n:Int)):=h.d 0 66;simp only[execOp,e66];simp[go_sem]))
       ·exact zAA rfl (zAN (.inl rfl) (h.d 1 67))
       ·refine sy_ (h.d 2 68) fun hC=>?_;exact zAN (.inl rfl) (h.f 3)
       ·refine sy_ (h.d 2 68) fun hC=>?_;exact(by have e:A.eval (.tmp 69)=Value.bool (!bs):=zAD (h.d 3 69) hC;simp only[execOp,e];simp[go_sem])
       ·exact zAA rfl (zA1 rfl (h.d 2 68) (fun hb2=>zAD (h.d 4 70) (by (first|(rw[hb2];rfl)|simp[hb2]))))
       ·exact zAA rfl (zAN (.inl rfl) (h.d 5 71))
       ·refine sy_ (h.d 6 72) fun hC=>?_;exact zAN (.inl rfl) (h.f 4)
       ·refine sy_ (h.d 6 72) fun hC=>?_;exact(by have e:A.eval (.tmp 73)=Value.bool (bg):=zAD (h.d 7 73) hC;simp only[execOp,e];simp[go_sem])
       ·exact zAA rfl (zA1 rfl (h.d 6 72) (fun hb2=>zAD (h.d 8 74) (by (first|(rw[hb2];rfl)|simp[hb2]))))
       ·exact zAA rfl (zAN (.inl rfl) (h.d 9 75))
       ·refine sy_ (h.d 10 76) fun hC=>?_;exact(by have e:A.eval (.tmp 1)=Value.pointer (some ⟨b1,0,none⟩):=h.f 1;simp only[execOp,e];simp[go_sem])
       ·refine sy_ (h.d 10 76) fun hC=>?_;exact zAC rfl (zAD (h.d 11 77) hC) zAH ((H.call h.below).cell (i:=1) i_1 6)
       ·refine sy_ (h.d 10 76) fun hC=>?_;exact(by have e78:A.eval (.tmp 78)=Value.int .i64 (d.lo):=zAD (h.d 12 78) hC;simp only[execOp,e78];simp[go_sem])
       ·exact zAA rfl (zA1 rfl (h.d 10 76) (fun hb2=>zAD (h.d 13 79) (by (first|(rw[hb2];rfl)|simp[hb2]))))
       ·exact zAA rfl (zAN (.inl rfl) (h.d 14 80))
       ·refine sy_ (h.d 15 81) fun hC=>?_;exact(by have e:A.eval (.tmp 1)=Value.pointer (some ⟨b1,0,none⟩):=h.f 1;simp only[execOp,e];simp[go_sem])
       ·refine sy_ (h.d 15 81) fun hC=>?_;exact zAC rfl (zAD (h.d 16 82) hC) zAH ((H.call h.below).cell (i:=1) i_1 6)
       ·refine sy_ (h.d 15 81) fun hC=>?_;exact(by have e83:A.eval (.tmp 83)=Value.int .i64 (d.lo):=zAD (h.d 17 83) hC;simp only[execOp,e83];simp[go_sem])
       ·exact zAA rfl (zA1 rfl (h.d 15 81) (fun hb2=>zAD (h.d 18 84) (by (first|(rw[hb2];rfl)|simp[hb2]))))
       ·exact zAA rfl (zAN (.inl rfl) (h.d 19 85))
       ·refine sy_ (h.d 20 86) fun hC=>?_;exact(by have e:A.eval (.tmp 1)=Value.pointer (some ⟨b1,0,none⟩):=h.f 1;simp only[execOp,e];simp[go_sem])
       ·refine sy_ (h.d 20 86) fun hC=>?_;exact zAC rfl (zAD (h.d 21 87) hC) zAH ((H.call h.below).cell (i:=1) i_1 7)
       ·refine sy_ (h.d 20 86) fun hC=>?_;exact(by have e88:A.eval (.tmp 88)=Value.int .i64 (d.hi):=zAD (h.d 22 88) hC;simp only[execOp,e88];simp[go_sem])
       ·refine sy_ (h.d 20 86) fun hC=>?_;exact zAN (.inl rfl) (zAD (h.d 23 89) hC)
       ·refine sy_ (h.d 24 90) fun hC=>?_;exact(by have e:A.eval (.tmp 1)=Value.pointer (some ⟨b1,0,none⟩):=h.f 1;simp only[execOp,e];simp[go_sem])
       ·refine sy_ (h.d 24 90) fun hC=>?_;exact zAC rfl (zAD (h.d 25 91) hC) zAH ((H.call h.below).cell (i:=1) i_1 7)
       ·refine sy_ (h.d 24 90) fun hC=>?_;exact(by have e:A.eval (.tmp 1)=Value.pointer (some ⟨b1,0,none⟩):=h.f 1;simp only[execOp,e];simp[go_sem])
       ·refine sy_ (h.d 24 90) fun hC=>?_;exact zAC rfl (zAD (h.d 27 93) hC) zAH ((H.call h.below).cell (i:=1) i_1 6)
       ·refine sy_ (h.d 24 90) fun hC=>?_;exact(by have e92:A.eval (.tmp 92)=Value.int .i64 (d.hi):=zAD (h.d 26 92) hC;have e94:A.eval (.tmp 94)=Value.int .i64 (d.lo):=zAD (h.d 28 94) hC;simp only[execOp,e92,e94];simp[go_sem])
       ·refine sy_ (h.d 24 90) fun hC=>?_;exact zAN (.inl rfl) (zAD (h.d 29 95) hC)
       ·refine sy_ (h.d 30 96) fun hC=>?_;exact(by have e:A.eval (.tmp 1)=Value.pointer (some ⟨b1,0,none⟩):=h.f 1;simp only[execOp,e];simp[go_sem])
       ·refine sy_ (h.d 30 96) fun hC=>?_;exact zAC rfl (zAD (h.d 31 97) hC) zAH ((H.call h.below).cell (i:=1) i_1 7)
       ·refine sy_ (h.d 30 96) fun hC=>?_;exact(by have e98:A.eval (.tmp 98)=Value.int .i64 (d.hi):=zAD (h.d 32 98) hC;simp only[execOp,e98];simp[go_sem])
       ·refine sy_ (h.d 24 90) fun hC=>?_;exact zA1 rfl (zAD (h.d 30 96) hC) (fun hb2=>zAD (h.d 33 99) (by (first|(rw[hC,hb2];rfl)|(rw[hb2];rfl)|simp[hb2,hC])))
       ·refine sy_ (h.d 20 86) fun hC=>?_;exact zCA rfl (zAD (h.d 24 90) hC) (fun hb2=>zAD (h.d 34 100) (by (first|(rw[hC,hb2];rfl)|(rw[hb2];rfl)|simp[hb2,hC])))
       ·exact zAA rfl (zA1 rfl (h.d 20 86) (fun hb2=>zAD (h.d 35 101) (by (first|(rw[hb2];rfl)|simp[hb2]))))
       ·exact zAA rfl (zAN (.inr rfl) (h.d 36 102))
      case en =>
       intro vals W hbw hv _;have v37:vals 37=_:=hv 37 (by omega)
       simp only[fa,Nat.reduceAdd];rw[v37];clear hv v37
       try simp only[pl]
       have H:=H.call hbw
       go_wp2_with fail
       (refine Met.intro ?_;go_step;exact⟨⟨_,rfl,rfl,rfl,rfl,rfl,rfl,rfl,rfl,by rw[EO.out];rfl⟩,H⟩)
     ·have d6:(d.kind == 6)=false:=by rw[beq_eq_false_iff_ne];exact h6
      by_cases h7:d.kind=7
      ·have d7:(d.kind == 7)=true:=by rw[beq_iff_eq];exact h7
       have EO:=Lib.hid (show zAj d n=(((n:Int) == 1)&&!(!bs)&&decide (0<d.group)&&decide (d.group≤20)) by rw[zAj,if_neg h3,if_neg h45,if_neg h6,if_pos h7,HBS.out])
       clear h3 h45 h6 h7
       go_upto_region 13 with (first|fail)
       refine ws_ 17 [fun v _=>v=Value.int .i64 ((n:Int)),fun v _=>v=Value.bool (((n:Int)) == (1)),fun v _=>v=Value.bool (((n:Int)) == (1)),fun v _=>v=iT (true) (((n:Int)) == (1)) true (.bool (!bs)),fun v _=>v=iT (true) (((n:Int)) == (1)) true (.bool (!(!bs))),fun v _=>v=Value.bool ((((n:Int)) == (1))&&(!(!bs))),fun v _=>v=Value.bool ((((n:Int)) == (1))&&(!(!bs))),fun v _=>v=iT (true) ((((n:Int)) == (1))&&(!(!bs))) true (.pointer (some ⟨b1,9,none⟩)),fun v _=>v=iT (true) ((((n:Int)) == (1))&&(!(!bs))) true (.int .i64 (d.group)),fun v _=>v=iT (true) ((((n:Int)) == (1))&&(!(!bs))) true (.bool (decide ((0)<(d.group)))),fun v _=>v=Value.bool (((((n:Int)) == (1))&&(!(!bs)))&&(decide ((0)<(d.group)))),fun v _=>v=Value.bool (((((n:Int)) == (1))&&(!(!bs)))&&(decide ((0)<(d.group)))),fun v _=>v=iT (true) (((((n:Int)) == (1))&&(!(!bs)))&&(decide ((0)<(d.group)))) true (.pointer (some ⟨b1,9,none⟩)),fun v _=>v=iT (true) (((((n:Int)) == (1))&&(!(!bs)))&&(decide ((0)<(d.group)))) true (.int .i64 (d.group)),fun v _=>v=iT (true) (((((n:Int)) == (1))&&(!(!bs)))&&(decide ((0)<(d.group)))) true (.bool (decide ((d.group)≤(20)))),fun v _=>v=Value.bool ((((((n:Int)) == (1))&&(!(!bs)))&&(decide ((0)<(d.group))))&&(decide ((d.group)≤(20)))),fun v _=>v=Value.bool ((((((n:Int)) == (1))&&(!(!bs)))&&(decide ((0)<(d.group))))&&(decide ((d.group)≤(20))))] ?ob ?en
       case ob =>
        refine⟨?_,?_,?_,?_,?_,?_,?_,?_,?_,?_,?_,?_,?_,?_,?_,?_,?_,trivial⟩<;>intro A W h
        ·exact zAA rfl (zAN (.inl rfl) (h.f 5))
        ·exact zAA rfl ((by have e105:A.eval (.tmp 105)=Value.int .i64 ((n:Int)):=h.d 0 105;simp only[execOp,e105];simp[go_sem]))
        ·exact zAA rfl (zAN (.inl rfl) (h.d 1 106))
        ·refine sy_ (h.d 2 107) fun hC=>?_;exact zAN (.inl rfl) (h.f 3)
        ·refine sy_ (h.d 2 107) fun hC=>?_;exact(by have e:A.eval (.tmp 108)=Value.bool (!bs):=zAD (h.d 3 108) hC;simp only[execOp,e];simp[go_sem])
        ·exact zAA rfl (zA1 rfl (h.d 2 107) (fun hb2=>zAD (h.d 4 109) (by (first|(rw[hb2];rfl)|simp[hb2]))))
        ·exact zAA rfl (zAN (.inl rfl) (h.d 5 110))
        ·refine sy_ (h.d 6 111) fun hC=>?_;exact(by have e:A.eval (.tmp 1)=Value.pointer (some ⟨b1,0,none⟩):=h.f 1;simp only[execOp,e];simp[go_sem])
        ·refine sy_ (h.d 6 111) fun hC=>?_;exact zAC rfl (zAD (h.d 7 112) hC) zAH ((H.call h.below).cell (i:=1) i_1 9)
        ·refine sy_ (h.d 6 111) fun hC=>?_;exact(by have e113:A.eval (.tmp 113)=Value.int .i64 (d.group):=zAD (h.d 8 113) hC;simp only[execOp,e113];simp[go_sem])
        ·exact zAA rfl (zA1 rfl (h.d 6 111) (fun hb2=>zAD (h.d 9 114) (by (first|(rw[hb2];rfl)|simp[hb2]))))
        ·exact zAA rfl (zAN (.inl rfl) (h.d 10 115))
        ·refine sy_ (h.d 11 116) fun hC=>?_;exact(by have e:A.eval (.tmp 1)=Value.pointer (some ⟨b1,0,none⟩):=h.f 1;simp only[execOp,e];simp[go_sem])
        ·refine sy_ (h.d 11 116) fun hC=>?_;exact zAC rfl (zAD (h.d 12 117) hC) zAH ((H.call h.below).cell (i:=1) i_1 9)
        ·refine sy_ (h.d 11 116) fun hC=>?_;exact(by have e118:A.eval (.tmp 118)=Value.int .i64 (d.group):=zAD (h.d 13 118) hC;simp only[execOp,e118];simp[go_sem])
        ·exact zAA rfl (zA1 rfl (h.d 11 116) (fun hb2=>zAD (h.d 14 119) (by (first|(rw[hb2];rfl)|simp[hb2]))))
        ·exact zAA rfl (zAN (.inr rfl) (h.d 15 120))
       case en =>
        intro vals W hbw hv _;have v16:vals 16=_:=hv 16 (by omega)
        simp only[fa,Nat.reduceAdd];rw[v16];clear hv v16
        try simp only[pl]
        have H:=H.call hbw
        go_wp2_with fail
        (refine Met.intro ?_;go_step;exact⟨⟨_,rfl,rfl,rfl,rfl,rfl,rfl,rfl,rfl,by rw[EO.out];rfl⟩,H⟩)
      ·have d7:(d.kind == 7)=false:=by rw[beq_eq_false_iff_ne];exact h7
       have EO:=Lib.hid (show zAj d n=(decide (1≤d.kind)&&decide (d.kind≤13)&&((n:Int) == 0)&&!(!bs)&&!bg) by rw[zAj,if_neg h3,if_neg h45,if_neg h6,if_neg h7,HBS.out,HBG.out])
       clear h3 h45 h6 h7
       go_upto_region 4 with (first|fail)
       refine ws_ 21 [fun v _=>v=Value.pointer (some ⟨b1,0,none⟩),fun v _=>v=Value.int .i64 (d.kind),fun v _=>v=Value.bool (decide ((1)≤(d.kind))),fun v _=>v=Value.bool (decide ((1)≤(d.kind))),fun v _=>v=iT (true) (decide ((1)≤(d.kind))) true (.pointer (some ⟨b1,0,none⟩)),fun v _=>v=iT (true) (decide ((1)≤(d.kind))) true (.int .i64 (d.kind)),fun v _=>v=iT (true) (decide ((1)≤(d.kind))) true (.bool (decide ((d.kind)≤(13)))),fun v _=>v=Value.bool ((decide ((1)≤(d.kind)))&&(decide ((d.kind)≤(13)))),fun v _=>v=Value.bool ((decide ((1)≤(d.kind)))&&(decide ((d.kind)≤(13)))),fun v _=>v=iT (true) ((decide ((1)≤(d.kind)))&&(decide ((d.kind)≤(13)))) true (.int .i64 ((n:Int))),fun v _=>v=iT (true) ((decide ((1)≤(d.kind)))&&(decide ((d.kind)≤(13)))) true (.bool (((n:Int)) == (0))),fun v _=>v=Value.bool (((decide ((1)≤(d.kind)))&&(decide ((d.kind)≤(13))))&&(((n:Int)) == (0))),fun v _=>v=Value.bool (((decide ((1)≤(d.kind)))&&(decide ((d.kind)≤(13))))&&(((n:Int)) == (0))),fun v _=>v=iT (true) (((decide ((1)≤(d.kind)))&&(decide ((d.kind)≤(13))))&&(((n:Int)) == (0))) true (.bool (!bs)),fun v _=>v=iT (true) (((decide ((1)≤(d.kind)))&&(decide ((d.kind)≤(13))))&&(((n:Int)) == (0))) true (.bool (!(!bs))),fun v _=>v=Value.bool ((((decide ((1)≤(d.kind)))&&(decide ((d.kind)≤(13))))&&(((n:Int)) == (0)))&&(!(!bs))),fun v _=>v=Value.bool ((((decide ((1)≤(d.kind)))&&(decide ((d.kind)≤(13))))&&(((n:Int)) == (0)))&&(!(!bs))),fun v _=>v=iT (true) ((((decide ((1)≤(d.kind)))&&(decide ((d.kind)≤(13))))&&(((n:Int)) == (0)))&&(!(!bs))) true (.bool (bg)),fun v _=>v=iT (true) ((((decide ((1)≤(d.kind)))&&(decide ((d.kind)≤(13))))&&(((n:Int)) == (0)))&&(!(!bs))) true (.bool (!(bg))),fun v _=>v=Value.bool (((((decide ((1)≤(d.kind)))&&(decide ((d.kind)≤(13))))&&(((n:Int)) == (0)))&&(!(!bs)))&&(!(bg))),fun v _=>v=Value.bool (((((decide ((1)≤(d.kind)))&&(decide ((d.kind)≤(13))))&&(((n:Int)) == (0)))&&(!(!bs)))&&(!(bg)))] ?ob ?en
       case ob =>
        refine⟨?_,?_,?_,?_,?_,?_,?_,?_,?_,?_,?_,?_,?_,?_,?_,?_,?_,?_,?_,?_,?_,trivial⟩<;>intro A W h
        ·exact zAA rfl ((by have e:A.eval (.tmp 1)=Value.pointer (some ⟨b1,0,none⟩):=h.f 1;simp only[execOp,e];simp[go_sem]))
        ·exact zAA rfl (zAC rfl (h.d 0 20) zAd ((H.call h.below).cell (i:=1) i_1 0))
        ·exact zAA rfl ((by have e21:A.eval (.tmp 21)=Value.int .i64 (d.kind):=h.d 1 21;simp only[execOp,e21];simp[go_sem]))
        ·exact zAA rfl (zAN (.inl rfl) (h.d 2 22))
        ·refine sy_ (h.d 3 23) fun hC=>?_;exact(by have e:A.eval (.tmp 1)=Value.pointer (some ⟨b1,0,none⟩):=h.f 1;simp only[execOp,e];simp[go_sem])
        ·refine sy_ (h.d 3 23) fun hC=>?_;exact zAC rfl (zAD (h.d 4 24) hC) zAd ((H.call h.below).cell (i:=1) i_1 0)
        ·refine sy_ (h.d 3 23) fun hC=>?_;exact(by have e25:A.eval (.tmp 25)=Value.int .i64 (d.kind):=zAD (h.d 5 25) hC;simp only[execOp,e25];simp[go_sem])
        ·exact zAA rfl (zA1 rfl (h.d 3 23) (fun hb2=>zAD (h.d 6 26) (by (first|(rw[hb2];rfl)|simp[hb2]))))
        ·exact zAA rfl (zAN (.inl rfl) (h.d 7 27))
        ·refine sy_ (h.d 8 28) fun hC=>?_;exact zAN (.inl rfl) (h.f 5)
        ·refine sy_ (h.d 8 28) fun hC=>?_;exact(by have e29:A.eval (.tmp 29)=Value.int .i64 ((n:Int)):=zAD (h.d 9 29) hC;simp only[execOp,e29];simp[go_sem])
        ·exact zAA rfl (zA1 rfl (h.d 8 28) (fun hb2=>zAD (h.d 10 30) (by (first|(rw[hb2];rfl)|simp[hb2]))))
        ·exact zAA rfl (zAN (.inl rfl) (h.d 11 31))
        ·refine sy_ (h.d 12 32) fun hC=>?_;exact zAN (.inl rfl) (h.f 3)
        ·refine sy_ (h.d 12 32) fun hC=>?_;exact(by have e:A.eval (.tmp 33)=Value.bool (!bs):=zAD (h.d 13 33) hC;simp only[execOp,e];simp[go_sem])
        ·exact zAA rfl (zA1 rfl (h.d 12 32) (fun hb2=>zAD (h.d 14 34) (by (first|(rw[hb2];rfl)|simp[hb2]))))
        ·exact zAA rfl (zAN (.inl rfl) (h.d 15 35))
        ·refine sy_ (h.d 16 36) fun hC=>?_;exact zAN (.inl rfl) (h.f 4)
        ·refine sy_ (h.d 16 36) fun hC=>?_;exact(by have e:A.eval (.tmp 37)=Value.bool (bg):=zAD (h.d 17 37) hC;simp only[execOp,e];simp[go_sem])
        ·exact zAA rfl (zA1 rfl (h.d 16 36) (fun hb2=>zAD (h.d 18 38) (by (first|(rw[hb2];rfl)|simp[hb2]))))
        ·exact zAA rfl (zAN (.inr rfl) (h.d 19 39))
       case en =>
        intro vals W hbw hv _;have v20:vals 20=_:=hv 20 (by omega)
        simp only[fa,Nat.reduceAdd];rw[v20];clear hv v20
        try simp only[pl]
        have H:=H.call hbw
        go_wp2_with fail
        (refine Met.intro ?_;go_step;exact⟨⟨_,rfl,rfl,rfl,rfl,rfl,rfl,rfl,rfl,by rw[EO.out];rfl⟩,H⟩)
  case rest =>
   (rintro _ wc ⟨⟨t,rfl,ht,e0,e1,e2,e3,e4,e5,e6⟩,hcut⟩;have hl:=zRu t ht;clear ht;obtain⟨u0,hl⟩:=hl;obtain⟨u1,hl⟩:=hl;obtain⟨u2,hl⟩:=hl;obtain⟨u3,hl⟩:=hl;obtain⟨u4,hl⟩:=hl;obtain⟨u5,hl⟩:=hl;obtain⟨u6,hl⟩:=hl;obtain⟨u7,hl⟩:=hl;obtain⟨u8,hl⟩:=hl;obtain⟨u9,hl⟩:=hl;obtain⟨u10,hl⟩:=hl;obtain⟨u11,hl⟩:=hl;obtain⟨u12,hl⟩:=hl;obtain⟨u13,hl⟩:=hl;obtain⟨u14,hl⟩:=hl;obtain⟨u15,hl⟩:=hl;obtain⟨u16,hl⟩:=hl;obtain⟨u17,hl⟩:=hl;obtain⟨u18,hl⟩:=hl;obtain⟨u19,hl⟩:=hl;obtain⟨u20,hl⟩:=hl;obtain⟨u21,hl⟩:=hl;obtain⟨u22,hl⟩:=hl;obtain⟨u23,hl⟩:=hl;obtain⟨u24,hl⟩:=hl;obtain⟨u25,hl⟩:=hl;obtain⟨u26,hl⟩:=hl;obtain⟨u27,hl⟩:=hl;obtain⟨u28,hl⟩:=hl;obtain⟨u29,hl⟩:=hl;obtain⟨u30,hl⟩:=hl;obtain⟨u31,hl⟩:=hl;obtain⟨u32,hl⟩:=hl;obtain⟨u33,hl⟩:=hl;obtain⟨u34,hl⟩:=hl;obtain⟨u35,hl⟩:=hl;obtain⟨u36,hl⟩:=hl;obtain⟨u37,hl⟩:=hl;obtain⟨u38,hl⟩:=hl;obtain⟨u39,hl⟩:=hl;obtain⟨u40,hl⟩:=hl;obtain⟨u41,hl⟩:=hl;obtain⟨u42,hl⟩:=hl;obtain⟨u43,hl⟩:=hl;obtain⟨u44,hl⟩:=hl;obtain⟨u45,hl⟩:=hl;obtain⟨u46,hl⟩:=hl;obtain⟨u47,hl⟩:=hl;obtain⟨u48,hl⟩:=hl;obtain⟨u49,hl⟩:=hl;obtain⟨u50,hl⟩:=hl;obtain⟨u51,hl⟩:=hl;obtain⟨u52,hl⟩:=hl;obtain⟨u53,hl⟩:=hl;obtain⟨u54,hl⟩:=hl;obtain⟨u55,hl⟩:=hl;obtain⟨u56,hl⟩:=hl;obtain⟨u57,hl⟩:=hl;obtain⟨u58,hl⟩:=hl;obtain⟨u59,hl⟩:=hl;obtain⟨u60,hl⟩:=hl;obtain⟨u61,hl⟩:=hl;obtain⟨u62,hl⟩:=hl;obtain⟨u63,hl⟩:=hl;obtain⟨u64,hl⟩:=hl;obtain⟨u65,hl⟩:=hl;obtain⟨u66,hl⟩:=hl;obtain⟨u67,hl⟩:=hl;obtain⟨u68,hl⟩:=hl;obtain⟨u69,hl⟩:=hl;obtain⟨u70,hl⟩:=hl;obtain⟨u71,hl⟩:=hl;obtain⟨u72,hl⟩:=hl;obtain⟨u73,hl⟩:=hl;obtain⟨u74,hl⟩:=hl;obtain⟨u75,hl⟩:=hl;obtain⟨u76,hl⟩:=hl;obtain⟨u77,hl⟩:=hl;obtain⟨u78,hl⟩:=hl;obtain⟨u79,hl⟩:=hl;obtain⟨u80,hl⟩:=hl;obtain⟨u81,hl⟩:=hl;obtain⟨u82,hl⟩:=hl;obtain⟨u83,hl⟩:=hl;obtain⟨u84,hl⟩:=hl;obtain⟨u85,hl⟩:=hl;obtain⟨u86,hl⟩:=hl;obtain⟨u87,hl⟩:=hl;obtain⟨u88,hl⟩:=hl;obtain⟨u89,hl⟩:=hl;obtain⟨u90,hl⟩:=hl;obtain⟨u91,hl⟩:=hl;obtain⟨u92,hl⟩:=hl;obtain⟨u93,hl⟩:=hl;obtain⟨u94,hl⟩:=hl;obtain⟨u95,hl⟩:=hl;obtain⟨u96,hl⟩:=hl;obtain⟨u97,hl⟩:=hl;obtain⟨u98,hl⟩:=hl;obtain⟨u99,hl⟩:=hl;obtain⟨u100,hl⟩:=hl;obtain⟨u101,hl⟩:=hl;obtain⟨u102,hl⟩:=hl;obtain⟨u103,hl⟩:=hl;obtain⟨u104,hl⟩:=hl;obtain⟨u105,hl⟩:=hl;obtain⟨u106,hl⟩:=hl;obtain⟨u107,hl⟩:=hl;obtain⟨u108,hl⟩:=hl;obtain⟨u109,hl⟩:=hl;obtain⟨u110,hl⟩:=hl;obtain⟨u111,hl⟩:=hl;obtain⟨u112,hl⟩:=hl;obtain⟨u113,hl⟩:=hl;obtain⟨u114,hl⟩:=hl;obtain⟨u115,hl⟩:=hl;obtain⟨u116,hl⟩:=hl;obtain⟨u117,hl⟩:=hl;obtain⟨u118,hl⟩:=hl;obtain⟨u119,hl⟩:=hl;obtain⟨u120,hl⟩:=hl;obtain⟨u121,hl⟩:=hl;obtain⟨u122,hl⟩:=hl;obtain⟨u123,hl⟩:=hl;obtain⟨u124,hl⟩:=hl;obtain⟨u125,hl⟩:=hl;obtain⟨u126,hl⟩:=hl;obtain⟨u127,hl⟩:=hl;obtain⟨u128,hl⟩:=hl;obtain⟨u129,hl⟩:=hl;obtain⟨u130,hl⟩:=hl;obtain⟨u131,hl⟩:=hl;obtain⟨u132,hl⟩:=hl;obtain⟨u133,hl⟩:=hl;obtain⟨u134,hl⟩:=hl;obtain⟨u135,hl⟩:=hl;obtain⟨u136,hl⟩:=hl;obtain⟨u137,hl⟩:=hl;obtain⟨u138,hl⟩:=hl;obtain⟨u139,hl⟩:=hl;obtain⟨u140,hl⟩:=hl;obtain⟨u141,hl⟩:=hl;obtain⟨u142,hl⟩:=hl;obtain⟨u143,hl⟩:=hl;obtain⟨u144,hl⟩:=hl;obtain⟨u145,hl⟩:=hl;obtain⟨u146,hl⟩:=hl;obtain⟨u147,hl⟩:=hl;obtain⟨u148,hl⟩:=hl;obtain⟨u149,hl⟩:=hl;obtain⟨u150,hl⟩:=hl;obtain⟨u151,hl⟩:=hl;obtain⟨u152,hl⟩:=hl;obtain⟨u153,hl⟩:=hl;subst hl;(replace e0:some u0=some (zAc d (.slice p n c)):=e0);(cases e0);(replace e1:some u1=some (.pointer (some ⟨b1,0,none⟩)):=e1);(cases e1);(replace e2:some u2=some (.bool false):=e2);(cases e2);(replace e3:some u3=some (.bool (!bs)):=e3);(cases e3);(replace e4:some u4=some (.bool bg):=e4);(cases e4);(replace e5:some u5=some (.int .i64 (n:Int)):=e5);(cases e5);(replace e6:some u6=some (.bool (zAj d n)):=e6);(cases e6))
   have H:=hcut;clear hcut
   go_upto_region 14 with fail
   refine ws_ 21 [fun v _=>v=Value.bool (zAj d n),fun v _=>v=Value.bool (!(zAj d n)),fun v _=>v=Value.bool (!(zAj d n)),fun v _=>v=iT (true) (!(zAj d n)) false (.pointer (some ⟨b1,0,none⟩)),fun v _=>v=iT (true) (!(zAj d n)) false (.int .i64 (d.kind)),fun v _=>v=iT (true) (!(zAj d n)) false (.bool ((d.kind) != (6))),fun v _=>v=iT (true) (!(zAj d n)) false (.bool ((d.kind) != (6))),fun v _=>v=iT ((true)&&((!(zAj d n)) == false)) ((d.kind) != (6)) true (.pointer (some ⟨b1,6,none⟩)),fun v _=>v=iT ((true)&&((!(zAj d n)) == false)) ((d.kind) != (6)) true (.int .i64 (d.lo)),fun v _=>v=iT ((true)&&((!(zAj d n)) == false)) ((d.kind) != (6)) true (.bool ((d.lo) != (0))),fun v _=>v=iT ((true)&&((!(zAj d n)) == false)) ((d.kind) != (6)) true (.bool ((d.lo) != (0))),fun v _=>v=iT (((true)&&((!(zAj d n)) == false))&&(((d.kind) != (6)) == true)) ((d.lo) != (0)) false (.pointer (some ⟨b1,7,none⟩)),fun v _=>v=iT (((true)&&((!(zAj d n)) == false))&&(((d.kind) != (6)) == true)) ((d.lo) != (0)) false (.int .i64 (d.hi)),fun v _=>v=iT (((true)&&((!(zAj d n)) == false))&&(((d.kind) != (6)) == true)) ((d.lo) != (0)) false (.bool ((d.hi) != (0))),fun v _=>v=iT ((true)&&((!(zAj d n)) == false)) ((d.kind) != (6)) true (.bool (((d.lo) != (0)) || ((d.hi) != (0)))),fun v _=>v=iT ((true)&&((!(zAj d n)) == false)) ((d.kind) != (6)) true (.bool (((d.lo) != (0)) || ((d.hi) != (0)))),fun v _=>v=iT (((true)&&((!(zAj d n)) == false))&&(((d.kind) != (6)) == true)) (((d.lo) != (0)) || ((d.hi) != (0))) false (.pointer (some ⟨b1,8,none⟩)),fun v _=>v=iT (((true)&&((!(zAj d n)) == false))&&(((d.kind) != (6)) == true)) (((d.lo) != (0)) || ((d.hi) != (0))) false (.bool (d.lazy)),fun v _=>v=iT ((true)&&((!(zAj d n)) == false)) ((d.kind) != (6)) true (.bool ((((d.lo) != (0)) || ((d.hi) != (0))) || (d.lazy))),fun v _=>v=iT (true) (!(zAj d n)) false (.bool (((d.kind) != (6))&&((((d.lo) != (0)) || ((d.hi) != (0))) || (d.lazy)))),fun v _=>v=Value.bool ((!(zAj d n)) || (((d.kind) != (6))&&((((d.lo) != (0)) || ((d.hi) != (0))) || (d.lazy))))] ?ob ?en
   case ob =>
    refine⟨?_,?_,?_,?_,?_,?_,?_,?_,?_,?_,?_,?_,?_,?_,?_,?_,?_,?_,?_,?_,?_,trivial⟩<;>intro A W h
    ·exact zAA rfl (zAN (.inl rfl) (h.f 6))
    ·exact zAA rfl ((by have e:A.eval (.tmp 121)=Value.bool (zAj d n):=h.d 0 121;simp only[execOp,e];simp[go_sem]))
    ·exact zAA rfl (zAN (.inl rfl) (h.d 1 122))
    ·refine sy_ (h.d 2 123) fun hC=>?_;exact(by have e:A.eval (.tmp 1)=Value.pointer (some ⟨b1,0,none⟩):=h.f 1;simp only[execOp,e];simp[go_sem])
    ·refine sy_ (h.d 2 123) fun hC=>?_;exact zAC rfl (zAD (h.d 3 124) hC) zAd ((H.call h.below).cell (i:=1) i_1 0)
    ·refine sy_ (h.d 2 123) fun hC=>?_;exact(by have e125:A.eval (.tmp 125)=Value.int .i64 (d.kind):=zAD (h.d 4 125) hC;simp only[execOp,e125];simp[go_sem])
    ·refine sy_ (h.d 2 123) fun hC=>?_;exact zAN (.inl rfl) (zAD (h.d 5 126) hC)
    ·refine sy_ (h.d 6 127) fun hC=>?_;exact(by have e:A.eval (.tmp 1)=Value.pointer (some ⟨b1,0,none⟩):=h.f 1;simp only[execOp,e];simp[go_sem])
    ·refine sy_ (h.d 6 127) fun hC=>?_;exact zAC rfl (zAD (h.d 7 128) hC) zAH ((H.call h.below).cell (i:=1) i_1 6)
    ·refine sy_ (h.d 6 127) fun hC=>?_;exact(by have e129:A.eval (.tmp 129)=Value.int .i64 (d.lo):=zAD (h.d 8 129) hC;simp only[execOp,e129];simp[go_sem])
    ·refine sy_ (h.d 6 127) fun hC=>?_;exact zAN (.inl rfl) (zAD (h.d 9 130) hC)
    ·refine sy_ (h.d 10 131) fun hC=>?_;exact(by have e:A.eval (.tmp 1)=Value.pointer (some ⟨b1,0,none⟩):=h.f 1;simp only[execOp,e];simp[go_sem])
    ·refine sy_ (h.d 10 131) fun hC=>?_;exact zAC rfl (zAD (h.d 11 132) hC) zAH ((H.call h.below).cell (i:=1) i_1 7)
    ·refine sy_ (h.d 10 131) fun hC=>?_;exact(by have e133:A.eval (.tmp 133)=Value.int .i64 (d.hi):=zAD (h.d 12 133) hC;simp only[execOp,e133];simp[go_sem])
    ·refine sy_ (h.d 6 127) fun hC=>?_;exact zCA rfl (zAD (h.d 10 131) hC) (fun hb2=>zAD (h.d 13 134) (by (first|(rw[hC,hb2];rfl)|(rw[hb2];rfl)|simp[hb2,hC])))
    ·refine sy_ (h.d 6 127) fun hC=>?_;exact zAN (.inl rfl) (zAD (h.d 14 135) hC)
    ·refine sy_ (h.d 15 136) fun hC=>?_;exact(by have e:A.eval (.tmp 1)=Value.pointer (some ⟨b1,0,none⟩):=h.f 1;simp only[execOp,e];simp[go_sem])
    ·refine sy_ (h.d 15 136) fun hC=>?_;exact zAC rfl (zAD (h.d 16 137) hC) zEE ((H.call h.below).cell (i:=1) i_1 8)
    ·refine sy_ (h.d 6 127) fun hC=>?_;exact zCA rfl (zAD (h.d 15 136) hC) (fun hb2=>zAD (h.d 17 138) (by (first|(rw[hC,hb2];rfl)|(rw[hb2];rfl)|simp[hb2,hC])))
    ·refine sy_ (h.d 2 123) fun hC=>?_;exact zA1 rfl (zAD (h.d 6 127) hC) (fun hb2=>zAD (h.d 18 139) (by (first|(rw[hC,hb2];rfl)|(rw[hb2];rfl)|simp[hb2,hC])))
    ·exact zAA rfl (zCA rfl (h.d 2 123) (fun hb2=>zAD (h.d 19 140) (by (first|(rw[hb2];rfl)|simp[hb2]))))
   case en =>
    intro vals W hbw hv _;have v20:vals 20=_:=hv 20 (by omega)
    simp only[fa,Nat.reduceAdd];rw[v20];clear hv v20
    try simp only[pl]
    have H:=H.call hbw;rw[zMb]
    cases hok:zC6 d n with
    | false =>
     have E2:=Lib.hid (show zAn (.mk d (xs.map (·.1)))=false by rw[E.out,hok];rfl)
     clear hok
     go_wp2_with (first|fail)
     go_ret;exact⟨retb E2.out.symm,H.below⟩
    | true =>
     have E2:=Lib.hid (show zAn (.mk d (xs.map (·.1)))=zAf (xs.map (·.1)) by rw[E.out,hok];rfl)
     clear hok
     go_wp2_with (first|fail)
     go_loopw [7] (fun ix wr=>∃ j:Nat,j≤n∧ix=.int .i64 j∧Hid (zAf ((xs.map (·.1)).take j)=true)∧Hold w0 wr [.kn F (Knows F p n c xs),.blk b1 (zAU d (.slice p n c)) 87]) (fun ix _=>n+1 - (intOf ix).toNat)
     case atStart=>exact⟨0,by omega,rfl,Lib.hid rfl,H⟩
     case round =>
      clear H;obtain⟨j,hj,rfl,G,H⟩:=hrel
      by_cases hlt:j<n
      ·have dj:decide ((j:Int)<(n:Int))=true:=by simp;omega
       obtain⟨x,hx⟩:∃ x,xs[j]?=some x:=⟨_,List.getElem?_eq_getElem (by rw[← HN.out];exact hlt)⟩
       obtain⟨b,off,rfl⟩:=hp (by rw[← HN.out];omega)
       have hs1:=zDM hx;have hmem:=List.mem_of_getElem? hx;have hcell:∀ V,Knows F (some ⟨b,off,none⟩) n c xs V→∀ k,k<10→V.cell? ⟨b,off+j * 10+k,none⟩=(zAy x)[k]?:=fun V h=>h.cells hx rfl
       have ih:=fun w (hw:∀ b,F b→b<w.heap.size) (hk:Knows F (some ⟨b,off,none⟩) n c xs w)=>IH x.1 x.2.1 _ x.2.2 F w (by omega) (by omega) hw (hk.2 x hmem) rfl
       cases hkx:zAn x.1 with
       | false =>
        have E3:=Lib.hid (show zAn (.mk d (xs.map (·.1)))=false by rw[E2.out,zPD hx hkx])
        rw[hkx]at ih;clear IH hx hmem hp hkx hs1
        go_wp2_with (first|((with_reducible refine gL ?_);refine zAS wtd_ _ _ rfl rfl zAR (zAz x) (hcell _ (H.kn (i:=0) .zero)) ?_)|((with_reducible refine gL ?_);refine aG H ?_)|((with_reducible refine ch (ih _ (H.knlt (i:=0) .zero) (H.kn (i:=0) .zero)) H ?_);clear H;intro w H))
        go_ret;exact⟨retb E3.out.symm,H.below⟩
       | true =>
        have G2:=Lib.hid (show zAf ((xs.map (·.1)).take (j+1))=true by rw[zL8 hx,G.out,hkx];rfl)
        rw[hkx]at ih;clear IH hx hmem hp hkx hs1
        go_wp2_with (first|((with_reducible refine gL ?_);refine zAS wtd_ _ _ rfl rfl zAR (zAz x) (hcell _ (H.kn (i:=0) .zero)) ?_)|((with_reducible refine gL ?_);refine aG H ?_)|((with_reducible refine ch (ih _ (H.knlt (i:=0) .zero) (H.kn (i:=0) .zero)) H ?_);clear H;intro w H))
        go_roundw
        case rel=>exact⟨j+1,by omega,by go_num,G2,H⟩
        case measure=>simp[intOf];omega
      ·have dj:decide ((j:Int)<(n:Int))=false:=by simp;omega
       have E3:=Lib.hid (show zAn (.mk d (xs.map (·.1)))=true by
        rw[E2.out];have:=G.out
        rwa [List.take_of_length_le (by rw[List.length_map,← HN.out];omega)]at this)
       go_wp2_with (first|fail)
       go_ret;exact⟨retb E3.out.symm,H.below⟩
def TreeB (w:World) (G:Nat→Prop) (o:Option Tree) (e:Ending) (w':World):Prop:=match o with
 | some t=>∃ p c F,e=.returned (.tuple #[zAc t.d (.slice p t.kids.length c),.bool true])∧ForestR w' F p c t.kids∧∀ b,F b→b<w'.heap.size∧(w.heap.size≤b∨G b)
 | none=>∃ d p n c,e=.returned (.tuple #[zAc d (.slice p n c),.bool false])
theorem TreeB.leaf {w w':World} {G:Nat→Prop} {o:Option Tree} {k:Int} (h:o=some (zB6 k)):TreeB w G o (.returned (.tuple #[zAc {kind:=k} nilS,.bool true])) w':=by
 subst h;exact⟨none,0,fun _=>False,rfl,ForestR.nil ..,fun _ h=>h.elim⟩
theorem TreeB.no {w w':World} {G:Nat→Prop} {o:Option Tree} {d:NodeD} {p:Option Addr} {n c:Nat} (h:o=none):TreeB w G o (.returned (.tuple #[zAc d (.slice p n c),.bool false])) w':=by
 subst h;exact⟨d,p,n,c,rfl⟩
theorem zNL (d:NodeD) (k:Int):((((d.hi) == (0)) || ((k) == (1))) || (((k) == (2))&&((d.lo) == (0))))=decide (d.hi=0∨k=1∨k=2∧d.lo=0):=by
 rw[Bool.eq_iff_iff];simp[or_assoc]
theorem zJ2 {P:Program} {a:Act} {o:Oper} {C:World→Prop} {K:Act→Prop} {v:Value} (h:∀ w,C w→(execOp a.eval o).run P w=.ok (.value v) w) (hk:K (a.put o.dst v)):o.quiet P a C K :=
 ⟨v,fun w hw=>by unfold Oper.quietAt;rw[h w hw];exact⟨rfl,rfl⟩,hk⟩
theorem zPW (a b:Int):Builtin.max2 (.int .i64 a) (.int .i64 b)=pure (.int .i64 (max a b)):=by
 show (pure (.int .i64 (if b > a then b else a)):Sem Value)=_
 rw[show (if b > a then b else a)=max a b by omega]
theorem zPd {P:Program} {ev:Operand→Value} {w:World} {o:Oper} {x y z:Operand} {ts:Array TypeId} {i j k:Int} (hop:o.op=Op.call {callee:=.builtin .max,args:=#[x,y,z],argTypes:=ts}) (hx:ev x=.int .i64 i) (hy:ev y=.int .i64 j) (hz:ev z=.int .i64 k) :
  (execOp ev o).run P w=.ok (.value (.int .i64 (max (max i j) k))) w:=by
 simp[execOp,hop,hx,hy,hz,go_sem,Builtin.max_,zPW]
theorem zIR (k:Tree):∀ n,zAK (List.replicate n k)=n * zAT k
 | 0=>by simp[zAK]
 | n+1=>by rw[List.replicate_succ,zAK,zIR k n,Nat.succ_mul,Nat.add_comm]
theorem zOe (k:TV) (n:Nat):zAP ((List.replicate n k).map zAy)++(zAU k.1.d (.slice k.2.1 k.1.kids.length k.2.2)).toList=zAP ((List.replicate (n+1) k).map zAy):=by
 rw[List.replicate_succ',List.map_append,zBH];simp[zAP]
theorem zNX (xs:List TV) (y:TV):zAP (xs.map zAy)++(zAU y.1.d (.slice y.2.1 y.1.kids.length y.2.2)).toList=zAP ((xs++[y]).map zAy):=by
 rw[List.map_append,zBH];simp[zAP]
theorem zM2 (k:TV) (n:Nat):(List.replicate n k).map (·.1)=List.replicate n k.1:=by rw[List.map_replicate]
theorem zO3 (n:Nat) (m:Int) (h:n≤2000) (h1:0≤m) (h2:m≤100):wrap64 ((n:Int) * m)=n * m:=by
 have h3:(0:Int)≤(n:Int) * m:=Int.mul_nonneg (by omega) h1
 have h4:(n:Int) * m≤2000 * 100:=Int.mul_le_mul (by omega) h2 h1 (by decide)
 unfold wrap64;omega
theorem chk {M:Nat→Prop} {P:Program} {f:FuncId} {args:Array Value} {w w0:World} {l:List Res} {ts:List Tree} {G:Nat→Prop} {R:Ending→World→Prop} (c:Calls P f args w fun e w'=>zFV w G ts e w'∧Below w.heap.size w w') (H:HoldG M w0 w l) (hG:Still l G)
  (k:∀ p n F (xs:List TV) w',Hid (xs.map (·.1)=ts)→(∀ b,F b→w0.heap.size≤b∨G b)→HoldG M w0 w' (l++[.kn F (Knows F p xs.length n xs)])→R (.returned (.slice p xs.length n)) w'):Calls P f args w R:=c.mono fun _ w' h=>by
 obtain⟨⟨p,n,F,rfl,hs,hF⟩,hb⟩:=h;obtain⟨xs,h1,h2,rfl⟩:=hs.open;have hl:(xs.map (·.1)).length=xs.length:=List.length_map ..;rw[hl];exact k p n F xs w' (Lib.hid rfl) (fun b h=>(hF b h).2.imp (fun h=>Nat.le_trans H.keep.size h) id) (H.learn hb hG hF (fun V hV=>⟨h1.kept hV,h2.kept hV⟩))
theorem zJW (d:NodeD) (p0:Option Addr) (n0 c0:Nat) (k:Tree) (p:Option Addr) (c:Nat) (F:Nat→Prop) (w0:World) (hlo:0≤d.lo∧d.lo≤100) (hhi:d.hi = -1∨d.lo≤d.hi∧d.hi≤100) (hk:zAT k≤2000) (hF:∀ b,F b→b<w0.heap.size) (h:ForestR w0 F p c k.kids) :
  Calls Tryz.prog 143 #[zAc d (.slice p0 n0 c0),zAc k.d (.slice p k.kids.length c)] w0 fun e w'=>TreeB w0 F (zCZ d k) e w'∧Below w0.heap.size w0 w':=by
 obtain⟨i0,hi0,hz0,hz1,hz2⟩:=info_parts zD0;have H:=(Hold.start w0).know F (fun V=>ForestR V F p c k.kids) hF (fun i r h=>by simp at h) (fun V hV=>h.kept hV)
 clear h;simp only[List.nil_append]at H;have E:zCZ d k=zCZ d k:=rfl
 conv at E=>rhs;unfold zCZ
 have hem:=fun w=>zJB w
 have hno:=fun w=>zI5 w
 go_enter Tryz.func143,Tryz.ntmps143
 go_upto_region 1 with (first|((first|((with_reducible refine kgA 2 ?_);refine kA 2 H ?_)|((with_reducible refine kgX 2 ?_);(first|refine kS 2 H ?_|refine kB 2 H ?_)));clear H;intro b2 w H;try simp only[nr]at H)|((first|((with_reducible refine kgA 3 ?_);refine kA 3 H ?_)|((with_reducible refine kgX 3 ?_);(first|refine kS 3 H ?_|refine kB 3 H ?_)));clear H;intro b3 w H;try simp only[nr]at H)|((first|((with_reducible refine kgA 4 ?_);refine kA 4 H ?_)|((with_reducible refine kgX 4 ?_);(first|refine kS 4 H ?_|refine kB 4 H ?_)));clear H;intro b4 w H;try simp only[nr]at H)|fail)
 refine ws_ 19 [fun v _=>v=Value.pointer (some ⟨b2,7,none⟩),fun v _=>v=Value.int .i64 (d.hi),fun v _=>v=Value.bool ((d.hi) == (0)),fun v _=>v=Value.bool ((d.hi) == (0)),fun v _=>v=iT (true) ((d.hi) == (0)) false (.pointer (some ⟨b3,0,none⟩)),fun v _=>v=iT (true) ((d.hi) == (0)) false (.int .i64 (k.d.kind)),fun v _=>v=iT (true) ((d.hi) == (0)) false (.bool ((k.d.kind) == (1))),fun v _=>v=Value.bool (((d.hi) == (0)) || ((k.d.kind) == (1))),fun v _=>v=Value.bool (((d.hi) == (0)) || ((k.d.kind) == (1))),fun v _=>v=iT (true) (((d.hi) == (0)) || ((k.d.kind) == (1))) false (.pointer (some ⟨b3,0,none⟩)),fun v _=>v=iT (true) (((d.hi) == (0)) || ((k.d.kind) == (1))) false (.int .i64 (k.d.kind)),fun v _=>v=iT (true) (((d.hi) == (0)) || ((k.d.kind) == (1))) false (.bool ((k.d.kind) == (2))),fun v _=>v=iT (true) (((d.hi) == (0)) || ((k.d.kind) == (1))) false (.bool ((k.d.kind) == (2))),fun v _=>v=iT ((true)&&((((d.hi) == (0)) || ((k.d.kind) == (1))) == false)) ((k.d.kind) == (2)) true (.pointer (some ⟨b2,6,none⟩)),fun v _=>v=iT ((true)&&((((d.hi) == (0)) || ((k.d.kind) == (1))) == false)) ((k.d.kind) == (2)) true (.int .i64 (d.lo)),fun v _=>v=iT ((true)&&((((d.hi) == (0)) || ((k.d.kind) == (1))) == false)) ((k.d.kind) == (2)) true (.bool ((d.lo) == (0))),fun v _=>v=iT (true) (((d.hi) == (0)) || ((k.d.kind) == (1))) false (.bool (((k.d.kind) == (2))&&((d.lo) == (0)))),fun v _=>v=Value.bool ((((d.hi) == (0)) || ((k.d.kind) == (1))) || (((k.d.kind) == (2))&&((d.lo) == (0)))),fun v _=>v=Value.bool ((((d.hi) == (0)) || ((k.d.kind) == (1))) || (((k.d.kind) == (2))&&((d.lo) == (0))))] ?ob ?en
 case ob =>
  refine⟨?_,?_,?_,?_,?_,?_,?_,?_,?_,?_,?_,?_,?_,?_,?_,?_,?_,?_,?_,trivial⟩<;>intro A W h
  ·exact zAA rfl ((by have e:A.eval (.tmp 2)=Value.pointer (some ⟨b2,0,none⟩):=h.f 2;simp only[execOp,e];simp[go_sem]))
  ·exact zAA rfl (zAC rfl (h.d 0 9) zAH ((H.call h.below).cell (i:=1) i_1 7))
  ·exact zAA rfl ((by have e10:A.eval (.tmp 10)=Value.int .i64 (d.hi):=h.d 1 10;simp only[execOp,e10];simp[go_sem]))
  ·exact zAA rfl (zAN (.inl rfl) (h.d 2 11))
  ·refine sy_ (h.d 3 12) fun hC=>?_;exact(by have e:A.eval (.tmp 3)=Value.pointer (some ⟨b3,0,none⟩):=h.f 3;simp only[execOp,e];simp[go_sem])
  ·refine sy_ (h.d 3 12) fun hC=>?_;exact zAC rfl (zAD (h.d 4 13) hC) zAd ((H.call h.below).cell (i:=2) i_2 0)
  ·refine sy_ (h.d 3 12) fun hC=>?_;exact(by have e14:A.eval (.tmp 14)=Value.int .i64 (k.d.kind):=zAD (h.d 5 14) hC;simp only[execOp,e14];simp[go_sem])
  ·exact zAA rfl (zCA rfl (h.d 3 12) (fun hb2=>zAD (h.d 6 15) (by (first|(rw[hb2];rfl)|simp[hb2]))))
  ·exact zAA rfl (zAN (.inl rfl) (h.d 7 16))
  ·refine sy_ (h.d 8 17) fun hC=>?_;exact(by have e:A.eval (.tmp 3)=Value.pointer (some ⟨b3,0,none⟩):=h.f 3;simp only[execOp,e];simp[go_sem])
  ·refine sy_ (h.d 8 17) fun hC=>?_;exact zAC rfl (zAD (h.d 9 18) hC) zAd ((H.call h.below).cell (i:=2) i_2 0)
  ·refine sy_ (h.d 8 17) fun hC=>?_;exact(by have e19:A.eval (.tmp 19)=Value.int .i64 (k.d.kind):=zAD (h.d 10 19) hC;simp only[execOp,e19];simp[go_sem])
  ·refine sy_ (h.d 8 17) fun hC=>?_;exact zAN (.inl rfl) (zAD (h.d 11 20) hC)
  ·refine sy_ (h.d 12 21) fun hC=>?_;exact(by have e:A.eval (.tmp 2)=Value.pointer (some ⟨b2,0,none⟩):=h.f 2;simp only[execOp,e];simp[go_sem])
  ·refine sy_ (h.d 12 21) fun hC=>?_;exact zAC rfl (zAD (h.d 13 22) hC) zAH ((H.call h.below).cell (i:=1) i_1 6)
  ·refine sy_ (h.d 12 21) fun hC=>?_;exact(by have e23:A.eval (.tmp 23)=Value.int .i64 (d.lo):=zAD (h.d 14 23) hC;simp only[execOp,e23];simp[go_sem])
  ·refine sy_ (h.d 8 17) fun hC=>?_;exact zA1 rfl (zAD (h.d 12 21) hC) (fun hb2=>zAD (h.d 15 24) (by (first|(rw[hC,hb2];rfl)|(rw[hb2];rfl)|simp[hb2,hC])))
  ·exact zAA rfl (zCA rfl (h.d 8 17) (fun hb2=>zAD (h.d 16 25) (by (first|(rw[hb2];rfl)|simp[hb2]))))
  ·exact zAA rfl (zAN (.inr rfl) (h.d 17 26))
 case en =>
  intro vals W hbw hv _;have v18:vals 18=_:=hv 18 (by omega)
  simp only[fa,Nat.reduceAdd];rw[v18];clear hv v18
  try simp only[pl]
  have H:=H.call hbw;rw[zNL]
  by_cases hA:d.hi=0∨k.d.kind=1∨k.d.kind=2∧d.lo=0
  ·rw[if_pos hA]at E;have E2:=Lib.hid E;clear E;rw[decide_eq_true hA];clear hA
   go_wp2_with (first|((with_reducible refine gT ?_);(refine aT H ?_;clear H;intro w H;try simp only[nr]at H))|((with_reducible refine ch (hem _) H ?_);clear H;intro w H))
   (refine xct Tryz.results143 H ?_)
   exact⟨TreeB.leaf E2.out,H.below⟩
  ·rw[if_neg hA]at E;rw[decide_eq_false hA];have hhi0:d.hi≠0:=fun e=>hA (.inl e)
   clear hA
   by_cases h2:k.d.kind=2
   ·have d2:(k.d.kind == 2)=true:=by rw[beq_iff_eq];exact h2
    rw[if_pos h2]at E;have E2:=Lib.hid E;clear E h2
    go_wp2_with (first|(first|((with_reducible refine gT ?_);(refine aT H ?_;clear H;intro w H;try simp only[nr]at H))|((with_reducible refine gL ?_);refine aG H ?_))|((with_reducible refine ch (hno _) H ?_);clear H;intro w H))
    (refine xct Tryz.results143 H ?_)
    exact⟨TreeB.leaf E2.out,H.below⟩
   ·have d2:(k.d.kind == 2)=false:=by rw[beq_eq_false_iff_ne];exact h2
    rw[if_neg h2]at E;clear h2
    go_upto_region 5 with (first|((with_reducible refine gL ?_);refine aG H ?_))
    go_wp2_with fail
    obtain⟨T,hT,fw,hf,h0⟩:=fam W;have e6:=fun x=>(H.call (hf x)).cell (i:=1) i_1 6
    have e7:=fun x=>(H.call (hf x)).cell (i:=1) i_1 7
    simp only[ng6,ng7]at e6 e7;have hC:=fun x=>zPf hf h0 x (zG3 _ k p _ c F (fw x) hk (by decide) ((H.call (hf x)).knlt .zero) ((H.call (hf x)).kn .zero) rfl)
    refine zCW fw (by kernel_rfl) (by kernel_rfl) h0 ?_
    go_big_quiet_want
    refine zJ2 (v:=zAc k.d (.slice p k.kids.length c)) ?_ ?_
    ·rintro _ ⟨x,rfl⟩;exact zAb rfl rfl zAR rfl (fun j _=>by rw[Nat.zero_add];exact(H.call (hf x)).cell (i:=2) i_2 j)
    simp only[pl]
    go_big_quiet_on
    repeat (go_big_quiet_step (with_reducible exact hC _))
    go_big_quiet_want
    refine zJ2 (fun _ _=>zPd rfl rfl rfl rfl) ?_
    simp only[pl]
    go_big_quiet_on
    repeat (go_big_quiet_step (fail))
    refine wpQuiet_nil ?_
    rintro _ ⟨x,rfl⟩;replace H:=H.call (hf x);obtain⟨wq,hwq⟩:∃ wq,fw x=wq:=⟨_,rfl⟩;rw[hwq]at H ⊢;clear hwq e6 e7 hC h0 hf;clear x fw hT T;rw[zO3 _ _ hk (by omega) (by omega)]
    have hmx:max (max d.lo d.hi) 1=max d.lo (max d.hi 1):=by omega
    rw[hmx]at E ⊢;clear hmx
    by_cases h4:(4000:Int)<(zAT k:Int) * max d.lo (max d.hi 1)
    ·rw[if_pos h4]at E;rw[decide_eq_true h4];have E2:=Lib.hid E;clear E h4
     go_wp2_with (first|((with_reducible refine gT ?_);(refine aT H ?_;clear H;intro w H;try simp only[nr]at H))|((with_reducible refine ch (hno _) H ?_);clear H;intro w H))
     (refine xct Tryz.results143 H ?_)
     exact⟨TreeB.no E2.out,H.below⟩
    ·rw[if_neg h4]at E;rw[decide_eq_false h4];have E2:=Lib.hid E;clear E h4;obtain⟨lo,hl⟩:∃ lo:Nat,d.lo=lo:=⟨d.lo.toNat,by omega⟩
     have hlo2:lo≤100:=by omega
     have HLO:=Lib.hid hl;clear hl;replace H:=H.addNil 87 10;simp only[List.nil_append,List.cons_append]at H
     go_wp2_with fail
     go_loopw [6,7] (fun vs ix wr=>∃ (j:Nat) (vq:Option Addr) (vc:Nat),j≤lo∧vs=.slice vq j vc∧ix=.int .i64 j∧Hold w0 wr [.kn F (fun V=>ForestR V F p c k.kids),.blk b2 (zAU d (.slice p0 n0 c0)) 87,.blk b3 (zAU k.d (.slice p k.kids.length c)) 87,.blk b4 (zAU {kind:=0} nilS) 87,.row (.slice vq j vc) 87 10 j (zAP ((List.replicate j ((k,p,c):TV)).map zAy))]) (fun _ ix _=>lo+1 - (intOf ix).toNat)
     case atStart=>exact⟨0,none,0,by omega,rfl,rfl,H⟩
     case round =>
      clear H;obtain⟨j,vq,vc,hj,rfl,rfl,H⟩:=hrel
      by_cases hlt:j<lo
      ·have dj:decide ((j:Int)<d.lo)=true:=by have:=HLO.out;simp;omega
       go_wp2_with (first|(at_builtin;refine zAX rfl _ _ 85 rfl H (i:=4) (j:=5) evd_ rfl i_4 i_5 Tryz.underlying85 hi0 hz0 hz1 hz2 rfl (by decide) rfl rfl (by unfold maxLen;omega) (by omega) ?_;clear H;intro v2 w H;(try simp only[nr]at H);(obtain⟨q2,c2,rfl,_,_,_⟩:=H.rowShape (i:=4) i_4))|((with_reducible refine gBS ?_);refine zAL wtd_ _ _ _ rfl H (zAU (k.d) (.slice p k.kids.length c)) 87 (by intro W;simp only[ml];(try simp only[pe]);exact zBf _ _ W) ?_;clear H;intro bk w H;try simp only[nr]at H)|((with_reducible refine gL ?_);(first|refine aG H ?_|refine aD H ?_)))
       rw[zOe (k,p,c) j]at H;go_roundw
       case rel=>exact⟨j+1,q2,c2,by omega,rfl,by go_num,H.pick [0,1,2,3,4] _ (by decide) rfl⟩
       case measure=>simp[intOf];omega
      ·have hjn:j=lo:=by omega
       have dj:decide ((j:Int)<d.lo)=false:=by have:=HLO.out;simp;omega
       clear hj hlt;have HSZ:=Lib.hid (zIR k j);have HSZ2:=Lib.hid (show j * zAT k≤100 * 2000 from Nat.mul_le_mul (by omega) hk)
       have hj1:j≤100:=by omega
       have HJN:=Lib.hid hjn;clear hjn
       by_cases hn:d.hi<0
       ·have dn:decide (d.hi<0)=true:=by simp;exact hn
        have hag:=fun (w:World) (h1:∀ b,F b→b<w.heap.size) (h2:ForestR w F p c k.kids)=>show Calls Tryz.prog 153 #[.agg (zAU d (.slice p0 n0 c0)),.agg (zAU k.d (.slice p k.kids.length c)),.int .i64 (-1)] w fun e w'=>zCP w F (zB2 d k (-1)) e w'∧Below w.heap.size w w' from zJG d p0 n0 c0 k p c (-1) F w h1 h2
        have E3:=Lib.hid (show zCZ d k=some (catT (List.replicate j k++[zB2 d k (-1)])) by rw[E2.out,if_pos hn,HLO.out,Int.toNat_natCast,HJN.out])
        clear E2 hn
        go_upto_region 13 with (first|((with_reducible refine gL ?_);refine aG H ?_))
        clear hhi0 d2 dj dn hhi hlo hem hno hlo2
        go_upto_region 15 with (first|(at_builtin;refine zAX rfl _ _ 85 rfl H (i:=4) (j:=6) evd_ rfl i_4 i_6 Tryz.underlying85 hi0 hz0 hz1 hz2 rfl (by decide) rfl rfl (by unfold maxLen;omega) (by omega) ?_;clear H;intro v2 w H;try simp only[nr]at H)|((with_reducible refine gBS ?_);refine zAL wtd_ _ _ _ rfl H (zAU ((zB2 d k (-1)).d) (.slice q1 (zB2 d k (-1)).kids.length m1)) 87 (by intro W;simp only[ml];(try simp only[pe]);exact zBf _ _ W) ?_;clear H;intro bk w H;try simp only[nr]at H)|((with_reducible refine gL ?_);refine aD H ?_)|(go_at_call 153;refine cht (hag _ (H.knlt (i:=0) .zero) (H.kn (i:=0) .zero)) H (Still.at (i:=0) .zero) ?_;clear H;intro q1 m1 F1 w hF1 H))
        obtain⟨q2,c2,rfl,_,_,_⟩:=H.rowShape (i:=4) i_4;rw[zNX (List.replicate j ((k,p,c):TV)) (zB2 d k (-1),q1,m1)]at H
        obtain⟨G,hG,H2⟩:=H.rowForest (i:=4) (xs:=List.replicate j ((k,p,c):TV)++[(zB2 d k (-1),q1,m1)]) (K:=fun b=>F b∨F1 b) i_4 (by simp) ((Still.at (i:=0) .zero).or (Still.at (i:=5) i_5)) (fun y hy=>by
         rcases List.mem_append.1 hy with hy|hy
         ·obtain rfl:=List.eq_of_mem_replicate hy;exact(H.kn (i:=0) .zero).mono (fun _ h=>.inl h)
         ·obtain rfl:=List.mem_singleton.1 hy
          exact(H.kn (i:=5) i_5).mono (fun _ h=>.inr h))
        clear H;have H:=H2;clear H2;simp only[sc]at H;have EM:(List.replicate j ((k,p,c):TV)++[((zB2 d k (-1),q1,m1):TV)]).map (·.1)=List.replicate j k++[zB2 d k (-1)]:=by rw[List.map_append,zM2];rfl
        rw[EM]at H;have hsz:zAK (List.replicate j k++[zB2 d k (-1)])≤1000000000:=by
         have h1:=HSZ.out;have h2:=HSZ2.out;have h3:=zGD d k (-1);rw[zAe,h1];simp only[zAK];omega
        have hGl:∀ b,G b→w0.heap.size≤b∨F b:=fun b hb=>(hG b hb).elim .inl (fun h=>h.elim .inr (fun h=>hF1 b h))
        clear hG EM hag HSZ HSZ2;have hcat:=fun W (h1:∀ b,G b→b<W.heap.size) (h2:ForestR W G q2 c2 _)=>zIo q2 (j+1) c2 G (List.replicate j k++[zB2 d k (-1)]) W h1 h2 (by simp) hsz
        generalize catT (List.replicate j k++[zB2 d k (-1)])=ct at hcat E3
        clear hsz
        go_wp2_with (first|((with_reducible refine gT ?_);(refine aT H ?_;clear H;intro w H;try simp only[nr]at H))|(go_at_call 140;refine cht (hcat _ (H.knlt (i:=4) i_4) (H.kn (i:=4) i_4)) H (Still.at (i:=4) i_4) ?_;clear H;intro q3 m3 F3 w hF3 H;simp only[ca]at H))
        (refine xct Tryz.results143 H ?_)
        refine⟨?_,H.below⟩;rw[E3.out];exact⟨q3,m3,F3,rfl,H.kn (i:=7) i_7,fun b h=>⟨H.knlt (i:=7) i_7 b h,(hF3 b h).elim .inl (hGl b)⟩⟩
       ·have dn:decide (d.hi<0)=false:=by simp;omega
        obtain⟨m,hm⟩:∃ m:Nat,d.hi - d.lo=m:=⟨(d.hi - d.lo).toNat,by omega⟩
        have hm2:m≤100:=by omega
        have hw1:IntKind.i64.wrap (d.hi - d.lo)=d.hi - d.lo:=by rw[IntKind.wrap_i64];omega
        have E3:=Lib.hid (show zCZ d k=some (catT (List.replicate j k++zDz d k m)) by rw[E2.out,if_neg hn,HLO.out,Int.toNat_natCast,HJN.out,← HLO.out,hm,Int.toNat_natCast])
        have hre:=fun (w:World) (h1:∀ b,F b→b<w.heap.size) (h2:ForestR w F p c k.kids)=>show Calls Tryz.prog 154 #[.agg (zAU d (.slice p0 n0 c0)),.agg (zAU k.d (.slice p k.kids.length c)),.int .i64 (d.hi - d.lo)] w fun e w'=>zFV w F (zDz d k m) e w'∧Below w.heap.size w w' from (by rw[hm];exact zLZ m d p0 n0 c0 k p c F w hm2 hk h1 h2)
        have HSR:=Lib.hid (zFm d k m);have HLR:=Lib.hid (zKy d k m);have hmk:m * (zAT k+2)≤100 * 2002:=Nat.mul_le_mul hm2 (by omega)
        have HMK:=Lib.hid hmk;clear hmk
        generalize zDz d k m=rs at hre HSR HLR E3
        clear E2 hn hm hhi0 d2 hem hno hlo2
        go_upto_region 14 with (first|((with_reducible refine gL ?_);refine aG H ?_))
        clear dn dj
        go_upto_region 15 with (first|(at_builtin;(have HL1:=HLR.out);(have HX1:=congrArg List.length HX.out);(rw[List.length_map]at HX1);refine zDK rfl _ _ 85 rfl H (i:=4) evd_ evd_ i_4 (Knows.rd (H.kn (i:=5) i_5)) (zCH _) Tryz.underlying85 hi0 hz0 hz1 hz2 rfl (by decide) (zGQ _) (by unfold maxLen;omega) (by omega) ?_;clear H HL1 HX1;intro v2 w H;try simp only[nr]at H)|((with_reducible refine gL ?_);(first|refine aG H ?_|refine aD H ?_))|(go_at_call 154;refine chk (hre _ (H.knlt (i:=0) .zero) (H.kn (i:=0) .zero)) H (Still.at (i:=0) .zero) ?_;clear H;intro q1 m1 F1 xs w HX hF1 H;simp only[ca]at H))
        obtain⟨q2,c2,rfl,_,_,_⟩:=H.rowShape (i:=4) i_4;rw[← zBH,← List.map_append]at H
        obtain⟨G,hG,H2⟩:=H.rowForest (i:=4) (xs:=List.replicate j ((k,p,c):TV)++xs) (K:=fun b=>F b∨F1 b) i_4 (by simp) ((Still.at (i:=0) .zero).or (Still.at (i:=5) i_5)) (fun y hy=>by
         rcases List.mem_append.1 hy with hy|hy
         ·obtain rfl:=List.eq_of_mem_replicate hy;exact(H.kn (i:=0) .zero).mono (fun _ h=>.inl h)
         ·exact((H.kn (i:=5) i_5).2 y hy).mono (fun _ h=>.inr h))
        clear H;have H:=H2;clear H2;simp only[sc]at H;have EM:(List.replicate j ((k,p,c):TV)++xs).map (·.1)=List.replicate j k++rs:=by rw[List.map_append,zM2,HX.out]
        have hxl:j+xs.length=(List.replicate j k++rs).length:=by rw[← HX.out];simp
        rw[EM]at H;have hsz:zAK (List.replicate j k++rs)≤1000000000:=by
         have h1:=HSZ.out;have h2:=HSZ2.out;have h3:=HSR.out;have h4:=HMK.out;rw[zAe,h1];omega
        have hGl:∀ b,G b→w0.heap.size≤b∨F b:=fun b hb=>(hG b hb).elim .inl (fun h=>h.elim .inr (fun h=>hF1 b h))
        have hcat:=fun W (h1:∀ b,G b→b<W.heap.size) (h2:ForestR W G q2 c2 _)=>zIo q2 (j+xs.length) c2 G (List.replicate j k++rs) W h1 h2 hxl hsz
        clear hG EM hre HSZ HSZ2 hxl
        generalize catT (List.replicate j k++rs)=ct at hcat E3
        clear hsz
        go_wp2_with (first|((with_reducible refine gT ?_);(refine aT H ?_;clear H;intro w H;try simp only[nr]at H))|(go_at_call 140;refine cht (hcat _ (H.knlt (i:=4) i_4) (H.kn (i:=4) i_4)) H (Still.at (i:=4) i_4) ?_;clear H;intro q3 m3 F3 w hF3 H;simp only[ca]at H))
        (refine xct Tryz.results143 H ?_)
        refine⟨?_,H.below⟩;rw[E3.out];exact⟨q3,m3,F3,rfl,H.kn (i:=6) i_6,fun b h=>⟨H.knlt (i:=6) i_6 b h,(hF3 b h).elim .inl (hGl b)⟩⟩
end
end Go.Proofs.YtdoflhjhaciepaaGreat
