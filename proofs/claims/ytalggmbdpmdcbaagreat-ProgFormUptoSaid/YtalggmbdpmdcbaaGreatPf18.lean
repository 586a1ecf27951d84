/-
  Laws of walks, and walks.
-/
import Derived.Test.YtalggmbdpmdcbaaGreatPf17
import Derived.Test.YtalggmbdpmdcbaaGreatPf9
import Derived.Test.YtalggmbdpmdcbaaGreatPf8
import Derived.Test.YtalggmbdpmdcbaaGreatPf10
set_option linter.unusedVariables false
set_option linter.unusedSimpArgs false
set_option maxRecDepth 100000
set_option maxHeartbeats 16000000
namespace Go.Proofs.YtalggmbdpmdcbaaGreat
section
open Go.RowKit Go.Shelf
attribute [local go_sem] Oper.semAt_some
section
variable {M:Nat->Prop} {P:Program} {f:FuncId} {args:Array Value} {w w0:World} {l3:List Res} {R:Ending->World->Prop} {bc:Nat} {v:Value} {xs ys:List InstD} {F:Nat->Prop} {S:World->Prop}
theorem zFZ {r:Int × List InstD} (H:HoldG M w0 w (.blk bc #[v] 61::.row v 47 9 xs.length (zAG (xs.map zAJ))::l3)) (hF:Still (.blk bc #[v] 61::.row v 47 9 xs.length (zAG (xs.map zAJ))::l3) F)
  (hS:∀ V:World,(∀ b,F b->V.heap[b]?=w.heap[b]?)->S V)
  (c:HoldG M w0 w (zAp bc v xs++[.kn F S])->Calls P f args w (LayO M w0 bc v xs [.kn F S] w (some r)))
  (k:∀ v' w',HoldG M w0 w' (.blk bc #[v'] 61::.row v' 47 9 r.2.length (zAG (r.2.map zAJ))::l3)->R (.returned (.int .i64 r.1)) w'):Calls P f args w R :=
 zI1 H hF hS c fun e v' ys w' H' h _=>by obtain⟨rfl,rfl⟩:=h;exact k v' w' H'
theorem zFQ (H:HoldG M w0 w (.blk bc #[v] 61::.row v 47 9 xs.length (zAG (xs.map zAJ))::l3)) (hF:Still (.blk bc #[v] 61::.row v 47 9 xs.length (zAG (xs.map zAJ))::l3) F)
  (hS:∀ V:World,(∀ b,F b->V.heap[b]?=w.heap[b]?)->S V)
  (c:HoldG M w0 w (zAp bc v xs++[.kn F S])->Calls P f args w (LayO M w0 bc v xs [.kn F S] w none))
  (k:∀ (v':Value) (ys:List InstD) w',HoldG M w0 w' (.blk bc #[v'] 61::.row v' 47 9 ys.length (zAG (ys.map zAJ))::l3)->R (.panicked (zCH 7)) w'):Calls P f args w R :=
 zI1 H hF hS c fun e v' ys w' H' h _=>by subst h;exact k v' ys w' H'
end
theorem zMa (m:Nat) (IH:zJK m) {M:Nat->Prop} {w0 w:World} (bc:Nat) (v:Value) (xs:List InstD) (d:NodeD) (ts:List Tree) (p:Option Addr) (n c:Nat) (out:Nat) (F:Nat->Prop) (hm:zAF ts<=m) (hkd:zAu d ts.length=true) (hkt:zAU ts=true) (k6:d.kind=6) (hn:n=ts.length) (H0:HoldG M w0 w (zAp bc v xs++[.kn F (fun V=>ForestR V F p c ts)])) (hxl:xs.length<=4000) :
  Calls Tryz.prog 58 #[.pointer (some ⟨bc,0,none⟩),zAV d (.slice p n c),.int .i64 out] w (LayO M w0 bc v xs [.kn F (fun V=>ForestR V F p c ts)] w (capQ (layP (.mk d ts) out xs))):=by
 have H:=H0.framed;clear H0;obtain⟨rF,hrF⟩:∃ rF,zCb w (zAp bc v xs++[.kn F (fun V=>ForestR V F p c ts)])=rF:=⟨_,rfl⟩
 obtain⟨rS,hrS⟩:∃ rS,zCl w (zAp bc v xs++[.kn F (fun V=>ForestR V F p c ts)])=rS:=⟨_,rfl⟩
 rw[hrF,hrS]at H;simp only[zAp,List.cons_append,List.nil_append]at H;obtain⟨kx,h1,h2,hts⟩:=ForestR.open (H.kn (i:=2) i_2);have hn':n=kx.length:=by rw[hn,hts,List.length_map]
 have hK:Knows F p n c kx w:=⟨by rw[hn'];exact h1,h2⟩
 replace H:=H.also F (Knows F p n c kx) (Still.at (i:=2) i_2) (fun V hV=>hK.kept hV)
 simp only[ca]at H;have hc1:=hK.bound.2.1;have hc2:=hK.bound.2.2;have hp:=hK.at;clear hK h1 h2;obtain⟨y,rfl⟩:∃ y,kx=[y]:=by
  have h1:ts.length=1:=(ok_6 hkd k6).1;have h2:=congrArg List.length hts;rw[List.length_map,h1]at h2;exact List.length_eq_one_iff.1 h2.symm
 have hts1:ts=[y.1]:=hts;have hn1:n=1:=hn';subst hn1;obtain⟨g,off,rfl⟩:=hp (by simp)
 have hmem:y ∈ [y]:=List.mem_singleton.2 rfl;have hky:zAk y.1=true:=by rw[hts1]at hkt;simpa [zAU] using hkt
 have hsy:zAB y.1<=m:=by rw[hts1]at hm;simp only[zAF]at hm;omega
 have hcell:∀ V,Knows F (some ⟨g,off,none⟩) 1 c [y] V->∀ k,k<10->V.cell? ⟨g,off+k,none⟩=(zAT y)[k]?:=fun V h=>h.cells (j:=0) rfl rfl
 have hspl:=zNr d (.slice (some ⟨g,off,none⟩) 1 c)
 by_cases h1:d.hi=1
 ·have d1:(d.hi == 1)=true:=by rw[beq_iff_eq];exact h1
  have hL:=zCk y.1 out xs;have hlay:=fun v' w'=>IH y.1 y.2.1 y.1.kids.length y.2.2 F bc v' xs out M w0 w' hsy hky rfl hxl
  have EL:layP (.mk d ts) out xs=((layP y.1 out xs).2.length,(layP y.1 out xs).2++[zCK d (layP y.1 out xs).1 out]):=by
   rw[layP,if_neg (by omega),if_neg (by omega),if_neg (by omega),if_neg (by omega),if_neg (by omega),if_neg (by omega),if_pos k6,if_pos h1,hts1];rfl
  obtain⟨ar,hal⟩:∃ a,layP y.1 out xs=a:=⟨_,rfl⟩;obtain⟨a,ys⟩:=ar;rw[hal]at EL hlay hL;simp only[]at hL hlay EL;clear k6 IH hal hts1 hky hsy hkd hkt hm hn hn' hts hp h1
  by_cases hy:ys.length<=4000
  ·rw[zBw (by simpa using hy)]at hlay
   go_enter Tryz.func58,Tryz.ntmps58
   go_upto_region 2 with (first|(first|((with_reducible refine gL ?_);refine aG H ?_)|((with_reducible refine gX ?_);(refine bB H ?_;clear H;intro b w H;try simp only[nr]at H))))
   have hrefl:∀ W,BelR W W:=BelR.refl;refine zBd BelR (PutR bc w0.heap.size) [10] (fun r W=>match r with|0=>HoldG M w0 W ([.blk bc #[v] 61,.row v 47 9 (xs).length (zAG ((xs).map zAJ)),.kn F (fun V=>ForestR V F (some ⟨g,off,none⟩) c ts),.kn rF rS,.kn F (Knows F (some ⟨g,off,none⟩) 1 c [y]),.blk b (zAR d (.slice (some ⟨g,off,none⟩) 1 c)) 28])|_=>∃ v3,HoldG M w0 W ([.blk bc #[v3] 61,.row v3 47 9 (ys).length (zAG ((ys).map zAJ)),.kn F (fun V=>ForestR V F (some ⟨g,off,none⟩) c ts),.kn rF rS,.kn F (Knows F (some ⟨g,off,none⟩) 1 c [y]),.blk b (zAR d (.slice (some ⟨g,off,none⟩) 1 c)) 28])) (PutR.bel _ _) (fun r u v h hb=>match r,h with|0,h=>HoldG.call h hb|_+1,⟨v3,h⟩=>⟨v3,HoldG.call h hb⟩) BelR.drew BelR.refl (PutR.trans _ _) 14 [fun v _=>v=pt bc 0,fun v _=>v=pt bc 0,fun v _=>v=pt bc 0,fun v _=>v=zAV d (.slice (some ⟨g,off,none⟩) 1 c),fun v _=>v=pt bc 0,fun v _=>v=pt b 5,fun v _=>v=.slice (some ⟨g,off,none⟩) 1 c,fun v _=>v=.pointer (some ⟨g,off,none⟩),fun v _=>v=.agg (zAT y),fun v _=>v=.int .i64 (out:Int),fun v _=>v=.int .i64 (a:Int),fun v _=>v=.int .i64 (out:Int),fun v _=>v=zA2 (zCK d a out),zGz bc w0.heap.size w (zAJ (zCK d a out)) 47] (by repeat (first|exact trivial|refine⟨zAy _,?_⟩|refine⟨zDa _ _ _,?_⟩)) (by kernel_rfl) (H) (by kernel_rfl) (by kernel_rfl) (by kernel_rfl) ?ob ?en
   case ob =>
    refine⟨?_,?_,?_,?_,?_,?_,?_,?_,?_,?_,?_,?_,?_,?_,trivial⟩
    ·intro A W h;exact zBa hrefl rfl rfl (h.f 0)
    ·intro A W h;(have e12:A.eval (.tmp 12)=.pointer (some ⟨bc,0,none⟩):=h.d 0 12;refine zAS hrefl rfl ?_;simp only[execOp,e12];simp[go_sem])
    ·intro A W h;(have e13:A.eval (.tmp 13)=.pointer (some ⟨bc,0,none⟩):=h.d 1 13;refine zAS hrefl rfl ?_;simp only[execOp,e13];simp[go_sem])
    ·intro A W h;exact zAS hrefl rfl (zAb rfl (h.f 4) zAP rfl (fun k _=>by rw[Nat.zero_add];exact zB6 H h.rel (i:=3) i_3 k))
    ·intro A W h;exact zBa hrefl rfl rfl (h.f 0)
    ·intro A W h;(have e4:A.eval (.tmp 4)=.pointer (some ⟨b,0,none⟩):=h.f 4;refine zAS hrefl rfl ?_;simp only[execOp,e4];simp[go_sem])
    ·intro A W h;exact zAS hrefl rfl (zAD rfl (h.d 5 17) zAz (zB6 H h.rel (i:=3) i_3 5))
    ·intro A W h;exact zHo (zBr (i:=0) (n:=1) (off:=off) (q:=off) (sz:=10) (D:=False) Tryz.underlying26 (fun w=>by kernel_rfl) rfl rfl (h.d 6 18) rfl (by omega) (by omega))
    ·intro A W h;exact zAS hrefl rfl (zAb rfl (h.d 7 19) zAP (zAl y) (hcell _ (zHT H h.rel (i:=2) i_2)))
    ·intro A W h;exact zBa hrefl rfl rfl (h.f 2)
    ·intro A W h hst;exact zMl rfl rfl (enters_of Tryz.func27 (by kernel_rfl) rfl) (zH7 ⟨h.d 4 16,h.d 8 20,h.d 9 21⟩) hst (Still.at (i:=4) i_4) (fun V hV=>((HoldG.kn hst (i:=4) i_4).2 y hmem).kept hV) (fun h=>hlay _ _ h)
    ·intro A W h;exact zBa hrefl rfl rfl (h.f 2)
    ·intro A W h;exact zNg rfl rfl (enters_of Tryz.func117 (by kernel_rfl) rfl) (zH7 ⟨(h.d 3 15),(h.d 10 22),(h.d 11 23)⟩) ((hspl _ _ W))
    ·intro A W h;exact zHn rfl rfl (h.d 12 24) h.rel (zEU H) H.keep.size (zFi H)
   case en =>
    intro vals W hbw hv hst;have x13:=hv 13 (by omega);simp only[zAe]at x13
    simp only[fa,Nat.reduceAdd];rw[e_ hv 0,e_ hv 1,e_ hv 2,e_ hv 3,e_ hv 4,e_ hv 5,e_ hv 6,e_ hv 7,e_ hv 8,e_ hv 9,e_ hv 10,e_ hv 11,e_ hv 12];clear hv
    try simp only[pl]
    obtain⟨v3,H2⟩:=hst;obtain⟨bq,e13,H3⟩:=zGP H H2 x13;rw[e13];clear x13 e13 hbw H H2;have H:=H3;clear H3;simp only[ca]at H;obtain⟨Fq,H2⟩:=H.oneInst (i:=6) i_6;clear H;have H:=H2;clear H2;simp only[sc]at H
    by_cases hl2:ys.length<4000
    ·have E:capQ (layP (.mk d ts) out xs)=some ((ys.length:Int),ys++[zCK d a out]):=by rw[EL];exact zBw (by simp only[List.length_append,List.length_cons,List.length_nil];omega)
     have E:=Lib.hid E;clear EL
     go_wp2_with (first|(go_at_call 26;refine zDm H hy (i:=4) i_4 hl2 ?_;clear H;intro v4 zs w H hys)|fail)
     go_ret;rw[E.out,← hys.out];rw[← hrF,← hrS]at H;exact⟨_,rfl,zAX H (i:=3) i_3 (by decide) (by rfl)⟩
    ·have E:=Lib.hid (show capQ (layP (.mk d ts) out xs)=none from zBE (by rw[EL];simp only[List.length_append,List.length_cons,List.length_nil];omega))
     clear EL
     go_wp2_with (first|(go_at_call 26;refine zEo H hy (i:=4) i_4 hl2 ?_;clear H;intro v4 zs w H)|fail)
     rw[E.out];rw[← hrF,← hrS]at H;exact⟨rfl,rfl,_,_,zAX H (i:=3) i_3 (by decide) (by rfl)⟩
  ·rw[zBE (by simpa using hy)]at hlay
   have E:=Lib.hid (show capQ (layP (.mk d ts) out xs)=none from zBE (by rw[EL];simp only[List.length_append,List.length_cons,List.length_nil];omega))
   rw[E.out];clear EL E
   go_enter Tryz.func58,Tryz.ntmps58
   go_upto_region 2 with (first|(first|((with_reducible refine gL ?_);refine aG H ?_)|((with_reducible refine gX ?_);(refine bB H ?_;clear H;intro b w H;try simp only[nr]at H))))
   have hrefl:∀ W,BelR W W:=BelR.refl;refine zBd BelR (PutR bc w0.heap.size) [10] (fun _ W=>HoldG M w0 W ([.blk bc #[v] 61,.row v 47 9 (xs).length (zAG ((xs).map zAJ)),.kn F (fun V=>ForestR V F (some ⟨g,off,none⟩) c ts),.kn rF rS,.kn F (Knows F (some ⟨g,off,none⟩) 1 c [y]),.blk b (zAR d (.slice (some ⟨g,off,none⟩) 1 c)) 28])) (PutR.bel _ _) (fun r u v h hb=>HoldG.call h hb) BelR.drew BelR.refl (PutR.trans _ _) 14 [fun v _=>v=pt bc 0,fun v _=>v=pt bc 0,fun v _=>v=pt bc 0,fun v _=>v=zAV d (.slice (some ⟨g,off,none⟩) 1 c),fun v _=>v=pt bc 0,fun v _=>v=pt b 5,fun v _=>v=.slice (some ⟨g,off,none⟩) 1 c,fun v _=>v=.pointer (some ⟨g,off,none⟩),fun v _=>v=.agg (zAT y),fun v _=>v=.int .i64 (out:Int),fun _ _=>False,fun v _=>v=.int .i64 (out:Int),fun _ _=>False,fun _ _=>False] (by repeat (first|exact trivial|refine⟨zAy _,?_⟩|refine⟨fun _ _ _ h _=>h,?_⟩)) (by kernel_rfl) (H) (by kernel_rfl) (by kernel_rfl) (by kernel_rfl) ?ob ?en
   case ob =>
    refine⟨?_,?_,?_,?_,?_,?_,?_,?_,?_,?_,?_,?_,?_,?_,trivial⟩
    ·intro A W h;exact zBa hrefl rfl rfl (h.f 0)
    ·intro A W h;(have e12:A.eval (.tmp 12)=.pointer (some ⟨bc,0,none⟩):=h.d 0 12;refine zAS hrefl rfl ?_;simp only[execOp,e12];simp[go_sem])
    ·intro A W h;(have e13:A.eval (.tmp 13)=.pointer (some ⟨bc,0,none⟩):=h.d 1 13;refine zAS hrefl rfl ?_;simp only[execOp,e13];simp[go_sem])
    ·intro A W h;exact zAS hrefl rfl (zAb rfl (h.f 4) zAP rfl (fun k _=>by rw[Nat.zero_add];exact zB6 H h.rel (i:=3) i_3 k))
    ·intro A W h;exact zBa hrefl rfl rfl (h.f 0)
    ·intro A W h;(have e4:A.eval (.tmp 4)=.pointer (some ⟨b,0,none⟩):=h.f 4;refine zAS hrefl rfl ?_;simp only[execOp,e4];simp[go_sem])
    ·intro A W h;exact zAS hrefl rfl (zAD rfl (h.d 5 17) zAz (zB6 H h.rel (i:=3) i_3 5))
    ·intro A W h;exact zHo (zBr (i:=0) (n:=1) (off:=off) (q:=off) (sz:=10) (D:=False) Tryz.underlying26 (fun w=>by kernel_rfl) rfl rfl (h.d 6 18) rfl (by omega) (by omega))
    ·intro A W h;exact zAS hrefl rfl (zAb rfl (h.d 7 19) zAP (zAl y) (hcell _ (zHT H h.rel (i:=2) i_2)))
    ·intro A W h;exact zBa hrefl rfl rfl (h.f 2)
    ·intro A W h hst;exact zJR rfl rfl (enters_of Tryz.func27 (by kernel_rfl) rfl) (zH7 ⟨h.d 4 16,h.d 8 20,h.d 9 21⟩) hst (Still.at (i:=4) i_4) (fun V hV=>((HoldG.kn hst (i:=4) i_4).2 y hmem).kept hV) (fun h=>hlay _ _ h) (fun v3 zs w' H2=>⟨h.defers,rfl,v3,zs,by rw[← hrF,← hrS]at H2;exact zAX H2 (i:=3) i_3 (by decide) (by rfl)⟩)
    ·intro A W h;exact zBa hrefl rfl rfl (h.f 2)
    ·intro A W h;exact(show False from h.d 10 22).elim
    ·intro A W h;exact(show False from h.d 12 24).elim
   case en =>
    intro vals W hbw hv hst;exact(show False from hv 10 (by omega)).elim
 ·have d1:(d.hi == 1)=false:=by rw[beq_eq_false_iff_ne];exact h1
  have hL:=zCk y.1 xs.length (xs++[{kind:=2}]);have hlay:=fun v' w'=>IH y.1 y.2.1 y.1.kids.length y.2.2 F bc v' (xs++[{kind:=2}]) xs.length M w0 w' hsy hky rfl
  have EL:layP (.mk d ts) out xs=(xs.length,(layP y.1 xs.length (xs++[{kind:=2}])).2.set xs.length (zCK d (layP y.1 xs.length (xs++[{kind:=2}])).1 out)):=by
   rw[layP,if_neg (by omega),if_neg (by omega),if_neg (by omega),if_neg (by omega),if_neg (by omega),if_neg (by omega),if_pos k6,if_neg h1,hts1];rfl
  obtain⟨ar,hal⟩:∃ a,layP y.1 xs.length (xs++[{kind:=2}])=a:=⟨_,rfl⟩;obtain⟨a,ys⟩:=ar;rw[hal]at EL hlay hL;simp only[List.length_append,List.length_cons,List.length_nil]at hL hlay EL;clear k6 IH hal hts1 hky hsy hkd hkt hm hn hn' hts hp h1
  by_cases hl:xs.length<4000
  ·by_cases hy:ys.length<=4000
   ·rw[zBw (by simpa using hy)]at hlay
    have E:=Lib.hid (show capQ (layP (.mk d ts) out xs)=some ((xs.length:Int),ys.set xs.length (zCK d a out)) by rw[EL];exact zBw (by simpa using hy))
    rw[E.out];clear EL E
    go_enter Tryz.func58,Tryz.ntmps58
    go_upto_region 3 with (first|(first|((with_reducible refine gL ?_);refine aG H ?_)|((with_reducible refine gX ?_);(refine bB H ?_;clear H;intro b w H;try simp only[nr]at H))))
    refine zCJ 5 [fun v _=>v=pt bc 0,fun v _=>v=pt bc 0,fun v _=>v=pt bc 0,fun v _=>v=zA2 {kind:=2},zCo w.heap.size (zAJ {kind:=2}) 47] (fun _=>false) (by kernel_rfl) (by kernel_rfl) (by repeat (first|exact trivial|refine⟨zAL _,?_⟩|refine⟨zA1 _ _ _,?_⟩)) (fun _ _ h=>by cases h) ?ob ?en
    case ob =>
     refine⟨?_,?_,?_,?_,?_,trivial⟩<;>intro A W h
     ·exact zAH rfl rfl (h.f 0)
     ·(have e27:A.eval (.tmp 27)=.pointer (some ⟨bc,0,none⟩):=h.d 0 27;refine zAA rfl ?_;simp only[execOp,e27];simp[go_sem])
     ·(have e28:A.eval (.tmp 28)=.pointer (some ⟨bc,0,none⟩):=h.d 1 28;refine zAA rfl ?_;simp only[execOp,e28];simp[go_sem])
     ·(refine zAA rfl ?_;simp only[execOp];(simp only[List.map_toArray,List.map_cons,List.map_nil,Sem.run_bind,zB0,zGN];rfl))
     ·exact zCU rfl rfl (h.d 3 30) h.below.size (by decide)
    case en =>
     intro vals W hbw hv _;have x4:=hv 4 (by omega);simp only[zAe]at x4
     simp only[fa,Nat.reduceAdd];rw[e_ hv 0,e_ hv 1,e_ hv 2,e_ hv 3];clear hv
     try simp only[pl]
     obtain⟨bk,e4,H2⟩:=H.gainS hbw x4;rw[e4];clear x4 e4 hbw H;have H:=H2;clear H2;simp only[ca]at H;obtain⟨Fk,H2⟩:=H.oneInst (i:=6) i_6;clear H;have H:=H2;clear H2;simp only[sc]at H
     go_upto_region 5 with (first|(go_at_call 26;refine zDm H hxl (i:=4) i_4 hl ?_;clear H;intro v2 zs w H hys;(obtain rfl:=hys.out);clear hys)|(go_at_call 27;refine zFZ (F:=F) (S:=fun V=>ForestR V F y.2.1 y.2.2 y.1.kids) H (Still.at (i:=4) i_4) (fun V hV=>((H.kn (i:=4) i_4).2 y hmem).kept hV) (fun h=>hlay _ _ (by omega) h) ?_;clear H;intro v3 w H)|((with_reducible refine gL ?_);refine zAO wtd_ _ _ rfl rfl zAP (zAl y) (hcell _ (H.kn (i:=4) i_4)) ?_)|((with_reducible refine gL ?_);refine aG H ?_))
     obtain⟨q2,c2,rfl,_,_,hq2⟩:=H.rowShape (i:=1) i_1;obtain⟨g2,rfl⟩:=hq2 (by omega)
     obtain⟨yl,hyl2⟩:∃ yl,ys.length=yl:=⟨_,rfl⟩;have HYL:=Lib.hid hyl2
     try simp only[]at H
     rw[hyl2]at H hL;clear hyl2;refine wr_ 11 [fun v _=>v=pt bc 0,fun v _=>v=pt bc 0,fun v _=>v=pt bc 0,fun v _=>v=pt bc 0,fun v _=>v=.slice (some ⟨g2,0,none⟩) yl c2,fun v _=>v=.int .i64 (xs.length:Int),fun v _=>v=zAV d (.slice (some ⟨g,off,none⟩) 1 c),fun v _=>v=.int .i64 (a:Int),fun v _=>v=.int .i64 (out:Int),fun v _=>v=zA2 (zCK d a out),fun v _=>v=.pointer (some ⟨g2,xs.length * 9,none⟩)] ?ob ?en
     case ob =>
      refine⟨?_,?_,?_,?_,?_,?_,?_,?_,?_,?_,?_,trivial⟩<;>intro A W h
      ·exact zAH rfl rfl (h.f 0)
      ·(have e40:A.eval (.tmp 40)=.pointer (some ⟨bc,0,none⟩):=h.d 0 40;refine zAA rfl ?_;simp only[execOp,e40];simp[go_sem])
      ·(have e41:A.eval (.tmp 41)=.pointer (some ⟨bc,0,none⟩):=h.d 1 41;refine zAA rfl ?_;simp only[execOp,e41];simp[go_sem])
      ·(have e42:A.eval (.tmp 42)=.pointer (some ⟨bc,0,none⟩):=h.d 2 42;refine zAA rfl ?_;simp only[execOp,e42];simp[go_sem])
      ·exact zAA rfl (zAD rfl (h.d 3 43) zBW ((H.call h.below).cell (i:=0) .zero 0)) (by decide)
      ·exact zAH rfl rfl (h.f 7)
      ·exact zAA rfl (zAb rfl (h.f 4) zAP rfl (fun k _=>by rw[Nat.zero_add];exact(H.call h.below).cell (i:=5) i_5 k)) (by decide)
      ·exact zAH rfl rfl (h.f 8)
      ·exact zAH rfl rfl (h.f 2)
      ·exact zD6 rfl rfl (enters_of Tryz.func117 (by kernel_rfl) rfl) (zH7 ⟨(h.d 6 46),(h.d 7 47),(h.d 8 48)⟩) ((hspl _ _ W))
      ·exact zBr (sz:=9) Tryz.underlying32 (fun w=>by kernel_rfl) rfl rfl (h.d 4 44) (h.d 5 45) (by omega) (by omega)
     case en =>
      intro vals W hbw hv _;simp only[fa,Nat.reduceAdd];rw[e_ hv 0,e_ hv 1,e_ hv 2,e_ hv 3,e_ hv 4,e_ hv 5,e_ hv 6,e_ hv 7,e_ hv 8,e_ hv 9,e_ hv 10];clear hv
      try simp only[pl]
      replace H:=H.call hbw;clear hbw
      go_wp2_with (first|((with_reducible refine gTi ?_);refine zBH wtd_ _ _ _ rfl rfl rfl evd_ H (j:=1) i_1 (zAW _) (by rw[List.length_map];exact HYL.out) (by with_reducible exact zAr zAj) rfl rfl (by omega) ?_;clear H;intro w H;try simp only[sc]at H)|fail)
      go_ret;rw[← List.map_set,show yl=(ys.set xs.length (zCK d a out)).length by rw[List.length_set];exact HYL.out.symm,← hrF,← hrS]at H
      exact⟨_,rfl,zAX H (i:=3) i_3 (by decide) (by rfl)⟩
   ·rw[zBE (by simpa using hy)]at hlay
    have E:=Lib.hid (show capQ (layP (.mk d ts) out xs)=none from zBE (by rw[EL];simpa using hy))
    rw[E.out];clear EL E
    go_enter Tryz.func58,Tryz.ntmps58
    go_upto_region 3 with (first|(first|((with_reducible refine gL ?_);refine aG H ?_)|((with_reducible refine gX ?_);(refine bB H ?_;clear H;intro b w H;try simp only[nr]at H))))
    refine zCJ 5 [fun v _=>v=pt bc 0,fun v _=>v=pt bc 0,fun v _=>v=pt bc 0,fun v _=>v=zA2 {kind:=2},zCo w.heap.size (zAJ {kind:=2}) 47] (fun _=>false) (by kernel_rfl) (by kernel_rfl) (by repeat (first|exact trivial|refine⟨zAL _,?_⟩|refine⟨zA1 _ _ _,?_⟩)) (fun _ _ h=>by cases h) ?ob ?en
    case ob =>
     refine⟨?_,?_,?_,?_,?_,trivial⟩<;>intro A W h
     ·exact zAH rfl rfl (h.f 0)
     ·(have e27:A.eval (.tmp 27)=.pointer (some ⟨bc,0,none⟩):=h.d 0 27;refine zAA rfl ?_;simp only[execOp,e27];simp[go_sem])
     ·(have e28:A.eval (.tmp 28)=.pointer (some ⟨bc,0,none⟩):=h.d 1 28;refine zAA rfl ?_;simp only[execOp,e28];simp[go_sem])
     ·(refine zAA rfl ?_;simp only[execOp];(simp only[List.map_toArray,List.map_cons,List.map_nil,Sem.run_bind,zB0,zGN];rfl))
     ·exact zCU rfl rfl (h.d 3 30) h.below.size (by decide)
    case en =>
     intro vals W hbw hv _;have x4:=hv 4 (by omega);simp only[zAe]at x4
     simp only[fa,Nat.reduceAdd];rw[e_ hv 0,e_ hv 1,e_ hv 2,e_ hv 3];clear hv
     try simp only[pl]
     obtain⟨bk,e4,H2⟩:=H.gainS hbw x4;rw[e4];clear x4 e4 hbw H;have H:=H2;clear H2;simp only[ca]at H;obtain⟨Fk,H2⟩:=H.oneInst (i:=6) i_6;clear H;have H:=H2;clear H2;simp only[sc]at H
     go_wp2_with (first|(go_at_call 26;refine zDm H hxl (i:=4) i_4 hl ?_;clear H;intro v2 zs w H hys;(obtain rfl:=hys.out);clear hys)|(go_at_call 27;refine zFQ (F:=F) (S:=fun V=>ForestR V F y.2.1 y.2.2 y.1.kids) H (Still.at (i:=4) i_4) (fun V hV=>((H.kn (i:=4) i_4).2 y hmem).kept hV) (fun h=>hlay _ _ (by omega) h) ?_;clear H;intro v3 zs w H)|((with_reducible refine gL ?_);refine zAO wtd_ _ _ rfl rfl zAP (zAl y) (hcell _ (H.kn (i:=4) i_4)) ?_)|((with_reducible refine gL ?_);refine aG H ?_))
     rw[← hrF,← hrS]at H;exact⟨rfl,rfl,_,_,zAX H (i:=3) i_3 (by decide) (by rfl)⟩
  ·have E:=Lib.hid (show capQ (layP (.mk d ts) out xs)=none from zBE (by rw[EL];simp only[List.length_set];omega))
   rw[E.out];clear EL E hlay hL
   go_enter Tryz.func58,Tryz.ntmps58
   go_upto_region 3 with (first|(first|((with_reducible refine gL ?_);refine aG H ?_)|((with_reducible refine gX ?_);(refine bB H ?_;clear H;intro b w H;try simp only[nr]at H))))
   refine zCJ 5 [fun v _=>v=pt bc 0,fun v _=>v=pt bc 0,fun v _=>v=pt bc 0,fun v _=>v=zA2 {kind:=2},zCo w.heap.size (zAJ {kind:=2}) 47] (fun _=>false) (by kernel_rfl) (by kernel_rfl) (by repeat (first|exact trivial|refine⟨zAL _,?_⟩|refine⟨zA1 _ _ _,?_⟩)) (fun _ _ h=>by cases h) ?ob ?en
   case ob =>
    refine⟨?_,?_,?_,?_,?_,trivial⟩<;>intro A W h
    ·exact zAH rfl rfl (h.f 0)
    ·(have e27:A.eval (.tmp 27)=.pointer (some ⟨bc,0,none⟩):=h.d 0 27;refine zAA rfl ?_;simp only[execOp,e27];simp[go_sem])
    ·(have e28:A.eval (.tmp 28)=.pointer (some ⟨bc,0,none⟩):=h.d 1 28;refine zAA rfl ?_;simp only[execOp,e28];simp[go_sem])
    ·(refine zAA rfl ?_;simp only[execOp];(simp only[List.map_toArray,List.map_cons,List.map_nil,Sem.run_bind,zB0,zGN];rfl))
    ·exact zCU rfl rfl (h.d 3 30) h.below.size (by decide)
   case en =>
    intro vals W hbw hv _;have x4:=hv 4 (by omega);simp only[zAe]at x4
    simp only[fa,Nat.reduceAdd];rw[e_ hv 0,e_ hv 1,e_ hv 2,e_ hv 3];clear hv
    try simp only[pl]
    obtain⟨bk,e4,H2⟩:=H.gainS hbw x4;rw[e4];clear x4 e4 hbw H;have H:=H2;clear H2;simp only[ca]at H;obtain⟨Fk,H2⟩:=H.oneInst (i:=6) i_6;clear H;have H:=H2;clear H2;simp only[sc]at H
    go_wp2_with (first|(go_at_call 26;refine zEo H hxl (i:=4) i_4 hl ?_;clear H;intro v2 zs w H)|fail)
    rw[← hrF,← hrS]at H;exact⟨rfl,rfl,_,_,zAX H (i:=3) i_3 (by decide) (by rfl)⟩
def zPv (w0:World) (s:Value) (e:Ending) (w':World):Prop:=∃ xb,e=.returned (.func (.func 187) #[] #[.pointer (some ⟨xb,0,none⟩)])/\w0.heap.size<=xb/\w'.heap[xb]?=some (.cells #[s] 26 (0,0))
theorem zI0 (p:Option Addr) (n c:Nat) (w0:World):Calls Tryz.prog 157 #[.slice p n c] w0 fun e w'=>zPv w0 (.slice p n c) e w'/\Below w0.heap.size w0 w':=by
 have H:=Hold.start w0
 go_enter Tryz.func157,Tryz.ntmps157
 go_wp2_with (first|((with_reducible refine kg 1 ?_);(first|refine kA 1 H ?_|refine kS 1 H ?_|refine kB 1 H ?_);clear H;intro b1 w H;try simp only[nr]at H)|fail)
 go_ret;exact⟨⟨b1,rfl,by have:=(H.blk .zero).1;simpa using this,(H.blk .zero).2⟩,H.below⟩
theorem zLV (d:NodeD) (p:Option Addr) (n c:Nat) (w0:World):Calls Tryz.prog 116 #[zAV d (.slice p n c)] w0 fun e w'=>zPv w0 (.slice p n c) e w'/\Below w0.heap.size w0 w':=by
 have H:=Hold.start w0
 go_enter Tryz.func116,Tryz.ntmps116
 go_wp2_with (first|(go_at_call 157;refine(zI0 p n c _).mono ?_;rintro e w ⟨⟨xb,rfl,hx1,hx2⟩,hb⟩;obtain⟨xb',e1,H2⟩:=H.gainB hb (v:=.pointer (some ⟨xb,0,none⟩)) ⟨xb,rfl,hx1,hx2⟩;cases e1;clear H hb hx1 hx2;have H:=H2;clear H2;simp only[ca]at H)|((with_reducible refine kg 1 ?_);(first|refine kA 1 H ?_|refine kS 1 H ?_|refine kB 1 H ?_);clear H;intro b1 w H;try simp only[nr]at H)|((with_reducible refine gL ?_);refine aG H ?_))
 go_ret;exact⟨⟨xb,rfl,by have:=(H.blk (i:=1) i_1).1;simpa using this,(H.blk (i:=1) i_1).2⟩,H.below⟩
section
variable {n:Nat} {P:Program} {ops:Array Oper} {Q:Exit->Act->World->Prop} {rest:List Oper} {o:Oper} {a:Act} {w:World}
theorem zMN {l:Nat} {x y z:Operand} {ts:Array TypeId} {v u:Value} {T:World->Prop} {X:List PanicEntry->World->Prop} (hg:o.guard=none) (hop:o.op=Op.call {callee:=Callee.value x,args:=#[y,z],argTypes:=ts}) (hx:a.eval x=.func (.yield l) #[] #[]) (hy:a.eval y=v) (hz:a.eval z=u)
  (hY:YieldAt Fence.wide (n - 1) P l #[v,u] w fun e W'=>(e=.returned (.bool true)/\T W')\/∃ ch,e=.panicked ch/\X ch W') (h1:∀ W',T W'->wpListIn Fence.wide n P ops Q rest (a.put o.dst (.bool true)) W') (h2:∀ ch W',X ch W'->Q (.panic ch) a W'):wpListIn Fence.wide n P ops Q (o::rest) a w:=by
 obtain⟨fn,tmps,assign,body,hyr,hR⟩:=hY;refine wpListIn_plain hg fun K hK=>?_
 refine⟨fun _ _=>trivial,?_⟩
 rw[show o.semAt Fence.wide.round a.eval=execOp a.eval o from rfl]
 have hr:(execOp a.eval o).run P w=.ok (.round l fn tmps assign body) w:=by
  simp only[execOp,hop];simp only[resolve,hx,List.map_toArray,List.map_cons,List.map_nil,hy,hz,Sem.run_bind,Sem.run_pure,Result.andThen_ok,invoke];exact hyr
 rw[hr];simp only[Oper.uponIn];refine⟨fun h=>by simp[Fence.wide]at h,hR.mono ?_⟩
 rintro e w' (⟨rfl,hT⟩|⟨ch,rfl,hX⟩)
 ·exact hK _ _ (h1 w' hT)
 ·exact h2 ch w' hX
end
theorem zLI (p:Option Addr) (n c:Nat) (kx:List TV) (F:Nat->Prop) (xb:Nat) (J:Nat->World->Prop) (hJ:∀ j W,J j W->W.cell? ⟨xb,0,none⟩=some (.slice p n c)/\Knows F p n c kx W) (hn:n=kx.length) (hn2:n<=1000000) (l:Nat) (B K:World->Prop) (X:List PanicEntry->World->Prop)
  (hY:∀ (j:Nat) (x:TV) W1,kx[j]?=some x->J (j+1) W1->B W1->YieldAt Fence.wide 7 Tryz.prog l #[.int .i64 j,.agg (zAT x)] W1 fun e W'=>(e=.returned (.bool true)/\J j W'/\B W')\/∃ ch,e=.panicked ch/\X ch W'/\K W')
  (W:World) (h0:J n W) (hB0:B W) :
  CallsIn Fence.wide 8 Tryz.prog 187 #[.func (.yield l) #[] #[],.pointer (some ⟨xb,0,none⟩)] W fun e W'=>(∃ v,e=.returned v/\J 0 W'/\B W')\/∃ ch,e=.panicked ch/\X ch W'/\K W':=by
 refine callsIn_of_wp Tryz.func187 rfl trivial ?_ rfl;simp only[Tryz.ntmps187,List.size_toArray,List.length_cons,List.length_nil,Nat.reduceAdd,Nat.reduceSub,Array.replicate_succ,Array.replicate_zero,List.push_toArray,List.append_toArray,List.nil_append,List.cons_append];have HY:=Lib.hid hY;clear hY;have HJ:=Lib.hid hJ;clear hJ;have HN:=Lib.hid hn;clear hn;refine wpIn_seq ?_
 rw[wpIn_wide]
 go_wp2_with (first|((with_reducible refine gL ?_);refine zAM wtd_ _ _ rfl rfl zAz (HJ.out _ _ h0).1 ?_))
 refine wpIn_block ?_
 gi_loopw [3] (fun ix wr=>∃ (j:Nat) (z:Int),z=(j:Int) - 1/\ix=.int .i64 z/\Hid (j<=n/\J j wr/\B wr)) (fun ix _=>(intOf ix+1).toNat)
 case atStart=>exact⟨n,_,rfl,rfl,Lib.hid ⟨Nat.le_refl _,h0,hB0⟩⟩
 case round =>
  clear h0 hB0;obtain⟨j,z,hz,rfl,G⟩:=hrel
  by_cases hj:0<j
  ·obtain⟨k,rfl⟩:∃ k,j=k+1:=⟨j - 1,by omega⟩
   have hzk:z=(k:Int):=by omega
   subst hzk;have hkn:k<n:=by have:=G.out.1;omega
   obtain⟨x,hx⟩:∃ x,kx[k]?=some x:=⟨kx[k]'(by have:=HN.out;omega),by simp⟩
   obtain⟨b,off,rfl⟩:=(HJ.out _ _ G.out.2.1).2.at (by have:=HN.out;omega)
   have hcell:=(HJ.out _ _ G.out.2.1).2.cells hx rfl;have hr1:=(HJ.out _ _ G.out.2.1).1;have hY2:=HY.out k x wr hx G.out.2.1 G.out.2.2;have HX:=Lib.hid hx;clear hx;clear hz hj;refine wpIn_seq ?_
   rw[wpIn_wide]
   go_wp2_with fail
   refine wpIn_seq (wpIn_block (wpIn_seq (wpIn_region_lit ?_)));refine zF9 (by rintro⟨_,_,h⟩;obtain⟨_,h,_⟩|⟨_,h,_⟩:=h<;>cases h) [_,_,_,_,_,_] [_,_] _ _ ?_
   go_wp2_with (first|((with_reducible refine gL ?_);refine zAM wtd_ _ _ rfl rfl zAz hr1 ?_)|((with_reducible refine gL ?_);refine zAO wtd_ _ _ rfl rfl zAP (zAl x) hcell ?_))
   refine zMN rfl rfl rfl rfl rfl hY2 ?_ ?_
   ·rintro W' ⟨hJ2,hB2⟩;clear hY2 hcell hr1;refine zF9 (by rintro⟨_,_,h⟩;obtain⟨_,h,_⟩|⟨_,h,_⟩:=h<;>cases h) [_] [] _ _ ?_
    go_wp2_with fail
    refine(show Code.wpIn Fence.wide 8 _ _ _ _ _ from ?_)
    rw[wpIn_wide]
    go_wp2_with fail
    rw[wpIn_wide]
    go_wp2_with fail
    exact⟨⟨k,_,rfl,rfl,Lib.hid ⟨by omega,hJ2,hB2⟩⟩,by simp only[intOf];omega⟩
   ·exact fun ch W' h=>⟨rfl,.inr ⟨ch,rfl,h.1,h.2⟩⟩
  ·have hj0:j=0:=by omega
   subst hj0;have d0:decide (z ≥ 0)=false:=by simp;omega
   clear hz hj;refine wpIn_seq ?_
   rw[wpIn_wide]
   go_wp2_with fail
   exact⟨rfl,.tuple #[],(by simp[results,Tryz.results187]),.inl ⟨_,rfl,G.out.2.1,G.out.2.2⟩⟩
theorem zDD:oneB Tryz.prog 57=true:=by kernel_rfl
theorem zM8 (ts:List Tree) (out:Nat) (xs:List InstD):∀ j,(layC (ts.drop j) out xs).2.length<=(layC ts out xs).2.length:=by
 induction ts with
 | nil=>intro j;simp
 | cons k r ih =>
  intro j
  cases j with
  | zero=>exact Nat.le_refl _
  | succ j =>
   have h1:=ih j;have h2:=zCk k (layC r out xs).1 (layC r out xs).2;simp only[List.drop_succ_cons,layC];omega
theorem zMf {ts:List Tree} {j:Nat} {t:Tree} (h:ts[j]?=some t) (out:Nat) (xs:List InstD):layC (ts.drop j) out xs=layP t (layC (ts.drop (j+1)) out xs).1 (layC (ts.drop (j+1)) out xs).2:=by
 obtain⟨hl,rfl⟩:=List.getElem?_eq_some_iff.1 h;rw[List.drop_eq_getElem_cons hl,layC]
abbrev catL (bc b3 b4 b5 xb:Nat) (F rF:Nat->Prop) (rS:World->Prop) (ts:List Tree) (kx:List TV) (d:NodeD) (p:Option Addr) (n c:Nat) (v:Value) (ys:List InstD) (o:Nat):List Res :=
 [.blk bc #[v] 61,.row v 47 9 ys.length (zAG (ys.map zAJ)),.kn F (fun V=>ForestR V F p c ts),.kn rF rS,.kn F (Knows F p n c kx),.blk b3 #[.pointer (some ⟨bc,0,none⟩)] 57,.blk b4 (zAR d (.slice p n c)) 28,.blk b5 #[.int .i64 o] 3,.blk xb #[.slice p n c] 26]
theorem zMq {B bc b3 b4 b5 xb:Nat} {F rF:Nat->Prop} {rS:World->Prop} {ts:List Tree} {kx:List TV} {d:NodeD} {p:Option Addr} {n c:Nat} (hF:∀ b,F b->b<B) (hr:∀ b,rF b->b<B) (v:Value) (ys:List InstD) (o:Nat):∀ r ∈ catL bc b3 b4 b5 xb F rF rS ts kx d p n c v ys o,zLD B r:=by
 intro r h;simp only[catL,List.mem_cons,List.not_mem_nil,or_false]at h;rcases h with rfl|rfl|rfl|rfl|rfl|rfl|rfl|rfl|rfl
 ·trivial
 ·trivial
 ·exact fun V _ b hb=>.inl (hF b hb)
 ·exact fun V _ b hb=>.inl (hr b hb)
 ·exact fun V _ b hb=>.inl (hF b hb)
 ·trivial
 ·trivial
 ·trivial
 ·trivial
theorem zPs (m:Nat) (IH:zJK m) {M:Nat->Prop} {w0 w:World} (bc:Nat) (v:Value) (xs:List InstD) (d:NodeD) (ts:List Tree) (p:Option Addr) (n c:Nat) (out:Nat) (F:Nat->Prop) (hm:zAF ts<=m) (hm2:m<=2000) (hkt:zAU ts=true) (k4:d.kind=4) (hn:n=ts.length) (H0:HoldG M w0 w (zAp bc v xs++[.kn F (fun V=>ForestR V F p c ts)])) (hxl:xs.length<=4000) :
  Calls Tryz.prog 55 #[.pointer (some ⟨bc,0,none⟩),zAV d (.slice p n c),.int .i64 out] w (LayO M w0 bc v xs [.kn F (fun V=>ForestR V F p c ts)] w (capQ (layP (.mk d ts) out xs))):=by
 have EL:layP (.mk d ts) out xs=layC ts out xs:=by
  rw[layP,if_neg (by omega),if_neg (by omega),if_neg (by omega),if_pos k4]
 rw[EL];clear EL k4;have H:=H0.framed;clear H0;obtain⟨rF,hrF⟩:∃ rF,zCb w (zAp bc v xs++[.kn F (fun V=>ForestR V F p c ts)])=rF:=⟨_,rfl⟩
 obtain⟨rS,hrS⟩:∃ rS,zCl w (zAp bc v xs++[.kn F (fun V=>ForestR V F p c ts)])=rS:=⟨_,rfl⟩
 rw[hrF,hrS]at H;simp only[zAp,List.cons_append,List.nil_append]at H;obtain⟨kx,h1,h2,hts⟩:=ForestR.open (H.kn (i:=2) i_2);have hn':n=kx.length:=by rw[hn,hts,List.length_map]
 have hK:Knows F p n c kx w:=⟨by rw[hn'];exact h1,h2⟩
 replace H:=H.also F (Knows F p n c kx) (Still.at (i:=2) i_2) (fun V hV=>hK.kept hV)
 simp only[ca]at H;clear hK h1 h2;have hnl:n<=2000:=by have:=zBp ts;omega
 have hlay:∀ (j:Nat) (x:TV),kx[j]?=some x->∀ (v':Value) (ys:List InstD) (o:Nat) (w':World),ys.length<=4000->HoldG M w0 w' (zAp bc v' ys++[.kn F (fun V=>ForestR V F x.2.1 x.2.2 x.1.kids)])->Calls Tryz.prog 27 #[.pointer (some ⟨bc,0,none⟩),.agg (zAT x),.int .i64 o] w' (LayO M w0 bc v' ys [.kn F (fun V=>ForestR V F x.2.1 x.2.2 x.1.kids)] w' (capQ (layP x.1 o ys))):=by
  intro j x hx v' ys o w' hy h;have hmem:x.1 ∈ ts:=by rw[hts];exact List.mem_map_of_mem (List.mem_of_getElem? hx)
  exact IH x.1 x.2.1 x.1.kids.length x.2.2 F bc v' ys o M w0 w' (Nat.le_trans (by obtain⟨i,hi⟩:=List.getElem?_of_mem hmem;have:=zD4 hi;omega) hm) (zB9.1 hkt _ hmem) rfl hy h
 have hstep:∀ (j:Nat) (x:TV),kx[j]?=some x->layC (ts.drop j) out xs=layP x.1 (layC (ts.drop (j+1)) out xs).1 (layC (ts.drop (j+1)) out xs).2:=by
  intro j x hx;refine zMf ?_ out xs;rw[hts,List.getElem?_map,hx];rfl
 have HL:=Lib.hid hlay;clear hlay;have HS:=Lib.hid hstep;clear hstep;have HN:=Lib.hid hn';have HN2:=Lib.hid hn;clear hn hn' hkt hm hm2 hts IH;refine callsIn_wide.1 (zBv (n:=9) Tryz.func55 rfl ?_);simp only[Tryz.ntmps55,List.size_toArray,List.length_cons,List.length_nil,Nat.reduceAdd,Nat.reduceSub,Array.replicate_succ,Array.replicate_zero,List.push_toArray,List.append_toArray,List.nil_append,List.cons_append]
 refine zBP (zBg ?_)
 go_wp2_with (first|((with_reducible refine kg 3 ?_);(first|refine kA 3 H ?_|refine kS 3 H ?_|refine kB 3 H ?_);clear H;intro b3 w H;try simp only[nr]at H)|((with_reducible refine kg 4 ?_);(first|refine kA 4 H ?_|refine kS 4 H ?_|refine kB 4 H ?_);clear H;intro b4 w H;try simp only[nr]at H)|((with_reducible refine kg 5 ?_);(first|refine kA 5 H ?_|refine kS 5 H ?_|refine kB 5 H ?_);clear H;intro b5 w H;try simp only[nr]at H)|fail)
 refine zBP (zBP (zBg ?_))
 go_wp2_with (first|(go_at_call 116;refine(zLV d p n c _).mono ?_;rintro e w ⟨⟨xb,rfl,hx1,hx2⟩,hb⟩;obtain⟨xb',e1,H2⟩:=H.gainB hb (v:=.pointer (some ⟨xb,0,none⟩)) ⟨xb,rfl,hx1,hx2⟩;cases e1;clear H hb hx1 hx2;have H:=H2;clear H2;simp only[ca]at H)|((with_reducible refine gL ?_);refine aD H ?_))
 have hB:w0.heap.size<=w.heap.size:=H.keep.size;have hst:=fun v ys o=>zMq (bc:=bc) (b3:=b3) (b4:=b4) (b5:=b5) (xb:=xb) (F:=F) (rF:=rF) (rS:=rS) (ts:=ts) (kx:=kx) (d:=d) (p:=p) (n:=n) (c:=c) (H.knlt (i:=2) i_2) (H.knlt (i:=3) i_3) v ys o
 have HST:=Lib.hid hst;clear hst;obtain⟨J,hJ⟩:∃ J:Nat->World->Prop,J=fun j W=>∃ (o:Nat) (ys:List InstD) (v':Value),Hid (layC (ts.drop j) out xs=(o,ys)/\ys.length<=4000)/\HoldG M w0 W (catL bc b3 b4 b5 xb F rF rS ts kx d p n c v' ys o):=⟨_,rfl⟩
 obtain⟨PJ,hPJ⟩:∃ PJ:World->Prop,PJ=fun W=>Hid (capQ (layC ts out xs)=none)/\∃ (o:Nat) (ys:List InstD) (v':Value),HoldG M w0 W (catL bc b3 b4 b5 xb F rF rS ts kx d p n c v' ys o):=⟨_,rfl⟩
 have stJ:∀ j,Stay w.heap.size (J j):=by
  intro j;subst hJ;exact fun W W' row ⟨o,ys,v',h,H⟩ hg hr=>⟨o,ys,v',h,HoldG.stayK (HST.out _ _ _) hB W W' row H hg hr⟩
 have h0:J n w:=by
  subst hJ;exact⟨out,xs,v,Lib.hid ⟨by rw[List.drop_eq_nil_of_le (by rw[HN2.out];exact Nat.le_refl _)];rfl,hxl⟩,H⟩
 have hJc:∀ j W,J j W->W.cell? ⟨xb,0,none⟩=some (.slice p n c)/\Knows F p n c kx W:=by
  intro j W h;subst hJ;obtain⟨o,ys,v',_,H⟩:=h;exact⟨H.cell (i:=8) i_8 0,H.kn (i:=4) i_4⟩
 obtain⟨YA,hYA⟩:∃ YA:Unit->Nat × TV->Act->World->Prop,YA=fun _ x a1 W=>∃ (b8 o:Nat) (ys:List InstD) (v':Value),a1={tmps:=#[.pointer (some ⟨bc,0,none⟩),zAV d (.slice p n c),.int .i64 out,.pointer (some ⟨b3,0,none⟩),.pointer (some ⟨b4,0,none⟩),.pointer (some ⟨b5,0,none⟩),.int .i64 0,undef,.pointer (some ⟨b8,0,none⟩),zAV d (.slice p n c),.func (.func 187) #[] #[.pointer (some ⟨xb,0,none⟩)],.int .i64 x.1,.agg (zAT x.2),undef,undef,undef,undef,undef],defers:=[]}/\Hid (kx[x.1]?=some x.2/\layC (ts.drop (x.1+1)) out xs=(o,ys)/\ys.length<=4000)/\HoldG M w0 W (catL bc b3 b4 b5 xb F rF rS ts kx d p n c v' ys o++[.blk b8 (zAT x.2) 28]):=⟨_,rfl⟩
 clear H;have HJQ:=Lib.hid hJ;have HPQ:=Lib.hid hPJ;have HYQ:=Lib.hid hYA;clear hJ hPJ hYA
 refine zDp (zDr (σ:=Unit) (α:=Nat × TV) (n:=8) (gf:=187) (lb:=#[.pointer (some ⟨xb,0,none⟩)]) rfl (enters_of Tryz.func187 (by kernel_rfl) rfl) (encs:=fun x=>#[.int .i64 x.1,.agg (zAT x.2)]) (fun _=>rfl)
  (J n) (fun j W=>j=none/\J 0 W) (fun ch W=>ch=zCH 7/\PJ W)
  (fun s x W=>kx[x.1]?=some x.2/\J (x.1+1) W) (fun s x j W=>j=none/\J x.1 W) (fun s x ch W=>ch=zCH 7/\PJ W)
  YA
  (stJ n) (fun j W W' row hs hg hr=>⟨hs.1,stJ 0 W W' row hs.2 hg hr⟩) (fun s x j W W' row hs hg hr=>⟨hs.1,stJ x.1 W W' row hs.2 hg hr⟩) (fun s x a1=>?sta) ?iter h0 ?assign ?body ?done ?pan)
 case sta =>
  rw[HYQ.out];rintro W W' row ⟨b8,o,ys,v',e,h,H⟩ hg hr;refine⟨b8,o,ys,v',e,h,HoldG.stayK (fun r hr=>?_) hB W W' row H hg hr⟩
  rcases List.mem_append.1 hr with h|h
  ·exact HST.out _ _ _ r h
  ·rw[List.mem_singleton]at h;subst h;trivial
 case iter =>
  intro l B K hBs hKs hBK hY W hI hBW;refine(zLI p n c kx F xb J hJc HN.out (by omega) l (B none) K (fun ch W=>ch=zCH 7/\PJ W) (fun j x W1 hx hJ1 hB1=>?_) W hI hBW).mono (fun e W' h=>?_)
  ·refine(hY () (j,x) W1 ⟨hx,hJ1⟩ hB1).mono (fun e W' h=>?_)
   rcases h with ⟨j',rfl,⟨rfl,hq⟩,hb⟩|h
   ·exact .inl ⟨rfl,hq,hb⟩
   ·exact .inr h
  ·rcases h with ⟨v,rfl,hj,hb⟩|h
   ·exact .inl ⟨v,none,rfl,⟨rfl,hj⟩,hb⟩
   ·exact .inr h
 case assign =>
  rintro l s ⟨j,x⟩ W ⟨hx,hJ1⟩;rw[HJQ.out]at hJ1;obtain⟨o,ys,v',h,H⟩:=hJ1;have HX:=Lib.hid hx;clear hx;simp only[List.zip_toArray,List.foldl_toArray,List.zip_cons_cons,List.zip_nil_right,List.zip_nil_left,List.foldl_cons,List.foldl_nil,List.setIfInBounds_toArray,List.set_cons_succ,List.set_cons_zero];refine wpIn_region_lit (zAa (by rintro⟨_,_,h⟩;exact h) _ _ _ rfl ?_)
  have H:=H.knowNC (fun r hr=>by simp only[catL,List.mem_cons,List.not_mem_nil,or_false]at hr;rcases hr with rfl|rfl|rfl|rfl|rfl|rfl|rfl|rfl|rfl<;>(intro b es c;simp)) w.heap.size
  simp only[catL,List.cons_append,List.nil_append]at H;obtain⟨ncf,hncf⟩:∃ q,ncF w.heap.size W=q:=⟨_,rfl⟩;obtain⟨ncs,hncs⟩:∃ q,ncS w.heap.size W=q:=⟨_,rfl⟩;rw[hncf,hncs]at H
  go_wp2_with (first|((with_reducible refine kg 10 ?_);(first|refine kA 10 H ?_|refine kS 10 H ?_|refine kB 10 H ?_);clear H;intro b10 w H;try simp only[nr]at H)|(first|((with_reducible refine gT ?_);(refine aT H ?_;clear H;intro w H;try simp only[nr]at H))|((with_reducible refine gA ?_);(refine bA H ?_;clear H;intro b w H;try simp only[nr]at H))))
  have hk:=H.kn (i:=9) i_9;rw[← hncs]at hk;rw[HYQ.out];exact⟨hk.keeps,b,o,ys,v',rfl,Lib.hid ⟨HX.out,h.out⟩,H.pick [0,1,2,3,4,5,6,7,8,10] _ (by decide) rfl⟩
 case body =>
  rintro l s ⟨j,x⟩ a1 W hY1;rw[HYQ.out]at hY1;obtain⟨b8,o,ys,v',rfl,G,H⟩:=hY1;have H1:=H.knowNC (fun r hr=>by simp only[catL,List.mem_cons,List.mem_append,List.not_mem_nil,or_false]at hr;rcases hr with (rfl|rfl|rfl|rfl|rfl|rfl|rfl|rfl|rfl)|rfl<;>(intro b es c;simp)) w.heap.size
  clear H;simp only[catL,List.cons_append,List.nil_append]at H1;have H:=H1;clear H1;obtain⟨ncf,hncf⟩:∃ q,ncF w.heap.size W=q:=⟨_,rfl⟩;obtain⟨ncs,hncs⟩:∃ q,ncS w.heap.size W=q:=⟨_,rfl⟩;rw[hncf,hncs]at H;have hmem:x ∈ kx:=List.mem_of_getElem? G.out.1;have hlx:=fun v2 w2=>HL.out j x G.out.1 v2 ys o w2 G.out.2.2
  have hst:=HS.out j x G.out.1;rw[G.out.2.1]at hst;simp only[]at hst;obtain⟨ar,hal⟩:∃ a,layP x.1 o ys=a:=⟨_,rfl⟩;obtain⟨o2,zs⟩:=ar;rw[hal]at hlx hst;have HST2:=Lib.hid hst;clear hst hal;refine wpIn_block (wpIn_region_lit (zAa (by rintro⟨_,_,h⟩;exact h) _ _ _ rfl ?_))
  by_cases hz:zs.length<=4000
  ·rw[zBw (by simpa using hz)]at hlx
   go_wp2_with (first|((with_reducible refine gL ?_);refine zAM wtd_ _ _ rfl rfl zDD (H.cell (i:=5) i_5 0) ?_)|((with_reducible refine gL ?_);refine zAO wtd_ _ _ rfl rfl zAP (zAl x) (fun k _=>by rw[Nat.zero_add];exact H.cell (i:=9) i_9 k) ?_)|((with_reducible refine gL ?_);refine zAM wtd_ _ _ rfl rfl zAC (H.cell (i:=7) i_7 0) ?_)|(go_at_call 27;refine zFZ (F:=F) (S:=fun V=>ForestR V F x.2.1 x.2.2 x.1.kids) H (Still.at (i:=4) i_4) (fun V hV=>((H.kn (i:=4) i_4).2 x hmem).kept hV) (fun h=>hlx _ _ h) ?_;clear H;intro v3 w H)|((with_reducible refine gT ?_);(refine aO H ?_;clear H;intro w H;try simp only[nr]at H)))
   have hk:=H.kn (i:=10) i_10;rw[← hncs]at hk;refine⟨hk.keeps,rfl,?_⟩
   rw[HJQ.out];exact⟨o2,zs,v3,Lib.hid ⟨HST2.out,hz⟩,H.pick [0,1,2,3,4,5,6,7,8] _ (by decide) rfl⟩
  ·rw[zBE (by simpa using hz)]at hlx
   go_wp2_with (first|((with_reducible refine gL ?_);refine zAM wtd_ _ _ rfl rfl zDD (H.cell (i:=5) i_5 0) ?_)|((with_reducible refine gL ?_);refine zAO wtd_ _ _ rfl rfl zAP (zAl x) (fun k _=>by rw[Nat.zero_add];exact H.cell (i:=9) i_9 k) ?_)|((with_reducible refine gL ?_);refine zAM wtd_ _ _ rfl rfl zAC (H.cell (i:=7) i_7 0) ?_)|(go_at_call 27;refine zFQ (F:=F) (S:=fun V=>ForestR V F x.2.1 x.2.2 x.1.kids) H (Still.at (i:=4) i_4) (fun V hV=>((H.kn (i:=4) i_4).2 x hmem).kept hV) (fun h=>hlx _ _ h) ?_;clear H;intro v3 zs2 w H)|fail)
   have hk:=H.kn (i:=10) i_10;rw[← hncs]at hk;refine⟨rfl,hk.keeps,rfl,?_⟩
   rw[HPQ.out];refine⟨Lib.hid (zBE ?_),o,zs2,v3,H.pick [0,1,2,3,4,5,6,7,8] _ (by decide) rfl⟩
   have:=zM8 ts out xs j;rw[HST2.out]at this;simp only[]at this;omega
 case done =>
  rintro D jj W hD ⟨rfl,hJ0⟩ hK;rw[HJQ.out]at hJ0;obtain⟨o,ys,v',G,H⟩:=hJ0;have hE:capQ (layC ts out xs)=some ((o:Int),ys):=by
   have:=G.out.1;rw[List.drop_zero]at this;rw[this];exact zBw G.out.2
  have HE:=Lib.hid hE;clear hE;simp only[catL]at H;refine zBP (zBg ?_)
  go_wp2_with (first|((with_reducible refine gL ?_);refine zAM wtd_ _ _ rfl rfl zAC (H.cell (i:=7) i_7 0) ?_)|fail)
  refine zBg ?_
  go_wp2_with fail
  refine⟨by simp,.inl ⟨D,_,rfl,run_takeDeferred hK,?_⟩⟩
  have H5:=Stay.putObj (HoldG.stayK (HST.out v' ys o) hB) (.deferred none) H hD hK rfl;simp only[catL]at H5;refine⟨_,results_tmp Tryz.results55 _ _ _,?_⟩
  rw[HE.out];rw[← hrF,← hrS]at H5;exact⟨_,rfl,zAX H5 (i:=3) i_3 (by decide) (by rfl)⟩
 case pan =>
  rintro D ch W hD ⟨rfl,hP⟩ hK;rw[HPQ.out]at hP;obtain⟨he,o,ys,v',H⟩:=hP;refine⟨by simp,.inl ⟨D,_,rfl,run_takeDeferred hK,?_⟩⟩
  have H5:=Stay.putObj (HoldG.stayK (HST.out v' ys o) hB) (.deferred none) H hD hK rfl;simp only[catL]at H5;rw[he.out];rw[← hrF,← hrS]at H5;exact⟨rfl,_,_,zAX H5 (i:=3) i_3 (by decide) (by rfl)⟩
theorem zLS {P:Program} {c:Code} {Q:Exit->Act->World->Prop} {a:Act} {w:World} (h:wpR P c (Exit.noGoto Q) a w):wpR P (.scope c) Q a w:=by
 intro b k cs hro hb;have h0:(lone (b.atR a (.code (.scope c)::k)) cs w).fenced P Fence.wide:=fenced_wide _ _;obtain⟨e,a₁,w₁,hq,harr⟩:=h b (.inScope c::k) cs hro hb;have hx:∀ id,exitTo id (.inScope c::k)=exitTo id k:=fun id=>by simp[exitTo]
 cases e with
 | normal=>exact⟨.normal,a₁,w₁,hq,.head h0 zBD (StepsIn.trans harr (.one (fenced_wide _ _) zEx))⟩
 | exit id =>
  exact⟨.exit id,a₁,w₁,hq,fun k' hk=>.head h0 zBD (harr.1 k' (by rw[hx];exact hk)),
   fun hr' hk=>let ⟨k₁,h1,h2⟩:=harr.2 hr' (by rw[hx];exact hk);⟨k₁,h1,.head h0 zBD h2⟩⟩
 | goto l=>exact hq.elim
 | ret=>exact⟨_,a₁,w₁,hq,.of_steps (.one h0 zBD) harr⟩
 | panic ch=>exact⟨_,a₁,w₁,hq,.of_steps (.one h0 zBD) harr⟩
 | outgrown=>exact⟨_,a₁,w₁,hq,.of_steps (.one h0 zBD) harr⟩
def altS (ts:List Tree) (out:Nat) (xs:List InstD) (j:Nat):LayR:=if j=ts.length then (0,xs) else layA (ts.drop j) out xs
theorem zM3 {ts:List Tree} {j:Nat} {t:Tree} (h:ts[j]?=some t) (out:Nat) (xs:List InstD) {at_:Nat} {ys zs:List InstD} {o:Nat} (hs:altS ts out xs (j+1)=(at_,ys)) (hl:layP t out ys=(o,zs)) :
  altS ts out xs j=if j+1=ts.length then (o,zs) else (zs.length,zs++[{kind:=2,next:=o,other:=at_}]):=by
 obtain⟨hlt,rfl⟩:=List.getElem?_eq_some_iff.1 h;unfold altS at hs ⊢;rw[if_neg (by omega)]
 by_cases hj:j+1=ts.length
 ·rw[if_pos hj]at hs ⊢
  cases hs
  rw[List.drop_eq_getElem_cons hlt,List.drop_eq_nil_of_le (by omega),layA,hl]
 ·rw[if_neg hj]at hs ⊢;rw[List.drop_eq_getElem_cons hlt,List.drop_eq_getElem_cons (show j+1<ts.length by omega)]
  rw[List.drop_eq_getElem_cons (show j+1<ts.length by omega)]at hs
  simp only[layA];simp only[hs,hl]
theorem zL5 (ts:List Tree) (out:Nat) (xs:List InstD):∀ j,j<ts.length->(layA (ts.drop j) out xs).2.length<=(layA ts out xs).2.length:=by
 induction ts with
 | nil=>intro j h;simp at h
 | cons k r ih =>
  intro j hj
  cases j with
  | zero=>exact Nat.le_refl _
  | succ j =>
   have hr:j<r.length:=by simpa using hj
   have h1:=ih j hr
   cases r with
   | nil=>simp at hr
   | cons k2 r2 =>
    have h2:=zCk k out (layA (k2::r2) out xs).2;simp only[List.drop_succ_cons,layA,List.length_append,List.length_cons,List.length_nil];omega
theorem zOW {ts:List Tree} {j:Nat} (h:j<ts.length) (out:Nat) (xs:List InstD):(altS ts out xs j).2.length<=(layA ts out xs).2.length:=by
 unfold altS;rw[if_neg (by omega)]
 exact zL5 ts out xs j h
abbrev altL (bc b3 b4 b5 b7 xb:Nat) (F rF:Nat->Prop) (rS:World->Prop) (ts:List Tree) (kx:List TV) (d:NodeD) (p:Option Addr) (n c out:Nat) (v:Value) (ys:List InstD) (o:Nat):List Res :=
 [.blk bc #[v] 61,.row v 47 9 ys.length (zAG (ys.map zAJ)),.kn F (fun V=>ForestR V F p c ts),.kn rF rS,.kn F (Knows F p n c kx),.blk b3 #[.pointer (some ⟨bc,0,none⟩)] 57,.blk b4 (zAR d (.slice p n c)) 28,.blk b5 #[.int .i64 out] 3,.blk b7 #[.int .i64 o] 3,.blk xb #[.slice p n c] 26]
theorem zK5 {B bc b3 b4 b5 b7 xb:Nat} {F rF:Nat->Prop} {rS:World->Prop} {ts:List Tree} {kx:List TV} {d:NodeD} {p:Option Addr} {n c out:Nat} (hF:∀ b,F b->b<B) (hr:∀ b,rF b->b<B) (v:Value) (ys:List InstD) (o:Nat):∀ r ∈ altL bc b3 b4 b5 b7 xb F rF rS ts kx d p n c out v ys o,zLD B r:=by
 intro r h;simp only[altL,List.mem_cons,List.not_mem_nil,or_false]at h;rcases h with rfl|rfl|rfl|rfl|rfl|rfl|rfl|rfl|rfl|rfl
 ·trivial
 ·trivial
 ·exact fun V _ b hb=>.inl (hF b hb)
 ·exact fun V _ b hb=>.inl (hr b hb)
 ·exact fun V _ b hb=>.inl (hF b hb)
 ·trivial
 ·trivial
 ·trivial
 ·trivial
 ·trivial
theorem zPh (m:Nat) (IH:zJK m) {M:Nat->Prop} {w0 w:World} (bc:Nat) (v:Value) (xs:List InstD) (d:NodeD) (ts:List Tree) (p:Option Addr) (n c:Nat) (out:Nat) (F:Nat->Prop) (hm:zAF ts<=m) (hm2:m<=2000) (hkd:zAu d ts.length=true) (hkt:zAU ts=true) (k5:d.kind=5) (hn:n=ts.length) (H0:HoldG M w0 w (zAp bc v xs++[.kn F (fun V=>ForestR V F p c ts)])) (hxl:xs.length<=4000) :
  Calls Tryz.prog 56 #[.pointer (some ⟨bc,0,none⟩),zAV d (.slice p n c),.int .i64 out] w (LayO M w0 bc v xs [.kn F (fun V=>ForestR V F p c ts)] w (capQ (layP (.mk d ts) out xs))):=by
 have EL:layP (.mk d ts) out xs=layA ts out xs:=by
  rw[layP,if_neg (by omega),if_neg (by omega),if_neg (by omega),if_neg (by omega),if_pos k5]
 rw[EL];have hn1:1<n:=by rw[hn];exact ok_5 hkd k5
 clear EL k5 hkd;have H:=H0.framed;clear H0;obtain⟨rF,hrF⟩:∃ rF,zCb w (zAp bc v xs++[.kn F (fun V=>ForestR V F p c ts)])=rF:=⟨_,rfl⟩
 obtain⟨rS,hrS⟩:∃ rS,zCl w (zAp bc v xs++[.kn F (fun V=>ForestR V F p c ts)])=rS:=⟨_,rfl⟩
 rw[hrF,hrS]at H;simp only[zAp,List.cons_append,List.nil_append]at H;obtain⟨kx,h1,h2,hts⟩:=ForestR.open (H.kn (i:=2) i_2);have hn':n=kx.length:=by rw[hn,hts,List.length_map]
 have hK:Knows F p n c kx w:=⟨by rw[hn'];exact h1,h2⟩
 replace H:=H.also F (Knows F p n c kx) (Still.at (i:=2) i_2) (fun V hV=>hK.kept hV)
 simp only[ca]at H;clear hK h1 h2;have hnl:n<=2000:=by have:=zBp ts;omega
 have hlay:∀ (j:Nat) (x:TV),kx[j]?=some x->∀ (v':Value) (ys:List InstD) (o:Nat) (w':World),ys.length<=4000->HoldG M w0 w' (zAp bc v' ys++[.kn F (fun V=>ForestR V F x.2.1 x.2.2 x.1.kids)])->Calls Tryz.prog 27 #[.pointer (some ⟨bc,0,none⟩),.agg (zAT x),.int .i64 o] w' (LayO M w0 bc v' ys [.kn F (fun V=>ForestR V F x.2.1 x.2.2 x.1.kids)] w' (capQ (layP x.1 o ys))):=by
  intro j x hx v' ys o w' hy h;have hmem:x.1 ∈ ts:=by rw[hts];exact List.mem_map_of_mem (List.mem_of_getElem? hx)
  exact IH x.1 x.2.1 x.1.kids.length x.2.2 F bc v' ys o M w0 w' (Nat.le_trans (by obtain⟨i,hi⟩:=List.getElem?_of_mem hmem;have:=zD4 hi;omega) hm) (zB9.1 hkt _ hmem) rfl hy h
 have hstep:∀ (j:Nat) (x:TV),kx[j]?=some x->ts[j]?=some x.1:=by
  intro j x hx;rw[hts,List.getElem?_map,hx];rfl
 have HL:=Lib.hid hlay;clear hlay;have HS:=Lib.hid hstep;clear hstep;have HN:=Lib.hid hn';have HN2:=Lib.hid hn;clear hn hn' hkt hm hm2 hts IH;refine callsIn_wide.1 (zBv (n:=9) Tryz.func56 rfl ?_);simp only[Tryz.ntmps56,List.size_toArray,List.length_cons,List.length_nil,Nat.reduceAdd,Nat.reduceSub,Array.replicate_succ,Array.replicate_zero,List.push_toArray,List.append_toArray,List.nil_append,List.cons_append]
 refine zBP (zBg ?_)
 go_wp2_with (first|((with_reducible refine kg 3 ?_);(first|refine kA 3 H ?_|refine kS 3 H ?_|refine kB 3 H ?_);clear H;intro b3 w H;try simp only[nr]at H)|((with_reducible refine kg 4 ?_);(first|refine kA 4 H ?_|refine kS 4 H ?_|refine kB 4 H ?_);clear H;intro b4 w H;try simp only[nr]at H)|((with_reducible refine kg 5 ?_);(first|refine kA 5 H ?_|refine kS 5 H ?_|refine kB 5 H ?_);clear H;intro b5 w H;try simp only[nr]at H)|fail)
 refine zLS (zBP (zBg ?_))
 go_wp2_with (first|((with_reducible refine kg 7 ?_);(first|refine kA 7 H ?_|refine kS 7 H ?_|refine kB 7 H ?_);clear H;intro b7 w H;try simp only[nr]at H)|((with_reducible refine gT ?_);(refine aO H ?_;clear H;intro w H;try simp only[nr]at H)))
 refine zBP (zBg (wp_label ?_));refine zBP (zBP (zBg ?_))
 go_wp2_with (first|(go_at_call 116;refine(zLV d p n c _).mono ?_;rintro e w ⟨⟨xb,rfl,hx1,hx2⟩,hb⟩;obtain⟨xb',e1,H2⟩:=H.gainB hb (v:=.pointer (some ⟨xb,0,none⟩)) ⟨xb,rfl,hx1,hx2⟩;cases e1;clear H hb hx1 hx2;have H:=H2;clear H2;simp only[ca]at H)|((with_reducible refine gL ?_);refine aD H ?_))
 have hB:w0.heap.size<=w.heap.size:=H.keep.size;have hst:=fun v ys o=>zK5 (bc:=bc) (b3:=b3) (b4:=b4) (b5:=b5) (b7:=b7) (xb:=xb) (F:=F) (rF:=rF) (rS:=rS) (ts:=ts) (kx:=kx) (d:=d) (p:=p) (n:=n) (c:=c) (out:=out) (H.knlt (i:=2) i_2) (H.knlt (i:=3) i_3) v ys o
 have HST:=Lib.hid hst;clear hst;obtain⟨J,hJ⟩:∃ J:Nat->World->Prop,J=fun j W=>∃ (o:Nat) (ys:List InstD) (v':Value),Hid (altS ts out xs j=(o,ys)/\ys.length<=4000)/\HoldG M w0 W (altL bc b3 b4 b5 b7 xb F rF rS ts kx d p n c out v' ys o):=⟨_,rfl⟩
 obtain⟨PJ,hPJ⟩:∃ PJ:World->Prop,PJ=fun W=>Hid (capQ (layA ts out xs)=none)/\∃ (o:Nat) (ys:List InstD) (v':Value),HoldG M w0 W (altL bc b3 b4 b5 b7 xb F rF rS ts kx d p n c out v' ys o):=⟨_,rfl⟩
 have stJ:∀ j,Stay w.heap.size (J j):=by
  intro j;subst hJ;exact fun W W' row ⟨o,ys,v',h,H⟩ hg hr=>⟨o,ys,v',h,HoldG.stayK (HST.out _ _ _) hB W W' row H hg hr⟩
 have h0:J n w:=by
  subst hJ;exact⟨0,xs,v,Lib.hid ⟨by unfold altS;rw[if_pos HN2.out],hxl⟩,H⟩
 have hJc:∀ j W,J j W->W.cell? ⟨xb,0,none⟩=some (.slice p n c)/\Knows F p n c kx W:=by
  intro j W h;subst hJ;obtain⟨o,ys,v',_,H⟩:=h;exact⟨H.cell (i:=9) i_9 0,H.kn (i:=4) i_4⟩
 obtain⟨YA,hYA⟩:∃ YA:Unit->Nat × TV->Act->World->Prop,YA=fun _ x a1 W=>∃ (b9 o:Nat) (ys:List InstD) (v':Value),a1={tmps:=#[.pointer (some ⟨bc,0,none⟩),zAV d (.slice p n c),.int .i64 out,.pointer (some ⟨b3,0,none⟩),.pointer (some ⟨b4,0,none⟩),.pointer (some ⟨b5,0,none⟩),.int .i64 0,.pointer (some ⟨b7,0,none⟩),.int .i64 x.1,.pointer (some ⟨b9,0,none⟩),undef,zAV d (.slice p n c),.func (.func 187) #[] #[.pointer (some ⟨xb,0,none⟩)],.int .i64 x.1,.agg (zAT x.2),undef,undef,undef,undef,undef,undef,undef,undef,undef,undef,undef,undef,undef,undef,undef,undef,undef,undef,undef,undef],defers:=[]}/\Hid (kx[x.1]?=some x.2/\altS ts out xs (x.1+1)=(o,ys)/\ys.length<=4000)/\HoldG M w0 W (altL bc b3 b4 b5 b7 xb F rF rS ts kx d p n c out v' ys o++[.blk b9 (zAT x.2) 28]):=⟨_,rfl⟩
 clear H;have HJQ:=Lib.hid hJ;have HPQ:=Lib.hid hPJ;have HYQ:=Lib.hid hYA;clear hJ hPJ hYA
 refine zDp (zDr (σ:=Unit) (α:=Nat × TV) (n:=8) (gf:=187) (lb:=#[.pointer (some ⟨xb,0,none⟩)]) rfl (enters_of Tryz.func187 (by kernel_rfl) rfl) (encs:=fun x=>#[.int .i64 x.1,.agg (zAT x.2)]) (fun _=>rfl)
  (J n) (fun j W=>j=none/\J 0 W) (fun ch W=>ch=zCH 7/\PJ W)
  (fun s x W=>kx[x.1]?=some x.2/\J (x.1+1) W) (fun s x j W=>j=none/\J x.1 W) (fun s x ch W=>ch=zCH 7/\PJ W)
  YA
  (stJ n) (fun j W W' row hs hg hr=>⟨hs.1,stJ 0 W W' row hs.2 hg hr⟩) (fun s x j W W' row hs hg hr=>⟨hs.1,stJ x.1 W W' row hs.2 hg hr⟩) (fun s x a1=>?sta) ?iter h0 ?assign ?body ?done ?pan)
 case sta =>
  rw[HYQ.out];rintro W W' row ⟨b9,o,ys,v',e,h,H⟩ hg hr;refine⟨b9,o,ys,v',e,h,HoldG.stayK (fun r hr=>?_) hB W W' row H hg hr⟩
  rcases List.mem_append.1 hr with h|h
  ·exact HST.out _ _ _ r h
  ·rw[List.mem_singleton]at h;subst h;trivial
 case iter =>
  intro l B K hBs hKs hBK hY W hI hBW;refine(zLI p n c kx F xb J hJc HN.out (by omega) l (B none) K (fun ch W=>ch=zCH 7/\PJ W) (fun j x W1 hx hJ1 hB1=>?_) W hI hBW).mono (fun e W' h=>?_)
  ·refine(hY () (j,x) W1 ⟨hx,hJ1⟩ hB1).mono (fun e W' h=>?_)
   rcases h with ⟨j',rfl,⟨rfl,hq⟩,hb⟩|h
   ·exact .inl ⟨rfl,hq,hb⟩
   ·exact .inr h
  ·rcases h with ⟨v,rfl,hj,hb⟩|h
   ·exact .inl ⟨v,none,rfl,⟨rfl,hj⟩,hb⟩
   ·exact .inr h
 case assign =>
  rintro l s ⟨j,x⟩ W ⟨hx,hJ1⟩;rw[HJQ.out]at hJ1;obtain⟨o,ys,v',h,H⟩:=hJ1;have HX:=Lib.hid hx;clear hx;simp only[List.zip_toArray,List.foldl_toArray,List.zip_cons_cons,List.zip_nil_right,List.zip_nil_left,List.foldl_cons,List.foldl_nil,List.setIfInBounds_toArray,List.set_cons_succ,List.set_cons_zero];have H:=H.knowNC (fun r hr=>by simp only[altL,List.mem_cons,List.mem_append,List.not_mem_nil,or_false]at hr;rcases hr with rfl|rfl|rfl|rfl|rfl|rfl|rfl|rfl|rfl|rfl<;>(intro b es c;simp)) w.heap.size
  simp only[altL,List.cons_append,List.nil_append]at H;obtain⟨ncf,hncf⟩:∃ q,ncF w.heap.size W=q:=⟨_,rfl⟩;obtain⟨ncs,hncs⟩:∃ q,ncS w.heap.size W=q:=⟨_,rfl⟩;rw[hncf,hncs]at H;refine wpIn_seq (wpIn_region_lit (zAa (by rintro⟨_,_,h⟩;exact h) _ _ _ rfl ?_))
  go_wp2_with fail
  refine wpIn_region_lit (zAa (by rintro⟨_,_,h⟩;exact h) _ _ _ rfl ?_)
  go_wp2_with (first|((with_reducible refine kg 9 ?_);(first|refine kA 9 H ?_|refine kS 9 H ?_|refine kB 9 H ?_);clear H;intro b9 w H;try simp only[nr]at H)|((with_reducible refine gT ?_);(refine aT H ?_;clear H;intro w H;try simp only[nr]at H)))
  have hk:=H.kn (i:=10) i_10;rw[← hncs]at hk;rw[HYQ.out];exact⟨hk.keeps,b9,o,ys,v',rfl,Lib.hid ⟨HX.out,h.out⟩,H.pick [0,1,2,3,4,5,6,7,8,9,11] _ (by decide) rfl⟩
 case body =>
  rintro l s ⟨j,x⟩ a1 W hY1;rw[HYQ.out]at hY1;obtain⟨b9,o,ys,v',rfl,G,H⟩:=hY1;have H1:=H.knowNC (fun r hr=>by simp only[altL,List.mem_cons,List.mem_append,List.not_mem_nil,or_false]at hr;rcases hr with (rfl|rfl|rfl|rfl|rfl|rfl|rfl|rfl|rfl|rfl)|rfl<;>(intro b es c;simp)) w.heap.size
  clear H;simp only[altL,List.cons_append,List.nil_append]at H1;have H:=H1;clear H1;obtain⟨ncf,hncf⟩:∃ q,ncF w.heap.size W=q:=⟨_,rfl⟩;obtain⟨ncs,hncs⟩:∃ q,ncS w.heap.size W=q:=⟨_,rfl⟩;rw[hncf,hncs]at H;have hmem:x ∈ kx:=List.mem_of_getElem? G.out.1;have hjn:j<n:=by rw[HN.out];exact(List.getElem?_eq_some_iff.1 G.out.1).1
  have hlx:=fun v2 w2=>HL.out j x G.out.1 v2 ys out w2 G.out.2.2
  have hst:=fun zs o2=>zM3 (HS.out j x G.out.1) out xs G.out.2.1 (zs:=zs) (o:=o2)
  have hle:=zOW (show j<ts.length by rw[← HN2.out];exact hjn) out xs
  obtain⟨ar,hal⟩:∃ a,layP x.1 out ys=a:=⟨_,rfl⟩;obtain⟨o2,zs⟩:=ar;replace hst:=hst zs o2 hal;rw[hal]at hlx;rw[← HN2.out]at hst;have HST2:=Lib.hid hst;have HLE:=Lib.hid hle;clear hst hal hle;refine wpIn_block (wpIn_seq (wpIn_region_lit (zAa (by rintro⟨_,_,h⟩;exact h) _ _ _ rfl ?_)))
  by_cases hz:zs.length<=4000
  ·rw[zBw (by simpa using hz)]at hlx
   go_wp2_with (first|((with_reducible refine gL ?_);refine zAM wtd_ _ _ rfl rfl zDD (H.cell (i:=5) i_5 0) ?_)|((with_reducible refine gL ?_);refine zAO wtd_ _ _ rfl rfl zAP (zAl x) (fun k _=>by rw[Nat.zero_add];exact H.cell (i:=10) i_10 k) ?_)|((with_reducible refine gL ?_);refine zAM wtd_ _ _ rfl rfl zAC (H.cell (i:=7) i_7 0) ?_)|(go_at_call 27;refine zFZ (F:=F) (S:=fun V=>ForestR V F x.2.1 x.2.2 x.1.kids) H (Still.at (i:=4) i_4) (fun V hV=>((H.kn (i:=4) i_4).2 x hmem).kept hV) (fun h=>hlx _ _ h) ?_;clear H;intro v3 w H)|fail)
   refine wpIn_seq (wpIn_seq (wpIn_region_lit (zAa (by rintro⟨_,_,h⟩;exact h) _ _ _ rfl ?_)))
   by_cases hlast:j+1=n
   ·have d1:((j:Int) == (n:Int) - 1)=true:=by rw[beq_iff_eq];omega
    go_wp2_with (first|((with_reducible refine gL ?_);refine aG H ?_))
    refine wpIn_cond (t:=true) rfl ?_
    simp only[if_true];refine wpIn_seq (wpIn_region_lit (zAa (by rintro⟨_,_,h⟩;exact h) _ _ _ rfl ?_))
    go_wp2_with (first|((with_reducible refine gT ?_);(refine aO H ?_;clear H;intro w H;try simp only[nr]at H)))
    refine wpIn_exit ?_
    have hk:=H.kn (i:=11) i_11;rw[← hncs]at hk;refine⟨hk.keeps,rfl,?_⟩
    rw[HJQ.out];exact⟨o2,zs,v3,Lib.hid ⟨by rw[HST2.out,if_pos hlast],hz⟩,H.pick [0,1,2,3,4,5,6,7,8,9] _ (by decide) rfl⟩
   ·have d1:((j:Int) == (n:Int) - 1)=false:=by rw[beq_eq_false_iff_ne];omega
    go_wp2_with (first|((with_reducible refine gL ?_);refine aG H ?_))
    refine wpIn_cond (t:=false) rfl ?_
    simp only[if_false,Bool.false_eq_true];refine wpIn_skip ?_
    refine zGM 7 [fun v _=>v=pt bc 0,fun v _=>v=pt bc 0,fun v _=>v=pt bc 0,fun v _=>v=.int .i64 (o2:Int),fun v _=>v=.int .i64 (o:Int),fun v _=>v=zA2 {kind:=2,next:=o2,other:=o},zCo w.heap.size (zAJ {kind:=2,next:=o2,other:=o}) 47] (fun _=>false) (by kernel_rfl) (by rintro⟨_,_,h⟩;exact h) rfl (by kernel_rfl) (by kernel_rfl) (by repeat (first|exact trivial|refine⟨zAL _,?_⟩|refine⟨zA1 _ _ _,?_⟩)) (fun _ _ h=>by cases h) ?ob ?en
    case ob =>
     refine⟨?_,?_,?_,?_,?_,?_,?_,trivial⟩<;>intro A W h
     ·exact zAA rfl (zAD rfl (h.f 3) zDD ((H.call h.below).cell (i:=5) i_5 0)) (by decide)
     ·(have e26:A.eval (.tmp 26)=.pointer (some ⟨bc,0,none⟩):=h.d 0 26;refine zAA rfl ?_;simp only[execOp,e26];(simp[go_sem]<;>first|done|omega|(rw[IntKind.wrap_i64];omega)|(rw[IntKind.wrap_u8];omega)|(rw[IntKind.wrap_u64];omega)))
     ·(have e27:A.eval (.tmp 27)=.pointer (some ⟨bc,0,none⟩):=h.d 1 27;refine zAA rfl ?_;simp only[execOp,e27];(simp[go_sem]<;>first|done|omega|(rw[IntKind.wrap_i64];omega)|(rw[IntKind.wrap_u8];omega)|(rw[IntKind.wrap_u64];omega)))
     ·exact zAH rfl rfl (h.f 10)
     ·exact zAA rfl (zAD rfl (h.f 7) zAC ((H.call h.below).cell (i:=8) i_8 0)) (by decide)
     ·(have e29:A.eval (.tmp 29)=.int .i64 (o2:Int):=h.d 3 29;have e30:A.eval (.tmp 30)=.int .i64 (o:Int):=h.d 4 30;refine zAA rfl ?_;simp only[execOp,e29,e30];(simp only[List.map_toArray,List.map_cons,List.map_nil,e29,e30,Sem.run_bind,zB0,zMg];rfl))
     ·exact zCU rfl rfl (h.d 5 31) h.below.size (by decide)
    case en =>
     intro vals W2 hbw hv _;have x6:=hv 6 (by omega);simp only[zAe]at x6
     simp only[fa,Nat.reduceAdd];rw[e_ hv 0,e_ hv 1,e_ hv 2,e_ hv 3,e_ hv 4,e_ hv 5];clear hv
     try simp only[pl]
     obtain⟨bk,e6,H2⟩:=H.gainS hbw x6;rw[e6];clear x6 e6 hbw H;have H:=H2;clear H2;simp only[ca]at H;obtain⟨Fk,H2⟩:=H.oneInst (i:=12) atd_;clear H;have H:=H2;clear H2;simp only[sc]at H
     by_cases hp:zs.length<4000
     ·go_wp2_with (first|(go_at_call 26;refine zDm H hz (i:=10) i_10 hp ?_;clear H;intro v4 zs3 w H hys)|((with_reducible refine gT ?_);(refine aO H ?_;clear H;intro w H;try simp only[nr]at H)))
      obtain rfl:=hys.out;have hk:=H.kn (i:=11) i_11;rw[← hncs]at hk;refine⟨hk.keeps,rfl,?_⟩
      rw[HJQ.out];exact⟨zs.length,_,v4,Lib.hid ⟨by rw[HST2.out,if_neg hlast],by simp only[List.length_append,List.length_cons,List.length_nil];omega⟩,H.pick [0,1,2,3,4,5,6,7,8,9] _ (by decide) rfl⟩
     ·go_wp2_with (first|(go_at_call 26;refine zEo H hz (i:=10) i_10 hp ?_;clear H;intro v4 zs3 w H)|fail)
      have hk:=H.kn (i:=11) i_11;rw[← hncs]at hk;refine⟨rfl,hk.keeps,rfl,?_⟩
      rw[HPQ.out];refine⟨Lib.hid (zBE ?_),o,zs3,v4,H.pick [0,1,2,3,4,5,6,7,8,9] _ (by decide) rfl⟩
      have:=HLE.out;rw[HST2.out,if_neg hlast]at this;simp only[List.length_append,List.length_cons,List.length_nil]at this;omega
  ·rw[zBE (by simpa using hz)]at hlx
   go_wp2_with (first|((with_reducible refine gL ?_);refine zAM wtd_ _ _ rfl rfl zDD (H.cell (i:=5) i_5 0) ?_)|((with_reducible refine gL ?_);refine zAO wtd_ _ _ rfl rfl zAP (zAl x) (fun k _=>by rw[Nat.zero_add];exact H.cell (i:=10) i_10 k) ?_)|((with_reducible refine gL ?_);refine zAM wtd_ _ _ rfl rfl zAC (H.cell (i:=7) i_7 0) ?_)|(go_at_call 27;refine zFQ (F:=F) (S:=fun V=>ForestR V F x.2.1 x.2.2 x.1.kids) H (Still.at (i:=4) i_4) (fun V hV=>((H.kn (i:=4) i_4).2 x hmem).kept hV) (fun h=>hlx _ _ h) ?_;clear H;intro v3 zs2 w H)|fail)
   have hk:=H.kn (i:=11) i_11;rw[← hncs]at hk;refine⟨rfl,hk.keeps,rfl,?_⟩
   rw[HPQ.out];refine⟨Lib.hid (zBE ?_),o,zs2,v3,H.pick [0,1,2,3,4,5,6,7,8,9] _ (by decide) rfl⟩
   have:=HLE.out;rw[HST2.out]at this;split at this
   ·simp only[]at this;omega
   ·simp only[List.length_append,List.length_cons,List.length_nil]at this;omega
 case done =>
  rintro D jj W hD ⟨rfl,hJ0⟩ hK;rw[HJQ.out]at hJ0;obtain⟨o,ys,v',G,H⟩:=hJ0;have hE:capQ (layA ts out xs)=some ((o:Int),ys):=by
   have:=G.out.1;unfold altS at this;rw[if_neg (by rw[← HN2.out];omega),List.drop_zero]at this
   rw[this];exact zBw G.out.2
  have HE:=Lib.hid hE;clear hE;simp only[altL]at H;refine zBP (zBg ?_)
  go_wp2_with (first|((with_reducible refine gL ?_);refine zAM wtd_ _ _ rfl rfl zAC (H.cell (i:=8) i_8 0) ?_)|fail)
  refine zBg ?_
  go_wp2_with fail
  refine⟨by simp,.inl ⟨D,_,rfl,run_takeDeferred hK,?_⟩⟩
  have H5:=Stay.putObj (HoldG.stayK (HST.out v' ys o) hB) (.deferred none) H hD hK rfl;simp only[altL]at H5;refine⟨_,results_tmp Tryz.results56 _ _ _,?_⟩
  rw[HE.out];rw[← hrF,← hrS]at H5;exact⟨_,rfl,zAX H5 (i:=3) i_3 (by decide) (by rfl)⟩
 case pan =>
  rintro D ch W hD ⟨rfl,hP⟩ hK;rw[HPQ.out]at hP;obtain⟨he,o,ys,v',H⟩:=hP;refine⟨by simp,.inl ⟨D,_,rfl,run_takeDeferred hK,?_⟩⟩
  have H5:=Stay.putObj (HoldG.stayK (HST.out v' ys o) hB) (.deferred none) H hD hK rfl;simp only[altL]at H5;rw[he.out];rw[← hrF,← hrS]at H5;exact⟨rfl,_,_,zAX H5 (i:=3) i_3 (by decide) (by rfl)⟩
end
end Go.Proofs.YtalggmbdpmdcbaaGreat
