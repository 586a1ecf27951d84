/-
  Laws of walks, and walks.
-/
import Derived.Test.YtalggmbdpmdcbaaGreatPt5
import Derived.Test.YtalggmbdpmdcbaaGreatPt3
set_option linter.unusedVariables false
set_option linter.unusedSimpArgs false
set_option maxRecDepth 100000
set_option maxHeartbeats 16000000
namespace Go.Proofs.YtalggmbdpmdcbaaGreat
section
open Go.RowKit Go.Shelf
attribute [local go_sem] Oper.semAt_some
theorem zKo (m:Nat) (pb:Nat) (FW:Nat->Prop) (p:Option Addr) (n c:Nat) (ws:List WordD) (j0 g0:Nat) (f0:zBZ) (t:Tree) (r':List WordD) (g':Nat) (w0:World) (hP:AltPre pb 174 FW p n c ws j0 g0 w0)
  (hres:zA4 m f0 (ws.drop j0) g0 [] []=some (t,r',g'))
  (IH:∀ k,k<m->∀ (j1 g1:Nat) (f1:zBZ) (t1:Tree) (r1:List WordD) (g2:Nat) (w:World),AltPre pb 174 FW p n c ws j1 g1 w->zA4 k f1 (ws.drop j1) g1 [] []=some (t1,r1,g2) ->
   Calls Tryz.prog 101 #[.pointer (some ⟨pb,0,none⟩),zCp f1] w (zHb pb 174 p n c t1 (n - r1.length) g2 w)) :
  Calls Tryz.prog 101 #[.pointer (some ⟨pb,0,none⟩),zCp f0] w0 (zHb pb 174 p n c t (n - r'.length) g' w0):=by
 obtain⟨i0,hi0,hz0,hz1,hz2⟩:=info_parts zB1
 have H:=(HoldG.startB hP.cells).know FW (WKnows FW p n c ws) hP.lt (fun i r h b hb=>by
  match i,h with
  | 0,h=>cases h;cases hb;exact hP.ne) (fun V hV=>hP.words.kept hV)
 simp only[ca]at H;have hlen:=hP.len;have hb:=hP.words.bound;have hp:=hP.words.at;have HN:=Lib.hid hb.1;have hc1:=hb.2.1;have hc2:=hb.2.2;clear hb;have hjn0:=hP.jn;have hgj0:=hP.gn;have HPN:=Lib.hid hP.ne;have HOK:=Lib.hid hP.ok;clear hP
 go_enter Tryz.func101,Tryz.ntmps101
 go_wp2_with (first|((with_reducible refine kg 3 ?_);(first|refine kA 3 H ?_|refine kS 3 H ?_|refine kB 3 H ?_);clear H;intro b3 w H;try simp only[nr]at H)|((with_reducible refine kg 4 ?_);(first|refine kA 4 H ?_|refine kS 4 H ?_|refine kB 4 H ?_);clear H;intro b4 w H;try simp only[nr]at H)|fail)
 replace H:=(H.addNil 28 10).addNil 28 10;have H1:=H.know (fun _=>False) (fun V=>ListR V (fun _=>False) ([]++[])) (fun _ h=>h.elim) (fun _ _ _ _ _ h=>h) (fun V _=>ListR.nil _ _)
 simp only[List.nil_append,List.cons_append]at H1;clear H
 go_loopw [5,6] (fun vA vI wr=>∃ (j g k:Nat) (f:zBZ) (xa xi:List TV) (F:Nat->Prop),j<=n/\g<=j/\xa.length<=j/\xi.length<=j/\(∀ b,F b->w0.heap.size<=b)/\Hid (zA4 k f (ws.drop j) g (xa.map (·.1)) (xi.map (·.1))=some (t,r',g')/\k<=m)
  /\ HoldG (·=pb) w0 wr [.blk pb (pC p n c j g) 174,.kn FW (WKnows FW p n c ws),.blk b3 (zEx f) 104,.blk b4 (zAO {kind:=0} nilS) 28,
   .row vA 28 10 xa.length (zAE (xa.map zAR)),.row vI 28 10 xi.length (zAE (xi.map zAR)),.kn F (fun V=>ListR V F (xa++xi))])
  (fun _ _ wr=>posM pb n wr)
 case atStart=>exact⟨j0,g0,m,f0,[],[],fun _=>False,hjn0,hgj0,by simp,by simp,fun _ h=>h.elim,Lib.hid ⟨hres,Nat.le_refl _⟩,H1⟩
 case round =>
  clear H1;obtain⟨j,g,k,f,xa,xi,F,hj,hgj,hla,hli,hF,G,H⟩:=hrel;have HM:=Lib.hid ((H.cell .zero 1).trans rfl:wr.cell? ⟨pb,1,none⟩=some (.int .i64 (j:Int)));obtain⟨k,rfl⟩:∃ k',k=k'+1:=by
   cases k with
   | zero=>have:=G.out.1;simp[zA4]at this
   | succ k=>exact⟨k,rfl⟩
  have hp0:∀ W,Below wr.heap.size wr W->W.cell? ⟨pb,0,none⟩=some (.slice p n c):=fun W hb=>(H.call hb).cell .zero 0
  have hp1:∀ W,Below wr.heap.size wr W->W.cell? ⟨pb,1,none⟩=some (.int .i64 (j:Int)):=fun W hb=>(H.call hb).cell .zero 1
  by_cases hlt:j<n
  ·obtain⟨d,hd⟩:∃ d,ws[j]?=some d:=⟨_,List.getElem?_eq_getElem (by rw[← HN.out];exact hlt)⟩
   obtain⟨b,off,rfl⟩:=hp (by rw[← HN.out];omega)
   clear hp;have hokd:=HOK.out d (List.mem_of_getElem? hd);have hdj:decide ((j:Int)<(n:Int))=true:=by simp;omega
   have hkd:∀ W,Below wr.heap.size wr W->W.cell? ⟨b,off+j * 17,none⟩=some (.int .i64 d.kind):=fun W hb=>WKnows.kind ((H.call hb).kn i_1) hd
   have hcell:∀ W,Below wr.heap.size wr W->∀ k,k<17->W.cell? ⟨b,off+j * 17+k,none⟩=(zCM d)[k]?:=fun W hb=>WKnows.cells ((H.call hb).kn i_1) hd rfl
   have HD:=Lib.hid (zDZ hd);have HDD:=Lib.hid hd;clear hd
   by_cases h9:d.kind=9
   ·have d9:((d.kind:Int) != 9)=false:=by rw[bne_eq_false_iff_eq];omega
    have E:=Lib.hid (show some (rowT 5 (xa.map (·.1)++[rowT 4 (xi.map (·.1))]),ws.drop j,g)=some (t,r',g') by rw[← G.out.1,HD.out,zRf h9])
    clear h9
    go_upto_region 2 with fail
    obtain⟨T,hT,fw,hf,h0⟩:=fam wr;have e0:=fun x=>hp0 _ (hf x)
    have e1:=fun x=>hp1 _ (hf x)
    have e2:=fun x=>hkd _ (hf x)
    refine zCl fw (by kernel_rfl) (by kernel_rfl) h0 ?_
    repeat (go_big_quiet_step (fail))
    refine wpQuiet_nil ?_
    rintro _ ⟨x,rfl⟩;replace H:=H.call (hf x);obtain⟨wq,hwq⟩:∃ wq,fw x=wq:=⟨_,rfl⟩;rw[hwq]at H ⊢;clear hwq e0 e1 e2 h0 hf hp0 hp1 hkd hcell;clear x fw hT T;obtain⟨qi,ci,rfl,hqi1,hqi2,_⟩:=H.rowShape (i:=5) i_5;obtain⟨GF,hGF,H2⟩:=H.rowForest (i:=5) (xs:=xi) (K:=F) i_5 rfl (Still.at (i:=6) i_6) (fun x hx=>(H.kn (i:=6) i_6) x (List.mem_append.2 (.inr hx)))
    clear H;have H:=H2;clear H2;simp only[sc]at H;have hGFl:∀ b,GF b->w0.heap.size<=b:=fun b h=>(hGF b h).elim id (hF b)
    clear hGF
    generalize hrt:rowT 4 (xi.map (·.1))=rt at E
    have hr4:∀ (w:World) (l:List Res),HoldG (·=pb) w0 w l->At l 5 (.kn GF (fun V=>ForestR V GF qi ci (xi.map (·.1))))->Calls Tryz.prog 152 #[.int .i64 4,.slice qi xi.length ci] w fun e w'=>zB7 w GF rt e w'/\Below w.heap.size w w':=fun w l h hi=>hrt ▸ zEO 4 qi ci xi.length GF (xi.map (·.1)) w (h.knlt hi) (h.kn hi) (by rw[List.length_map])
    have HRT:=Lib.hid hrt;clear hrt;simp only[Option.some.injEq,Prod.mk.injEq]at E;obtain⟨ht5,hr5',rfl⟩:=E;have hjr:n - r'.length=j:=by rw[← hr5',List.length_drop,← HN.out];omega
    have hr5:∀ (w:World) (l:List Res) (qa:Option Addr) (ca:Nat) (G3:Nat->Prop),HoldG (·=pb) w0 w l->At l 4 (.kn G3 (fun V=>ForestR V G3 qa ca (xa.map (·.1)++[rt])))->Calls Tryz.prog 152 #[.int .i64 5,.slice qa (xa.length+1) ca] w fun e w'=>zB7 w G3 t e w'/\Below w.heap.size w w':=fun w l qa ca G3 h hi=>ht5 ▸ zEO 5 qa ca (xa.length+1) G3 (xa.map (·.1)++[rt]) w (h.knlt hi) (h.kn hi) (by rw[List.length_append,List.length_map];rfl)
    have HJR:=Lib.hid hjr;clear hjr hr5' ht5 hli
    go_wp2_with (first|(at_builtin;refine zAk rfl _ _ 26 rfl H evd_ rfl atd_ atd_ Tryz.underlying26 hi0 hz0 hz1 hz2 rfl (by decide) rfl rfl (by unfold maxLen;omega) (by omega) ?_;clear H;intro v2 w H;try simp only[nr]at H)|((with_reducible refine gBS ?_);refine zAY wtd_ _ _ _ rfl H (zAO (rt.d) (.slice q2 rt.kids.length c2)) 28 (by intro W;simp only[ml];(try simp only[pe]);exact zBQ _ _ W) ?_;clear H;intro bk w H;try simp only[nr]at H)|((with_reducible refine gT ?_);(refine aT H ?_;clear H;intro w H;try simp only[nr]at H))|(go_at_call 152;(with_reducible refine cht (hr4 _ _ H i_5) H (Still.at (i:=5) i_5) ?_);clear H;intro q2 c2 F2 w hF2 H)|(go_at_call 152;(obtain⟨qa,ca,G3,rfl,hG3,H3⟩:=H.rowForest1 (i:=4) (k:=6) (k2:=7) (xs:=xa) (ys:=xa++xi) i_4 i_6 (fun x hx=>List.mem_append.2 (.inl hx)) i_7);clear H;(have H:=H3);clear H3;(simp only[sc]at H);(with_reducible refine cht (hr5 _ _ _ _ _ H i_4) H (Still.at (i:=4) i_4) ?_);clear H;intro q5 c5 F5 w hF5 H;try simp only[nr]at H))
    (refine xc Tryz.results101 H ?_)
    have hG3l:∀ b,G3 b->w0.heap.size<=b:=fun b h=>(hG3 b h).elim id (fun h=>h.elim (hF b) (fun h=>(hF2 b h).elim id (hGFl b)))
    rw[HJR.out];exact⟨H.keep,(H.blk .zero).2,q5,c5,F5,rfl,(H.all 9 _ rfl).2 _ (fun _ _=>rfl),fun b h=>⟨(H.all 9 _ rfl).1 b h,.inl ((hF5 b h).elim id (hG3l b))⟩⟩
   ·have d9:((d.kind:Int) != 9)=true:=by rw[bne_iff_ne];omega
    go_upto_region 2 with fail
    obtain⟨T,hT,fw,hf,h0⟩:=fam wr;have e0:=fun x=>hp0 _ (hf x)
    have e1:=fun x=>hp1 _ (hf x)
    have e2:=fun x=>hkd _ (hf x)
    refine zCl fw (by kernel_rfl) (by kernel_rfl) h0 ?_
    repeat (go_big_quiet_step (fail))
    refine wpQuiet_nil ?_
    rintro _ ⟨x,rfl⟩;replace H:=H.call (hf x);obtain⟨wq,hwq⟩:∃ wq,fw x=wq:=⟨_,rfl⟩;rw[hwq]at H ⊢;have hq0:∀ W,Below wq.heap.size wq W->W.cell? ⟨pb,0,none⟩=some (.slice (some ⟨b,off,none⟩) n c):=fun W hb=>(H.call hb).cell .zero 0
    have hq1:∀ W,Below wq.heap.size wq W->W.cell? ⟨pb,1,none⟩=some (.int .i64 (j:Int)):=fun W hb=>(H.call hb).cell .zero 1
    have hqc:∀ W,Below wq.heap.size wq W->∀ k,k<17->W.cell? ⟨b,off+j * 17+k,none⟩=(zCM d)[k]?:=fun W hb=>WKnows.cells ((H.call hb).kn i_1) HDD.out rfl
    clear hwq e0 e1 e2 h0 hf hp0 hp1 hkd hcell;clear x fw hT T
    go_upto_region 3 with fail
    refine zAp 11 [fun v _=>v=pt pb 0,fun v _=>v=pt pb 0,fun v _=>v=pt pb 0,fun v _=>v=.slice (some ⟨b,off,none⟩) n c,fun v _=>v=pt pb 0,fun v _=>v=pt pb 0,fun v _=>v=pt pb 1,fun v _=>v=.int .i64 (j:Int),fun v _=>v=.pointer (some ⟨b,off+j * 17,none⟩),fun v _=>v=zDm d,zLU wq.heap.size (zCM {kind:=0,place:=0}) 260] (fun _=>false) (by kernel_rfl) (by kernel_rfl) (by kernel_rfl) (by repeat (first|exact trivial|refine⟨zAJ _,?_⟩|refine⟨zJS _ _ _,?_⟩)) (fun _ _ h=>by cases h) ?ob ?en
    case ob =>
     refine⟨?_,?_,?_,?_,?_,?_,?_,?_,?_,?_,?_,trivial⟩<;>intro A W h
     ·exact zAB rfl rfl (h.f 0)
     ·(have e34:A.eval (.tmp 34)=.pointer (some ⟨pb,0,none⟩):=h.d 0 34;refine zAA rfl ?_;simp only[execOp,e34];simp[go_sem])
     ·(have e35:A.eval (.tmp 35)=.pointer (some ⟨pb,0,none⟩):=h.d 1 35;refine zAA rfl ?_;simp only[execOp,e35];simp[go_sem])
     ·exact zAA rfl (zAG rfl (h.d 2 36) zEk (hq0 _ h.below)) (by decide)
     ·exact zAB rfl rfl (h.f 0)
     ·(have e38:A.eval (.tmp 38)=.pointer (some ⟨pb,0,none⟩):=h.d 4 38;refine zAA rfl ?_;simp only[execOp,e38];simp[go_sem])
     ·(have e39:A.eval (.tmp 39)=.pointer (some ⟨pb,0,none⟩):=h.d 5 39;refine zAA rfl ?_;simp only[execOp,e39];simp[go_sem])
     ·exact zAA rfl (zAG rfl (h.d 6 40) zAI (hq1 _ h.below)) (by decide)
     ·exact zA2 (sz:=17) Tryz.underlying168 (fun w=>by kernel_rfl) rfl rfl (h.d 3 37) (h.d 7 41) (by omega) (by omega)
     ·exact zAA rfl (zAV rfl (h.d 8 42) zBk rfl (hqc _ h.below)) (by decide)
     ·exact zPc rfl rfl (by kernel_rfl) zRX h.below.size (by decide)
    case en =>
     intro vals W hbw hv _;have x10:=hv 10 (by omega);simp only[zAn]at x10
     simp only[fa,Nat.reduceAdd];rw[e_ hv 0,e_ hv 1,e_ hv 2,e_ hv 3,e_ hv 4,e_ hv 5,e_ hv 6,e_ hv 7,e_ hv 8,e_ hv 9];clear hv
     try simp only[pl]
     obtain⟨b7,e7,H7⟩:=H.gainB hbw x10;rw[e7];clear x10 e7 hq0 hq1 hqc H hbw;have H:=H7;clear H7;simp only[ca]at H
     go_upto_region 6 with (first|(first|((with_reducible refine gT ?_);((first|refine aO H ?_|refine aT H ?_);clear H;intro w H;try simp only[nr]at H))|((with_reducible refine gL ?_);refine aG H ?_)))
     have hnx:(∀ b,F b->w0.heap.size<=b):=hF
     by_cases h8:d.kind=8
     ·have d8:((d.kind:Int) == 8)=true:=by rw[beq_iff_eq];omega
      have G2:=Lib.hid (show zA4 k (zHG f d) (ws.drop (j+1)) g (xa.map (·.1)) (xi.map (·.1))=some (t,r',g')/\k<=m from ⟨by rw[← zRl h8,← HD.out];exact G.out.1,by have:=G.out.2;omega⟩)
      have htu:=fun w=>zH9 f d w
      clear h8
      go_wp2_with (first|(first|((with_reducible refine gT ?_);(refine aT H ?_;clear H;intro w H;try simp only[nr]at H))|((with_reducible refine gL ?_);(first|refine aG H ?_|refine aD H ?_)))|((with_reducible refine ch (htu _) H ?_);clear H;intro w H))
      have HC:w.cell? ⟨pb,1,none⟩=some (.int .i64 ((j:Int)+1)):=H.cell .zero 1;go_roundw
      case rel=>(repeat apply Exists.intro);refine⟨?_,rfl⟩;exact⟨j+1,g,k,zHG f d,xa,xi,F,by omega,by omega,by omega,by omega,hF,G2,H.pick [0,1,2,3,4,5,6] _ (by decide) rfl⟩
      case measure=>rw[zDn HM.out,zDn HC];omega
     ·have d8:((d.kind:Int) == 8)=false:=by rw[beq_eq_false_iff_ne];omega
      by_cases h10:d.kind=10
      ·have d10:((d.kind:Int) == 10)=true:=by rw[beq_iff_eq];omega
       have G2:=Lib.hid (show zA4 k f (ws.drop (j+1)) g (xa.map (·.1)++[rowT 4 (xi.map (·.1))]) []=some (t,r',g')/\k<=m from ⟨by rw[← zQ3 h10,← HD.out];exact G.out.1,by have:=G.out.2;omega⟩)
       clear h10 h8 h9;obtain⟨qi,ci,rfl,hqi1,hqi2,_⟩:=H.rowShape (i:=5) i_5;obtain⟨GF,hGF,H2⟩:=H.rowForest (i:=5) (xs:=xi) (K:=F) i_5 rfl (Still.at (i:=6) i_6) (fun x hx=>(H.kn (i:=6) i_6) x (List.mem_append.2 (.inr hx)))
       clear H;have H:=H2;clear H2;simp only[sc]at H;have hGFl:∀ b,GF b->w0.heap.size<=b:=fun b h=>(hGF b h).elim id (hF b)
       clear hGF
       generalize hrt:rowT 4 (xi.map (·.1))=rt at G2
       have hr4:∀ (w:World) (l:List Res),HoldG (·=pb) w0 w l->At l 5 (.kn GF (fun V=>ForestR V GF qi ci (xi.map (·.1))))->Calls Tryz.prog 152 #[.int .i64 4,.slice qi xi.length ci] w fun e w'=>zB7 w GF rt e w'/\Below w.heap.size w w':=fun w l h hi=>hrt ▸ zEO 4 qi ci xi.length GF (xi.map (·.1)) w (h.knlt hi) (h.kn hi) (by rw[List.length_map])
       have HRT:=Lib.hid hrt;clear hrt
       go_wp2_with (first|(at_builtin;refine zAk rfl _ _ 26 rfl H evd_ rfl atd_ atd_ Tryz.underlying26 hi0 hz0 hz1 hz2 rfl (by decide) rfl rfl (by unfold maxLen;omega) (by omega) ?_;clear H;intro v2 w H;try simp only[nr]at H)|((with_reducible refine gBS ?_);refine zAY wtd_ _ _ _ rfl H (zAO (rt.d) (.slice q2 rt.kids.length c2)) 28 (by intro W;simp only[ml];(try simp only[pe]);exact zBQ _ _ W) ?_;clear H;intro bk w H;try simp only[nr]at H)|((with_reducible refine gL ?_);refine aG H ?_)|(go_at_call 152;(with_reducible refine cht (hr4 _ _ H i_5) H (Still.at (i:=5) i_5) ?_);clear H;intro q2 c2 F2 w hF2 H))
       have hF3:∀ b,(F b\/F2 b)->w0.heap.size<=b:=fun b h=>h.elim (hF b) (fun h=>(hF2 b h).elim id (hGFl b))
       have H2:=(H.rowGrown (i:=4) (k:=6) (k2:=8) (xs:=xa) (ys:=xa++xi) i_4 i_6 i_8 ((xa++[(rt,q2,c2)])++[]) (fun x hx=>by
        rw[List.append_nil]at hx
        exact(List.mem_append.1 hx).imp (fun h=>List.mem_append.2 (.inl h)) List.mem_singleton.1)).addNil 28 10
       have HC:w.cell? ⟨pb,1,none⟩=some (.int .i64 ((j:Int)+1)):=H.cell .zero 1;go_roundw
       case rel=>first|exact⟨j+1,g,k,f,xa++[(rt,q2,c2)],[],(fun b=>F b\/F2 b),by omega,by omega,by (try simp only[List.length_append,List.length_singleton,List.length_nil]);omega,by (try simp only[List.length_append,List.length_singleton,List.length_nil]);omega,hF3,Lib.hid ⟨by (try rw[List.map_append]);exact G2.out.1,G2.out.2⟩,H2.pick [0,1,2,3,4,11,10] _ (by decide) rfl⟩|((repeat apply Exists.intro);refine⟨?_,rfl⟩;exact⟨j+1,g,k,f,xa++[(rt,q2,c2)],[],(fun b=>F b\/F2 b),by omega,by omega,by (try simp only[List.length_append,List.length_singleton,List.length_nil]);omega,by (try simp only[List.length_append,List.length_singleton,List.length_nil]);omega,hF3,Lib.hid ⟨by (try rw[List.map_append]);exact G2.out.1,G2.out.2⟩,H2.pick [0,1,2,3,4,11,10] _ (by decide) rfl⟩)
       case measure=>rw[zDn HM.out,zDn HC];omega
      ·have d10:((d.kind:Int) == 10)=false:=by rw[beq_eq_false_iff_ne];omega
       by_cases h11:d.kind=11
       ·have d11:((d.kind:Int) == 11)=true:=by rw[beq_iff_eq];omega
        obtain⟨ys,x,rfl,hou⟩:=zNk h11 (show zA4 (k+1) f (d::ws.drop (j+1)) g (xa.map (·.1)) (xi.map (·.1))=some (t,r',g') by rw[← HD.out];exact G.out.1)
        have G2:=Lib.hid (show zA4 k f (ws.drop (j+1)) g (xa.map (·.1)) (ys.map (·.1)++[repT d x.1])=some (t,r',g')/\k<=m from ⟨hou,by have:=G.out.2;omega⟩)
        clear hou h8 h9 h10 h11;obtain⟨qi,ci,rfl,hqi1,hqi2,hqi3⟩:=H.rowShape (i:=5) i_5;obtain⟨gI,rfl⟩:=hqi3 (by simp)
        clear hqi3;have hxg:((ys++[x]).map zAR)[ys.length]?=some (zAR x):=by simp
        have HXG:=Lib.hid hxg;clear hxg;have hyl:((ys++[x]).map zAR).length=ys.length+1:=by simp
        have HYL:=Lib.hid hyl;clear hyl;simp only[List.length_append,List.length_singleton]at H hqi1 hli;unfold maxLen at hqi2
        go_wp2_with (first|((with_reducible refine gL ?_);refine zAM wtd_ _ _ rfl rfl zAK (zAW x) (H.rowCell (i:=5) i_5 (zBS _) HYL.out HXG.out rfl) ?_)|((with_reducible refine gT ?_);refine zBL wtd_ _ _ _ rfl rfl (i:=ys.length) rfl evd_ H (j:=5) i_5 (zBS _) HYL.out (by with_reducible exact zAu zAK) rfl rfl (by omega) ?_;clear H;intro w H;try simp only[nr]at H)|((with_reducible refine gBS ?_);refine zAY wtd_ _ _ _ rfl H (zAO (x.1.d) (.slice x.2.1 x.1.kids.length x.2.2)) 28 (by intro W;simp only[ml];(try simp only[pe]);exact zBQ _ _ W) ?_;clear H;intro bk w H;try simp only[nr]at H)|(first|((with_reducible refine gT ?_);(refine aT H ?_;clear H;intro w H;try simp only[nr]at H))|((with_reducible refine gL ?_);(first|refine aG H ?_|refine aD H ?_))|((with_reducible refine gA ?_);(refine bA H ?_;clear H;intro b w H;try simp only[nr]at H))|((with_reducible refine gZ ?_);refine nbR ?_)))
        have e:=zO0 (ys:=ys) (x:=x) (x':=((repT d x.1,some ⟨bk,0,none⟩,1):TV)) (c:=zAO {kind:=6,lo:=d.lo,hi:=d.hi,lazy:=d.lazy} (.slice (some ⟨bk,0,none⟩) 1 1)) rfl;rw[e]at H;clear e;have H1:=H.also F (fun V=>ForestR V F x.2.1 x.2.2 x.1.kids) (Still.at (i:=6) i_6) (fun V hV=>((H.kn (i:=6) i_6) x (by simp)).kept hV)
        have hbk:=H.freshB (i:=8) i_8;have H3:=H1.kid (i:=9) (k:=10) i_9 i_10;have hF3:∀ z,((z=bk\/F z)\/F z)->w0.heap.size<=z:=fun z h=>h.elim (fun h=>h.elim (fun e=>e ▸ hbk) (hF z)) (hF z)
        have H2:=H3.also (fun z=>(z=bk\/F z)\/F z) (fun V=>ListR V (fun z=>(z=bk\/F z)\/F z) (xa++(ys++[(repT d x.1,some ⟨bk,0,none⟩,1)]))) ((Still.at (i:=11) (F:=fun z=>z=bk\/F z) (S:=fun V=>ForestR V (fun z=>z=bk\/F z) (some ⟨bk,0,none⟩) 1 [x.1]) i_11).or (Still.at (i:=6) i_6)) (fun V hV y hy=>by
         have hold:∀ y,y ∈ xa++(ys++[x])->ForestR V (fun z=>(z=bk\/F z)\/F z) y.2.1 y.2.2 y.1.kids:=fun y hy=>(((H.kn (i:=6) i_6) y hy).mono (fun _ h=>.inr h)).kept hV
         rcases List.mem_append.1 hy with h|h
         ·exact hold y (List.mem_append.2 (.inl h))
         ·rcases List.mem_append.1 h with h|h
          ·exact hold y (List.mem_append.2 (.inr (List.mem_append.2 (.inl h))))
          ·rw[List.mem_singleton]at h;subst h
           exact(((H3.all 11 _ rfl).2 w (fun _ _=>rfl)).mono (fun _ h=>.inl h)).kept hV)
        have HC:w.cell? ⟨pb,1,none⟩=some (.int .i64 ((j:Int)+1)):=H.cell .zero 1;go_roundw
        case rel=>first|exact⟨j+1,g,k,f,xa,ys++[(repT d x.1,some ⟨bk,0,none⟩,1)],(fun z=>(z=bk\/F z)\/F z),by omega,by omega,by (try simp only[List.length_append,List.length_singleton,List.length_nil]);omega,by (try simp only[List.length_append,List.length_singleton,List.length_nil]);omega,hF3,Lib.hid ⟨by (try rw[List.map_append]);exact G2.out.1,G2.out.2⟩,by rw[show (ys++[((repT d x.1,some ⟨bk,0,none⟩,1):TV)]).length=ys.length+1 from by simp];exact H2.pick [0,1,2,3,4,5,12] _ (by decide) rfl⟩|((repeat apply Exists.intro);refine⟨?_,rfl⟩;exact⟨j+1,g,k,f,xa,ys++[(repT d x.1,some ⟨bk,0,none⟩,1)],(fun z=>(z=bk\/F z)\/F z),by omega,by omega,by (try simp only[List.length_append,List.length_singleton,List.length_nil]);omega,by (try simp only[List.length_append,List.length_singleton,List.length_nil]);omega,hF3,Lib.hid ⟨by (try rw[List.map_append]);exact G2.out.1,G2.out.2⟩,by rw[show (ys++[((repT d x.1,some ⟨bk,0,none⟩,1):TV)]).length=ys.length+1 from by simp];exact H2.pick [0,1,2,3,4,5,12] _ (by decide) rfl⟩)
        case measure=>rw[zDn HM.out,zDn HC];omega
       ·have d11:((d.kind:Int) == 11)=false:=by rw[beq_eq_false_iff_ne];omega
        have hop:=fun w=>zHc d w
        cases ho:zBK d with
        | true =>
         rw[ho]at hop;obtain⟨t1,d1,r1,g1,hin,hou⟩:=zNR ho (show zA4 (k+1) f (d::ws.drop (j+1)) g (xa.map (·.1)) (xi.map (·.1))=some (t,r',g') by rw[← HD.out];exact G.out.1)
         have hfa:=zE5 _ _ _ _ _ _ _ _ _ hin;have hsuf:=drop_suffix HN.out (hfa.1.trans (List.drop_suffix _ _));have hl1:r1.length+1<=n - (j+1):=by have:=hfa.1.length_le;rw[List.length_drop,← HN.out]at this;exact this
         have hg1:g1+(r1.length+1)<=(if d.kind=7 then g else g+1)+(n - (j+1)):=by have:=hfa.2;rw[List.length_drop,← HN.out]at this;exact this
         have hgg:(if d.kind=7 then g else g+1)<=g+1:=by split<;>omega
         obtain⟨j',hj'⟩:∃ j',n - (r1.length+1)=j':=⟨_,rfl⟩;have hd1:ws.drop (j'+1)=r1:=by
          have h1:ws.drop j'=d1::r1:=by rw[← hj'];exact hsuf
          rw[← List.drop_drop,h1];rfl
         have hkm:k<m:=by have:=G.out.2;omega
         have hgr:=fun w hP=>zOd pb FW (some ⟨b,off,none⟩) n c ws (j+1) g f d t1 j' g1 w hP (by omega) (by omega) (by omega) (fun w h=>hj' ▸ IH k hkm (j+1) _ _ t1 (d1::r1) g1 w h hin)
         generalize htt:(if d.kind=7 then t1 else zG1 (g+1) t1)=tt at hou hgr
         have G2:=Lib.hid (show zA4 k f (ws.drop (j'+1)) g1 (xa.map (·.1)) (xi.map (·.1)++[tt])=some (t,r',g')/\k<=m from ⟨by rw[hd1];exact hou,by omega⟩)
         have hb1:j+1<=j':=by omega
         have hb2:j'<n:=by omega
         have hb3:g1<=j':=by omega
         have hpre:∀ (w:World) (l:List Res),HoldG (·=pb) w0 w (.blk pb #[.slice (some ⟨b,off,none⟩) n c,.int .i64 ((j:Int)+1),.int .i64 (g:Int)] 174::.kn FW (WKnows FW (some ⟨b,off,none⟩) n c ws)::l)->AltPre pb 174 FW (some ⟨b,off,none⟩) n c ws (j+1) g w:=fun w l h=>⟨(h.blk .zero).2,h.knlt i_1,HPN.out,h.kn i_1,HOK.out,hlen,hlt,by omega⟩
         clear hin hou hfa hsuf hl1 hg1 hgg hj' hd1 htt IH ho h8 h10 h11 h9
         go_wp2_with (first|(at_builtin;refine zAk rfl _ _ 26 rfl H evd_ rfl atd_ atd_ Tryz.underlying26 hi0 hz0 hz1 hz2 rfl (by decide) rfl rfl (by unfold maxLen;omega) (by omega) ?_;clear H;intro v2 w H;try simp only[nr]at H)|((with_reducible refine gBS ?_);refine zAY wtd_ _ _ _ rfl H (zAO (tt.d) (.slice q2 tt.kids.length m2)) 28 (by intro W;simp only[ml];(try simp only[pe]);exact zBQ _ _ W) ?_;clear H;intro bk w H;try simp only[nr]at H)|(first|((with_reducible refine gT ?_);(refine aT H ?_;clear H;intro w H;try simp only[nr]at H))|((with_reducible refine gL ?_);(first|refine aG H ?_|refine aD H ?_))|((with_reducible refine gA ?_);(refine bA H ?_;clear H;intro b w H;try simp only[nr]at H)))|((with_reducible refine ch (hop _) H ?_);clear H;intro w H)|(go_at_call 153;(with_reducible refine chA (hgr _ (hpre _ _ H)) H .zero ?_);clear H;intro q2 m2 F2 w hF2 H;try simp only[nr]at H))
         have H2:=H.rowGrown (i:=5) (k:=6) (k2:=8) (xs:=xi) (ys:=xa++xi) i_5 i_6 i_8 (xa++(xi++[(tt,q2,m2)])) (fun y hy=>by
          rcases List.mem_append.1 hy with h|h
          ·exact .inl (List.mem_append.2 (.inl h))
          ·exact(List.mem_append.1 h).imp (fun h=>List.mem_append.2 (.inr h)) List.mem_singleton.1)
         have hF3:∀ b,(F b\/F2 b)->w0.heap.size<=b:=fun b h=>h.elim (hF b) (hF2 b)
         have HC:w.cell? ⟨pb,1,none⟩=some (.int .i64 ((j':Int)+1)):=H.cell .zero 1;go_roundw
         case rel=>first|exact⟨j'+1,g1,k,f,xa,xi++[(tt,q2,m2)],(fun b=>F b\/F2 b),by omega,by omega,by (try simp only[List.length_append,List.length_singleton,List.length_nil]);omega,by (try simp only[List.length_append,List.length_singleton,List.length_nil]);omega,hF3,Lib.hid ⟨by (try rw[List.map_append]);exact G2.out.1,G2.out.2⟩,H2.pick [0,1,2,3,4,5,11] _ (by decide) rfl⟩|((repeat apply Exists.intro);refine⟨?_,rfl⟩;exact⟨j'+1,g1,k,f,xa,xi++[(tt,q2,m2)],(fun b=>F b\/F2 b),by omega,by omega,by (try simp only[List.length_append,List.length_singleton,List.length_nil]);omega,by (try simp only[List.length_append,List.length_singleton,List.length_nil]);omega,hF3,Lib.hid ⟨by (try rw[List.map_append]);exact G2.out.1,G2.out.2⟩,H2.pick [0,1,2,3,4,5,11] _ (by decide) rfl⟩)
         case measure=>rw[zDn HM.out,zDn HC];omega
        | false =>
         rw[ho]at hop;have h67:d.kind≠6/\d.kind≠7:=by simpa [zBK] using ho
         have G2:=Lib.hid (show zA4 k f (ws.drop (j+1)) g (xa.map (·.1)) (xi.map (·.1)++[zFz d f])=some (t,r',g')/\k<=m from ⟨by rw[← zQV h9 h8 h10 h11 h67.2 h67.1,← HD.out];exact G.out.1,by have:=G.out.2;omega⟩)
         clear h8 h9 h10 h11 h67 ho
         generalize hta:zFz d f=ta at G2
         have hat:∀ w,Calls Tryz.prog 154 #[zDm d,zCp f] w (Rt (zAQ ta.d (.slice none ta.kids.length 0)) w):=fun w=>by
          have:=zPP f d hokd w;rw[← hta,zIG];exact this
         have hk0:ta.kids=[]:=by rw[← hta];exact zIG d f
         have HK:=Lib.hid hk0;clear hk0 hta
         go_wp2_with (first|(at_builtin;refine zAk rfl _ _ 26 rfl H evd_ rfl atd_ atd_ Tryz.underlying26 hi0 hz0 hz1 hz2 rfl (by decide) rfl rfl (by unfold maxLen;omega) (by omega) ?_;clear H;intro v2 w H;try simp only[nr]at H)|((with_reducible refine gBS ?_);refine zAY wtd_ _ _ _ rfl H (zAO (ta.d) (.slice none ta.kids.length 0)) 28 (by intro W;simp only[ml];(try simp only[pe]);exact zBQ _ _ W) ?_;clear H;intro bk w H;try simp only[nr]at H)|((with_reducible refine gL ?_);(first|refine aG H ?_|refine aD H ?_))|((with_reducible first|refine ch (hop _) H ?_|refine ch (hat _) H ?_);clear H;intro w H))
         have H1:=H.know (fun _=>False) (fun V=>ForestR V (fun _=>False) none 0 ta.kids) (fun _ h=>h.elim) (fun _ _ _ _ _ h=>h) (fun V _=>by rw[HK.out];exact ForestR.nil _ _ _)
         have H2:=H1.rowGrown (i:=5) (k:=6) (k2:=9) (xs:=xi) (ys:=xa++xi) i_5 i_6 i_9 (xa++(xi++[(ta,none,0)])) (fun y hy=>by
          rcases List.mem_append.1 hy with h|h
          ·exact .inl (List.mem_append.2 (.inl h))
          ·exact(List.mem_append.1 h).imp (fun h=>List.mem_append.2 (.inr h)) List.mem_singleton.1)
         have hF3:∀ b,(F b\/False)->w0.heap.size<=b:=fun b h=>h.elim (hF b) False.elim
         have HC:w.cell? ⟨pb,1,none⟩=some (.int .i64 ((j:Int)+1)):=H.cell .zero 1;go_roundw
         case rel=>first|exact⟨j+1,g,k,f,xa,xi++[(ta,none,0)],(fun b=>F b\/False),by omega,by omega,by (try simp only[List.length_append,List.length_singleton,List.length_nil]);omega,by (try simp only[List.length_append,List.length_singleton,List.length_nil]);omega,hF3,Lib.hid ⟨by (try rw[List.map_append]);exact G2.out.1,G2.out.2⟩,H2.pick [0,1,2,3,4,5,10] _ (by decide) rfl⟩|((repeat apply Exists.intro);refine⟨?_,rfl⟩;exact⟨j+1,g,k,f,xa,xi++[(ta,none,0)],(fun b=>F b\/False),by omega,by omega,by (try simp only[List.length_append,List.length_singleton,List.length_nil]);omega,by (try simp only[List.length_append,List.length_singleton,List.length_nil]);omega,hF3,Lib.hid ⟨by (try rw[List.map_append]);exact G2.out.1,G2.out.2⟩,H2.pick [0,1,2,3,4,5,10] _ (by decide) rfl⟩)
         case measure=>rw[zDn HM.out,zDn HC];omega
  ·have hdj:decide ((j:Int)<(n:Int))=false:=by simp;omega
   have E:=Lib.hid (show some (rowT 5 (xa.map (·.1)++[rowT 4 (xi.map (·.1))]),ws.drop j,g)=some (t,r',g') by
    rw[← G.out.1,show ws.drop j=[] from List.drop_eq_nil_of_le (by rw[← HN.out];omega),zPA])
   go_upto_region 2 with fail
   obtain⟨T,hT,fw,hf,h0⟩:=fam wr;have e0:=fun x=>hp0 _ (hf x)
   have e1:=fun x=>hp1 _ (hf x)
   refine zCl fw (by kernel_rfl) (by kernel_rfl) h0 ?_
   repeat (go_big_quiet_step (fail))
   refine wpQuiet_nil ?_
   rintro _ ⟨x,rfl⟩;replace H:=H.call (hf x);obtain⟨wq,hwq⟩:∃ wq,fw x=wq:=⟨_,rfl⟩;rw[hwq]at H ⊢;clear hwq e0 e1 h0 hf hp0 hp1;clear x fw hT T;obtain⟨qi,ci,rfl,hqi1,hqi2,_⟩:=H.rowShape (i:=5) i_5;obtain⟨GF,hGF,H2⟩:=H.rowForest (i:=5) (xs:=xi) (K:=F) i_5 rfl (Still.at (i:=6) i_6) (fun x hx=>(H.kn (i:=6) i_6) x (List.mem_append.2 (.inr hx)))
   clear H;have H:=H2;clear H2;simp only[sc]at H;have hGFl:∀ b,GF b->w0.heap.size<=b:=fun b h=>(hGF b h).elim id (hF b)
   clear hGF
   generalize hrt:rowT 4 (xi.map (·.1))=rt at E
   have hr4:∀ (w:World) (l:List Res),HoldG (·=pb) w0 w l->At l 5 (.kn GF (fun V=>ForestR V GF qi ci (xi.map (·.1))))->Calls Tryz.prog 152 #[.int .i64 4,.slice qi xi.length ci] w fun e w'=>zB7 w GF rt e w'/\Below w.heap.size w w':=fun w l h hi=>hrt ▸ zEO 4 qi ci xi.length GF (xi.map (·.1)) w (h.knlt hi) (h.kn hi) (by rw[List.length_map])
   have HRT:=Lib.hid hrt;clear hrt;simp only[Option.some.injEq,Prod.mk.injEq]at E;obtain⟨ht5,hr5',rfl⟩:=E;have hjr:n - r'.length=j:=by rw[← hr5',List.length_drop,← HN.out];omega
   have hr5:∀ (w:World) (l:List Res) (qa:Option Addr) (ca:Nat) (G3:Nat->Prop),HoldG (·=pb) w0 w l->At l 4 (.kn G3 (fun V=>ForestR V G3 qa ca (xa.map (·.1)++[rt])))->Calls Tryz.prog 152 #[.int .i64 5,.slice qa (xa.length+1) ca] w fun e w'=>zB7 w G3 t e w'/\Below w.heap.size w w':=fun w l qa ca G3 h hi=>ht5 ▸ zEO 5 qa ca (xa.length+1) G3 (xa.map (·.1)++[rt]) w (h.knlt hi) (h.kn hi) (by rw[List.length_append,List.length_map];rfl)
   have HJR:=Lib.hid hjr;clear hjr hr5' ht5 hli
   go_wp2_with (first|(at_builtin;refine zAk rfl _ _ 26 rfl H evd_ rfl atd_ atd_ Tryz.underlying26 hi0 hz0 hz1 hz2 rfl (by decide) rfl rfl (by unfold maxLen;omega) (by omega) ?_;clear H;intro v2 w H;try simp only[nr]at H)|((with_reducible refine gBS ?_);refine zAY wtd_ _ _ _ rfl H (zAO (rt.d) (.slice q2 rt.kids.length c2)) 28 (by intro W;simp only[ml];(try simp only[pe]);exact zBQ _ _ W) ?_;clear H;intro bk w H;try simp only[nr]at H)|((with_reducible refine gT ?_);(refine aT H ?_;clear H;intro w H;try simp only[nr]at H))|(go_at_call 152;(with_reducible refine cht (hr4 _ _ H i_5) H (Still.at (i:=5) i_5) ?_);clear H;intro q2 c2 F2 w hF2 H)|(go_at_call 152;(obtain⟨qa,ca,G3,rfl,hG3,H3⟩:=H.rowForest1 (i:=4) (k:=6) (k2:=7) (xs:=xa) (ys:=xa++xi) i_4 i_6 (fun x hx=>List.mem_append.2 (.inl hx)) i_7);clear H;(have H:=H3);clear H3;(simp only[sc]at H);(with_reducible refine cht (hr5 _ _ _ _ _ H i_4) H (Still.at (i:=4) i_4) ?_);clear H;intro q5 c5 F5 w hF5 H;try simp only[nr]at H))
   (refine xc Tryz.results101 H ?_)
   have hG3l:∀ b,G3 b->w0.heap.size<=b:=fun b h=>(hG3 b h).elim id (fun h=>h.elim (hF b) (fun h=>(hF2 b h).elim id (hGFl b)))
   rw[HJR.out];exact⟨H.keep,(H.blk .zero).2,q5,c5,F5,rfl,(H.all 9 _ rfl).2 _ (fun _ _=>rfl),fun b h=>⟨(H.all 9 _ rfl).1 b h,.inl ((hF5 b h).elim id (hG3l b))⟩⟩
end
section
open Go.RowKit
theorem zHn {L:Str}:∀ (f k:Nat) (first:Bool) (S:Nat->Nat) (T:Nat->Nat) (e:Nat),zA9 S->zFD L f k first S=some (T,e)->zA9 T
 | 0,_,_,_,_,_,_,h=>by simp[zFD]at h
 | f+1,k,first,S,T,e,hS,h=>by
  unfold zFD at h;split at h
  ·cases h;exact hS
  ·split at h
   ·cases h
   ·rename_i t e1 hi;exact zHn f e1 false _ T e (zDX (ok2 hS (zLR hi).2.2)) h
theorem zNn {L:Str} {i:Nat} {d:WordD} {e:Nat} (h:zJv L i=some (d,e)):zA9 d.set:=by
 unfold zJv at h;obtain⟨⟨S,e1⟩,h1,h2⟩:=Option.map_eq_some_iff.1 h
 cases h2
 exact zHn _ _ _ _ _ _ zCA h1
theorem zHP {L:Str}:∀ (f k:Nat) (off opn:Bool) (w d:WordD) (e:Nat),zDj L f k off opn w=some (d,e)->d.set=w.set
 | 0,_,_,_,_,_,_,h=>by simp[zDj]at h
 | f+1,k,off,opn,w,d,e,h=>by
  unfold zDj at h;have IH:=fun k off opn w=>zHP (L:=L) f k off opn w d e
  dsimp only at h
  split at h
  ·split at h
   ·rw[IH _ _ _ _ h];split<;>rfl
   split at h
   ·rw[IH _ _ _ _ h];split<;>rfl
   split at h
   ·rw[IH _ _ _ _ h];split<;>rfl
   split at h
   ·split at h
    ·cases h
    ·exact IH _ _ _ _ h
   split at h
   ·split at h
    ·cases h;rfl
    ·cases h
   split at h
   ·split at h
    ·cases h;rfl
    ·cases h
   ·cases h
  ·cases h
theorem zOa {L:Str} {i:Nat} {d:WordD} {e:Nat} (h:zJW L i=some (d,e)):zA9 d.set:=by
 unfold zJW at h;split at h
 ·rename_i s hs
  cases h
  split at hs
  ·exact zK6 hs
  ·cases hs
 ·split at h
  ·cases h;exact zCA
  ·obtain⟨⟨b,e1⟩,h1,h2⟩:=Option.map_eq_some_iff.1 h
   cases h2;exact zCq _
theorem zEh {L:Str} {i:Nat} {lo hi:Int} {k e:Nat} {d:WordD} (h:zBG L i lo hi k=.ok (d,e)):zA9 d.set:=by
 unfold zBG at h;split at h
 ·cases h
 ·split at h<;>(cases h;exact zCA)
theorem zFy {α:Type} {o:Option α} {a:α} (h:zJD o=.ok a):o=some a:=by cases o<;>simp[zJD]at h ⊢;exact h
theorem zNm {L:Str} {i:Nat} {d:WordD} {e:Nat} (h:zB3 L i=.ok (d,e)):zA9 d.set:=by
 unfold zB3 at h
 dsimp only at h
 split at h
 ·exact zOa (zFy h)
 split at h
 ·exact zNn (zFy h)
 split at h
 ·split at h
  ·have h:=zFy h;unfold zNO at h;rw[zHP _ _ _ _ _ _ _ h];exact zCA
  ·cases h;exact zCA
 split at h
 ·split at h
  ·exact zEh h
  ·cases h;exact zCq _
 split at h
 ·exact zEh h
 split at h
 ·exact zEh h
 split at h
 ·exact zEh h
 split at h
 ·cases h;exact zCA
 ·cases h;exact zCq _
theorem zG5 {L:Str}:∀ (f i:Nat) (ws:List WordD),zBg L f i=.ok ws->∀ d ∈ ws,zA9 d.set
 | 0,i,ws,h=>by
  unfold zBg at h;split at h
  ·cases h
  ·cases h;intro d hd;cases hd
 | f+1,i,ws,h=>by
  unfold zBg at h;split at h
  ·split at h
   ·cases h
   ·rename_i w j hw;split at h
    ·cases h
    ·rename_i l hl
     cases h
     intro d hd;rcases List.mem_cons.1 hd with rfl|hd
     ·exact zNm hw
     ·exact zG5 f j l hl d hd
  ·cases h;intro d hd;cases hd
theorem zE3 {L:Str}:∀ (f i:Nat) (ws:List WordD),zBg L f i=.ok ws->ws.length<=f
 | 0,i,ws,h=>by
  unfold zBg at h;split at h
  ·cases h
  ·cases h;simp
 | f+1,i,ws,h=>by
  unfold zBg at h;split at h
  ·split at h
   ·cases h
   ·rename_i w j hw;split at h
    ·cases h
    ·rename_i l hl
     cases h
     have:=zE3 f j l hl;simp;omega
  ·cases h;simp
theorem zFa (k:Int) (ts:List Tree):zAC (rowT k ts)<=1+zAD ts:=by
 unfold rowT;split
 ·simp[zBj,zAC,zAD]
 ·simp[zAD]
 ·simp[zAC]
theorem zN3 (d:WordD) (f:zBZ):zAC (zFz d f)=1:=by
 have:(zFz d f).kids=[]:=by
  unfold zFz setT zNu zBj
  repeat' split
  all_goals first|rfl|(dsimp only;repeat' split)<;>rfl
 rw[zCI,this];rfl
theorem zIE:∀ (m:Nat) (f:zBZ) (r:List WordD) (g:Nat) (all items:List Tree) (t:Tree) (r':List WordD) (g':Nat),zA4 m f r g all items=some (t,r',g')->zAC t+3 * r'.length<=3 * r.length+zAD all+zAD items+2
 | 0,f,r,g,all,items,t,r',g',h=>by simp[zA4]at h
 | m+1,f,[],g,all,items,t,r',g',h=>by
  simp only[zA4,Option.some.injEq,Prod.mk.injEq]at h;obtain⟨rfl,rfl,rfl⟩:=h;have a:=zFa 5 (all++[rowT 4 items]);have b:=zFa 4 items;rw[zAc,zA6]at a;simp only[List.length_nil];omega
 | m+1,f,w::r,g,all,items,t,r',g',h=>by
  have IH:=zIE m;unfold zA4 at h;split at h
  ·simp only[Option.some.injEq,Prod.mk.injEq]at h;obtain⟨rfl,rfl,rfl⟩:=h;have a:=zFa 5 (all++[rowT 4 items]);have b:=zFa 4 items;rw[zAc,zA6]at a;simp only[List.length_cons];omega
  split at h
  ·have:=IH _ _ _ _ _ _ _ _ h;simp only[List.length_cons];omega
  split at h
  ·have a:=IH _ _ _ _ _ _ _ _ h;have b:=zFa 4 items;rw[zAc,zA6]at a;simp only[List.length_cons,zAD]at *;omega
  split at h
  ·split at h
   ·cases h
   ·rename_i last hl;have a:=IH _ _ _ _ _ _ _ _ h;rcases List.eq_nil_or_concat items with rfl|⟨ys,y,rfl⟩
    ·simp at hl
    ·simp at hl;subst hl;simp only[List.concat_eq_append,List.dropLast_concat,zAc,zA6]at *;have:zAC (repT w y)=1+zAC y:=by simp[repT,zAC,zAD]
     simp only[List.length_cons];omega
  split at h
  ·split at h
   ·rename_i t1 d1 r1 g1 h1;have a:=IH _ _ _ _ _ _ _ _ h1;have b:=IH _ _ _ _ _ _ _ _ h;rw[zAc,zA6]at b;simp only[List.length_cons,zAD]at *;omega
   ·cases h
  split at h
  ·split at h
   ·rename_i t1 d1 r1 g1 h1;have a:=IH _ _ _ _ _ _ _ _ h1;have b:=IH _ _ _ _ _ _ _ _ h;rw[zAc,zA6]at b;have:zAC (zG1 (g+1) t1)=1+zAC t1:=by simp[zG1,zAC,zAD]
    simp only[List.length_cons,zAD]at *;omega
   ·cases h
  ·have a:=IH _ _ _ _ _ _ _ _ h;rw[zAc,zA6,zN3]at a;simp only[List.length_cons];omega
theorem zHy:∀ (m:Nat) (f:zBZ) (r:List WordD) (g:Nat) (all items:List Tree) (t:Tree) (r':List WordD) (g':Nat),zA4 m f r g all items=some (t,r',g')->r'.length<=r.length
 | 0,f,r,g,all,items,t,r',g',h=>by simp[zA4]at h
 | m+1,f,[],g,all,items,t,r',g',h=>by
  simp only[zA4,Option.some.injEq,Prod.mk.injEq]at h;obtain⟨_,rfl,rfl⟩:=h;exact Nat.le_refl _
 | m+1,f,w::r,g,all,items,t,r',g',h=>by
  have IH:=zHy m;unfold zA4 at h;simp only[List.length_cons];split at h
  ·simp only[Option.some.injEq,Prod.mk.injEq]at h;obtain⟨_,rfl,rfl⟩:=h;simp
  split at h
  ·have:=IH _ _ _ _ _ _ _ _ h;omega
  split at h
  ·have:=IH _ _ _ _ _ _ _ _ h;omega
  split at h
  ·split at h
   ·cases h
   ·have:=IH _ _ _ _ _ _ _ _ h;omega
  split at h
  ·split at h
   ·rename_i h1;have:=IH _ _ _ _ _ _ _ _ h1;have:=IH _ _ _ _ _ _ _ _ h;simp only[List.length_cons]at *;omega
   ·cases h
  split at h
  ·split at h
   ·rename_i h1;have:=IH _ _ _ _ _ _ _ _ h1;have:=IH _ _ _ _ _ _ _ _ h;simp only[List.length_cons]at *;omega
   ·cases h
  ·have:=IH _ _ _ _ _ _ _ _ h;omega
theorem zJM:∀ (m:Nat) (r:List WordD) (bare:Bool) (op:List Nat) (f:zBZ) (g:Nat) (all items:List Tree),r.length<m->zBT bare op r=none->(bare=false->items≠[]) ->
  ∃ t r' g',zA4 m f r g all items=some (t,r',g')/\((op=[]/\r'=[])\/(op≠[]/\∃ d r2,r'=d::r2/\zBT false op.dropLast r2=none))
 | 0,r,_,_,_,_,_,_,h,_,_=>by omega
 | m+1,[],bare,op,f,g,all,items,_,hw,_=>by
  refine⟨_,_,_,by simp only[zA4];rfl,.inl ⟨?_,rfl⟩⟩
  simpa [zBT] using hw
 | m+1,w::r,bare,op,f,g,all,items,hm,hw,hi=>by
  have IH:=zJM m;simp only[List.length_cons]at hm;unfold zBT at hw;split at hw
  ·cases hw
  rename_i hc
  dsimp only at hw
  unfold zA4
  by_cases h9:w.kind=9
  ·rw[if_pos h9];have ho:zBK w=false:=by simp[zBK,h9]
   refine⟨_,_,_,rfl,.inr ⟨fun e=>hc (.inr ⟨h9,e⟩),w,r,rfl,?_⟩⟩
   simpa [ho,h9] using hw
  rw[if_neg h9];rw[if_neg h9]at hw
  by_cases h8:w.kind=8
  ·rw[if_pos h8];have ho:zBK w=false:=by simp[zBK,h8]
   refine IH r true op _ g all items (by omega) (by simpa [ho,h8] using hw) (fun h=>by cases h)
  rw[if_neg h8]
  by_cases h10:w.kind=10
  ·rw[if_pos h10];have ho:zBK w=false:=by simp[zBK,h10]
   exact IH r true op _ g _ [] (by omega) (by simpa [ho,h10] using hw) (fun h=>by cases h)
  rw[if_neg h10]
  by_cases h11:w.kind=11
  ·rw[if_pos h11];have ho:zBK w=false:=by simp[zBK,h11]
   have hb:bare=false:=by
    cases bare with
    | false=>rfl
    | true=>exact(hc (.inl ⟨h11,rfl⟩)).elim
   have hne:=hi hb;rw[List.getLast?_eq_some_getLast hne];exact IH r true op _ g _ _ (by omega) (by simpa [ho,h11] using hw) (fun h=>by cases h)
  rw[if_neg h11];have inner:∀ (f':zBZ) (g1:Nat),zBK w=true->∃ t1 d1 r1 g2,zA4 m f' r g1 [] []=some (t1,d1::r1,g2)/\zBT false op r1=none/\r1.length<m:=fun f' g1 ho=>by
   obtain⟨t1,r',g2,h1,h2⟩:=IH r true (op++[w.place]) f' g1 [] [] (by omega) (by simpa [ho] using hw) (fun h=>by cases h)
   rcases h2 with ⟨h2,_⟩|⟨_,d1,r1,rfl,h3⟩
   ·simp at h2
   ·refine⟨t1,d1,r1,g2,h1,by simpa using h3,?_⟩
    have:=zHy _ _ _ _ _ _ _ _ _ h1;simp only[List.length_cons]at this;omega
  by_cases h7:w.kind=7
  ·rw[if_pos h7];obtain⟨t1,d1,r1,g2,h1,h2,h3⟩:=inner (zHG f w) g (by simp[zBK,h7])
   rw[h1];exact IH r1 false op f g2 all _ h3 h2 (fun _=>by simp)
  rw[if_neg h7]
  by_cases h6:w.kind=6
  ·rw[if_pos h6];obtain⟨t1,d1,r1,g2,h1,h2,h3⟩:=inner f (g+1) (by simp[zBK,h6])
   rw[h1];exact IH r1 false op f g2 all _ h3 h2 (fun _=>by simp)
  rw[if_neg h6];have ho:zBK w=false:=by simp[zBK,h6,h7]
  have e8:(w.kind == 8)=false:=by simpa using h8
  have e10:(w.kind == 10)=false:=by simpa using h10
  have e11:(w.kind == 11)=false:=by simpa using h11
  exact IH r false op f g all _ (by omega) (by simpa [ho,e8,e10,e11] using hw) (fun _=>by simp)
theorem zMS {ws:List WordD} (f:zBZ) (h:zDe ws=none):∃ t g,zA4 (ws.length+1) f ws 0 [] []=some (t,[],g):=by
 obtain⟨t,r',g,h1,h2⟩:=zJM (ws.length+1) ws true [] f 0 [] [] (by omega) h (fun h=>by cases h)
 rcases h2 with ⟨_,rfl⟩|⟨h,_⟩
 ·exact⟨t,g,h1⟩
 ·exact(h rfl).elim
def WordsR (T:TypeId) (base:Nat) (r:Except (Nat × Nat) (List WordD)) (e:Ending) (w':World):Prop:=match r with
 | .ok ws=>∃ v,e=.returned (.tuple #[v,.int .i64 0,.int .i64 0])/\w'.ownsRow base T 17 v ws.length (zI0 ws)
 | .error (p,x)=>e=.returned (.tuple #[.slice none 0 0,.int .i64 p,.int .i64 x])
theorem WordsR.ok {T:TypeId} {base:Nat} {r:Except (Nat × Nat) (List WordD)} {v:Value} {w':World} {ws:List WordD} (h:r=.ok ws) (ho:w'.ownsRow base T 17 v ws.length (zI0 ws)):WordsR T base r (.returned (.tuple #[v,.int .i64 0,.int .i64 0])) w':=by subst h;exact⟨v,rfl,ho⟩
theorem WordsR.no {T:TypeId} {base:Nat} {r:Except (Nat × Nat) (List WordD)} {w':World} {p x:Nat} (h:r=.error (p,x)):WordsR T base r (.returned (.tuple #[.slice none 0 0,.int .i64 p,.int .i64 x])) w':=by subst h;rfl
def zD1 (L:Str):Except (Nat × Nat) (List WordD):=if 1000<L.length then .error (0,3) else zLX L
def zHC (L:Str) (f:zBZ):Except (Nat × Nat) (Tree × Nat) :=
 match zD1 L with
 | .error x=>.error x
 | .ok ws =>
  match zDe ws with
  | some a=>.error (a,4)
  | none =>
   match zA4 (ws.length+1) f ws 0 [] [] with
   | none=>.error (0,0)
   | some (t,_,g)=>if 20<g\/2000<zAC t then .error (0,7) else if 50<zDk t then .error (0,5) else .ok (t,g)
def ParseOut (w:World) (r:Except (Nat × Nat) (Tree × Nat)) (e:Ending) (w':World):Prop:=match r with
 | .error (a,x)=>e=.returned (.tuple #[zAQ {kind:=0} nilS,.int .i64 0,.int .i64 a,.int .i64 x])
 | .ok (t,g)=>∃ p c F,e=.returned (.tuple #[zAQ t.d (.slice p t.kids.length c),.int .i64 g,.int .i64 0,.int .i64 0])/\ForestR w' F p c t.kids/\∀ b,F b->b<w'.heap.size/\w.heap.size<=b
theorem ParseOut.no {w w':World} {r:Except (Nat × Nat) (Tree × Nat)} {a x:Nat} (h:r=.error (a,x)):ParseOut w r (.returned (.tuple #[zAQ {kind:=0} nilS,.int .i64 0,.int .i64 a,.int .i64 x])) w':=by subst h;rfl
end
end Go.Proofs.YtalggmbdpmdcbaaGreat
