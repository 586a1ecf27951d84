/-
  Laws of walks, and walks.
-/
import Derived.Test.YtdoflhjhaciepaaVa2
import Derived.Test.YtdoflhjhaciepaaVa1
set_option linter.unusedVariables false
set_option linter.unusedSimpArgs false
set_option maxRecDepth 100000
set_option maxHeartbeats 16000000
namespace Go.Proofs.Ytdoflhjhaciepaa
open Go.RowKit Go.Shelf
attribute [local go_sem] Oper.semAt_some
theorem ref_alts_of (m:Nat) (pb:Nat) (FW:Nat→Prop) (p:Option Addr) (n c:Nat) (ws:List WordD) (j0 g0:Nat) (f0:FlagsD) (t:Tree) (r':List WordD) (g':Nat) (w0:World) (hP:AltPre pb 53 FW p n c ws j0 g0 w0)
  (hres:altsP m f0 (ws.drop j0) g0 [] []=some (t,r',g'))
  (IH:∀ k,k<m→∀ (j1 g1:Nat) (f1:FlagsD) (t1:Tree) (r1:List WordD) (g2:Nat) (w:World),AltPre pb 53 FW p n c ws j1 g1 w→altsP k f1 (ws.drop j1) g1 [] []=some (t1,r1,g2) →
   Calls Try.prog 14 #[.pointer (some ⟨pb,0,none⟩),flagsV f1] w (AltOut pb 53 p n c t1 (n - r1.length) g2 w)) :
  Calls Try.prog 14 #[.pointer (some ⟨pb,0,none⟩),flagsV f0] w0 (AltOut pb 53 p n c t (n - r'.length) g' w0):=by
 obtain⟨i0,hi0,hz0,hz1,hz2⟩:=info_parts info_Node
 have H:=(HoldG.startB hP.cells).know FW (WKnows FW p n c ws) hP.lt (fun i r h b hb=>by
  match i,h with
  | 0,h=>cases h;cases hb;exact hP.ne) (fun V hV=>hP.words.kept hV)
 simp only[List.cons_append,List.nil_append]at H
 have hlen:=hP.len
 have hb:=hP.words.bound
 have hp:=hP.words.at
 have HN:=Lib.hid hb.1
 have hc1:=hb.2.1
 have hc2:=hb.2.2
 clear hb
 have hjn0:=hP.jn;have hgj0:=hP.gn
 have HPN:=Lib.hid hP.ne;have HOK:=Lib.hid hP.ok
 clear hP
 go_enter Try.func14,Try.ntmps14
 go_wp2_with (first|((first|((with_reducible refine kgA 3 ?_);refine kA 3 H ?_)|((with_reducible refine kgX 3 ?_);(first|refine kS 3 H ?_|refine kB 3 H ?_)));clear H;intro b3 w H;try simp only[nrm,nrl,Value.cells]at H)|((first|((with_reducible refine kgA 4 ?_);refine kA 4 H ?_)|((with_reducible refine kgX 4 ?_);(first|refine kS 4 H ?_|refine kB 4 H ?_)));clear H;intro b4 w H;try simp only[nrm,nrl,Value.cells]at H)|fail)
 replace H:=(H.addNil 31 10).addNil 31 10
 have H1:=H.know (fun _=>False) (fun V=>ListR V (fun _=>False) ([]++[])) (fun _ h=>h.elim) (fun _ _ _ _ _ h=>h) (fun V _=>ListR.nil _ _)
 simp only[List.nil_append,List.cons_append]at H1
 clear H
 go_loopw [5,6] (fun vA vI wr=>∃ (j g k:Nat) (f:FlagsD) (xa xi:List TV) (F:Nat→Prop),j≤n∧g≤j∧xa.length≤j∧xi.length≤j∧(∀ b,F b→w0.heap.size≤b)∧Hid (altsP k f (ws.drop j) g (xa.map (·.1)) (xi.map (·.1))=some (t,r',g')∧k≤m)
  ∧ HoldG (·=pb) w0 wr [.blk pb (pC p n c j g) 53,.kn FW (WKnows FW p n c ws),.blk b3 (flagsC f) 23,.blk b4 (nodeC {kind:=0} nilS) 31,
   .row vA 31 10 xa.length (flatR (xa.map nodeX)),.row vI 31 10 xi.length (flatR (xi.map nodeX)),.kn F (fun V=>ListR V F (xa++xi))])
  (fun _ _ wr=>posM pb n wr)
 case atStart=>exact⟨j0,g0,m,f0,[],[],fun _=>False,hjn0,hgj0,by simp,by simp,fun _ h=>h.elim,Lib.hid ⟨hres,Nat.le_refl _⟩,H1⟩
 case round =>
  clear H1
  obtain⟨j,g,k,f,xa,xi,F,hj,hgj,hla,hli,hF,G,H⟩:=hrel
  have HM:=Lib.hid ((H.cell .zero 1).trans rfl:wr.cell? ⟨pb,1,none⟩=some (.int .i64 (j:Int)))
  obtain⟨k,rfl⟩:∃ k',k=k'+1:=by
   cases k with
   | zero=>have:=G.out.1;simp[altsP]at this
   | succ k=>exact⟨k,rfl⟩
  have hp0:∀ W,Below wr.heap.size wr W→W.cell? ⟨pb,0,none⟩=some (.slice p n c):=fun W hb=>(H.call hb).cell .zero 0
  have hp1:∀ W,Below wr.heap.size wr W→W.cell? ⟨pb,1,none⟩=some (.int .i64 (j:Int)):=fun W hb=>(H.call hb).cell .zero 1
  by_cases hlt:j<n
  ·obtain⟨d,hd⟩:∃ d,ws[j]?=some d:=⟨_,List.getElem?_eq_getElem (by rw[← HN.out];exact hlt)⟩
   obtain⟨b,off,rfl⟩:=hp (by rw[← HN.out];omega)
   clear hp
   have hokd:=HOK.out d (List.mem_of_getElem? hd)
   have hdj:decide ((j:Int)<(n:Int))=true:=by simp;omega
   have hkd:∀ W,Below wr.heap.size wr W→W.cell? ⟨b,off+j * 17,none⟩=some (.int .i64 d.kind):=fun W hb=>WKnows.kind ((H.call hb).kn i_1) hd
   have hcell:∀ W,Below wr.heap.size wr W→∀ k,k<17→W.cell? ⟨b,off+j * 17+k,none⟩=(wordC d)[k]?:=fun W hb=>WKnows.cells ((H.call hb).kn i_1) hd rfl
   have HD:=Lib.hid (drop_cons hd);have HDD:=Lib.hid hd;clear hd
   by_cases h9:d.kind=9
   ·have d9:((d.kind:Int) != 9)=false:=by rw[bne_eq_false_iff_eq];omega
    have E:=Lib.hid (show some (rowT 5 (xa.map (·.1)++[rowT 4 (xi.map (·.1))]),ws.drop j,g)=some (t,r',g') by rw[← G.out.1,HD.out,alts_9 h9])
    clear h9
    go_upto_region 2 with fail
    obtain⟨T,hT,fw,hf,h0⟩:=fam wr
    have e0:=fun x=>hp0 _ (hf x)
    have e1:=fun x=>hp1 _ (hf x)
    have e2:=fun x=>hkd _ (hf x)
    refine wp_region_fam fw (by kernel_rfl) (by kernel_rfl) h0 ?_
    repeat (go_big_quiet_step (fail))
    refine wpQuiet_nil ?_
    rintro _ ⟨x,rfl⟩
    replace H:=H.call (hf x)
    obtain⟨wq,hwq⟩:∃ wq,fw x=wq:=⟨_,rfl⟩
    rw[hwq]at H ⊢
    clear hwq e0 e1 e2 h0 hf hp0 hp1 hkd hcell
    clear x fw hT T
    obtain⟨qi,ci,rfl,hqi1,hqi2,_⟩:=H.rowShape (i:=5) i_5
    obtain⟨GF,hGF,H2⟩:=H.rowForest (i:=5) (xs:=xi) (K:=F) i_5 rfl (Still.at (i:=6) i_6) (fun x hx=>(H.kn (i:=6) i_6) x (List.mem_append.2 (.inr hx)))
    clear H
    have H:=H2;clear H2
    simp only[List.set_cons_succ,List.set_cons_zero]at H
    have hGFl:∀ b,GF b→w0.heap.size≤b:=fun b h=>(hGF b h).elim id (hF b)
    clear hGF
    generalize hrt:rowT 4 (xi.map (·.1))=rt at E
    have hr4:∀ (w:World) (l:List Res),HoldG (·=pb) w0 w l→At l 5 (.kn GF (fun V=>ForestR V GF qi ci (xi.map (·.1))))→Calls Try.prog 32 #[.int .i64 4,.slice qi xi.length ci] w fun e w'=>TreeOut w GF rt e w'∧Below w.heap.size w w':=fun w l h hi=>hrt ▸ ref_row10 4 qi ci xi.length GF (xi.map (·.1)) w (h.knlt hi) (h.kn hi) (by rw[List.length_map])
    have HRT:=Lib.hid hrt;clear hrt
    simp only[Option.some.injEq,Prod.mk.injEq]at E
    obtain⟨ht5,hr5',rfl⟩:=E
    have hjr:n - r'.length=j:=by rw[← hr5',List.length_drop,← HN.out];omega
    have hr5:∀ (w:World) (l:List Res) (qa:Option Addr) (ca:Nat) (G3:Nat→Prop),HoldG (·=pb) w0 w l→At l 4 (.kn G3 (fun V=>ForestR V G3 qa ca (xa.map (·.1)++[rt])))→Calls Try.prog 32 #[.int .i64 5,.slice qa (xa.length+1) ca] w fun e w'=>TreeOut w G3 t e w'∧Below w.heap.size w w':=fun w l qa ca G3 h hi=>ht5 ▸ ref_row10 5 qa ca (xa.length+1) G3 (xa.map (·.1)++[rt]) w (h.knlt hi) (h.kn hi) (by rw[List.length_append,List.length_map];rfl)
    have HJR:=Lib.hid hjr;clear hjr hr5' ht5 hli
    go_wp2_with (first|(at_builtin;refine own_append rfl _ _ 29 rfl H evd_ rfl atd_ atd_ Try.underlying29 hi0 hz0 hz1 hz2 rfl (by decide) rfl rfl (by unfold maxLen;omega) (by omega) ?_;clear H;intro v2 w H;try simp only[nrm,nrl,Value.cells]at H)|((with_reducible show @wpList _ _ _ ({dst:=_,op:=Op.buildSlice _ _ _,type:=_,pos:=_,after:=_,guard:=_}::_) _ _);refine own_build wtd_ _ _ _ rfl H (nodeC (rt.d) (.slice q2 rt.kids.length c2)) 31 (by intro W;simp only[List.map_toArray,List.map_cons,List.map_nil];(try simp only[pe]);exact run_kid1 _ _ W) ?_;clear H;intro bk w H;try simp only[nrm,nrl,Value.cells]at H)|((with_reducible refine gT ?_);(refine aT H ?_;clear H;intro w H;try simp only[nrm,nrl,Value.cells]at H))|(go_at_call 32;(with_reducible refine cht (hr4 _ _ H i_5) H (Still.at (i:=5) i_5) ?_);clear H;intro q2 c2 F2 w hF2 H)|(go_at_call 32;(obtain⟨qa,ca,G3,rfl,hG3,H3⟩:=H.rowForest1 (i:=4) (k:=6) (k2:=7) (xs:=xa) (ys:=xa++xi) i_4 i_6 (fun x hx=>List.mem_append.2 (.inl hx)) i_7);clear H;(have H:=H3);clear H3;(simp only[List.set_cons_succ,List.set_cons_zero]at H);(with_reducible refine cht (hr5 _ _ _ _ _ H i_4) H (Still.at (i:=4) i_4) ?_);clear H;intro q5 c5 F5 w hF5 H;try simp only[nrm,nrl,Value.cells]at H))
    (refine ret_c Try.results14 rfl H atd_ (by first|(with_reducible exact row_Node)|(with_reducible exact row_Set)|(with_reducible exact row_Flags)|(with_reducible exact row_Word)) (by rfl) rfl ?_)
    have hG3l:∀ b,G3 b→w0.heap.size≤b:=fun b h=>(hG3 b h).elim id (fun h=>h.elim (hF b) (fun h=>(hF2 b h).elim id (hGFl b)))
    rw[HJR.out]
    exact⟨H.keep,(H.blk .zero).2,q5,c5,F5,rfl,(H.all 9 _ rfl).2 _ (fun _ _=>rfl),fun b h=>⟨(H.all 9 _ rfl).1 b h,.inl ((hF5 b h).elim id (hG3l b))⟩⟩
   ·have d9:((d.kind:Int) != 9)=true:=by rw[bne_iff_ne];omega
    go_upto_region 2 with fail
    obtain⟨T,hT,fw,hf,h0⟩:=fam wr
    have e0:=fun x=>hp0 _ (hf x)
    have e1:=fun x=>hp1 _ (hf x)
    have e2:=fun x=>hkd _ (hf x)
    refine wp_region_fam fw (by kernel_rfl) (by kernel_rfl) h0 ?_
    repeat (go_big_quiet_step (fail))
    refine wpQuiet_nil ?_
    rintro _ ⟨x,rfl⟩
    replace H:=H.call (hf x)
    obtain⟨wq,hwq⟩:∃ wq,fw x=wq:=⟨_,rfl⟩
    rw[hwq]at H ⊢
    have hq0:∀ W,Below wq.heap.size wq W→W.cell? ⟨pb,0,none⟩=some (.slice (some ⟨b,off,none⟩) n c):=fun W hb=>(H.call hb).cell .zero 0
    have hq1:∀ W,Below wq.heap.size wq W→W.cell? ⟨pb,1,none⟩=some (.int .i64 (j:Int)):=fun W hb=>(H.call hb).cell .zero 1
    have hqc:∀ W,Below wq.heap.size wq W→∀ k,k<17→W.cell? ⟨b,off+j * 17+k,none⟩=(wordC d)[k]?:=fun W hb=>WKnows.cells ((H.call hb).kn i_1) HDD.out rfl
    clear hwq e0 e1 e2 h0 hf hp0 hp1 hkd hcell
    clear x fw hT T
    go_upto_region 3 with fail
    refine wp_region_spec 11 [fun v _=>v=.pointer (some ⟨pb,0,none⟩),fun v _=>v=.pointer (some ⟨pb,0,none⟩),fun v _=>v=.pointer (some ⟨pb,0,none⟩),fun v _=>v=.slice (some ⟨b,off,none⟩) n c,fun v _=>v=.pointer (some ⟨pb,0,none⟩),fun v _=>v=.pointer (some ⟨pb,0,none⟩),fun v _=>v=.pointer (some ⟨pb,1,none⟩),fun v _=>v=.int .i64 (j:Int),fun v _=>v=.pointer (some ⟨b,off+j * 17,none⟩),fun v _=>v=wordV d,FreshB wq.heap.size (wordC {kind:=0,place:=0}) 83] (fun _=>false) (by kernel_rfl) (by kernel_rfl) (by kernel_rfl) (by repeat (first|exact trivial|refine⟨stable_eq _,?_⟩|refine⟨stable_fresh _ _ _,?_⟩)) (fun _ _ h=>by cases h) ?ob ?en
    case ob =>
     refine⟨?_,?_,?_,?_,?_,?_,?_,?_,?_,?_,?_,trivial⟩<;>intro A W h
     ·exact rs_move rfl rfl (h.frame 0 rfl) (by decide)
     ·(have e34:A.eval (.tmp 34)=.pointer (some ⟨pb,0,none⟩):=h.dep 0 34 rfl rfl;refine rs_pure rfl ?_ (by decide);simp only[execOp,e34];(simp[go_sem]<;>first|done|omega|(rw[IntKind.wrap_i64];omega)|(rw[IntKind.wrap_u8];omega)|(rw[IntKind.wrap_u64];omega)))
     ·(have e35:A.eval (.tmp 35)=.pointer (some ⟨pb,0,none⟩):=h.dep 1 35 rfl rfl;refine rs_pure rfl ?_ (by decide);simp only[execOp,e35];(simp[go_sem]<;>first|done|omega|(rw[IntKind.wrap_i64];omega)|(rw[IntKind.wrap_u8];omega)|(rw[IntKind.wrap_u64];omega)))
     ·exact rs_pure rfl (run_load1K rfl (h.dep 2 36 rfl rfl) one_rwords (hq0 _ h.below)) (by decide)
     ·exact rs_move rfl rfl (h.frame 0 rfl) (by decide)
     ·(have e38:A.eval (.tmp 38)=.pointer (some ⟨pb,0,none⟩):=h.dep 4 38 rfl rfl;refine rs_pure rfl ?_ (by decide);simp only[execOp,e38];(simp[go_sem]<;>first|done|omega|(rw[IntKind.wrap_i64];omega)|(rw[IntKind.wrap_u8];omega)|(rw[IntKind.wrap_u64];omega)))
     ·(have e39:A.eval (.tmp 39)=.pointer (some ⟨pb,0,none⟩):=h.dep 5 39 rfl rfl;refine rs_pure rfl ?_ (by decide);simp only[execOp,e39];(simp[go_sem]<;>first|done|omega|(rw[IntKind.wrap_i64];omega)|(rw[IntKind.wrap_u8];omega)|(rw[IntKind.wrap_u64];omega)))
     ·exact rs_pure rfl (run_load1K rfl (h.dep 6 40 rfl rfl) one_int (hq1 _ h.below)) (by decide)
     ·exact rs_idx (sz:=17) Try.underlying47 (fun w=>by kernel_rfl) rfl rfl (h.dep 3 37 rfl rfl) (h.dep 7 41 rfl rfl) (by omega) (by omega) (by decide)
     ·exact rs_pure rfl (run_loadK rfl (h.dep 8 42 rfl rfl) row_Word rfl (hqc _ h.below)) (by decide)
     ·exact rs_fresh rfl rfl (by kernel_rfl) zWord h.below.size (by decide)
    case en =>
     intro vals W hbw hv _
     have v0:vals 0=_:=hv 0 (by omega)
     have v1:vals 1=_:=hv 1 (by omega)
     have v2:vals 2=_:=hv 2 (by omega)
     have v3:vals 3=_:=hv 3 (by omega)
     have v4:vals 4=_:=hv 4 (by omega)
     have v5:vals 5=_:=hv 5 (by omega)
     have v6:vals 6=_:=hv 6 (by omega)
     have v7:vals 7=_:=hv 7 (by omega)
     have v8:vals 8=_:=hv 8 (by omega)
     have v9:vals 9=_:=hv 9 (by omega)
     have x10:=hv 10 (by omega);simp only[lookS]at x10
     simp only[List.take_succ_cons,List.take_zero,List.drop_succ_cons,List.drop_zero,List.drop_nil,List.take_nil,fillAll,Nat.zero_add,Nat.reduceAdd]
     rw[v0,v1,v2,v3,v4,v5,v6,v7,v8,v9]
     clear hv v0 v1 v2 v3 v4 v5 v6 v7 v8 v9
     try simp only[pl]
     obtain⟨b7,e7,H7⟩:=H.gainB hbw x10
     rw[e7]
     clear x10 e7 hq0 hq1 hqc H hbw
     have H:=H7;clear H7
     simp only[List.cons_append,List.nil_append]at H
     go_upto_region 6 with (first|(first|((with_reducible refine gT ?_);((first|refine aO H ?_|refine aT H ?_);clear H;intro w H;try simp only[nrm,nrl,Value.cells]at H))|((with_reducible refine gL ?_);refine aG H ?_)))
     have hnx:(∀ b,F b→w0.heap.size≤b):=hF
     by_cases h8:d.kind=8
     ·have d8:((d.kind:Int) == 8)=true:=by rw[beq_iff_eq];omega
      have G2:=Lib.hid (show altsP k (turnP f d) (ws.drop (j+1)) g (xa.map (·.1)) (xi.map (·.1))=some (t,r',g')∧k≤m from ⟨by rw[← alts_8 h8,← HD.out];exact G.out.1,by have:=G.out.2;omega⟩)
      have htu:=fun w=>ref_turned f d w
      clear h8
      go_wp2_with (first|(first|((with_reducible refine gT ?_);(refine aT H ?_;clear H;intro w H;try simp only[nrm,nrl,Value.cells]at H))|((with_reducible refine gL ?_);(first|refine aG H ?_|refine aD H ?_)))|(go_at_call 31;(with_reducible refine ch (htu _) H ?_);clear H;intro w H))
      have HC:w.cell? ⟨pb,1,none⟩=some (.int .i64 ((j:Int)+1)):=H.cell .zero 1
      go_roundw
      case rel=>(repeat apply Exists.intro);refine⟨?_,rfl⟩;exact⟨j+1,g,k,turnP f d,xa,xi,F,by omega,by omega,by omega,by omega,hF,G2,H.pick [0,1,2,3,4,5,6] _ (by decide) rfl⟩
      case measure=>rw[posM_of HM.out,posM_of HC];omega
     ·have d8:((d.kind:Int) == 8)=false:=by rw[beq_eq_false_iff_ne];omega
      by_cases h10:d.kind=10
      ·have d10:((d.kind:Int) == 10)=true:=by rw[beq_iff_eq];omega
       have G2:=Lib.hid (show altsP k f (ws.drop (j+1)) g (xa.map (·.1)++[rowT 4 (xi.map (·.1))]) []=some (t,r',g')∧k≤m from ⟨by rw[← alts_10 h10,← HD.out];exact G.out.1,by have:=G.out.2;omega⟩)
       clear h10 h8 h9
       obtain⟨qi,ci,rfl,hqi1,hqi2,_⟩:=H.rowShape (i:=5) i_5
       obtain⟨GF,hGF,H2⟩:=H.rowForest (i:=5) (xs:=xi) (K:=F) i_5 rfl (Still.at (i:=6) i_6) (fun x hx=>(H.kn (i:=6) i_6) x (List.mem_append.2 (.inr hx)))
       clear H
       have H:=H2;clear H2
       simp only[List.set_cons_succ,List.set_cons_zero]at H
       have hGFl:∀ b,GF b→w0.heap.size≤b:=fun b h=>(hGF b h).elim id (hF b)
       clear hGF
       generalize hrt:rowT 4 (xi.map (·.1))=rt at G2
       have hr4:∀ (w:World) (l:List Res),HoldG (·=pb) w0 w l→At l 5 (.kn GF (fun V=>ForestR V GF qi ci (xi.map (·.1))))→Calls Try.prog 32 #[.int .i64 4,.slice qi xi.length ci] w fun e w'=>TreeOut w GF rt e w'∧Below w.heap.size w w':=fun w l h hi=>hrt ▸ ref_row10 4 qi ci xi.length GF (xi.map (·.1)) w (h.knlt hi) (h.kn hi) (by rw[List.length_map])
       have HRT:=Lib.hid hrt;clear hrt
       go_wp2_with (first|(at_builtin;refine own_append rfl _ _ 29 rfl H evd_ rfl atd_ atd_ Try.underlying29 hi0 hz0 hz1 hz2 rfl (by decide) rfl rfl (by unfold maxLen;omega) (by omega) ?_;clear H;intro v2 w H;try simp only[nrm,nrl,Value.cells]at H)|((with_reducible show @wpList _ _ _ ({dst:=_,op:=Op.buildSlice _ _ _,type:=_,pos:=_,after:=_,guard:=_}::_) _ _);refine own_build wtd_ _ _ _ rfl H (nodeC (rt.d) (.slice q2 rt.kids.length c2)) 31 (by intro W;simp only[List.map_toArray,List.map_cons,List.map_nil];(try simp only[pe]);exact run_kid1 _ _ W) ?_;clear H;intro bk w H;try simp only[nrm,nrl,Value.cells]at H)|((with_reducible refine gL ?_);refine aG H ?_)|(go_at_call 32;(with_reducible refine cht (hr4 _ _ H i_5) H (Still.at (i:=5) i_5) ?_);clear H;intro q2 c2 F2 w hF2 H))
       have hF3:∀ b,(F b∨F2 b)→w0.heap.size≤b:=fun b h=>h.elim (hF b) (fun h=>(hF2 b h).elim id (hGFl b))
       have H2:=(H.rowGrown (i:=4) (k:=6) (k2:=8) (xs:=xa) (ys:=xa++xi) i_4 i_6 i_8 ((xa++[(rt,q2,c2)])++[]) (fun x hx=>by
        rw[List.append_nil]at hx
        exact(List.mem_append.1 hx).imp (fun h=>List.mem_append.2 (.inl h)) List.mem_singleton.1)).addNil 31 10
       have HC:w.cell? ⟨pb,1,none⟩=some (.int .i64 ((j:Int)+1)):=H.cell .zero 1
       go_roundw
       case rel=>first|exact⟨j+1,g,k,f,xa++[(rt,q2,c2)],[],(fun b=>F b∨F2 b),by omega,by omega,by (try simp only[List.length_append,List.length_singleton,List.length_nil]);omega,by (try simp only[List.length_append,List.length_singleton,List.length_nil]);omega,hF3,Lib.hid ⟨by (try rw[List.map_append]);exact G2.out.1,G2.out.2⟩,H2.pick [0,1,2,3,4,11,10] _ (by decide) rfl⟩|((repeat apply Exists.intro);refine⟨?_,rfl⟩;exact⟨j+1,g,k,f,xa++[(rt,q2,c2)],[],(fun b=>F b∨F2 b),by omega,by omega,by (try simp only[List.length_append,List.length_singleton,List.length_nil]);omega,by (try simp only[List.length_append,List.length_singleton,List.length_nil]);omega,hF3,Lib.hid ⟨by (try rw[List.map_append]);exact G2.out.1,G2.out.2⟩,H2.pick [0,1,2,3,4,11,10] _ (by decide) rfl⟩)
       case measure=>rw[posM_of HM.out,posM_of HC];omega
      ·have d10:((d.kind:Int) == 10)=false:=by rw[beq_eq_false_iff_ne];omega
       by_cases h11:d.kind=11
       ·have d11:((d.kind:Int) == 11)=true:=by rw[beq_iff_eq];omega
        obtain⟨ys,x,rfl,hou⟩:=alts_last h11 (show altsP (k+1) f (d::ws.drop (j+1)) g (xa.map (·.1)) (xi.map (·.1))=some (t,r',g') by rw[← HD.out];exact G.out.1)
        have G2:=Lib.hid (show altsP k f (ws.drop (j+1)) g (xa.map (·.1)) (ys.map (·.1)++[repT d x.1])=some (t,r',g')∧k≤m from ⟨hou,by have:=G.out.2;omega⟩)
        clear hou h8 h9 h10 h11
        obtain⟨qi,ci,rfl,hqi1,hqi2,hqi3⟩:=H.rowShape (i:=5) i_5
        obtain⟨gI,rfl⟩:=hqi3 (by simp)
        clear hqi3
        have hxg:((ys++[x]).map nodeX)[ys.length]?=some (nodeX x):=by simp
        have HXG:=Lib.hid hxg;clear hxg
        have hyl:((ys++[x]).map nodeX).length=ys.length+1:=by simp
        have HYL:=Lib.hid hyl;clear hyl
        simp only[List.length_append,List.length_singleton]at H hqi1 hli
        unfold maxLen at hqi2
        go_wp2_with (first|((with_reducible refine gL ?_);refine own_loadK wtd_ _ _ rfl rfl row_Node (nodeX_size x) (H.rowCell (i:=5) i_5 (nodesX_size _) HYL.out HXG.out rfl) ?_)|((with_reducible refine gT ?_);refine own_storeRowR wtd_ _ _ _ rfl rfl (i:=ys.length) rfl evd_ H (j:=5) i_5 (nodesX_size _) HYL.out (by with_reducible exact row_size row_Node) rfl rfl (by omega) ?_;clear H;intro w H;try simp only[nrm,nrl,Value.cells]at H)|((with_reducible show @wpList _ _ _ ({dst:=_,op:=Op.buildSlice _ _ _,type:=_,pos:=_,after:=_,guard:=_}::_) _ _);refine own_build wtd_ _ _ _ rfl H (nodeC (x.1.d) (.slice x.2.1 x.1.kids.length x.2.2)) 31 (by intro W;simp only[List.map_toArray,List.map_cons,List.map_nil];(try simp only[pe]);exact run_kid1 _ _ W) ?_;clear H;intro bk w H;try simp only[nrm,nrl,Value.cells]at H)|(first|((with_reducible refine gT ?_);(refine aT H ?_;clear H;intro w H;try simp only[nrm,nrl,Value.cells]at H))|((with_reducible refine gL ?_);(first|refine aG H ?_|refine aD H ?_))|((with_reducible refine gA ?_);(refine bA H ?_;clear H;intro b w H;try simp only[nrm,nrl,Value.cells]at H))|((with_reducible refine gZ ?_);refine nbR ?_)))
        have e:=set_last (ys:=ys) (x:=x) (x':=((repT d x.1,some ⟨bk,0,none⟩,1):TV)) (c:=nodeC {kind:=6,lo:=d.lo,hi:=d.hi,lazy:=d.lazy} (.slice (some ⟨bk,0,none⟩) 1 1)) rfl
        rw[e]at H
        clear e
        have H1:=H.also F (fun V=>ForestR V F x.2.1 x.2.2 x.1.kids) (Still.at (i:=6) i_6) (fun V hV=>((H.kn (i:=6) i_6) x (by simp)).kept hV)
        have hbk:=H.freshB (i:=8) i_8
        have H3:=H1.kid (i:=9) (k:=10) i_9 i_10
        have hF3:∀ z,((z=bk∨F z)∨F z)→w0.heap.size≤z:=fun z h=>h.elim (fun h=>h.elim (fun e=>e ▸ hbk) (hF z)) (hF z)
        have H2:=H3.also (fun z=>(z=bk∨F z)∨F z) (fun V=>ListR V (fun z=>(z=bk∨F z)∨F z) (xa++(ys++[(repT d x.1,some ⟨bk,0,none⟩,1)]))) ((Still.at (i:=11) (F:=fun z=>z=bk∨F z) (S:=fun V=>ForestR V (fun z=>z=bk∨F z) (some ⟨bk,0,none⟩) 1 [x.1]) i_11).or (Still.at (i:=6) i_6)) (fun V hV y hy=>by
         have hold:∀ y,y ∈ xa++(ys++[x])→ForestR V (fun z=>(z=bk∨F z)∨F z) y.2.1 y.2.2 y.1.kids:=fun y hy=>(((H.kn (i:=6) i_6) y hy).mono (fun _ h=>.inr h)).kept hV
         rcases List.mem_append.1 hy with h|h
         ·exact hold y (List.mem_append.2 (.inl h))
         ·rcases List.mem_append.1 h with h|h
          ·exact hold y (List.mem_append.2 (.inr (List.mem_append.2 (.inl h))))
          ·rw[List.mem_singleton]at h;subst h
           exact(((H3.all 11 _ rfl).2 w (fun _ _=>rfl)).mono (fun _ h=>.inl h)).kept hV)
        have HC:w.cell? ⟨pb,1,none⟩=some (.int .i64 ((j:Int)+1)):=H.cell .zero 1
        go_roundw
        case rel=>first|exact⟨j+1,g,k,f,xa,ys++[(repT d x.1,some ⟨bk,0,none⟩,1)],(fun z=>(z=bk∨F z)∨F z),by omega,by omega,by (try simp only[List.length_append,List.length_singleton,List.length_nil]);omega,by (try simp only[List.length_append,List.length_singleton,List.length_nil]);omega,hF3,Lib.hid ⟨by (try rw[List.map_append]);exact G2.out.1,G2.out.2⟩,by rw[show (ys++[((repT d x.1,some ⟨bk,0,none⟩,1):TV)]).length=ys.length+1 from by simp];exact H2.pick [0,1,2,3,4,5,12] _ (by decide) rfl⟩|((repeat apply Exists.intro);refine⟨?_,rfl⟩;exact⟨j+1,g,k,f,xa,ys++[(repT d x.1,some ⟨bk,0,none⟩,1)],(fun z=>(z=bk∨F z)∨F z),by omega,by omega,by (try simp only[List.length_append,List.length_singleton,List.length_nil]);omega,by (try simp only[List.length_append,List.length_singleton,List.length_nil]);omega,hF3,Lib.hid ⟨by (try rw[List.map_append]);exact G2.out.1,G2.out.2⟩,by rw[show (ys++[((repT d x.1,some ⟨bk,0,none⟩,1):TV)]).length=ys.length+1 from by simp];exact H2.pick [0,1,2,3,4,5,12] _ (by decide) rfl⟩)
        case measure=>rw[posM_of HM.out,posM_of HC];omega
       ·have d11:((d.kind:Int) == 11)=false:=by rw[beq_eq_false_iff_ne];omega
        have hop:=fun w=>ref_opens d w
        cases ho:opensP d with
        | true =>
         rw[ho]at hop
         obtain⟨t1,d1,r1,g1,hin,hou⟩:=alts_open ho (show altsP (k+1) f (d::ws.drop (j+1)) g (xa.map (·.1)) (xi.map (·.1))=some (t,r',g') by rw[← HD.out];exact G.out.1)
         have hfa:=altsP_facts _ _ _ _ _ _ _ _ _ hin
         have hsuf:=drop_suffix HN.out (hfa.1.trans (List.drop_suffix _ _))
         have hl1:r1.length+1≤n - (j+1):=by have:=hfa.1.length_le;rw[List.length_drop,← HN.out]at this;exact this
         have hg1:g1+(r1.length+1)≤(if d.kind=7 then g else g+1)+(n - (j+1)):=by have:=hfa.2;rw[List.length_drop,← HN.out]at this;exact this
         have hgg:(if d.kind=7 then g else g+1)≤g+1:=by split<;>omega
         obtain⟨j',hj'⟩:∃ j',n - (r1.length+1)=j':=⟨_,rfl⟩
         have hd1:ws.drop (j'+1)=r1:=by
          have h1:ws.drop j'=d1::r1:=by rw[← hj'];exact hsuf
          rw[← List.drop_drop,h1];rfl
         have hkm:k<m:=by have:=G.out.2;omega
         have hgr:=fun w hP=>ref_group pb FW (some ⟨b,off,none⟩) n c ws (j+1) g f d t1 j' g1 w hP (by omega) (by omega) (by omega) (fun w h=>hj' ▸ IH k hkm (j+1) _ _ t1 (d1::r1) g1 w h hin)
         generalize htt:(if d.kind=7 then t1 else groupT (g+1) t1)=tt at hou hgr
         have G2:=Lib.hid (show altsP k f (ws.drop (j'+1)) g1 (xa.map (·.1)) (xi.map (·.1)++[tt])=some (t,r',g')∧k≤m from ⟨by rw[hd1];exact hou,by omega⟩)
         have hb1:j+1≤j':=by omega
         have hb2:j'<n:=by omega
         have hb3:g1≤j':=by omega
         have hpre:∀ (w:World) (l:List Res),HoldG (·=pb) w0 w (.blk pb #[.slice (some ⟨b,off,none⟩) n c,.int .i64 ((j:Int)+1),.int .i64 (g:Int)] 53::.kn FW (WKnows FW (some ⟨b,off,none⟩) n c ws)::l)→AltPre pb 53 FW (some ⟨b,off,none⟩) n c ws (j+1) g w:=fun w l h=>⟨(h.blk .zero).2,h.knlt i_1,HPN.out,h.kn i_1,HOK.out,hlen,hlt,by omega⟩
         clear hin hou hfa hsuf hl1 hg1 hgg hj' hd1 htt IH ho h8 h10 h11 h9
         go_wp2_with (first|(at_builtin;refine own_append rfl _ _ 29 rfl H evd_ rfl atd_ atd_ Try.underlying29 hi0 hz0 hz1 hz2 rfl (by decide) rfl rfl (by unfold maxLen;omega) (by omega) ?_;clear H;intro v2 w H;try simp only[nrm,nrl,Value.cells]at H)|((with_reducible show @wpList _ _ _ ({dst:=_,op:=Op.buildSlice _ _ _,type:=_,pos:=_,after:=_,guard:=_}::_) _ _);refine own_build wtd_ _ _ _ rfl H (nodeC (tt.d) (.slice q2 tt.kids.length m2)) 31 (by intro W;simp only[List.map_toArray,List.map_cons,List.map_nil];(try simp only[pe]);exact run_kid1 _ _ W) ?_;clear H;intro bk w H;try simp only[nrm,nrl,Value.cells]at H)|(first|((with_reducible refine gT ?_);(refine aT H ?_;clear H;intro w H;try simp only[nrm,nrl,Value.cells]at H))|((with_reducible refine gL ?_);(first|refine aG H ?_|refine aD H ?_))|((with_reducible refine gA ?_);(refine bA H ?_;clear H;intro b w H;try simp only[nrm,nrl,Value.cells]at H)))|(go_at_call 30;(with_reducible refine ch (hop _) H ?_);clear H;intro w H)|(go_at_call 33;(with_reducible refine chA (hgr _ (hpre _ _ H)) H .zero ?_);clear H;intro q2 m2 F2 w hF2 H;try simp only[nrm,nrl,Value.cells]at H))
         have H2:=H.rowGrown (i:=5) (k:=6) (k2:=8) (xs:=xi) (ys:=xa++xi) i_5 i_6 i_8 (xa++(xi++[(tt,q2,m2)])) (fun y hy=>by
          rcases List.mem_append.1 hy with h|h
          ·exact .inl (List.mem_append.2 (.inl h))
          ·exact(List.mem_append.1 h).imp (fun h=>List.mem_append.2 (.inr h)) List.mem_singleton.1)
         have hF3:∀ b,(F b∨F2 b)→w0.heap.size≤b:=fun b h=>h.elim (hF b) (hF2 b)
         have HC:w.cell? ⟨pb,1,none⟩=some (.int .i64 ((j':Int)+1)):=H.cell .zero 1
         go_roundw
         case rel=>first|exact⟨j'+1,g1,k,f,xa,xi++[(tt,q2,m2)],(fun b=>F b∨F2 b),by omega,by omega,by (try simp only[List.length_append,List.length_singleton,List.length_nil]);omega,by (try simp only[List.length_append,List.length_singleton,List.length_nil]);omega,hF3,Lib.hid ⟨by (try rw[List.map_append]);exact G2.out.1,G2.out.2⟩,H2.pick [0,1,2,3,4,5,11] _ (by decide) rfl⟩|((repeat apply Exists.intro);refine⟨?_,rfl⟩;exact⟨j'+1,g1,k,f,xa,xi++[(tt,q2,m2)],(fun b=>F b∨F2 b),by omega,by omega,by (try simp only[List.length_append,List.length_singleton,List.length_nil]);omega,by (try simp only[List.length_append,List.length_singleton,List.length_nil]);omega,hF3,Lib.hid ⟨by (try rw[List.map_append]);exact G2.out.1,G2.out.2⟩,H2.pick [0,1,2,3,4,5,11] _ (by decide) rfl⟩)
         case measure=>rw[posM_of HM.out,posM_of HC];omega
        | false =>
         rw[ho]at hop
         have h67:d.kind≠6∧d.kind≠7:=by simpa [opensP] using ho
         have G2:=Lib.hid (show altsP k f (ws.drop (j+1)) g (xa.map (·.1)) (xi.map (·.1)++[atomP d f])=some (t,r',g')∧k≤m from ⟨by rw[← alts_at h9 h8 h10 h11 h67.2 h67.1,← HD.out];exact G.out.1,by have:=G.out.2;omega⟩)
         clear h8 h9 h10 h11 h67 ho
         generalize hta:atomP d f=ta at G2
         have hat:∀ w,Calls Try.prog 34 #[wordV d,flagsV f] w fun e w'=>e=.returned (nodeV ta.d (.slice none ta.kids.length 0))∧Below w.heap.size w w':=fun w=>by
          have:=ref_atom f d hokd w
          rw[← hta,atomP_kids];exact this
         have hk0:ta.kids=[]:=by rw[← hta];exact atomP_kids d f
         have HK:=Lib.hid hk0;clear hk0 hta
         go_wp2_with (first|(at_builtin;refine own_append rfl _ _ 29 rfl H evd_ rfl atd_ atd_ Try.underlying29 hi0 hz0 hz1 hz2 rfl (by decide) rfl rfl (by unfold maxLen;omega) (by omega) ?_;clear H;intro v2 w H;try simp only[nrm,nrl,Value.cells]at H)|((with_reducible show @wpList _ _ _ ({dst:=_,op:=Op.buildSlice _ _ _,type:=_,pos:=_,after:=_,guard:=_}::_) _ _);refine own_build wtd_ _ _ _ rfl H (nodeC (ta.d) (.slice none ta.kids.length 0)) 31 (by intro W;simp only[List.map_toArray,List.map_cons,List.map_nil];(try simp only[pe]);exact run_kid1 _ _ W) ?_;clear H;intro bk w H;try simp only[nrm,nrl,Value.cells]at H)|((with_reducible refine gL ?_);(first|refine aG H ?_|refine aD H ?_))|(go_at_call 30;(with_reducible refine ch (hop _) H ?_);clear H;intro w H)|(go_at_call 34;(with_reducible refine ch (hat _) H ?_);clear H;intro w H))
         have H1:=H.know (fun _=>False) (fun V=>ForestR V (fun _=>False) none 0 ta.kids) (fun _ h=>h.elim) (fun _ _ _ _ _ h=>h) (fun V _=>by rw[HK.out];exact ForestR.nil _ _ _)
         have H2:=H1.rowGrown (i:=5) (k:=6) (k2:=9) (xs:=xi) (ys:=xa++xi) i_5 i_6 i_9 (xa++(xi++[(ta,none,0)])) (fun y hy=>by
          rcases List.mem_append.1 hy with h|h
          ·exact .inl (List.mem_append.2 (.inl h))
          ·exact(List.mem_append.1 h).imp (fun h=>List.mem_append.2 (.inr h)) List.mem_singleton.1)
         have hF3:∀ b,(F b∨False)→w0.heap.size≤b:=fun b h=>h.elim (hF b) False.elim
         have HC:w.cell? ⟨pb,1,none⟩=some (.int .i64 ((j:Int)+1)):=H.cell .zero 1
         go_roundw
         case rel=>first|exact⟨j+1,g,k,f,xa,xi++[(ta,none,0)],(fun b=>F b∨False),by omega,by omega,by (try simp only[List.length_append,List.length_singleton,List.length_nil]);omega,by (try simp only[List.length_append,List.length_singleton,List.length_nil]);omega,hF3,Lib.hid ⟨by (try rw[List.map_append]);exact G2.out.1,G2.out.2⟩,H2.pick [0,1,2,3,4,5,10] _ (by decide) rfl⟩|((repeat apply Exists.intro);refine⟨?_,rfl⟩;exact⟨j+1,g,k,f,xa,xi++[(ta,none,0)],(fun b=>F b∨False),by omega,by omega,by (try simp only[List.length_append,List.length_singleton,List.length_nil]);omega,by (try simp only[List.length_append,List.length_singleton,List.length_nil]);omega,hF3,Lib.hid ⟨by (try rw[List.map_append]);exact G2.out.1,G2.out.2⟩,H2.pick [0,1,2,3,4,5,10] _ (by decide) rfl⟩)
         case measure=>rw[posM_of HM.out,posM_of HC];omega
  ·have hdj:decide ((j:Int)<(n:Int))=false:=by simp;omega
   have E:=Lib.hid (show some (rowT 5 (xa.map (·.1)++[rowT 4 (xi.map (·.1))]),ws.drop j,g)=some (t,r',g') by
    rw[← G.out.1,show ws.drop j=[] from List.drop_eq_nil_of_le (by rw[← HN.out];omega),alts_nil])
   go_upto_region 2 with fail
   obtain⟨T,hT,fw,hf,h0⟩:=fam wr
   have e0:=fun x=>hp0 _ (hf x)
   have e1:=fun x=>hp1 _ (hf x)
   refine wp_region_fam fw (by kernel_rfl) (by kernel_rfl) h0 ?_
   repeat (go_big_quiet_step (fail))
   refine wpQuiet_nil ?_
   rintro _ ⟨x,rfl⟩
   replace H:=H.call (hf x)
   obtain⟨wq,hwq⟩:∃ wq,fw x=wq:=⟨_,rfl⟩
   rw[hwq]at H ⊢
   clear hwq e0 e1 h0 hf hp0 hp1
   clear x fw hT T
   obtain⟨qi,ci,rfl,hqi1,hqi2,_⟩:=H.rowShape (i:=5) i_5
   obtain⟨GF,hGF,H2⟩:=H.rowForest (i:=5) (xs:=xi) (K:=F) i_5 rfl (Still.at (i:=6) i_6) (fun x hx=>(H.kn (i:=6) i_6) x (List.mem_append.2 (.inr hx)))
   clear H
   have H:=H2;clear H2
   simp only[List.set_cons_succ,List.set_cons_zero]at H
   have hGFl:∀ b,GF b→w0.heap.size≤b:=fun b h=>(hGF b h).elim id (hF b)
   clear hGF
   generalize hrt:rowT 4 (xi.map (·.1))=rt at E
   have hr4:∀ (w:World) (l:List Res),HoldG (·=pb) w0 w l→At l 5 (.kn GF (fun V=>ForestR V GF qi ci (xi.map (·.1))))→Calls Try.prog 32 #[.int .i64 4,.slice qi xi.length ci] w fun e w'=>TreeOut w GF rt e w'∧Below w.heap.size w w':=fun w l h hi=>hrt ▸ ref_row10 4 qi ci xi.length GF (xi.map (·.1)) w (h.knlt hi) (h.kn hi) (by rw[List.length_map])
   have HRT:=Lib.hid hrt;clear hrt
   simp only[Option.some.injEq,Prod.mk.injEq]at E
   obtain⟨ht5,hr5',rfl⟩:=E
   have hjr:n - r'.length=j:=by rw[← hr5',List.length_drop,← HN.out];omega
   have hr5:∀ (w:World) (l:List Res) (qa:Option Addr) (ca:Nat) (G3:Nat→Prop),HoldG (·=pb) w0 w l→At l 4 (.kn G3 (fun V=>ForestR V G3 qa ca (xa.map (·.1)++[rt])))→Calls Try.prog 32 #[.int .i64 5,.slice qa (xa.length+1) ca] w fun e w'=>TreeOut w G3 t e w'∧Below w.heap.size w w':=fun w l qa ca G3 h hi=>ht5 ▸ ref_row10 5 qa ca (xa.length+1) G3 (xa.map (·.1)++[rt]) w (h.knlt hi) (h.kn hi) (by rw[List.length_append,List.length_map];rfl)
   have HJR:=Lib.hid hjr;clear hjr hr5' ht5 hli
   go_wp2_with (first|(at_builtin;refine own_append rfl _ _ 29 rfl H evd_ rfl atd_ atd_ Try.underlying29 hi0 hz0 hz1 hz2 rfl (by decide) rfl rfl (by unfold maxLen;omega) (by omega) ?_;clear H;intro v2 w H;try simp only[nrm,nrl,Value.cells]at H)|((with_reducible show @wpList _ _ _ ({dst:=_,op:=Op.buildSlice _ _ _,type:=_,pos:=_,after:=_,guard:=_}::_) _ _);refine own_build wtd_ _ _ _ rfl H (nodeC (rt.d) (.slice q2 rt.kids.length c2)) 31 (by intro W;simp only[List.map_toArray,List.map_cons,List.map_nil];(try simp only[pe]);exact run_kid1 _ _ W) ?_;clear H;intro bk w H;try simp only[nrm,nrl,Value.cells]at H)|((with_reducible refine gT ?_);(refine aT H ?_;clear H;intro w H;try simp only[nrm,nrl,Value.cells]at H))|(go_at_call 32;(with_reducible refine cht (hr4 _ _ H i_5) H (Still.at (i:=5) i_5) ?_);clear H;intro q2 c2 F2 w hF2 H)|(go_at_call 32;(obtain⟨qa,ca,G3,rfl,hG3,H3⟩:=H.rowForest1 (i:=4) (k:=6) (k2:=7) (xs:=xa) (ys:=xa++xi) i_4 i_6 (fun x hx=>List.mem_append.2 (.inl hx)) i_7);clear H;(have H:=H3);clear H3;(simp only[List.set_cons_succ,List.set_cons_zero]at H);(with_reducible refine cht (hr5 _ _ _ _ _ H i_4) H (Still.at (i:=4) i_4) ?_);clear H;intro q5 c5 F5 w hF5 H;try simp only[nrm,nrl,Value.cells]at H))
   (refine ret_c Try.results14 rfl H atd_ (by first|(with_reducible exact row_Node)|(with_reducible exact row_Set)|(with_reducible exact row_Flags)|(with_reducible exact row_Word)) (by rfl) rfl ?_)
   have hG3l:∀ b,G3 b→w0.heap.size≤b:=fun b h=>(hG3 b h).elim id (fun h=>h.elim (hF b) (fun h=>(hF2 b h).elim id (hGFl b)))
   rw[HJR.out]
   exact⟨H.keep,(H.blk .zero).2,q5,c5,F5,rfl,(H.all 9 _ rfl).2 _ (fun _ _=>rfl),fun b h=>⟨(H.all 9 _ rfl).1 b h,.inl ((hF5 b h).elim id (hG3l b))⟩⟩
end Go.Proofs.Ytdoflhjhaciepaa
namespace Go.Proofs.Ytdoflhjhaciepaa
open Go.RowKit
theorem classGo_ok {L:Str}:∀ (f k:Nat) (first:Bool) (S:Nat→Nat) (T:Nat→Nat) (e:Nat),SetOk S→classGo L f k first S=some (T,e)→SetOk T
 | 0,_,_,_,_,_,_,h=>by simp[classGo]at h
 | f+1,k,first,S,T,e,hS,h=>by
  unfold classGo at h
  split at h
  ·cases h;exact hS
  ·split at h
   ·cases h
   ·rename_i t e1 hi
    exact classGo_ok f e1 false _ T e (unionS_ok (ok2 hS (itemP_le hi).2.2)) h
theorem classP_ok {L:Str} {i:Nat} {d:WordD} {e:Nat} (h:classP L i=some (d,e)):SetOk d.set:=by
 unfold classP at h
 obtain⟨⟨S,e1⟩,h1,h2⟩:=Option.map_eq_some_iff.1 h
 cases h2
 exact classGo_ok _ _ _ _ _ _ emptyS_ok h1
theorem flagsGo_set {L:Str}:∀ (f k:Nat) (off opn:Bool) (w d:WordD) (e:Nat),flagsGo L f k off opn w=some (d,e)→d.set=w.set
 | 0,_,_,_,_,_,_,h=>by simp[flagsGo]at h
 | f+1,k,off,opn,w,d,e,h=>by
  unfold flagsGo at h
  have IH:=fun k off opn w=>flagsGo_set (L:=L) f k off opn w d e
  dsimp only at h
  split at h
  ·split at h
   ·rw[IH _ _ _ _ h];split<;>rfl
   split at h
   ·rw[IH _ _ _ _ h];split<;>rfl
   split at h
   ·rw[IH _ _ _ _ h];split<;>rfl
   split at h
   ·split at h
    ·cases h
    ·exact IH _ _ _ _ h
   split at h
   ·split at h
    ·cases h;rfl
    ·cases h
   split at h
   ·split at h
    ·cases h;rfl
    ·cases h
   ·cases h
  ·cases h
theorem slashP_ok {L:Str} {i:Nat} {d:WordD} {e:Nat} (h:slashP L i=some (d,e)):SetOk d.set:=by
 unfold slashP at h
 split at h
 ·rename_i s hs
  cases h
  split at hs
  ·exact sortP_ok hs
  ·cases hs
 ·split at h
  ·cases h;exact emptyS_ok
  ·obtain⟨⟨b,e1⟩,h1,h2⟩:=Option.map_eq_some_iff.1 h
   cases h2;exact ofS_ok _
theorem repeatP_ok {L:Str} {i:Nat} {lo hi:Int} {k e:Nat} {d:WordD} (h:repeatP L i lo hi k=.ok (d,e)):SetOk d.set:=by
 unfold repeatP at h
 split at h
 ·cases h
 ·split at h<;>(cases h;exact emptyS_ok)
theorem orErr_some {α:Type} {o:Option α} {a:α} (h:orErr o=.ok a):o=some a:=by cases o<;>simp[orErr]at h ⊢;exact h
theorem wordP_set {L:Str} {i:Nat} {d:WordD} {e:Nat} (h:wordP L i=.ok (d,e)):SetOk d.set:=by
 unfold wordP at h
 dsimp only at h
 split at h
 ·exact slashP_ok (orErr_some h)
 split at h
 ·exact classP_ok (orErr_some h)
 split at h
 ·split at h
  ·have h:=orErr_some h
   unfold flagsP at h
   rw[flagsGo_set _ _ _ _ _ _ _ h];exact emptyS_ok
  ·cases h;exact emptyS_ok
 split at h
 ·split at h
  ·exact repeatP_ok h
  ·cases h;exact ofS_ok _
 split at h
 ·exact repeatP_ok h
 split at h
 ·exact repeatP_ok h
 split at h
 ·exact repeatP_ok h
 split at h
 ·cases h;exact emptyS_ok
 ·cases h;exact ofS_ok _
theorem wordsGo_set {L:Str}:∀ (f i:Nat) (ws:List WordD),wordsGo L f i=.ok ws→∀ d ∈ ws,SetOk d.set
 | 0,i,ws,h=>by
  unfold wordsGo at h
  split at h
  ·cases h
  ·cases h;intro d hd;cases hd
 | f+1,i,ws,h=>by
  unfold wordsGo at h
  split at h
  ·split at h
   ·cases h
   ·rename_i w j hw
    split at h
    ·cases h
    ·rename_i l hl
     cases h
     intro d hd
     rcases List.mem_cons.1 hd with rfl|hd
     ·exact wordP_set hw
     ·exact wordsGo_set f j l hl d hd
  ·cases h;intro d hd;cases hd
theorem wordsGo_length {L:Str}:∀ (f i:Nat) (ws:List WordD),wordsGo L f i=.ok ws→ws.length≤f
 | 0,i,ws,h=>by
  unfold wordsGo at h
  split at h
  ·cases h
  ·cases h;simp
 | f+1,i,ws,h=>by
  unfold wordsGo at h
  split at h
  ·split at h
   ·cases h
   ·rename_i w j hw
    split at h
    ·cases h
    ·rename_i l hl
     cases h
     have:=wordsGo_length f j l hl
     simp;omega
  ·cases h;simp
theorem size_row (k:Int) (ts:List Tree):sizeT (rowT k ts)≤1+sizeTs ts:=by
 unfold rowT
 split
 ·simp[leafT,sizeT,sizeTs]
 ·simp[sizeTs]
 ·simp[sizeT]
theorem size_atom (d:WordD) (f:FlagsD):sizeT (atomP d f)=1:=by
 have:(atomP d f).kids=[]:=by
  unfold atomP setT spotT leafT
  repeat' split
  all_goals first|rfl|(dsimp only;repeat' split)<;>rfl
 rw[sizeT_eq,this];rfl
theorem altsP_size:∀ (m:Nat) (f:FlagsD) (r:List WordD) (g:Nat) (all items:List Tree) (t:Tree) (r':List WordD) (g':Nat),altsP m f r g all items=some (t,r',g')→sizeT t+3 * r'.length≤3 * r.length+sizeTs all+sizeTs items+2
 | 0,f,r,g,all,items,t,r',g',h=>by simp[altsP]at h
 | m+1,f,[],g,all,items,t,r',g',h=>by
  simp only[altsP,Option.some.injEq,Prod.mk.injEq]at h
  obtain⟨rfl,rfl,rfl⟩:=h
  have a:=size_row 5 (all++[rowT 4 items])
  have b:=size_row 4 items
  rw[sizeTs_append,sizeTs_one]at a
  simp only[List.length_nil];omega
 | m+1,f,w::r,g,all,items,t,r',g',h=>by
  have IH:=altsP_size m
  unfold altsP at h
  split at h
  ·simp only[Option.some.injEq,Prod.mk.injEq]at h
   obtain⟨rfl,rfl,rfl⟩:=h
   have a:=size_row 5 (all++[rowT 4 items])
   have b:=size_row 4 items
   rw[sizeTs_append,sizeTs_one]at a
   simp only[List.length_cons];omega
  split at h
  ·have:=IH _ _ _ _ _ _ _ _ h
   simp only[List.length_cons];omega
  split at h
  ·have a:=IH _ _ _ _ _ _ _ _ h
   have b:=size_row 4 items
   rw[sizeTs_append,sizeTs_one]at a
   simp only[List.length_cons,sizeTs]at *;omega
  split at h
  ·split at h
   ·cases h
   ·rename_i last hl
    have a:=IH _ _ _ _ _ _ _ _ h
    rcases List.eq_nil_or_concat items with rfl|⟨ys,y,rfl⟩
    ·simp at hl
    ·simp at hl
     subst hl
     simp only[List.concat_eq_append,List.dropLast_concat,sizeTs_append,sizeTs_one]at *
     have:sizeT (repT w y)=1+sizeT y:=by simp[repT,sizeT,sizeTs]
     simp only[List.length_cons];omega
  split at h
  ·split at h
   ·rename_i t1 d1 r1 g1 h1
    have a:=IH _ _ _ _ _ _ _ _ h1
    have b:=IH _ _ _ _ _ _ _ _ h
    rw[sizeTs_append,sizeTs_one]at b
    simp only[List.length_cons,sizeTs]at *;omega
   ·cases h
  split at h
  ·split at h
   ·rename_i t1 d1 r1 g1 h1
    have a:=IH _ _ _ _ _ _ _ _ h1
    have b:=IH _ _ _ _ _ _ _ _ h
    rw[sizeTs_append,sizeTs_one]at b
    have:sizeT (groupT (g+1) t1)=1+sizeT t1:=by simp[groupT,sizeT,sizeTs]
    simp only[List.length_cons,sizeTs]at *;omega
   ·cases h
  ·have a:=IH _ _ _ _ _ _ _ _ h
   rw[sizeTs_append,sizeTs_one,size_atom]at a
   simp only[List.length_cons];omega
theorem altsP_tail:∀ (m:Nat) (f:FlagsD) (r:List WordD) (g:Nat) (all items:List Tree) (t:Tree) (r':List WordD) (g':Nat),altsP m f r g all items=some (t,r',g')→r'.length≤r.length
 | 0,f,r,g,all,items,t,r',g',h=>by simp[altsP]at h
 | m+1,f,[],g,all,items,t,r',g',h=>by
  simp only[altsP,Option.some.injEq,Prod.mk.injEq]at h
  obtain⟨_,rfl,rfl⟩:=h;exact Nat.le_refl _
 | m+1,f,w::r,g,all,items,t,r',g',h=>by
  have IH:=altsP_tail m
  unfold altsP at h
  simp only[List.length_cons]
  split at h
  ·simp only[Option.some.injEq,Prod.mk.injEq]at h
   obtain⟨_,rfl,rfl⟩:=h;simp
  split at h
  ·have:=IH _ _ _ _ _ _ _ _ h;omega
  split at h
  ·have:=IH _ _ _ _ _ _ _ _ h;omega
  split at h
  ·split at h
   ·cases h
   ·have:=IH _ _ _ _ _ _ _ _ h;omega
  split at h
  ·split at h
   ·rename_i h1;have:=IH _ _ _ _ _ _ _ _ h1;have:=IH _ _ _ _ _ _ _ _ h;simp only[List.length_cons]at *;omega
   ·cases h
  split at h
  ·split at h
   ·rename_i h1;have:=IH _ _ _ _ _ _ _ _ h1;have:=IH _ _ _ _ _ _ _ _ h;simp only[List.length_cons]at *;omega
   ·cases h
  ·have:=IH _ _ _ _ _ _ _ _ h;omega
theorem alts_some:∀ (m:Nat) (r:List WordD) (bare:Bool) (op:List Nat) (f:FlagsD) (g:Nat) (all items:List Tree),r.length<m→wrongGo bare op r=none→(bare=false→items≠[]) →
  ∃ t r' g',altsP m f r g all items=some (t,r',g')∧((op=[]∧r'=[])∨(op≠[]∧∃ d r2,r'=d::r2∧wrongGo false op.dropLast r2=none))
 | 0,r,_,_,_,_,_,_,h,_,_=>by omega
 | m+1,[],bare,op,f,g,all,items,_,hw,_=>by
  refine⟨_,_,_,by simp only[altsP];rfl,.inl ⟨?_,rfl⟩⟩
  simpa [wrongGo] using hw
 | m+1,w::r,bare,op,f,g,all,items,hm,hw,hi=>by
  have IH:=alts_some m
  simp only[List.length_cons]at hm
  unfold wrongGo at hw
  split at hw
  ·cases hw
  rename_i hc
  dsimp only at hw
  unfold altsP
  by_cases h9:w.kind=9
  ·rw[if_pos h9]
   have ho:opensP w=false:=by simp[opensP,h9]
   refine⟨_,_,_,rfl,.inr ⟨fun e=>hc (.inr ⟨h9,e⟩),w,r,rfl,?_⟩⟩
   simpa [ho,h9] using hw
  rw[if_neg h9]
  rw[if_neg h9]at hw
  by_cases h8:w.kind=8
  ·rw[if_pos h8]
   have ho:opensP w=false:=by simp[opensP,h8]
   refine IH r true op _ g all items (by omega) (by simpa [ho,h8] using hw) (fun h=>by cases h)
  rw[if_neg h8]
  by_cases h10:w.kind=10
  ·rw[if_pos h10]
   have ho:opensP w=false:=by simp[opensP,h10]
   exact IH r true op _ g _ [] (by omega) (by simpa [ho,h10] using hw) (fun h=>by cases h)
  rw[if_neg h10]
  by_cases h11:w.kind=11
  ·rw[if_pos h11]
   have ho:opensP w=false:=by simp[opensP,h11]
   have hb:bare=false:=by
    cases bare with
    | false=>rfl
    | true=>exact(hc (.inl ⟨h11,rfl⟩)).elim
   have hne:=hi hb
   rw[List.getLast?_eq_some_getLast hne]
   exact IH r true op _ g _ _ (by omega) (by simpa [ho,h11] using hw) (fun h=>by cases h)
  rw[if_neg h11]
  have inner:∀ (f':FlagsD) (g1:Nat),opensP w=true→∃ t1 d1 r1 g2,altsP m f' r g1 [] []=some (t1,d1::r1,g2)∧wrongGo false op r1=none∧r1.length<m:=fun f' g1 ho=>by
   obtain⟨t1,r',g2,h1,h2⟩:=IH r true (op++[w.place]) f' g1 [] [] (by omega) (by simpa [ho] using hw) (fun h=>by cases h)
   rcases h2 with ⟨h2,_⟩|⟨_,d1,r1,rfl,h3⟩
   ·simp at h2
   ·refine⟨t1,d1,r1,g2,h1,by simpa using h3,?_⟩
    have:=altsP_tail _ _ _ _ _ _ _ _ _ h1
    simp only[List.length_cons]at this;omega
  by_cases h7:w.kind=7
  ·rw[if_pos h7]
   obtain⟨t1,d1,r1,g2,h1,h2,h3⟩:=inner (turnP f w) g (by simp[opensP,h7])
   rw[h1]
   exact IH r1 false op f g2 all _ h3 h2 (fun _=>by simp)
  rw[if_neg h7]
  by_cases h6:w.kind=6
  ·rw[if_pos h6]
   obtain⟨t1,d1,r1,g2,h1,h2,h3⟩:=inner f (g+1) (by simp[opensP,h6])
   rw[h1]
   exact IH r1 false op f g2 all _ h3 h2 (fun _=>by simp)
  rw[if_neg h6]
  have ho:opensP w=false:=by simp[opensP,h6,h7]
  have e8:(w.kind == 8)=false:=by simpa using h8
  have e10:(w.kind == 10)=false:=by simpa using h10
  have e11:(w.kind == 11)=false:=by simpa using h11
  exact IH r false op f g all _ (by omega) (by simpa [ho,e8,e10,e11] using hw) (fun _=>by simp)
theorem alts_right {ws:List WordD} (f:FlagsD) (h:wrongP ws=none):∃ t g,altsP (ws.length+1) f ws 0 [] []=some (t,[],g):=by
 obtain⟨t,r',g,h1,h2⟩:=alts_some (ws.length+1) ws true [] f 0 [] [] (by omega) h (fun h=>by cases h)
 rcases h2 with ⟨_,rfl⟩|⟨h,_⟩
 ·exact⟨t,g,h1⟩
 ·exact(h rfl).elim
end Go.Proofs.Ytdoflhjhaciepaa
namespace Go.Proofs.Ytdoflhjhaciepaa
open Go.RowKit Go.Shelf
attribute [local go_sem] Oper.semAt_some
theorem named_word (w0:World):Calls Try.prog 90 #[.string ⟨#[119,111,114,100]⟩] w0 fun e w'=>e=.returned (.tuple #[setV wordS,.bool true])∧Below w0.heap.size w0 w':=ref_named [119,111,114,100] w0
theorem named_alnum (w0:World):Calls Try.prog 90 #[.string ⟨#[97,108,110,117,109]⟩] w0 fun e w'=>e=.returned (.tuple #[setV alnumS,.bool true])∧Below w0.heap.size w0 w':=ref_named [97,108,110,117,109] w0
theorem sort_100 {c:Nat} (h:((c:Int) == 100)=true):sortP c=some digitS:=by obtain rfl:c=100:=(by have:=beq_iff_eq.1 h;omega);rfl
theorem sort_119 {c:Nat} (h:((c:Int) == 119)=true):sortP c=some wordS:=by obtain rfl:c=119:=(by have:=beq_iff_eq.1 h;omega);rfl
theorem sort_115 {c:Nat} (h:((c:Int) == 115)=true):sortP c=some (ofS [9,10,12,13,32]):=by obtain rfl:c=115:=(by have:=beq_iff_eq.1 h;omega);rfl
theorem sort_68 {c:Nat} (h:((c:Int) == 68)=true):sortP c=some (notS digitS):=by obtain rfl:c=68:=(by have:=beq_iff_eq.1 h;omega);rfl
theorem sort_87 {c:Nat} (h:((c:Int) == 87)=true):sortP c=some (notS wordS):=by obtain rfl:c=87:=(by have:=beq_iff_eq.1 h;omega);rfl
theorem sort_83 {c:Nat} (h:((c:Int) == 83)=true):sortP c=some (notS (ofS [9,10,12,13,32])):=by obtain rfl:c=83:=(by have:=beq_iff_eq.1 h;omega);rfl
theorem nei {c:Nat} {n:Nat} (h:((c:Int) == (n:Int))=false):(c == n)=false:=by
 rw[beq_eq_false_iff_ne]at h ⊢;omega
theorem sort_no {c:Nat} (h1:((c:Int) == 100)=false) (h2:((c:Int) == 119)=false) (h3:((c:Int) == 115)=false) (h4:((c:Int) == 68)=false) (h5:((c:Int) == 87)=false) (h6:((c:Int) == 83)=false):sortP c=none:=by
 simp[sortP,sortsL,List.find?_cons,nei (n:=100) h1,nei (n:=119) h2,nei (n:=115) h3,nei (n:=68) h4,nei (n:=87) h5,nei (n:=83) h6]
theorem ref_sort (c:Nat) (hc:c<256) (w0:World):Calls Try.prog 79 #[.int .u8 c] w0 fun e w'=>e=.returned (setO (sortP c))∧Below w0.heap.size w0 w':=by
 have H:=Hold.start w0
 go_enter Try.func79,Try.ntmps79
 go_wp2_with (first|(first|((with_reducible refine gT ?_);(refine aS H ?_;clear H;intro w H;try simp only[nrm,nrl,Value.cells]at H))|((with_reducible refine gL ?_);refine aL H ?_)|((with_reducible refine gA ?_);(refine bA H ?_;clear H;intro b w H;try simp only[nrm,nrl,Value.cells]at H))|((with_reducible refine gZ ?_);refine aZ ?_))|(go_at_call 90;(with_reducible refine ch (named_word _) H ?_);clear H;intro w H)|((with_reducible show @wpList _ _ _ ({dst:=_,op:=Op.buildSlice _ _ _,type:=_,pos:=_,after:=_,guard:=_}::_) _ _);refine own_build wtd_ _ _ _ rfl H (#[.int .u8 9,.int .u8 10,.int .u8 12,.int .u8 13,.int .u8 32]) 5 (by intro W;simp only[List.map_toArray,List.map_cons,List.map_nil];(try simp only[pe]);(try unfold setV);simp[go_sem]<;>rfl) ?_;clear H;intro b w H;try simp only[nrm,nrl,Value.cells]at H)|(go_at_call 61;(with_reducible refine ch (ref_Of _ [9,10,12,13,32] (by simp) _ (H.rdn (cs:=[.int .u8 9,.int .u8 10,.int .u8 12,.int .u8 13,.int .u8 32]) atd_ (by simp) (by simp[maxLen]))) H ?_);clear H;intro w H)|(go_at_call 91;(with_reducible refine ch (ref_digits _) H ?_);clear H;intro w H)|(go_at_call 58;(with_reducible refine ch (ref_Not digitS digitS_ok _) H ?_);clear H;intro w H)|(go_at_call 58;(with_reducible refine ch (ref_Not wordS wordS_ok _) H ?_);clear H;intro w H)|(go_at_call 58;(with_reducible refine ch (ref_Not (ofS [9,10,12,13,32]) (ofS_ok _) _) H ?_);clear H;intro w H))
 all_goals
  (refine ret_ctS Try.results79 rfl (by first|rfl|(simp only[pl];rfl)) H atd_ (by with_reducible exact row_Set) rfl ?_)
  first|exact⟨congrArg _ (setO_none (sort_no (by assumption) (by assumption) (by assumption) (by assumption) (by assumption) (by assumption))),H.below⟩|exact⟨congrArg _ (setO_some (sort_100 (by assumption))),H.below⟩|exact⟨congrArg _ (setO_some (sort_119 (by assumption))),H.below⟩|exact⟨congrArg _ (setO_some (sort_115 (by assumption))),H.below⟩|exact⟨congrArg _ (setO_some (sort_68 (by assumption))),H.below⟩|exact⟨congrArg _ (setO_some (sort_87 (by assumption))),H.below⟩|exact⟨congrArg _ (setO_some (sort_83 (by assumption))),H.below⟩
def numV:Option (Nat × Nat)→Value
 | some (n,k)=>.tuple #[.int .i64 n,.int .i64 k]
 | none=>.tuple #[.int .i64 0,.int .i64 (-1)]
def escV:Option (Nat × Nat)→Value
 | some (b,e)=>.tuple #[.int .u8 b,.int .i64 e]
 | none=>.tuple #[.int .u8 0,.int .i64 (-1)]
theorem ref_number (L:Str) (i:Nat) (hL:L.length≤2000) (hi:i≤L.length) (w0:World):Calls Try.prog 83 #[.string ⟨L.toArray⟩,.int .i64 i] w0 fun e w' =>
  e=.returned (numV (numberP L i))∧Below w0.heap.size w0 w':=by
 have H:=Hold.start w0
 go_enter Try.func83,Try.ntmps83
 go_wp2_with (first|fail)
 go_loopw [6,7] (fun n k wr=>∃ j:Nat,i≤j∧j≤L.length∧k=.int .i64 j∧n=.int .i64 (numF ((L.drop i).take (j - i)):Nat)∧Hid (((L.drop i).take (j - i)).all isDigit=true)∧Hold w0 wr []) (fun _ k _=>L.length+1 - (intOf k).toNat)
 case atStart=>exact⟨i,by omega,by omega,rfl,by simp[numF],Lib.hid (by simp),H⟩
 case round =>
  clear H
  obtain⟨j,hij,hj,rfl,rfl,G,H⟩:=hrel
  have hb:=byt_lt L j
  have hnle:=numF_le ((L.drop i).take (j - i))
  have EX:∀ he:(j<L.length→digB (byt L j)=false),numberP L i=if j=i∨(i+1<j∧byt L i=48) then none else some (numF ((L.drop i).take (j - i)),j):=fun he=>numberP_eq hij hj G.out he
  have ST:∀ hlt:j<L.length,numF ((L.drop i).take (j+1 - i))=min (10 * numF ((L.drop i).take (j - i))+(byt L j - 48)) 101:=fun hlt=>num_step hij hlt
  generalize hn:numF ((L.drop i).take (j - i))=n at hnle EX ST
  clear hn
  have EX2:=Lib.hid EX;clear EX
  have ST2:=Lib.hid ST;clear ST
  by_cases hlt:j<L.length
  ·by_cases h48:48≤byt L j
   ·by_cases h57:byt L j≤57
    ·have hd:decide ((j:Int)<(L.length:Int))=true:=by simp;omega
     have hw1:IntKind.u8.wrap ((byt L j:Int) - 48)=(byt L j:Int) - 48:=by rw[IntKind.wrap_u8];omega
     go_wp2_with (first|((with_reducible refine gI ?_);refine aI ?_))
     go_roundw
     case rel=>exact⟨j+1,by omega,by omega,by go_num,by rw[ST2.out hlt];congr 1;omega,Lib.hid (dig_step hij hlt G.out (by simp[digB];omega)),H⟩
     case measure=>simp[intOf];omega
    ·have g57:decide ((byt L j:Int)≤57)=false:=by simp;omega
     have g48:decide (48≤(byt L j:Int))=true:=by simp;omega
     have hd:decide ((j:Int)<(L.length:Int))=true:=by simp;omega
     have HE:=EX2.out (fun _=>by simp[digB];omega)
     by_cases e1:j=i
     ·subst e1
      have d1:((j:Int) == (j:Int))=true:=by simp
      rw[if_pos (.inl rfl)]at HE
      have HX:=Lib.hid HE;clear HE
      go_wp2_with (first|((with_reducible refine gI ?_);refine aI ?_))
      go_ret2
      exact⟨by rw[HX.out];rfl,H.below⟩
     ·have d1:((j:Int) == (i:Int))=false:=by rw[beq_eq_false_iff_ne];omega
      by_cases e2:byt L i=48
      ·have d2:((byt L i:Int) == 48)=true:=by rw[beq_iff_eq];omega
       by_cases e3:i+1<j
       ·have d3:decide ((i:Int)+1<(j:Int))=true:=by simp;omega
        rw[if_pos (.inr ⟨e3,e2⟩)]at HE
        have HX:=Lib.hid HE;clear HE
        clear e2
        go_wp2_with (first|((with_reducible refine gI ?_);refine aI ?_))
        go_ret2
        exact⟨by rw[HX.out];rfl,H.below⟩
       ·have d3:decide ((i:Int)+1<(j:Int))=false:=by simp;omega
        rw[if_neg (by omega)]at HE
        have HX:=Lib.hid HE;clear HE
        clear e2
        go_wp2_with (first|((with_reducible refine gI ?_);refine aI ?_))
        go_ret2
        exact⟨by rw[HX.out];rfl,H.below⟩
      ·have d2:((byt L i:Int) == 48)=false:=by rw[beq_eq_false_iff_ne];omega
       rw[if_neg (by omega)]at HE
       have HX:=Lib.hid HE;clear HE
       clear e2
       go_wp2_with (first|((with_reducible refine gI ?_);refine aI ?_))
       go_ret2
       exact⟨by rw[HX.out];rfl,H.below⟩
   ·have g48:decide (48≤(byt L j:Int))=false:=by simp;omega
    have hd:decide ((j:Int)<(L.length:Int))=true:=by simp;omega
    have HE:=EX2.out (fun _=>by simp[digB];omega)
    by_cases e1:j=i
    ·subst e1
     have d1:((j:Int) == (j:Int))=true:=by simp
     rw[if_pos (.inl rfl)]at HE
     have HX:=Lib.hid HE;clear HE
     go_wp2_with (first|((with_reducible refine gI ?_);refine aI ?_))
     go_ret2
     exact⟨by rw[HX.out];rfl,H.below⟩
    ·have d1:((j:Int) == (i:Int))=false:=by rw[beq_eq_false_iff_ne];omega
     by_cases e2:byt L i=48
     ·have d2:((byt L i:Int) == 48)=true:=by rw[beq_iff_eq];omega
      by_cases e3:i+1<j
      ·have d3:decide ((i:Int)+1<(j:Int))=true:=by simp;omega
       rw[if_pos (.inr ⟨e3,e2⟩)]at HE
       have HX:=Lib.hid HE;clear HE
       clear e2
       go_wp2_with (first|((with_reducible refine gI ?_);refine aI ?_))
       go_ret2
       exact⟨by rw[HX.out];rfl,H.below⟩
      ·have d3:decide ((i:Int)+1<(j:Int))=false:=by simp;omega
       rw[if_neg (by omega)]at HE
       have HX:=Lib.hid HE;clear HE
       clear e2
       go_wp2_with (first|((with_reducible refine gI ?_);refine aI ?_))
       go_ret2
       exact⟨by rw[HX.out];rfl,H.below⟩
     ·have d2:((byt L i:Int) == 48)=false:=by rw[beq_eq_false_iff_ne];omega
      rw[if_neg (by omega)]at HE
      have HX:=Lib.hid HE;clear HE
      clear e2
      go_wp2_with (first|((with_reducible refine gI ?_);refine aI ?_))
      go_ret2
      exact⟨by rw[HX.out];rfl,H.below⟩
  ·have hd:decide ((j:Int)<(L.length:Int))=false:=by simp;omega
   have HE:=EX2.out (fun h=>absurd h hlt)
   by_cases e1:j=i
   ·subst e1
    have d1:((j:Int) == (j:Int))=true:=by simp
    rw[if_pos (.inl rfl)]at HE
    have HX:=Lib.hid HE;clear HE
    go_wp2_with (first|fail)
    go_ret2
    exact⟨by rw[HX.out];rfl,H.below⟩
   ·have d1:((j:Int) == (i:Int))=false:=by rw[beq_eq_false_iff_ne];omega
    by_cases e2:byt L i=48
    ·have d2:((byt L i:Int) == 48)=true:=by rw[beq_iff_eq];omega
     by_cases e3:i+1<j
     ·have d3:decide ((i:Int)+1<(j:Int))=true:=by simp;omega
      rw[if_pos (.inr ⟨e3,e2⟩)]at HE
      have HX:=Lib.hid HE;clear HE
      clear e2
      go_wp2_with (first|((with_reducible refine gI ?_);refine aI ?_))
      go_ret2
      exact⟨by rw[HX.out];rfl,H.below⟩
     ·have d3:decide ((i:Int)+1<(j:Int))=false:=by simp;omega
      rw[if_neg (by omega)]at HE
      have HX:=Lib.hid HE;clear HE
      clear e2
      go_wp2_with (first|((with_reducible refine gI ?_);refine aI ?_))
      go_ret2
      exact⟨by rw[HX.out];rfl,H.below⟩
    ·have d2:((byt L i:Int) == 48)=false:=by rw[beq_eq_false_iff_ne];omega
     rw[if_neg (by omega)]at HE
     have HX:=Lib.hid HE;clear HE
     clear e2
     go_wp2_with (first|((with_reducible refine gI ?_);refine aI ?_))
     go_ret2
     exact⟨by rw[HX.out];rfl,H.below⟩
def plainL:Str:=[110,116,114,102,118,97]
def plainB:List Nat:=[10,9,13,12,11,7]
theorem plain_hit {c k:Nat} (hk:k<6) (h:c=byt plainL k):plainP c=some (plainB.getD k 0):=by
 subst h
 match k,hk with
 | 0,_=>rfl
 | 1,_=>rfl
 | 2,_=>rfl
 | 3,_=>rfl
 | 4,_=>rfl
 | 5,_=>rfl
theorem plain_none {c:Nat} (h:∀ m,m<6→c≠byt plainL m):plainP c=none:=by
 have h0:c≠110:=h 0 (by omega)
 have h1:c≠116:=h 1 (by omega)
 have h2:c≠114:=h 2 (by omega)
 have h3:c≠102:=h 3 (by omega)
 have h4:c≠118:=h 4 (by omega)
 have h5:c≠97:=h 5 (by omega)
 unfold plainP
 rw[if_neg h0,if_neg h1,if_neg h2,if_neg h3,if_neg h4,if_neg h5]
theorem hexP_le {c h:Nat} (e:hexP c=some h):h≤15:=by
 unfold hexP at e
 split at e
 ·cases e;omega
 ·split at e
  ·cases e;omega
  ·split at e
   ·cases e;omega
   ·cases e
theorem ref_escape (L:Str) (i:Nat) (hL:L.length≤2000) (hi:i≤L.length) (w0:World):Calls Try.prog 80 #[.string ⟨L.toArray⟩,.int .i64 i] w0 fun e w'=>e=.returned (escV (escP L i))∧Below w0.heap.size w0 w':=by
 have H:=Hold.start w0
 by_cases hlt:i+1<L.length
 ·have hd:decide ((L.length:Int)≤(i:Int)+1)=false:=by simp;omega
  have hb:=byt_lt L (i+1)
  have ES:escP L i=escP L i:=rfl
  conv at ES=>rhs;unfold escP
  rw[if_pos hlt]at ES
  generalize hc:byt L (i+1)=c at hb ES
  have HC:=Lib.hid hc
  have E2:=Lib.hid ES;clear ES
  go_enter Try.func80,Try.ntmps80
  go_wp2_with (first|((with_reducible refine gI ?_);refine aI ?_))
  clear hc
  go_loopw [8] (fun k wr=>∃ j:Nat,j≤6∧k=.int .i64 j∧Hid (∀ m,m<j→c≠byt plainL m)∧Hold w0 wr []) (fun k _=>7 - (intOf k).toNat)
  case atStart=>exact⟨0,by omega,rfl,Lib.hid (fun m hm=>by omega),H⟩
  case round =>
   clear H
   obtain⟨j,hj,rfl,G,H⟩:=hrel
   by_cases hj6:j<6
   ·have hd6:decide ((j:Int)<6)=true:=by simp;omega
    by_cases hit:c=byt plainL j
    ·have he:=plain_hit hj6 hit
     have he2:=E2.out
     rw[he]at he2
     simp only[]at he2
     have E3:=Lib.hid he2;clear he he2
     have h3:((c:Int) == (byt plainL j:Int))=true:=by rw[beq_iff_eq,hit]
     clear hit
     have hj':j=0∨j=1∨j=2∨j=3∨j=4∨j=5:=by omega
     unfold plainL at h3
     rcases hj' with rfl|rfl|rfl|rfl|rfl|rfl
     all_goals
      go_wp2_with (first|(first|((with_reducible refine gL ?_);refine aG H ?_)|((with_reducible refine gI ?_);refine aI ?_))|((with_reducible show @wpList _ _ _ ({dst:=_,op:=Op.buildSlice _ _ _,type:=_,pos:=_,after:=_,guard:=_}::_) _ _);refine own_build wtd_ _ _ _ rfl H (#[.int .u8 10,.int .u8 9,.int .u8 13,.int .u8 12,.int .u8 11,.int .u8 7]) 5 (by intro W;simp only[List.map_toArray,List.map_cons,List.map_nil];(try simp only[pe]);(try unfold setV);simp[go_sem]<;>rfl) ?_;clear H;intro b w H;try simp only[nrm,nrl,Value.cells]at H))
      go_ret2
      exact⟨by rw[E3.out];rfl,H.below⟩
    ·have h3:((c:Int) == (byt plainL j:Int))=false:=by rw[beq_eq_false_iff_ne];omega
     unfold plainL at h3
     have HIT:=Lib.hid hit;clear hit
     go_wp2_with (first|((with_reducible refine gI ?_);refine aI ?_))
     go_roundw
     case rel=>exact⟨j+1,by omega,by go_num,Lib.hid (fun m hm=>by
      by_cases e:m=j
      ·subst e;exact HIT.out
      ·exact G.out m (by omega)),H⟩
     case measure=>simp[intOf];omega
   ·obtain rfl:j=6:=by omega
    have he:=plain_none (fun m hm=>G.out m hm)
    have he2:=E2.out
    rw[he]at he2
    simp only[]at he2
    have E3:=Lib.hid he2;clear he he2
    clear hd
    by_cases hx:c=120
    ·have dx:((c:Int) == 120)=true:=by rw[beq_iff_eq];omega
     have e3:=E3.out
     rw[if_pos hx]at e3
     clear hx
     by_cases h3:i+3<L.length
     ·have d3:decide ((L.length:Int)≤(i:Int)+3)=false:=by simp;omega
      rw[if_pos (by omega)]at e3
      have hb2:=byt_lt L (i+2)
      have hb3:=byt_lt L (i+3)
      have hc2:=fun w=>ref_hex (byt L (i+2)) hb2 w
      have hc3:=fun w=>ref_hex (byt L (i+3)) hb3 w
      cases h2:hexP (byt L (i+2)) with
      | none =>
       rw[h2]at e3 hc2
       simp only[optI]at hc2
       have E4:=Lib.hid e3;clear e3 h2
       go_wp2_with (first|((with_reducible refine gI ?_);refine aI ?_)|(go_at_call 92;(with_reducible refine ch (hc2 _) H ?_);clear H;intro w H)|(go_at_call 92;(with_reducible refine ch (hc3 _) H ?_);clear H;intro w H))
       go_ret2
       exact⟨by rw[E4.out];rfl,H.below⟩
      | some x =>
       rw[h2]at e3 hc2
       simp only[]at e3
       rw[if_pos h3]at e3
       have hh:=hexP_le h2
       simp only[optI]at hc2
       cases h4:hexP (byt L (i+3)) with
       | none =>
        rw[h4]at hc3
        simp only[h4,optI]at hc3 e3
        have E4:=Lib.hid e3;clear e3 h2 h4
        have dh:decide ((x:Int)<0)=false:=by simp
        go_wp2_with (first|((with_reducible refine gI ?_);refine aI ?_)|(go_at_call 92;(with_reducible refine ch (hc2 _) H ?_);clear H;intro w H)|(go_at_call 92;(with_reducible refine ch (hc3 _) H ?_);clear H;intro w H))
        go_ret2
        exact⟨by rw[E4.out];rfl,H.below⟩
       | some y =>
        rw[h4]at hc3
        simp only[h4,optI]at hc3 e3
        have hg:=hexP_le h4
        have E4:=Lib.hid e3;clear e3 h2 h4
        have dh:decide ((x:Int)<0)=false:=by simp
        have dg:decide ((y:Int)<0)=false:=by simp
        go_wp2_with (first|((with_reducible refine gI ?_);refine aI ?_)|(go_at_call 92;(with_reducible refine ch (hc2 _) H ?_);clear H;intro w H)|(go_at_call 92;(with_reducible refine ch (hc3 _) H ?_);clear H;intro w H))
        refine wp_region_spec 17 [fun v _=>v=.string ⟨L.toArray⟩,fun v _=>v=.int .i64 (i:Int),fun v _=>v=.int .i64 ((i+2:Nat):Int),fun v _=>v=.int .u8 (byt L (i+2):Int),fun v _=>v=.int .i64 (x:Int),fun v _=>v=.int .i64 ((16 * x:Nat):Int),fun v _=>v=.string ⟨L.toArray⟩,fun v _=>v=.int .i64 (i:Int),fun v _=>v=.int .i64 ((i+3:Nat):Int),fun v _=>v=.int .u8 (byt L (i+3):Int),fun v _=>v=.int .i64 (y:Int),fun v _=>v=.int .i64 ((16 * x+y:Nat):Int),fun v _=>v=.int .u8 ((16 * x+y:Nat):Int),fun v _=>v=.int .i64 (i:Int),fun v _=>v=.int .i64 ((i+4:Nat):Int),fun v _=>v=.int .u8 ((16 * x+y:Nat):Int),fun v _=>v=.int .i64 ((i+4:Nat):Int)] (fun _=>false) (by kernel_rfl) (by kernel_rfl) (by kernel_rfl) (by repeat (first|exact trivial|refine⟨stable_eq _,?_⟩)) (fun _ _ h=>by cases h) ?ob ?en
        case ob =>
         refine⟨?_,?_,?_,?_,?_,?_,?_,?_,?_,?_,?_,?_,?_,?_,?_,?_,?_,trivial⟩<;>intro A W h
         ·exact rs_move rfl rfl (h.frame 0 rfl) (by decide)
         ·exact rs_move rfl rfl (h.frame 1 rfl) (by decide)
         ·(have e61:A.eval (.tmp 61)=.int .i64 (i:Int):=h.dep 1 61 rfl rfl;refine rs_pure rfl ?_ (by decide);simp only[execOp,e61];(simp[go_sem]<;>first|done|omega|(rw[IntKind.wrap_i64];omega)|(rw[IntKind.wrap_u8];omega)|(rw[IntKind.wrap_u64];omega)))
         ·exact rs_pure rfl (str_index_run rfl Try.underlying9 (h.dep 0 60 rfl rfl) (h.dep 2 62 rfl rfl) rfl (by omega)) (by decide)
         ·exact rs_calln rfl rfl (enters_of Try.func92 (by kernel_rfl) rfl) (args1 (h.dep 3 63 rfl rfl)) (hc2 W) (by decide)
         ·(have e64:A.eval (.tmp 64)=.int .i64 (x:Int):=h.dep 4 64 rfl rfl;refine rs_pure rfl ?_ (by decide);simp only[execOp,e64];(simp[go_sem]<;>first|done|omega|(rw[IntKind.wrap_i64];omega)|(rw[IntKind.wrap_u8];omega)|(rw[IntKind.wrap_u64];omega)))
         ·exact rs_move rfl rfl (h.frame 0 rfl) (by decide)
         ·exact rs_move rfl rfl (h.frame 1 rfl) (by decide)
         ·(have e67:A.eval (.tmp 67)=.int .i64 (i:Int):=h.dep 7 67 rfl rfl;refine rs_pure rfl ?_ (by decide);simp only[execOp,e67];(simp[go_sem]<;>first|done|omega|(rw[IntKind.wrap_i64];omega)|(rw[IntKind.wrap_u8];omega)|(rw[IntKind.wrap_u64];omega)))
         ·exact rs_pure rfl (str_index_run rfl Try.underlying9 (h.dep 6 66 rfl rfl) (h.dep 8 68 rfl rfl) rfl (by omega)) (by decide)
         ·exact rs_calln rfl rfl (enters_of Try.func92 (by kernel_rfl) rfl) (args1 (h.dep 9 69 rfl rfl)) (hc3 W) (by decide)
         ·(have e65:A.eval (.tmp 65)=.int .i64 ((16 * x:Nat):Int):=h.dep 5 65 rfl rfl;have e70:A.eval (.tmp 70)=.int .i64 (y:Int):=h.dep 10 70 rfl rfl;refine rs_pure rfl ?_ (by decide);simp only[execOp,e65,e70];(simp[go_sem]<;>first|done|omega|(rw[IntKind.wrap_i64];omega)|(rw[IntKind.wrap_u8];omega)|(rw[IntKind.wrap_u64];omega)))
         ·(have e71:A.eval (.tmp 71)=.int .i64 ((16 * x+y:Nat):Int):=h.dep 11 71 rfl rfl;refine rs_pure rfl ?_ (by decide);simp only[execOp,e71];(simp[go_sem]<;>first|done|omega|(rw[IntKind.wrap_i64];omega)|(rw[IntKind.wrap_u8];omega)|(rw[IntKind.wrap_u64];omega)))
         ·exact rs_move rfl rfl (h.frame 1 rfl) (by decide)
         ·(have e73:A.eval (.tmp 73)=.int .i64 (i:Int):=h.dep 13 73 rfl rfl;refine rs_pure rfl ?_ (by decide);simp only[execOp,e73];(simp[go_sem]<;>first|done|omega|(rw[IntKind.wrap_i64];omega)|(rw[IntKind.wrap_u8];omega)|(rw[IntKind.wrap_u64];omega)))
         ·exact rs_assign rfl rfl (h.dep 12 72 rfl rfl) (by decide)
         ·exact rs_assign rfl rfl (h.dep 14 74 rfl rfl) (by decide)
        case en =>
         intro vals W hbw hv _
         have v0:vals 0=_:=hv 0 (by omega)
         have v1:vals 1=_:=hv 1 (by omega)
         have v2:vals 2=_:=hv 2 (by omega)
         have v3:vals 3=_:=hv 3 (by omega)
         have v4:vals 4=_:=hv 4 (by omega)
         have v5:vals 5=_:=hv 5 (by omega)
         have v6:vals 6=_:=hv 6 (by omega)
         have v7:vals 7=_:=hv 7 (by omega)
         have v8:vals 8=_:=hv 8 (by omega)
         have v9:vals 9=_:=hv 9 (by omega)
         have v10:vals 10=_:=hv 10 (by omega)
         have v11:vals 11=_:=hv 11 (by omega)
         have v12:vals 12=_:=hv 12 (by omega)
         have v13:vals 13=_:=hv 13 (by omega)
         have v14:vals 14=_:=hv 14 (by omega)
         have v15:vals 15=_:=hv 15 (by omega)
         have v16:vals 16=_:=hv 16 (by omega)
         simp only[List.take_succ_cons,List.take_zero,List.drop_succ_cons,List.drop_zero,List.drop_nil,List.take_nil,fillAll,Nat.zero_add,Nat.reduceAdd]
         rw[v0,v1,v2,v3,v4,v5,v6,v7,v8,v9,v10,v11,v12,v13,v14,v15,v16]
         clear hv v0 v1 v2 v3 v4 v5 v6 v7 v8 v9 v10 v11 v12 v13 v14 v15 v16
         try simp only[pl]
         replace H:=H.call hbw;clear hbw
         go_wp2_with (first|fail)
         go_ret2
         exact⟨by rw[E4.out];simp[escV],H.below⟩
     ·have d3:decide ((L.length:Int)≤(i:Int)+3)=true:=by simp;omega
      have e4:escP L i=none:=by
       rw[e3]
       by_cases h2:i+2<L.length
       ·rw[if_pos h2]
        cases hexP (byt L (i+2)) with
        | none=>rfl
        | some h=>simp only[];rw[if_neg h3]
       ·rw[if_neg h2]
      have E4:=Lib.hid e4;clear e3 e4
      go_wp2_with (first|fail)
      go_ret2
      exact⟨by rw[E4.out];rfl,H.below⟩
    ·have dx:((c:Int) == 120)=false:=by rw[beq_eq_false_iff_ne];omega
     have e3:=E3.out
     rw[if_neg hx]at e3
     clear hx
     by_cases h128:128≤c
     ·have d8:decide (128≤(c:Int))=true:=by simp;omega
      rw[if_pos h128]at e3
      have E4:=Lib.hid e3;clear e3
      go_wp2_with (first|(first|((with_reducible refine gT ?_);(refine aS H ?_;clear H;intro w H;try simp only[nrm,nrl,Value.cells]at H))|((with_reducible refine gA ?_);(refine bA H ?_;clear H;intro b w H;try simp only[nrm,nrl,Value.cells]at H)))|(go_at_call 90;(with_reducible refine ch (named_alnum _) H ?_);clear H;intro w H))
      go_ret2
      exact⟨by rw[E4.out];rfl,H.below⟩
     ·have d8:decide (128≤(c:Int))=false:=by simp;omega
      rw[if_neg h128]at e3
      have hH:=fun w=>ref_Has alnumS alnumS_ok c hb w
      cases hs:hasB alnumS c with
      | true =>
       rw[hs]at e3 hH
       rw[if_pos rfl]at e3
       have E4:=Lib.hid e3;clear e3 hs
       go_wp2_with (first|(first|((with_reducible refine gT ?_);(refine aS H ?_;clear H;intro w H;try simp only[nrm,nrl,Value.cells]at H))|((with_reducible refine gL ?_);refine aL H ?_)|((with_reducible refine gA ?_);(refine bA H ?_;clear H;intro b w H;try simp only[nrm,nrl,Value.cells]at H)))|(go_at_call 90;(with_reducible refine ch (named_alnum _) H ?_);clear H;intro w H)|(go_at_call 70;(with_reducible refine ch (hH _) H ?_);clear H;intro w H))
       go_ret2
       exact⟨by rw[E4.out];rfl,H.below⟩
      | false =>
       rw[hs]at e3 hH
       rw[if_neg (by simp)]at e3
       have E4:=Lib.hid e3;clear e3 hs
       go_wp2_with (first|(first|((with_reducible refine gT ?_);(refine aS H ?_;clear H;intro w H;try simp only[nrm,nrl,Value.cells]at H))|((with_reducible refine gL ?_);refine aL H ?_)|((with_reducible refine gA ?_);(refine bA H ?_;clear H;intro b w H;try simp only[nrm,nrl,Value.cells]at H)))|(go_at_call 90;(with_reducible refine ch (named_alnum _) H ?_);clear H;intro w H)|(go_at_call 70;(with_reducible refine ch (hH _) H ?_);clear H;intro w H))
       go_ret2
       exact⟨by rw[E4.out];rfl,H.below⟩
 ·have hd:decide ((L.length:Int)≤(i:Int)+1)=true:=by simp;omega
  go_enter Try.func80,Try.ntmps80
  go_wp2_with (first|fail)
  go_ret2
  exact⟨by unfold escP;rw[if_neg hlt];rfl,H.below⟩
end Go.Proofs.Ytdoflhjhaciepaa
