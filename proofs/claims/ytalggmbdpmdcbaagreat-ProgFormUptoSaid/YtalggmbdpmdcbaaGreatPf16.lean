/-
  Laws of walks, and walks.
-/
import Derived.Test.YtalggmbdpmdcbaaGreatPf15
import Derived.Laws.Cover3
import Derived.Test.YtalggmbdpmdcbaaGreatPf9
import Derived.Test.YtalggmbdpmdcbaaGreatPf6
import Derived.Recover
import Derived.RecoverIn
set_option linter.unusedVariables false
set_option linter.unusedSimpArgs false
set_option maxRecDepth 100000
set_option maxHeartbeats 16000000
namespace Go.Proofs.YtalggmbdpmdcbaaGreat
section
open Go.RowKit Go.Shelf Go.MapKept
attribute [local go_sem] Oper.semAt_some
theorem zDl {t:Tree} (h:zAB t<=2000):capT (some t)=some t:=by unfold capT;simp only;rw[if_pos h]
theorem zIC {d:NodeD} {ks l:List Tree} (h:zAc ks=some l):zAn (.mk d ks)=capT (zE9 d (.mk d ks) l):=by
 simp only[zAn,h];exact(zN4 (zEV h)).symm
theorem zHv {d:NodeD} {ks:List Tree} (h:zAc ks=none):zAn (.mk d ks)=none:=by simp only[zAn,h]
theorem zFl {o:Oper} {a:Act} {w:World} {x y:Operand} {et:TypeId} {sb mb:Nat} {k:Int} {v:Value} (ho:o.op=.lookup 91 x y true) (hT:Tryz.prog.underlying 91=some (.map 22 et)) (hx:a.eval x=.map (some mb)) (hy:a.eval y=.int .i64 k) (h:SimK sb mb w) (hF:zCd sb (.int .i64 k)=.some v) :
  (execOp a.eval o).run Tryz.prog w=.ok (.value (.tuple #[v,.bool true])) w:=by
 obtain⟨es,ck,_,h2,h3⟩:=h;have:=zGO hT zBh h2 h3 (k:=.int .i64 k) (v:=v) rfl hF;simp only[execOp,ho,hx,hy,Sem.run_bind,this];rfl
theorem zKR {o:Oper} {a:Act} {w:World} {x y:Operand} {et:TypeId} {sb mb:Nat} {k:Int} (ho:o.op=.lookup 91 x y true) (hT:Tryz.prog.underlying 91=some (.map 22 et)) (hz:∀ W,(zeroValue et).run Tryz.prog W=.ok .nilFunc W) (hx:a.eval x=.map (some mb)) (hy:a.eval y=.int .i64 k) (h:SimK sb mb w) (hF:zCd sb (.int .i64 k)=.none) :
  (execOp a.eval o).run Tryz.prog w=.ok (.value (.tuple #[.nilFunc,.bool false])) w:=by
 obtain⟨es,ck,_,h2,h3⟩:=h;have:=zDk hT zBh h2 h3 (k:=.int .i64 k) rfl hF hz;simp only[execOp,ho,hx,hy,Sem.run_bind,this];rfl
theorem zJi {d:NodeD} {k:Nat} (h:zAu d k=true) (hk:d.kind=7\/d.kind=6):k=1:=by
 unfold zAu zBM at h;rcases hk with hk|hk<;>rw[hk]at h<;>simp at h<;>omega
theorem zMv {d:NodeD} {k:Nat} (h:zAu d k=true) (hk:d.kind=6):(0<=d.lo/\d.lo<=100)/\(d.hi = -1\/d.lo<=d.hi/\d.hi<=100):=by
 unfold zAu zBM at h;rw[hk]at h;simp at h;exact⟨⟨h.1.1.1.2,h.1.1.2⟩,h.1.2⟩
theorem zPB {d:NodeD} {k:Nat} (h:zAu d k=true) (h4:d.kind≠4) (h5:d.kind≠5) (h6:d.kind≠6) (h7:d.kind≠7):k=0:=by
 unfold zAu zBM at h
 by_cases h3:d.kind=3
 ·rw[h3]at h;simp at h;omega
 ·rw[if_neg h3,if_neg (by omega),if_neg h6,if_neg h7]at h
  simp at h;omega
theorem SizOut.some {w w':World} {G:Nat->Prop} {o:Option Tree} {t:Tree} (h:o=.some t) {q:Option Addr} {c:Nat} {F:Nat->Prop} (hf:ForestR w' F q c t.kids) (hF:∀ b,F b->b<w'.heap.size/\(w.heap.size<=b\/G b)):SizOut w G o (.returned (sizV t.d (.slice q t.kids.length c) (zAB t))) w':=by
 subst h;exact⟨q,c,F,rfl,hf,hF⟩
theorem SizOut.none {w w':World} {G:Nat->Prop} {o:Option Tree} (h:o=.none):SizOut w G o (.panicked (zCH 7)) w':=by
 subst h;exact rfl
theorem zP7 (sb mb:Nat):∀ (m:Nat) (t:Tree) (p:Option Addr) (n c:Nat) (F:Nat->Prop) (w0:World),zAB t<=m->m<=2000->zAk t=true->(∀ b,F b->b<w0.heap.size)->ForestR w0 F p c t.kids->n=t.kids.length->sb<w0.heap.size->mb<w0.heap.size->SimK sb mb w0 ->
  Calls Tryz.prog 41 #[.pointer (some ⟨sb,0,none⟩),zAV t.d (.slice p n c)] w0 fun e w'=>SizOut w0 F (zAn t) e w'/\Below w0.heap.size w0 w'
 | 0,t,_,_,_,_,_,hm,_,_,_,_,_,_,_,_=>by have:=zBX t;omega
 | m+1,.mk d ts,p,n,c,F,w0,hm,hm2,hkt,hF,h,hn,hsb,hmb,hS=>by
  have IH:=zP7 sb mb m;obtain⟨i0,hi0,hz0,hz1,hz2⟩:=info_parts zDL;have hkt2:=hkt;rw[zFq,Bool.and_eq_true]at hkt;simp only[Tree.kids,Tree.d]at h hn hkt ⊢;obtain⟨xs,h1,h2,rfl⟩:=h.open;rw[List.length_map]at hn;rw[← hn]at h1;have hK:Knows F p n c xs w0:=⟨h1,h2⟩;clear h h1 h2;have H:=Hold.knows hF hK;have hc1:=hK.bound.2.1;have hc2:=hK.bound.2.2;have hp:=hK.at;clear hK
  replace H:=(H.know (fun z=>z=sb\/z=mb) (SimK sb mb) (fun z hz=>by rcases hz with rfl|rfl<;>assumption) (fun i r h=>by
   rcases i with _|i
   ·simp at h;subst h;intro b hb;cases hb
   ·simp at h) (fun V hV=>hS.kept hV))
  simp only[ca]at H;simp only[zAB]at hm;have hnl:n<=2000:=by have:=zBp (xs.map (·.1));rw[List.length_map]at this;omega
  have HN:=Lib.hid hn;clear hn;have HKT:=Lib.hid hkt;clear hkt
  go_enter Tryz.func41,Tryz.ntmps41
  go_wp2_with (first|((with_reducible refine kg 3 ?_);(first|refine kA 3 H ?_|refine kS 3 H ?_|refine kB 3 H ?_);clear H;intro b3 w H;try simp only[nr]at H)|((with_reducible refine kg 4 ?_);(first|refine kA 4 H ?_|refine kS 4 H ?_|refine kB 4 H ?_);clear H;intro b4 w H;try simp only[nr]at H)|((with_reducible refine gL ?_);refine aG H ?_))
  replace H:=(H.addNil 96 11).know (fun _=>False) (fun V=>ListR V (fun _=>False) []) (fun _ h=>h.elim) (fun _ _ _ _ _ h=>h) (fun V _=>ListR.nil _ _)
  simp only[ca]at H
  go_loopw [5,14] (fun v ix wr=>∃ (j:Nat) (xa:List TV) (Fa:Nat->Prop),j<=n/\ix=.int .i64 j/\xa.length=j/\Hid (zAc ((xs.map (·.1)).take j)=some (xa.map (·.1)))/\(∀ b,Fa b->w0.heap.size<=b\/F b)/\Hold w0 wr [.kn F (Knows F p n c xs),.kn (fun z=>z=sb\/z=mb) (SimK sb mb),.blk b3 (zAR d (.slice p n c)) 28,.blk b4 (zBx Tryz.prog 96) 96,.row v 96 11 j (zAG (xa.map sizX)),.kn Fa (fun V=>ListR V Fa xa)]) (fun _ ix _=>n+1 - (intOf ix).toNat)
  case atStart=>exact⟨0,[],fun _=>False,by omega,rfl,rfl,Lib.hid rfl,fun _ h=>h.elim,H⟩
  case round =>
   clear H;obtain⟨j,xa,Fa,hj,rfl,hxl,ES,hFa,H⟩:=hrel
   by_cases hlt:j<n
   ·have dj:decide ((j:Int)<(n:Int))=true:=by simp;omega
    obtain⟨x,hx⟩:∃ x,xs[j]?=some x:=⟨_,List.getElem?_eq_getElem (by rw[← HN.out];exact hlt)⟩
    obtain⟨b,off,rfl⟩:=hp (by rw[← HN.out];omega)
    have hs1:=zGd hx;have hmem:=List.mem_of_getElem? hx;have hcell:∀ V,Knows F (some ⟨b,off,none⟩) n c xs V->∀ k,k<10->V.cell? ⟨b,off+j * 10+k,none⟩=(zAT x)[k]?:=fun V h=>h.cells hx rfl
    have hkx:zAk x.1=true:=zFr (i:=j) HKT.out.2 (by rw[List.getElem?_map,hx];rfl)
    have ih:=fun w (h1:∀ b,F b->b<w.heap.size) (h2:Knows F (some ⟨b,off,none⟩) n c xs w) (h3:∀ z,z=sb\/z=mb->z<w.heap.size) (h4:SimK sb mb w)=>IH x.1 x.2.1 x.1.kids.length x.2.2 F w (by omega) (by omega) hkx h1 (h2.2 x hmem) rfl (h3 sb (.inl rfl)) (h3 mb (.inr rfl)) h4
    have hxt:(xs.map (·.1))[j]?=some x.1:=by rw[List.getElem?_map,hx];rfl
    cases hq:zAn x.1 with
    | none =>
     have HO:=Lib.hid (zHv (d:=d) (zEn hxt hq));rw[hq]at ih;clear hq hx hxt hkx IH hmem hp
     go_wp2_with (first|((with_reducible refine gLn ?_);refine zAO wtd_ _ _ rfl rfl zAP rfl (hcell _ (H.kn (i:=0) .zero)) ?_)|((with_reducible refine kg 7 ?_);(first|refine kA 7 H ?_|refine kS 7 H ?_|refine kB 7 H ?_);clear H;intro b7 w H;try simp only[nr]at H)|(first|((with_reducible refine gT ?_);(refine aT H ?_;clear H;intro w H;try simp only[nr]at H))|((with_reducible refine gL ?_);refine aD H ?_))|(go_at_call 41;refine zCI (ih _ (H.knlt .zero) (H.kn .zero) (H.knlt (i:=1) i_1) (H.kn (i:=1) i_1)) H ?_;clear H;intro w H))
     exact⟨rfl,SizOut.none HO.out,H.below⟩
    | some s =>
     have ES2:=Lib.hid (show zAc ((xs.map (·.1)).take (j+1))=some (xa.map (·.1)++[s]) by rw[zBb hxt];exact zEl _ _ ES.out hq)
     rw[hq]at ih;have HXL:=Lib.hid hxl;clear hq hx hxt hkx IH hmem hp hxl ES
     go_wp2_with (first|((with_reducible refine gLn ?_);refine zAO wtd_ _ _ rfl rfl zAP rfl (hcell _ (H.kn (i:=0) .zero)) ?_)|((with_reducible refine kg 7 ?_);(first|refine kA 7 H ?_|refine kS 7 H ?_|refine kB 7 H ?_);clear H;intro b7 w H;try simp only[nr]at H)|(first|((with_reducible refine gT ?_);(refine aT H ?_;clear H;intro w H;try simp only[nr]at H))|((with_reducible refine gL ?_);refine aD H ?_))|(go_at_call 41;refine chz (ih _ (H.knlt .zero) (H.kn .zero) (H.knlt (i:=1) i_1) (H.kn (i:=1) i_1)) H (Still.at (i:=0) .zero) ?_;clear H;intro q1 m1 F1 w hF1 H;simp only[ca]at H)|((with_reducible refine gBS ?_);refine zAY wtd_ _ _ _ rfl H (sizC (s.d) (.slice q1 s.kids.length m1) (zAB s)) 96 (by intro W;simp only[ml];(try simp only[pe]);exact zBj _ _ _ W) ?_;clear H;intro bk w H;try simp only[nr]at H)|(at_builtin;refine zA8 rfl _ _ 156 rfl H (i:=4) (j:=8) evd_ rfl i_4 i_8 Tryz.underlying156 hi0 hz0 hz1 hz2 rfl (by decide) rfl rfl (by unfold maxLen;omega) (by omega) ?_;clear H;intro v2 w H;try simp only[nr]at H))
     rw[zEv xa (s,q1,m1)]at H;have H2:=(H.also (fun z=>Fa z\/F1 z) (fun V=>ListR V (fun z=>Fa z\/F1 z) (xa++[(s,q1,m1)])) ((Still.at (i:=5) i_5).or (Still.at (i:=7) i_7)) (fun V hV=>(ListR.append ((H.kn (i:=5) i_5).mono (fun _ h=>.inl h)) (ListR.one ((H.kn (i:=7) i_7).mono (fun _ h=>.inr h)))).kept hV))
     clear H;go_roundw
     case rel=>exact⟨j+1,xa++[(s,q1,m1)],fun z=>Fa z\/F1 z,by omega,by go_num,by rw[List.length_append,HXL.out];rfl,Lib.hid (by rw[List.map_append];exact ES2.out),fun z h=>h.elim (hFa z) (hF1 z),H2.pick [0,1,2,3,4,9] _ (by decide) rfl⟩
     case measure=>simp[intOf];omega
   ·have hjn:j=n:=by omega
    have dj:decide ((j:Int)<(n:Int))=false:=by simp;omega
    rw[hjn]at hxl H ES dj ⊢;obtain⟨q,cap,rfl,_,_,_⟩:=H.rowShape (i:=4) i_4;obtain⟨G,hG,H2⟩:=H.rowSized (i:=4) (xs:=xa) (K:=Fa) i_4 hxl (Still.at (i:=5) i_5) (H.kn (i:=5) i_5);have EL:zAc (xs.map (·.1))=some (xa.map (·.1)):=by
     have h:=ES.out
     rwa [List.take_of_length_le (by rw[List.length_map,← HN.out];omega)]at h
    clear H;have H:=H2.pick [0,1,2,3,4] [.kn F (Knows F p n c xs),.kn (fun z=>z=sb\/z=mb) (SimK sb mb),.blk b3 (zAR d (.slice p n c)) 28,.blk b4 (zBx Tryz.prog 96) 96,.kn G (SKnows G q n cap xa)] (by decide) rfl
    clear H2 hp;have hGl:∀ z,G z->w0.heap.size<=z\/F z:=fun z h=>(hG z h).elim .inl (hFa z)
    clear hG hFa Fa;have ER:=zIC (d:=d) EL;have hsl:zAF (xa.map (·.1))<=1000000000:=by
     have:=zE3 EL;rw[List.length_map,← HN.out]at this;omega
    have hkl:zAU (xa.map (·.1))=true:=zDg HKT.out.2 EL;have hxn:xs.length=n:=HN.out.symm;obtain⟨et,het,hez⟩:=zIH;have hss:=fun (x:TV) (hx:x ∈ xa)=>zEV EL x.1 (List.mem_map.2 ⟨x,hx,rfl⟩)
    have HNO:=Lib.hid HKT.out.1;have HET:=Lib.hid (And.intro het hez);clear het hez ES EL IH hS hm hm2 HKT hlt hj hjn
    by_cases k4:d.kind=4
    ·have hR:∀ w,(∀ z,G z->z<w.heap.size)->SKnows G q n cap xa w->Calls Tryz.prog 36 #[.pointer (some ⟨sb,0,none⟩),zAV d (.slice p n c),.slice q n cap] w fun e w'=>SizOut w G (catQ (xa.map (·.1))) e w'/\Below w.heap.size w w':=fun w h1 h2=>by
      have:=zO2 (.pointer (some ⟨sb,0,none⟩)) d p n c q cap xa G w h1 (by rw[hxl];exact h2) hsl;rwa [hxl]at this
     have hr:zE9 d (.mk d (xs.map (·.1))) (xa.map (·.1))=catQ (xa.map (·.1)):=by unfold zE9;rw[if_neg (by omega),if_pos k4]
     have HF:=Lib.hid (show zCd sb (.int .i64 d.kind)=some (.func (.func 36) #[.pointer (some ⟨sb,0,none⟩)] #[]) by simp[zCd,k4])
     rw[hr]at ER;have HER:=Lib.hid ER;clear ER hr hsl hkl hss k4 HNO
     generalize (catQ (xa.map (·.1)))=o at hR HER
     go_upto_region 8 with (first|((with_reducible refine kg 8 ?_);(first|refine kA 8 H ?_|refine kS 8 H ?_|refine kB 8 H ?_);clear H;intro b8 w H;try simp only[nr]at H)|(first|((with_reducible refine gTz ?_);refine aTz H ?_;clear H;intro w H;try simp only[nr]at H)|((with_reducible refine gBz ?_);refine zb ?_)|((with_reducible refine gL ?_);refine aD H ?_)))
     refine wr_ 12 [fun v _=>v=pt sb 0,fun v _=>v=pt sb 0,fun v _=>v=pt sb 0,fun v _=>v=.map (some mb),fun v _=>v=pt b3 0,fun v _=>v=.int .i64 (d).kind,fun v _=>v=.tuple #[.func (.func 36) #[.pointer (some ⟨sb,0,none⟩)] #[],.bool true],fun v _=>v=.tuple #[.func (.func 36) #[.pointer (some ⟨sb,0,none⟩)] #[],.bool true],fun v _=>v=.func (.func 36) #[.pointer (some ⟨sb,0,none⟩)] #[],fun v _=>v=.bool true,fun v _=>v=.func (.func 36) #[.pointer (some ⟨sb,0,none⟩)] #[],fun v _=>v=.bool true] ?ob ?en
     case ob =>
      refine⟨?_,?_,?_,?_,?_,?_,?_,?_,?_,?_,?_,?_,trivial⟩<;>intro A W h
      ·exact zAH rfl rfl (h.f 0)
      ·(have e28:A.eval (.tmp 28)=.pointer (some ⟨sb,0,none⟩):=h.d 0 28;refine zAA rfl ?_;simp only[execOp,e28];simp[go_sem])
      ·(have e29:A.eval (.tmp 29)=.pointer (some ⟨sb,0,none⟩):=h.d 1 29;refine zAA rfl ?_;simp only[execOp,e29];simp[go_sem])
      ·exact zAA rfl (zAD rfl (h.d 2 30) zDO (SimK.load ((H.call h.below).kn (i:=1) i_1))) (by decide)
      ·(have e3:A.eval (.tmp 3)=.pointer (some ⟨b3,0,none⟩):=h.f 3;refine zAA rfl ?_;simp only[execOp,e3];simp[go_sem])
      ·exact zAA rfl (zAD rfl (h.d 4 32) (by first|(with_reducible exact zAC)|(with_reducible exact one_u8)|(with_reducible exact zA9)|(with_reducible exact one_str)|(with_reducible exact zAh)|(with_reducible exact one_u64)|(with_reducible exact zAz)) ((H.call h.below).cell (i:=2) i_2 0)) (by decide)
      ·exact zAA rfl (zFl rfl HET.out.1 (h.d 3 31) (h.d 5 33) ((H.call h.below).kn (i:=1) i_1) HF.out) (by decide)
      ·exact zAH rfl rfl (h.d 6 34)
      ·(have e27:A.eval (.tmp 27)=.tuple #[.func (.func 36) #[.pointer (some ⟨sb,0,none⟩)] #[],.bool true]:=h.d 7 27;refine zAA rfl ?_;simp only[execOp,e27];simp[go_sem])
      ·(have e27:A.eval (.tmp 27)=.tuple #[.func (.func 36) #[.pointer (some ⟨sb,0,none⟩)] #[],.bool true]:=h.d 7 27;refine zAA rfl ?_;simp only[execOp,e27];simp[go_sem])
      ·exact zBm rfl rfl (h.d 8 35)
      ·exact zBm rfl rfl (h.d 9 36)
     case en =>
      intro vals W hbw hv _;simp only[fa,Nat.reduceAdd];rw[e_ hv 0,e_ hv 1,e_ hv 2,e_ hv 3,e_ hv 4,e_ hv 5,e_ hv 6,e_ hv 7,e_ hv 8,e_ hv 9,e_ hv 10,e_ hv 11];clear hv
      try simp only[pl]
      replace H:=H.call hbw
      cases o with
      | none =>
       have HO:=Lib.hid (show zAn (.mk d (xs.map (·.1)))=none by rw[HER.out];rfl)
       go_wp2_with (first|(go_at_call 36;refine zCI (hR _ (H.knlt (i:=4) i_4) (H.kn (i:=4) i_4)) H ?_;clear H;intro w H)|((with_reducible refine gL ?_);refine aD H ?_))
       exact⟨rfl,SizOut.none HO.out,H.below⟩
      | some s =>
       by_cases hs:zAB s<=2000
       ·have HO:=Lib.hid (show zAn (.mk d (xs.map (·.1)))=some s by rw[HER.out];exact zDl hs)
        have ds:decide ((zAB s:Int)<=2000)=true:=by simp;omega
        go_wp2_with (first|(go_at_call 36;refine chz (hR _ (H.knlt (i:=4) i_4) (H.kn (i:=4) i_4)) H (Still.at (i:=4) i_4) ?_;clear H;intro q1 m1 F1 w hF1 H;simp only[ca]at H)|(first|((with_reducible refine gTz ?_);refine aTz H ?_;clear H;intro w H;try simp only[nr]at H)|((with_reducible refine gLz ?_);refine aLz H ?_)|((with_reducible refine gL ?_);refine aGz H ?_)|((with_reducible refine gL ?_);refine aD H ?_))|((with_reducible refine ch (zBt _) H ?_);clear H;intro w H))
        refine xcz Tryz.results41 H ?_
        exact⟨SizOut.some HO.out (H.kn (i:=6) i_6) (fun z h=>⟨H.knlt (i:=6) i_6 z h,(hF1 z h).elim .inl (hGl z)⟩),H.below⟩
       ·have HO:=Lib.hid (show zAn (.mk d (xs.map (·.1)))=none by rw[HER.out];exact zCG (by omega))
        have ds:decide ((zAB s:Int)<=2000)=false:=by simp;omega
        go_wp2_with (first|(go_at_call 36;refine chz (hR _ (H.knlt (i:=4) i_4) (H.kn (i:=4) i_4)) H (Still.at (i:=4) i_4) ?_;clear H;intro q1 m1 F1 w hF1 H;simp only[ca]at H)|(first|((with_reducible refine gTz ?_);refine aTz H ?_;clear H;intro w H;try simp only[nr]at H)|((with_reducible refine gL ?_);refine aGz H ?_)|((with_reducible refine gL ?_);refine aD H ?_))|((with_reducible refine ch (zCP _) H ?_);clear H;intro w H))
        exact⟨rfl,SizOut.none HO.out,H.below⟩
    by_cases k5:d.kind=5
    ·have hR:∀ w,(∀ z,G z->z<w.heap.size)->SKnows G q n cap xa w->Calls Tryz.prog 37 #[.pointer (some ⟨sb,0,none⟩),zAV d (.slice p n c),.slice q n cap] w fun e w'=>SizOut w G (rowQ 5 2 (zBK (xa.map (·.1)) 5 2)) e w'/\Below w.heap.size w w':=fun w h1 h2=>by
      have:=zOg (.pointer (some ⟨sb,0,none⟩)) d p n c q cap xa G w h1 (by rw[hxl];exact h2) hsl;rwa [hxl]at this
     have hr:zE9 d (.mk d (xs.map (·.1))) (xa.map (·.1))=rowQ 5 2 (zBK (xa.map (·.1)) 5 2):=by unfold zE9;rw[if_neg (by omega),if_neg k4,if_pos k5]
     have HF:=Lib.hid (show zCd sb (.int .i64 d.kind)=some (.func (.func 37) #[.pointer (some ⟨sb,0,none⟩)] #[]) by simp[zCd,k5])
     rw[hr]at ER;have HER:=Lib.hid ER;clear ER hr hsl hkl hss k5 HNO
     generalize (rowQ 5 2 (zBK (xa.map (·.1)) 5 2))=o at hR HER
     go_upto_region 8 with (first|((with_reducible refine kg 8 ?_);(first|refine kA 8 H ?_|refine kS 8 H ?_|refine kB 8 H ?_);clear H;intro b8 w H;try simp only[nr]at H)|(first|((with_reducible refine gTz ?_);refine aTz H ?_;clear H;intro w H;try simp only[nr]at H)|((with_reducible refine gBz ?_);refine zb ?_)|((with_reducible refine gL ?_);refine aD H ?_)))
     refine wr_ 12 [fun v _=>v=pt sb 0,fun v _=>v=pt sb 0,fun v _=>v=pt sb 0,fun v _=>v=.map (some mb),fun v _=>v=pt b3 0,fun v _=>v=.int .i64 (d).kind,fun v _=>v=.tuple #[.func (.func 37) #[.pointer (some ⟨sb,0,none⟩)] #[],.bool true],fun v _=>v=.tuple #[.func (.func 37) #[.pointer (some ⟨sb,0,none⟩)] #[],.bool true],fun v _=>v=.func (.func 37) #[.pointer (some ⟨sb,0,none⟩)] #[],fun v _=>v=.bool true,fun v _=>v=.func (.func 37) #[.pointer (some ⟨sb,0,none⟩)] #[],fun v _=>v=.bool true] ?ob ?en
     case ob =>
      refine⟨?_,?_,?_,?_,?_,?_,?_,?_,?_,?_,?_,?_,trivial⟩<;>intro A W h
      ·exact zAH rfl rfl (h.f 0)
      ·(have e28:A.eval (.tmp 28)=.pointer (some ⟨sb,0,none⟩):=h.d 0 28;refine zAA rfl ?_;simp only[execOp,e28];simp[go_sem])
      ·(have e29:A.eval (.tmp 29)=.pointer (some ⟨sb,0,none⟩):=h.d 1 29;refine zAA rfl ?_;simp only[execOp,e29];simp[go_sem])
      ·exact zAA rfl (zAD rfl (h.d 2 30) zDO (SimK.load ((H.call h.below).kn (i:=1) i_1))) (by decide)
      ·(have e3:A.eval (.tmp 3)=.pointer (some ⟨b3,0,none⟩):=h.f 3;refine zAA rfl ?_;simp only[execOp,e3];simp[go_sem])
      ·exact zAA rfl (zAD rfl (h.d 4 32) (by first|(with_reducible exact zAC)|(with_reducible exact one_u8)|(with_reducible exact zA9)|(with_reducible exact one_str)|(with_reducible exact zAh)|(with_reducible exact one_u64)|(with_reducible exact zAz)) ((H.call h.below).cell (i:=2) i_2 0)) (by decide)
      ·exact zAA rfl (zFl rfl HET.out.1 (h.d 3 31) (h.d 5 33) ((H.call h.below).kn (i:=1) i_1) HF.out) (by decide)
      ·exact zAH rfl rfl (h.d 6 34)
      ·(have e27:A.eval (.tmp 27)=.tuple #[.func (.func 37) #[.pointer (some ⟨sb,0,none⟩)] #[],.bool true]:=h.d 7 27;refine zAA rfl ?_;simp only[execOp,e27];simp[go_sem])
      ·(have e27:A.eval (.tmp 27)=.tuple #[.func (.func 37) #[.pointer (some ⟨sb,0,none⟩)] #[],.bool true]:=h.d 7 27;refine zAA rfl ?_;simp only[execOp,e27];simp[go_sem])
      ·exact zBm rfl rfl (h.d 8 35)
      ·exact zBm rfl rfl (h.d 9 36)
     case en =>
      intro vals W hbw hv _;simp only[fa,Nat.reduceAdd];rw[e_ hv 0,e_ hv 1,e_ hv 2,e_ hv 3,e_ hv 4,e_ hv 5,e_ hv 6,e_ hv 7,e_ hv 8,e_ hv 9,e_ hv 10,e_ hv 11];clear hv
      try simp only[pl]
      replace H:=H.call hbw
      cases o with
      | none =>
       have HO:=Lib.hid (show zAn (.mk d (xs.map (·.1)))=none by rw[HER.out];rfl)
       go_wp2_with (first|(go_at_call 37;refine zCI (hR _ (H.knlt (i:=4) i_4) (H.kn (i:=4) i_4)) H ?_;clear H;intro w H)|((with_reducible refine gL ?_);refine aD H ?_))
       exact⟨rfl,SizOut.none HO.out,H.below⟩
      | some s =>
       by_cases hs:zAB s<=2000
       ·have HO:=Lib.hid (show zAn (.mk d (xs.map (·.1)))=some s by rw[HER.out];exact zDl hs)
        have ds:decide ((zAB s:Int)<=2000)=true:=by simp;omega
        go_wp2_with (first|(go_at_call 37;refine chz (hR _ (H.knlt (i:=4) i_4) (H.kn (i:=4) i_4)) H (Still.at (i:=4) i_4) ?_;clear H;intro q1 m1 F1 w hF1 H;simp only[ca]at H)|(first|((with_reducible refine gTz ?_);refine aTz H ?_;clear H;intro w H;try simp only[nr]at H)|((with_reducible refine gLz ?_);refine aLz H ?_)|((with_reducible refine gL ?_);refine aGz H ?_)|((with_reducible refine gL ?_);refine aD H ?_))|((with_reducible refine ch (zBt _) H ?_);clear H;intro w H))
        refine xcz Tryz.results41 H ?_
        exact⟨SizOut.some HO.out (H.kn (i:=6) i_6) (fun z h=>⟨H.knlt (i:=6) i_6 z h,(hF1 z h).elim .inl (hGl z)⟩),H.below⟩
       ·have HO:=Lib.hid (show zAn (.mk d (xs.map (·.1)))=none by rw[HER.out];exact zCG (by omega))
        have ds:decide ((zAB s:Int)<=2000)=false:=by simp;omega
        go_wp2_with (first|(go_at_call 37;refine chz (hR _ (H.knlt (i:=4) i_4) (H.kn (i:=4) i_4)) H (Still.at (i:=4) i_4) ?_;clear H;intro q1 m1 F1 w hF1 H;simp only[ca]at H)|(first|((with_reducible refine gTz ?_);refine aTz H ?_;clear H;intro w H;try simp only[nr]at H)|((with_reducible refine gL ?_);refine aGz H ?_)|((with_reducible refine gL ?_);refine aD H ?_))|((with_reducible refine ch (zCP _) H ?_);clear H;intro w H))
        exact⟨rfl,SizOut.none HO.out,H.below⟩
    by_cases k7:d.kind=7
    ·obtain⟨y,hy⟩:∃ y,xa=[y]:=by
      have h1:=zJi HNO.out (.inl k7);rw[List.length_map,hxn,← hxl]at h1;exact List.length_eq_one_iff.1 h1
     subst hy;have hR:∀ w,(∀ z,G z->z<w.heap.size)->SKnows G q n cap [y] w->Calls Tryz.prog 38 #[.pointer (some ⟨sb,0,none⟩),zAV d (.slice p n c),.slice q n cap] w fun e w'=>SizOut w G (if y.1.d.kind=2 then some (zBs 2) else zCq d ([y].map (·.1))) e w'/\Below w.heap.size w w':=fun w h1 h2=>by
      have:=zMP (.pointer (some ⟨sb,0,none⟩)) d p n c q cap y [] G w h1 (by rw[hxl];exact h2) hsl (by simpa [zAU] using hkl);rwa [hxl]at this
     have hr:zE9 d (.mk d (xs.map (·.1))) ([y].map (·.1))=if y.1.d.kind=2 then some (zBs 2) else zCq d ([y].map (·.1)):=by unfold zE9;rw[if_pos k7];rfl
     have HF:=Lib.hid (show zCd sb (.int .i64 d.kind)=some (.func (.func 38) #[.pointer (some ⟨sb,0,none⟩)] #[]) by simp[zCd,k7])
     rw[hr]at ER;have HER:=Lib.hid ER;clear ER hr hsl hkl hss k7 HNO
     generalize (if y.1.d.kind=2 then some (zBs 2) else zCq d ([y].map (·.1)))=o at hR HER
     go_upto_region 8 with (first|((with_reducible refine kg 8 ?_);(first|refine kA 8 H ?_|refine kS 8 H ?_|refine kB 8 H ?_);clear H;intro b8 w H;try simp only[nr]at H)|(first|((with_reducible refine gTz ?_);refine aTz H ?_;clear H;intro w H;try simp only[nr]at H)|((with_reducible refine gBz ?_);refine zb ?_)|((with_reducible refine gL ?_);refine aD H ?_)))
     refine wr_ 12 [fun v _=>v=pt sb 0,fun v _=>v=pt sb 0,fun v _=>v=pt sb 0,fun v _=>v=.map (some mb),fun v _=>v=pt b3 0,fun v _=>v=.int .i64 (d).kind,fun v _=>v=.tuple #[.func (.func 38) #[.pointer (some ⟨sb,0,none⟩)] #[],.bool true],fun v _=>v=.tuple #[.func (.func 38) #[.pointer (some ⟨sb,0,none⟩)] #[],.bool true],fun v _=>v=.func (.func 38) #[.pointer (some ⟨sb,0,none⟩)] #[],fun v _=>v=.bool true,fun v _=>v=.func (.func 38) #[.pointer (some ⟨sb,0,none⟩)] #[],fun v _=>v=.bool true] ?ob ?en
     case ob =>
      refine⟨?_,?_,?_,?_,?_,?_,?_,?_,?_,?_,?_,?_,trivial⟩<;>intro A W h
      ·exact zAH rfl rfl (h.f 0)
      ·(have e28:A.eval (.tmp 28)=.pointer (some ⟨sb,0,none⟩):=h.d 0 28;refine zAA rfl ?_;simp only[execOp,e28];simp[go_sem])
      ·(have e29:A.eval (.tmp 29)=.pointer (some ⟨sb,0,none⟩):=h.d 1 29;refine zAA rfl ?_;simp only[execOp,e29];simp[go_sem])
      ·exact zAA rfl (zAD rfl (h.d 2 30) zDO (SimK.load ((H.call h.below).kn (i:=1) i_1))) (by decide)
      ·(have e3:A.eval (.tmp 3)=.pointer (some ⟨b3,0,none⟩):=h.f 3;refine zAA rfl ?_;simp only[execOp,e3];simp[go_sem])
      ·exact zAA rfl (zAD rfl (h.d 4 32) (by first|(with_reducible exact zAC)|(with_reducible exact one_u8)|(with_reducible exact zA9)|(with_reducible exact one_str)|(with_reducible exact zAh)|(with_reducible exact one_u64)|(with_reducible exact zAz)) ((H.call h.below).cell (i:=2) i_2 0)) (by decide)
      ·exact zAA rfl (zFl rfl HET.out.1 (h.d 3 31) (h.d 5 33) ((H.call h.below).kn (i:=1) i_1) HF.out) (by decide)
      ·exact zAH rfl rfl (h.d 6 34)
      ·(have e27:A.eval (.tmp 27)=.tuple #[.func (.func 38) #[.pointer (some ⟨sb,0,none⟩)] #[],.bool true]:=h.d 7 27;refine zAA rfl ?_;simp only[execOp,e27];simp[go_sem])
      ·(have e27:A.eval (.tmp 27)=.tuple #[.func (.func 38) #[.pointer (some ⟨sb,0,none⟩)] #[],.bool true]:=h.d 7 27;refine zAA rfl ?_;simp only[execOp,e27];simp[go_sem])
      ·exact zBm rfl rfl (h.d 8 35)
      ·exact zBm rfl rfl (h.d 9 36)
     case en =>
      intro vals W hbw hv _;simp only[fa,Nat.reduceAdd];rw[e_ hv 0,e_ hv 1,e_ hv 2,e_ hv 3,e_ hv 4,e_ hv 5,e_ hv 6,e_ hv 7,e_ hv 8,e_ hv 9,e_ hv 10,e_ hv 11];clear hv
      try simp only[pl]
      replace H:=H.call hbw
      cases o with
      | none =>
       have HO:=Lib.hid (show zAn (.mk d (xs.map (·.1)))=none by rw[HER.out];rfl)
       go_wp2_with (first|(go_at_call 38;refine zCI (hR _ (H.knlt (i:=4) i_4) (H.kn (i:=4) i_4)) H ?_;clear H;intro w H)|((with_reducible refine gL ?_);refine aD H ?_))
       exact⟨rfl,SizOut.none HO.out,H.below⟩
      | some s =>
       by_cases hs:zAB s<=2000
       ·have HO:=Lib.hid (show zAn (.mk d (xs.map (·.1)))=some s by rw[HER.out];exact zDl hs)
        have ds:decide ((zAB s:Int)<=2000)=true:=by simp;omega
        go_wp2_with (first|(go_at_call 38;refine chz (hR _ (H.knlt (i:=4) i_4) (H.kn (i:=4) i_4)) H (Still.at (i:=4) i_4) ?_;clear H;intro q1 m1 F1 w hF1 H;simp only[ca]at H)|(first|((with_reducible refine gTz ?_);refine aTz H ?_;clear H;intro w H;try simp only[nr]at H)|((with_reducible refine gLz ?_);refine aLz H ?_)|((with_reducible refine gL ?_);refine aGz H ?_)|((with_reducible refine gL ?_);refine aD H ?_))|((with_reducible refine ch (zBt _) H ?_);clear H;intro w H))
        refine xcz Tryz.results41 H ?_
        exact⟨SizOut.some HO.out (H.kn (i:=6) i_6) (fun z h=>⟨H.knlt (i:=6) i_6 z h,(hF1 z h).elim .inl (hGl z)⟩),H.below⟩
       ·have HO:=Lib.hid (show zAn (.mk d (xs.map (·.1)))=none by rw[HER.out];exact zCG (by omega))
        have ds:decide ((zAB s:Int)<=2000)=false:=by simp;omega
        go_wp2_with (first|(go_at_call 38;refine chz (hR _ (H.knlt (i:=4) i_4) (H.kn (i:=4) i_4)) H (Still.at (i:=4) i_4) ?_;clear H;intro q1 m1 F1 w hF1 H;simp only[ca]at H)|(first|((with_reducible refine gTz ?_);refine aTz H ?_;clear H;intro w H;try simp only[nr]at H)|((with_reducible refine gL ?_);refine aGz H ?_)|((with_reducible refine gL ?_);refine aD H ?_))|((with_reducible refine ch (zCP _) H ?_);clear H;intro w H))
        exact⟨rfl,SizOut.none HO.out,H.below⟩
    by_cases k6:d.kind=6
    ·obtain⟨y,hy⟩:∃ y,xa=[y]:=by
      have h1:=zJi HNO.out (.inr k6);rw[List.length_map,hxn,← hxl]at h1;exact List.length_eq_one_iff.1 h1
     subst hy;have hR:∀ w,(∀ z,G z->z<w.heap.size)->SKnows G q n cap [y] w->Calls Tryz.prog 39 #[.pointer (some ⟨sb,0,none⟩),zAV d (.slice p n c),.slice q n cap] w fun e w'=>SizOut w G (zBU d y.1) e w'/\Below w.heap.size w w':=fun w h1 h2=>by
      have h3:n=1:=hxl.symm;rw[h3]at h2 ⊢;exact zK2 (.pointer (some ⟨sb,0,none⟩)) d p 1 c q cap y G w (zMv HNO.out k6).1 (zMv HNO.out k6).2 h1 h2 (hss y (List.mem_singleton.2 rfl)) (by simpa [zAU] using hkl)
     have hr:zE9 d (.mk d (xs.map (·.1))) ([y].map (·.1))=zBU d y.1:=by unfold zE9;rw[if_neg k7,if_neg k4,if_neg k5,if_pos k6];rfl
     have HF:=Lib.hid (show zCd sb (.int .i64 d.kind)=some (.func (.func 39) #[.pointer (some ⟨sb,0,none⟩)] #[]) by simp[zCd,k6])
     rw[hr]at ER;have HER:=Lib.hid ER;clear ER hr hsl hkl hss k6 HNO
     generalize (zBU d y.1)=o at hR HER
     go_upto_region 8 with (first|((with_reducible refine kg 8 ?_);(first|refine kA 8 H ?_|refine kS 8 H ?_|refine kB 8 H ?_);clear H;intro b8 w H;try simp only[nr]at H)|(first|((with_reducible refine gTz ?_);refine aTz H ?_;clear H;intro w H;try simp only[nr]at H)|((with_reducible refine gBz ?_);refine zb ?_)|((with_reducible refine gL ?_);refine aD H ?_)))
     refine wr_ 12 [fun v _=>v=pt sb 0,fun v _=>v=pt sb 0,fun v _=>v=pt sb 0,fun v _=>v=.map (some mb),fun v _=>v=pt b3 0,fun v _=>v=.int .i64 (d).kind,fun v _=>v=.tuple #[.func (.func 39) #[.pointer (some ⟨sb,0,none⟩)] #[],.bool true],fun v _=>v=.tuple #[.func (.func 39) #[.pointer (some ⟨sb,0,none⟩)] #[],.bool true],fun v _=>v=.func (.func 39) #[.pointer (some ⟨sb,0,none⟩)] #[],fun v _=>v=.bool true,fun v _=>v=.func (.func 39) #[.pointer (some ⟨sb,0,none⟩)] #[],fun v _=>v=.bool true] ?ob ?en
     case ob =>
      refine⟨?_,?_,?_,?_,?_,?_,?_,?_,?_,?_,?_,?_,trivial⟩<;>intro A W h
      ·exact zAH rfl rfl (h.f 0)
      ·(have e28:A.eval (.tmp 28)=.pointer (some ⟨sb,0,none⟩):=h.d 0 28;refine zAA rfl ?_;simp only[execOp,e28];simp[go_sem])
      ·(have e29:A.eval (.tmp 29)=.pointer (some ⟨sb,0,none⟩):=h.d 1 29;refine zAA rfl ?_;simp only[execOp,e29];simp[go_sem])
      ·exact zAA rfl (zAD rfl (h.d 2 30) zDO (SimK.load ((H.call h.below).kn (i:=1) i_1))) (by decide)
      ·(have e3:A.eval (.tmp 3)=.pointer (some ⟨b3,0,none⟩):=h.f 3;refine zAA rfl ?_;simp only[execOp,e3];simp[go_sem])
      ·exact zAA rfl (zAD rfl (h.d 4 32) (by first|(with_reducible exact zAC)|(with_reducible exact one_u8)|(with_reducible exact zA9)|(with_reducible exact one_str)|(with_reducible exact zAh)|(with_reducible exact one_u64)|(with_reducible exact zAz)) ((H.call h.below).cell (i:=2) i_2 0)) (by decide)
      ·exact zAA rfl (zFl rfl HET.out.1 (h.d 3 31) (h.d 5 33) ((H.call h.below).kn (i:=1) i_1) HF.out) (by decide)
      ·exact zAH rfl rfl (h.d 6 34)
      ·(have e27:A.eval (.tmp 27)=.tuple #[.func (.func 39) #[.pointer (some ⟨sb,0,none⟩)] #[],.bool true]:=h.d 7 27;refine zAA rfl ?_;simp only[execOp,e27];simp[go_sem])
      ·(have e27:A.eval (.tmp 27)=.tuple #[.func (.func 39) #[.pointer (some ⟨sb,0,none⟩)] #[],.bool true]:=h.d 7 27;refine zAA rfl ?_;simp only[execOp,e27];simp[go_sem])
      ·exact zBm rfl rfl (h.d 8 35)
      ·exact zBm rfl rfl (h.d 9 36)
     case en =>
      intro vals W hbw hv _;simp only[fa,Nat.reduceAdd];rw[e_ hv 0,e_ hv 1,e_ hv 2,e_ hv 3,e_ hv 4,e_ hv 5,e_ hv 6,e_ hv 7,e_ hv 8,e_ hv 9,e_ hv 10,e_ hv 11];clear hv
      try simp only[pl]
      replace H:=H.call hbw
      cases o with
      | none =>
       have HO:=Lib.hid (show zAn (.mk d (xs.map (·.1)))=none by rw[HER.out];rfl)
       go_wp2_with (first|(go_at_call 39;refine zCI (hR _ (H.knlt (i:=4) i_4) (H.kn (i:=4) i_4)) H ?_;clear H;intro w H)|((with_reducible refine gL ?_);refine aD H ?_))
       exact⟨rfl,SizOut.none HO.out,H.below⟩
      | some s =>
       by_cases hs:zAB s<=2000
       ·have HO:=Lib.hid (show zAn (.mk d (xs.map (·.1)))=some s by rw[HER.out];exact zDl hs)
        have ds:decide ((zAB s:Int)<=2000)=true:=by simp;omega
        go_wp2_with (first|(go_at_call 39;refine chz (hR _ (H.knlt (i:=4) i_4) (H.kn (i:=4) i_4)) H (Still.at (i:=4) i_4) ?_;clear H;intro q1 m1 F1 w hF1 H;simp only[ca]at H)|(first|((with_reducible refine gTz ?_);refine aTz H ?_;clear H;intro w H;try simp only[nr]at H)|((with_reducible refine gLz ?_);refine aLz H ?_)|((with_reducible refine gL ?_);refine aGz H ?_)|((with_reducible refine gL ?_);refine aD H ?_))|((with_reducible refine ch (zBt _) H ?_);clear H;intro w H))
        refine xcz Tryz.results41 H ?_
        exact⟨SizOut.some HO.out (H.kn (i:=6) i_6) (fun z h=>⟨H.knlt (i:=6) i_6 z h,(hF1 z h).elim .inl (hGl z)⟩),H.below⟩
       ·have HO:=Lib.hid (show zAn (.mk d (xs.map (·.1)))=none by rw[HER.out];exact zCG (by omega))
        have ds:decide ((zAB s:Int)<=2000)=false:=by simp;omega
        go_wp2_with (first|(go_at_call 39;refine chz (hR _ (H.knlt (i:=4) i_4) (H.kn (i:=4) i_4)) H (Still.at (i:=4) i_4) ?_;clear H;intro q1 m1 F1 w hF1 H;simp only[ca]at H)|(first|((with_reducible refine gTz ?_);refine aTz H ?_;clear H;intro w H;try simp only[nr]at H)|((with_reducible refine gL ?_);refine aGz H ?_)|((with_reducible refine gL ?_);refine aD H ?_))|((with_reducible refine ch (zCP _) H ?_);clear H;intro w H))
        exact⟨rfl,SizOut.none HO.out,H.below⟩
    have h0:n=0:=by
     have h1:=zPB HNO.out k4 k5 k6 k7;rw[List.length_map,← HN.out]at h1;exact h1
    have hr:zE9 d (.mk d (xs.map (·.1))) (xa.map (·.1))=some (.mk d (xs.map (·.1))):=by unfold zE9;rw[if_neg k7,if_neg k4,if_neg k5,if_neg k6]
    have HF:=Lib.hid (show zCd sb (.int .i64 d.kind)=none by simp[zCd,k4,k5,k6,k7])
    obtain rfl:xs=[]:=List.length_eq_zero_iff.1 (by rw[← HN.out];exact h0)
    rw[hr]at ER;have HO:=Lib.hid (show zAn (.mk d [])=some (.mk d []) from ER.trans (zDl (by simp[zAB,zAF])))
    have hfor:∀ V,Knows F p n c [] V->ForestR V F p c []:=fun V hk=>by rw[h0]at hk;exact Knows.forest (xs:=[]) hk
    have H0:=Lib.hid h0;clear ER hr hsl hkl hss k4 k5 k6 k7 HNO h0
    go_upto_region 8 with (first|((with_reducible refine kg 8 ?_);(first|refine kA 8 H ?_|refine kS 8 H ?_|refine kB 8 H ?_);clear H;intro b8 w H;try simp only[nr]at H)|(first|((with_reducible refine gTz ?_);refine aTz H ?_;clear H;intro w H;try simp only[nr]at H)|((with_reducible refine gBz ?_);refine zb ?_)|((with_reducible refine gL ?_);refine aD H ?_)))
    refine wr_ 12 [fun v _=>v=pt sb 0,fun v _=>v=pt sb 0,fun v _=>v=pt sb 0,fun v _=>v=.map (some mb),fun v _=>v=pt b3 0,fun v _=>v=.int .i64 (d).kind,fun v _=>v=.tuple #[.nilFunc,.bool false],fun v _=>v=.tuple #[.nilFunc,.bool false],fun v _=>v=.nilFunc,fun v _=>v=.bool false,fun v _=>v=.nilFunc,fun v _=>v=.bool false] ?ob ?en
    case ob =>
     refine⟨?_,?_,?_,?_,?_,?_,?_,?_,?_,?_,?_,?_,trivial⟩<;>intro A W h
     ·exact zAH rfl rfl (h.f 0)
     ·(have e28:A.eval (.tmp 28)=.pointer (some ⟨sb,0,none⟩):=h.d 0 28;refine zAA rfl ?_;simp only[execOp,e28];simp[go_sem])
     ·(have e29:A.eval (.tmp 29)=.pointer (some ⟨sb,0,none⟩):=h.d 1 29;refine zAA rfl ?_;simp only[execOp,e29];simp[go_sem])
     ·exact zAA rfl (zAD rfl (h.d 2 30) zDO (SimK.load ((H.call h.below).kn (i:=1) i_1))) (by decide)
     ·(have e3:A.eval (.tmp 3)=.pointer (some ⟨b3,0,none⟩):=h.f 3;refine zAA rfl ?_;simp only[execOp,e3];simp[go_sem])
     ·exact zAA rfl (zAD rfl (h.d 4 32) (by first|(with_reducible exact zAC)|(with_reducible exact one_u8)|(with_reducible exact zA9)|(with_reducible exact one_str)|(with_reducible exact zAh)|(with_reducible exact one_u64)|(with_reducible exact zAz)) ((H.call h.below).cell (i:=2) i_2 0)) (by decide)
     ·exact zAA rfl (zKR rfl HET.out.1 HET.out.2 (h.d 3 31) (h.d 5 33) ((H.call h.below).kn (i:=1) i_1) HF.out) (by decide)
     ·exact zAH rfl rfl (h.d 6 34)
     ·(have e27:A.eval (.tmp 27)=.tuple #[.nilFunc,.bool false]:=h.d 7 27;refine zAA rfl ?_;simp only[execOp,e27];simp[go_sem])
     ·(have e27:A.eval (.tmp 27)=.tuple #[.nilFunc,.bool false]:=h.d 7 27;refine zAA rfl ?_;simp only[execOp,e27];simp[go_sem])
     ·exact zBm rfl rfl (h.d 8 35)
     ·exact zBm rfl rfl (h.d 9 36)
    case en =>
     intro vals W hbw hv _;simp only[fa,Nat.reduceAdd];rw[e_ hv 0,e_ hv 1,e_ hv 2,e_ hv 3,e_ hv 4,e_ hv 5,e_ hv 6,e_ hv 7,e_ hv 8,e_ hv 9,e_ hv 10,e_ hv 11];clear hv
     try simp only[pl]
     replace H:=H.call hbw
     go_wp2_with (first|(first|((with_reducible refine gTz ?_);refine aTz H ?_;clear H;intro w H;try simp only[nr]at H)|((with_reducible refine gLz ?_);refine aLz H ?_)|((with_reducible refine gL ?_);refine aGz H ?_))|((with_reducible refine ch (zBt _) H ?_);clear H;intro w H))
     refine xcz Tryz.results41 H ?_
     refine⟨?_,H.below⟩;have hz:=SizOut.some (w:=w0) (G:=F) (t:=.mk d []) HO.out (hfor _ (H.kn (i:=0) .zero)) (fun z h=>⟨H.knlt (i:=0) .zero z h,.inr h⟩)
     rw[H0.out];exact hz
end
section
open Go.RowKit Go.Shelf
attribute [local go_sem] Oper.semAt_some
theorem zKp (W:World):(Instr.buildSlice 26 0 #[]).run Tryz.prog W=.ok (.slice (some ⟨W.heap.size,0,none⟩) 0 0) (W.alloc (.cells #[] 28)):=by kernel_rfl
def OwnN (w:World) (xs:List TV) (e:Ending) (w':World):Prop:=∃ q c,e=.returned (.slice q xs.length c)/\w'.ownsRow w.heap.size 28 10 (.slice q xs.length c) xs.length (zAG (xs.map zAT))/\Below w.heap.size w w'
theorem chON {M:Nat->Prop} {P:Program} {f:FuncId} {args:Array Value} {w w0:World} {l:List Res} {xs:List TV} {N:Nat} {R:Ending->World->Prop} (hN:xs.length=N) (c:Calls P f args w (OwnN w xs)) (H:HoldG M w0 w l)
  (k:∀ q n w',HoldG M w0 w' (l++[.row (.slice q N n) 28 10 N (zAG (xs.map zAT))])->R (.returned (.slice q N n)) w'):Calls P f args w R:=by
 subst hN;exact c.mono fun _ w' ⟨q,n,e,ho,hb⟩=>by subst e;exact k q n w' (H.gainRowZ hb ho)
theorem Knows.none0 {F:Nat->Prop} {n c:Nat} {xs:List TV} {W:World} (h:Knows F none n c xs W):n=0/\xs=[]/\c=0:=by
 have hb:=h.bound;have h0:=h.at
 by_cases hx:0<xs.length
 ·obtain⟨b,off,e⟩:=h0 hx;cases e
 ·have hx0:xs=[]:=List.length_eq_zero_iff.1 (by omega)
  obtain⟨p,c',e1,h1,h2,h3,_⟩:=h.1;simp only[Value.slice.injEq]at e1;obtain⟨rfl,e2,rfl⟩:=e1;exact⟨by rw[hb.1,hx0];rfl,hx0,h3 rfl⟩
theorem zNA {o:Oper} {a:Act} {w:World} {x y:Operand} {U:TypeId} {p:Option Addr} {n c:Nat} (hop:o.op=.binOp .eql 26 x y U) (hx:a.eval x=.slice p n c) (hy:a.eval y=.slice none 0 0):(execOp a.eval o).run Tryz.prog w=.ok (.value (.bool p.isNone)) w:=by
 simp only[execOp,hop,hx,hy];simp[go_sem,binOp,run_equal_slice_nil w 26 _ p n c Tryz.underlying26]
section
variable {ops:Array Oper} {dst:Option Tmp} {ty:TypeId} {pos:String} {aft:Array Edge} {grd:Option (Nat × Bool)} {rest:List Oper} {a:Act} {w:World} {Q:Exit->Act->World->Prop}
theorem gENn {U:TypeId} {x y:Operand} (h:wpList Tryz.prog ops Q ((⟨dst,.binOp .eql 26 x y U,ty,pos,aft,grd⟩:Oper)::rest) a w):wpList Tryz.prog ops Q ((⟨dst,.binOp .eql 26 x y U,ty,pos,aft,grd⟩:Oper)::rest) a w:=h
theorem eNn {U:TypeId} {x y:Operand} {p:Option Addr} {n c:Nat} (h:wpList Tryz.prog ops Q rest (a.put dst (.bool p.isNone)) w) (hg:Region.wanted (⟨dst,.binOp .eql 26 x y U,ty,pos,aft,grd⟩:Oper) (yielded ops a.tmps)=true:=by first|rfl|exact zAQ rfl (zAI rfl (by first|rfl|(simp only[pe];rfl)))) (hx:a.eval x=.slice p n c:=by first|(simp only[pe];done)|(simp only[pe];rfl)) (hy:a.eval y=.slice none 0 0:=by rfl):wpList Tryz.prog ops Q ((⟨dst,.binOp .eql 26 x y U,ty,pos,aft,grd⟩:Oper)::rest) a w :=
 zAK hg (zNA rfl hx hy) h
end
theorem zMZ (q:Option Addr) (n c:Nat) (xs:List TV) (F:Nat->Prop) (w0:World) (hn:n<=1000000) (hF:∀ b,F b->b<w0.heap.size) (h:Knows F q n c xs w0) :
  Calls Tryz.prog 97 #[.slice q n c] w0 fun e w'=>OwnN w0 xs e w':=by
 have H:=Hold.knows hF h;obtain⟨i0,hi0,hz0,hz1,hz2⟩:=info_parts zDo;have hl:=h.bound.1
 cases q with
 | none =>
  obtain⟨rfl,rfl,rfl⟩:=h.none0;clear h hl hn H;have H:=Hold.start w0
  go_enter Tryz.func97,Tryz.ntmps97
  go_wp2_with (first|((with_reducible refine gENn ?_);refine eNn ?_)|fail)
  go_ret;exact⟨none,0,rfl,World.ownsRow_nil _ _ _ _,H.below⟩
 | some ad =>
  clear h;have HL:=Lib.hid hl;clear hl
  go_enter Tryz.func97,Tryz.ntmps97
  go_wp2_with (first|((with_reducible refine gENn ?_);refine eNn ?_)|((with_reducible refine gBS ?_);refine zAY wtd_ _ _ _ rfl H #[] 28 (by intro W;simp only[List.map_toArray,List.map_nil];exact zKp W) ?_;clear H;intro bk w H;(have H2:=H.blkRowQ (i:=1) (sz:=10) (n:=0) i_1 id rfl (by decide));clear H;(have H:=H2);clear H2;simp only[List.cons_append,List.nil_append,List.set_cons_succ,List.set_cons_zero]at H)|(at_builtin;refine zBC rfl _ _ 26 rfl H (i:=1) evd_ evd_ i_1 (H.kn (i:=0) .zero).1 (zBy _) Tryz.underlying26 hi0 hz0 hz1 hz2 rfl (by decide) (zGL _) (by unfold maxLen;omega) (by omega) ?_;clear H;intro v2 w H;try simp only[nr]at H)|fail)
  go_ret;rw[Nat.zero_add]at H;obtain⟨q2,c2,rfl,_,_,_⟩:=H.rowShape (i:=1) i_1;rw[HL.out]at H;refine⟨q2,c2,?_,H.all 1 _ rfl,H.below⟩;rw[← HL.out];rfl
def zMV (n0:Nat) (G:Nat->Prop) (t:Tree) (v:Value) (W:World):Prop:=∃ q c F,v=zAV t.d (.slice q t.kids.length c)/\ForestR W F q c t.kids/\∀ z,F z->z<W.heap.size/\(n0<=z\/G z)
theorem zHS (n0:Nat) (G:Nat->Prop) (t:Tree):zGT (zMV n0 G t):=fun _ _ _ ⟨q,c,F,e,h1,h2⟩ hb=>⟨q,c,F,e,h1.kept (fun z hz=>hb.block z (h2 z hz).1),fun z hz=>⟨Nat.lt_of_lt_of_le (h2 z hz).1 hb.size,(h2 z hz).2⟩⟩
theorem zLE {n0:Nat} {G:Nat->Prop} {t:Tree} {W:World} {D:Prop} (hn:n0<=W.heap.size) (hD:¬ D) (e:Ending) (w':World) (h:zCf W G t e w'/\Below W.heap.size W w'):∃ v,e=.returned v/\Below W.heap.size W w'/\(zMV n0 G t v w'/\(D->W.heap.size<=blk v)):=by
 obtain⟨⟨q,c,F,rfl,h1,h2⟩,hb⟩:=h;exact⟨_,rfl,hb,⟨q,c,F,rfl,h1,fun z hz=>⟨(h2 z hz).1,(h2 z hz).2.imp (fun h=>Nat.le_trans hn h) id⟩⟩,fun h=>(hD h).elim⟩
theorem zNc (d:NodeD) (s v:Value):(zAR d s).setIfInBounds 5 v=zAR d v:=rfl
theorem zN7 {α:Type} (ya xs:List α) (j:Nat) (x y:α) (hj:ya.length=j) (hx:xs[j]?=some x):(ya++xs.drop j).set j y=(ya++[y])++xs.drop (j+1):=by
 rw[List.set_append_right _ _ (by omega),hj,Nat.sub_self,zCr hx,List.set_cons_zero,List.append_assoc];rfl
theorem zHz:∀ (m:Nat) (t:Tree) (p:Option Addr) (n c:Nat) (F:Nat->Prop) (w0:World),zAB t<=m->m<=1000000->(∀ b,F b->b<w0.heap.size)->ForestR w0 F p c t.kids->n=t.kids.length ->
  Calls Tryz.prog 40 #[zAV t.d (.slice p n c)] w0 fun e w'=>zCf w0 (fun _=>False) t e w'/\Below w0.heap.size w0 w'
 | 0,t,_,_,_,_,_,hm,_,_,_,_=>by have:=zBX t;omega
 | m+1,.mk d ts,p,n,c,F,w0,hm,hm2,hF,h,hn=>by
  have IH:=zHz m;obtain⟨i0,hi0,hz0,hz1,hz2⟩:=info_parts zDo;simp only[Tree.kids,Tree.d]at h hn ⊢;obtain⟨xs,h1,h2,rfl⟩:=h.open;have hn':=hn;rw[List.length_map]at hn;rw[← hn]at h1;have hK:Knows F p n c xs w0:=⟨h1,h2⟩;clear h h1 h2;have H:=Hold.knows hF hK;have hc1:=hK.bound.2.1;have hc2:=hK.bound.2.2;clear hK;simp only[zAB]at hm;have hnl:n<=1000000:=by have:=zBp (xs.map (·.1));rw[List.length_map]at this;omega
  have hcl:=fun w (h1:∀ b,F b->b<w.heap.size) (h2:Knows F p n c xs w)=>zMZ p n c xs F w hnl h1 h2
  have HN:=Lib.hid hn;have HN2:=Lib.hid hn';clear hn hn'
  go_enter Tryz.func40,Tryz.ntmps40
  go_wp2_with (first|(go_at_call 97;refine chON HN.out.symm (hcl _ (H.knlt .zero) (H.kn .zero)) H ?_;clear H;intro vq vc w H;simp only[ca]at H)|((with_reducible refine gT ?_);refine zAi wtd_ _ _ _ rfl rfl evd_ H (i:=1) i_1 rfl (by show 5<10;omega) (by with_reducible exact zAE zAz) ?_;clear H;intro w H;(rw[zNc]at H);try simp only[nr]at H)|((with_reducible refine kg 1 ?_);(first|refine kA 1 H ?_|refine kS 1 H ?_|refine kB 1 H ?_);clear H;intro b1 w H;try simp only[nr]at H)|((with_reducible refine kg 2 ?_);(first|refine kA 2 H ?_|refine kS 2 H ?_|refine kB 2 H ?_);clear H;intro b2 w H;try simp only[nr]at H)|((with_reducible refine gL ?_);refine aG H ?_))
  replace H:=H.know (fun _=>False) (fun V=>ListR V (fun _=>False) []) (fun _ h=>h.elim) (fun _ _ _ _ _ h=>h) (fun V _=>ListR.nil _ _)
  simp only[ca]at H;clear hcl
  go_loopw [11] (fun ix wr=>∃ (j:Nat) (ya:List TV) (Fa:Nat->Prop),j<=n/\ix=.int .i64 j/\ya.length=j/\Hid (ya.map (·.1)=(xs.map (·.1)).take j)/\(∀ b,Fa b->w0.heap.size<=b)/\Hold w0 wr [.kn F (Knows F p n c xs),.blk b1 (zAR d (.slice vq n vc)) 28,.blk b2 (zAR {kind:=0} nilS) 28,.row (.slice vq n vc) 28 10 n (zAG ((ya++xs.drop j).map zAT)),.kn Fa (fun V=>ListR V Fa ya)]) (fun ix _=>n+1 - (intOf ix).toNat)
  case atStart=>exact⟨0,[],fun _=>False,by omega,rfl,rfl,Lib.hid rfl,fun _ h=>h.elim,H⟩
  case round =>
   clear H;obtain⟨j,ya,Fa,hj,rfl,hyl,E,hFa,H⟩:=hrel
   by_cases hlt:j<n
   ·have dj:decide ((j:Int)<(n:Int))=true:=by simp;omega
    obtain⟨x,hx⟩:∃ x,xs[j]?=some x:=⟨_,List.getElem?_eq_getElem (by rw[← HN.out];exact hlt)⟩
    obtain⟨q',c',hv,hr1,hr2,hq⟩:=H.rowShape (i:=3) i_3;simp only[Value.slice.injEq]at hv;obtain⟨rfl,_,rfl⟩:=hv;obtain⟨g,rfl⟩:=hq (by omega)
    have hs1:=zGd hx;have hmem:=List.mem_of_getElem? hx;have hlen:((ya++xs.drop j).map zAT).length=n:=by rw[List.length_map,List.length_append,List.length_drop,hyl,← HN.out];omega
    have hget:((ya++xs.drop j).map zAT)[j]?=some (zAT x):=by rw[List.getElem?_map,List.getElem?_append_right (by omega),hyl,Nat.sub_self,zCr hx];rfl
    have hset:((ya++xs.drop j).map zAT).set j=fun v=>((ya++xs.drop j).map zAT).set j v:=rfl
    have ih:=fun w (hw:∀ b,F b->b<w.heap.size) (hk:Knows F p n c xs w)=>IH x.1 x.2.1 x.1.kids.length x.2.2 F w (by omega) (by omega) hw (hk.2 x hmem) rfl
    have E2:=Lib.hid (show ya.map (·.1)++[x.1]=(xs.map (·.1)).take (j+1) by rw[E.out,zBb (i:=j) (x:=x.1) (by rw[List.getElem?_map,hx];rfl)])
    have HS:=Lib.hid fun y=>zN7 ya xs j x y hyl hx
    have HY:=Lib.hid hyl;have HL:=Lib.hid hlen;have HG:=Lib.hid hget;clear IH hx hmem hs1 hyl hlen hget hset hq
    go_upto_region 5 with (first|fail)
    refine zAg 10 [fun v _=>v=pt b1 5,fun v _=>v=.slice (some ⟨g,0,none⟩) n vc,fun v _=>v=.int .i64 j,fun v _=>v=pt b1 5,fun v _=>v=.slice (some ⟨g,0,none⟩) n vc,fun v _=>v=.int .i64 j,fun v _=>v=.pointer (some ⟨g,j * 10,none⟩),fun v _=>v=zAV x.1.d (.slice x.2.1 x.1.kids.length x.2.2),zMV wr.heap.size (fun _=>False) x.1,fun v _=>v=.pointer (some ⟨g,j * 10,none⟩)] (fun _=>false) (by kernel_rfl) (by kernel_rfl) (by kernel_rfl) (by repeat (first|exact trivial|refine⟨zAL _,?_⟩|refine⟨zHS _ _ _,?_⟩)) (fun _ _ h=>by cases h) ?ob ?en
    case ob =>
     refine⟨?_,?_,?_,?_,?_,?_,?_,?_,?_,?_,trivial⟩<;>intro A W h
     ·(have e1:A.eval (.tmp 1)=.pointer (some ⟨b1,0,none⟩):=h.f 1;refine zAA rfl ?_;simp only[execOp,e1];(simp[go_sem]<;>first|done|omega|(rw[IntKind.wrap_i64];omega)|(rw[IntKind.wrap_u8];omega)|(rw[IntKind.wrap_u64];omega)))
     ·exact zAA rfl (zAD rfl (h.d 0 14) (by first|(with_reducible exact zAC)|(with_reducible exact one_u8)|(with_reducible exact zA9)|(with_reducible exact one_str)|(with_reducible exact zAh)|(with_reducible exact one_u64)|(with_reducible exact zAz)) ((H.call h.below).cell (i:=1) i_1 5)) (by decide)
     ·exact zAH rfl rfl (h.f 3)
     ·(have e1:A.eval (.tmp 1)=.pointer (some ⟨b1,0,none⟩):=h.f 1;refine zAA rfl ?_;simp only[execOp,e1];(simp[go_sem]<;>first|done|omega|(rw[IntKind.wrap_i64];omega)|(rw[IntKind.wrap_u8];omega)|(rw[IntKind.wrap_u64];omega)))
     ·exact zAA rfl (zAD rfl (h.d 3 17) (by first|(with_reducible exact zAC)|(with_reducible exact one_u8)|(with_reducible exact zA9)|(with_reducible exact one_str)|(with_reducible exact zAh)|(with_reducible exact one_u64)|(with_reducible exact zAz)) ((H.call h.below).cell (i:=1) i_1 5)) (by decide)
     ·exact zAH rfl rfl (h.f 3)
     ·exact zBr (sz:=10) Tryz.underlying26 (fun w=>by kernel_rfl) rfl rfl (h.d 4 18) (h.d 5 19) (by omega) (by omega)
     ·exact zAA rfl (zAb rfl (h.d 6 20) zAP rfl ((H.call h.below).rowCell (i:=3) i_3 (zBy _) HL.out HG.out (by omega))) (by decide)
     ·exact zIg rfl rfl (enters_of Tryz.func40 (by kernel_rfl) rfl) (zNX (h.d 7 21)) ((ih W ((H.call h.below).knlt (i:=0) .zero) ((H.call h.below).kn (i:=0) .zero)).mono (zLE h.below.size (by decide)))
     ·exact zBr (sz:=10) Tryz.underlying26 (fun w=>by kernel_rfl) rfl rfl (h.d 1 15) (h.d 2 16) (by omega) (by omega)
    case en =>
     intro vals W hbw hv _;have x8:=hv 8 (by omega);simp only[zAe]at x8
     simp only[fa,Nat.reduceAdd];rw[e_ hv 0,e_ hv 1,e_ hv 2,e_ hv 3,e_ hv 4,e_ hv 5,e_ hv 6,e_ hv 7,e_ hv 9];clear hv
     try simp only[pl]
     obtain⟨q1,m1,F1,e8,hs8,hF8⟩:=x8;rw[e8];have H2:=H.learn hbw Still.none hF8 (fun V hV=>hs8.kept hV)
     have hF1:∀ b,F1 b->w0.heap.size<=b:=fun b hb=>Nat.le_trans H.below.size ((hF8 b hb).2.elim id False.elim)
     clear H e8 hs8 hF8 hbw;have H:=H2;clear H2;simp only[ca]at H
     try simp only[pl]
     go_wp2_with (first|((with_reducible refine gT ?_);refine zBH wtd_ _ _ _ rfl rfl (i:=j) rfl evd_ H (j:=3) i_3 (zBy _) HL.out (by with_reducible exact zAr zAP) rfl rfl (by omega) ?_;clear H;intro w H;try simp only[nr]at H)|fail)
     rw[show ((ya++xs.drop j).map zAT).set j (zAR x.1.d (.slice q1 x.1.kids.length m1))=((ya++[((x.1,q1,m1):TV)])++xs.drop (j+1)).map zAT by rw[← HS.out (x.1,q1,m1),List.map_set]]at H
     have H2:=H.also (fun z=>Fa z\/F1 z) (fun V=>ListR V (fun z=>Fa z\/F1 z) (ya++[(x.1,q1,m1)])) ((Still.at (i:=4) i_4).or (Still.at (i:=5) i_5)) (fun V hV=>(ListR.append ((H.kn (i:=4) i_4).mono (fun _ h=>.inl h)) (ListR.one ((H.kn (i:=5) i_5).mono (fun _ h=>.inr h)))).kept hV)
     clear H;go_roundw
     case rel=>exact⟨j+1,ya++[(x.1,q1,m1)],fun z=>Fa z\/F1 z,by omega,by go_num,by rw[List.length_append,HY.out];rfl,Lib.hid (by rw[List.map_append];exact E2.out),fun b h=>h.elim (hFa b) (hF1 b),H2.pick [0,1,2,3,6] _ (by decide) rfl⟩
     case measure=>simp[intOf];omega
   ·have hjn:j=n:=by omega
    have dj:decide ((j:Int)<(n:Int))=false:=by simp;omega
    have e1:ya++xs.drop j=ya:=by rw[List.drop_of_length_le (by rw[← HN.out];omega),List.append_nil]
    have EX:=Lib.hid (show ya.map (·.1)=xs.map (·.1) by rw[E.out,List.take_of_length_le (by rw[List.length_map,← HN.out];omega)])
    rw[e1]at H;obtain⟨G,hG,H2⟩:=H.rowForest (i:=3) (xs:=ya) (K:=Fa) i_3 (by omega) (Still.at (i:=4) i_4) (H.kn (i:=4) i_4)
    clear H e1;have H:=H2;clear H2;simp only[sc]at H;clear hyl hjn
    go_wp2_with (first|(first|((with_reducible refine gT ?_);(refine aT H ?_;clear H;intro w H;try simp only[nr]at H))|((with_reducible refine gL ?_);refine aD H ?_)))
    (refine xc Tryz.results40 H ?_)
    refine⟨⟨vq,vc,G,?_,?_,fun b h=>⟨H.knlt (i:=3) i_3 b h,.inl ((hG b h).elim id (hFa b))⟩⟩,H.below⟩
    ·show Ending.returned (zAV d (.slice vq n vc))=Ending.returned (zAV d (.slice vq (xs.map (·.1)).length vc))
     rw[← HN2.out]
    ·have:=H.kn (i:=3) i_3;rw[EX.out]at this;exact this
end
section
open Go.RowKit Go.Shelf Go.MapKept
attribute [local go_sem] Oper.semAt_some
theorem zJA (n:Nat) (v2 v3:Value) (w:World):CallsDIn Fence.wide n Tryz.prog 35 #[v3,v2] .returning w fun e u' w'=>e=.returned (.tuple #[])/\u'=.returning/\w'=w:=by
 refine callsDIn_of_wpSIn Tryz.func35 rfl trivial fun c₀ cs hu=>?_
 apply wpSIn_seq;apply wpSIn_region;simp[wpOpsSIn,go_sem,recoverD,hu,Tryz.ntmps35,Exit.thenS];apply wpSIn_seq;apply wpSIn_region;simp[wpOpsSIn,go_sem,Exit.thenS];refine wpSIn_cond (t:=false) (by simp[Act.eval,Array.replicate]) ?_
 simp only[Bool.false_eq_true,if_false];refine wpSIn_of_wpIn rfl (wpIn_skip ?_)
 cases c₀
 simp_all [bodyPostS,results,Tryz.results35]
theorem zFP (x:Int) (w:World):(Instr.typeAssert (.iface 33 (.int .i64 x)) 20 33 true).run Tryz.prog w=.ok (.tuple #[.int .i64 x,.bool true]) w:=by kernel_rfl
def simL (b2 b3:Nat) (cs:Array Value) (x:Int):List Res:=[.blk b2 cs 28,.blk b3 #[.int .i64 x] 33]
theorem zHK (n b2 b3:Nat) (cs:Array Value) (x0:Int) (hs:cs.size=10) (x:Nat) {w0:World} (w:World) (H:HoldG (fun _=>False) w0 w (simL b2 b3 cs x0)) :
  CallsDIn Fence.wide n Tryz.prog 35 #[.pointer (some ⟨b3,0,none⟩),.pointer (some ⟨b2,0,none⟩)] (.panicking (zCH x)) w fun e u' w'=>e=.returned (.tuple #[]) /\
   u'=.panicking [{v:=.iface 33 (.int .i64 x),recovered:=true}]/\HoldG (fun _=>False) w0 w' (simL b2 b3 (zAR {kind:=0} nilS) x):=by
 have hta:=zFP x;refine callsDIn_of_wpSIn Tryz.func35 rfl trivial fun c₀ cs2 hu=>?_
 unfold zCH at hu;apply wpSIn_seq;apply wpSIn_region;simp[wpOpsSIn,go_sem,recoverD,hu,Tryz.ntmps35,Exit.thenS];apply wpSIn_seq;apply wpSIn_region;simp[wpOpsSIn,go_sem,Exit.thenS];refine wpSIn_cond (t:=true) (by simp[Act.eval,Array.replicate]) ?_
 simp only[if_true];refine wpSIn_of_wpIn rfl ?_
 rw[wpIn_wide];simp only[Array.replicate_succ,Array.replicate_zero,List.push_toArray,List.append_toArray,List.nil_append,List.cons_append,List.setIfInBounds_toArray,List.set_cons_succ,List.set_cons_zero];unfold simL at H
 go_upto_region 3 with fail
 refine wp_region_lit ?_
 refine zAK rfl (v:=.iface 33 (.int .i64 x)) rfl ?_
 refine zAK rfl (v:=.tuple #[.int .i64 x,.bool true]) (by simp[execOp,go_sem,Act.eval,Act.put,hta]) ?_
 refine zAK rfl (v:=.tuple #[.int .i64 x,.bool true]) rfl ?_
 refine zAK rfl (v:=.int .i64 x) rfl ?_
 refine zAK rfl (v:=.bool true) rfl ?_
 refine zAi rfl 33 _ _ rfl (b:=b3) (k:=0) rfl (v:=.int .i64 x) rfl H (i:=1) i_1 rfl (show 0<1 from Nat.one_pos) (zAE zBk) ?_
 clear H;intro w H;replace H:HoldG (fun _=>False) w0 w [.blk b2 cs 28,.blk b3 #[.int .i64 x] 33]:=H
 refine zAK rfl (v:=.bool true) rfl ?_
 go_wp2_with (first|((with_reducible refine gT ?_);refine zDx wtd_ _ _ _ rfl rfl evd_ H (i:=0) .zero (zAr zAP) rfl hs rfl ?_;clear H;intro w H;try simp only[nr]at H)|((with_reducible refine gZ ?_);refine nb0 ?_))
 simp[bodyPostS,results,Tryz.results35];exact H
theorem zBN {M:Nat->Prop} {P:Program} {ops:Array Oper} {rest:List Oper} {o:Oper} {a:Act} {w w0:World} {Q:Exit->Act->World->Prop} {l:List Res} (hg:Region.wanted o (yielded ops a.tmps)=true) (T:TypeId) (hop:o.op=.makeMap T none) (H:HoldG M w0 w l)
  (h:∀ mb w',HoldG M w0 w' (l++[.mp mb #[] 0])->wpList P ops Q rest (a.put o.dst (.map (some mb))) w'):wpList P ops Q (o::rest) a w :=
 zAo hg fun _ hK=>by
  unfold Oper.wp;have hr:(execOp a.eval o).run P w=.ok (.value (.map (some w.heap.size))) (w.alloc (.map #[] 0)):=by
   simp only[execOp,hop];simp[Instr.makeMap,newObj,go_sem];rfl
  rw[hr];exact hK _ _ (h _ _ (H.add (World.grownBy_alloc w _ none) ⟨H.keep.size,World.alloc_heap_new w _⟩ (fun b e=>by cases e;exact Nat.le_refl _)))
def zEP (d:TypeDesc) (F:Value->Option Value) (ks:List Value) (es:Array MapEntry):Prop:=Sub d F es/\∀ k ∈ ks,HasK es k
theorem zH1 (W:World) (b:Nat) (x:Obj):W.grownBy {W with heap:=W.heap.setIfInBounds b x} (some b) :=
 ⟨rfl,rfl,rfl,by simp,fun j hj hne=>by simp[Array.getElem?_setIfInBounds,show b≠j from fun e=>hne (by rw[e])]⟩
theorem zBf {M:Nat->Prop} {P:Program} {ops:Array Oper} {rest:List Oper} {o:Oper} {a:Act} {w w0:World} {Q:Exit->Act->World->Prop} {l:List Res} {d:TypeDesc} {F:Value->Option Value} {kt et:TypeId} {mb c i:Nat} {es:Array MapEntry} {ks:List Value} {k v:Value}
  (hg:Region.wanted o (yielded ops a.tmps)=true) (T:TypeId) (m x y:Operand) (hop:o.op=.insert T m x y) (hT:P.underlying T=some (.map kt et)) (hd:P.underlying kt=some d) (hm:a.eval m=.map (some mb)) (hx:a.eval x=k) (hy:a.eval y=v) (H:HoldG M w0 w l) (hi:At l i (.mp mb es c)) (hM:zEP d F ks es) (hk:IsKey d k) (hF:F k=some v)
  (h:∀ es' c' w',HoldG M w0 w' (l.set i (.mp mb es' c'))->zEP d F (k::ks) es'->wpList P ops Q rest (a.put o.dst undef) w'):wpList P ops Q (o::rest) a w :=
 zAo hg fun _ hK=>by
  have hmp:w0.heap.size<=mb/\w.heap[mb]?=some (.map es c):=H.all i _ hi.get;obtain⟨es',c',hr,g1,g2,g3⟩:=zKf (w:=w) hT hd hmp.2 hM.1 hk hF;have hlt:=(Array.getElem?_eq_some_iff.1 hmp.2).1;unfold Oper.wp;have hr':(execOp a.eval o).run P w=.ok .skip {w with heap:=w.heap.setIfInBounds mb (.map es' c')}:=by
   simp only[execOp,hop,hx,hy,hm,Sem.run_bind,hr,Result.andThen];rfl
  rw[hr'];refine hK _ _ (h es' c' _ (H.upd hi.get (zH1 w mb _) ⟨hmp.1,by simp[Array.getElem?_setIfInBounds,hlt]⟩ (fun _ e=>.inl e)) ⟨g1,fun q hq=>?_⟩)
  rcases List.mem_cons.1 hq with rfl|hq
  ·exact g2
  ·exact g3 q (hM.2 q hq)
theorem zP3 (sb:Nat):zCd sb (.int .i64 4)=some (.func (.func 36) #[.pointer (some ⟨sb,0,none⟩)] #[]):=by simp[zCd]
theorem zPp (sb:Nat):zCd sb (.int .i64 5)=some (.func (.func 37) #[.pointer (some ⟨sb,0,none⟩)] #[]):=by simp[zCd]
theorem zPt (sb:Nat):zCd sb (.int .i64 7)=some (.func (.func 38) #[.pointer (some ⟨sb,0,none⟩)] #[]):=by simp[zCd]
theorem zPV (sb:Nat):zCd sb (.int .i64 6)=some (.func (.func 39) #[.pointer (some ⟨sb,0,none⟩)] #[]):=by simp[zCd]
theorem zMx {sb:Nat} {es:Array MapEntry} (h:zEP (.int .i64) (zCd sb) [.int .i64 6,.int .i64 7,.int .i64 5,.int .i64 4] es):zHu (.int .i64) (zCd sb) es:=by
 refine⟨h.1,fun k v hv=>h.2 k ?_⟩
 unfold zCd at hv;split at hv
 ·rename_i n;split at hv
  ·rename_i e;rw[e];simp
  split at hv
  ·rename_i e;rw[e];simp
  split at hv
  ·rename_i e;rw[e];simp
  split at hv
  ·rename_i e;rw[e];simp
  ·cases hv
 ·cases hv
theorem zKX {o:Oper} {a:Act} {w:World} {x:Operand} {d:NodeD} {s:Value} {n:Int} (hop:o.op=.field 96 x 0) (hx:a.eval x=sizV d s n):(execOp a.eval o).run Tryz.prog w=.ok (.value (zAV d s)) w:=by
 have h:∀ W,(Instr.field 96 (sizV d s n) 0).run Tryz.prog W=.ok (zAV d s) W:=fun W=>by kernel_rfl
 simp only[execOp,hop,hx,Sem.run_bind,h];rfl
theorem zHh {P:Program} {fn:Func} {p q:Tmp} {T1 T2:TypeId} (hres:fn.results=#[.cell p T1,.cell q T2]) {tmps:Array Value} {w:World} {b2 b3 n:Nat}
  (h1:tmps.getD p undef=.pointer (some ⟨b2,0,none⟩)) (h2:tmps.getD q undef=.pointer (some ⟨b3,0,none⟩)) (t1:rowB P T1 n=true) (t2:oneB P T2=true)
  {cs:Array Value} {v2:Value} {M:Nat->Prop} {w0:World} {l:List Res} {i:Nat} {T:TypeId} (H:HoldG M w0 w l) (hi:At l i (.blk b2 cs T)) (hn:cs.size=n) (c2:w.cell? ⟨b3,0,none⟩=some v2):(results fn tmps).run P w=.ok (.tuple #[.agg cs,v2]) w:=by
 have e1:tmps[p]?.getD undef=.pointer (some ⟨b2,0,none⟩):=by simpa using h1
 have e2:tmps[q]?.getD undef=.pointer (some ⟨b3,0,none⟩):=by simpa using h2
 have hr:=H.run_row (T:=T1) hi t1 hn (k:=0) (fun j _=>by rw[Nat.zero_add])
 simp[results,hres,e1,e2,asAddr,hr,zBc t2 c2]
theorem zIJ (t:Tree) (p:Option Addr) (n c:Nat) (F:Nat->Prop) (w0:World) (hm:zAB t<=1000000000) (hF:∀ b,F b->b<w0.heap.size) (h:ForestR w0 F p c t.kids) (hn:n=t.kids.length) :
  Calls Tryz.prog 13 #[zAV t.d (.slice p n c)] w0 fun e w'=>zOe w0 (zBB t) e w'/\Below w0.heap.size w0 w':=by
 subst hn;have H:=(Hold.start w0).know F (fun V=>ForestR V F p c t.kids) hF (fun i r h=>by simp at h) (fun V hV=>h.kept hV)
 clear h;simp only[List.nil_append]at H;have hri:=fun w (h1:∀ b,F b->b<w.heap.size) (h2:ForestR w F p c t.kids)=>zNN t p c F w hm h1 h2
 refine callsIn_wide.1 (zBv (n:=9) Tryz.func13 rfl ?_);simp only[Tryz.ntmps13,List.size_toArray,List.length_cons,List.length_nil,Nat.reduceAdd,Nat.reduceSub,Array.replicate_succ,Array.replicate_zero,List.push_toArray,List.append_toArray,List.nil_append,List.cons_append]
 by_cases hr:zAk t=true/\zAB t<=2000
 ·have er:(zAk t&&decide ((zAB t:Int)<=2000))=true:=by rw[hr.1];simp;omega
  rw[er]at hri;obtain⟨et,het,hez⟩:=zIH;have HET:=Lib.hid het;clear het hez;have HR:=Lib.hid hr;have hof:=fun sb mb w (h1:∀ b,F b->b<w.heap.size) (h2:ForestR w F p c t.kids) (h3:∀ z,z=sb\/z=mb->z<w.heap.size) (h4:SimK sb mb w)=>zP7 sb mb (zAB t) t p t.kids.length c F w (Nat.le_refl _) hr.2 hr.1 h1 h2 rfl (h3 sb (.inl rfl)) (h3 mb (.inr rfl)) h4
  clear hr er;refine zBg ?_
  go_upto_region 6 with (first|((with_reducible show @wpList _ _ _ ({dst:=_,op:=Op.makeMap _ _,type:=_,pos:=_,after:=_,guard:=_}::_) _ _);refine zBN rfl _ rfl H ?_;clear H;intro mb w H;(try simp only[nr]at H);have hM:zEP (.int .i64) (zCd b11) [] (#[]:Array MapEntry):=⟨Sub.nil _ _,fun _ h=>by cases h⟩)|((with_reducible show @wpList _ _ _ ({dst:=_,op:=Op.insert _ _ _ _,type:=_,pos:=_,after:=_,guard:=_}::_) _ _);refine zBf rfl _ _ _ _ rfl HET.out zBh rfl rfl rfl H (i:=5) i_5 hM rfl (by first|exact zP3 _|exact zPp _|exact zPt _|exact zPV _) ?_;clear H hM;intro es ck w H hM;try simp only[nr]at H)|((with_reducible refine gT (T:=91) ?_);refine zAi wtd_ _ _ _ rfl rfl evd_ H (i:=4) i_4 rfl (by simp) (zAE zDO) ?_;clear H;intro w H;try simp only[nr]at H)|((with_reducible refine kg 1 ?_);(first|refine kA 1 H ?_|refine kS 1 H ?_|refine kB 1 H ?_);clear H;intro b1 w H;try simp only[nr]at H)|((with_reducible refine kg 2 ?_);(first|refine kA 2 H ?_|refine kS 2 H ?_|refine kB 2 H ?_);clear H;intro b2 w H;try simp only[nr]at H)|((with_reducible refine kg 3 ?_);(first|refine kA 3 H ?_|refine kS 3 H ?_|refine kB 3 H ?_);clear H;intro b3 w H;try simp only[nr]at H)|((with_reducible refine kg 11 ?_);(first|refine kA 11 H ?_|refine kS 11 H ?_|refine kB 11 H ?_);clear H;intro b11 w H;try simp only[nr]at H)|((with_reducible refine gL ?_);refine aD H ?_)|((with_reducible refine ch (hri _ (H.knlt .zero) (H.kn .zero)) H ?_);clear H;intro w H))
  have hmp:w0.heap.size<=mb/\w.heap[mb]?=some (.map es ck):=H.all 5 _ rfl;have hsk:SimK b11 mb w:=⟨es,ck,(H.blk (i:=4) i_4).2,hmp.2,zMx hM⟩;have H1:=H.rest (i:=5) i_5 (fun V=>V.heap[mb]?=some (.map es ck)) (fun V hV=>(hV mb rfl).trans hmp.2)
  have H2:=H1.restG (i:=4) i_4 (fun z=>z=b11\/z=mb) (SimK b11 mb) (fun z hz=>hz.elim (fun e=>.inl (by subst e;rfl)) (fun e=>.inr ⟨5,_,rfl,rfl,by subst e;rfl⟩)) (fun V hV=>hsk.kept hV)
  have H3:=H2.pick [0,1,2,3,4] [.kn F (fun V=>ForestR V F p c t.kids),.blk b1 (zAR t.d (.slice p t.kids.length c)) 28,.blk b2 (zAR {kind:=0} nilS) 28,.blk b3 #[.int .i64 0] 33,.kn (fun z=>z=b11\/z=mb) (SimK b11 mb)] (by decide) rfl
  clear H H1 H2 hmp hsk hM hri;have H:=H3;clear H3
  cases hs:zAn t with
  | none =>
   have E2:=Lib.hid (show zBB t=.error 7 by unfold zBB;rw[if_pos HR.out,hs])
   rw[hs]at hof;clear hs
   go_wp2_with (first|(go_at_call 41;refine zCI (hof _ _ _ (H.knlt .zero) (H.kn .zero) (H.knlt (i:=4) i_4) (H.kn (i:=4) i_4)) H ?_;clear H;intro w H)|((with_reducible refine gL ?_);refine aD H ?_))
   have H3:HoldG (fun _=>False) w0 w (simL b2 b3 (zAR {kind:=0} nilS) 0):=H.pick [2,3] _ (by decide) rfl
   refine⟨by simp,.inr ⟨fun _=>by omega,_,_,_,_,rfl,by simp[go_sem],fun g hg=>trivial,(zHK 8 b2 b3 _ _ rfl 7 _ H3).mono ?_⟩⟩
   rintro e u' W' ⟨rfl,rfl,H5⟩;refine⟨_,zHh Tryz.results13 rfl rfl zAP zBk H5 (i:=0) .zero rfl ((H5.cell (i:=1) i_1 0).trans rfl),?_,H5.below⟩;rw[E2.out];rfl
  | some s =>
   have E2:=Lib.hid (show zBB t=.ok s by unfold zBB;rw[if_pos HR.out,hs])
   have hsl:=zED hs;have hco:=fun w q m F1 (h1:∀ b,F1 b->b<w.heap.size) (h2:ForestR w F1 q m s.kids)=>zHz (zAB s) s q s.kids.length m F1 w (Nat.le_refl _) (by omega) h1 h2 rfl
   rw[hs]at hof;clear hs
   go_wp2_with (first|(go_at_call 41;refine chz (hof _ _ _ (H.knlt .zero) (H.kn .zero) (H.knlt (i:=4) i_4) (H.kn (i:=4) i_4)) H (Still.at (i:=0) .zero) ?_;clear H;intro q1 m1 F1 w hF1 H;simp only[ca]at H)|((with_reducible show @wpList _ _ _ ({dst:=_,op:=Op.field _ _ _,type:=_,pos:=_,after:=_,guard:=_}::_) _ _);refine zAK rfl (zKX rfl rfl) ?_)|(go_at_call 40;refine cht (hco _ _ _ _ (H.knlt (i:=5) i_5) (H.kn (i:=5) i_5)) H Still.none ?_;clear H;intro q2 m2 F2 w hF2 H;simp only[ca]at H)|(first|((with_reducible refine gT ?_);((first|refine aO H ?_|refine aT H ?_);clear H;intro w H;try simp only[nr]at H))|((with_reducible refine gL ?_);refine aD H ?_)))
   have H3:HoldG (fun _=>False) w0 w [.blk b2 (zAR s.d (.slice q2 s.kids.length m2)) 28,.blk b3 #[.int .i64 0] 33,.kn F2 (fun V=>ForestR V F2 q2 m2 s.kids)]:=H.pick [2,3,6] _ (by decide) rfl
   refine⟨by simp,.inr ⟨fun _=>by omega,_,_,_,_,rfl,by simp[go_sem],fun g hg=>trivial,(zJA 8 (.pointer (some ⟨b2,0,none⟩)) (.pointer (some ⟨b3,0,none⟩)) _).mono ?_⟩⟩
   rintro e u' W' ⟨rfl,rfl,rfl⟩;refine⟨_,zHh Tryz.results13 rfl rfl zAP zBk H3 (i:=0) .zero rfl ((H3.cell (i:=1) i_1 0).trans rfl),?_,H3.below⟩;rw[E2.out];exact⟨q2,m2,F2,rfl,H3.kn (i:=2) i_2,fun b h=>⟨H3.knlt (i:=2) i_2 b h,(hF2 b h).elim id False.elim⟩⟩
 ·have er:(zAk t&&decide ((zAB t:Int)<=2000))=false:=by
   cases hk:zAk t
   ·rfl
   ·simp only[Bool.true_and,decide_eq_false_iff_not];intro h;exact hr ⟨hk,by omega⟩
  rw[er]at hri;have E2:=Lib.hid (show zBB t=.error 2 by unfold zBB;rw[if_neg hr])
  clear hr er;refine zBg ?_
  go_wp2_with (first|((with_reducible refine kg 1 ?_);(first|refine kA 1 H ?_|refine kS 1 H ?_|refine kB 1 H ?_);clear H;intro b1 w H;try simp only[nr]at H)|((with_reducible refine kg 2 ?_);(first|refine kA 2 H ?_|refine kS 2 H ?_|refine kB 2 H ?_);clear H;intro b2 w H;try simp only[nr]at H)|((with_reducible refine kg 3 ?_);(first|refine kA 3 H ?_|refine kS 3 H ?_|refine kB 3 H ?_);clear H;intro b3 w H;try simp only[nr]at H)|(first|((with_reducible refine gT ?_);((first|refine aO H ?_|refine aT H ?_);clear H;intro w H;try simp only[nr]at H))|((with_reducible refine gL ?_);refine aD H ?_))|((with_reducible refine ch (hri _ (H.knlt .zero) (H.kn .zero)) H ?_);clear H;intro w H))
  refine⟨_,zHh Tryz.results13 rfl rfl zAP zBk H (i:=2) i_2 rfl ((H.cell (i:=3) i_3 0).trans rfl),?_,H.below⟩;rw[E2.out];rfl
end
end Go.Proofs.YtalggmbdpmdcbaaGreat
