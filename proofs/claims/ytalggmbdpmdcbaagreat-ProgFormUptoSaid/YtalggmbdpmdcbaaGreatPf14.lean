/-
  Laws of walks, and walks.
-/
import Derived.Test.YtalggmbdpmdcbaaGreatPf13
import Derived.Test.YtalggmbdpmdcbaaGreatPf9
import Derived.Test.YtalggmbdpmdcbaaGreatPf8
import Derived.Laws.Bits64b
set_option linter.unusedVariables false
set_option linter.unusedSimpArgs false
set_option maxRecDepth 100000
set_option maxHeartbeats 16000000
namespace Go.Proofs.YtalggmbdpmdcbaaGreat
section
open Go.RowKit Go.Shelf
attribute [local go_sem] Oper.semAt_some
def FlatZ (F:Nat->Prop) (p:Option Addr) (n c:Nat) (xs:List TV) (q:Option Addr) (m e:Nat) (ys xa:List TV) (V:World):Prop:=SKnows F p n c xs V/\Knows F q m e ys V/\ListR V F xa
theorem FlatZ.kept {F:Nat->Prop} {p q:Option Addr} {n c m e:Nat} {xs ys xa:List TV} {V W:World} (h:FlatZ F p n c xs q m e ys xa W) (hV:∀ b,F b->V.heap[b]?=W.heap[b]?):FlatZ F p n c xs q m e ys xa V:=⟨h.1.kept hV,h.2.1.kept hV,h.2.2.kept hV⟩
theorem Knows.nil0 (W:World) (F:Nat->Prop):Knows F none 0 0 [] W:=⟨RdN.nil ..,ListR.nil _ _⟩
theorem zEv (xs:List TV) (x:TV):zAG (xs.map sizX)++(sizC x.1.d (.slice x.2.1 x.1.kids.length x.2.2) (zAB x.1)).toList=zAG ((xs++[x]).map sizX):=by
 rw[List.map_append,zBI];simp[zAG]
theorem zLa (i o:Int) (p:Option Addr) (c:Nat) (xs:List TV) (F:Nat->Prop) (w0:World) (hF:∀ b,F b->b<w0.heap.size) (h:SKnows F p xs.length c xs w0) (hsz:zAF (xs.map (·.1))<=1000000000) :
  Calls Tryz.prog 90 #[.int .i64 i,.int .i64 o,.slice p xs.length c] w0 fun e w'=>zJf w0 F (zBK (xs.map (·.1)) i o) e w'/\Below w0.heap.size w0 w':=by
 obtain⟨i0,hi0,hz0,hz1,hz2⟩:=info_parts zDL;have hc1:=h.bound.2.1;have hc2:=h.bound.2.2;have hp:=h.at;have H:=(Hold.start w0).know F (FlatZ F p xs.length c xs none 0 0 [] []) hF (fun i r h=>by simp at h) (fun V hV=>FlatZ.kept ⟨h,Knows.nil0 ..,ListR.nil _ _⟩ hV)
 simp only[List.nil_append]at H;obtain⟨n,hnn⟩:∃ n,xs.length=n:=⟨_,rfl⟩;rw[hnn]at H hc1 ⊢;have HN:=Lib.hid hnn;clear hnn h;have HSZ:=Lib.hid hsz;clear hsz
 go_enter Tryz.func90,Tryz.ntmps90
 go_wp2_with (first|fail)
 replace H:=H.addNil 96 11;simp only[List.nil_append,List.cons_append]at H
 go_loopw [6,13] (fun v ix wr=>∃ (j:Nat) (xa:List TV),j<=n/\ix=.int .i64 j/\Hid (xa.map (·.1)=zBK ((xs.map (·.1)).take j) i o)/\Hold w0 wr [.kn F (FlatZ F p n c xs none 0 0 [] xa),.row v 96 11 xa.length (zAG (xa.map sizX))]) (fun _ ix _=>n+1 - (intOf ix).toNat)
 case atStart=>exact⟨0,[],by omega,rfl,Lib.hid (by simp[zBK]),H⟩
 case round =>
  clear H;obtain⟨j,xa,hj,rfl,E,H⟩:=hrel;have hla:xa.length<=1000000000:=by
   have h1:=zNv xs j i o;have h2:xa.length=(xa.map (·.1)).length:=(List.length_map ..).symm;have:=HSZ.out;rw[h2,E.out];omega
  by_cases hlt:j<n
  ·have dj:decide ((j:Int)<(n:Int))=true:=by simp;omega
   obtain⟨x,hx⟩:∃ x,xs[j]?=some x:=⟨_,List.getElem?_eq_getElem (by rw[HN.out];exact hlt)⟩
   obtain⟨b,off,rfl⟩:=hp (by rw[HN.out];omega)
   have hs1:=zGd hx;have hmem:=List.mem_of_getElem? hx;have EF:=Lib.hid (zLR hx i o);have hcell:∀ V xa,FlatZ F (some ⟨b,off,none⟩) n c xs none 0 0 [] xa V->∀ k,k<11->V.cell? ⟨b,off+j * 11+k,none⟩=(sizX x)[k]?:=fun V xa h=>h.1.cells hx rfl
   have his:=fun w k=>zL8 x.1.d (.slice x.2.1 x.1.kids.length x.2.2) (zAB x.1) k w
   clear hp hx
   by_cases hi:x.1.d.kind=i
   ·have di:(x.1.d.kind == i)=true:=by rw[beq_iff_eq];exact hi
    obtain⟨ys,hy1,hy2,hy3⟩:=((H.kn (i:=0) .zero).1.2 x hmem).open;have hyl:x.1.kids.length=ys.length:=by rw[hy3,List.length_map]
    have hys:zAF (ys.map (·.1))<=1000000000:=by
     have h2:=zC0 x.1;have:=HSZ.out;rw[hy3]at h2;omega
    have hyn:ys.length<=1000000000:=by
     have:=zBp (ys.map (·.1));rw[List.length_map]at this;omega
    have H1:=(H.also F (FlatZ F (some ⟨b,off,none⟩) n c xs x.2.1 ys.length x.2.2 ys xa) (Still.at (i:=0) .zero) (fun V hV=>FlatZ.kept ⟨(H.kn (i:=0) .zero).1,⟨hy1,hy2⟩,(H.kn (i:=0) .zero).2.2⟩ hV)).pick [2,1] [.kn F (FlatZ F (some ⟨b,off,none⟩) n c xs x.2.1 ys.length x.2.2 ys xa),.row u6 96 11 xa.length (zAG (xa.map sizX))] (by decide) rfl
    have hyb:=Knows.at (show Knows F x.2.1 ys.length x.2.2 ys wr from ⟨(H1.kn (i:=0) .zero).2.1.1,(H1.kn (i:=0) .zero).2.1.2⟩)
    have hcell2:∀ V xa,FlatZ F (some ⟨b,off,none⟩) n c xs x.2.1 ys.length x.2.2 ys xa V->∀ k,k<11->V.cell? ⟨b,off+j * 11+k,none⟩=(sizC x.1.d (.slice x.2.1 ys.length x.2.2) (zAB x.1))[k]?:=fun V xa h=>by
     have:=hcell V xa ⟨h.1,Knows.nil0 ..,h.2.2⟩;rw[← hyl];exact this
    have E2:=Lib.hid (show zBK ((xs.map (·.1)).take (j+1)) i o=xa.map (·.1)++ys.map (·.1) by rw[EF.out,E.out,zDz,if_pos hi,hy3])
    have HYS:=Lib.hid hys;rw[hyl]at his;clear H hy1 hy2 hy3 hyl hmem hs1 hi hcell hys E EF;have H:=H1;clear H1
    go_wp2_with (first|((with_reducible refine gLz ?_);refine zAO wtd_ _ _ rfl rfl zAm rfl (hcell2 _ _ (H.kn (i:=0) .zero)) ?_)|((with_reducible refine kg 8 ?_);(first|refine kA 8 H ?_|refine kS 8 H ?_|refine kB 8 H ?_);clear H;intro b8 w H;try simp only[nr]at H)|(first|((with_reducible refine gTz ?_);refine aTz H ?_;clear H;intro w H;try simp only[nr]at H)|((with_reducible refine gLz ?_);refine aLz H ?_)|((with_reducible refine gL ?_);refine aGz H ?_))|((with_reducible refine ch (his _ _) H ?_);clear H;intro w H))
    clear hcell2
    go_loopw [6,25] (fun v ix wr=>∃ (k:Nat) (za:List TV),k<=ys.length/\ix=.int .i64 k/\Hid (za.map (·.1)=xa.map (·.1)++(ys.take k).map (·.1))/\Hold w0 wr [.kn F (FlatZ F (some ⟨b,off,none⟩) n c xs x.2.1 ys.length x.2.2 ys za),.row v 96 11 za.length (zAG (za.map sizX)),.blk b8 (sizC x.1.d (.slice x.2.1 ys.length x.2.2) (zAB x.1)) 96]) (fun _ ix _=>ys.length+1 - (intOf ix).toNat)
    case atStart=>exact⟨0,xa,by omega,rfl,Lib.hid (by simp),H⟩
    case round =>
     clear H;obtain⟨k,za,hk,rfl,Z,H⟩:=hrel;have hzl:za.length<=2000000000:=by
      have h2:za.length=(za.map (·.1)).length:=(List.length_map ..).symm;rw[h2,Z.out,List.length_append,List.length_map,List.length_map,List.length_take];omega
     by_cases hkt:k<ys.length
     ·have dk:decide ((k:Int)<(ys.length:Int))=true:=by simp;omega
      obtain⟨y,hy⟩:∃ y,ys[k]?=some y:=⟨_,List.getElem?_eq_getElem hkt⟩;obtain⟨b2,off2,hq2⟩:=hyb (by omega)
      rw[hq2]at H ⊢;have hcell3:∀ V za,FlatZ F (some ⟨b,off,none⟩) n c xs (some ⟨b2,off2,none⟩) ys.length x.2.2 ys za V->∀ k',k'<10->V.cell? ⟨b2,off2+k * 10+k',none⟩=(zAT y)[k']?:=fun V za h=>h.2.1.cells hy rfl
      have hysz:=zGd hy;have hmem:=List.mem_of_getElem? hy;have hsiz:=fun w (h1:∀ b,F b->b<w.heap.size) (h2:Knows F (some ⟨b2,off2,none⟩) ys.length x.2.2 ys w)=>zOb y.1 y.2.1 y.2.2 F w (Nat.le_trans hysz HYS.out) h1 (h2.2 y hmem)
      have Z2:=Lib.hid (show (za++[y]).map (·.1)=xa.map (·.1)++(ys.take (k+1)).map (·.1) by rw[List.map_append,Z.out,zBb hy,List.map_append,List.append_assoc])
      clear hy hysz hyb Z
      go_upto_region 8 with (first|((with_reducible refine gLn ?_);refine zAO wtd_ _ _ rfl rfl zAP rfl (hcell3 _ _ (H.kn (i:=0) .zero)) ?_)|((with_reducible refine kg 10 ?_);(first|refine kA 10 H ?_|refine kS 10 H ?_|refine kB 10 H ?_);clear H;intro b10 w H;try simp only[nr]at H)|((with_reducible refine gT ?_);(refine aT H ?_;clear H;intro w H;try simp only[nr]at H)))
      refine zAg 6 [fun v _=>v=u6,fun v _=>v=.agg (zAR (y.1.d) (.slice y.2.1 y.1.kids.length y.2.2)),fun v _=>v=.agg (zAR (y.1.d) (.slice y.2.1 y.1.kids.length y.2.2)),fun v _=>v=.int .i64 (zAB y.1),fun v _=>v=sizV y.1.d (.slice y.2.1 y.1.kids.length y.2.2) (zAB y.1),zCo w.heap.size (sizC y.1.d (.slice y.2.1 y.1.kids.length y.2.2) (zAB y.1)) 96] (fun _=>false) (by kernel_rfl) (by kernel_rfl) (by kernel_rfl) (by repeat (first|exact trivial|refine⟨zAL _,?_⟩|refine⟨zA1 _ _ _,?_⟩)) (fun _ _ h=>by cases h) ?ob ?en
      case ob =>
       refine⟨?_,?_,?_,?_,?_,?_,trivial⟩<;>intro A W h
       ·exact zAH rfl rfl (h.f 6)
       ·exact zAA rfl (zAb (n:=10) rfl (h.f 10) (by first|(with_reducible exact zAP)|(with_reducible exact zBY)|(with_reducible exact zCL)|(with_reducible exact zBQ)) rfl (fun k _=>by rw[Nat.zero_add];exact(H.call h.below).cell (i:=3) i_3 k)) (by decide)
       ·exact zAA rfl (zAb (n:=10) rfl (h.f 10) (by first|(with_reducible exact zAP)|(with_reducible exact zBY)|(with_reducible exact zCL)|(with_reducible exact zBQ)) rfl (fun k _=>by rw[Nat.zero_add];exact(H.call h.below).cell (i:=3) i_3 k)) (by decide)
       ·exact zD6 rfl rfl (enters_of Tryz.func148 (by kernel_rfl) rfl) (zNX (h.d 2 31)) (hsiz W ((H.call h.below).knlt (i:=0) .zero) ((H.call h.below).kn (i:=0) .zero).2.1)
       ·(have e0:A.eval (.tmp 30)=zAV y.1.d (.slice y.2.1 y.1.kids.length y.2.2):=h.d 1 30;have e1:A.eval (.tmp 32)=.int .i64 (zAB y.1):=h.d 3 32;refine zAA rfl ?_ (by decide);simp only[execOp,List.map_toArray,List.map_cons,List.map_nil,e0,e1,Sem.run_bind,zOK];rfl)
       ·exact zPy rfl rfl (h.d 4 33) (fun W=>zBj _ _ _ W) h.below.size (by decide)
      case en =>
       intro vals W hbw hv _;have x5:=hv 5 (by omega);simp only[zAe]at x5
       simp only[fa,Nat.reduceAdd];rw[e_ hv 0,e_ hv 1,e_ hv 2,e_ hv 3,e_ hv 4];clear hv
       try simp only[pl]
       obtain⟨bk,e5,H2⟩:=H.gainS hbw x5;rw[e5];clear x5 e5 hbw H;have H:=H2;clear H2;simp only[ca]at H
       go_wp2_with (first|(at_builtin;refine zA8 rfl _ _ 156 rfl H (i:=1) (j:=4) evd_ rfl i_1 i_4 Tryz.underlying156 hi0 hz0 hz1 hz2 rfl (by decide) rfl rfl (by unfold maxLen;omega) (by omega) ?_;clear H;intro v2 w H;try simp only[nr]at H)|fail)
       have hL:=(H.kn (i:=0) .zero);have H2:=(H.also F (FlatZ F (some ⟨b,off,none⟩) n c xs (some ⟨b2,off2,none⟩) ys.length x.2.2 ys (za++[y])) (Still.at (i:=0) .zero) (fun V hV=>FlatZ.kept ⟨hL.1,hL.2.1,ListR.append hL.2.2 (fun z hz=>by rw[List.mem_singleton]at hz;subst hz;exact hL.2.1.2 _ hmem)⟩ hV)).pick [5,1,2] [.kn F (FlatZ F (some ⟨b,off,none⟩) n c xs (some ⟨b2,off2,none⟩) ys.length x.2.2 ys (za++[y])),.row v2 96 11 (za.length+1) (zAG (za.map sizX)++(sizC y.1.d (.slice y.2.1 y.1.kids.length y.2.2) (zAB y.1)).toList),.blk b8 (sizC x.1.d (.slice (some ⟨b2,off2,none⟩) ys.length x.2.2) (zAB x.1)) 96] (by decide) rfl
       rw[zEv,show za.length+1=(za++[y]).length by simp]at H2
       go_roundw
       case rel=>exact⟨k+1,za++[y],by omega,by go_num,Z2,H2⟩
       case measure=>simp[intOf];omega
     ·have dk:decide ((k:Int)<(ys.length:Int))=false:=by simp;omega
      have E3:=Lib.hid (show za.map (·.1)=zBK ((xs.map (·.1)).take (j+1)) i o by rw[E2.out,Z.out,List.take_of_length_le (by omega)])
      have H2:=(H.also F (FlatZ F (some ⟨b,off,none⟩) n c xs none 0 0 [] za) (Still.at (i:=0) .zero) (fun V hV=>FlatZ.kept ⟨(H.kn (i:=0) .zero).1,Knows.nil0 ..,(H.kn (i:=0) .zero).2.2⟩ hV)).pick [3,1] [.kn F (FlatZ F (some ⟨b,off,none⟩) n c xs none 0 0 [] za),.row u6 96 11 za.length (zAG (za.map sizX))] (by decide) rfl
      clear H;have H:=H2;clear H2
      go_wp2_with (first|fail)
      go_roundw
      case rel=>exact⟨j+1,za,by omega,by go_num,E3,H⟩
      case measure=>simp[intOf];omega
   ·have di:(x.1.d.kind == i)=false:=by rw[beq_eq_false_iff_ne];exact hi
    by_cases ho:x.1.d.kind=o
    ·have do_:(x.1.d.kind == o)=true:=by rw[beq_iff_eq];exact ho
     have E2:=Lib.hid (show xa.map (·.1)=zBK ((xs.map (·.1)).take (j+1)) i o by rw[EF.out,E.out,zDz,if_neg hi,if_pos ho,List.append_nil])
     clear hmem hs1 hi ho
     go_wp2_with (first|((with_reducible refine gLz ?_);refine zAO wtd_ _ _ rfl rfl zAm (zA4 x) (hcell _ _ (H.kn (i:=0) .zero)) ?_)|((with_reducible refine kg 8 ?_);(first|refine kA 8 H ?_|refine kS 8 H ?_|refine kB 8 H ?_);clear H;intro b8 w H;try simp only[nr]at H)|(first|((with_reducible refine gTz ?_);refine aTz H ?_;clear H;intro w H;try simp only[nr]at H)|((with_reducible refine gLz ?_);refine aLz H ?_))|((with_reducible refine ch (his _ _) H ?_);clear H;intro w H))
     go_roundw
     case rel=>exact⟨j+1,xa,by omega,by go_num,E2,H.pick [0,1] _ (by decide) rfl⟩
     case measure=>simp[intOf];omega
    ·have do_:(x.1.d.kind == o)=false:=by rw[beq_eq_false_iff_ne];exact ho
     have E2:=Lib.hid (show (xa++[x]).map (·.1)=zBK ((xs.map (·.1)).take (j+1)) i o by rw[EF.out,List.map_append,E.out,zDz,if_neg hi,if_neg ho];rfl)
     have hL:=fun V (h:FlatZ F (some ⟨b,off,none⟩) n c xs none 0 0 [] xa V)=>(show ListR V F (xa++[x]) from ListR.append h.2.2 (fun y hy=>by rw[List.mem_singleton]at hy;subst hy;exact h.1.2 _ hmem))
     clear hs1 hi ho
     go_wp2_with (first|((with_reducible refine gLz ?_);refine zAO wtd_ _ _ rfl rfl zAm (zA4 x) (hcell _ _ (H.kn (i:=0) .zero)) ?_)|(at_builtin;refine zA8 rfl _ _ 156 rfl H (i:=1) (j:=3) evd_ rfl i_1 i_3 Tryz.underlying156 hi0 hz0 hz1 hz2 rfl (by decide) rfl rfl (by unfold maxLen;omega) (by omega) ?_;clear H;intro v2 w H;try simp only[nr]at H)|((with_reducible refine gBS ?_);refine zAY wtd_ _ _ _ rfl H (sizC (x.1.d) (.slice x.2.1 x.1.kids.length x.2.2) (zAB x.1)) 96 (by intro W;simp only[ml];(try simp only[pe]);exact zBj _ _ _ W) ?_;clear H;intro bk w H;try simp only[nr]at H)|((with_reducible refine kg 8 ?_);(first|refine kA 8 H ?_|refine kS 8 H ?_|refine kB 8 H ?_);clear H;intro b8 w H;try simp only[nr]at H)|(first|((with_reducible refine gTz ?_);refine aTz H ?_;clear H;intro w H;try simp only[nr]at H)|((with_reducible refine gLz ?_);refine aLz H ?_))|((with_reducible refine ch (his _ _) H ?_);clear H;intro w H))
     have H2:=(H.also F (FlatZ F (some ⟨b,off,none⟩) n c xs none 0 0 [] (xa++[x])) (Still.at (i:=0) .zero) (fun V hV=>FlatZ.kept ⟨(H.kn (i:=0) .zero).1,(H.kn (i:=0) .zero).2.1,hL _ (H.kn (i:=0) .zero)⟩ hV)).pick [4,1] [.kn F (FlatZ F (some ⟨b,off,none⟩) n c xs none 0 0 [] (xa++[x])),.row v2 96 11 (xa.length+1) (zAG (xa.map sizX)++(sizC x.1.d (.slice x.2.1 x.1.kids.length x.2.2) (zAB x.1)).toList)] (by decide) rfl
     rw[zEv,show xa.length+1=(xa++[x]).length by simp]at H2
     go_roundw
     case rel=>exact⟨j+1,xa++[x],by omega,by go_num,E2,H2⟩
     case measure=>simp[intOf];omega
  ·have dj:decide ((j:Int)<(n:Int))=false:=by simp;omega
   have E2:xa.map (·.1)=zBK (xs.map (·.1)) i o:=by rw[E.out,List.take_of_length_le (by rw[List.length_map,HN.out];omega)]
   have EL:=Lib.hid E2;clear E2;obtain⟨q,cap,rfl,_,_,_⟩:=H.rowShape (i:=1) i_1;obtain⟨G,hG,H2⟩:=H.rowSized (i:=1) (xs:=xa) (K:=F) i_1 rfl (Still.at (i:=0) .zero) (H.kn (i:=0) .zero).2.2;clear H;have H:=H2;clear H2;simp only[sc]at H
   go_wp2_with (first|fail)
   go_ret;exact⟨⟨q,cap,G,xa,rfl,EL.out,H.kn (i:=1) i_1,fun b h=>⟨H.knlt (i:=1) i_1 b h,hG b h⟩⟩,H.below⟩
theorem SizOut.leaf {w w':World} {G:Nat->Prop} {k:Int}:SizOut w G (some (zBs k)) (.returned (sizV {kind:=k} nilS 1)) w' :=
 ⟨none,0,fun _=>False,rfl,ForestR.nil ..,fun _ h=>h.elim⟩
theorem zOE (k o:Int) (p:Option Addr) (c:Nat) (xs:List TV) (F:Nat->Prop) (w0:World) (hF:∀ b,F b->b<w0.heap.size) (h:SKnows F p xs.length c xs w0) (hsz:zAF (xs.map (·.1))<=1000000000) :
  Calls Tryz.prog 89 #[.int .i64 k,.int .i64 o,.slice p xs.length c] w0 fun e w'=>SizOut w0 F (rowQ k o (xs.map (·.1))) e w'/\Below w0.heap.size w0 w':=by
 have H:=Hold.sknows hF h;have hc1:=h.bound.2.1;have hc2:=h.bound.2.2;have hp:=h.at;have hba:=fun w=>zJC o w
 rcases xs with _|⟨x,_|⟨y,xs⟩⟩
 ·clear hp h;simp only[List.length_nil]at H ⊢
  go_enter Tryz.func89,Tryz.ntmps89
  go_wp2_with (first|((with_reducible refine kg 6 ?_);(first|refine kA 6 H ?_|refine kS 6 H ?_|refine kB 6 H ?_);clear H;intro b6 w H;try simp only[nr]at H)|((with_reducible refine gTz ?_);refine aTz H ?_;clear H;intro w H;try simp only[nr]at H)|((with_reducible refine ch (hba _) H ?_);clear H;intro w H))
  refine xcz Tryz.results89 H ?_
  exact⟨SizOut.leaf,H.below⟩
 ·obtain⟨b,off,rfl⟩:=hp (by simp)
  clear hp h;simp only[List.length_cons,List.length_nil,Nat.zero_add]at H ⊢;have hcell:∀ V,SKnows F (some ⟨b,off,none⟩) 1 c [x] V->∀ k,k<11->V.cell? ⟨b,off+k,none⟩=(sizX x)[k]?:=fun V h=>h.cells (j:=0) rfl rfl
  go_enter Tryz.func89,Tryz.ntmps89
  go_wp2_with (first|((with_reducible refine gLz ?_);refine zAO wtd_ _ _ rfl rfl zAm (zA4 x) (hcell _ (H.kn .zero)) ?_)|((with_reducible refine kg 6 ?_);(first|refine kA 6 H ?_|refine kS 6 H ?_|refine kB 6 H ?_);clear H;intro b6 w H;try simp only[nr]at H)|((with_reducible refine gTz ?_);refine aTz H ?_;clear H;intro w H;try simp only[nr]at H))
  refine xcz Tryz.results89 H ?_
  exact⟨⟨_,_,F,rfl,(H.kn (i:=0) .zero).2 x (List.mem_singleton.2 rfl),fun b h=>⟨H.knlt .zero b h,.inr h⟩⟩,H.below⟩
 ·clear hp;obtain⟨zs,hzs⟩:∃ zs,x::y::xs=zs:=⟨_,rfl⟩;have h2:2<=zs.length:=by rw[← hzs];simp
  have hrq:rowQ k o (zs.map (·.1))=zCq {kind:=k} (zs.map (·.1)):=by rw[← hzs];rfl
  rw[hzs]at H h hc1 hsz ⊢;rw[hrq];clear hzs hrq;have hki:=fun w (h1:∀ b,F b->b<w.heap.size) (h2:SKnows F p zs.length c zs w)=>zI2 {kind:=k} none 0 0 p c zs F w h1 h2 hsz
  obtain⟨n,hnn⟩:∃ n,zs.length=n:=⟨_,rfl⟩;rw[hnn]at H h2 hc1 hki ⊢;have d0:((n:Int) == 0)=false:=by rw[beq_eq_false_iff_ne];omega
  have d1:((n:Int) == 1)=false:=by rw[beq_eq_false_iff_ne];omega
  clear hnn h hsz
  cases hq:zCq {kind:=k} (zs.map (·.1)) with
  | some t =>
   rw[hq]at hki;clear hq
   go_enter Tryz.func89,Tryz.ntmps89
   go_wp2_with (first|((with_reducible refine kg 6 ?_);(first|refine kA 6 H ?_|refine kS 6 H ?_|refine kB 6 H ?_);clear H;intro b6 w H;try simp only[nr]at H)|(first|((with_reducible refine gTz ?_);refine aTz H ?_;clear H;intro w H;try simp only[nr]at H)|((with_reducible refine gZ ?_);refine nb1 ?_))|(go_at_call 92;refine chz (hki _ (H.knlt .zero) (H.kn .zero)) H (Still.at (i:=0) .zero) ?_;clear H;intro q1 m1 F1 w hF1 H;simp only[ca]at H))
   refine xcz Tryz.results89 H ?_
   exact⟨⟨q1,m1,F1,rfl,H.kn (i:=2) i_2,fun b h=>⟨H.knlt (i:=2) i_2 b h,hF1 b h⟩⟩,H.below⟩
  | none =>
   rw[hq]at hki;clear hq
   go_enter Tryz.func89,Tryz.ntmps89
   go_wp2_with (first|((with_reducible refine kg 6 ?_);(first|refine kA 6 H ?_|refine kS 6 H ?_|refine kB 6 H ?_);clear H;intro b6 w H;try simp only[nr]at H)|((with_reducible refine gZ ?_);refine nb1 ?_)|(go_at_call 92;refine zCI (hki _ (H.knlt .zero) (H.kn .zero)) H ?_;clear H;intro w H))
   exact⟨rfl,rfl,H.below⟩
theorem zOZ (d:NodeD) (s:Value) (n:Int) (w0:World):Calls Tryz.prog 147 #[sizV d s n] w0 (Rt (.bool (d.kind == 2)) w0):=by
 have H:=Hold.start w0;have his:=fun w=>zL8 d s n 2 w
 go_enter Tryz.func147,Tryz.ntmps147
 go_wp2_with (first|((with_reducible refine kg 1 ?_);(first|refine kA 1 H ?_|refine kS 1 H ?_|refine kB 1 H ?_);clear H;intro b1 w H;try simp only[nr]at H)|((with_reducible refine gLz ?_);refine aLz H ?_)|((with_reducible refine ch (his _) H ?_);clear H;intro w H))
 go_ret;exact⟨rfl,H.below⟩
theorem zOU {xs:List TV} {j:Nat} {x:TV} (hx:xs[j]?=some x) (hk:(x.1.d.kind == 2)=true):(xs.map (·.1)).any (fun t=>t.d.kind == 2)=true :=
 List.any_eq_true.2 ⟨x.1,List.mem_map.2 ⟨x,List.mem_of_getElem? hx,rfl⟩,hk⟩
theorem zMu (p:Option Addr) (c:Nat) (xs:List TV) (F:Nat->Prop) (w0:World) (hF:∀ b,F b->b<w0.heap.size) (h:SKnows F p xs.length c xs w0) :
  Calls Tryz.prog 172 #[.slice p xs.length c,.func (.func 147) #[] #[]] w0 fun e w'=>∃ r:Int,e=.returned (.int .i64 r)/\decide (0<=r)=(xs.map (·.1)).any (fun t=>t.d.kind == 2)/\Below w0.heap.size w0 w':=by
 have hc1:=h.bound.2.1;have hc2:=h.bound.2.2;have hp:=h.at;have H:=Hold.sknows hF h;clear h;obtain⟨n,hnn⟩:∃ n,xs.length=n:=⟨_,rfl⟩;rw[hnn]at H hc1 ⊢;have HN:=Lib.hid hnn;clear hnn
 go_enter Tryz.func172,Tryz.ntmps172
 go_wp2_with (first|fail)
 go_loopw [8] (fun ix wr=>∃ (j:Nat),j<=n/\ix=.int .i64 j/\Hid (((xs.map (·.1)).take j).any (fun t=>t.d.kind == 2)=false)/\Hold w0 wr [.kn F (SKnows F p n c xs)]) (fun ix _=>n+1 - (intOf ix).toNat)
 case atStart=>exact⟨0,by omega,rfl,Lib.hid rfl,H⟩
 case round =>
  clear H;obtain⟨j,hj,rfl,EA,H⟩:=hrel
  by_cases hlt:j<n
  ·have dj:decide ((j:Int)<(n:Int))=true:=by simp;omega
   obtain⟨x,hx⟩:∃ x,xs[j]?=some x:=⟨_,List.getElem?_eq_getElem (by rw[HN.out];exact hlt)⟩
   obtain⟨b1,off,rfl⟩:=hp (by rw[HN.out];omega)
   have hcell:∀ V,SKnows F (some ⟨b1,off,none⟩) n c xs V->∀ k,k<11->V.cell? ⟨b1,off+j * 11+k,none⟩=(sizX x)[k]?:=fun V h=>h.cells hx rfl
   have hr:=fun w=>zOZ x.1.d (.slice x.2.1 x.1.kids.length x.2.2) (zAB x.1) w
   cases hz:(x.1.d.kind == 2) with
   | true =>
    rw[hz]at hr;have E:=Lib.hid (zOU hx hz);clear hx hz EA hp
    go_wp2_with (first|((with_reducible refine gLz ?_);refine zAO wtd_ _ _ rfl rfl zAm (zA4 x) (hcell _ (H.kn (i:=0) .zero)) ?_)|fail|((with_reducible refine ch (hr _) H ?_);clear H;intro w H))
    go_ret;exact⟨j,rfl,by rw[E.out];simp,H.below⟩
   | false =>
    rw[hz]at hr
    have E:=Lib.hid (show ((xs.map (·.1)).take (j+1)).any (fun t=>t.d.kind == 2)=false by
     rw[zBb (x:=x.1) (by rw[List.getElem?_map,hx];rfl),List.any_append,EA.out]
     simpa using hz)
    clear hx hz EA hp
    go_wp2_with (first|((with_reducible refine gLz ?_);refine zAO wtd_ _ _ rfl rfl zAm (zA4 x) (hcell _ (H.kn (i:=0) .zero)) ?_)|fail|((with_reducible refine ch (hr _) H ?_);clear H;intro w H))
    go_roundw
    case rel=>exact⟨j+1,by omega,by go_num,E,H⟩
    case measure=>simp[intOf];omega
  ·have hjn:j=n:=by omega
   have dj:decide ((j:Int)<(n:Int))=false:=by simp;omega
   have E:=Lib.hid (show (xs.map (·.1)).any (fun t=>t.d.kind == 2)=false by
    have h:=EA.out
    rwa [List.take_of_length_le (by rw[List.length_map,HN.out];omega)]at h)
   clear hp EA hjn
   go_wp2_with (first|fail)
   go_ret;exact⟨-1,rfl,by rw[E.out];simp,H.below⟩
theorem chRz {M:Nat->Prop} {P:Program} {f:FuncId} {args:Array Value} {w w0:World} {l:List Res} {D:Int->Prop} {R:Ending->World->Prop} (c:Calls P f args w fun e w'=>∃ r:Int,e=.returned (.int .i64 r)/\D r/\Below w.heap.size w w') (H:HoldG M w0 w l)
  (k:∀ r w',D r->HoldG M w0 w' l->R (.returned (.int .i64 r)) w'):Calls P f args w R:=c.mono fun _ w' ⟨r,e,hd,hb⟩=>by subst e;exact k r w' hd (H.call hb)
theorem zH5 (p:Option Addr) (c:Nat) (xs:List TV) (F:Nat->Prop) (w0:World) (hF:∀ b,F b->b<w0.heap.size) (h:SKnows F p xs.length c xs w0) :
  Calls Tryz.prog 146 #[.slice p xs.length c,.func (.func 147) #[] #[]] w0 fun e w'=>e=.returned (.bool ((xs.map (·.1)).any (fun t=>t.d.kind == 2)))/\Below w0.heap.size w0 w':=by
 have hix:=zMu p c xs F w0 hF h;have H:=Hold.start w0;obtain⟨bb,hbb⟩:∃ bb,(xs.map (·.1)).any (fun t=>t.d.kind == 2)=bb:=⟨_,rfl⟩
 rw[hbb]at hix ⊢;obtain⟨n,hnn⟩:∃ n,xs.length=n:=⟨_,rfl⟩;rw[hnn]at hix ⊢;clear h hF hnn hbb
 go_enter Tryz.func146,Tryz.ntmps146
 go_wp2_with (first|fail|(go_at_call 172;refine chRz hix H ?_;clear H hix;intro r w hd H))
 go_ret;exact⟨by rw[← hd];rfl,H.below⟩
theorem SizOut.trans {w w1 w':World} {G K:Nat->Prop} {o:Option Tree} {e:Ending} (h:SizOut w1 G o e w') (hs:w.heap.size<=w1.heap.size) (hG:∀ b,G b->w.heap.size<=b\/K b):SizOut w K o e w':=by
 cases o with
 | none=>exact h
 | some t =>
  obtain⟨p,c,F,e1,h1,h2⟩:=h;exact⟨p,c,F,e1,h1,fun b hb=>⟨(h2 b hb).1,(h2 b hb).2.elim (fun h=>.inl (Nat.le_trans hs h)) (hG b)⟩⟩
theorem zJx (p:Option Addr) (c:Nat) (xs:List TV) (F:Nat->Prop) (w0:World) (hF:∀ b,F b->b<w0.heap.size) (h:SKnows F p xs.length c xs w0) (hsz:zAF (xs.map (·.1))<=1000000000) :
  Calls Tryz.prog 88 #[.slice p xs.length c] w0 fun e w'=>SizOut w0 F (catQ (xs.map (·.1))) e w'/\Below w0.heap.size w0 w':=by
 have H:=Hold.sknows hF h;have hco:=fun w (h1:∀ b,F b->b<w.heap.size) (h2:SKnows F p xs.length c xs w)=>zH5 p c xs F w h1 h2
 have hfl:=fun w (h1:∀ b,F b->b<w.heap.size) (h2:SKnows F p xs.length c xs w)=>zLa 4 1 p c xs F w h1 h2 hsz
 have hba:=fun w=>zJC 2 w
 clear h;have hs2:=Nat.le_trans (zDB (xs.map (·.1)) 4 1) hsz;have E:catQ (xs.map (·.1))=catQ (xs.map (·.1)):=rfl
 conv at E=>rhs;unfold catQ
 cases ha:(xs.map (·.1)).any (fun t=>t.d.kind == 2) with
 | true =>
  rw[ha]at E hco;rw[if_pos rfl]at E;have E2:=Lib.hid E;clear E ha
  go_enter Tryz.func88,Tryz.ntmps88
  go_wp2_with (first|((with_reducible refine kg 2 ?_);(first|refine kA 2 H ?_|refine kS 2 H ?_|refine kB 2 H ?_);clear H;intro b2 w H;try simp only[nr]at H)|((with_reducible refine gTz ?_);refine aTz H ?_;clear H;intro w H;try simp only[nr]at H)|((with_reducible first|refine ch (hco _ (H.knlt .zero) (H.kn .zero)) H ?_|refine ch (hba _) H ?_);clear H;intro w H))
  refine xcz Tryz.results88 H ?_
  rw[E2.out];exact⟨SizOut.leaf (k:=2),H.below⟩
 | false =>
  rw[ha]at E hco;simp only[Bool.false_eq_true,if_false]at E;have E2:=Lib.hid E;clear E ha
  generalize hfs:zBK (xs.map (·.1)) 4 1=fs at E2 hfl hs2
  clear hfs;have hrw:∀ (w:World) q m F2 ys,Hid (ys.map (·.1)=fs)->(∀ b,F2 b->b<w.heap.size)->SKnows F2 q ys.length m ys w->Calls Tryz.prog 89 #[.int .i64 4,.int .i64 1,.slice q ys.length m] w fun e w'=>SizOut w F2 (rowQ 4 1 fs) e w'/\Below w.heap.size w w':=fun w q m F2 ys hys h1 h2=>by
   have:=zOE 4 1 q m ys F2 w h1 h2 (by rw[hys.out];exact hs2)
   rwa [hys.out]at this
  rw[← E2.out]at hrw;clear hs2 hsz
  cases hq:catQ (xs.map (·.1)) with
  | some t =>
   rw[hq]at hrw;clear hq E2
   go_enter Tryz.func88,Tryz.ntmps88
   go_wp2_with (first|((with_reducible refine kg 2 ?_);(first|refine kA 2 H ?_|refine kS 2 H ?_|refine kB 2 H ?_);clear H;intro b2 w H;try simp only[nr]at H)|((with_reducible refine gTz ?_);refine aTz H ?_;clear H;intro w H;try simp only[nr]at H)|((with_reducible refine ch (hco _ (H.knlt .zero) (H.kn .zero)) H ?_);clear H;intro w H)|(go_at_call 90;refine chzl (hfl _ (H.knlt .zero) (H.kn .zero)) H (Still.at (i:=0) .zero) ?_;clear H;intro q1 m1 F1 ys w hys hF1 H;simp only[ca]at H)|(go_at_call 89;refine chz (hrw _ _ _ _ _ hys (H.knlt (i:=2) i_2) (H.kn (i:=2) i_2)) H (Still.at (i:=2) i_2) ?_;clear H;intro q2 m2 F2 w hF2 H;simp only[ca]at H))
   refine xcz Tryz.results88 H ?_
   exact⟨⟨q2,m2,F2,rfl,H.kn (i:=3) i_3,fun b h=>⟨H.knlt (i:=3) i_3 b h,(hF2 b h).elim .inl (hF1 b)⟩⟩,H.below⟩
  | none =>
   rw[hq]at hrw;clear hq E2
   go_enter Tryz.func88,Tryz.ntmps88
   go_wp2_with (first|((with_reducible refine kg 2 ?_);(first|refine kA 2 H ?_|refine kS 2 H ?_|refine kB 2 H ?_);clear H;intro b2 w H;try simp only[nr]at H)|fail|((with_reducible refine ch (hco _ (H.knlt .zero) (H.kn .zero)) H ?_);clear H;intro w H)|(go_at_call 90;refine chzl (hfl _ (H.knlt .zero) (H.kn .zero)) H (Still.at (i:=0) .zero) ?_;clear H;intro q1 m1 F1 ys w hys hF1 H;simp only[ca]at H)|(go_at_call 89;refine zCI (hrw _ _ _ _ _ hys (H.knlt (i:=2) i_2) (H.kn (i:=2) i_2)) H ?_;clear H;intro w H))
   exact⟨rfl,rfl,H.below⟩
def zOH (t:Tree):Prop:=t.kids=[]/\∀ s n,sizC t.d s n=sizC {kind:=2} s n
theorem zMX {s:Nat->Nat} (h:eqS s zAN=true):s 0=0/\s 1=0/\s 2=0/\s 3=0:=by
 unfold eqS zAN at h;simp at h;exact⟨h.1.1.1,h.1.1.2,h.1.2,h.2⟩
theorem zG1 {t:Tree} (h:zAk t=true) (hk:t.d.kind=2):zOH t:=by
 rw[zFq,Bool.and_eq_true]at h;have h1:=h.1;unfold zAu zBM zCs at h1;rw[hk]at h1;simp at h1;obtain⟨⟨⟨h3,h4⟩,h5⟩,h6⟩:=h1;obtain⟨a,b,c,d⟩:=zMX h4;refine⟨h3,fun s n=>?_⟩
 unfold sizC;rw[hk,a,b,c,d,h5,h6.1.1,h6.1.2,h6.2];rfl
theorem SizOut.clean {w w':World} {G F:Nat->Prop} {t:Tree} (h:zOH t) {q:Option Addr} {c:Nat} (hf:ForestR w' F q c t.kids) (hF:∀ b,F b->b<w'.heap.size/\(w.heap.size<=b\/G b)):SizOut w G (some (zBs 2)) (.returned (sizV t.d (.slice q t.kids.length c) (zAB t))) w':=by
 refine⟨q,c,F,?_,?_,hF⟩
 ·rw[sizV,h.2,h.1,zC0,h.1];rfl
 ·rw[h.1]at hf;exact hf
theorem zO3 (k hi:Int) (z:Bool) (W:World):(Instr.build 28 #[(0,.int .i64 k),(4,.int .i64 hi),(5,.bool z)]).run Tryz.prog W=.ok (zAV {kind:=k,hi:=hi,lazy:=z} nilS) W:=by simp[go_sem];rfl
section
variable {M:Nat->Prop} {ops:Array Oper} {dst:Option Tmp} {ty:TypeId} {pos:String} {aft:Array Edge} {grd:Option (Nat × Bool)} {rest:List Oper} {a:Act} {w w0:World} {l:List Res} {Q:Exit->Act->World->Prop}
theorem nbL {x v z:Operand} {k hi:Int} {q:Bool} (h:wpList Tryz.prog ops Q rest (a.put dst (zAV {kind:=k,hi:=hi,lazy:=q} nilS)) w) (hg:Region.wanted (⟨dst,.build 28 #[(0,x),(4,v),(5,z)],ty,pos,aft,grd⟩:Oper) (yielded ops a.tmps)=true:=by first|rfl|exact zAQ rfl (zAI rfl (by first|rfl|(simp only[pe];rfl)))) (h0:a.eval x=.int .i64 k:=by first|(simp only[pe];done)|(simp only[pe];rfl)) (h2:a.eval v=.int .i64 hi:=by first|(simp only[pe];done)|(simp only[pe];rfl)) (h3:a.eval z=.bool q:=by first|(simp only[pe];done)|(simp only[pe];rfl)):wpList Tryz.prog ops Q ((⟨dst,.build 28 #[(0,x),(4,v),(5,z)],ty,pos,aft,grd⟩:Oper)::rest) a w :=
 zAK hg (by
  simp only[execOp,List.map_toArray,List.map_cons,List.map_nil,h0,h2,h3,Sem.run_bind,zO3];rfl) h
theorem HoldG.oneSized (H:Hold w0 w l) {i b:Nat} {x:TV} {K:Nat->Prop} (hi:At l i (.blk b (sizX x) 96)) (hK:Still l K) (hL:ForestR w K x.2.1 x.2.2 x.1.kids) :
  ∃ G:Nat->Prop,(∀ b,G b->w0.heap.size<=b\/K b)/\Hold w0 w (l.set i (.kn G (SKnows G (some ⟨b,0,none⟩) 1 1 [x]))):=by
 have hb:=(H.blk hi).1.resolve_right id;have H2:=H.blkRow (sz:=11) hi hb rfl;have hat:∀ (l:List Res) (i:Nat) (r r':Res),At l i r->At (l.set i r') i r':=by
  intro l i r r' h
  induction h with
  | zero=>exact .zero
  | succ _ ih=>exact .succ ih
 have h2:=hat _ _ _ (.row (.slice (some ⟨b,0,none⟩) 1 1) 96 11 1 (sizX x).toList) hi;rw[show (sizX x).toList=zAG ([x].map sizX) from (zK4 _).symm]at h2 H2
 have hst:Still (l.set i (.row (.slice (some ⟨b,0,none⟩) 1 1) 96 11 1 (zAG ([x].map sizX)))) K:=fun z hz=>by
  obtain⟨j,r,hj,h3,h4⟩:=hK z hz;refine⟨j,r,?_,h3,h4⟩;rw[List.getElem?_set];split
  ·rename_i e;subst e;rw[hi.get]at hj;cases hj;cases h3
  ·exact hj
 obtain⟨G,hG,H3⟩:=H2.rowSized (xs:=[x]) h2 rfl hst (fun y hy=>by rw[List.mem_singleton]at hy;subst hy;exact hL)
 rw[List.set_set]at H3;exact⟨G,hG,H3⟩
end
theorem zJk (d:NodeD) (p0:Option Addr) (n0 c0:Nat) (m:Int) (k:Tree) (p:Option Addr) (c:Nat) (F:Nat->Prop) (w0:World) (hF:∀ b,F b->b<w0.heap.size) (h:ForestR w0 F p c k.kids) (hsz:zAB k<=1000000000) :
  Calls Tryz.prog 96 #[zAV d (.slice p0 n0 c0),.int .i64 m,sizV k.d (.slice p k.kids.length c) (zAB k)] w0 fun e w'=>SizOut w0 F (zEO d m k) e w'/\Below w0.heap.size w0 w':=by
 have H:=(Hold.start w0).know F (fun V=>ForestR V F p c k.kids) hF (fun i r h=>by simp at h) (fun V hV=>h.kept hV)
 clear h;simp only[List.nil_append]at H;have hki:=fun w q G (h1:∀ b,G b->b<w.heap.size) (h2:SKnows G q 1 1 [(k,p,c)] w)=>zI2 {kind:=6,hi:=m,lazy:=d.lazy} none 0 0 q 1 [(k,p,c)] G w h1 h2 (by simp only[List.map_cons,List.map_nil];rw[zAx];exact hsz)
 cases hq:zEO d m k with
 | some t =>
  have hq':zCq {kind:=6,hi:=m,lazy:=d.lazy} ([((k,p,c):TV)].map (·.1))=some t:=hq;rw[hq']at hki;clear hq hq'
  go_enter Tryz.func96,Tryz.ntmps96
  go_wp2_with (first|((with_reducible refine gZ ?_);refine nbL ?_)|((with_reducible refine kg 3 ?_);(first|refine kA 3 H ?_|refine kS 3 H ?_|refine kB 3 H ?_);clear H;intro b3 w H;try simp only[nr]at H)|((with_reducible refine kg 5 ?_);(first|refine kA 5 H ?_|refine kS 5 H ?_|refine kB 5 H ?_);clear H;intro b5 w H;try simp only[nr]at H)|((with_reducible refine kg 6 ?_);(first|refine kA 6 H ?_|refine kS 6 H ?_|refine kB 6 H ?_);clear H;intro b6 w H;try simp only[nr]at H)|(first|((with_reducible refine gTz ?_);refine aTz H ?_;clear H;intro w H;try simp only[nr]at H)|((with_reducible refine gLz ?_);refine aLz H ?_)|((with_reducible refine gL ?_);refine aG H ?_))|(((with_reducible refine gBS ?_);refine zAY wtd_ _ _ _ rfl H (sizC (k.d) (.slice p k.kids.length c) (zAB k)) 96 (by intro W;simp only[ml];(try simp only[pe]);exact zBj _ _ _ W) ?_;clear H;intro bk w H;try simp only[nr]at H);(obtain⟨G,hG,H2⟩:=H.oneSized (i:=4) (x:=(k,p,c)) (K:=F) i_4 (Still.at (i:=0) .zero) (H.kn (i:=0) .zero));clear H;(have H:=H2);clear H2;simp only[sc]at H)|(go_at_call 92;refine chz (hki _ _ _ (H.knlt (i:=4) i_4) (H.kn (i:=4) i_4)) H (Still.at (i:=4) i_4) ?_;clear H;intro q1 m1 F1 w hF1 H;simp only[ca]at H))
  refine xcz Tryz.results96 H ?_
  exact⟨⟨q1,m1,F1,rfl,H.kn (i:=5) i_5,fun b h=>⟨H.knlt (i:=5) i_5 b h,(hF1 b h).elim .inl (hG b)⟩⟩,H.below⟩
 | none =>
  have hq':zCq {kind:=6,hi:=m,lazy:=d.lazy} ([((k,p,c):TV)].map (·.1))=none:=hq;rw[hq']at hki;clear hq hq'
  go_enter Tryz.func96,Tryz.ntmps96
  go_wp2_with (first|((with_reducible refine gZ ?_);refine nbL ?_)|((with_reducible refine kg 3 ?_);(first|refine kA 3 H ?_|refine kS 3 H ?_|refine kB 3 H ?_);clear H;intro b3 w H;try simp only[nr]at H)|((with_reducible refine kg 5 ?_);(first|refine kA 5 H ?_|refine kS 5 H ?_|refine kB 5 H ?_);clear H;intro b5 w H;try simp only[nr]at H)|((with_reducible refine kg 6 ?_);(first|refine kA 6 H ?_|refine kS 6 H ?_|refine kB 6 H ?_);clear H;intro b6 w H;try simp only[nr]at H)|(first|((with_reducible refine gLz ?_);refine aLz H ?_)|((with_reducible refine gL ?_);refine aG H ?_))|(((with_reducible refine gBS ?_);refine zAY wtd_ _ _ _ rfl H (sizC (k.d) (.slice p k.kids.length c) (zAB k)) 96 (by intro W;simp only[ml];(try simp only[pe]);exact zBj _ _ _ W) ?_;clear H;intro bk w H;try simp only[nr]at H);(obtain⟨G,hG,H2⟩:=H.oneSized (i:=4) (x:=(k,p,c)) (K:=F) i_4 (Still.at (i:=0) .zero) (H.kn (i:=0) .zero));clear H;(have H:=H2);clear H2;simp only[sc]at H)|(go_at_call 92;refine zCI (hki _ _ _ (H.knlt (i:=4) i_4) (H.kn (i:=4) i_4)) H ?_;clear H;intro w H))
  exact⟨rfl,rfl,H.below⟩
theorem zO2 (rv:Value) (d:NodeD) (p0:Option Addr) (n0 c0:Nat) (p:Option Addr) (c:Nat) (xs:List TV) (F:Nat->Prop) (w0:World) (hF:∀ b,F b->b<w0.heap.size) (h:SKnows F p xs.length c xs w0) (hsz:zAF (xs.map (·.1))<=1000000000) :
  Calls Tryz.prog 36 #[rv,zAV d (.slice p0 n0 c0),.slice p xs.length c] w0 fun e w'=>SizOut w0 F (catQ (xs.map (·.1))) e w'/\Below w0.heap.size w0 w':=by
 have H:=Hold.sknows hF h;have hca:=fun w (h1:∀ b,F b->b<w.heap.size) (h2:SKnows F p xs.length c xs w)=>zJx p c xs F w h1 h2 hsz
 clear h
 cases hq:catQ (xs.map (·.1)) with
 | some t =>
  rw[hq]at hca;clear hq
  go_enter Tryz.func36,Tryz.ntmps36
  go_wp2_with (first|((with_reducible refine kg 4 ?_);(first|refine kA 4 H ?_|refine kS 4 H ?_|refine kB 4 H ?_);clear H;intro b4 w H;try simp only[nr]at H)|((with_reducible refine kg 6 ?_);(first|refine kA 6 H ?_|refine kS 6 H ?_|refine kB 6 H ?_);clear H;intro b6 w H;try simp only[nr]at H)|((with_reducible refine gTz ?_);refine aTz H ?_;clear H;intro w H;try simp only[nr]at H)|(go_at_call 88;refine chz (hca _ (H.knlt .zero) (H.kn .zero)) H (Still.at (i:=0) .zero) ?_;clear H;intro q1 m1 F1 w hF1 H;simp only[ca]at H))
  refine xcz Tryz.results36 H ?_
  exact⟨⟨q1,m1,F1,rfl,H.kn (i:=3) i_3,fun b h=>⟨H.knlt (i:=3) i_3 b h,hF1 b h⟩⟩,H.below⟩
 | none =>
  rw[hq]at hca;clear hq
  go_enter Tryz.func36,Tryz.ntmps36
  go_wp2_with (first|((with_reducible refine kg 4 ?_);(first|refine kA 4 H ?_|refine kS 4 H ?_|refine kB 4 H ?_);clear H;intro b4 w H;try simp only[nr]at H)|((with_reducible refine kg 6 ?_);(first|refine kA 6 H ?_|refine kS 6 H ?_|refine kB 6 H ?_);clear H;intro b6 w H;try simp only[nr]at H)|fail|(go_at_call 88;refine zCI (hca _ (H.knlt .zero) (H.kn .zero)) H ?_;clear H;intro w H))
  exact⟨rfl,rfl,H.below⟩
theorem zOg (rv:Value) (d:NodeD) (p0:Option Addr) (n0 c0:Nat) (p:Option Addr) (c:Nat) (xs:List TV) (F:Nat->Prop) (w0:World) (hF:∀ b,F b->b<w0.heap.size) (h:SKnows F p xs.length c xs w0) (hsz:zAF (xs.map (·.1))<=1000000000) :
  Calls Tryz.prog 37 #[rv,zAV d (.slice p0 n0 c0),.slice p xs.length c] w0 fun e w'=>SizOut w0 F (rowQ 5 2 (zBK (xs.map (·.1)) 5 2)) e w'/\Below w0.heap.size w0 w':=by
 have H:=Hold.sknows hF h;have hfl:=fun w (h1:∀ b,F b->b<w.heap.size) (h2:SKnows F p xs.length c xs w)=>zLa 5 2 p c xs F w h1 h2 hsz
 clear h;have hs2:=Nat.le_trans (zDB (xs.map (·.1)) 5 2) hsz
 generalize hfs:zBK (xs.map (·.1)) 5 2=fs at hfl hs2
 clear hfs;have hrw:∀ (w:World) q m F2 ys,Hid (ys.map (·.1)=fs)->(∀ b,F2 b->b<w.heap.size)->SKnows F2 q ys.length m ys w->Calls Tryz.prog 89 #[.int .i64 5,.int .i64 2,.slice q ys.length m] w fun e w'=>SizOut w F2 (rowQ 5 2 fs) e w'/\Below w.heap.size w w':=fun w q m F2 ys hys h1 h2=>by
  have:=zOE 5 2 q m ys F2 w h1 h2 (by rw[hys.out];exact hs2)
  rwa [hys.out]at this
 clear hs2 hsz
 cases hq:rowQ 5 2 fs with
 | some t =>
  rw[hq]at hrw;clear hq
  go_enter Tryz.func37,Tryz.ntmps37
  go_wp2_with (first|((with_reducible refine kg 4 ?_);(first|refine kA 4 H ?_|refine kS 4 H ?_|refine kB 4 H ?_);clear H;intro b4 w H;try simp only[nr]at H)|((with_reducible refine kg 6 ?_);(first|refine kA 6 H ?_|refine kS 6 H ?_|refine kB 6 H ?_);clear H;intro b6 w H;try simp only[nr]at H)|((with_reducible refine gTz ?_);refine aTz H ?_;clear H;intro w H;try simp only[nr]at H)|(go_at_call 90;refine chzl (hfl _ (H.knlt .zero) (H.kn .zero)) H (Still.at (i:=0) .zero) ?_;clear H;intro q1 m1 F1 ys w hys hF1 H;simp only[ca]at H)|(go_at_call 89;refine chz (hrw _ _ _ _ _ hys (H.knlt (i:=3) i_3) (H.kn (i:=3) i_3)) H (Still.at (i:=3) i_3) ?_;clear H;intro q2 m2 F2 w hF2 H;simp only[ca]at H))
  refine xcz Tryz.results37 H ?_
  exact⟨⟨q2,m2,F2,rfl,H.kn (i:=4) i_4,fun b h=>⟨H.knlt (i:=4) i_4 b h,(hF2 b h).elim .inl (hF1 b)⟩⟩,H.below⟩
 | none =>
  rw[hq]at hrw;clear hq
  go_enter Tryz.func37,Tryz.ntmps37
  go_wp2_with (first|((with_reducible refine kg 4 ?_);(first|refine kA 4 H ?_|refine kS 4 H ?_|refine kB 4 H ?_);clear H;intro b4 w H;try simp only[nr]at H)|((with_reducible refine kg 6 ?_);(first|refine kA 6 H ?_|refine kS 6 H ?_|refine kB 6 H ?_);clear H;intro b6 w H;try simp only[nr]at H)|fail|(go_at_call 90;refine chzl (hfl _ (H.knlt .zero) (H.kn .zero)) H (Still.at (i:=0) .zero) ?_;clear H;intro q1 m1 F1 ys w hys hF1 H;simp only[ca]at H)|(go_at_call 89;refine zCI (hrw _ _ _ _ _ hys (H.knlt (i:=3) i_3) (H.kn (i:=3) i_3)) H ?_;clear H;intro w H))
  exact⟨rfl,rfl,H.below⟩
theorem zMP (rv:Value) (d:NodeD) (p0:Option Addr) (n0 c0:Nat) (p:Option Addr) (c:Nat) (x:TV) (xs:List TV) (F:Nat->Prop) (w0:World) (hF:∀ b,F b->b<w0.heap.size) (h:SKnows F p (x::xs).length c (x::xs) w0) (hsz:zAF ((x::xs).map (·.1))<=1000000000) (hkx:zAk x.1=true) :
  Calls Tryz.prog 38 #[rv,zAV d (.slice p0 n0 c0),.slice p (x::xs).length c] w0 fun e w'=>SizOut w0 F (if x.1.d.kind=2 then some (zBs 2) else zCq d ((x::xs).map (·.1))) e w'/\Below w0.heap.size w0 w':=by
 have H:=Hold.sknows hF h;have hc1:=h.bound.2.1;have hc2:=h.bound.2.2;obtain⟨b,off,rfl⟩:=h.at (by simp)
 have hki:=fun w (h1:∀ b,F b->b<w.heap.size) (h2:SKnows F (some ⟨b,off,none⟩) (x::xs).length c (x::xs) w)=>zI2 d p0 n0 c0 (some ⟨b,off,none⟩) c (x::xs) F w h1 h2 hsz
 have his:=fun w k=>zL8 x.1.d (.slice x.2.1 x.1.kids.length x.2.2) (zAB x.1) k w
 have hx:(x::xs)[0]?=some x:=rfl;have hmem:x ∈ x::xs:=List.mem_cons_self ..;clear h;obtain⟨n,hnn⟩:∃ n,(x::xs).length=n:=⟨_,rfl⟩;have h0:0<n:=by rw[← hnn];simp
 obtain⟨zs,hzs⟩:∃ zs,x::xs=zs:=⟨_,rfl⟩;rw[hzs]at hx hnn hmem hc1;rw[hzs]at H hki ⊢;rw[hnn]at H hki hc1 ⊢;clear hnn hzs hsz;have hcell:∀ V,SKnows F (some ⟨b,off,none⟩) n c zs V->∀ k,k<11->V.cell? ⟨b,off+k,none⟩=(sizX x)[k]?:=fun V h=>h.cells (j:=0) hx (by omega)
 by_cases hk:x.1.d.kind=2
 ·rw[if_pos hk];have dk:(x.1.d.kind == 2)=true:=by rw[beq_iff_eq];exact hk
  have HC:=Lib.hid (zG1 hkx hk);clear hk hkx hx
  go_enter Tryz.func38,Tryz.ntmps38
  go_wp2_with (first|((with_reducible refine gLz ?_);refine zAO wtd_ _ _ rfl rfl zAm (zA4 x) (hcell _ (H.kn (i:=0) .zero)) ?_)|((with_reducible refine kg 4 ?_);(first|refine kA 4 H ?_|refine kS 4 H ?_|refine kB 4 H ?_);clear H;intro b4 w H;try simp only[nr]at H)|((with_reducible refine kg 6 ?_);(first|refine kA 6 H ?_|refine kS 6 H ?_|refine kB 6 H ?_);clear H;intro b6 w H;try simp only[nr]at H)|((with_reducible refine gTz ?_);refine aTz H ?_;clear H;intro w H;try simp only[nr]at H)|((with_reducible refine ch (his _ _) H ?_);clear H;intro w H))
  refine xcz Tryz.results38 H ?_
  exact⟨SizOut.clean HC.out ((H.kn (i:=0) .zero).2 x hmem) (fun b h=>⟨H.knlt .zero b h,.inr h⟩),H.below⟩
 ·rw[if_neg hk];have dk:(x.1.d.kind == 2)=false:=by rw[beq_eq_false_iff_ne];exact hk
  clear hk hkx hx
  cases hq:zCq d (zs.map (·.1)) with
  | some t =>
   rw[hq]at hki;clear hq
   go_enter Tryz.func38,Tryz.ntmps38
   go_wp2_with (first|((with_reducible refine gLz ?_);refine zAO wtd_ _ _ rfl rfl zAm (zA4 x) (hcell _ (H.kn (i:=0) .zero)) ?_)|((with_reducible refine kg 4 ?_);(first|refine kA 4 H ?_|refine kS 4 H ?_|refine kB 4 H ?_);clear H;intro b4 w H;try simp only[nr]at H)|((with_reducible refine kg 6 ?_);(first|refine kA 6 H ?_|refine kS 6 H ?_|refine kB 6 H ?_);clear H;intro b6 w H;try simp only[nr]at H)|(first|((with_reducible refine gTz ?_);refine aTz H ?_;clear H;intro w H;try simp only[nr]at H)|((with_reducible refine gL ?_);refine aD H ?_))|((with_reducible refine ch (his _ _) H ?_);clear H;intro w H)|(go_at_call 92;refine chz (hki _ (H.knlt .zero) (H.kn .zero)) H (Still.at (i:=0) .zero) ?_;clear H;intro q1 m1 F1 w hF1 H;simp only[ca]at H))
   refine xcz Tryz.results38 H ?_
   exact⟨⟨q1,m1,F1,rfl,H.kn (i:=3) i_3,fun b h=>⟨H.knlt (i:=3) i_3 b h,hF1 b h⟩⟩,H.below⟩
  | none =>
   rw[hq]at hki;clear hq
   go_enter Tryz.func38,Tryz.ntmps38
   go_wp2_with (first|((with_reducible refine gLz ?_);refine zAO wtd_ _ _ rfl rfl zAm (zA4 x) (hcell _ (H.kn (i:=0) .zero)) ?_)|((with_reducible refine kg 4 ?_);(first|refine kA 4 H ?_|refine kS 4 H ?_|refine kB 4 H ?_);clear H;intro b4 w H;try simp only[nr]at H)|((with_reducible refine kg 6 ?_);(first|refine kA 6 H ?_|refine kS 6 H ?_|refine kB 6 H ?_);clear H;intro b6 w H;try simp only[nr]at H)|((with_reducible refine gL ?_);refine aD H ?_)|((with_reducible refine ch (his _ _) H ?_);clear H;intro w H)|(go_at_call 92;refine zCI (hki _ (H.knlt .zero) (H.kn .zero)) H ?_;clear H;intro w H))
   exact⟨rfl,rfl,H.below⟩
theorem zOs (a:Nat) (ha:a<1000):bits .and .u64 (a:Int) 4294967295=(a:Int):=by
 have h:=bits_and_u64_nat a 4294967295 (by omega) (by omega)
 have e:a &&& 4294967295=a % 4294967296:=Nat.and_two_pow_sub_one_eq_mod a 32;rw[e,Nat.mod_eq_of_lt (by omega)]at h
 exact h
theorem zPq:bits .and .u64 (1:Int) 4294967295=1:=zOs 1 (by omega)
theorem zPX:bits .and .u64 (0:Int) 4294967295=0:=zOs 0 (by omega)
theorem divZ (a:Nat) (ha:a<1000):(a:Int) / 4294967296=0:=by omega
theorem zPU (a:Nat) (ha:a<1000):IntKind.u64.wrap (a:Int)=(a:Int):=by rw[IntKind.wrap_u64];omega
theorem zPu:IntKind.u64.wrap 0=0:=rfl
theorem zJY (n:Nat) (hn:n<1000) (w:World):Calls Tryz.prog 105 #[.int .u64 1,.int .u64 n] w fun e w'=>e=.returned (.tuple #[.int .u64 0,.int .u64 n])/\w'=w:=by
 go_enter Tryz.func105,Tryz.ntmps105
 go_wp2
 simp only[zOs n hn,zPq,zPX,divZ n hn,zPU n hn,zPu,Int.one_mul,Int.zero_mul,Int.mul_zero,Int.add_zero,Int.zero_add,Int.reduceDiv,Int.reduceMul,Int.reduceAdd]
 go_ret2
 exact⟨rfl,rfl⟩
theorem zMm (n:Nat) (hn:n<1000) (w:World):Calls Tryz.prog 44 #[.int .u64 1,.int .u64 n] w fun e w'=>e=.returned (.tuple #[.int .u64 0,.int .u64 n])/\w'=w:=by
 have c64:=zJY n hn w
 go_enter Tryz.func44,Tryz.ntmps44
 go_wp2_with (go_at_call 105;refine c64.mono ?_;rintro e w' ⟨rfl,hw⟩;rw[hw])
 go_ret2
 exact⟨rfl,rfl⟩
def rptZ (x:TV) (j n:Nat):List (Array Value):=List.replicate j (sizX x)++List.replicate (n - j) (sizC {kind:=0} nilS 0)
theorem zDd {x:TV} {j n:Nat} (h:j<=n):(rptZ x j n).length=n:=by simp[rptZ];omega
theorem zEy (x:TV) (j n:Nat):∀ r ∈ rptZ x j n,r.size=11:=by
 intro r hr;rcases List.mem_append.1 hr with hr|hr<;>(rw[List.eq_of_mem_replicate hr];rfl)
theorem zMn {x:TV} {j n k:Nat} (h:k<=j):(rptZ x j n).take k=List.replicate k (sizX x):=by
 unfold rptZ;rw[List.take_append_of_le_length (by simpa using h),List.take_replicate,Nat.min_eq_left h]
theorem zLF {x:TV} {j n k:Nat} (h:j<=k):(rptZ x j n).drop k=List.replicate (n - k) (sizC {kind:=0} nilS 0):=by
 unfold rptZ;rw[List.drop_append,List.drop_of_length_le (by simpa using h),List.drop_replicate,List.nil_append]
 congr 1;simp;omega
theorem zH8 {x:TV} {j n:Nat} (h:j<=n) (m:Nat) (hm:j+m<=n):(rptZ x j n).take j++(List.replicate m (sizX x)++(rptZ x j n).drop (j+m))=rptZ x (j+m) n:=by
 rw[zMn (Nat.le_refl _),zLF (by omega),← List.append_assoc,List.replicate_append_replicate]
 rfl
theorem zHj {x:TV} {m:Nat}:∀ v ∈ zAG (List.replicate m (sizX x)),v.oneCell'=true:=by
 intro u hu;simp only[zAG,List.mem_flatten,List.mem_map]at hu;obtain⟨l,⟨r,hr,rfl⟩,hu⟩:=hu;rw[List.eq_of_mem_replicate hr]at hu;have:(sizX x).toList.all (·.oneCell')=true:=rfl;exact List.all_eq_true.1 this u hu
theorem zIS {M:Nat->Prop} {w0 W:World} {l:List Res} (H:HoldG M w0 W l) {i gs n j:Nat} {x:TV} {e:TypeId} (hi:At l i (.row (.slice (some ⟨gs,0,none⟩) n n) e 11 n (zAG (rptZ x j n)))) (hj:j<=n) {m:Nat} (hm:m<=j) {k:Nat} {u:Value} (hu:(zAG (List.replicate m (sizX x)))[k]?=some u):W.cell? ⟨gs,k,none⟩=some u:=by
 have hs:∀ r ∈ List.replicate m (sizX x),r.size=11:=fun r hr=>by rw[List.eq_of_mem_replicate hr];rfl
 have hkl:=(List.getElem?_eq_some_iff.1 hu).1;rw[zBF hs,List.length_replicate]at hkl;have hd:k=k / 11 * 11+k % 11:=by omega
 have hc:=H.rowCell hi (zEy x j n) (zDd hj) (j:=k / 11) (r:=sizX x) (by
  unfold rptZ
  rw[List.getElem?_append_left (by simp;omega),List.getElem?_replicate,if_pos (by omega)]) rfl (k % 11) (by omega)
 have h2:=zCE hs (j:=k / 11) (r:=sizX x) (k:=k % 11) (by rw[List.getElem?_replicate,if_pos (by omega)]) (by omega)
 rw[← hd]at hc h2;rw[hc,← h2];exact hu
theorem zML (g n j:Nat) (hj:j<n) (W:World):(Instr.slice 156 (.slice (some ⟨g,0,none⟩) n n) (some (.int .i64 (j:Int))) none none).run Tryz.prog W=.ok (.slice (some ⟨g,j * 11,none⟩) (n - j) (n - j)) W:=by
 have he:Tryz.prog.elem 156=96:=by simp[Program.elem,Tryz.underlying156]
 have hz:∀ w,(sizeOf 96).run Tryz.prog w=.ok 11 w:=fun w=>by kernel_rfl
 rw[run_slice_l W 156 _ n n (by rw[he];exact Tryz.underlying156) .i64 j (by omega) (by omega),he,hz]
 simp[Result.andThen,sliced,Addr.add];rw[if_neg (by omega)]
 split
 ·rename_i h;rw[h]
 ·rfl
theorem zOw (g n j:Nat) (hj:j<=n) (W:World):(Instr.slice 156 (.slice (some ⟨g,0,none⟩) n n) none (some (.int .i64 (j:Int))) none).run Tryz.prog W=.ok (.slice (some ⟨g,0,none⟩) j n) W:=by
 have he:Tryz.prog.elem 156=96:=by simp[Program.elem,Tryz.underlying156]
 have hz:∀ w,(sizeOf 96).run Tryz.prog w=.ok 11 w:=fun w=>by kernel_rfl
 rw[run_slice_h W 156 _ n n (by rw[he];exact Tryz.underlying156) .i64 j (by omega) (by omega),he,hz]
 simp[Result.andThen,sliced,Addr.add]
def OwnZ (w:World) (xs:List TV) (e:Ending) (w':World):Prop:=∃ q c,e=.returned (.slice q xs.length c)/\w'.ownsRow w.heap.size 96 11 (.slice q xs.length c) xs.length (zAG (xs.map sizX))/\Below w.heap.size w w'
theorem zGn (q:Option Addr) (c:Nat) (x:TV) (n:Nat) (F:Nat->Prop) (w0:World) (hn:n<=500) (hF:∀ b,F b->b<w0.heap.size) (h:SKnows F q 1 c [x] w0) :
  Calls Tryz.prog 95 #[.slice q 1 c,.int .i64 n] w0 fun e w'=>OwnZ w0 (List.replicate n x) e w':=by
 have H:=Hold.sknows hF h;obtain⟨bq,oq,hq⟩:=h.at (by simp)
 subst hq;clear h;obtain⟨ii,hii,hi0,hi1,hi2⟩:=info_parts zDL;have hmul:=fun w=>zMm n (by omega) w
 have d1:decide ((n:Int)<0)=false:=decide_eq_false (by omega)
 have d2:decide ((9223372036854775807:Int)<(n:Int))=false:=decide_eq_false (by omega)
 have w1:IntKind.u64.wrap (n:Int)=(n:Int):=zPU n (by omega)
 have w2:wrap64 (n:Int)=(n:Int):=by unfold wrap64;omega
 have w3:IntKind.u64.wrap 1=1:=rfl;obtain⟨m0,hm0⟩:∃ m0,Nat.min 1 n=m0:=⟨_,rfl⟩;have hm1:m0<=1:=by rw[← hm0];show min 1 n<=1;omega
 have hm2:m0<=n:=by rw[← hm0];show min 1 n<=n;omega
 have hm3:1<=m0\/n=0:=by have:min 1 n=m0:=hm0;omega
 have HM0:=Lib.hid hm0;clear hm0
 go_enter Tryz.func95,Tryz.ntmps95
 go_upto_region 4 with (first|fail|(go_at_call 44;refine(hmul _).mono ?_;rintro e w' ⟨rfl,hw⟩;rw[hw]))
 go_upto_region 6 with (first|fail)
 go_upto_region 7 with (first|((with_reducible refine gMS ?_);refine zIR rfl _ _ 156 rfl H Tryz.underlying156 hii hi0 hi1 hi2 rfl (by decide) (n:=n) (by first|rfl|(rw[← w2];rfl)) (by first|rfl|(rw[← w2];rfl)) (by omega) (by unfold maxLen;omega) ?_;clear H;intro gs w H;simp only[ca]at H)|fail)
 rw[show List.replicate n (Value.agg (sizC {kind:=0} nilS 0)).cells=rptZ x 0 n by simp[rptZ,Value.cells]]at H
 have hk:∀ k u,(zAG (List.replicate m0 (sizX x)))[k]?=some u->w.cell? ⟨bq,oq+k,none⟩=some u:=fun k u hu=>by
  have h1:=SKnows.cells (H.kn (i:=0) .zero) (j:=0) (x:=x) rfl rfl k;have hlt:=(List.getElem?_eq_some_iff.1 hu).1;rw[zBF (sz:=11) (fun r hr=>by rw[List.eq_of_mem_replicate hr];rfl),List.length_replicate]at hlt
  obtain rfl:m0=1:=by omega
  rw[Nat.zero_mul,Nat.add_zero]at h1;rw[h1 (by omega),← hu]
  simp[zAG]
 go_upto_region 8 with (first|((with_reducible show @wpList _ _ _ ({dst:=_,op:=Op.call {callee:=.builtin .copy,args:=_,argTypes:=_},type:=_,pos:=_,after:=_,guard:=_}::_) _ _);(go_loud (refine zGY (k:=0) (m:=m0) rfl _ _ _ _ rfl Tryz.underlying156 (by kernel_rfl) evd_ evd_ rfl HM0.out H (j:=1) i_1 (zDd (Nat.zero_le _)) (zEy _ _ _) (List.replicate m0 (sizX x)) (fun r hr=>by rw[List.eq_of_mem_replicate hr];rfl) (List.length_replicate ..) (fun k u hu=>by rw[Addr.add_mid];exact hk k u hu) (by omega) zHj ?_));clear H;intro w H;try simp only[sc]at H)|fail)
 rw[zH8 (Nat.zero_le _) m0 (by omega),Nat.zero_add]at H
 clear hk hmul w1 w3 d1 d2
 go_loopw [8] (fun ix wr=>∃ (j:Nat),(1<=j\/n=0)/\j<=n/\ix=.int .i64 j/\Hold w0 wr [.kn F (SKnows F (some ⟨bq,oq,none⟩) 1 c [x]),.row (.slice (some ⟨gs,0,none⟩) n n) 96 11 n (zAG (rptZ x j n))]) (fun v _=>n - (intOf v).toNat)
 case atStart=>exact⟨m0,hm3,hm2,rfl,H⟩
 case round =>
  clear H;obtain⟨j,hj1,hj,rfl,H⟩:=hrel
  by_cases hlt:j<n
  ·have dj:decide (j<n)=true:=decide_eq_true hlt;have dj2:decide ((j:Int)<(n:Int))=true:=decide_eq_true (by omega)
   obtain⟨m,hm⟩:∃ m,Nat.min j (n - j)=m:=⟨_,rfl⟩;have hm1:1<=m:=by rw[← hm];show 1<=min j (n - j);omega
   have hm2:m<=n - j:=by rw[← hm];show min j (n - j)<=_;omega
   have hm3:m<=j:=by rw[← hm];show min j (n - j)<=_;omega
   have hel:Tryz.prog.underlying 156=some (.slice (Tryz.prog.elem 156)):=by kernel_rfl
   have hrun1:=zML gs n j hlt;have hrun2:=zOw gs n j hj;have hcp:=zH8 (x:=x) hj m (by omega)
   have HEL:=Lib.hid hel;clear hel;have HM:=Lib.hid hm;clear hm;have HP:=Lib.hid hcp;clear hcp
   go_upto_region 9 with (first|fail)
   refine zGh 7 0 [fun v _=>v=.int .i64 (j:Nat),fun v _=>v=.slice (some ⟨gs,0,none⟩) n n,fun v _=>v=.int .i64 (j:Nat),fun v _=>v=.slice (some ⟨gs,j * 11,none⟩) (n - j) (n - j),fun v _=>v=.slice (some ⟨gs,0,none⟩) n n,fun v _=>v=.int .i64 (j:Nat),fun v _=>v=.slice (some ⟨gs,0,none⟩) j n] (fun _=>false) (by kernel_rfl) (by kernel_rfl) (by kernel_rfl) (by repeat (first|exact trivial|refine⟨zAL _,?_⟩)) (fun _ _ h=>by cases h) ?ob ?en ?en2
   case ob =>
    refine⟨?_,?_,?_,?_,?_,?_,?_,trivial⟩<;>intro A W h
    ·exact zAH rfl rfl (h.f 8)
    ·exact zAH rfl rfl (h.f 7)
    ·exact zAH rfl rfl (h.f 8)
    ·(have e39:A.eval (.tmp 39)=.slice (some ⟨gs,0,none⟩) n n:=h.d 1 39;have e40:A.eval (.tmp 40)=.int .i64 (j:Nat):=h.d 2 40;refine zAA rfl ?_;simp only[execOp,e39,e40];(simp only[Option.map,e40,Sem.run_bind,run_sliceAt_slice (h:=HEL.out),hrun1,Result.andThen_ok,Sem.run_pure]))
    ·exact zAH rfl rfl (h.f 7)
    ·exact zAH rfl rfl (h.f 8)
    ·(have e42:A.eval (.tmp 42)=.slice (some ⟨gs,0,none⟩) n n:=h.d 4 42;have e43:A.eval (.tmp 43)=.int .i64 (j:Nat):=h.d 5 43;refine zAA rfl ?_;simp only[execOp,e42,e43];(simp only[Option.map,e43,Sem.run_bind,run_sliceAt_slice (h:=HEL.out),hrun2,Result.andThen_ok,Sem.run_pure]))
   case en =>
    intro vals W hbw hv _;simp only[fa,Nat.reduceAdd];rw[e_ hv 0,e_ hv 1,e_ hv 2,e_ hv 3,e_ hv 4,e_ hv 5,e_ hv 6];clear hv
    try simp only[pl]
    try simp only[pl]
    have H:=H.call hbw;refine zGY (k:=j) (m:=m) rfl _ _ _ _ rfl Tryz.underlying156 (by kernel_rfl) evd_ evd_ rfl HM.out H (j:=1) i_1 (zDd hj) (zEy _ _ _) (List.replicate m (sizX x)) (fun r hr=>by rw[List.eq_of_mem_replicate hr];rfl) (List.length_replicate ..) (fun k u hu=>by rw[Addr.add_mid,Nat.zero_add];exact zIS H (i:=1) i_1 hj (m:=m) (by omega) hu) (by omega) zHj ?_
    clear H;intro w H;(try simp only[sc]at H);rw[HP.out]at H
    go_wp2_with (first|fail)
    go_roundw
    case rel=>exact⟨j+m,by omega,by omega,by go_num,H⟩
    case measure=>simp[intOf];omega
   case en2 =>
    intro vals W hbw hv _;have v1:vals 1=_:=hv 1 (by omega) (by omega)
    have v2:vals 2=_:=hv 2 (by omega) (by omega)
    have v3:vals 3=_:=hv 3 (by omega) (by omega)
    have v4:vals 4=_:=hv 4 (by omega) (by omega)
    have v5:vals 5=_:=hv 5 (by omega) (by omega)
    have v6:vals 6=_:=hv 6 (by omega) (by omega)
    simp only[List.take_succ_cons,List.take_zero,List.drop_succ_cons,List.drop_zero,List.drop_nil,List.take_nil,zFH,zN9,List.cons_append,List.nil_append,Nat.reduceEqDiff,if_true,if_false,reduceCtorEq,Nat.zero_add,Nat.reduceAdd];rw[v1,v2,v3,v4,v5,v6];clear hv v1 v2 v3 v4 v5 v6
    try simp only[pl]
    try simp only[pl]
    have H:=H.call hbw;refine zGY (k:=j) (m:=m) rfl _ _ _ _ rfl Tryz.underlying156 (by kernel_rfl) evd_ evd_ rfl HM.out H (j:=1) i_1 (zDd hj) (zEy _ _ _) (List.replicate m (sizX x)) (fun r hr=>by rw[List.eq_of_mem_replicate hr];rfl) (List.length_replicate ..) (fun k u hu=>by rw[Addr.add_mid,Nat.zero_add];exact zIS H (i:=1) i_1 hj (m:=m) (by omega) hu) (by omega) zHj ?_
    clear H;intro w H;(try simp only[sc]at H);rw[HP.out]at H
    go_wp2_with (first|fail)
    go_roundw
    case rel=>exact⟨j+m,by omega,by omega,by go_num,H⟩
    case measure=>simp[intOf];omega
  ·have hjn:j=n:=by omega
   subst hjn;have dj:decide (j<j)=false:=by simp
   have dj2:decide ((j:Int)<(j:Int))=false:=by simp
   go_wp2_with (first|fail)
   go_ret;rw[show rptZ x j j=(List.replicate j x).map sizX by simp[rptZ]]at H
   have hr:=H.all 1 _ rfl;refine⟨some ⟨gs,0,none⟩,j,by simp,?_,H.below⟩
   have e:(List.replicate j x).length=j:=List.length_replicate ..;rw[e];exact hr
end
end Go.Proofs.YtalggmbdpmdcbaaGreat
