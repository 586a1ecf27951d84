/-
  Laws of walks, and walks.
-/
import Derived.Test.YtphjgfjbiimkjaaGreatEc4
import Derived.Test.YtphjgfjbiimkjaaGreatEc1
set_option linter.unusedVariables false
set_option linter.unusedSimpArgs false
set_option maxRecDepth 100000
set_option maxHeartbeats 16000000
namespace Go.Proofs.YtphjgfjbiimkjaaGreat
section
open Go.RowKit Go.Shelf
attribute [local go_sem] Oper.semAt_some
abbrev runL (rb:Nat) (pp:Option Addr) (cp:Nat) (ps:List InstD) (psl:Option Addr) (csl:Nat) (L:Str) (Fp Fs:Nat->Prop) (gs cs K gt ct m:Nat) (sn:List Bool) (sl:zAP):List Res :=
 [.blk rb #[.slice pp ps.length cp,.slice psl L.length csl,.slice (some ⟨gs,0,none⟩) K cs,.slice (some ⟨gt,0,none⟩) m ct] 150,.row (.slice (some ⟨gs,0,none⟩) K cs) 4 1 K (sn.map .bool),.row (.slice (some ⟨gt,0,none⟩) m ct) 3 1 m (sl.map (.int .i64)),.kn Fp (InstsR Fp pp cp ps),.kn Fs (BytesR Fs psl csl L)]
def WayB (rb:Nat) (pp:Option Addr) (cp:Nat) (ps:List InstD) (psl:Option Addr) (csl:Nat) (L:Str) (Fp Fs:Nat->Prop) (gs cs K gt ct m:Nat) (M:Nat->Prop) (w0:World) (k i:Nat) (sn:List Bool) (sl:zAP) (w:World) (e:Ending) (w':World):Prop :=
 ∃ (b:Bool) (sn':List Bool) (sl':zAP),e=.returned (.bool b)/\WayT ps L k i sl sn b sn' sl'/\Turned M w0 w (runL rb pp cp ps psl csl L Fp Fs gs cs K gt ct m sn sl) (runL rb pp cp ps psl csl L Fp Fs gs cs K gt ct m sn' sl') w'
theorem zP4 {l:List Res}:∀ (n:Nat) (pre:List Res),pre.length=n->(List.range' n l.length).map (fun j=>(pre++l)[j]?)=l.map some:=by
 intro n pre hn;apply List.ext_getElem?;intro i;simp only[List.getElem?_map,List.getElem?_range']
 by_cases h:i<l.length
 ·simp[h,List.getElem?_append,hn]
 ·simp[h]
section
variable {rb:Nat} {pp:Option Addr} {cp:Nat} {ps:List InstD} {psl:Option Addr} {csl:Nat} {L:Str} {Fp Fs:Nat->Prop} {gs cs K gt ct m:Nat} {M:Nat->Prop} {w0 w:World} {k i:Nat} {sn:List Bool} {sl:zAP}
theorem chW {P:Program} {f:FuncId} {args:Array Value} {l3:List Res} {R:Ending->World->Prop} (H:HoldG M w0 w (.blk rb #[.slice pp ps.length cp,.slice psl L.length csl,.slice (some ⟨gs,0,none⟩) K cs,.slice (some ⟨gt,0,none⟩) m ct] 150::.row (.slice (some ⟨gs,0,none⟩) K cs) 4 1 K (sn.map .bool)::.row (.slice (some ⟨gt,0,none⟩) m ct) 3 1 m (sl.map (.int .i64))::.kn Fp (InstsR Fp pp cp ps)::.kn Fs (BytesR Fs psl csl L)::l3))
  (c:HoldG M w0 w (runL rb pp cp ps psl csl L Fp Fs gs cs K gt ct m sn sl)->Calls P f args w (WayB rb pp cp ps psl csl L Fp Fs gs cs K gt ct m M w0 k i sn sl w))
  (k2:∀ (b:Bool) (sn':List Bool) (sl':zAP) w',WayT ps L k i sl sn b sn' sl'->HoldG M w0 w' (.blk rb #[.slice pp ps.length cp,.slice psl L.length csl,.slice (some ⟨gs,0,none⟩) K cs,.slice (some ⟨gt,0,none⟩) m ct] 150::.row (.slice (some ⟨gs,0,none⟩) K cs) 4 1 K (sn'.map .bool)::.row (.slice (some ⟨gt,0,none⟩) m ct) 3 1 m (sl'.map (.int .i64))::.kn Fp (InstsR Fp pp cp ps)::.kn Fs (BytesR Fs psl csl L)::l3)->R (.returned (.bool b)) w'):Calls P f args w R:=by
 refine(c (H.pick [0,1,2,3,4] _ (by decide) rfl)).mono ?_
 rintro e w' ⟨b,sn',sl',rfl,hT,T⟩;refine k2 b sn' sl' w' hT (H.callIn T [0,1,2,3,4] (List.range' 5 l3.length) rfl (zP4 5 [_,_,_,_,_] rfl) List.nodup_range' (fun j hj h=>?_))
 rw[List.mem_range'_1]at h;simp at hj;omega
theorem zCM {W:World} {l:List Res} {e:Ending} {b:Bool} {sn':List Bool} {sl':zAP} (H:HoldG M w0 W l) {q:Nat} (hi:At l q (.kn (zB3 w (runL rb pp cp ps psl csl L Fp Fs gs cs K gt ct m sn sl)) (zCO w (runL rb pp cp ps psl csl L Fp Fs gs cs K gt ct m sn sl)))) (hq:4<q)
  (h:[0,1,2,3,4].map (fun j=>l[j]?)=(runL rb pp cp ps psl csl L Fp Fs gs cs K gt ct m sn' sl').map some) (he:e=.returned (.bool b)) (hT:WayT ps L k i sl sn b sn' sl'):WayB rb pp cp ps psl csl L Fp Fs gs cs K gt ct m M w0 k i sn sl w e W :=
 ⟨b,sn',sl',he,hT,Turned.of H hi [0,1,2,3,4] (by decide) (by simp;omega) h (fun F S hm b hb=>by
  simp at hm;rcases hm with ⟨rfl,rfl⟩|⟨rfl,rfl⟩
  ·exact .inl ⟨.kn F (InstsR F pp cp ps),by simp,hb⟩
  ·exact .inl ⟨.kn F (BytesR F psl csl L),by simp,hb⟩)⟩
end
theorem zF8 {ps:List InstD} (h:zAq ps=true) {k:Nat} {x:InstD} (hx:ps[k]?=some x):zBG ps.length x=true:=by
 simp only[zAq,Bool.and_eq_true,List.all_eq_true]at h;exact h.2 x (List.mem_of_getElem? hx)
theorem zCU {n:Nat} {x:InstD} (h:zBG n x=true) (hk:x.kind=1\/x.kind=2\/x.kind=3\/x.kind=4):0<=x.next/\x.next<n:=by
 unfold zBG inN at h;rcases hk with h1|h1|h1|h1<;>simp[h1]at h<;>omega
theorem zGK {n:Nat} {x:InstD} (h:zBG n x=true) (hk:x.kind=2):0<=x.other/\x.other<n:=by
 unfold zBG inN at h;simp[hk]at h;omega
theorem zGl {n:Nat} {x:InstD} (h:zBG n x=true) (hk:x.kind=3):0<=x.slot/\x.slot<42:=by
 unfold zBG inN at h;simp[hk]at h;omega
theorem zM1:∀ (ps:List InstD) (a:Nat) (x:InstD),x ∈ ps->x.slot.toNat<=ps.foldl (fun m x=>max m x.slot.toNat) a
 | [],_,_,h=>by cases h
 | y::r,a,x,h=>by
  have mono:∀ (l:List InstD) (b:Nat),b<=l.foldl (fun m x=>max m x.slot.toNat) b:=by
   intro l
   induction l with
   | nil=>intro b;exact Nat.le_refl _
   | cons z l ih=>intro b;exact Nat.le_trans (Nat.le_max_left _ _) (ih _)
  rcases List.mem_cons.1 h with rfl|h
  ·exact Nat.le_trans (Nat.le_max_right _ _) (mono r _)
  ·exact zM1 r _ x h
theorem zLr {ps:List InstD} {k:Nat} {x:InstD} (hx:ps[k]?=some x):x.slot.toNat<zBY ps:=by
 have:=zM1 ps 1 x (List.mem_of_getElem? hx);unfold zBY zII;omega
theorem zMy (rb:Nat) (pp:Option Addr) (cp:Nat) (ps:List InstD) (psl:Option Addr) (csl:Nat) (L:Str) (Fp Fs:Nat->Prop) (gs cs K gt ct ms:Nat) (hR:zAq ps=true) (hset:∀ x ∈ ps,zAb x.set) (hL:L.length<=1000) (hn4:ps.length<=4000) (hK:K=ps.length * (L.length+1)) (hms:ms=zBY ps) :
  ∀ (m k i:Nat) (sn:List Bool) (sl:zAP) (M:Nat->Prop) (w0 w:World),unF sn<m->k<ps.length->i<=L.length->sn.length=K->sl.length=ms->HoldG M w0 w (runL rb pp cp ps psl csl L Fp Fs gs cs K gt ct ms sn sl) ->
  Calls Tryz.prog 76 #[.pointer (some ⟨rb,0,none⟩),.int .i64 k,.int .i64 i] w (WayB rb pp cp ps psl csl L Fp Fs gs cs K gt ct ms M w0 k i sn sl w)
 | 0,_,_,_,_,_,_,_,h,_,_,_,_,_=>by omega
 | m+1,k,i,sn,sl,M,w0,w,hm,hk,hi,hsn,hsl,H0=>by
  have IH:=zMy rb pp cp ps psl csl L Fp Fs gs cs K gt ct ms hR hset hL hn4 hK hms m;have H:=H0.framed;clear H0;obtain⟨rF,hrF⟩:∃ rF,zB3 w (runL rb pp cp ps psl csl L Fp Fs gs cs K gt ct ms sn sl)=rF:=⟨_,rfl⟩;obtain⟨rS,hrS⟩:∃ rS,zCO w (runL rb pp cp ps psl csl L Fp Fs gs cs K gt ct ms sn sl)=rS:=⟨_,rfl⟩;rw[hrF,hrS]at H;simp only[runL,List.cons_append,List.nil_append]at H;obtain⟨x,hx⟩:∃ x,ps[k]?=some x:=⟨_,List.getElem?_eq_getElem hk⟩
  have hri:=zF8 hR hx;obtain⟨kk,hkk⟩:∃ kk,k * (L.length+1)+i=kk:=⟨_,rfl⟩;have hkK:kk<K:=by rw[← hkk,hK];exact zOS hk hi
  have hK1:ps.length * (L.length+1)<=4000 * (L.length+1):=Nat.mul_le_mul_right _ hn4;have hK2:K<=4010000:=by rw[hK];exact Nat.le_trans hK1 (by omega)
  obtain⟨bp,op,hpp⟩:=(H.kn (i:=3) i_3).at (by omega)
  subst hpp;have hcell:∀ V,InstsR Fp (some ⟨bp,op,none⟩) cp ps V->∀ q,q<9->V.cell? ⟨bp,op+k * 9+q,none⟩=(zAf x)[q]?:=fun V h=>h.cells hx rfl
  obtain⟨km,hkm⟩:∃ km,k * (L.length+1)=km:=⟨_,rfl⟩;have hkl:km<=4010000:=by
   have:k * (L.length+1)<=4000 * (L.length+1):=Nat.mul_le_mul_right _ (by omega)
   omega
  have hmul:wrap64 ((k:Int) * ((L.length:Int)+1))=(km:Int):=by
   have e0:(k:Int) * ((L.length:Int)+1)=((k * (L.length+1):Nat):Int):=by push_cast;rfl
   rw[e0,hkm];unfold wrap64;omega
  have hki:(km:Int)+(i:Int)=(kk:Int):=by omega
  clear hK1;obtain⟨z,hz⟩:∃ z,sn[kk]?=some z:=⟨_,List.getElem?_eq_getElem (by omega)⟩
  have hbz:(sn.map Value.bool)[kk]?=some (.bool z):=by rw[List.getElem?_map,hz];rfl
  go_enter Tryz.func76,Tryz.ntmps76
  go_upto_region 2 with (first|((with_reducible refine gL ?_);refine aG H ?_))
  have hlenb:(sn.map Value.bool).length=K:=by rw[List.length_map];exact hsn
  cases z with
  | true =>
   have hT:=WayT.seen (p:=ps) (s:=L) (sl:=sl) hi (by rw[hkk];exact hz)
   clear hmul hki IH hx hri hcell hz
   go_wp2_with (first|((with_reducible refine gL ?_);refine zAK wtd_ _ _ rfl rfl zC7 (H.row1 (i:=1) i_1 hbz) ?_)|((with_reducible refine gL ?_);refine aG H ?_))
   go_ret;rw[← hrF,← hrS]at H;exact zCM H (q:=5) i_5 (by decide) rfl rfl (hT)
  | false =>
   obtain⟨sn1,hs1⟩:∃ s,sn.set kk true=s:=⟨_,rfl⟩;have hmap:(sn.map Value.bool).set kk (.bool true)=sn1.map .bool:=by rw[← hs1,List.map_set]
   have hM:Marked L k i sn sn1:=by
    have:=Marked.of (s:=L) (k:=k) (sn:=sn) hi (by rw[hkk];exact hz)
    rwa [hkk,hs1]at this
   have hlen1:sn1.length=K:=hM.len.trans hsn;have hun1:unF sn1<m:=by have:=hM.un;omega
   go_upto_region 7 with (first|((with_reducible refine gL ?_);refine zAK wtd_ _ _ rfl rfl zC7 (H.row1 (i:=1) i_1 hbz) ?_)|((with_reducible refine gT ?_);refine zB6 wtd_ _ _ _ rfl rfl (v:=.bool true) evd_ H (j:=1) i_1 hlenb (by with_reducible exact zAD zC7) rfl hkK ?_;clear H;intro w H;(simp only[sc]at H);(rw[hmap]at H))|((with_reducible refine gL ?_);refine zCW wtd_ _ _ rfl rfl zAp rfl (hcell _ (H.kn (i:=3) i_3)) ?_)|((with_reducible refine kg 8 ?_);(first|refine kA 8 H ?_|refine kS 8 H ?_|refine kB 8 H ?_);clear H;intro b8 w H;try simp only[nr]at H)|(first|((with_reducible refine gTi ?_);refine aTi H ?_;clear H;intro w H;try simp only[nr]at H)|((with_reducible refine gL ?_);refine aGi H ?_)|((with_reducible refine gL ?_);refine aG H ?_)))
   clear hmul hki hcell hz hbz hlenb hmap hs1;simp only[pl]
   by_cases k5:x.kind=5
   ·have d5:(x.kind == 5)=true:=by rw[beq_iff_eq];exact k5
    have hT:=WayT.match (p:=ps) (sl:=sl) hM (by rw[zBZ hx];exact k5)
    clear IH hri hx
    go_wp2_with (first|fail)
    go_ret;rw[← hrF,← hrS]at H;exact zCM H (q:=5) i_5 (by decide) rfl rfl (hT)
   have d5:(x.kind == 5)=false:=by rw[beq_eq_false_iff_ne];exact k5
   have hk5:(atI ps k).kind≠5:=by rw[zBZ hx];exact k5
   by_cases k1:x.kind=1
   ·have d1:(x.kind == 1)=true:=by rw[beq_iff_eq];exact k1
    have hnx:=zCU hri (.inl k1);have hN:∀ i2 sn2 sl2 w,i2<=L.length->unF sn2<m->sn2.length=K->sl2.length=ms->HoldG M w0 w (runL rb (some ⟨bp,op,none⟩) cp ps psl csl L Fp Fs gs cs K gt ct ms sn2 sl2)->Calls Tryz.prog 76 #[.pointer (some ⟨rb,0,none⟩),.int .i64 x.next,.int .i64 (i2:Nat)] w (WayB rb (some ⟨bp,op,none⟩) cp ps psl csl L Fp Fs gs cs K gt ct ms M w0 x.next.toNat i2 sn2 sl2 w):=fun i2 sn2 sl2 w h1 h2 h3 h4 h=>by
     have e:((x.next.toNat:Nat):Int)=x.next:=Int.toNat_of_nonneg hnx.1;have:=IH x.next.toNat i2 sn2 sl2 M w0 w h2 (by omega) h1 h3 h4 h
     rwa [e]at this
    by_cases hiL:i<L.length
    ·obtain⟨bs,os,hbs⟩:=(H.kn (i:=4) i_4).at (by omega)
     subst hbs;have hha:=fun w=>zE6 x.set (hset x (List.mem_of_getElem? hx)) (byt L i) (zKO L i) w
     cases hs:hasB x.set (byt L i) with
     | true =>
      rw[hs]at hha;have hsuc:=zOy (p:=ps) (s:=L) (k:=k) (i:=i) (sl:=sl) hx k1 hiL hs;have hN1:∀ w,_->Calls Tryz.prog 76 #[.pointer (some ⟨rb,0,none⟩),.int .i64 x.next,.int .i64 ((i:Int)+1)] w _:=fun w h=>hN (i+1) sn1 sl w (by omega) hun1 hlen1 hsl h
      clear IH hri hx k5 k1 hN hs
      go_upto_region 10 with (first|fail)
      refine wr_ 25 [fun v _=>v=.int .i64 (i:Nat),fun v _=>v=pt rb 0,fun v _=>v=pt rb 0,fun v _=>v=pt rb 1,fun v _=>v=.slice (some ⟨bs,os,none⟩) L.length csl,fun v _=>v=.int .i64 ((L.length:Nat):Int),fun v _=>v=.bool true,fun v _=>v=.bool true,fun v _=>v=pt b8 1,fun v _=>v=setV x.set,fun v _=>v=pt rb 0,fun v _=>v=pt rb 0,fun v _=>v=pt rb 1,fun v _=>v=.slice (some ⟨bs,os,none⟩) L.length csl,fun v _=>v=.int .i64 (i:Nat),fun v _=>v=.pointer (some ⟨bs,os+i,none⟩),fun v _=>v=.int .u8 (byt L i),fun v _=>v=.bool true,fun v _=>v=.bool true,fun v _=>v=.bool true,fun v _=>v=pt rb 0,fun v _=>v=pt b8 5,fun v _=>v=.int .i64 x.next,fun v _=>v=.int .i64 (i:Nat),fun v _=>v=.int .i64 ((i:Int)+1)] ?ob ?en
      case ob =>
       refine⟨?_,?_,?_,?_,?_,?_,?_,?_,?_,?_,?_,?_,?_,?_,?_,?_,?_,?_,?_,?_,?_,?_,?_,?_,?_,trivial⟩<;>intro A W h
       ·exact zAB rfl rfl (h.f 2)
       ·exact zAB rfl rfl (h.f 0)
       ·(have e47:A.eval (.tmp 47)=.pointer (some ⟨rb,0,none⟩):=h.d 1 47;refine zAA rfl ?_;simp only[execOp,e47];(simp[go_sem]<;>first|done|omega|(rw[IntKind.wrap_i64];omega)|(rw[IntKind.wrap_u8];omega)|(rw[IntKind.wrap_u64];omega)))
       ·(have e48:A.eval (.tmp 48)=.pointer (some ⟨rb,0,none⟩):=h.d 2 48;refine zAA rfl ?_;simp only[execOp,e48];(simp[go_sem]<;>first|done|omega|(rw[IntKind.wrap_i64];omega)|(rw[IntKind.wrap_u8];omega)|(rw[IntKind.wrap_u64];omega)))
       ·exact zAA rfl (zAC rfl (h.d 3 49) zA2 ((H.call h.below).cell (i:=0) .zero 1)) (by decide)
       ·exact zBB Tryz.underlying25 rfl rfl (h.d 4 50)
       ·(have e46:A.eval (.tmp 46)=.int .i64 (i:Nat):=h.d 0 46;have e51:A.eval (.tmp 51)=.int .i64 ((L.length:Nat):Int):=h.d 5 51;refine zAA rfl ?_;simp only[execOp,e46,e51];(simp[go_sem]<;>first|done|omega|(rw[IntKind.wrap_i64];omega)|(rw[IntKind.wrap_u8];omega)|(rw[IntKind.wrap_u64];omega)))
       ·exact zAB rfl rfl (h.d 6 52)
       ·(have e8:A.eval (.tmp 8)=.pointer (some ⟨b8,0,none⟩):=h.f 8;refine zAA (wg (h.d 7 53)) ?_;simp only[execOp,e8];(simp[go_sem]<;>first|done|omega|(rw[IntKind.wrap_i64];omega)|(rw[IntKind.wrap_u8];omega)|(rw[IntKind.wrap_u64];omega)))
       ·exact zAA (wg (h.d 7 53)) (zAk rfl (h.d 8 54) zBj rfl (fun j hj=>by have h1:=(H.call h.below).cell (i:=6) i_6 (1+j);rcases j with _|_|_|_|j<;>first|exact h1|omega)) (by decide)
       ·exact zAB (wg (h.d 7 53)) rfl (h.f 0)
       ·(have e56:A.eval (.tmp 56)=.pointer (some ⟨rb,0,none⟩):=h.d 10 56;refine zAA (wg (h.d 7 53)) ?_;simp only[execOp,e56];(simp[go_sem]<;>first|done|omega|(rw[IntKind.wrap_i64];omega)|(rw[IntKind.wrap_u8];omega)|(rw[IntKind.wrap_u64];omega)))
       ·(have e57:A.eval (.tmp 57)=.pointer (some ⟨rb,0,none⟩):=h.d 11 57;refine zAA (wg (h.d 7 53)) ?_;simp only[execOp,e57];(simp[go_sem]<;>first|done|omega|(rw[IntKind.wrap_i64];omega)|(rw[IntKind.wrap_u8];omega)|(rw[IntKind.wrap_u64];omega)))
       ·exact zAA (wg (h.d 7 53)) (zAC rfl (h.d 12 58) zA2 ((H.call h.below).cell (i:=0) .zero 1)) (by decide)
       ·exact zAB (wg (h.d 7 53)) rfl (h.f 2)
       ·exact zAU (sz:=1) Tryz.underlying25 (fun w=>by kernel_rfl) (wg (h.d 7 53)) rfl (h.d 13 59) (h.d 14 60) (by omega) (by omega)
       ·exact zAA (wg (h.d 7 53)) (zAC rfl (h.d 15 61) zBd (((H.call h.below).kn (i:=4) i_4).cell hiL)) (by decide)
       ·exact zAc (wg (h.d 7 53)) rfl (enters_of Tryz.func104 (by kernel_rfl) rfl) (zBm ⟨(h.d 9 55),(h.d 16 62)⟩) (hha W)
       ·exact zAy rfl rfl (h.d 7 53) (h.d 17 63)
       ·exact zAB rfl rfl (h.d 18 64)
       ·exact zAB (wg (h.d 19 65)) rfl (h.f 0)
       ·(have e8:A.eval (.tmp 8)=.pointer (some ⟨b8,0,none⟩):=h.f 8;refine zAA (wg (h.d 19 65)) ?_;simp only[execOp,e8];(simp[go_sem]<;>first|done|omega|(rw[IntKind.wrap_i64];omega)|(rw[IntKind.wrap_u8];omega)|(rw[IntKind.wrap_u64];omega)))
       ·exact zAA (wg (h.d 19 65)) (zAC rfl (h.d 21 67) zAF (((H.call h.below).cell (i:=6) i_6 5).trans rfl)) (by decide)
       ·exact zAB (wg (h.d 19 65)) rfl (h.f 2)
       ·(have e69:A.eval (.tmp 69)=.int .i64 (i:Nat):=h.d 23 69;refine zAA (wg (h.d 19 65)) ?_;simp only[execOp,e69];(simp[go_sem]<;>first|done|omega|(rw[IntKind.wrap_i64];omega)|(rw[IntKind.wrap_u8];omega)|(rw[IntKind.wrap_u64];omega)))
      case en =>
       intro vals W hbw hv _;simp only[fa,Nat.reduceAdd];rw[e_ hv 0,e_ hv 1,e_ hv 2,e_ hv 3,e_ hv 4,e_ hv 5,e_ hv 6,e_ hv 7,e_ hv 8,e_ hv 9,e_ hv 10,e_ hv 11,e_ hv 12,e_ hv 13,e_ hv 14,e_ hv 15,e_ hv 16,e_ hv 17,e_ hv 18,e_ hv 19,e_ hv 20,e_ hv 21,e_ hv 22,e_ hv 23,e_ hv 24];clear hv
       try simp only[pl]
       have H:=H.call hbw
       go_wp2_with (first|fail|(go_at_call 76;(with_reducible refine chW H (fun h=>hN1 _ h) ?_);clear H;intro b sn2 sl2 w hT1 H))
       go_ret;rw[← hrF,← hrS]at H;exact zCM H (q:=5) i_5 (by decide) rfl rfl (WayT.one hM hk5 hsuc hT1)
     | false =>
      rw[hs]at hha;have hT:=WayT.none (p:=ps) (sl:=sl) hM hk5 (zKL hx k1 (fun h=>by rw[hs]at h;exact absurd h.2 (by decide)))
      clear IH hri hx k5 k1 hN hs
      go_upto_region 10 with (first|fail)
      refine wr_ 28 [fun v _=>v=.int .i64 (i:Nat),fun v _=>v=pt rb 0,fun v _=>v=pt rb 0,fun v _=>v=pt rb 1,fun v _=>v=.slice (some ⟨bs,os,none⟩) L.length csl,fun v _=>v=.int .i64 ((L.length:Nat):Int),fun v _=>v=.bool true,fun v _=>v=.bool true,fun v _=>v=pt b8 1,fun v _=>v=setV x.set,fun v _=>v=pt rb 0,fun v _=>v=pt rb 0,fun v _=>v=pt rb 1,fun v _=>v=.slice (some ⟨bs,os,none⟩) L.length csl,fun v _=>v=.int .i64 (i:Nat),fun v _=>v=.pointer (some ⟨bs,os+i,none⟩),fun v _=>v=.int .u8 (byt L i),fun v _=>v=.bool false,fun v _=>v=.bool false,fun v _=>v=.bool false,fun v _=>v=undef,fun v _=>v=undef,fun v _=>v=undef,fun v _=>v=undef,fun v _=>v=undef,fun v _=>v=undef,fun v _=>v=Value.bool false,fun v _=>v=Value.bool false] ?ob ?en
      case ob =>
       refine⟨?_,?_,?_,?_,?_,?_,?_,?_,?_,?_,?_,?_,?_,?_,?_,?_,?_,?_,?_,?_,?_,?_,?_,?_,?_,?_,?_,?_,trivial⟩<;>intro A W h
       ·exact zAB rfl rfl (h.f 2)
       ·exact zAB rfl rfl (h.f 0)
       ·(have e47:A.eval (.tmp 47)=.pointer (some ⟨rb,0,none⟩):=h.d 1 47;refine zAA rfl ?_;simp only[execOp,e47];(simp[go_sem]<;>first|done|omega|(rw[IntKind.wrap_i64];omega)|(rw[IntKind.wrap_u8];omega)|(rw[IntKind.wrap_u64];omega)))
       ·(have e48:A.eval (.tmp 48)=.pointer (some ⟨rb,0,none⟩):=h.d 2 48;refine zAA rfl ?_;simp only[execOp,e48];(simp[go_sem]<;>first|done|omega|(rw[IntKind.wrap_i64];omega)|(rw[IntKind.wrap_u8];omega)|(rw[IntKind.wrap_u64];omega)))
       ·exact zAA rfl (zAC rfl (h.d 3 49) zA2 ((H.call h.below).cell (i:=0) .zero 1)) (by decide)
       ·exact zBB Tryz.underlying25 rfl rfl (h.d 4 50)
       ·(have e46:A.eval (.tmp 46)=.int .i64 (i:Nat):=h.d 0 46;have e51:A.eval (.tmp 51)=.int .i64 ((L.length:Nat):Int):=h.d 5 51;refine zAA rfl ?_;simp only[execOp,e46,e51];(simp[go_sem]<;>first|done|omega|(rw[IntKind.wrap_i64];omega)|(rw[IntKind.wrap_u8];omega)|(rw[IntKind.wrap_u64];omega)))
       ·exact zAB rfl rfl (h.d 6 52)
       ·(have e8:A.eval (.tmp 8)=.pointer (some ⟨b8,0,none⟩):=h.f 8;refine zAA (wg (h.d 7 53)) ?_;simp only[execOp,e8];(simp[go_sem]<;>first|done|omega|(rw[IntKind.wrap_i64];omega)|(rw[IntKind.wrap_u8];omega)|(rw[IntKind.wrap_u64];omega)))
       ·exact zAA (wg (h.d 7 53)) (zAk rfl (h.d 8 54) zBj rfl (fun j hj=>by have h1:=(H.call h.below).cell (i:=6) i_6 (1+j);rcases j with _|_|_|_|j<;>first|exact h1|omega)) (by decide)
       ·exact zAB (wg (h.d 7 53)) rfl (h.f 0)
       ·(have e56:A.eval (.tmp 56)=.pointer (some ⟨rb,0,none⟩):=h.d 10 56;refine zAA (wg (h.d 7 53)) ?_;simp only[execOp,e56];(simp[go_sem]<;>first|done|omega|(rw[IntKind.wrap_i64];omega)|(rw[IntKind.wrap_u8];omega)|(rw[IntKind.wrap_u64];omega)))
       ·(have e57:A.eval (.tmp 57)=.pointer (some ⟨rb,0,none⟩):=h.d 11 57;refine zAA (wg (h.d 7 53)) ?_;simp only[execOp,e57];(simp[go_sem]<;>first|done|omega|(rw[IntKind.wrap_i64];omega)|(rw[IntKind.wrap_u8];omega)|(rw[IntKind.wrap_u64];omega)))
       ·exact zAA (wg (h.d 7 53)) (zAC rfl (h.d 12 58) zA2 ((H.call h.below).cell (i:=0) .zero 1)) (by decide)
       ·exact zAB (wg (h.d 7 53)) rfl (h.f 2)
       ·exact zAU (sz:=1) Tryz.underlying25 (fun w=>by kernel_rfl) (wg (h.d 7 53)) rfl (h.d 13 59) (h.d 14 60) (by omega) (by omega)
       ·exact zAA (wg (h.d 7 53)) (zAC rfl (h.d 15 61) zBd (((H.call h.below).kn (i:=4) i_4).cell hiL)) (by decide)
       ·exact zAc (wg (h.d 7 53)) rfl (enters_of Tryz.func104 (by kernel_rfl) rfl) (zBm ⟨(h.d 9 55),(h.d 16 62)⟩) (hha W)
       ·exact zAy rfl rfl (h.d 7 53) (h.d 17 63)
       ·exact zAB rfl rfl (h.d 18 64)
       ·exact rsk (h.d 19 65)
       ·exact rsk (h.d 19 65)
       ·exact rsk (h.d 19 65)
       ·exact rsk (h.d 19 65)
       ·exact rsk (h.d 19 65)
       ·exact rsk (h.d 19 65)
       ·exact zAy rfl rfl (h.d 19 65) (rfl)
       ·exact zCK rfl rfl (h.d 26 72)
      case en =>
       intro vals W hbw hv _;simp only[fa,Nat.reduceAdd];rw[e_ hv 0,e_ hv 1,e_ hv 2,e_ hv 3,e_ hv 4,e_ hv 5,e_ hv 6,e_ hv 7,e_ hv 8,e_ hv 9,e_ hv 10,e_ hv 11,e_ hv 12,e_ hv 13,e_ hv 14,e_ hv 15,e_ hv 16,e_ hv 17,e_ hv 18,e_ hv 19,e_ hv 20,e_ hv 21,e_ hv 22,e_ hv 23,e_ hv 24,e_ hv 25,e_ hv 26,e_ hv 27];clear hv
       try simp only[pl]
       have H:=H.call hbw
       go_wp2_with fail
       go_ret;rw[← hrF,← hrS]at H;exact zCM H (q:=5) i_5 (by decide) rfl rfl (hT)
    ·have hT:=WayT.none (p:=ps) (sl:=sl) hM hk5 (zKL hx k1 (fun h=>hiL h.1))
     have hiE:i=L.length:=by omega
     have hiE:=Lib.hid hiE;clear IH hri hx k5 k1 hN
     go_upto_region 10 with (first|fail)
     refine wr_ 28 [fun v _=>v=.int .i64 (i:Nat),fun v _=>v=pt rb 0,fun v _=>v=pt rb 0,fun v _=>v=pt rb 1,fun v _=>v=.slice psl L.length csl,fun v _=>v=.int .i64 ((L.length:Nat):Int),fun v _=>v=.bool false,fun v _=>v=.bool false,fun v _=>v=undef,fun v _=>v=undef,fun v _=>v=undef,fun v _=>v=undef,fun v _=>v=undef,fun v _=>v=undef,fun v _=>v=undef,fun v _=>v=undef,fun v _=>v=undef,fun v _=>v=undef,fun v _=>v=Value.bool false,fun v _=>v=Value.bool false,fun v _=>v=undef,fun v _=>v=undef,fun v _=>v=undef,fun v _=>v=undef,fun v _=>v=undef,fun v _=>v=undef,fun v _=>v=Value.bool false,fun v _=>v=Value.bool false] ?ob ?en
     case ob =>
      refine⟨?_,?_,?_,?_,?_,?_,?_,?_,?_,?_,?_,?_,?_,?_,?_,?_,?_,?_,?_,?_,?_,?_,?_,?_,?_,?_,?_,?_,trivial⟩<;>intro A W h
      ·exact zAB rfl rfl (h.f 2)
      ·exact zAB rfl rfl (h.f 0)
      ·(have e47:A.eval (.tmp 47)=.pointer (some ⟨rb,0,none⟩):=h.d 1 47;refine zAA rfl ?_;simp only[execOp,e47];(simp[go_sem]<;>first|done|omega|(rw[IntKind.wrap_i64];omega)|(rw[IntKind.wrap_u8];omega)|(rw[IntKind.wrap_u64];omega)))
      ·(have e48:A.eval (.tmp 48)=.pointer (some ⟨rb,0,none⟩):=h.d 2 48;refine zAA rfl ?_;simp only[execOp,e48];(simp[go_sem]<;>first|done|omega|(rw[IntKind.wrap_i64];omega)|(rw[IntKind.wrap_u8];omega)|(rw[IntKind.wrap_u64];omega)))
      ·exact zAA rfl (zAC rfl (h.d 3 49) zA2 ((H.call h.below).cell (i:=0) .zero 1)) (by decide)
      ·exact zBB Tryz.underlying25 rfl rfl (h.d 4 50)
      ·(have e46:A.eval (.tmp 46)=.int .i64 (i:Nat):=h.d 0 46;have e51:A.eval (.tmp 51)=.int .i64 ((L.length:Nat):Int):=h.d 5 51;refine zAA rfl ?_;simp only[execOp,e46,e51];(simp[go_sem]<;>first|done|omega|(rw[IntKind.wrap_i64];omega)|(rw[IntKind.wrap_u8];omega)|(rw[IntKind.wrap_u64];omega)))
      ·exact zAB rfl rfl (h.d 6 52)
      ·exact rsk (h.d 7 53)
      ·exact rsk (h.d 7 53)
      ·exact rsk (h.d 7 53)
      ·exact rsk (h.d 7 53)
      ·exact rsk (h.d 7 53)
      ·exact rsk (h.d 7 53)
      ·exact rsk (h.d 7 53)
      ·exact rsk (h.d 7 53)
      ·exact rsk (h.d 7 53)
      ·exact rsk (h.d 7 53)
      ·exact zAy rfl rfl (h.d 7 53) (rfl)
      ·exact zAB rfl rfl (h.d 18 64)
      ·exact rsk (h.d 19 65)
      ·exact rsk (h.d 19 65)
      ·exact rsk (h.d 19 65)
      ·exact rsk (h.d 19 65)
      ·exact rsk (h.d 19 65)
      ·exact rsk (h.d 19 65)
      ·exact zAy rfl rfl (h.d 19 65) (rfl)
      ·exact zCK rfl rfl (h.d 26 72)
     case en =>
      intro vals W hbw hv _;simp only[fa,Nat.reduceAdd];rw[e_ hv 0,e_ hv 1,e_ hv 2,e_ hv 3,e_ hv 4,e_ hv 5,e_ hv 6,e_ hv 7,e_ hv 8,e_ hv 9,e_ hv 10,e_ hv 11,e_ hv 12,e_ hv 13,e_ hv 14,e_ hv 15,e_ hv 16,e_ hv 17,e_ hv 18,e_ hv 19,e_ hv 20,e_ hv 21,e_ hv 22,e_ hv 23,e_ hv 24,e_ hv 25,e_ hv 26,e_ hv 27];clear hv
      try simp only[pl]
      have H:=H.call hbw
      go_wp2_with fail
      go_ret;rw[← hrF,← hrS]at H;exact zCM H (q:=5) i_5 (by decide) rfl rfl (hT)
   have d1:(x.kind == 1)=false:=by rw[beq_eq_false_iff_ne];exact k1
   by_cases k2:x.kind=2
   ·have d2:(x.kind == 2)=true:=by rw[beq_iff_eq];exact k2
    have hnx:=zCU hri (.inr (.inl k2));have hno:=zGK hri k2;have hN:∀ i2 sn2 sl2 w,i2<=L.length->unF sn2<m->sn2.length=K->sl2.length=ms->HoldG M w0 w (runL rb (some ⟨bp,op,none⟩) cp ps psl csl L Fp Fs gs cs K gt ct ms sn2 sl2)->Calls Tryz.prog 76 #[.pointer (some ⟨rb,0,none⟩),.int .i64 x.next,.int .i64 (i2:Nat)] w (WayB rb (some ⟨bp,op,none⟩) cp ps psl csl L Fp Fs gs cs K gt ct ms M w0 x.next.toNat i2 sn2 sl2 w):=fun i2 sn2 sl2 w h1 h2 h3 h4 h=>by
     have e:((x.next.toNat:Nat):Int)=x.next:=Int.toNat_of_nonneg hnx.1;have:=IH x.next.toNat i2 sn2 sl2 M w0 w h2 (by omega) h1 h3 h4 h
     rwa [e]at this
    have hO:∀ i2 sn2 sl2 w,i2<=L.length->unF sn2<m->sn2.length=K->sl2.length=ms->HoldG M w0 w (runL rb (some ⟨bp,op,none⟩) cp ps psl csl L Fp Fs gs cs K gt ct ms sn2 sl2)->Calls Tryz.prog 76 #[.pointer (some ⟨rb,0,none⟩),.int .i64 x.other,.int .i64 (i2:Nat)] w (WayB rb (some ⟨bp,op,none⟩) cp ps psl csl L Fp Fs gs cs K gt ct ms M w0 x.other.toNat i2 sn2 sl2 w):=fun i2 sn2 sl2 w h1 h2 h3 h4 h=>by
     have e:((x.other.toNat:Nat):Int)=x.other:=Int.toNat_of_nonneg hno.1;have:=IH x.other.toNat i2 sn2 sl2 M w0 w h2 (by omega) h1 h3 h4 h
     rwa [e]at this
    have hsuc:=zMo (p:=ps) (s:=L) (k:=k) (i:=i) (sl:=sl) hx k2;have hN1:=fun w h=>hN i sn1 sl w hi hun1 hlen1 hsl h
    clear IH hri hx k5 k1 k2 hN
    go_wp2_with (first|((with_reducible refine gL ?_);refine aGi H ?_)|(go_at_call 76;(with_reducible refine chW H (fun h=>hN1 _ h) ?_);clear H;intro b sn2 sl2 w hT1 H;rcases b with _|_;(obtain⟨e2,_⟩:=hT1.miss rfl;cases e2;(have hO2:=fun w h=>hO i sn2 sl w hi (by have:=hT1.un;omega) (hT1.len.trans hlen1) hsl h)))|(go_at_call 76;(with_reducible refine chW H (fun h=>hO2 _ h) ?_);clear H;intro b2 sn3 sl3 w hT2 H))
    ·go_ret;rw[← hrF,← hrS]at H;exact zCM H (q:=5) i_5 (by decide) rfl rfl (WayT.second hM hk5 hsuc hT1 hT2)
    ·go_ret;rw[← hrF,← hrS]at H;exact zCM H (q:=5) i_5 (by decide) rfl rfl (WayT.first hM hk5 hsuc hT1)
   have d2:(x.kind == 2)=false:=by rw[beq_eq_false_iff_ne];exact k2
   by_cases k4:x.kind=4
   ·have d4:(x.kind == 4)=true:=by rw[beq_iff_eq];exact k4
    have hnx:=zCU hri (.inr (.inr (.inr k4)));have hN:∀ i2 sn2 sl2 w,i2<=L.length->unF sn2<m->sn2.length=K->sl2.length=ms->HoldG M w0 w (runL rb (some ⟨bp,op,none⟩) cp ps psl csl L Fp Fs gs cs K gt ct ms sn2 sl2)->Calls Tryz.prog 76 #[.pointer (some ⟨rb,0,none⟩),.int .i64 x.next,.int .i64 (i2:Nat)] w (WayB rb (some ⟨bp,op,none⟩) cp ps psl csl L Fp Fs gs cs K gt ct ms M w0 x.next.toNat i2 sn2 sl2 w):=fun i2 sn2 sl2 w h1 h2 h3 h4 h=>by
     have e:((x.next.toNat:Nat):Int)=x.next:=Int.toNat_of_nonneg hnx.1;have:=IH x.next.toNat i2 sn2 sl2 M w0 w h2 (by omega) h1 h3 h4 h
     rwa [e]at this
    have hsp:=fun w h1 h2=>zK6 psl csl L Fs w h1 h2 x.spot i
    cases hs:zBz x.spot L i with
    | true =>
     rw[hs]at hsp;have hsuc:=zNu (p:=ps) (s:=L) (k:=k) (i:=i) (sl:=sl) hx k4 hs;have hN1:=fun w h=>hN i sn1 sl w hi hun1 hlen1 hsl h
     clear IH hri hx k5 k1 k2 k4 hN hs
     go_upto_region 14 with (first|fail)
     refine wr_ 13 [fun v _=>v=pt b8 8,fun v _=>v=.int .i64 x.spot,fun v _=>v=pt rb 0,fun v _=>v=pt rb 0,fun v _=>v=pt rb 1,fun v _=>v=.slice psl L.length csl,fun v _=>v=.int .i64 (i:Nat),fun v _=>v=.bool true,fun v _=>v=.bool true,fun v _=>v=pt rb 0,fun v _=>v=pt b8 5,fun v _=>v=.int .i64 x.next,fun v _=>v=.int .i64 (i:Nat)] ?ob ?en
     case ob =>
      refine⟨?_,?_,?_,?_,?_,?_,?_,?_,?_,?_,?_,?_,?_,trivial⟩<;>intro A W h
      ·(have e8:A.eval (.tmp 8)=.pointer (some ⟨b8,0,none⟩):=h.f 8;refine zAA rfl ?_;simp only[execOp,e8];(simp[go_sem]<;>first|done|omega|(rw[IntKind.wrap_i64];omega)|(rw[IntKind.wrap_u8];omega)|(rw[IntKind.wrap_u64];omega)))
      ·exact zAA rfl (zAC rfl (h.d 0 89) zAo (((H.call h.below).cell (i:=6) i_6 8).trans rfl)) (by decide)
      ·exact zAB rfl rfl (h.f 0)
      ·(have e91:A.eval (.tmp 91)=.pointer (some ⟨rb,0,none⟩):=h.d 2 91;refine zAA rfl ?_;simp only[execOp,e91];(simp[go_sem]<;>first|done|omega|(rw[IntKind.wrap_i64];omega)|(rw[IntKind.wrap_u8];omega)|(rw[IntKind.wrap_u64];omega)))
      ·(have e92:A.eval (.tmp 92)=.pointer (some ⟨rb,0,none⟩):=h.d 3 92;refine zAA rfl ?_;simp only[execOp,e92];(simp[go_sem]<;>first|done|omega|(rw[IntKind.wrap_i64];omega)|(rw[IntKind.wrap_u8];omega)|(rw[IntKind.wrap_u64];omega)))
      ·exact zAA rfl (zAC rfl (h.d 4 93) zA2 ((H.call h.below).cell (i:=0) .zero 1)) (by decide)
      ·exact zAB rfl rfl (h.f 2)
      ·exact zAc rfl rfl (enters_of Tryz.func109 (by kernel_rfl) rfl) (zMz ⟨(h.d 1 90),(h.d 5 94),(h.d 6 95)⟩) (hsp W ((H.call h.below).knlt (i:=4) i_4) ((H.call h.below).kn (i:=4) i_4))
      ·exact zAB rfl rfl (h.d 7 96)
      ·exact zAB (wg (h.d 8 97)) rfl (h.f 0)
      ·(have e8:A.eval (.tmp 8)=.pointer (some ⟨b8,0,none⟩):=h.f 8;refine zAA (wg (h.d 8 97)) ?_;simp only[execOp,e8];(simp[go_sem]<;>first|done|omega|(rw[IntKind.wrap_i64];omega)|(rw[IntKind.wrap_u8];omega)|(rw[IntKind.wrap_u64];omega)))
      ·exact zAA (wg (h.d 8 97)) (zAC rfl (h.d 10 99) zAF (((H.call h.below).cell (i:=6) i_6 5).trans rfl)) (by decide)
      ·exact zAB (wg (h.d 8 97)) rfl (h.f 2)
     case en =>
      intro vals W hbw hv _;simp only[fa,Nat.reduceAdd];rw[e_ hv 0,e_ hv 1,e_ hv 2,e_ hv 3,e_ hv 4,e_ hv 5,e_ hv 6,e_ hv 7,e_ hv 8,e_ hv 9,e_ hv 10,e_ hv 11,e_ hv 12];clear hv
      try simp only[pl]
      have H:=H.call hbw
      go_wp2_with (first|fail|(go_at_call 76;(with_reducible refine chW H (fun h=>hN1 _ h) ?_);clear H;intro b sn2 sl2 w hT1 H))
      go_ret;rw[← hrF,← hrS]at H;exact zCM H (q:=5) i_5 (by decide) rfl rfl (WayT.one hM hk5 hsuc hT1)
    | false =>
     rw[hs]at hsp;have hT:=WayT.none (p:=ps) (sl:=sl) hM hk5 (zMP hx k4 hs);clear IH hri hx k5 k1 k2 k4 hN hs
     go_upto_region 14 with (first|fail)
     refine wr_ 16 [fun v _=>v=pt b8 8,fun v _=>v=.int .i64 x.spot,fun v _=>v=pt rb 0,fun v _=>v=pt rb 0,fun v _=>v=pt rb 1,fun v _=>v=.slice psl L.length csl,fun v _=>v=.int .i64 (i:Nat),fun v _=>v=.bool false,fun v _=>v=.bool false,fun v _=>v=undef,fun v _=>v=undef,fun v _=>v=undef,fun v _=>v=undef,fun v _=>v=undef,fun v _=>v=Value.bool false,fun v _=>v=Value.bool false] ?ob ?en
     case ob =>
      refine⟨?_,?_,?_,?_,?_,?_,?_,?_,?_,?_,?_,?_,?_,?_,?_,?_,trivial⟩<;>intro A W h
      ·(have e8:A.eval (.tmp 8)=.pointer (some ⟨b8,0,none⟩):=h.f 8;refine zAA rfl ?_;simp only[execOp,e8];(simp[go_sem]<;>first|done|omega|(rw[IntKind.wrap_i64];omega)|(rw[IntKind.wrap_u8];omega)|(rw[IntKind.wrap_u64];omega)))
      ·exact zAA rfl (zAC rfl (h.d 0 89) zAo (((H.call h.below).cell (i:=6) i_6 8).trans rfl)) (by decide)
      ·exact zAB rfl rfl (h.f 0)
      ·(have e91:A.eval (.tmp 91)=.pointer (some ⟨rb,0,none⟩):=h.d 2 91;refine zAA rfl ?_;simp only[execOp,e91];(simp[go_sem]<;>first|done|omega|(rw[IntKind.wrap_i64];omega)|(rw[IntKind.wrap_u8];omega)|(rw[IntKind.wrap_u64];omega)))
      ·(have e92:A.eval (.tmp 92)=.pointer (some ⟨rb,0,none⟩):=h.d 3 92;refine zAA rfl ?_;simp only[execOp,e92];(simp[go_sem]<;>first|done|omega|(rw[IntKind.wrap_i64];omega)|(rw[IntKind.wrap_u8];omega)|(rw[IntKind.wrap_u64];omega)))
      ·exact zAA rfl (zAC rfl (h.d 4 93) zA2 ((H.call h.below).cell (i:=0) .zero 1)) (by decide)
      ·exact zAB rfl rfl (h.f 2)
      ·exact zAc rfl rfl (enters_of Tryz.func109 (by kernel_rfl) rfl) (zMz ⟨(h.d 1 90),(h.d 5 94),(h.d 6 95)⟩) (hsp W ((H.call h.below).knlt (i:=4) i_4) ((H.call h.below).kn (i:=4) i_4))
      ·exact zAB rfl rfl (h.d 7 96)
      ·exact rsk (h.d 8 97)
      ·exact rsk (h.d 8 97)
      ·exact rsk (h.d 8 97)
      ·exact rsk (h.d 8 97)
      ·exact rsk (h.d 8 97)
      ·exact zAy rfl rfl (h.d 8 97) (rfl)
      ·exact zCK rfl rfl (h.d 14 103)
     case en =>
      intro vals W hbw hv _;simp only[fa,Nat.reduceAdd];rw[e_ hv 0,e_ hv 1,e_ hv 2,e_ hv 3,e_ hv 4,e_ hv 5,e_ hv 6,e_ hv 7,e_ hv 8,e_ hv 9,e_ hv 10,e_ hv 11,e_ hv 12,e_ hv 13,e_ hv 14,e_ hv 15];clear hv
      try simp only[pl]
      have H:=H.call hbw
      go_wp2_with fail
      go_ret;rw[← hrF,← hrS]at H;exact zCM H (q:=5) i_5 (by decide) rfl rfl (hT)
   have d4:(x.kind == 4)=false:=by rw[beq_eq_false_iff_ne];exact k4
   by_cases k3:x.kind=3
   ·have d3:(x.kind == 3)=true:=by rw[beq_iff_eq];exact k3
    have hnx:=zCU hri (.inr (.inr (.inl k3)));have hsr:=zGl hri k3;have hN:∀ i2 sn2 sl2 w,i2<=L.length->unF sn2<m->sn2.length=K->sl2.length=ms->HoldG M w0 w (runL rb (some ⟨bp,op,none⟩) cp ps psl csl L Fp Fs gs cs K gt ct ms sn2 sl2)->Calls Tryz.prog 76 #[.pointer (some ⟨rb,0,none⟩),.int .i64 x.next,.int .i64 (i2:Nat)] w (WayB rb (some ⟨bp,op,none⟩) cp ps psl csl L Fp Fs gs cs K gt ct ms M w0 x.next.toNat i2 sn2 sl2 w):=fun i2 sn2 sl2 w h1 h2 h3 h4 h=>by
     have e:((x.next.toNat:Nat):Int)=x.next:=Int.toNat_of_nonneg hnx.1;have:=IH x.next.toNat i2 sn2 sl2 M w0 w h2 (by omega) h1 h3 h4 h
     rwa [e]at this
    obtain⟨sj,hsj⟩:∃ sj:Nat,x.slot=sj:=⟨x.slot.toNat,by omega⟩
    have hsjt:x.slot.toNat=sj:=by omega
    have hsjm:sj<ms:=by rw[hms,← hsjt];exact zLr hx
    have hsj:=Lib.hid hsj;have hsuc:=zOl (p:=ps) (s:=L) (k:=k) (i:=i) (sl:=sl) hx k3;rw[hsjt]at hsuc;obtain⟨vw,hvw⟩:∃ v,sl[sj]?=some v:=⟨_,List.getElem?_eq_getElem (by omega)⟩
    have hvm:(sl.map (Value.int .i64))[sj]?=some (.int .i64 vw):=by rw[List.getElem?_map,hvw];rfl
    have hlens:(sl.map (Value.int .i64)).length=ms:=by rw[List.length_map];exact hsl
    have hmap2:(sl.map (Value.int .i64)).set sj (.int .i64 i)=(sl.set sj i).map (.int .i64):=by rw[List.map_set]
    have hlens2:((sl.set sj (i:Int)).map (Value.int .i64)).length=ms:=by rw[List.length_map,List.length_set];exact hsl
    have hback:((sl.set sj (i:Int)).map (Value.int .i64)).set sj (.int .i64 vw)=sl.map (.int .i64):=by
     rw[← hmap2,List.set_set];apply List.ext_getElem?;intro q;rw[List.getElem?_set];split
     ·rename_i e;subst e;rw[hvm];simp;omega
     ·rfl
    have hN1:=fun w h=>hN i sn1 (sl.set sj (i:Int)) w hi hun1 hlen1 (by rw[List.length_set];exact hsl) h
    clear IH hri hx k5 k1 k2 k4 k3 hN hsr hsjt
    go_upto_region 16 with (first|fail)
    refine wr_ 9 [fun v _=>v=pt rb 0,fun v _=>v=pt rb 0,fun v _=>v=pt rb 3,fun v _=>v=.slice (some ⟨gt,0,none⟩) ms ct,fun v _=>v=pt b8 7,fun v _=>v=.int .i64 (sj:Nat),fun v _=>v=.pointer (some ⟨gt,sj,none⟩),fun v _=>v=.int .i64 vw,fun v _=>v=.int .i64 vw] ?ob ?en
    case ob =>
     refine⟨?_,?_,?_,?_,?_,?_,?_,?_,?_,trivial⟩<;>intro A W h
     ·exact zAB rfl rfl (h.f 0)
     ·(have e106:A.eval (.tmp 106)=.pointer (some ⟨rb,0,none⟩):=h.d 0 106;refine zAA rfl ?_;simp only[execOp,e106];(simp[go_sem]<;>first|done|omega|(rw[IntKind.wrap_i64];omega)|(rw[IntKind.wrap_u8];omega)|(rw[IntKind.wrap_u64];omega)))
     ·(have e107:A.eval (.tmp 107)=.pointer (some ⟨rb,0,none⟩):=h.d 1 107;refine zAA rfl ?_;simp only[execOp,e107];(simp[go_sem]<;>first|done|omega|(rw[IntKind.wrap_i64];omega)|(rw[IntKind.wrap_u8];omega)|(rw[IntKind.wrap_u64];omega)))
     ·exact zAA rfl (zAC rfl (h.d 2 108) zAv ((H.call h.below).cell (i:=0) .zero 3)) (by decide)
     ·(have e8:A.eval (.tmp 8)=.pointer (some ⟨b8,0,none⟩):=h.f 8;refine zAA rfl ?_;simp only[execOp,e8];(simp[go_sem]<;>first|done|omega|(rw[IntKind.wrap_i64];omega)|(rw[IntKind.wrap_u8];omega)|(rw[IntKind.wrap_u64];omega)))
     ·exact zAA rfl (zAC rfl (h.d 4 110) zAF (((H.call h.below).cell (i:=6) i_6 7).trans ((ig7 x).trans (by rw[hsj.out])))) (by decide)
     ·exact zAU (sz:=1) Tryz.underlying55 (fun w=>by kernel_rfl) rfl rfl (h.d 3 109) (h.d 5 111) (by omega) (by omega)
     ·exact zAA rfl (zAC rfl (h.d 6 112) zAF ((H.call h.below).row1 (i:=2) i_2 hvm)) (by decide)
     ·exact zCK rfl rfl (h.d 7 113)
    case en =>
     intro vals W hbw hv _;simp only[fa,Nat.reduceAdd];rw[e_ hv 0,e_ hv 1,e_ hv 2,e_ hv 3,e_ hv 4,e_ hv 5,e_ hv 6,e_ hv 7,e_ hv 8];clear hv
     try simp only[pl]
     have H:=H.call hbw
     go_upto_region 17 with fail
     refine wr_ 8 [fun v _=>v=pt rb 0,fun v _=>v=pt rb 0,fun v _=>v=pt rb 3,fun v _=>v=.slice (some ⟨gt,0,none⟩) ms ct,fun v _=>v=pt b8 7,fun v _=>v=.int .i64 (sj:Nat),fun v _=>v=.int .i64 (i:Nat),fun v _=>v=.pointer (some ⟨gt,sj,none⟩)] ?ob ?en
     case ob =>
      refine⟨?_,?_,?_,?_,?_,?_,?_,?_,trivial⟩<;>intro A W h
      ·exact zAB rfl rfl (h.f 0)
      ·(have e114:A.eval (.tmp 114)=.pointer (some ⟨rb,0,none⟩):=h.d 0 114;refine zAA rfl ?_;simp only[execOp,e114];(simp[go_sem]<;>first|done|omega|(rw[IntKind.wrap_i64];omega)|(rw[IntKind.wrap_u8];omega)|(rw[IntKind.wrap_u64];omega)))
      ·(have e115:A.eval (.tmp 115)=.pointer (some ⟨rb,0,none⟩):=h.d 1 115;refine zAA rfl ?_;simp only[execOp,e115];(simp[go_sem]<;>first|done|omega|(rw[IntKind.wrap_i64];omega)|(rw[IntKind.wrap_u8];omega)|(rw[IntKind.wrap_u64];omega)))
      ·exact zAA rfl (zAC rfl (h.d 2 116) zAv ((H.call h.below).cell (i:=0) .zero 3)) (by decide)
      ·(have e8:A.eval (.tmp 8)=.pointer (some ⟨b8,0,none⟩):=h.f 8;refine zAA rfl ?_;simp only[execOp,e8];(simp[go_sem]<;>first|done|omega|(rw[IntKind.wrap_i64];omega)|(rw[IntKind.wrap_u8];omega)|(rw[IntKind.wrap_u64];omega)))
      ·exact zAA rfl (zAC rfl (h.d 4 118) zAF (((H.call h.below).cell (i:=6) i_6 7).trans ((ig7 x).trans (by rw[hsj.out])))) (by decide)
      ·exact zAB rfl rfl (h.f 2)
      ·exact zAU (sz:=1) Tryz.underlying55 (fun w=>by kernel_rfl) rfl rfl (h.d 3 117) (h.d 5 119) (by omega) (by omega)
     case en =>
      intro vals W hbw hv _;simp only[fa,Nat.reduceAdd];rw[e_ hv 0,e_ hv 1,e_ hv 2,e_ hv 3,e_ hv 4,e_ hv 5,e_ hv 6,e_ hv 7];clear hv
      try simp only[pl]
      have H:=H.call hbw
      go_upto_region 18 with (first|((with_reducible refine gT ?_);refine zB6 wtd_ _ _ _ rfl rfl (v:=.int .i64 i) evd_ H (j:=2) i_2 hlens (by with_reducible exact zAD zAF) rfl hsjm ?_;clear H;intro w H;(simp only[sc]at H);(rw[hmap2]at H))|fail)
      go_upto_region 20 with (first|((with_reducible refine gL ?_);refine aGi H ?_)|(go_at_call 76;(with_reducible refine chW H (fun h=>hN1 _ h) ?_);clear H;intro b sn2 sl2 w hT1 H;rcases b with _|_;(obtain⟨e2,_⟩:=hT1.miss rfl;cases e2)))
      ·skip
       refine wr_ 8 [fun v _=>v=pt rb 0,fun v _=>v=pt rb 0,fun v _=>v=pt rb 3,fun v _=>v=.slice (some ⟨gt,0,none⟩) ms ct,fun v _=>v=pt b8 7,fun v _=>v=.int .i64 (sj:Nat),fun v _=>v=.int .i64 vw,fun v _=>v=.pointer (some ⟨gt,sj,none⟩)] ?ob ?en
       case ob =>
        refine⟨?_,?_,?_,?_,?_,?_,?_,?_,trivial⟩<;>intro A W h
        ·exact zAB rfl rfl (h.f 0)
        ·(have e127:A.eval (.tmp 127)=.pointer (some ⟨rb,0,none⟩):=h.d 0 127;refine zAA rfl ?_;simp only[execOp,e127];(simp[go_sem]<;>first|done|omega|(rw[IntKind.wrap_i64];omega)|(rw[IntKind.wrap_u8];omega)|(rw[IntKind.wrap_u64];omega)))
        ·(have e128:A.eval (.tmp 128)=.pointer (some ⟨rb,0,none⟩):=h.d 1 128;refine zAA rfl ?_;simp only[execOp,e128];(simp[go_sem]<;>first|done|omega|(rw[IntKind.wrap_i64];omega)|(rw[IntKind.wrap_u8];omega)|(rw[IntKind.wrap_u64];omega)))
        ·exact zAA rfl (zAC rfl (h.d 2 129) zAv ((H.call h.below).cell (i:=0) .zero 3)) (by decide)
        ·(have e8:A.eval (.tmp 8)=.pointer (some ⟨b8,0,none⟩):=h.f 8;refine zAA rfl ?_;simp only[execOp,e8];(simp[go_sem]<;>first|done|omega|(rw[IntKind.wrap_i64];omega)|(rw[IntKind.wrap_u8];omega)|(rw[IntKind.wrap_u64];omega)))
        ·exact zAA rfl (zAC rfl (h.d 4 131) zAF (((H.call h.below).cell (i:=6) i_6 7).trans ((ig7 x).trans (by rw[hsj.out])))) (by decide)
        ·exact zAB rfl rfl (h.f 9)
        ·exact zAU (sz:=1) Tryz.underlying55 (fun w=>by kernel_rfl) rfl rfl (h.d 3 130) (h.d 5 132) (by omega) (by omega)
       case en =>
        intro vals W hbw hv _;simp only[fa,Nat.reduceAdd];rw[e_ hv 0,e_ hv 1,e_ hv 2,e_ hv 3,e_ hv 4,e_ hv 5,e_ hv 6,e_ hv 7];clear hv
        try simp only[pl]
        have H:=H.call hbw
        go_wp2_with (first|((with_reducible refine gT ?_);refine zB6 wtd_ _ _ _ rfl rfl (v:=.int .i64 vw) evd_ H (j:=2) i_2 hlens2 (by with_reducible exact zAD zAF) rfl hsjm ?_;clear H;intro w H;(simp only[sc]at H);(rw[hback]at H))|fail)
        go_ret;rw[← hrF,← hrS]at H;exact zCM H (q:=5) i_5 (by decide) rfl rfl (WayT.unsaved hM hk5 hsuc hT1)
      ·go_ret;rw[← hrF,← hrS]at H;exact zCM H (q:=5) i_5 (by decide) rfl rfl (WayT.saved hM hk5 hsuc hT1)
   have d3:(x.kind == 3)=false:=by rw[beq_eq_false_iff_ne];exact k3
   have hT:=WayT.none (p:=ps) (sl:=sl) hM hk5 (zNm hx k1 k2 k3 k4);clear IH hri hx
   go_wp2_with (first|fail)
   go_ret;rw[← hrF,← hrS]at H;exact zCM H (q:=5) i_5 (by decide) rfl rfl (hT)
theorem zNq (z:Value) (n:Nat):(madeCells #[z] (n * 1)).toList=List.replicate n z:=by
 apply List.ext_getElem
 ·simp[madeCells]
 ·intro i h1 h2;simp[madeCells,Nat.mod_one]
theorem zHU {P:Program} {ops:Array Oper} {rest:List Oper} {o:Oper} {a:Act} {w w0:World} {Q:Exit->Act->World->Prop} {l:List Res} {M:Nat->Prop} (hg:o.guard=none) (x c:Operand) (t:TypeId) (hop:o.op=Op.makeSlice t x c) (H:HoldG M w0 w l) {e:TypeId} {i:TypeInfo} {z:Value} {bytes:Nat}
  (h1:P.underlying t=some (.slice e)) (h2:P.info? e=some i) (h3:i.zero=some z) (h4:i.size=1) (h5:i.bytes=bytes) (hz:z.cells=#[z]) {n:Nat} (hl:a.eval x=.int .i64 n) (hc:a.eval c=.int .i64 n) (b2:bytes * n<=281474976710656) (b3:n<=maxLen)
  (h:∀ g w',HoldG M w0 w' (l++[.row (.slice (some ⟨g,0,none⟩) n n) e 1 n (List.replicate n z)])->wpList P ops Q rest (a.put o.dst (.slice (some ⟨g,0,none⟩) n n)) w'):wpList P ops Q (o::rest) a w:=by
 refine wpList_make_full w hg x c t hop w0.heap.size e i z 1 h1 h2 h3 h4 .i64 .i64 n n n hl hc rfl rfl (by rw[h5];exact b2) b3 H.keep.size (fun w' r1 r2=>h w.heap.size w' ?_)
 rw[hz,zNq]at r1;exact H.add r2 r1 (fun b e=>by cases e;exact Nat.le_refl _)
def IntsR (F:Nat->Prop) (p:Option Addr) (c:Nat) (xs:List Int) (V:World):Prop:=RdN 1 V F (.slice p xs.length c) (xs.map fun v=>#[.int .i64 v])
theorem IntsR.kept {F:Nat->Prop} {p:Option Addr} {c:Nat} {xs:List Int} {V W:World} (h:IntsR F p c xs W) (hV:∀ b,F b->V.heap[b]?=W.heap[b]?):IntsR F p c xs V:=RdN.kept h hV
theorem HoldG.rowInts {M:Nat->Prop} {w0 w:World} {l:List Res} (H:HoldG M w0 w l) {i cap:Nat} {q:Option Addr} {xs:List Int} (hi:At l i (.row (.slice q xs.length cap) 3 1 xs.length (xs.map (.int .i64)))) :
  ∃ F:Nat->Prop,(∀ b,F b->(w0.heap.size<=b\/M b)/\b<w.heap.size)/\IntsR F q cap xs w:=by
 have ho:=H.all i _ hi.get;have e:xs.map (Value.int .i64)=zAW (xs.map fun v=>#[.int .i64 v]):=by
  rw[show (xs.map fun v=>#[Value.int .i64 v])=(xs.map (Value.int .i64)).map (fun v=>#[v]) by rw[List.map_map];rfl,zA7]
 refine⟨fun b=>(Value.slice q xs.length cap).ownBlock=some b,fun b hb=>(ho.lt b hb),?_⟩
 unfold Res.Holds at ho;rw[e]at ho;exact RdN.of_own ho (fun r hr=>by obtain⟨v,_,rfl⟩:=List.mem_map.1 hr;rfl) (by rw[List.length_map]) (fun _ _=>rfl)
def zIW (w:World) (r:Option zAP) (e:Ending) (w':World):Prop:=match r with
 | some sl=>∃ q c F,e=.returned (.tuple #[.slice q sl.length c,.bool true])/\IntsR F q c sl w'/\∀ b,F b->b<w'.heap.size/\w.heap.size<=b
 | none=>e=.returned (.tuple #[.slice none 0 0,.bool false])
theorem zMb:∀ (ps:List InstD) (a:Nat),ps.foldl (fun m x=>max m x.slot) (a:Int)=((ps.foldl (fun m x=>max m x.slot.toNat) a:Nat):Int)
 | [],_=>rfl
 | x::r,a=>by
  simp only[List.foldl_cons];rw[show max (a:Int) x.slot=((max a x.slot.toNat:Nat):Int) by omega]
  exact zMb r _
theorem zPL {ps:List InstD} (h:∀ x ∈ ps,x.slot<42):zII ps<=41:=by
 have:∀ (l:List InstD) (a:Nat),a<=41->(∀ x ∈ l,x.slot<42)->l.foldl (fun m x=>max m x.slot.toNat) a<=41:=by
  intro l
  induction l with
  | nil=>intro a ha _;exact ha
  | cons y r ih=>intro a ha hl;exact ih _ (show max a y.slot.toNat<=41 by have:=hl y (List.mem_cons_self ..);omega) (fun x hx=>hl x (List.mem_cons_of_mem _ hx))
 exact this ps 1 (by omega) h
theorem zJA {n:Nat} {x:InstD} (h:zBG n x=true):x.slot<42:=by
 unfold zBG inN at h;split at h
 ·simp at h;omega
 split at h
 ·simp at h;omega
 split at h
 ·simp at h;omega
 split at h
 ·simp at h;omega
 split at h
 ·simp at h;omega
 ·cases h
theorem zEE {ps:List InstD} (h:zAq ps=true):zGc ps=zBY ps/\2<=zBY ps/\zBY ps<=42:=by
 have hl:zII ps<=41:=zPL fun x hx=>by
  simp only[zAq,Bool.and_eq_true,List.all_eq_true]at h;exact zJA (h.2 x hx)
 have hm:zDZ ps=(zII ps:Int):=zMb ps 1;have h1:1<=zII ps:=by
  have mono:∀ (l:List InstD) (b:Nat),b<=l.foldl (fun m x=>max m x.slot.toNat) b:=by
   intro l
   induction l with
   | nil=>intro b;exact Nat.le_refl _
   | cons z l ih=>intro b;exact Nat.le_trans (Nat.le_max_left _ _) (ih _)
  exact mono ps 1
 unfold zGc zBY;rw[hm];refine⟨?_,by omega,by omega⟩
 have e:((zII ps:Int)).tdiv 2=((zII ps / 2:Nat):Int):=by
  rw[Int.tdiv_eq_ediv_of_nonneg (by omega)];omega
 rw[e];unfold wrap64;omega
theorem zMI:(Tryz.prog.info? 4).map (fun i=>(i.zero,i.size,i.bytes))=some (some (.bool false),1,1):=by kernel_rfl
theorem zOa (p q g:Option Addr) (n c m d k e:Nat) (W:World):(Instr.build 150 #[(0,.slice p n c),(1,.slice q m d),(2,.slice g k e)]).run Tryz.prog W=.ok (.agg #[.slice p n c,.slice q m d,.slice g k e,.slice none 0 0]) W:=by simp[go_sem]
theorem bRun {ops:Array Oper} {dst:Option Tmp} {ty:TypeId} {pos:String} {aft:Array Edge} {grd:Option (Nat × Bool)} {rest:List Oper} {a:Act} {w:World} {Q:Exit->Act->World->Prop} {x y z:Operand} {p q g:Option Addr} {n c m d k e:Nat} (h:wpList Tryz.prog ops Q rest (a.put dst (.agg #[.slice p n c,.slice q m d,.slice g k e,.slice none 0 0])) w) (hg:Region.wanted (⟨dst,.build 150 #[(0,x),(1,y),(2,z)],ty,pos,aft,grd⟩:Oper) (yielded ops a.tmps)=true:=by first|rfl|exact zAT rfl (zAM rfl (by first|rfl|(simp only[pe];rfl)))) (h0:a.eval x=.slice p n c:=by first|(simp only[pe];done)|(simp only[pe];rfl)) (h1:a.eval y=.slice q m d:=by first|(simp only[pe];done)|(simp only[pe];rfl)) (h2:a.eval z=.slice g k e:=by first|(simp only[pe];done)|(simp only[pe];rfl)):wpList Tryz.prog ops Q ((⟨dst,.build 150 #[(0,x),(1,y),(2,z)],ty,pos,aft,grd⟩:Oper)::rest) a w :=
 zAh hg (by simp only[execOp,List.map_toArray,List.map_cons,List.map_nil,h0,h1,h2,Sem.run_bind,zOa];rfl) h
theorem zOf (L K:Nat):Sof L (List.replicate K false)=fun _ _=>false:=by
 funext a j
 unfold Sof;rw[List.getD_eq_getElem?_getD,List.getElem?_replicate];split<;>simp
theorem zM0 (pp:Option Addr) (cp:Nat) (ps:List InstD) (psl:Option Addr) (csl:Nat) (L:Str) (at_:Int) (Fp Fs:Nat->Prop) (w0:World) (hset:∀ x ∈ ps,zAb x.set) (hL:L.length<=1000) (hFp:∀ b,Fp b->b<w0.heap.size) (hFs:∀ b,Fs b->b<w0.heap.size) (hp:InstsR Fp pp cp ps w0) (hs:BytesR Fs psl csl L w0) :
  Calls Tryz.prog 47 #[.slice pp ps.length cp,.slice psl L.length csl,.int .i64 at_] w0 fun e w'=>zIW w0 (runP ps L at_) e w'/\Below w0.heap.size w0 w':=by
 have hr:=fun w h1 h2=>zJY pp cp ps Fp w h1 h2
 have H:=(Hold.insts hFp hp).know Fs (BytesR Fs psl csl L) hFs (fun i r h=>by
  rcases i with _|i
  ·simp at h;subst h;intro b hb;cases hb
  ·simp at h) (fun V hV=>hs.kept hV)
 simp only[ca]at H;have hbp:=hp.bound;clear hp hs
 by_cases hR:zAq ps=true
 case neg =>
  have hR':zAq ps=false:=by simpa using hR
  have E:=Lib.hid (show runP ps L at_=none by unfold runP;rw[if_pos (.inr (.inr hR'))])
  rw[hR']at hr;clear hR hR'
  go_enter Tryz.func47,Tryz.ntmps47
  go_wp2_with (first|fail|((with_reducible refine ch (hr _ (H.knlt (i:=0) .zero) (H.kn (i:=0) .zero)) H ?_);clear H;intro w H))
  go_ret2
  exact⟨by rw[E.out];rfl,H.below⟩
 rw[hR]at hr
 by_cases h1:at_<0
 ·have d1:decide (at_<0)=true:=decide_eq_true h1;have E:=Lib.hid (show runP ps L at_=none by unfold runP;rw[if_pos (.inl h1)])
  clear h1 hR
  go_enter Tryz.func47,Tryz.ntmps47
  go_wp2_with (first|fail|((with_reducible refine ch (hr _ (H.knlt (i:=0) .zero) (H.kn (i:=0) .zero)) H ?_);clear H;intro w H))
  go_ret2
  exact⟨by rw[E.out];rfl,H.below⟩
 have d1:decide (at_<0)=false:=decide_eq_false h1
 by_cases h2:(L.length:Int)<at_
 ·have d2:decide ((L.length:Int)<at_)=true:=decide_eq_true h2;have E:=Lib.hid (show runP ps L at_=none by unfold runP;rw[if_pos (.inr (.inl h2))])
  clear h1 h2 hR
  go_enter Tryz.func47,Tryz.ntmps47
  go_wp2_with (first|fail|((with_reducible refine ch (hr _ (H.knlt (i:=0) .zero) (H.kn (i:=0) .zero)) H ?_);clear H;intro w H))
  go_ret2
  exact⟨by rw[E.out];rfl,H.below⟩
 obtain⟨a,rfl⟩:∃ a:Nat,at_=a:=⟨at_.toNat,by omega⟩
 have ha:a<=L.length:=by omega
 have d2:decide (L.length<a)=false:=decide_eq_false (by omega)
 have d3:decide ((L.length:Int)<(a:Int))=false:=decide_eq_false (by omega)
 clear h1 h2;obtain⟨hsi,hs2,hs42⟩:=zEE hR;have hDF:=zJx (p:=ps) (s:=L) (a:=(a:Int)) (by omega) (by omega) hR
 rw[Int.toNat_natCast]at hDF;have hn4:1<=ps.length/\ps.length<=4000:=by
  simp only[zAq,Bool.and_eq_true,decide_eq_true_eq]at hR;exact hR.1
 have hsl:=fun w h1 h2=>zJe pp cp ps Fp w h1 h2
 rw[hsi]at hsl;obtain⟨ms,hms⟩:∃ ms,zBY ps=ms:=⟨_,rfl⟩;rw[hms]at hsl hs2 hs42 hDF;obtain⟨K,hK⟩:∃ K,ps.length * (L.length+1)=K:=⟨_,rfl⟩;have hKle:K<=4004000:=by
  have:ps.length * (L.length+1)<=4000 * (L.length+1):=Nat.mul_le_mul_right _ hn4.2;omega
 have hmul:wrap64 ((ps.length:Int) * ((L.length:Int)+1))=(K:Int):=by
  have e0:(ps.length:Int) * ((L.length:Int)+1)=((ps.length * (L.length+1):Nat):Int):=by push_cast;rfl
  rw[e0,hK];unfold wrap64;omega
 obtain⟨ib,hib,hb0,hb1,hb2⟩:=info_parts zMI;obtain⟨ii,hii,hi0,hi1,hi2⟩:=info_parts zEO
 go_enter Tryz.func47,Tryz.ntmps47
 go_upto_region 4 with (first|((with_reducible refine gMS ?_);refine zHU rfl _ _ 148 rfl H Tryz.underlying148 hib hb0 hb1 hb2 rfl (n:=K) (by rw[← hmul];rfl) (by rw[← hmul];rfl) (by omega) (by unfold maxLen;omega) ?_;clear H;intro gs w H;simp only[ca]at H)|((with_reducible refine gZ ?_);refine bRun ?_)|((with_reducible refine kg 34 ?_);(first|refine kA 34 H ?_|refine kS 34 H ?_|refine kB 34 H ?_);clear H;intro b34 w H;try simp only[nr]at H)|fail|((with_reducible refine ch (hr _ (H.knlt (i:=0) .zero) (H.kn (i:=0) .zero)) H ?_);clear H;intro w H))
 have H2:=(H.addNil 3 1).pick [3,2,4,0,1] [.blk b34 #[.slice pp ps.length cp,.slice psl L.length csl,.slice (some ⟨gs,0,none⟩) K K,(.slice none 0 0)] 150,.row (.slice (some ⟨gs,0,none⟩) K K) 4 1 K ((List.replicate K false).map .bool),.row (.slice none 0 0) 3 1 0 (List.replicate 0 (.int .i64 (-1))),.kn Fp (InstsR Fp pp cp ps),.kn Fs (BytesR Fs psl csl L)] (by decide) (by simp only[List.map_replicate];rfl)
 clear H;have H:=H2;clear H2 hr hmul
 go_wp2_with (first|fail)
 go_loopw [9] (fun ix wr=>∃ (j:Nat) (vq:Option Addr) (vc:Nat),j<=ms/\ix=.int .i64 j/\Hold w0 wr [.blk b34 #[.slice pp ps.length cp,.slice psl L.length csl,.slice (some ⟨gs,0,none⟩) K K,(.slice vq j vc)] 150,.row (.slice (some ⟨gs,0,none⟩) K K) 4 1 K ((List.replicate K false).map .bool),.row (.slice vq j vc) 3 1 j (List.replicate j (.int .i64 (-1))),.kn Fp (InstsR Fp pp cp ps),.kn Fs (BytesR Fs psl csl L)]) (fun ix _=>ms+1 - (intOf ix).toNat)
 case atStart=>exact⟨0,none,0,by omega,rfl,H⟩
 case round =>
  clear H;obtain⟨j,vq,vc,hj,rfl,H⟩:=hrel
  by_cases hlt:j<ms
  ·have dj:decide (j<ms)=true:=decide_eq_true hlt;have dj2:decide ((j:Int)<(ms:Int))=true:=decide_eq_true (by omega)
   go_wp2_with (first|(at_builtin;refine zAx rfl _ _ 55 rfl H (i:=2) (j:=5) evd_ rfl i_2 i_5 Tryz.underlying55 hii hi0 hi1 hi2 rfl (by decide) rfl rfl (by unfold maxLen;omega) (by omega) ?_;clear H;intro v2 w H;(try simp only[nr]at H);(obtain⟨q2,c2,rfl,_,_,_⟩:=H.rowShape (i:=2) i_2))|((with_reducible refine gBS ?_);refine zAQ wtd_ _ _ _ rfl H (#[.int .i64 (-1)]) 3 (by intro W;simp only[ml];(try simp only[pe]);(try unfold setV);simp[go_sem]<;>rfl) ?_;clear H;intro b w H;try simp only[nr]at H)|(first|((with_reducible refine gT ?_);(refine aO H ?_;clear H;intro w H;try simp only[nr]at H))|((with_reducible refine gL ?_);refine aG H ?_))|((with_reducible refine ch (hsl _ (H.knlt (i:=3) i_3) (H.kn (i:=3) i_3)) H ?_);clear H;intro w H))
   have hrep:List.replicate j (Value.int .i64 (-1))++[Value.int .i64 (-1)]=List.replicate (j+1) (.int .i64 (-1)):=by rw[List.replicate_succ']
   go_roundw
   case rel=>exact⟨j+1,q2,c2,by omega,by go_num,by rw[← hrep];exact H.pick [0,1,2,3,4] _ (by decide) rfl⟩
   case measure=>simp[intOf];omega
  ·have hjm:j=ms:=by omega
   subst hjm;have dj:decide (j<j)=false:=by simp
   have dj2:decide ((j:Int)<(j:Int))=false:=by simp
   obtain⟨q2,c2,e2,_,_,hq2⟩:=H.rowShape (i:=2) i_2;obtain⟨gt,rfl⟩:=hq2 (by omega)
   simp only[Value.slice.injEq]at e2;obtain⟨rfl,_,rfl⟩:=e2;have hway:=fun m k i sn sl M w0 w=>zMy b34 pp cp ps psl csl L Fp Fs gs K K gt vc j hR hset hL hn4.2 hK.symm hms.symm m k i sn sl M w0 w
   have hrep:(List.replicate j (-1:Int)).map (Value.int .i64)=List.replicate j (.int .i64 (-1)):=by rw[List.map_replicate]
   rw[← hrep]at H;clear hrep hlt
   go_wp2_with (first|fail|((with_reducible refine ch (hsl _ (H.knlt (i:=3) i_3) (H.kn (i:=3) i_3)) H ?_);clear H;intro w H))
   clear hsl
   go_loopw [10] (fun ix wr=>∃ (i:Nat) (sn:List Bool),i<=L.length+1/\ix=.int .i64 i/\Hid (sn.length=K)/\Hid (∀ res,Dfs ps L none (zBw (List.replicate j (-1)) none i (L.length+1 - i)) (Sof L.length sn) res->Dfs ps L none (zBw (List.replicate j (-1)) none a (L.length+1 - a)) (fun _ _=>false) res)/\Hold w0 wr (runL b34 pp cp ps psl csl L Fp Fs gs K K gt vc j sn (List.replicate j (-1)))) (fun ix _=>L.length+2 - (intOf ix).toNat)
   case atStart=>exact⟨a,List.replicate K false,by omega,rfl,Lib.hid (by simp),Lib.hid (fun res h=>by rwa [zOf]at h),H⟩
   case round =>
    clear H;obtain⟨i,sn,hi,rfl,HSN,HD,H⟩:=hrel;simp only[runL]at H
    by_cases hil:i<=L.length
    ·have di:decide (i<=L.length)=true:=decide_eq_true hil;have di2:decide ((i:Int)<=(L.length:Int))=true:=decide_eq_true (by omega)
     have hw1:∀ w,_->Calls Tryz.prog 76 #[.pointer (some ⟨b34,0,none⟩),.int .i64 0,.int .i64 i] w _:=fun w h=>hway (unF sn+1) 0 i sn (List.replicate j (-1)) (fun _=>False) w0 w (by omega) (by omega) hil HSN.out (by simp) h
     have hst:zBw (List.replicate j (-1)) none i (L.length+1 - i)=(0,i,List.replicate j (-1))::zBw (List.replicate j (-1)) none (i+1) (L.length+1 - (i+1)):=by
      rw[show L.length+1 - i=(L.length+1 - (i+1))+1 by omega]
      simp[zBw,List.range'_succ]
     have HST:=Lib.hid hst;clear hst hway
     go_wp2_with (first|((with_reducible refine gL ?_);refine aG H ?_)|(go_at_call 76;(with_reducible refine chW H (fun h=>hw1 _ h) ?_);clear H;intro b sn2 sl2 w hT1 H;rcases b with _|_;(obtain⟨e2,_⟩:=hT1.miss rfl;cases e2)))
     ·have hm:=(hT1.miss rfl).2;go_roundw
      case rel=>exact⟨i+1,sn2,by omega,by go_num,Lib.hid (hT1.len.trans HSN.out),Lib.hid (fun res h=>HD.out res (by rw[HST.out];exact hm none _ res h)),H⟩
      case measure=>simp[intOf];omega
     ·have hd:=HD.out _ (by rw[HST.out];exact hT1.hit rfl none _)
      have E:=Lib.hid (hDF.one hd);have hsl2:sl2.length=j:=by rw[hT1.slen];simp
      have HSL:=Lib.hid hsl2;clear hsl2 hd
      go_ret2
      refine⟨?_,H.below⟩;rw[E.out];rw[← HSL.out]at H;obtain⟨F9,hF9,hI⟩:=H.rowInts (i:=2) i_2;exact⟨some ⟨gt,0,none⟩,vc,F9,by rw[HSL.out];rfl,hI,fun b h=>⟨(hF9 b h).2,(hF9 b h).1.elim id False.elim⟩⟩
    ·have di:decide (i<=L.length)=false:=decide_eq_false hil;have di2:decide ((i:Int)<=(L.length:Int))=false:=decide_eq_false (by omega)
     have hd:=HD.out none (by rw[show L.length+1 - i=0 by omega];exact .nil _)
     have E:=Lib.hid (hDF.one hd);clear hd hway
     go_wp2_with (first|fail)
     go_ret2
     exact⟨by rw[E.out];rfl,H.below⟩
theorem zMh (v:Value) (xs:List Int) (hx:∀ x ∈ xs,0<=x/\x<=255) (w:World) (h:Rd w w.heap.size v (xs.map (.int .u8))) :
  Calls Tryz.prog 65 #[v] w fun e w'=>e=.returned (setV (ofS xs))/\Below w.heap.size w w':=by
 have b1:SBox (w.alloc (.cells (setC zAG) 30)) w.heap.size 30 zAG:=SBox.new w _ _;have b2:SBox ((w.alloc (.cells (setC zAG) 30)).alloc (.cells (setC zAG) 30)) w.heap.size 30 zAG:=b1.alloc _;have e2:SBox ((w.alloc (.cells (setC zAG) 30)).alloc (.cells (setC zAG) 30)) (w.heap.size+1) 30 zAG:=by have:=SBox.new (w.alloc (.cells (setC zAG) 30)) 30 zAG;rwa [World.size_alloc]at this
 have bel:Below w.heap.size w ((w.alloc (.cells (setC zAG) 30)).alloc (.cells (setC zAG) 30)):=((Below.refl _ w).alloc (Nat.le_refl _) _).alloc (by simp) _
 clear b1;have hl:xs.length<=9223372036854775807:=by simpa using h.len
 obtain⟨p,cap,rfl⟩:∃ p cap,v=.slice p xs.length cap:=by rcases h with ⟨⟨q,h⟩,h'⟩|⟨b,off,cap,h,_⟩;(obtain rfl:xs=[]:=by simpa using h');exact⟨_,_,h⟩;exact⟨some ⟨b,off,none⟩,cap,by simpa using h⟩
 have H:=Lib.hid h;clear h;have HX:=Lib.hid hx;clear hx
 go_enter Tryz.func65,Tryz.ntmps65
 go_wp2_with fail
 go_loopw [4] (fun i wr=>∃ k:Nat,k<=xs.length/\i=.int .i64 k/\Hid (SBox wr (w.heap.size+1) 30 (ofS (xs.take k))/\SBox wr w.heap.size 30 zAG/\Below w.heap.size w wr)) (fun i _=>xs.length - (intOf i).toNat)
 case atStart=>exact⟨0,by omega,rfl,e2,b2,bel⟩
 case round =>
  clear e2 b2 bel;obtain⟨k,hk,rfl,G⟩:=hrel
  by_cases hlt:k<xs.length
  ·obtain⟨b0,off,rfl,hb0,hcell⟩:∃ b0 off,p=some ⟨b0,off,none⟩/\b0<w.heap.size/\w.cell? ⟨b0,off+k,none⟩=some (.int .u8 xs[k]):=by
    rcases H.out with ⟨⟨q,h⟩,h'⟩|⟨b,off,cap,h,h1,_,_,h4⟩
    ·simp at h';subst h';simp at hlt
    ·injection h with h2 _ _;exact⟨b,off,h2,h1,by have:=h4 k (by simpa using hlt);simpa using this⟩
   have hxk:=HX.out xs[k] (List.getElem_mem hlt);have hnext:ofS (xs.take (k+1))=addS (ofS (xs.take k)) xs[k].toNat:=by rw[List.take_succ_eq_append_getElem hlt,zKX]
   have hS:zAb (ofS (xs.take k)):=zCt _;have HN:=Lib.hid hnext;clear hnext;have HS:=Lib.hid hS;clear hS
   generalize ofS (xs.take k)=S at G HN HS
   generalize xs[k]=x at hcell hxk HN
   obtain⟨hx0,hx1⟩:=hxk;obtain⟨x,rfl⟩:∃ n:Nat,x=n:=⟨x.toNat,by omega⟩
   have HC:=Lib.hid hcell;clear hcell
   go_upto_region 5 with fail
   refine wr_ 6 [fun v _=>v=setV S,fun v _=>v=.slice (some ⟨b0,off,none⟩) xs.length cap,fun v _=>v=.int .i64 (k:Int),fun v _=>v=.pointer (some ⟨b0,off+k,none⟩),fun v _=>v=.int .u8 (x:Int),fun v _=>v=setV (addS S x)] ?ob ?en
   case ob =>
    refine⟨?_,?_,?_,?_,?_,?_,trivial⟩<;>intro A W h
    ·exact zCS (s:=S) rfl rfl (h.f 3) (G.out.1.below h.below G.out.1.lt) (by decide)
    ·exact zAB rfl rfl (h.f 0)
    ·exact zAB rfl rfl (h.f 4)
    ·exact zAU (sz:=1) Tryz.underlying25 (fun w=>by kernel_rfl) rfl rfl (h.d 1 12) (h.d 2 13) (by omega) (by omega)
    ·(have e14:A.eval (.tmp 14)=.pointer (some ⟨b0,off+k,none⟩):=h.d 3 14;refine zAA rfl ?_;simp only[execOp,e14];(have q:=((G.out.2.2.trans (h.below.mono G.out.2.2.size)).cell (p:=⟨b0,off+k,none⟩) hb0).trans HC.out;simp[go_sem,q]))
    ·exact zAc rfl rfl (enters_of Tryz.func105 (by kernel_rfl) rfl) (zBm ⟨(h.d 0 11),(h.d 4 15)⟩) (zEa S HS.out x (by omega) W)
   case en =>
    intro vals W hbw hv _;simp only[fa,Nat.reduceAdd];rw[e_ hv 0,e_ hv 1,e_ hv 2,e_ hv 3,e_ hv 4,e_ hv 5];clear hv
    try simp only[pl]
    have s1:=G.out.1.below hbw G.out.1.lt;have s2:=G.out.2.1.below hbw G.out.2.1.lt;have s3:=G.out.2.2.trans (hbw.mono G.out.2.2.size);have f0:=s1.frozen 0;have f1:=s1.frozen 1;have f2:=s1.frozen 2;have f3:=s1.frozen 3;have r0:=s1.cell (k:=0) (by omega);have r1:=s1.cell (k:=1) (by omega);have r2:=s1.cell (k:=2) (by omega);have r3:=s1.cell (k:=3) (by omega)
    have S1:=Lib.hid s1;clear s1;have S2:=Lib.hid s2;clear s2;have S3:=Lib.hid s3;clear s3;have sz:=G.out.1.lt;clear hbw G;rw[show setV (addS S x)=.agg #[.int .u64 (addS S x 0),.int .u64 (addS S x 1),.int .u64 (addS S x 2),.int .u64 (addS S x 3)] from rfl]
    go_wp2_with fail
    go_roundw
    case rel=>exact⟨k+1,by omega,by go_num,by rw[HN.out];exact S1.out.set4 _,(((S2.out.other (by omega) _ _).other (by omega) _ _).other (by omega) _ _).other (by omega) _ _,zBP S3.out (by omega) _ _ _ _⟩
    case measure=>simp[intOf];omega
  ·obtain rfl:k=xs.length:=by omega
   have ⟨s1,s2,s3⟩:=G.out;rw[List.take_length]at s1;clear G;have f0:=s2.frozen 0;have f1:=s2.frozen 1;have f2:=s2.frozen 2;have f3:=s2.frozen 3;have r0:=s2.cell (k:=0) (by omega);have r1:=s2.cell (k:=1) (by omega);have r2:=s2.cell (k:=2) (by omega);have r3:=s2.cell (k:=3) (by omega)
   have c0:=s1.cell (k:=0) (by omega);have c1:=s1.cell (k:=1) (by omega);have c2:=s1.cell (k:=2) (by omega);have c3:=s1.cell (k:=3) (by omega)
   clear s1;have S2:=Lib.hid s2;clear s2;have S3:=Lib.hid s3;clear s3
   go_wp2
   have b4:=S2.out.set4 (ofS xs);have g0:=b4.cell (k:=0) (by omega);have g1:=b4.cell (k:=1) (by omega);have g2:=b4.cell (k:=2) (by omega);have g3:=b4.cell (k:=3) (by omega)
   exact bodyPost_ret (v:=setV (ofS xs)) (by unfold setV;simp[results,Tryz.results65,go_sem,g0,g1,g2,g3]) rfl ⟨rfl,zBP S3.out (by omega) _ _ _ _⟩
end
end Go.Proofs.YtphjgfjbiimkjaaGreat
