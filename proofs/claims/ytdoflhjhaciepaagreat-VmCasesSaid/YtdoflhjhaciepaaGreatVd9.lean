/-
  Laws of walks, and walks.
-/
import Derived.Test.YtdoflhjhaciepaaGreatVd8
import Derived.Test.YtdoflhjhaciepaaGreatVd6
import Derived.Laws.Cover3
import Derived.Test.YtdoflhjhaciepaaGreatVd4
import Derived.Deep.Onto
import Derived.Test.YtdoflhjhaciepaaGreatVd1
set_option linter.unusedVariables false
set_option linter.unusedSimpArgs false
set_option maxRecDepth 100000
set_option maxHeartbeats 16000000
namespace Go.Proofs.YtdoflhjhaciepaaGreat
section
open Go.RowKit Go.Shelf
attribute [local go_sem] Oper.semAt_some
abbrev runL (rb:Nat) (pp:Option Addr) (cp:Nat) (ps:List InstD) (psl:Option Addr) (csl:Nat) (L:Str) (Fp Fs:Nat→Prop) (gs cs K gt ct m:Nat) (sn:List Bool) (sl:zA2):List Res :=
 [.blk rb #[.slice pp ps.length cp,.slice psl L.length csl,.slice (some ⟨gs,0,none⟩) K cs,.slice (some ⟨gt,0,none⟩) m ct] 110,.row (.slice (some ⟨gs,0,none⟩) K cs) 4 1 K (sn.map .bool),.row (.slice (some ⟨gt,0,none⟩) m ct) 3 1 m (sl.map (.int .i64)),.kn Fp (InstsR Fp pp cp ps),.kn Fs (BytesR Fs psl csl L)]
def WayB (rb:Nat) (pp:Option Addr) (cp:Nat) (ps:List InstD) (psl:Option Addr) (csl:Nat) (L:Str) (Fp Fs:Nat→Prop) (gs cs K gt ct m:Nat) (M:Nat→Prop) (w0:World) (k i:Nat) (sn:List Bool) (sl:zA2) (w:World) (e:Ending) (w':World):Prop :=
 ∃ (b:Bool) (sn':List Bool) (sl':zA2),e=.returned (.bool b)∧WayT ps L k i sl sn b sn' sl'∧Turned M w0 w (runL rb pp cp ps psl csl L Fp Fs gs cs K gt ct m sn sl) (runL rb pp cp ps psl csl L Fp Fs gs cs K gt ct m sn' sl') w'
theorem zSE {l:List Res}:∀ (n:Nat) (pre:List Res),pre.length=n→(List.range' n l.length).map (fun j=>(pre++l)[j]?)=l.map some:=by
 intro n pre hn;apply List.ext_getElem?;intro i;simp only[List.getElem?_map,List.getElem?_range']
 by_cases h:i<l.length
 ·simp[h,List.getElem?_append,hn]
 ·simp[h]
section
variable {rb:Nat} {pp:Option Addr} {cp:Nat} {ps:List InstD} {psl:Option Addr} {csl:Nat} {L:Str} {Fp Fs:Nat→Prop} {gs cs K gt ct m:Nat} {M:Nat→Prop} {w0 w:World} {k i:Nat} {sn:List Bool} {sl:zA2}
theorem chW {P:Program} {f:FuncId} {args:Array Value} {l3:List Res} {R:Ending→World→Prop} (H:HoldG M w0 w (.blk rb #[.slice pp ps.length cp,.slice psl L.length csl,.slice (some ⟨gs,0,none⟩) K cs,.slice (some ⟨gt,0,none⟩) m ct] 110::.row (.slice (some ⟨gs,0,none⟩) K cs) 4 1 K (sn.map .bool)::.row (.slice (some ⟨gt,0,none⟩) m ct) 3 1 m (sl.map (.int .i64))::.kn Fp (InstsR Fp pp cp ps)::.kn Fs (BytesR Fs psl csl L)::l3))
  (c:HoldG M w0 w (runL rb pp cp ps psl csl L Fp Fs gs cs K gt ct m sn sl)→Calls P f args w (WayB rb pp cp ps psl csl L Fp Fs gs cs K gt ct m M w0 k i sn sl w))
  (k2:∀ (b:Bool) (sn':List Bool) (sl':zA2) w',WayT ps L k i sl sn b sn' sl'→HoldG M w0 w' (.blk rb #[.slice pp ps.length cp,.slice psl L.length csl,.slice (some ⟨gs,0,none⟩) K cs,.slice (some ⟨gt,0,none⟩) m ct] 110::.row (.slice (some ⟨gs,0,none⟩) K cs) 4 1 K (sn'.map .bool)::.row (.slice (some ⟨gt,0,none⟩) m ct) 3 1 m (sl'.map (.int .i64))::.kn Fp (InstsR Fp pp cp ps)::.kn Fs (BytesR Fs psl csl L)::l3)→R (.returned (.bool b)) w'):Calls P f args w R:=by
 refine(c (H.pick [0,1,2,3,4] _ (by decide) rfl)).mono ?_
 rintro e w' ⟨b,sn',sl',rfl,hT,T⟩;refine k2 b sn' sl' w' hT (H.callIn T [0,1,2,3,4] (List.range' 5 l3.length) rfl (zSE 5 [_,_,_,_,_] rfl) List.nodup_range' (fun j hj h=>?_))
 rw[List.mem_range'_1]at h;simp at hj;omega
theorem zC4 {W:World} {l:List Res} {e:Ending} {b:Bool} {sn':List Bool} {sl':zA2} (H:HoldG M w0 W l) {q:Nat} (hi:At l q (.kn (zDp w (runL rb pp cp ps psl csl L Fp Fs gs cs K gt ct m sn sl)) (zEf w (runL rb pp cp ps psl csl L Fp Fs gs cs K gt ct m sn sl)))) (hq:4<q)
  (h:[0,1,2,3,4].map (fun j=>l[j]?)=(runL rb pp cp ps psl csl L Fp Fs gs cs K gt ct m sn' sl').map some) (he:e=.returned (.bool b)) (hT:WayT ps L k i sl sn b sn' sl'):WayB rb pp cp ps psl csl L Fp Fs gs cs K gt ct m M w0 k i sn sl w e W :=
 ⟨b,sn',sl',he,hT,Turned.of H hi [0,1,2,3,4] (by decide) (by simp;omega) h (fun F S hm b hb=>by
  simp at hm;rcases hm with ⟨rfl,rfl⟩|⟨rfl,rfl⟩
  ·exact .inl ⟨.kn F (InstsR F pp cp ps),by simp,hb⟩
  ·exact .inl ⟨.kn F (BytesR F psl csl L),by simp,hb⟩)⟩
end
theorem zHB {ps:List InstD} (h:zA3 ps=true) {k:Nat} {x:InstD} (hx:ps[k]?=some x):zBa ps.length x=true:=by
 simp only[zA3,Bool.and_eq_true,List.all_eq_true]at h;exact h.2 x (List.mem_of_getElem? hx)
theorem zDG {n:Nat} {x:InstD} (h:zBa n x=true) (hk:x.kind=1∨x.kind=2∨x.kind=3∨x.kind=4):0≤x.next∧x.next<n:=by
 unfold zBa inN at h;rcases hk with h1|h1|h1|h1<;>simp[h1]at h<;>omega
theorem zG7 {n:Nat} {x:InstD} (h:zBa n x=true) (hk:x.kind=2):0≤x.other∧x.other<n:=by
 unfold zBa inN at h;simp[hk]at h;omega
theorem zH8 {n:Nat} {x:InstD} (h:zBa n x=true) (hk:x.kind=3):0≤x.slot∧x.slot<42:=by
 unfold zBa inN at h;simp[hk]at h;omega
theorem zM5:∀ (ps:List InstD) (a:Nat) (x:InstD),x ∈ ps→x.slot.toNat≤ps.foldl (fun m x=>max m x.slot.toNat) a
 | [],_,_,h=>by cases h
 | y::r,a,x,h=>by
  have mono:∀ (l:List InstD) (b:Nat),b≤l.foldl (fun m x=>max m x.slot.toNat) b:=by
   intro l
   induction l with
   | nil=>intro b;exact Nat.le_refl _
   | cons z l ih=>intro b;exact Nat.le_trans (Nat.le_max_left _ _) (ih _)
  rcases List.mem_cons.1 h with rfl|h
  ·exact Nat.le_trans (Nat.le_max_right _ _) (mono r _)
  ·exact zM5 r _ x h
theorem zM3 {ps:List InstD} {k:Nat} {x:InstD} (hx:ps[k]?=some x):x.slot.toNat<zCe ps:=by
 have:=zM5 ps 1 x (List.mem_of_getElem? hx);unfold zCe zJP;omega
theorem zM0 (rb:Nat) (pp:Option Addr) (cp:Nat) (ps:List InstD) (psl:Option Addr) (csl:Nat) (L:Str) (Fp Fs:Nat→Prop) (gs cs K gt ct ms:Nat) (hR:zA3 ps=true) (hset:∀ x ∈ ps,zAW x.set) (hL:L.length≤1000) (hn4:ps.length≤4000) (hK:K=ps.length * (L.length+1)) (hms:ms=zCe ps) :
  ∀ (m k i:Nat) (sn:List Bool) (sl:zA2) (M:Nat→Prop) (w0 w:World),unF sn<m→k<ps.length→i≤L.length→sn.length=K→sl.length=ms→HoldG M w0 w (runL rb pp cp ps psl csl L Fp Fs gs cs K gt ct ms sn sl) →
  Calls Tryz.prog 40 #[.pointer (some ⟨rb,0,none⟩),.int .i64 k,.int .i64 i] w (WayB rb pp cp ps psl csl L Fp Fs gs cs K gt ct ms M w0 k i sn sl w)
 | 0,_,_,_,_,_,_,_,h,_,_,_,_,_=>by omega
 | m+1,k,i,sn,sl,M,w0,w,hm,hk,hi,hsn,hsl,H0=>by
  have IH:=zM0 rb pp cp ps psl csl L Fp Fs gs cs K gt ct ms hR hset hL hn4 hK hms m;have H:=H0.framed;clear H0;obtain⟨rF,hrF⟩:∃ rF,zDp w (runL rb pp cp ps psl csl L Fp Fs gs cs K gt ct ms sn sl)=rF:=⟨_,rfl⟩;obtain⟨rS,hrS⟩:∃ rS,zEf w (runL rb pp cp ps psl csl L Fp Fs gs cs K gt ct ms sn sl)=rS:=⟨_,rfl⟩;rw[hrF,hrS]at H;simp only[runL,List.cons_append,List.nil_append]at H;obtain⟨x,hx⟩:∃ x,ps[k]?=some x:=⟨_,List.getElem?_eq_getElem hk⟩
  have hri:=zHB hR hx;obtain⟨kk,hkk⟩:∃ kk,k * (L.length+1)+i=kk:=⟨_,rfl⟩;have hkK:kk<K:=by rw[← hkk,hK];exact zPe hk hi
  have hK1:ps.length * (L.length+1)≤4000 * (L.length+1):=Nat.mul_le_mul_right _ hn4;have hK2:K≤4010000:=by rw[hK];exact Nat.le_trans hK1 (by omega)
  obtain⟨bp,op,hpp⟩:=(H.kn (i:=3) i_3).at (by omega)
  subst hpp;have hcell:∀ V,InstsR Fp (some ⟨bp,op,none⟩) cp ps V→∀ q,q<9→V.cell? ⟨bp,op+k * 9+q,none⟩=(zAY x)[q]?:=fun V h=>h.cells hx rfl
  obtain⟨km,hkm⟩:∃ km,k * (L.length+1)=km:=⟨_,rfl⟩;have hkl:km≤4010000:=by
   have:k * (L.length+1)≤4000 * (L.length+1):=Nat.mul_le_mul_right _ (by omega)
   omega
  have hmul:wrap64 ((k:Int) * ((L.length:Int)+1))=(km:Int):=by
   have e0:(k:Int) * ((L.length:Int)+1)=((k * (L.length+1):Nat):Int):=by push_cast;rfl
   rw[e0,hkm];unfold wrap64;omega
  have hki:(km:Int)+(i:Int)=(kk:Int):=by omega
  clear hK1;obtain⟨z,hz⟩:∃ z,sn[kk]?=some z:=⟨_,List.getElem?_eq_getElem (by omega)⟩
  have hbz:(sn.map Value.bool)[kk]?=some (.bool z):=by rw[List.getElem?_map,hz];rfl
  go_enter Tryz.func40,Tryz.ntmps40
  go_upto_region 2 with (first|((with_reducible refine gL ?_);refine aG H ?_))
  have hlenb:(sn.map Value.bool).length=K:=by rw[List.length_map];exact hsn
  cases z with
  | true =>
   have hT:=WayT.seen (p:=ps) (s:=L) (sl:=sl) hi (by rw[hkk];exact hz)
   clear hmul hki IH hx hri hcell hz
   go_wp2_with (first|((with_reducible refine gL ?_);refine zAJ wtd_ _ _ rfl rfl zEE (H.row1 (i:=1) i_1 hbz) ?_)|((with_reducible refine gL ?_);refine aG H ?_))
   go_ret;rw[← hrF,← hrS]at H;exact zC4 H (q:=5) i_5 (by decide) rfl rfl (hT)
  | false =>
   obtain⟨sn1,hs1⟩:∃ s,sn.set kk true=s:=⟨_,rfl⟩;have hmap:(sn.map Value.bool).set kk (.bool true)=sn1.map .bool:=by rw[← hs1,List.map_set]
   have hM:Marked L k i sn sn1:=by
    have:=Marked.of (s:=L) (k:=k) (sn:=sn) hi (by rw[hkk];exact hz)
    rwa [hkk,hs1]at this
   have hlen1:sn1.length=K:=hM.len.trans hsn;have hun1:unF sn1<m:=by have:=hM.un;omega
   go_upto_region 7 with (first|((with_reducible refine gL ?_);refine zAJ wtd_ _ _ rfl rfl zEE (H.row1 (i:=1) i_1 hbz) ?_)|((with_reducible refine gT ?_);refine zDs wtd_ _ _ _ rfl rfl (v:=.bool true) evd_ H (j:=1) i_1 hlenb (by with_reducible exact zAI zEE) rfl hkK ?_;clear H;intro w H;(simp only[sc]at H);(rw[hmap]at H))|((with_reducible refine gL ?_);refine zAS wtd_ _ _ rfl rfl zAk rfl (hcell _ (H.kn (i:=3) i_3)) ?_)|((first|((with_reducible refine kgA 8 ?_);refine kA 8 H ?_)|((with_reducible refine kgX 8 ?_);(first|refine kS 8 H ?_|refine kB 8 H ?_)));clear H;intro b8 w H;try simp only[nr]at H)|(first|((with_reducible refine gTi ?_);refine aTi H ?_;clear H;intro w H;try simp only[nr]at H)|((with_reducible refine gL ?_);refine aGi H ?_)|((with_reducible refine gL ?_);refine aG H ?_)))
   clear hmul hki hcell hz hbz hlenb hmap hs1;simp only[pl]
   by_cases k5:x.kind=5
   ·have d5:(x.kind == 5)=true:=by rw[beq_iff_eq];exact k5
    have hT:=WayT.match (p:=ps) (sl:=sl) hM (by rw[zB5 hx];exact k5)
    clear IH hri hx
    go_wp2_with (first|fail)
    go_ret;rw[← hrF,← hrS]at H;exact zC4 H (q:=5) i_5 (by decide) rfl rfl (hT)
   have d5:(x.kind == 5)=false:=by rw[beq_eq_false_iff_ne];exact k5
   have hk5:(atI ps k).kind≠5:=by rw[zB5 hx];exact k5
   by_cases k1:x.kind=1
   ·have d1:(x.kind == 1)=true:=by rw[beq_iff_eq];exact k1
    have hnx:=zDG hri (.inl k1);have hN:∀ i2 sn2 sl2 w,i2≤L.length→unF sn2<m→sn2.length=K→sl2.length=ms→HoldG M w0 w (runL rb (some ⟨bp,op,none⟩) cp ps psl csl L Fp Fs gs cs K gt ct ms sn2 sl2)→Calls Tryz.prog 40 #[.pointer (some ⟨rb,0,none⟩),.int .i64 x.next,.int .i64 (i2:Nat)] w (WayB rb (some ⟨bp,op,none⟩) cp ps psl csl L Fp Fs gs cs K gt ct ms M w0 x.next.toNat i2 sn2 sl2 w):=fun i2 sn2 sl2 w h1 h2 h3 h4 h=>by
     have e:((x.next.toNat:Nat):Int)=x.next:=Int.toNat_of_nonneg hnx.1;have:=IH x.next.toNat i2 sn2 sl2 M w0 w h2 (by omega) h1 h3 h4 h
     rwa [e]at this
    by_cases hiL:i<L.length
    ·obtain⟨bs,os,hbs⟩:=(H.kn (i:=4) i_4).at (by omega)
     subst hbs;have hha:=fun w=>zD9 x.set (hset x (List.mem_of_getElem? hx)) (byt L i) (zCf L i) w
     cases hs:hasB x.set (byt L i) with
     | true =>
      rw[hs]at hha;have hsuc:=zQS (p:=ps) (s:=L) (k:=k) (i:=i) (sl:=sl) hx k1 hiL hs;have hN1:∀ w,_→Calls Tryz.prog 40 #[.pointer (some ⟨rb,0,none⟩),.int .i64 x.next,.int .i64 ((i:Int)+1)] w _:=fun w h=>hN (i+1) sn1 sl w (by omega) hun1 hlen1 hsl h
      clear IH hri hx k5 k1 hN hs
      go_upto_region 10 with (first|fail)
      refine wr_ 25 [fun v _=>v=.int .i64 (i:Nat),fun v _=>v=pt rb 0,fun v _=>v=pt rb 0,fun v _=>v=pt rb 1,fun v _=>v=.slice (some ⟨bs,os,none⟩) L.length csl,fun v _=>v=.int .i64 ((L.length:Nat):Int),fun v _=>v=.bool true,fun v _=>v=.bool true,fun v _=>v=pt b8 1,fun v _=>v=setV x.set,fun v _=>v=pt rb 0,fun v _=>v=pt rb 0,fun v _=>v=pt rb 1,fun v _=>v=.slice (some ⟨bs,os,none⟩) L.length csl,fun v _=>v=.int .i64 (i:Nat),fun v _=>v=.pointer (some ⟨bs,os+i,none⟩),fun v _=>v=.int .u8 (byt L i),fun v _=>v=.bool true,fun v _=>v=.bool true,fun v _=>v=.bool true,fun v _=>v=pt rb 0,fun v _=>v=pt b8 5,fun v _=>v=.int .i64 x.next,fun v _=>v=.int .i64 (i:Nat),fun v _=>v=.int .i64 ((i:Int)+1)] ?ob ?en
      case ob =>
       refine⟨?_,?_,?_,?_,?_,?_,?_,?_,?_,?_,?_,?_,?_,?_,?_,?_,?_,?_,?_,?_,?_,?_,?_,?_,?_,trivial⟩<;>intro A W h
       ·exact zAB rfl rfl (h.f 2)
       ·exact zAB rfl rfl (h.f 0)
       ·(have e47:A.eval (.tmp 47)=.pointer (some ⟨rb,0,none⟩):=h.d 1 47;refine zAA rfl ?_;simp only[execOp,e47];(simp[go_sem]<;>first|done|omega|(rw[IntKind.wrap_i64];omega)|(rw[IntKind.wrap_u8];omega)|(rw[IntKind.wrap_u64];omega)))
       ·(have e48:A.eval (.tmp 48)=.pointer (some ⟨rb,0,none⟩):=h.d 2 48;refine zAA rfl ?_;simp only[execOp,e48];(simp[go_sem]<;>first|done|omega|(rw[IntKind.wrap_i64];omega)|(rw[IntKind.wrap_u8];omega)|(rw[IntKind.wrap_u64];omega)))
       ·exact zAA rfl (zAC rfl (h.d 3 49) zBI ((H.call h.below).cell (i:=0) .zero 1)) (by decide)
       ·exact zBb Tryz.underlying23 rfl rfl (h.d 4 50)
       ·(have e46:A.eval (.tmp 46)=.int .i64 (i:Nat):=h.d 0 46;have e51:A.eval (.tmp 51)=.int .i64 ((L.length:Nat):Int):=h.d 5 51;refine zAA rfl ?_;simp only[execOp,e46,e51];(simp[go_sem]<;>first|done|omega|(rw[IntKind.wrap_i64];omega)|(rw[IntKind.wrap_u8];omega)|(rw[IntKind.wrap_u64];omega)))
       ·exact zAB rfl rfl (h.d 6 52)
       ·(have e8:A.eval (.tmp 8)=.pointer (some ⟨b8,0,none⟩):=h.f 8;refine zAA (wg (h.d 7 53)) ?_;simp only[execOp,e8];(simp[go_sem]<;>first|done|omega|(rw[IntKind.wrap_i64];omega)|(rw[IntKind.wrap_u8];omega)|(rw[IntKind.wrap_u64];omega)))
       ·exact zAA (wg (h.d 7 53)) (zAb rfl (h.d 8 54) zBY rfl (fun j hj=>by have h1:=(H.call h.below).cell (i:=6) i_6 (1+j);rcases j with _|_|_|_|j<;>first|exact h1|omega)) (by decide)
       ·exact zAB (wg (h.d 7 53)) rfl (h.f 0)
       ·(have e56:A.eval (.tmp 56)=.pointer (some ⟨rb,0,none⟩):=h.d 10 56;refine zAA (wg (h.d 7 53)) ?_;simp only[execOp,e56];(simp[go_sem]<;>first|done|omega|(rw[IntKind.wrap_i64];omega)|(rw[IntKind.wrap_u8];omega)|(rw[IntKind.wrap_u64];omega)))
       ·(have e57:A.eval (.tmp 57)=.pointer (some ⟨rb,0,none⟩):=h.d 11 57;refine zAA (wg (h.d 7 53)) ?_;simp only[execOp,e57];(simp[go_sem]<;>first|done|omega|(rw[IntKind.wrap_i64];omega)|(rw[IntKind.wrap_u8];omega)|(rw[IntKind.wrap_u64];omega)))
       ·exact zAA (wg (h.d 7 53)) (zAC rfl (h.d 12 58) zBI ((H.call h.below).cell (i:=0) .zero 1)) (by decide)
       ·exact zAB (wg (h.d 7 53)) rfl (h.f 2)
       ·exact zAo (sz:=1) Tryz.underlying23 (fun w=>by kernel_rfl) (wg (h.d 7 53)) rfl (h.d 13 59) (h.d 14 60) (by omega) (by omega)
       ·exact zAA (wg (h.d 7 53)) (zAC rfl (h.d 15 61) zB0 (((H.call h.below).kn (i:=4) i_4).cell hiL)) (by decide)
       ·exact zAm (wg (h.d 7 53)) rfl (enters_of Tryz.func78 (by kernel_rfl) rfl) (zBz ⟨(h.d 9 55),(h.d 16 62)⟩) (hha W)
       ·exact zA8 rfl rfl (h.d 7 53) (h.d 17 63)
       ·exact zAB rfl rfl (h.d 18 64)
       ·exact zAB (wg (h.d 19 65)) rfl (h.f 0)
       ·(have e8:A.eval (.tmp 8)=.pointer (some ⟨b8,0,none⟩):=h.f 8;refine zAA (wg (h.d 19 65)) ?_;simp only[execOp,e8];(simp[go_sem]<;>first|done|omega|(rw[IntKind.wrap_i64];omega)|(rw[IntKind.wrap_u8];omega)|(rw[IntKind.wrap_u64];omega)))
       ·exact zAA (wg (h.d 19 65)) (zAC rfl (h.d 21 67) zAH (((H.call h.below).cell (i:=6) i_6 5).trans rfl)) (by decide)
       ·exact zAB (wg (h.d 19 65)) rfl (h.f 2)
       ·(have e69:A.eval (.tmp 69)=.int .i64 (i:Nat):=h.d 23 69;refine zAA (wg (h.d 19 65)) ?_;simp only[execOp,e69];(simp[go_sem]<;>first|done|omega|(rw[IntKind.wrap_i64];omega)|(rw[IntKind.wrap_u8];omega)|(rw[IntKind.wrap_u64];omega)))
      case en =>
       intro vals W hbw hv _;simp only[fa,Nat.reduceAdd];rw[e_ hv 0,e_ hv 1,e_ hv 2,e_ hv 3,e_ hv 4,e_ hv 5,e_ hv 6,e_ hv 7,e_ hv 8,e_ hv 9,e_ hv 10,e_ hv 11,e_ hv 12,e_ hv 13,e_ hv 14,e_ hv 15,e_ hv 16,e_ hv 17,e_ hv 18,e_ hv 19,e_ hv 20,e_ hv 21,e_ hv 22,e_ hv 23,e_ hv 24];clear hv
       try simp only[pl]
       have H:=H.call hbw
       go_wp2_with (first|fail|(go_at_call 40;(with_reducible refine chW H (fun h=>hN1 _ h) ?_);clear H;intro b sn2 sl2 w hT1 H))
       go_ret;rw[← hrF,← hrS]at H;exact zC4 H (q:=5) i_5 (by decide) rfl rfl (WayT.one hM hk5 hsuc hT1)
     | false =>
      rw[hs]at hha;have hT:=WayT.none (p:=ps) (sl:=sl) hM hk5 (zLh hx k1 (fun h=>by rw[hs]at h;exact absurd h.2 (by decide)))
      clear IH hri hx k5 k1 hN hs
      go_upto_region 10 with (first|fail)
      refine wr_ 28 [fun v _=>v=.int .i64 (i:Nat),fun v _=>v=pt rb 0,fun v _=>v=pt rb 0,fun v _=>v=pt rb 1,fun v _=>v=.slice (some ⟨bs,os,none⟩) L.length csl,fun v _=>v=.int .i64 ((L.length:Nat):Int),fun v _=>v=.bool true,fun v _=>v=.bool true,fun v _=>v=pt b8 1,fun v _=>v=setV x.set,fun v _=>v=pt rb 0,fun v _=>v=pt rb 0,fun v _=>v=pt rb 1,fun v _=>v=.slice (some ⟨bs,os,none⟩) L.length csl,fun v _=>v=.int .i64 (i:Nat),fun v _=>v=.pointer (some ⟨bs,os+i,none⟩),fun v _=>v=.int .u8 (byt L i),fun v _=>v=.bool false,fun v _=>v=.bool false,fun v _=>v=.bool false,fun v _=>v=undef,fun v _=>v=undef,fun v _=>v=undef,fun v _=>v=undef,fun v _=>v=undef,fun v _=>v=undef,fun v _=>v=Value.bool false,fun v _=>v=Value.bool false] ?ob ?en
      case ob =>
       refine⟨?_,?_,?_,?_,?_,?_,?_,?_,?_,?_,?_,?_,?_,?_,?_,?_,?_,?_,?_,?_,?_,?_,?_,?_,?_,?_,?_,?_,trivial⟩<;>intro A W h
       ·exact zAB rfl rfl (h.f 2)
       ·exact zAB rfl rfl (h.f 0)
       ·(have e47:A.eval (.tmp 47)=.pointer (some ⟨rb,0,none⟩):=h.d 1 47;refine zAA rfl ?_;simp only[execOp,e47];(simp[go_sem]<;>first|done|omega|(rw[IntKind.wrap_i64];omega)|(rw[IntKind.wrap_u8];omega)|(rw[IntKind.wrap_u64];omega)))
       ·(have e48:A.eval (.tmp 48)=.pointer (some ⟨rb,0,none⟩):=h.d 2 48;refine zAA rfl ?_;simp only[execOp,e48];(simp[go_sem]<;>first|done|omega|(rw[IntKind.wrap_i64];omega)|(rw[IntKind.wrap_u8];omega)|(rw[IntKind.wrap_u64];omega)))
       ·exact zAA rfl (zAC rfl (h.d 3 49) zBI ((H.call h.below).cell (i:=0) .zero 1)) (by decide)
       ·exact zBb Tryz.underlying23 rfl rfl (h.d 4 50)
       ·(have e46:A.eval (.tmp 46)=.int .i64 (i:Nat):=h.d 0 46;have e51:A.eval (.tmp 51)=.int .i64 ((L.length:Nat):Int):=h.d 5 51;refine zAA rfl ?_;simp only[execOp,e46,e51];(simp[go_sem]<;>first|done|omega|(rw[IntKind.wrap_i64];omega)|(rw[IntKind.wrap_u8];omega)|(rw[IntKind.wrap_u64];omega)))
       ·exact zAB rfl rfl (h.d 6 52)
       ·(have e8:A.eval (.tmp 8)=.pointer (some ⟨b8,0,none⟩):=h.f 8;refine zAA (wg (h.d 7 53)) ?_;simp only[execOp,e8];(simp[go_sem]<;>first|done|omega|(rw[IntKind.wrap_i64];omega)|(rw[IntKind.wrap_u8];omega)|(rw[IntKind.wrap_u64];omega)))
       ·exact zAA (wg (h.d 7 53)) (zAb rfl (h.d 8 54) zBY rfl (fun j hj=>by have h1:=(H.call h.below).cell (i:=6) i_6 (1+j);rcases j with _|_|_|_|j<;>first|exact h1|omega)) (by decide)
       ·exact zAB (wg (h.d 7 53)) rfl (h.f 0)
       ·(have e56:A.eval (.tmp 56)=.pointer (some ⟨rb,0,none⟩):=h.d 10 56;refine zAA (wg (h.d 7 53)) ?_;simp only[execOp,e56];(simp[go_sem]<;>first|done|omega|(rw[IntKind.wrap_i64];omega)|(rw[IntKind.wrap_u8];omega)|(rw[IntKind.wrap_u64];omega)))
       ·(have e57:A.eval (.tmp 57)=.pointer (some ⟨rb,0,none⟩):=h.d 11 57;refine zAA (wg (h.d 7 53)) ?_;simp only[execOp,e57];(simp[go_sem]<;>first|done|omega|(rw[IntKind.wrap_i64];omega)|(rw[IntKind.wrap_u8];omega)|(rw[IntKind.wrap_u64];omega)))
       ·exact zAA (wg (h.d 7 53)) (zAC rfl (h.d 12 58) zBI ((H.call h.below).cell (i:=0) .zero 1)) (by decide)
       ·exact zAB (wg (h.d 7 53)) rfl (h.f 2)
       ·exact zAo (sz:=1) Tryz.underlying23 (fun w=>by kernel_rfl) (wg (h.d 7 53)) rfl (h.d 13 59) (h.d 14 60) (by omega) (by omega)
       ·exact zAA (wg (h.d 7 53)) (zAC rfl (h.d 15 61) zB0 (((H.call h.below).kn (i:=4) i_4).cell hiL)) (by decide)
       ·exact zAm (wg (h.d 7 53)) rfl (enters_of Tryz.func78 (by kernel_rfl) rfl) (zBz ⟨(h.d 9 55),(h.d 16 62)⟩) (hha W)
       ·exact zA8 rfl rfl (h.d 7 53) (h.d 17 63)
       ·exact zAB rfl rfl (h.d 18 64)
       ·exact rsk (h.d 19 65)
       ·exact rsk (h.d 19 65)
       ·exact rsk (h.d 19 65)
       ·exact rsk (h.d 19 65)
       ·exact rsk (h.d 19 65)
       ·exact rsk (h.d 19 65)
       ·exact zA8 rfl rfl (h.d 19 65) (rfl)
       ·exact zCB rfl rfl (h.d 26 72)
      case en =>
       intro vals W hbw hv _;simp only[fa,Nat.reduceAdd];rw[e_ hv 0,e_ hv 1,e_ hv 2,e_ hv 3,e_ hv 4,e_ hv 5,e_ hv 6,e_ hv 7,e_ hv 8,e_ hv 9,e_ hv 10,e_ hv 11,e_ hv 12,e_ hv 13,e_ hv 14,e_ hv 15,e_ hv 16,e_ hv 17,e_ hv 18,e_ hv 19,e_ hv 20,e_ hv 21,e_ hv 22,e_ hv 23,e_ hv 24,e_ hv 25,e_ hv 26,e_ hv 27];clear hv
       try simp only[pl]
       have H:=H.call hbw
       go_wp2_with fail
       go_ret;rw[← hrF,← hrS]at H;exact zC4 H (q:=5) i_5 (by decide) rfl rfl (hT)
    ·have hT:=WayT.none (p:=ps) (sl:=sl) hM hk5 (zLh hx k1 (fun h=>hiL h.1))
     have hiE:i=L.length:=by omega
     have hiE:=Lib.hid hiE;clear IH hri hx k5 k1 hN
     go_upto_region 10 with (first|fail)
     refine wr_ 28 [fun v _=>v=.int .i64 (i:Nat),fun v _=>v=pt rb 0,fun v _=>v=pt rb 0,fun v _=>v=pt rb 1,fun v _=>v=.slice psl L.length csl,fun v _=>v=.int .i64 ((L.length:Nat):Int),fun v _=>v=.bool false,fun v _=>v=.bool false,fun v _=>v=undef,fun v _=>v=undef,fun v _=>v=undef,fun v _=>v=undef,fun v _=>v=undef,fun v _=>v=undef,fun v _=>v=undef,fun v _=>v=undef,fun v _=>v=undef,fun v _=>v=undef,fun v _=>v=Value.bool false,fun v _=>v=Value.bool false,fun v _=>v=undef,fun v _=>v=undef,fun v _=>v=undef,fun v _=>v=undef,fun v _=>v=undef,fun v _=>v=undef,fun v _=>v=Value.bool false,fun v _=>v=Value.bool false] ?ob ?en
     case ob =>
      refine⟨?_,?_,?_,?_,?_,?_,?_,?_,?_,?_,?_,?_,?_,?_,?_,?_,?_,?_,?_,?_,?_,?_,?_,?_,?_,?_,?_,?_,trivial⟩<;>intro A W h
      ·exact zAB rfl rfl (h.f 2)
      ·exact zAB rfl rfl (h.f 0)
      ·(have e47:A.eval (.tmp 47)=.pointer (some ⟨rb,0,none⟩):=h.d 1 47;refine zAA rfl ?_;simp only[execOp,e47];(simp[go_sem]<;>first|done|omega|(rw[IntKind.wrap_i64];omega)|(rw[IntKind.wrap_u8];omega)|(rw[IntKind.wrap_u64];omega)))
      ·(have e48:A.eval (.tmp 48)=.pointer (some ⟨rb,0,none⟩):=h.d 2 48;refine zAA rfl ?_;simp only[execOp,e48];(simp[go_sem]<;>first|done|omega|(rw[IntKind.wrap_i64];omega)|(rw[IntKind.wrap_u8];omega)|(rw[IntKind.wrap_u64];omega)))
      ·exact zAA rfl (zAC rfl (h.d 3 49) zBI ((H.call h.below).cell (i:=0) .zero 1)) (by decide)
      ·exact zBb Tryz.underlying23 rfl rfl (h.d 4 50)
      ·(have e46:A.eval (.tmp 46)=.int .i64 (i:Nat):=h.d 0 46;have e51:A.eval (.tmp 51)=.int .i64 ((L.length:Nat):Int):=h.d 5 51;refine zAA rfl ?_;simp only[execOp,e46,e51];(simp[go_sem]<;>first|done|omega|(rw[IntKind.wrap_i64];omega)|(rw[IntKind.wrap_u8];omega)|(rw[IntKind.wrap_u64];omega)))
      ·exact zAB rfl rfl (h.d 6 52)
      ·exact rsk (h.d 7 53)
      ·exact rsk (h.d 7 53)
      ·exact rsk (h.d 7 53)
      ·exact rsk (h.d 7 53)
      ·exact rsk (h.d 7 53)
      ·exact rsk (h.d 7 53)
      ·exact rsk (h.d 7 53)
      ·exact rsk (h.d 7 53)
      ·exact rsk (h.d 7 53)
      ·exact rsk (h.d 7 53)
      ·exact zA8 rfl rfl (h.d 7 53) (rfl)
      ·exact zAB rfl rfl (h.d 18 64)
      ·exact rsk (h.d 19 65)
      ·exact rsk (h.d 19 65)
      ·exact rsk (h.d 19 65)
      ·exact rsk (h.d 19 65)
      ·exact rsk (h.d 19 65)
      ·exact rsk (h.d 19 65)
      ·exact zA8 rfl rfl (h.d 19 65) (rfl)
      ·exact zCB rfl rfl (h.d 26 72)
     case en =>
      intro vals W hbw hv _;simp only[fa,Nat.reduceAdd];rw[e_ hv 0,e_ hv 1,e_ hv 2,e_ hv 3,e_ hv 4,e_ hv 5,e_ hv 6,e_ hv 7,e_ hv 8,e_ hv 9,e_ hv 10,e_ hv 11,e_ hv 12,e_ hv 13,e_ hv 14,e_ hv 15,e_ hv 16,e_ hv 17,e_ hv 18,e_ hv 19,e_ hv 20,e_ hv 21,e_ hv 22,e_ hv 23,e_ hv 24,e_ hv 25,e_ hv 26,e_ hv 27];clear hv
      try simp only[pl]
      have H:=H.call hbw
      go_wp2_with fail
      go_ret;rw[← hrF,← hrS]at H;exact zC4 H (q:=5) i_5 (by decide) rfl rfl (hT)
   have d1:(x.kind == 1)=false:=by rw[beq_eq_false_iff_ne];exact k1
   by_cases k2:x.kind=2
   ·have d2:(x.kind == 2)=true:=by rw[beq_iff_eq];exact k2
    have hnx:=zDG hri (.inr (.inl k2));have hno:=zG7 hri k2;have hN:∀ i2 sn2 sl2 w,i2≤L.length→unF sn2<m→sn2.length=K→sl2.length=ms→HoldG M w0 w (runL rb (some ⟨bp,op,none⟩) cp ps psl csl L Fp Fs gs cs K gt ct ms sn2 sl2)→Calls Tryz.prog 40 #[.pointer (some ⟨rb,0,none⟩),.int .i64 x.next,.int .i64 (i2:Nat)] w (WayB rb (some ⟨bp,op,none⟩) cp ps psl csl L Fp Fs gs cs K gt ct ms M w0 x.next.toNat i2 sn2 sl2 w):=fun i2 sn2 sl2 w h1 h2 h3 h4 h=>by
     have e:((x.next.toNat:Nat):Int)=x.next:=Int.toNat_of_nonneg hnx.1;have:=IH x.next.toNat i2 sn2 sl2 M w0 w h2 (by omega) h1 h3 h4 h
     rwa [e]at this
    have hO:∀ i2 sn2 sl2 w,i2≤L.length→unF sn2<m→sn2.length=K→sl2.length=ms→HoldG M w0 w (runL rb (some ⟨bp,op,none⟩) cp ps psl csl L Fp Fs gs cs K gt ct ms sn2 sl2)→Calls Tryz.prog 40 #[.pointer (some ⟨rb,0,none⟩),.int .i64 x.other,.int .i64 (i2:Nat)] w (WayB rb (some ⟨bp,op,none⟩) cp ps psl csl L Fp Fs gs cs K gt ct ms M w0 x.other.toNat i2 sn2 sl2 w):=fun i2 sn2 sl2 w h1 h2 h3 h4 h=>by
     have e:((x.other.toNat:Nat):Int)=x.other:=Int.toNat_of_nonneg hno.1;have:=IH x.other.toNat i2 sn2 sl2 M w0 w h2 (by omega) h1 h3 h4 h
     rwa [e]at this
    have hsuc:=zN0 (p:=ps) (s:=L) (k:=k) (i:=i) (sl:=sl) hx k2;have hN1:=fun w h=>hN i sn1 sl w hi hun1 hlen1 hsl h
    clear IH hri hx k5 k1 k2 hN
    go_wp2_with (first|((with_reducible refine gL ?_);refine aGi H ?_)|(go_at_call 40;(with_reducible refine chW H (fun h=>hN1 _ h) ?_);clear H;intro b sn2 sl2 w hT1 H;rcases b with _|_;(obtain⟨e2,_⟩:=hT1.miss rfl;cases e2;(have hO2:=fun w h=>hO i sn2 sl w hi (by have:=hT1.un;omega) (hT1.len.trans hlen1) hsl h)))|(go_at_call 40;(with_reducible refine chW H (fun h=>hO2 _ h) ?_);clear H;intro b2 sn3 sl3 w hT2 H))
    ·go_ret;rw[← hrF,← hrS]at H;exact zC4 H (q:=5) i_5 (by decide) rfl rfl (WayT.second hM hk5 hsuc hT1 hT2)
    ·go_ret;rw[← hrF,← hrS]at H;exact zC4 H (q:=5) i_5 (by decide) rfl rfl (WayT.first hM hk5 hsuc hT1)
   have d2:(x.kind == 2)=false:=by rw[beq_eq_false_iff_ne];exact k2
   by_cases k4:x.kind=4
   ·have d4:(x.kind == 4)=true:=by rw[beq_iff_eq];exact k4
    have hnx:=zDG hri (.inr (.inr (.inr k4)));have hN:∀ i2 sn2 sl2 w,i2≤L.length→unF sn2<m→sn2.length=K→sl2.length=ms→HoldG M w0 w (runL rb (some ⟨bp,op,none⟩) cp ps psl csl L Fp Fs gs cs K gt ct ms sn2 sl2)→Calls Tryz.prog 40 #[.pointer (some ⟨rb,0,none⟩),.int .i64 x.next,.int .i64 (i2:Nat)] w (WayB rb (some ⟨bp,op,none⟩) cp ps psl csl L Fp Fs gs cs K gt ct ms M w0 x.next.toNat i2 sn2 sl2 w):=fun i2 sn2 sl2 w h1 h2 h3 h4 h=>by
     have e:((x.next.toNat:Nat):Int)=x.next:=Int.toNat_of_nonneg hnx.1;have:=IH x.next.toNat i2 sn2 sl2 M w0 w h2 (by omega) h1 h3 h4 h
     rwa [e]at this
    have hsp:=fun w h1 h2=>zL1 psl csl L Fs w h1 h2 x.spot i
    cases hs:zCS x.spot L i with
    | true =>
     rw[hs]at hsp;have hsuc:=zPt (p:=ps) (s:=L) (k:=k) (i:=i) (sl:=sl) hx k4 hs;have hN1:=fun w h=>hN i sn1 sl w hi hun1 hlen1 hsl h
     clear IH hri hx k5 k1 k2 k4 hN hs
     go_upto_region 14 with (first|fail)
     refine wr_ 13 [fun v _=>v=pt b8 8,fun v _=>v=.int .i64 x.spot,fun v _=>v=pt rb 0,fun v _=>v=pt rb 0,fun v _=>v=pt rb 1,fun v _=>v=.slice psl L.length csl,fun v _=>v=.int .i64 (i:Nat),fun v _=>v=.bool true,fun v _=>v=.bool true,fun v _=>v=pt rb 0,fun v _=>v=pt b8 5,fun v _=>v=.int .i64 x.next,fun v _=>v=.int .i64 (i:Nat)] ?ob ?en
     case ob =>
      refine⟨?_,?_,?_,?_,?_,?_,?_,?_,?_,?_,?_,?_,?_,trivial⟩<;>intro A W h
      ·(have e8:A.eval (.tmp 8)=.pointer (some ⟨b8,0,none⟩):=h.f 8;refine zAA rfl ?_;simp only[execOp,e8];(simp[go_sem]<;>first|done|omega|(rw[IntKind.wrap_i64];omega)|(rw[IntKind.wrap_u8];omega)|(rw[IntKind.wrap_u64];omega)))
      ·exact zAA rfl (zAC rfl (h.d 0 89) zAd (((H.call h.below).cell (i:=6) i_6 8).trans rfl)) (by decide)
      ·exact zAB rfl rfl (h.f 0)
      ·(have e91:A.eval (.tmp 91)=.pointer (some ⟨rb,0,none⟩):=h.d 2 91;refine zAA rfl ?_;simp only[execOp,e91];(simp[go_sem]<;>first|done|omega|(rw[IntKind.wrap_i64];omega)|(rw[IntKind.wrap_u8];omega)|(rw[IntKind.wrap_u64];omega)))
      ·(have e92:A.eval (.tmp 92)=.pointer (some ⟨rb,0,none⟩):=h.d 3 92;refine zAA rfl ?_;simp only[execOp,e92];(simp[go_sem]<;>first|done|omega|(rw[IntKind.wrap_i64];omega)|(rw[IntKind.wrap_u8];omega)|(rw[IntKind.wrap_u64];omega)))
      ·exact zAA rfl (zAC rfl (h.d 4 93) zBI ((H.call h.below).cell (i:=0) .zero 1)) (by decide)
      ·exact zAB rfl rfl (h.f 2)
      ·exact zAm rfl rfl (enters_of Tryz.func79 (by kernel_rfl) rfl) (zJi ⟨(h.d 1 90),(h.d 5 94),(h.d 6 95)⟩) (hsp W ((H.call h.below).knlt (i:=4) i_4) ((H.call h.below).kn (i:=4) i_4))
      ·exact zAB rfl rfl (h.d 7 96)
      ·exact zAB (wg (h.d 8 97)) rfl (h.f 0)
      ·(have e8:A.eval (.tmp 8)=.pointer (some ⟨b8,0,none⟩):=h.f 8;refine zAA (wg (h.d 8 97)) ?_;simp only[execOp,e8];(simp[go_sem]<;>first|done|omega|(rw[IntKind.wrap_i64];omega)|(rw[IntKind.wrap_u8];omega)|(rw[IntKind.wrap_u64];omega)))
      ·exact zAA (wg (h.d 8 97)) (zAC rfl (h.d 10 99) zAH (((H.call h.below).cell (i:=6) i_6 5).trans rfl)) (by decide)
      ·exact zAB (wg (h.d 8 97)) rfl (h.f 2)
     case en =>
      intro vals W hbw hv _;simp only[fa,Nat.reduceAdd];rw[e_ hv 0,e_ hv 1,e_ hv 2,e_ hv 3,e_ hv 4,e_ hv 5,e_ hv 6,e_ hv 7,e_ hv 8,e_ hv 9,e_ hv 10,e_ hv 11,e_ hv 12];clear hv
      try simp only[pl]
      have H:=H.call hbw
      go_wp2_with (first|fail|(go_at_call 40;(with_reducible refine chW H (fun h=>hN1 _ h) ?_);clear H;intro b sn2 sl2 w hT1 H))
      go_ret;rw[← hrF,← hrS]at H;exact zC4 H (q:=5) i_5 (by decide) rfl rfl (WayT.one hM hk5 hsuc hT1)
    | false =>
     rw[hs]at hsp;have hT:=WayT.none (p:=ps) (sl:=sl) hM hk5 (zMn hx k4 hs);clear IH hri hx k5 k1 k2 k4 hN hs
     go_upto_region 14 with (first|fail)
     refine wr_ 16 [fun v _=>v=pt b8 8,fun v _=>v=.int .i64 x.spot,fun v _=>v=pt rb 0,fun v _=>v=pt rb 0,fun v _=>v=pt rb 1,fun v _=>v=.slice psl L.length csl,fun v _=>v=.int .i64 (i:Nat),fun v _=>v=.bool false,fun v _=>v=.bool false,fun v _=>v=undef,fun v _=>v=undef,fun v _=>v=undef,fun v _=>v=undef,fun v _=>v=undef,fun v _=>v=Value.bool false,fun v _=>v=Value.bool false] ?ob ?en
     case ob =>
      refine⟨?_,?_,?_,?_,?_,?_,?_,?_,?_,?_,?_,?_,?_,?_,?_,?_,trivial⟩<;>intro A W h
      ·(have e8:A.eval (.tmp 8)=.pointer (some ⟨b8,0,none⟩):=h.f 8;refine zAA rfl ?_;simp only[execOp,e8];(simp[go_sem]<;>first|done|omega|(rw[IntKind.wrap_i64];omega)|(rw[IntKind.wrap_u8];omega)|(rw[IntKind.wrap_u64];omega)))
      ·exact zAA rfl (zAC rfl (h.d 0 89) zAd (((H.call h.below).cell (i:=6) i_6 8).trans rfl)) (by decide)
      ·exact zAB rfl rfl (h.f 0)
      ·(have e91:A.eval (.tmp 91)=.pointer (some ⟨rb,0,none⟩):=h.d 2 91;refine zAA rfl ?_;simp only[execOp,e91];(simp[go_sem]<;>first|done|omega|(rw[IntKind.wrap_i64];omega)|(rw[IntKind.wrap_u8];omega)|(rw[IntKind.wrap_u64];omega)))
      ·(have e92:A.eval (.tmp 92)=.pointer (some ⟨rb,0,none⟩):=h.d 3 92;refine zAA rfl ?_;simp only[execOp,e92];(simp[go_sem]<;>first|done|omega|(rw[IntKind.wrap_i64];omega)|(rw[IntKind.wrap_u8];omega)|(rw[IntKind.wrap_u64];omega)))
      ·exact zAA rfl (zAC rfl (h.d 4 93) zBI ((H.call h.below).cell (i:=0) .zero 1)) (by decide)
      ·exact zAB rfl rfl (h.f 2)
      ·exact zAm rfl rfl (enters_of Tryz.func79 (by kernel_rfl) rfl) (zJi ⟨(h.d 1 90),(h.d 5 94),(h.d 6 95)⟩) (hsp W ((H.call h.below).knlt (i:=4) i_4) ((H.call h.below).kn (i:=4) i_4))
      ·exact zAB rfl rfl (h.d 7 96)
      ·exact rsk (h.d 8 97)
      ·exact rsk (h.d 8 97)
      ·exact rsk (h.d 8 97)
      ·exact rsk (h.d 8 97)
      ·exact rsk (h.d 8 97)
      ·exact zA8 rfl rfl (h.d 8 97) (rfl)
      ·exact zCB rfl rfl (h.d 14 103)
     case en =>
      intro vals W hbw hv _;simp only[fa,Nat.reduceAdd];rw[e_ hv 0,e_ hv 1,e_ hv 2,e_ hv 3,e_ hv 4,e_ hv 5,e_ hv 6,e_ hv 7,e_ hv 8,e_ hv 9,e_ hv 10,e_ hv 11,e_ hv 12,e_ hv 13,e_ hv 14,e_ hv 15];clear hv
      try simp only[pl]
      have H:=H.call hbw
      go_wp2_with fail
      go_ret;rw[← hrF,← hrS]at H;exact zC4 H (q:=5) i_5 (by decide) rfl rfl (hT)
   have d4:(x.kind == 4)=false:=by rw[beq_eq_false_iff_ne];exact k4
   by_cases k3:x.kind=3
   ·have d3:(x.kind == 3)=true:=by rw[beq_iff_eq];exact k3
    have hnx:=zDG hri (.inr (.inr (.inl k3)));have hsr:=zH8 hri k3;have hN:∀ i2 sn2 sl2 w,i2≤L.length→unF sn2<m→sn2.length=K→sl2.length=ms→HoldG M w0 w (runL rb (some ⟨bp,op,none⟩) cp ps psl csl L Fp Fs gs cs K gt ct ms sn2 sl2)→Calls Tryz.prog 40 #[.pointer (some ⟨rb,0,none⟩),.int .i64 x.next,.int .i64 (i2:Nat)] w (WayB rb (some ⟨bp,op,none⟩) cp ps psl csl L Fp Fs gs cs K gt ct ms M w0 x.next.toNat i2 sn2 sl2 w):=fun i2 sn2 sl2 w h1 h2 h3 h4 h=>by
     have e:((x.next.toNat:Nat):Int)=x.next:=Int.toNat_of_nonneg hnx.1;have:=IH x.next.toNat i2 sn2 sl2 M w0 w h2 (by omega) h1 h3 h4 h
     rwa [e]at this
    obtain⟨sj,hsj⟩:∃ sj:Nat,x.slot=sj:=⟨x.slot.toNat,by omega⟩
    have hsjt:x.slot.toNat=sj:=by omega
    have hsjm:sj<ms:=by rw[hms,← hsjt];exact zM3 hx
    have hsj:=Lib.hid hsj;have hsuc:=zP2 (p:=ps) (s:=L) (k:=k) (i:=i) (sl:=sl) hx k3;rw[hsjt]at hsuc;obtain⟨vw,hvw⟩:∃ v,sl[sj]?=some v:=⟨_,List.getElem?_eq_getElem (by omega)⟩
    have hvm:(sl.map (Value.int .i64))[sj]?=some (.int .i64 vw):=by rw[List.getElem?_map,hvw];rfl
    have hlens:(sl.map (Value.int .i64)).length=ms:=by rw[List.length_map];exact hsl
    have hmap2:(sl.map (Value.int .i64)).set sj (.int .i64 i)=(sl.set sj i).map (.int .i64):=by rw[List.map_set]
    have hlens2:((sl.set sj (i:Int)).map (Value.int .i64)).length=ms:=by rw[List.length_map,List.length_set];exact hsl
    have hback:((sl.set sj (i:Int)).map (Value.int .i64)).set sj (.int .i64 vw)=sl.map (.int .i64):=by
     rw[← hmap2,List.set_set];apply List.ext_getElem?;intro q;rw[List.getElem?_set];split
     ·rename_i e;subst e;rw[hvm];simp;omega
     ·rfl
    have hN1:=fun w h=>hN i sn1 (sl.set sj (i:Int)) w hi hun1 hlen1 (by rw[List.length_set];exact hsl) h
    clear IH hri hx k5 k1 k2 k4 k3 hN hsr hsjt
    go_upto_region 16 with (first|fail)
    refine wr_ 9 [fun v _=>v=pt rb 0,fun v _=>v=pt rb 0,fun v _=>v=pt rb 3,fun v _=>v=.slice (some ⟨gt,0,none⟩) ms ct,fun v _=>v=pt b8 7,fun v _=>v=.int .i64 (sj:Nat),fun v _=>v=.pointer (some ⟨gt,sj,none⟩),fun v _=>v=.int .i64 vw,fun v _=>v=.int .i64 vw] ?ob ?en
    case ob =>
     refine⟨?_,?_,?_,?_,?_,?_,?_,?_,?_,trivial⟩<;>intro A W h
     ·exact zAB rfl rfl (h.f 0)
     ·(have e106:A.eval (.tmp 106)=.pointer (some ⟨rb,0,none⟩):=h.d 0 106;refine zAA rfl ?_;simp only[execOp,e106];(simp[go_sem]<;>first|done|omega|(rw[IntKind.wrap_i64];omega)|(rw[IntKind.wrap_u8];omega)|(rw[IntKind.wrap_u64];omega)))
     ·(have e107:A.eval (.tmp 107)=.pointer (some ⟨rb,0,none⟩):=h.d 1 107;refine zAA rfl ?_;simp only[execOp,e107];(simp[go_sem]<;>first|done|omega|(rw[IntKind.wrap_i64];omega)|(rw[IntKind.wrap_u8];omega)|(rw[IntKind.wrap_u64];omega)))
     ·exact zAA rfl (zAC rfl (h.d 2 108) zBc ((H.call h.below).cell (i:=0) .zero 3)) (by decide)
     ·(have e8:A.eval (.tmp 8)=.pointer (some ⟨b8,0,none⟩):=h.f 8;refine zAA rfl ?_;simp only[execOp,e8];(simp[go_sem]<;>first|done|omega|(rw[IntKind.wrap_i64];omega)|(rw[IntKind.wrap_u8];omega)|(rw[IntKind.wrap_u64];omega)))
     ·exact zAA rfl (zAC rfl (h.d 4 110) zAH (((H.call h.below).cell (i:=6) i_6 7).trans ((ig7 x).trans (by rw[hsj.out])))) (by decide)
     ·exact zAo (sz:=1) Tryz.underlying27 (fun w=>by kernel_rfl) rfl rfl (h.d 3 109) (h.d 5 111) (by omega) (by omega)
     ·exact zAA rfl (zAC rfl (h.d 6 112) zAH ((H.call h.below).row1 (i:=2) i_2 hvm)) (by decide)
     ·exact zCB rfl rfl (h.d 7 113)
    case en =>
     intro vals W hbw hv _;simp only[fa,Nat.reduceAdd];rw[e_ hv 0,e_ hv 1,e_ hv 2,e_ hv 3,e_ hv 4,e_ hv 5,e_ hv 6,e_ hv 7,e_ hv 8];clear hv
     try simp only[pl]
     have H:=H.call hbw
     go_upto_region 17 with fail
     refine wr_ 8 [fun v _=>v=pt rb 0,fun v _=>v=pt rb 0,fun v _=>v=pt rb 3,fun v _=>v=.slice (some ⟨gt,0,none⟩) ms ct,fun v _=>v=pt b8 7,fun v _=>v=.int .i64 (sj:Nat),fun v _=>v=.int .i64 (i:Nat),fun v _=>v=.pointer (some ⟨gt,sj,none⟩)] ?ob ?en
     case ob =>
      refine⟨?_,?_,?_,?_,?_,?_,?_,?_,trivial⟩<;>intro A W h
      ·exact zAB rfl rfl (h.f 0)
      ·(have e114:A.eval (.tmp 114)=.pointer (some ⟨rb,0,none⟩):=h.d 0 114;refine zAA rfl ?_;simp only[execOp,e114];(simp[go_sem]<;>first|done|omega|(rw[IntKind.wrap_i64];omega)|(rw[IntKind.wrap_u8];omega)|(rw[IntKind.wrap_u64];omega)))
      ·(have e115:A.eval (.tmp 115)=.pointer (some ⟨rb,0,none⟩):=h.d 1 115;refine zAA rfl ?_;simp only[execOp,e115];(simp[go_sem]<;>first|done|omega|(rw[IntKind.wrap_i64];omega)|(rw[IntKind.wrap_u8];omega)|(rw[IntKind.wrap_u64];omega)))
      ·exact zAA rfl (zAC rfl (h.d 2 116) zBc ((H.call h.below).cell (i:=0) .zero 3)) (by decide)
      ·(have e8:A.eval (.tmp 8)=.pointer (some ⟨b8,0,none⟩):=h.f 8;refine zAA rfl ?_;simp only[execOp,e8];(simp[go_sem]<;>first|done|omega|(rw[IntKind.wrap_i64];omega)|(rw[IntKind.wrap_u8];omega)|(rw[IntKind.wrap_u64];omega)))
      ·exact zAA rfl (zAC rfl (h.d 4 118) zAH (((H.call h.below).cell (i:=6) i_6 7).trans ((ig7 x).trans (by rw[hsj.out])))) (by decide)
      ·exact zAB rfl rfl (h.f 2)
      ·exact zAo (sz:=1) Tryz.underlying27 (fun w=>by kernel_rfl) rfl rfl (h.d 3 117) (h.d 5 119) (by omega) (by omega)
     case en =>
      intro vals W hbw hv _;simp only[fa,Nat.reduceAdd];rw[e_ hv 0,e_ hv 1,e_ hv 2,e_ hv 3,e_ hv 4,e_ hv 5,e_ hv 6,e_ hv 7];clear hv
      try simp only[pl]
      have H:=H.call hbw
      go_upto_region 18 with (first|((with_reducible refine gT ?_);refine zDs wtd_ _ _ _ rfl rfl (v:=.int .i64 i) evd_ H (j:=2) i_2 hlens (by with_reducible exact zAI zAH) rfl hsjm ?_;clear H;intro w H;(simp only[sc]at H);(rw[hmap2]at H))|fail)
      go_upto_region 20 with (first|((with_reducible refine gL ?_);refine aGi H ?_)|(go_at_call 40;(with_reducible refine chW H (fun h=>hN1 _ h) ?_);clear H;intro b sn2 sl2 w hT1 H;rcases b with _|_;(obtain⟨e2,_⟩:=hT1.miss rfl;cases e2)))
      ·skip
       refine wr_ 8 [fun v _=>v=pt rb 0,fun v _=>v=pt rb 0,fun v _=>v=pt rb 3,fun v _=>v=.slice (some ⟨gt,0,none⟩) ms ct,fun v _=>v=pt b8 7,fun v _=>v=.int .i64 (sj:Nat),fun v _=>v=.int .i64 vw,fun v _=>v=.pointer (some ⟨gt,sj,none⟩)] ?ob ?en
       case ob =>
        refine⟨?_,?_,?_,?_,?_,?_,?_,?_,trivial⟩<;>intro A W h
        ·exact zAB rfl rfl (h.f 0)
        ·(have e127:A.eval (.tmp 127)=.pointer (some ⟨rb,0,none⟩):=h.d 0 127;refine zAA rfl ?_;simp only[execOp,e127];(simp[go_sem]<;>first|done|omega|(rw[IntKind.wrap_i64];omega)|(rw[IntKind.wrap_u8];omega)|(rw[IntKind.wrap_u64];omega)))
        ·(have e128:A.eval (.tmp 128)=.pointer (some ⟨rb,0,none⟩):=h.d 1 128;refine zAA rfl ?_;simp only[execOp,e128];(simp[go_sem]<;>first|done|omega|(rw[IntKind.wrap_i64];omega)|(rw[IntKind.wrap_u8];omega)|(rw[IntKind.wrap_u64];omega)))
        ·exact zAA rfl (zAC rfl (h.d 2 129) zBc ((H.call h.below).cell (i:=0) .zero 3)) (by decide)
        ·(have e8:A.eval (.tmp 8)=.pointer (some ⟨b8,0,none⟩):=h.f 8;refine zAA rfl ?_;simp only[execOp,e8];(simp[go_sem]<;>first|done|omega|(rw[IntKind.wrap_i64];omega)|(rw[IntKind.wrap_u8];omega)|(rw[IntKind.wrap_u64];omega)))
        ·exact zAA rfl (zAC rfl (h.d 4 131) zAH (((H.call h.below).cell (i:=6) i_6 7).trans ((ig7 x).trans (by rw[hsj.out])))) (by decide)
        ·exact zAB rfl rfl (h.f 9)
        ·exact zAo (sz:=1) Tryz.underlying27 (fun w=>by kernel_rfl) rfl rfl (h.d 3 130) (h.d 5 132) (by omega) (by omega)
       case en =>
        intro vals W hbw hv _;simp only[fa,Nat.reduceAdd];rw[e_ hv 0,e_ hv 1,e_ hv 2,e_ hv 3,e_ hv 4,e_ hv 5,e_ hv 6,e_ hv 7];clear hv
        try simp only[pl]
        have H:=H.call hbw
        go_wp2_with (first|((with_reducible refine gT ?_);refine zDs wtd_ _ _ _ rfl rfl (v:=.int .i64 vw) evd_ H (j:=2) i_2 hlens2 (by with_reducible exact zAI zAH) rfl hsjm ?_;clear H;intro w H;(simp only[sc]at H);(rw[hback]at H))|fail)
        go_ret;rw[← hrF,← hrS]at H;exact zC4 H (q:=5) i_5 (by decide) rfl rfl (WayT.unsaved hM hk5 hsuc hT1)
      ·go_ret;rw[← hrF,← hrS]at H;exact zC4 H (q:=5) i_5 (by decide) rfl rfl (WayT.saved hM hk5 hsuc hT1)
   have d3:(x.kind == 3)=false:=by rw[beq_eq_false_iff_ne];exact k3
   have hT:=WayT.none (p:=ps) (sl:=sl) hM hk5 (zPM hx k1 k2 k3 k4);clear IH hri hx
   go_wp2_with (first|fail)
   go_ret;rw[← hrF,← hrS]at H;exact zC4 H (q:=5) i_5 (by decide) rfl rfl (hT)
theorem zPu (z:Value) (n:Nat):(madeCells #[z] (n * 1)).toList=List.replicate n z:=by
 apply List.ext_getElem
 ·simp[madeCells]
 ·intro i h1 h2;simp[madeCells,Nat.mod_one]
theorem zIe {P:Program} {ops:Array Oper} {rest:List Oper} {o:Oper} {a:Act} {w w0:World} {Q:Exit→Act→World→Prop} {l:List Res} {M:Nat→Prop} (hg:o.guard=none) (x c:Operand) (t:TypeId) (hop:o.op=Op.makeSlice t x c) (H:HoldG M w0 w l) {e:TypeId} {i:TypeInfo} {z:Value} {bytes:Nat}
  (h1:P.underlying t=some (.slice e)) (h2:P.info? e=some i) (h3:i.zero=some z) (h4:i.size=1) (h5:i.bytes=bytes) (hz:z.cells=#[z]) {n:Nat} (hl:a.eval x=.int .i64 n) (hc:a.eval c=.int .i64 n) (b2:bytes * n≤281474976710656) (b3:n≤maxLen)
  (h:∀ g w',HoldG M w0 w' (l++[.row (.slice (some ⟨g,0,none⟩) n n) e 1 n (List.replicate n z)])→wpList P ops Q rest (a.put o.dst (.slice (some ⟨g,0,none⟩) n n)) w'):wpList P ops Q (o::rest) a w:=by
 refine wpList_make_full w hg x c t hop w0.heap.size e i z 1 h1 h2 h3 h4 .i64 .i64 n n n hl hc rfl rfl (by rw[h5];exact b2) b3 H.keep.size (fun w' r1 r2=>h w.heap.size w' ?_)
 rw[hz,zPu]at r1;exact H.add r2 r1 (fun b e=>by cases e;exact Nat.le_refl _)
def IntsR (F:Nat→Prop) (p:Option Addr) (c:Nat) (xs:List Int) (V:World):Prop:=RdN 1 V F (.slice p xs.length c) (xs.map fun v=>#[.int .i64 v])
theorem IntsR.kept {F:Nat→Prop} {p:Option Addr} {c:Nat} {xs:List Int} {V W:World} (h:IntsR F p c xs W) (hV:∀ b,F b→V.heap[b]?=W.heap[b]?):IntsR F p c xs V:=RdN.kept h hV
theorem HoldG.rowInts {M:Nat→Prop} {w0 w:World} {l:List Res} (H:HoldG M w0 w l) {i cap:Nat} {q:Option Addr} {xs:List Int} (hi:At l i (.row (.slice q xs.length cap) 3 1 xs.length (xs.map (.int .i64)))) :
  ∃ F:Nat→Prop,(∀ b,F b→(w0.heap.size≤b∨M b)∧b<w.heap.size)∧IntsR F q cap xs w:=by
 have ho:=H.all i _ hi.get;have e:xs.map (Value.int .i64)=zAP (xs.map fun v=>#[.int .i64 v]):=by
  rw[show (xs.map fun v=>#[Value.int .i64 v])=(xs.map (Value.int .i64)).map (fun v=>#[v]) by rw[List.map_map];rfl,zDc]
 refine⟨fun b=>(Value.slice q xs.length cap).ownBlock=some b,fun b hb=>(ho.lt b hb),?_⟩
 unfold Res.Holds at ho;rw[e]at ho;exact RdN.of_own ho (fun r hr=>by obtain⟨v,_,rfl⟩:=List.mem_map.1 hr;rfl) (by rw[List.length_map]) (fun _ _=>rfl)
def zJv (w:World) (r:Option zA2) (e:Ending) (w':World):Prop:=match r with
 | some sl=>∃ q c F,e=.returned (.tuple #[.slice q sl.length c,.bool true])∧IntsR F q c sl w'∧∀ b,F b→b<w'.heap.size∧w.heap.size≤b
 | none=>e=.returned (.tuple #[.slice none 0 0,.bool false])
theorem zN1:∀ (ps:List InstD) (a:Nat),ps.foldl (fun m x=>max m x.slot) (a:Int)=((ps.foldl (fun m x=>max m x.slot.toNat) a:Nat):Int)
 | [],_=>rfl
 | x::r,a=>by
  simp only[List.foldl_cons];rw[show max (a:Int) x.slot=((max a x.slot.toNat:Nat):Int) by omega]
  exact zN1 r _
theorem zQw {ps:List InstD} (h:∀ x ∈ ps,x.slot<42):zJP ps≤41:=by
 have:∀ (l:List InstD) (a:Nat),a≤41→(∀ x ∈ l,x.slot<42)→l.foldl (fun m x=>max m x.slot.toNat) a≤41:=by
  intro l
  induction l with
  | nil=>intro a ha _;exact ha
  | cons y r ih=>intro a ha hl;exact ih _ (show max a y.slot.toNat≤41 by have:=hl y (List.mem_cons_self ..);omega) (fun x hx=>hl x (List.mem_cons_of_mem _ hx))
 exact this ps 1 (by omega) h
theorem zKv {n:Nat} {x:InstD} (h:zBa n x=true):x.slot<42:=by
 unfold zBa inN at h;split at h
 ·simp at h;omega
 split at h
 ·simp at h;omega
 split at h
 ·simp at h;omega
 split at h
 ·simp at h;omega
 split at h
 ·simp at h;omega
 ·cases h
theorem zFP {ps:List InstD} (h:zA3 ps=true):zHy ps=zCe ps∧2≤zCe ps∧zCe ps≤42:=by
 have hl:zJP ps≤41:=zQw fun x hx=>by
  simp only[zA3,Bool.and_eq_true,List.all_eq_true]at h;exact zKv (h.2 x hx)
 have hm:zEh ps=(zJP ps:Int):=zN1 ps 1;have h1:1≤zJP ps:=by
  have mono:∀ (l:List InstD) (b:Nat),b≤l.foldl (fun m x=>max m x.slot.toNat) b:=by
   intro l
   induction l with
   | nil=>intro b;exact Nat.le_refl _
   | cons z l ih=>intro b;exact Nat.le_trans (Nat.le_max_left _ _) (ih _)
  exact mono ps 1
 unfold zHy zCe;rw[hm];refine⟨?_,by omega,by omega⟩
 have e:((zJP ps:Int)).tdiv 2=((zJP ps / 2:Nat):Int):=by
  rw[Int.tdiv_eq_ediv_of_nonneg (by omega)];omega
 rw[e];unfold wrap64;omega
theorem zOb:(Tryz.prog.info? 4).map (fun i=>(i.zero,i.size,i.bytes))=some (some (.bool false),1,1):=by kernel_rfl
theorem zPq (p q g:Option Addr) (n c m d k e:Nat) (W:World):(Instr.build 110 #[(0,.slice p n c),(1,.slice q m d),(2,.slice g k e)]).run Tryz.prog W=.ok (.agg #[.slice p n c,.slice q m d,.slice g k e,.slice none 0 0]) W:=by simp[go_sem]
theorem bRun {ops:Array Oper} {dst:Option Tmp} {ty:TypeId} {pos:String} {aft:Array Edge} {grd:Option (Nat × Bool)} {rest:List Oper} {a:Act} {w:World} {Q:Exit→Act→World→Prop} {x y z:Operand} {p q g:Option Addr} {n c m d k e:Nat} (h:wpList Tryz.prog ops Q rest (a.put dst (.agg #[.slice p n c,.slice q m d,.slice g k e,.slice none 0 0])) w) (hg:Region.wanted (⟨dst,.build 110 #[(0,x),(1,y),(2,z)],ty,pos,aft,grd⟩:Oper) (yielded ops a.tmps)=true:=by first|rfl|exact zAO rfl (zAG rfl (by first|rfl|(simp only[pe];rfl)))) (h0:a.eval x=.slice p n c:=by first|(simp only[pe];done)|(simp only[pe];rfl)) (h1:a.eval y=.slice q m d:=by first|(simp only[pe];done)|(simp only[pe];rfl)) (h2:a.eval z=.slice g k e:=by first|(simp only[pe];done)|(simp only[pe];rfl)):wpList Tryz.prog ops Q ((⟨dst,.build 110 #[(0,x),(1,y),(2,z)],ty,pos,aft,grd⟩:Oper)::rest) a w :=
 zAZ hg (by simp only[execOp,List.map_toArray,List.map_cons,List.map_nil,h0,h1,h2,Sem.run_bind,zPq];rfl) h
theorem zPb (L K:Nat):Sof L (List.replicate K false)=fun _ _=>false:=by
 funext a j
 unfold Sof;rw[List.getD_eq_getElem?_getD,List.getElem?_replicate];split<;>simp
theorem zOU (pp:Option Addr) (cp:Nat) (ps:List InstD) (psl:Option Addr) (csl:Nat) (L:Str) (at_:Int) (Fp Fs:Nat→Prop) (w0:World) (hset:∀ x ∈ ps,zAW x.set) (hL:L.length≤1000) (hFp:∀ b,Fp b→b<w0.heap.size) (hFs:∀ b,Fs b→b<w0.heap.size) (hp:InstsR Fp pp cp ps w0) (hs:BytesR Fs psl csl L w0) :
  Calls Tryz.prog 25 #[.slice pp ps.length cp,.slice psl L.length csl,.int .i64 at_] w0 fun e w'=>zJv w0 (runP ps L at_) e w'∧Below w0.heap.size w0 w':=by
 have hr:=fun w h1 h2=>zKt pp cp ps Fp w h1 h2
 have H:=(Hold.insts hFp hp).know Fs (BytesR Fs psl csl L) hFs (fun i r h=>by
  rcases i with _|i
  ·simp at h;subst h;intro b hb;cases hb
  ·simp at h) (fun V hV=>hs.kept hV)
 simp only[ca]at H;have hbp:=hp.bound;clear hp hs
 by_cases hR:zA3 ps=true
 case neg =>
  have hR':zA3 ps=false:=by simpa using hR
  have E:=Lib.hid (show runP ps L at_=none by unfold runP;rw[if_pos (.inr (.inr hR'))])
  rw[hR']at hr;clear hR hR'
  go_enter Tryz.func25,Tryz.ntmps25
  go_wp2_with (first|fail|((with_reducible refine ch (hr _ (H.knlt (i:=0) .zero) (H.kn (i:=0) .zero)) H ?_);clear H;intro w H))
  go_ret2
  exact⟨by rw[E.out];rfl,H.below⟩
 rw[hR]at hr
 by_cases h1:at_<0
 ·have d1:decide (at_<0)=true:=decide_eq_true h1;have E:=Lib.hid (show runP ps L at_=none by unfold runP;rw[if_pos (.inl h1)])
  clear h1 hR
  go_enter Tryz.func25,Tryz.ntmps25
  go_wp2_with (first|fail|((with_reducible refine ch (hr _ (H.knlt (i:=0) .zero) (H.kn (i:=0) .zero)) H ?_);clear H;intro w H))
  go_ret2
  exact⟨by rw[E.out];rfl,H.below⟩
 have d1:decide (at_<0)=false:=decide_eq_false h1
 by_cases h2:(L.length:Int)<at_
 ·have d2:decide ((L.length:Int)<at_)=true:=decide_eq_true h2;have E:=Lib.hid (show runP ps L at_=none by unfold runP;rw[if_pos (.inr (.inl h2))])
  clear h1 h2 hR
  go_enter Tryz.func25,Tryz.ntmps25
  go_wp2_with (first|fail|((with_reducible refine ch (hr _ (H.knlt (i:=0) .zero) (H.kn (i:=0) .zero)) H ?_);clear H;intro w H))
  go_ret2
  exact⟨by rw[E.out];rfl,H.below⟩
 obtain⟨a,rfl⟩:∃ a:Nat,at_=a:=⟨at_.toNat,by omega⟩
 have ha:a≤L.length:=by omega
 have d2:decide (L.length<a)=false:=decide_eq_false (by omega)
 have d3:decide ((L.length:Int)<(a:Int))=false:=decide_eq_false (by omega)
 clear h1 h2;obtain⟨hsi,hs2,hs42⟩:=zFP hR;have hDF:=zK4 (p:=ps) (s:=L) (a:=(a:Int)) (by omega) (by omega) hR
 rw[Int.toNat_natCast]at hDF;have hn4:1≤ps.length∧ps.length≤4000:=by
  simp only[zA3,Bool.and_eq_true,decide_eq_true_eq]at hR;exact hR.1
 have hsl:=fun w h1 h2=>zKU pp cp ps Fp w h1 h2
 rw[hsi]at hsl;obtain⟨ms,hms⟩:∃ ms,zCe ps=ms:=⟨_,rfl⟩;rw[hms]at hsl hs2 hs42 hDF;obtain⟨K,hK⟩:∃ K,ps.length * (L.length+1)=K:=⟨_,rfl⟩;have hKle:K≤4004000:=by
  have:ps.length * (L.length+1)≤4000 * (L.length+1):=Nat.mul_le_mul_right _ hn4.2;omega
 have hmul:wrap64 ((ps.length:Int) * ((L.length:Int)+1))=(K:Int):=by
  have e0:(ps.length:Int) * ((L.length:Int)+1)=((ps.length * (L.length+1):Nat):Int):=by push_cast;rfl
  rw[e0,hK];unfold wrap64;omega
 obtain⟨ib,hib,hb0,hb1,hb2⟩:=info_parts zOb;obtain⟨ii,hii,hi0,hi1,hi2⟩:=info_parts zFu
 go_enter Tryz.func25,Tryz.ntmps25
 go_upto_region 4 with (first|((with_reducible refine gMS ?_);refine zIe rfl _ _ 108 rfl H Tryz.underlying108 hib hb0 hb1 hb2 rfl (n:=K) (by rw[← hmul];rfl) (by rw[← hmul];rfl) (by omega) (by unfold maxLen;omega) ?_;clear H;intro gs w H;simp only[ca]at H)|((with_reducible refine gZ ?_);refine bRun ?_)|((first|((with_reducible refine kgA 34 ?_);refine kA 34 H ?_)|((with_reducible refine kgX 34 ?_);(first|refine kS 34 H ?_|refine kB 34 H ?_)));clear H;intro b34 w H;try simp only[nr]at H)|fail|((with_reducible refine ch (hr _ (H.knlt (i:=0) .zero) (H.kn (i:=0) .zero)) H ?_);clear H;intro w H))
 have H2:=(H.addNil 3 1).pick [3,2,4,0,1] [.blk b34 #[.slice pp ps.length cp,.slice psl L.length csl,.slice (some ⟨gs,0,none⟩) K K,(.slice none 0 0)] 110,.row (.slice (some ⟨gs,0,none⟩) K K) 4 1 K ((List.replicate K false).map .bool),.row (.slice none 0 0) 3 1 0 (List.replicate 0 (.int .i64 (-1))),.kn Fp (InstsR Fp pp cp ps),.kn Fs (BytesR Fs psl csl L)] (by decide) (by simp only[List.map_replicate];rfl)
 clear H;have H:=H2;clear H2 hr hmul
 go_wp2_with (first|fail)
 go_loopw [9] (fun ix wr=>∃ (j:Nat) (vq:Option Addr) (vc:Nat),j≤ms∧ix=.int .i64 j∧Hold w0 wr [.blk b34 #[.slice pp ps.length cp,.slice psl L.length csl,.slice (some ⟨gs,0,none⟩) K K,(.slice vq j vc)] 110,.row (.slice (some ⟨gs,0,none⟩) K K) 4 1 K ((List.replicate K false).map .bool),.row (.slice vq j vc) 3 1 j (List.replicate j (.int .i64 (-1))),.kn Fp (InstsR Fp pp cp ps),.kn Fs (BytesR Fs psl csl L)]) (fun ix _=>ms+1 - (intOf ix).toNat)
 case atStart=>exact⟨0,none,0,by omega,rfl,H⟩
 case round =>
  clear H;obtain⟨j,vq,vc,hj,rfl,H⟩:=hrel
  by_cases hlt:j<ms
  ·have dj:decide (j<ms)=true:=decide_eq_true hlt;have dj2:decide ((j:Int)<(ms:Int))=true:=decide_eq_true (by omega)
   go_wp2_with (first|(at_builtin;refine zAX rfl _ _ 27 rfl H (i:=2) (j:=5) evd_ rfl i_2 i_5 Tryz.underlying27 hii hi0 hi1 hi2 rfl (by decide) rfl rfl (by unfold maxLen;omega) (by omega) ?_;clear H;intro v2 w H;(try simp only[nr]at H);(obtain⟨q2,c2,rfl,_,_,_⟩:=H.rowShape (i:=2) i_2))|((with_reducible refine gBS ?_);refine zAL wtd_ _ _ _ rfl H (#[.int .i64 (-1)]) 3 (by intro W;simp only[ml];(try simp only[pe]);(try unfold setV);simp[go_sem]<;>rfl) ?_;clear H;intro b w H;try simp only[nr]at H)|(first|((with_reducible refine gT ?_);(refine aO H ?_;clear H;intro w H;try simp only[nr]at H))|((with_reducible refine gL ?_);refine aG H ?_))|((with_reducible refine ch (hsl _ (H.knlt (i:=3) i_3) (H.kn (i:=3) i_3)) H ?_);clear H;intro w H))
   have hrep:List.replicate j (Value.int .i64 (-1))++[Value.int .i64 (-1)]=List.replicate (j+1) (.int .i64 (-1)):=by rw[List.replicate_succ']
   go_roundw
   case rel=>exact⟨j+1,q2,c2,by omega,by go_num,by rw[← hrep];exact H.pick [0,1,2,3,4] _ (by decide) rfl⟩
   case measure=>simp[intOf];omega
  ·have hjm:j=ms:=by omega
   subst hjm;have dj:decide (j<j)=false:=by simp
   have dj2:decide ((j:Int)<(j:Int))=false:=by simp
   obtain⟨q2,c2,e2,_,_,hq2⟩:=H.rowShape (i:=2) i_2;obtain⟨gt,rfl⟩:=hq2 (by omega)
   simp only[Value.slice.injEq]at e2;obtain⟨rfl,_,rfl⟩:=e2;have hway:=fun m k i sn sl M w0 w=>zM0 b34 pp cp ps psl csl L Fp Fs gs K K gt vc j hR hset hL hn4.2 hK.symm hms.symm m k i sn sl M w0 w
   have hrep:(List.replicate j (-1:Int)).map (Value.int .i64)=List.replicate j (.int .i64 (-1)):=by rw[List.map_replicate]
   rw[← hrep]at H;clear hrep hlt
   go_wp2_with (first|fail|((with_reducible refine ch (hsl _ (H.knlt (i:=3) i_3) (H.kn (i:=3) i_3)) H ?_);clear H;intro w H))
   clear hsl
   go_loopw [10] (fun ix wr=>∃ (i:Nat) (sn:List Bool),i≤L.length+1∧ix=.int .i64 i∧Hid (sn.length=K)∧Hid (∀ res,Dfs ps L none (zCY (List.replicate j (-1)) none i (L.length+1 - i)) (Sof L.length sn) res→Dfs ps L none (zCY (List.replicate j (-1)) none a (L.length+1 - a)) (fun _ _=>false) res)∧Hold w0 wr (runL b34 pp cp ps psl csl L Fp Fs gs K K gt vc j sn (List.replicate j (-1)))) (fun ix _=>L.length+2 - (intOf ix).toNat)
   case atStart=>exact⟨a,List.replicate K false,by omega,rfl,Lib.hid (by simp),Lib.hid (fun res h=>by rwa [zPb]at h),H⟩
   case round =>
    clear H;obtain⟨i,sn,hi,rfl,HSN,HD,H⟩:=hrel;simp only[runL]at H
    by_cases hil:i≤L.length
    ·have di:decide (i≤L.length)=true:=decide_eq_true hil;have di2:decide ((i:Int)≤(L.length:Int))=true:=decide_eq_true (by omega)
     have hw1:∀ w,_→Calls Tryz.prog 40 #[.pointer (some ⟨b34,0,none⟩),.int .i64 0,.int .i64 i] w _:=fun w h=>hway (unF sn+1) 0 i sn (List.replicate j (-1)) (fun _=>False) w0 w (by omega) (by omega) hil HSN.out (by simp) h
     have hst:zCY (List.replicate j (-1)) none i (L.length+1 - i)=(0,i,List.replicate j (-1))::zCY (List.replicate j (-1)) none (i+1) (L.length+1 - (i+1)):=by
      rw[show L.length+1 - i=(L.length+1 - (i+1))+1 by omega]
      simp[zCY,List.range'_succ]
     have HST:=Lib.hid hst;clear hst hway
     go_wp2_with (first|((with_reducible refine gL ?_);refine aG H ?_)|(go_at_call 40;(with_reducible refine chW H (fun h=>hw1 _ h) ?_);clear H;intro b sn2 sl2 w hT1 H;rcases b with _|_;(obtain⟨e2,_⟩:=hT1.miss rfl;cases e2)))
     ·have hm:=(hT1.miss rfl).2;go_roundw
      case rel=>exact⟨i+1,sn2,by omega,by go_num,Lib.hid (hT1.len.trans HSN.out),Lib.hid (fun res h=>HD.out res (by rw[HST.out];exact hm none _ res h)),H⟩
      case measure=>simp[intOf];omega
     ·have hd:=HD.out _ (by rw[HST.out];exact hT1.hit rfl none _)
      have E:=Lib.hid (hDF.one hd);have hsl2:sl2.length=j:=by rw[hT1.slen];simp
      have HSL:=Lib.hid hsl2;clear hsl2 hd
      go_ret2
      refine⟨?_,H.below⟩;rw[E.out];rw[← HSL.out]at H;obtain⟨F9,hF9,hI⟩:=H.rowInts (i:=2) i_2;exact⟨some ⟨gt,0,none⟩,vc,F9,by rw[HSL.out];rfl,hI,fun b h=>⟨(hF9 b h).2,(hF9 b h).1.elim id False.elim⟩⟩
    ·have di:decide (i≤L.length)=false:=decide_eq_false hil;have di2:decide ((i:Int)≤(L.length:Int))=false:=decide_eq_false (by omega)
     have hd:=HD.out none (by rw[show L.length+1 - i=0 by omega];exact .nil _)
     have E:=Lib.hid (hDF.one hd);clear hd hway
     go_wp2_with (first|fail)
     go_ret2
     exact⟨by rw[E.out];rfl,H.below⟩
theorem HoldG.blkRowN {M:Nat→Prop} {w0 W:World} {l:List Res} (H:HoldG M w0 W l) {i b sz n:Nat} {cs:Array Value} {T:TypeId} (hi:At l i (.blk b cs T)) (hM:¬ M b) (hs:cs.size=n * sz) (hn:n≤maxLen):HoldG M w0 W (l.set i (.row (.slice (some ⟨b,0,none⟩) n n) T sz n cs.toList)):=by
 have hb:=H.blk hi;refine H.upd hi.get ⟨rfl,rfl,rfl,Nat.le_refl _,fun _ _ _=>rfl⟩ ⟨by simp[hs],.inr ⟨b,n,cs,rfl,hb.1.resolve_right hM,hb.2,Nat.le_refl _,hn,by simp[hs],?_⟩⟩ (fun _ e=>.inl e)
 rw[List.take_of_length_le (by simp[hs])]
theorem zQ5 (xs:List Int):zAP (xs.map fun v=>#[Value.int .i64 v])=xs.map (.int .i64):=by
 rw[show (xs.map fun v=>#[Value.int .i64 v])=(xs.map (Value.int .i64)).map (fun v=>#[v]) by rw[List.map_map];rfl,zDc]
theorem IntsR.bound {F:Nat→Prop} {p:Option Addr} {c:Nat} {xs:List Int} {W:World} (h:IntsR F p c xs W):xs.length≤c∧c≤9223372036854775807:=by
 obtain⟨p',c',e,h1,h2,_⟩:=h;simp only[Value.slice.injEq]at e;obtain⟨rfl,_,rfl⟩:=e;rw[List.length_map]at h1;exact⟨h1,by simpa [maxLen] using h2⟩
theorem IntsR.at {F:Nat→Prop} {p:Option Addr} {c:Nat} {xs:List Int} {W:World} (h:IntsR F p c xs W) (hn:0<xs.length):∃ b off,p=some ⟨b,off,none⟩:=by
 obtain⟨p',c',e,_,_,_,h3⟩:=h;simp only[Value.slice.injEq]at e;obtain⟨rfl,_,rfl⟩:=e;obtain⟨b,off,e2,_⟩:=h3 0 #[.int .i64 xs[0]] (by rw[List.getElem?_map,List.getElem?_eq_getElem hn];rfl)
 exact⟨b,off,e2⟩
theorem IntsR.nil (F:Nat→Prop) (V:World):IntsR F none 0 [] V:=RdN.nil ..
theorem IntsR.none0 {F:Nat→Prop} {p:Option Addr} {c:Nat} {xs:List Int} {W:World} (h:IntsR F p c xs W) (hp:p=none):xs=[]∧c=0:=by
 obtain⟨p',c',e,h1,h2,h0,_⟩:=h;simp only[Value.slice.injEq]at e;obtain⟨rfl,_,rfl⟩:=e;rw[List.length_map]at h1;have:=h0 hp;subst this;exact⟨List.length_eq_zero_iff.1 (by omega),rfl⟩
theorem zQm {o:Oper} {a:Act} {w:World} {x y:Operand} {U:TypeId} {p:Option Addr} {n c:Nat} (hop:o.op=.binOp .eql 27 x y U) (hx:a.eval x=.slice p n c) (hy:a.eval y=.slice none 0 0):(execOp a.eval o).run Tryz.prog w=.ok (.value (.bool p.isNone)) w:=by
 simp only[execOp,hop,hx,hy];simp[go_sem,binOp,run_equal_slice_nil w 27 _ p n c Tryz.underlying27]
theorem zQI {o:Oper} {a:Act} {w:World} {x y:Operand} {U:TypeId} {p:Option Addr} {n c:Nat} (hop:o.op=.binOp .neq 27 x y U) (hx:a.eval x=.slice p n c) (hy:a.eval y=.slice none 0 0):(execOp a.eval o).run Tryz.prog w=.ok (.value (.bool (!p.isNone))) w:=by
 simp only[execOp,hop,hx,hy];simp[go_sem,binOp,run_equal_slice_nil w 27 _ p n c Tryz.underlying27]
section
variable {ops:Array Oper} {dst:Option Tmp} {ty:TypeId} {pos:String} {aft:Array Edge} {grd:Option (Nat × Bool)} {rest:List Oper} {a:Act} {w:World} {Q:Exit→Act→World→Prop}
theorem gEN {U:TypeId} {x y:Operand} (h:wpList Tryz.prog ops Q ((⟨dst,.binOp .eql 27 x y U,ty,pos,aft,grd⟩:Oper)::rest) a w):wpList Tryz.prog ops Q ((⟨dst,.binOp .eql 27 x y U,ty,pos,aft,grd⟩:Oper)::rest) a w:=h
theorem eN {U:TypeId} {x y:Operand} {p:Option Addr} {n c:Nat} (h:wpList Tryz.prog ops Q rest (a.put dst (.bool p.isNone)) w) (hg:Region.wanted (⟨dst,.binOp .eql 27 x y U,ty,pos,aft,grd⟩:Oper) (yielded ops a.tmps)=true:=by first|rfl|exact zAO rfl (zAG rfl (by first|rfl|(simp only[pe];rfl)))) (hx:a.eval x=.slice p n c:=by first|(simp only[pe];done)|(simp only[pe];rfl)) (hy:a.eval y=.slice none 0 0:=by rfl):wpList Tryz.prog ops Q ((⟨dst,.binOp .eql 27 x y U,ty,pos,aft,grd⟩:Oper)::rest) a w :=
 zAZ hg (zQm rfl hx hy) h
theorem gNN {U:TypeId} {x y:Operand} (h:wpList Tryz.prog ops Q ((⟨dst,.binOp .neq 27 x y U,ty,pos,aft,grd⟩:Oper)::rest) a w):wpList Tryz.prog ops Q ((⟨dst,.binOp .neq 27 x y U,ty,pos,aft,grd⟩:Oper)::rest) a w:=h
theorem nN {U:TypeId} {x y:Operand} {p:Option Addr} {n c:Nat} (h:wpList Tryz.prog ops Q rest (a.put dst (.bool (!p.isNone))) w) (hg:Region.wanted (⟨dst,.binOp .neq 27 x y U,ty,pos,aft,grd⟩:Oper) (yielded ops a.tmps)=true:=by first|rfl|exact zAO rfl (zAG rfl (by first|rfl|(simp only[pe];rfl)))) (hx:a.eval x=.slice p n c:=by first|(simp only[pe];done)|(simp only[pe];rfl)) (hy:a.eval y=.slice none 0 0:=by rfl):wpList Tryz.prog ops Q ((⟨dst,.binOp .neq 27 x y U,ty,pos,aft,grd⟩:Oper)::rest) a w :=
 zAZ hg (zQI rfl hx hy) h
end
theorem zNY (W:World):(Instr.buildSlice 27 0 #[]).run Tryz.prog W=.ok (.slice (some ⟨W.heap.size,0,none⟩) 0 0) (W.alloc (.cells #[] 3)):=by kernel_rfl
def OwnI (w:World) (xs:List Int) (e:Ending) (w':World):Prop:=∃ q c,e=.returned (.slice q xs.length c)∧w'.ownsRow w.heap.size 3 1 (.slice q xs.length c) xs.length (xs.map (.int .i64))∧Below w.heap.size w w'
theorem zG1 (q:Option Addr) (c:Nat) (xs:List Int) (F:Nat→Prop) (w0:World) (hn:xs.length≤1000000) (hF:∀ b,F b→b<w0.heap.size) (h:IntsR F q c xs w0) :
  Calls Tryz.prog 24 #[.slice q xs.length c] w0 fun e w'=>OwnI w0 xs e w':=by
 have H:=(Hold.start w0).know F (IntsR F q c xs) hF (fun i r h=>by simp at h) (fun V hV=>h.kept hV)
 simp only[List.nil_append]at H;have hnil:=h.none0;clear h;obtain⟨ii,hii,hi0,hi1,hi2⟩:=info_parts zFu
 cases q with
 | none =>
  obtain⟨hx,hc⟩:=hnil rfl;subst hx hc
  go_enter Tryz.func24,Tryz.ntmps24
  go_wp2_with (first|((with_reducible refine gEN ?_);refine eN ?_)|fail)
  go_ret;exact⟨none,0,rfl,World.ownsRow_nil _ _ _ _,H.below⟩
 | some ad =>
  obtain⟨n,hnn⟩:∃ n,xs.length=n:=⟨_,rfl⟩;have HN:=Lib.hid hnn;rw[hnn]at hn ⊢;clear hnn;have hrd:∀ V,IntsR F (some ad) c xs V→RdN 1 V F (.slice (some ad) n c) (xs.map fun v=>#[.int .i64 v]):=fun V h=>by have:=HN.out;subst this;exact h
  go_enter Tryz.func24,Tryz.ntmps24
  go_wp2_with (first|((with_reducible refine gEN ?_);refine eN ?_)|((with_reducible refine gBS ?_);refine zAL wtd_ _ _ _ rfl H #[] 3 (by intro W;simp only[List.map_toArray,List.map_nil];exact zNY W) ?_;clear H;intro bk w H;(have H2:=H.blkRowN (i:=1) (sz:=1) (n:=0) i_1 id rfl (by decide));clear H;(have H:=H2);clear H2;simp only[List.cons_append,List.nil_append,List.set_cons_succ,List.set_cons_zero]at H)|(at_builtin;refine zDK rfl _ _ 27 rfl H (i:=1) evd_ evd_ i_1 (hrd _ (H.kn (i:=0) .zero)) (fun r hr=>by obtain⟨v,_,rfl⟩:=List.mem_map.1 hr;rfl) Tryz.underlying27 hii hi0 hi1 hi2 rfl (by decide) (fun u hu=>by rw[zQ5]at hu;obtain⟨v,_,rfl⟩:=List.mem_map.1 hu;rfl) (by unfold maxLen;omega) (by omega) ?_;clear H;intro v2 w H;try simp only[nr]at H)|fail)
  go_ret;rw[zQ5]at H;simp only[List.nil_append,Nat.zero_add]at H;obtain⟨q2,c2,rfl,_,_,_⟩:=H.rowShape (i:=1) i_1;rw[← HN.out]at H;refine⟨q2,c2,?_,H.all 1 _ rfl,H.below⟩;rw[HN.out];rfl
theorem HoldG.gainRowX {M:Nat→Prop} {w0 w w':World} {l:List Res} (H:HoldG M w0 w l) (hb:Below w.heap.size w w') {e:TypeId} {sz n:Nat} {v:Value} {xs:List Value} (ho:w'.ownsRow w.heap.size e sz v n xs):HoldG M w0 w' (l++[.row v e sz n xs]):=by
 have H':=H.call hb;refine⟨H'.keep,?_,?_⟩
 ·intro j s hs;rw[List.getElem?_append]at hs;split at hs
  ·exact H'.all j s hs
  ·rcases List.getElem?_eq_some_iff.1 hs with ⟨h3,h4⟩
   simp at h3;simp[h3]at h4;subst h4;exact ho.mono H.keep.size
 ·intro j k s t hjk hs ht;rw[List.getElem?_append]at hs ht;split at hs
  ·split at ht
   ·exact H'.apart j k s t hjk hs ht
   ·rcases List.getElem?_eq_some_iff.1 ht with ⟨h3,h4⟩
    simp at h3;simp[h3]at h4;subst h4;intro z hz1 hz2;have h1:=((H.all j s hs).lt z hz1).2;have h2:=(World.ownsRow.lt ho z hz2).1;omega
  ·rcases List.getElem?_eq_some_iff.1 hs with ⟨h3,h4⟩
   simp at h3;simp[h3]at h4;subst h4;split at ht
   ·intro z hz1 hz2;have h1:=(H.all k t ht).ltf z hz2;have h2:=(World.ownsRow.lt ho z hz1).1;omega
   ·rcases List.getElem?_eq_some_iff.1 ht with ⟨h5,h6⟩
    simp at h5;omega
theorem chI {M:Nat→Prop} {P:Program} {f:FuncId} {args:Array Value} {w w0:World} {l:List Res} {xs:List Int} {R:Ending→World→Prop} (c:Calls P f args w fun e w'=>OwnI w xs e w') (H:HoldG M w0 w l)
  (k:∀ q c w',HoldG M w0 w' (l++[.row (.slice q xs.length c) 3 1 xs.length (xs.map (.int .i64))])→R (.returned (.slice q xs.length c)) w'):Calls P f args w R:=c.mono fun _ w' ⟨q,c,e,ho,hb⟩=>by
 subst e;exact k q c w' (H.gainRowX hb ho)
def zRh (w:World) (xs:List Int) (e:Ending) (w':World):Prop:=∃ q c F,e=.returned (.slice q xs.length c)∧IntsR F q c xs w'∧∀ b,F b→b<w'.heap.size∧w.heap.size≤b
theorem zPK (at_ slot:Nat) (q:Option Addr) (c:Nat) (xs:List Int) (F:Nat→Prop) (w0:World) (hn:xs.length≤1000000) (hs:slot<xs.length) (hF:∀ b,F b→b<w0.heap.size) (h:IntsR F q c xs w0) :
  Calls Tryz.prog 76 #[.int .i64 at_,.int .i64 slot,.slice q xs.length c] w0 fun e w'=>zRh w0 (xs.set slot at_) e w'∧Below w0.heap.size w0 w':=by
 have H:=(Hold.start w0).know F (IntsR F q c xs) hF (fun i r h=>by simp at h) (fun V hV=>h.kept hV)
 simp only[List.nil_append]at H;clear h;have hcl:=fun w h1 h2=>zG1 q c xs F w hn h1 h2
 obtain⟨n,hnn⟩:∃ n,xs.length=n:=⟨_,rfl⟩;have HN:=Lib.hid hnn;have hlen:(xs.map (Value.int .i64)).length=n:=by rw[List.length_map];exact hnn
 rw[hnn]at hn hs hcl ⊢;have hset:(xs.set slot (at_:Int)).length=n:=by rw[List.length_set];exact hnn
 clear hnn;have HS:=Lib.hid hset;clear hset
 go_enter Tryz.func76,Tryz.ntmps76
 go_upto_region 2 with (first|fail|(go_at_call 24;refine chI (hcl _ (H.knlt (i:=0) .zero) (H.kn (i:=0) .zero)) H ?_;clear H hcl;intro q1 c1 w H;simp only[ca]at H))
 rw[HN.out]at H ⊢;obtain⟨q2,c2,e2,_,_,hq2⟩:=H.rowShape (i:=1) i_1;obtain⟨g,rfl⟩:=hq2 (by omega)
 simp only[Value.slice.injEq]at e2;obtain⟨rfl,_,rfl⟩:=e2
 go_wp2_with (first|((with_reducible refine gT ?_);refine zDs wtd_ _ _ _ rfl rfl (v:=.int .i64 at_) evd_ H (j:=1) i_1 hlen (by with_reducible exact zAI zAH) rfl hs ?_;clear H;intro w H;simp only[sc]at H)|fail)
 go_ret;refine⟨?_,H.below⟩;rw[show (xs.map (Value.int .i64)).set slot (.int .i64 at_)=(xs.set slot (at_:Int)).map (.int .i64) by rw[List.map_set],← HS.out]at H
 obtain⟨F9,hF9,hI⟩:=H.rowInts (i:=1) i_1;exact⟨some ⟨g,0,none⟩,c1,F9,by rw[HS.out];rfl,hI,fun b h=>⟨(hF9 b h).2,(hF9 b h).1.elim id False.elim⟩⟩
end
section
open Go.RowKit
structure RCtxU (C:List Nat) (hd l:List Oper) (e i:Nat) (Ss:Nat→Value→World→Prop) (S1:Value→World→Prop) (a0:Act) (w0:World) (o:Oper) (a:Act) (w:World):Prop where
 st:Below w0.heap.size w0 w∨∃ v,S1 v w
 frame:∀ t,hd.any (fun o=>o.dst == some t)=false→a.eval (.tmp t)=a0.eval (.tmp t)
 dep:∀ j d,(i=e∨j ∉ C)→o.after.toList.any (fun e=>Region.binds .any e&&e.on == j)=true→(hd[j]?).bind (·.dst)=some d→Ss j (a.eval (.tmp d)) w
 ahead:∀ oe,l[e]?=some oe→oe.after.toList.any (fun x=>Region.binds .any x&&x.on == i)=true→Below w0.heap.size w0 w
def FreshS (n0:Nat) (cs:Array Value) (T:TypeId) (v:Value) (W:World):Prop:=∃ b,v=.slice (some ⟨b,0,none⟩) 1 1∧n0≤b∧W.heap[b]?=some (.cells cs T (0,0))
theorem zC8 (n0:Nat) (cs:Array Value) (T:TypeId):zDJ (FreshS n0 cs T):=fun v w w' ⟨b,e,h1,h2⟩ hb=>⟨b,e,h1,(hb.block b (Array.getElem?_eq_some_iff.1 h2).1).trans h2⟩
end
section
open Go.RowKit Go.Shelf
attribute [local go_sem] Oper.semAt_some
abbrev WV:=Nat × zA2 × Option Addr × Nat
def wayC (x:WV):Array Value:=#[.int .i64 x.1,.slice x.2.2.1 x.2.1.length x.2.2.2]
theorem yg0 (x:WV):(wayC x)[0]?=some (.int .i64 x.1):=rfl
theorem yg1 (x:WV):(wayC x)[1]?=some (.slice x.2.2.1 x.2.1.length x.2.2.2):=rfl
def plW (x:WV):Way:=(x.1,x.2.1)
def zO4 (F:Nat→Prop) (xs:List WV) (W:World):Prop:=∀ x ∈ xs,IntsR F x.2.2.1 x.2.2.2 x.2.1 W
theorem zDr (x:WV):(wayC x).size=2:=rfl
theorem zE1 (xs:List WV):∀ r ∈ xs.map wayC,r.size=2:=by
 intro r hr;obtain⟨x,_,rfl⟩:=List.mem_map.1 hr;rfl
theorem zBA:oneB Tryz.prog 50=true:=by kernel_rfl
theorem zFL:rowB Tryz.prog 58 2=true:=by kernel_rfl
theorem zWay:zCG Tryz.prog 58=#[.int .i64 0,.slice none 0 0]:=by kernel_rfl
section
variable {M:Nat→Prop} {w0 w:World}
theorem zO9 (mb:Nat) (q:Option Addr) (n c:Nat) (mk v2 v3 nv:Value) (xs:List Value) (H0:HoldG M w0 w [.blk mb #[.slice q n c,mk,v2,v3,nv] 54,.row (.slice q n c) 58 2 n xs]) :
  Calls Tryz.prog 36 #[.pointer (some ⟨mb,0,none⟩)] w fun e w'=>e=.returned (.tuple #[])∧Turned M w0 w [.blk mb #[.slice q n c,mk,v2,v3,nv] 54,.row (.slice q n c) 58 2 n xs] [.blk mb #[.slice q 0 c,mk,v2,v3,nv] 54,.row (.slice q 0 c) 58 2 0 []] w':=by
 have H:=H0.framed;clear H0;obtain⟨rF,hrF⟩:∃ rF,zDp w [.blk mb #[.slice q n c,mk,v2,v3,nv] 54,.row (.slice q n c) 58 2 n xs]=rF:=⟨_,rfl⟩;obtain⟨rS,hrS⟩:∃ rS,zEf w [.blk mb #[.slice q n c,mk,v2,v3,nv] 54,.row (.slice q n c) 58 2 n xs]=rS:=⟨_,rfl⟩;rw[hrF,hrS]at H;simp only[ca]at H;obtain⟨q2,c2,e2,h1,h2,hq2⟩:=H.rowShape (i:=1) i_1;simp only[Value.slice.injEq]at e2;obtain⟨rfl,_,rfl⟩:=e2
 go_enter Tryz.func36,Tryz.ntmps36
 go_wp2_with (first|((with_reducible refine gL ?_);refine zAp wtd_ _ _ rfl rfl H (i:=0) .zero zBA rfl ?_)|((with_reducible refine gT ?_);refine zAQ wtd_ _ _ _ rfl rfl evd_ H (i:=0) .zero rfl (by show 0<5;omega) (zAI zBA) ?_;clear H;intro w H)|fail)
 go_end0
 refine⟨rfl,?_⟩
 rw[← hrF,← hrS]at H;have H:HoldG M w0 _ [.blk mb #[.slice q 0 c,mk,v2,v3,nv] 54,.row (.slice q n c) 58 2 n xs,.kn (zDp _ [.blk mb #[.slice q n c,mk,v2,v3,nv] 54,.row (.slice q n c) 58 2 n xs]) (zEf _ [.blk mb #[.slice q n c,mk,v2,v3,nv] 54,.row (.slice q n c) 58 2 n xs])]:=H;obtain⟨hlen,⟨hv,hn0⟩|⟨g,cap,cur,hv,hb,hg,hn,hc,hsz,ht⟩⟩:=H.all 1 _ rfl
 ·simp only[Value.slice.injEq]at hv;obtain⟨rfl,rfl,rfl⟩:=hv;have hx:xs=[]:=List.length_eq_zero_iff.1 (by simpa using hlen)
  subst hx;exact Turned.of H (i:=2) i_2 [0,1] (by decide) (by decide) rfl (fun F S h=>by simp at h)
 ·simp only[Value.slice.injEq]at hv;obtain⟨rfl,_,rfl⟩:=hv;have H2:=H.cutRow (i:=1) (m:=0) i_1 (Nat.zero_le _);rw[Nat.zero_mul,List.take_zero]at H2;simp only[sc]at H2;exact Turned.of H2 (i:=2) i_2 [0,1] (by decide) (by decide) rfl (fun F S h=>by simp at h)
end
end
section
open Go.RowKit
structure QCtx (l:List Oper) (Ss:Nat→Value→World→Prop) (R:World→World→Prop) (a0:Act) (w0:World) (i:Nat) (a:Act) (w:World):Prop where
 rel:R w0 w
 frame:∀ t,l.any (fun o=>o.dst == some t)=false→a.eval (.tmp t)=a0.eval (.tmp t)
 dep:∀ j d,decide (j<i)=true→(l[j]?).bind (·.dst)=some d→Ss j (a.eval (.tmp d)) w
def zDT (P:Program) (ops:Array Oper) (R:World→World→Prop) (o:Oper) (a:Act) (w:World) (s:Value→World→Prop):Prop :=
 if Region.wanted o (yielded ops a.tmps) then o.wp P a w (fun a' w'=>∃ v,a'=a.put o.dst v∧R w w'∧s v w') (fun _ _ _=>False) else s undef w
theorem zHG {P:Program} {id:Nat} {Q:Exit→Act→World→Prop} {a0:Act} {w0:World} {l:List Oper} (R:World→World→Prop) (hrefl:∀ w,R w w) (htrans:∀ u v w,R u v→R v w→R u w) (n:Nat) (Ss:Nat→Value→World→Prop)
  (hst:∀ i,i<n→∀ v w w',Ss i v w→R w w'→Ss i v w')
  (hB:seqB l n=true) (hsz:(l.take n).all (fun o=>match o.dst with|some d=>decide (d<a0.tmps.size)|none=>true)=true)
  (hstep:∀ i o,i<n→l[i]?=some o→∀ a w,QCtx (l.take n) Ss R a0 w0 i a w→zDT P l.toArray R o a w (Ss i))
  (hend:∀ vals w,R w0 w→(∀ i,i<n→Ss i (vals i) w)→wpList P l.toArray Q (l.drop n) (zBS (l.take n) 0 vals a0) w) :
  (Code.region id l.toArray false).wp P Q a0 w0:=by
 simp only[seqB,Bool.and_eq_true,decide_eq_true_eq]at hB;obtain⟨⟨hn,hd'⟩,_⟩:=hB;have hdst:∀ (i:Nat) (o:Oper),(l.take n)[i]?=some o→∃ d,o.dst=some d:=by
  intro i o h;have:∀ (r:List Oper) (j:Nat),zCz r=true→r[j]?=some o→∃ d,o.dst=some d:=by
   intro r
   induction r with
   | nil=>intro j _ h;simp at h
   | cons x r ihr =>
    intro j hdd h;simp only[zCz,Bool.and_eq_true]at hdd
    cases j with
    | zero=>simp at h;subst h;exact Option.isSome_iff_exists.1 hdd.1.1
    | succ j=>exact ihr j hdd.2 (by simpa using h)
  exact this _ i hd' h
 have hbd:∀ (j:Nat) (oj:Oper) (dj:Tmp),(l.take n)[j]?=some oj→oj.dst=some dj→dj<a0.tmps.size:=by
  intro j oj dj hj hdj;have:=List.all_eq_true.1 hsz oj (List.mem_of_getElem? hj)
  simpa [hdj] using this
 have key:∀ (f i:Nat),i+f=n→∀ (vals:Nat→Value) (a:Act) (w:World),a=fill (l.take n) 0 (zAq i (n - i)) vals a0→(∀ j,j<i→Ss j (vals j) w)→R w0 w→wpList P l.toArray Q (l.drop i) a w:=by
  intro f
  induction f with
  | zero =>
   intro i hi vals a w ha hv hb;have hi':i=n:=by omega
   subst hi';rw[ha,zDd (l.take i) 0 _ vals a0 (fun j hj=>by rw[Nat.zero_add,zAv _ _ _ _ (by simp at hj;omega)];simp at hj ⊢;omega)]
   exact hend vals w hb hv
  | succ f ih =>
   intro i hi vals a w ha hv hb;have hin:i<n:=by omega
   have hil:i<l.length:=by omega
   have hot:(l.take n)[i]?=some l[i]:=by rw[List.getElem?_take_of_lt hin];simp[hil]
   obtain⟨d,hod⟩:=hdst i _ hot;rw[List.drop_eq_getElem_cons hil];have hctx:QCtx (l.take n) Ss R a0 w0 i a w:=by
    refine⟨hb,fun t ht=>by rw[ha];exact zBp _ _ _ _ _ t ht,fun j dj hj hdj=>?_⟩
    have h2:j<i:=by simpa using hj
    obtain⟨oj,hoj,hdj'⟩:=Option.bind_eq_some_iff.1 hdj;rw[ha,zFR _ 0 _ vals a0 j oj dj hd' hoj hdj' (hbd j oj dj hoj hdj') (by rw[Nat.zero_add,zAv _ _ _ _ (by omega)];simpa using h2),Nat.zero_add]
    exact hv j h2
   have hstep':=hstep i l[i] hin (by simp[hil]) a w hctx
   have hnext:∀ v w',R w w'→Ss i v w'→wpList P l.toArray Q (l.drop (i+1)) (a.put l[i].dst v) w':=by
    intro v w' hbw hsv;refine ih (i+1) (by omega) (fun j=>if j=i then v else vals j) _ w' ?_ (fun j hj=>?_) (htrans _ _ _ hb hbw)
    ·have h1:=zD5 (l.take n) 0 i (zAq i (n - i)) vals a0 l[i] d v hd' hot hod (by rw[Nat.zero_add,zAv _ _ _ _ (by omega)];simp)
     rw[Nat.zero_add]at h1;rw[ha,hod,← h1];refine zDH _ _ _ _ _ _ _ (fun j hj=>⟨?_,rfl⟩)
     simp at hj;rw[Nat.zero_add,zAv _ _ _ _ (by omega)]
     by_cases hji:j=i
     ·subst hji;have:j<(zAq j (n - j)).size:=by simp[zAq];omega
      simp[Array.getD_eq_getD_getElem?,this]
     ·rw[getD_set_ne false (fun e=>hji e.symm),zAv _ _ _ _ (by omega)]
      simp;omega
    ·by_cases hji:j=i
     ·subst hji;simpa using hsv
     ·show Ss j (if j=i then v else vals j) w'
      rw[if_neg hji];exact hst j (by omega) _ _ _ (hv j (by omega)) hbw
   unfold zDT at hstep'
   show wpList P l.toArray Q (l[i]::l.drop (i+1)) a w
   unfold wpList;split
   ·rename_i hw;rw[if_pos hw]at hstep';refine .inl (zEH (Oper.wp_mono (fun a' w' ⟨v,e,hbw,hsv⟩=>?_) hstep'))
    subst e;exact hnext v w' hbw hsv
   ·rename_i hw;rw[if_neg hw]at hstep';exact hnext undef w (hrefl w) hstep'
 refine wp_region_lit ?_
 have:=key n 0 (by omega) (fun _=>undef) a0 w0 (zCq _ _ _ _ _ (fun j=>by
  rcases Nat.lt_or_ge j n with h|h
  ·rw[zAv _ _ _ _ (by omega)];simp
  ·rw[zFF _ _ _ _ (by omega)])).symm (fun j h=>by omega) (hrefl _)
 simpa using this
def zIy (R:World→World→Prop) (s:Value→World→Prop):Prop:=∀ v w w',s v w→R w w'→s v w'
theorem zAi {R:World→World→Prop} (x:Value):zIy R (fun v _=>v=x):=fun _ _ _ h _=>h
def zEu (R:World→World→Prop):List (Value→World→Prop)→Prop
 | []=>True
 | s::r=>zIy R s∧zEu R r
theorem zEI {R:World→World→Prop}:∀ (L:List (Value→World→Prop)) (i:Nat),zEu R L→zIy R (zAh L i)
 | [],_,_=>fun _ _ _ h _=>h
 | _::_,0,h=>h.1
 | _::r,i+1,h=>zEI r i h.2
def OblQ (P:Program) (l hd:List Oper) (R:World→World→Prop) (L:List (Value→World→Prop)) (a0:Act) (w0:World):List Oper→Nat→Prop
 | [],_=>True
 | o::r,i=>(∀ a w,QCtx hd (zAh L) R a0 w0 i a w→zDT P l.toArray R o a w (zAh L i))∧OblQ P l hd R L a0 w0 r (i+1)
theorem OblQ.get {P:Program} {l hd:List Oper} {R:World→World→Prop} {L:List (Value→World→Prop)} {a0:Act} {w0:World}:∀ (r:List Oper) (k:Nat),OblQ P l hd R L a0 w0 r k→∀ i o,r[i]?=some o →
  ∀ a w,QCtx hd (zAh L) R a0 w0 (k+i) a w→zDT P l.toArray R o a w (zAh L (k+i))
 | [],_,_,_,_,h=>by simp at h
 | o::r,k,h,0,o',h'=>by simp at h';subst h';exact h.1
 | o::r,k,h,i+1,o',h'=>by
  have:=OblQ.get r (k+1) h.2 i o' (by simpa using h')
  rwa [show k+1+i=k+(i+1) from by omega]at this
theorem zHh {P:Program} {id:Nat} {Q:Exit→Act→World→Prop} {a0:Act} {w0:World} {l:List Oper} (R:World→World→Prop) (hrefl:∀ w,R w w) (htrans:∀ u v w,R u v→R v w→R u w) (n:Nat) (L:List (Value→World→Prop)) (hst:zEu R L)
  (hB:seqB l n=true) (hsz:(l.take n).all (fun o=>match o.dst with|some d=>decide (d<a0.tmps.size)|none=>true)=true)
  (hstep:OblQ P l (l.take n) R L a0 w0 (l.take n) 0)
  (hend:∀ vals w,R w0 w→(∀ i,i<n→zAh L i (vals i) w)→wpList P l.toArray Q (l.drop n) (zBS (l.take n) 0 vals a0) w) :
  (Code.region id l.toArray false).wp P Q a0 w0 :=
 zHG R hrefl htrans n (zAh L) (fun i _ v w w' h hb=>zEI L i hst v w w' h hb) hB hsz (fun i o hi ho a w hc=>by
   have:=OblQ.get (l.take n) 0 hstep i o (by rw[List.getElem?_take_of_lt hi];exact ho) a w (by rwa [Nat.zero_add])
   rwa [Nat.zero_add]at this) hend
section
variable {P:Program} {ops:Array Oper} {o:Oper} {a:Act} {w:World} {R:World→World→Prop}
theorem zSZ {v:Value} (hrefl:∀ w,R w w) (h:zA7 P ops o a w (fun v' w'=>v'=v∧w'=w)):zDT P ops R o a w (fun v' _=>v'=v):=by
 unfold zA7 zLR at h;unfold zDT;split
 ·rename_i hw;rw[if_pos hw]at h;exact Oper.wp_mono (fun a' w' ⟨u,e,_,h1,h2⟩=>⟨u,e,h2 ▸ hrefl w,h1⟩) h
 ·rename_i hw;rw[if_neg hw]at h;exact h.1
theorem zKo {v:Value} (hg:Region.wanted o (yielded ops a.tmps)=false) (hv:v=undef):zDT P ops R o a w (fun v' _=>v'=v):=by
 unfold zDT;rw[if_neg (by rw[hg];decide)];exact hv.symm
theorem zAM {v:Value} (hrefl:∀ w,R w w) (hg:Region.wanted o (yielded ops a.tmps)=true) (hr:(execOp a.eval o).run P w=.ok (.value v) w):zDT P ops R o a w (fun v' _=>v'=v) :=
 zSZ hrefl (zBr hg hr (Below.refl _ w) ⟨rfl,rfl⟩)
theorem zAg {x:Operand} {v:Value} (hrefl:∀ w,R w w) (hg:Region.wanted o (yielded ops a.tmps)=true) (hop:o.op=Op.move x) (hx:a.eval x=v):zDT P ops R o a w (fun v' _=>v'=v):=by
 refine zAM hrefl hg ?_
 simp only[execOp,hop,hx];rfl
theorem zBQ {x y z:Operand} {b:Bool} {v:Value} (hrefl:∀ w,R w w) (hg:Region.wanted o (yielded ops a.tmps)=true) (hop:o.op=Op.pick x y z) (hx:a.eval x=.bool b) (hv:(if b then a.eval y else a.eval z)=v):zDT P ops R o a w (fun v' _=>v'=v):=by
 refine zAM hrefl hg ?_
 simp only[execOp,hop,hx];subst hv
 cases b<;>rfl
theorem zA9 {f:FuncId} {xs:Array Operand} {ts:Array TypeId} {vs:Array Value} {v:Value} (hg:Region.wanted o (yielded ops a.tmps)=true)
  (hop:o.op=Op.call {callee:=Callee.value (Operand.func f),args:=xs,argTypes:=ts}) (hf:∀ args w,(callFunc f args).run P w=.ok (.enter f args) w) (hx:xs.map a.eval=vs)
  (hc:Calls P f vs w fun e w'=>e=.returned v∧R w w'):zDT P ops R o a w (fun v' _=>v'=v):=by
 unfold zDT;rw[if_pos hg];unfold Oper.wp;have hr:(execOp a.eval o).run P w=.ok (.enter f vs) w:=by
  simp only[execOp,hop];simp[resolve,hx];rw[show a.eval (Operand.func f)=.func (.func f) #[] #[] from rfl]
  simp[Deferred.ofValue,invoke,hf]
 rw[hr];exact hc.mono fun e w' ⟨he,hb⟩=>by subst he;exact⟨v,rfl,hb,rfl⟩
end
theorem QCtx.d {l:List Oper} {Ss:Nat→Value→World→Prop} {R:World→World→Prop} {a0:Act} {w0:World} {i:Nat} {a:Act} {w:World} (h:QCtx l Ss R a0 w0 i a w) (j d:Nat) (h1:decide (j<i)=true:=by exact rfl) (h2:(l[j]?).bind (·.dst)=some d:=by exact rfl):Ss j (a.eval (.tmp d)) w:=h.dep j d h1 h2
theorem QCtx.f {l:List Oper} {Ss:Nat→Value→World→Prop} {R:World→World→Prop} {a0:Act} {w0:World} {i:Nat} {a:Act} {w:World} (h:QCtx l Ss R a0 w0 i a w) (t:Nat) (h1:l.any (fun o=>o.dst == some t)=false:=by exact rfl):a.eval (.tmp t)=a0.eval (.tmp t):=h.frame t h1
structure RCtxR (l:List Oper) (Ss:Nat→Value→World→Prop) (R:World→World→Prop) (a0:Act) (w0:World) (o:Oper) (a:Act) (w:World):Prop where
 rel:R w0 w
 frame:∀ t,l.any (fun o=>o.dst == some t)=false→a.eval (.tmp t)=a0.eval (.tmp t)
 dep:∀ j d,o.after.toList.any (fun e=>Region.binds .any e&&e.on == j)=true→(l[j]?).bind (·.dst)=some d→Ss j (a.eval (.tmp d)) w
theorem RCtxR.d {l:List Oper} {Ss:Nat→Value→World→Prop} {R:World→World→Prop} {a0:Act} {w0:World} {o:Oper} {a:Act} {w:World} (h:RCtxR l Ss R a0 w0 o a w) (j d:Nat) (h1:o.after.toList.any (fun e=>Region.binds .any e&&e.on == j)=true:=by exact rfl) (h2:(l[j]?).bind (·.dst)=some d:=by exact rfl):Ss j (a.eval (.tmp d)) w:=h.dep j d h1 h2
theorem RCtxR.f {l:List Oper} {Ss:Nat→Value→World→Prop} {R:World→World→Prop} {a0:Act} {w0:World} {o:Oper} {a:Act} {w:World} (h:RCtxR l Ss R a0 w0 o a w) (t:Nat) (h1:l.any (fun o=>o.dst == some t)=false:=by exact rfl):a.eval (.tmp t)=a0.eval (.tmp t):=h.frame t h1
end
end Go.Proofs.YtdoflhjhaciepaaGreat
